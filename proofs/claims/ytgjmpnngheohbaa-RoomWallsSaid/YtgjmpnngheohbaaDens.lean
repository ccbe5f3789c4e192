/- Each function's body, opened into a plain condition by program (vcgen.py); the kernel holds the one against the other. -/
import Derived.Test.YtgjmpnngheohbaaLaws
import Derived.Test.YtgjmpnngheohbaaProg
import Derived.KernelRfl
namespace Go.Proofs.Ytgjmpnngheohbaa
open Go.Vc
theorem mixed : Try.prog.follows .mixedOrders = true := by kernel_rfl
/-- taciturn/taciturnlaw12.RoomCopies -/
def F3_ann : Ann := (Ann.seq Ann.leaf (Ann.seq Ann.leaf (Ann.seq Ann.leaf (Ann.seq (Ann.seq Ann.leaf (Ann.cond (Ann.seq Ann.leaf Ann.leaf) Ann.leaf)) (Ann.seq Ann.leaf (Ann.seq Ann.leaf (Ann.seq Ann.leaf (Ann.seq Ann.leaf (Ann.seq Ann.leaf (Ann.seq (Ann.draw [0, 0, 3, 4, 0, 0, 0, 0, 192, 304, 512, 1032, 0, 0, 0, 24576, 36864, 65536, 133120, 524287] [0, 0, 3, 4, 0, 0, 0, 0, 192, 304, 512, 1032, 0, 0, 0, 24576, 36864, 65536, 133120, 262144] 20 (.take 0 (.take 1 (.take 2 (.take 3 (.take 4 (.take 5 (.take 6 (.take 7 (.take 8 (.take 9 (.take 10 (.take 11 (.take 12 (.take 13 (.take 14 (.take 15 (.take 16 (.take 17 (.take 18 (.take 19 .done))))))))))))))))))))) (Ann.seq Ann.leaf Ann.leaf)))))))))))
def F3_den (t0 : Value) (t1 : Value) (t2 : Value) (t3 : Value) (w : World) (R : Value → World → Prop) : Prop :=
  callD Try.prog 6 #[(Value.int IntKind.i64 100)] w fun t18 w1 =>
  V Try.prog (Instr.extract t18 0) w1 fun t19 w2 =>
  V Try.prog (Instr.extract t18 1) w2 fun t20 w3 =>
  callD Try.prog 7 #[t0, (Value.int IntKind.i64 64)] w3 fun t22 w4 =>
  callD Try.prog 8 #[] w4 fun t23 w5 =>
  V Try.prog (Op.unary UnOp.not t23) w5 fun t24 w6 =>
  gd t24 false (fun K => K t20 w6) w6 fun t26 w7 =>
  gd t24 false (fun K => V Try.prog (do eqGuard .neq 24 (Operand.tmp 26) (Operand.const (Value.int IntKind.i64 0)) t26 (Value.int IntKind.i64 0); binOp .neq 24 t26 (Value.int IntKind.i64 0)) w7 K) w7 fun t27 w8 =>
  pickD t24 (Value.bool true) t27 fun t28 =>
  gd t28 false (fun K => K t19 w8) w8 fun t30 w10 =>
  gd t28 false (fun K => V Try.prog (do eqGuard .eql 23 (Operand.tmp 30) (Operand.const (Value.pointer none)) t30 (Value.pointer none); binOp .eql 23 t30 (Value.pointer none)) w10 K) w10 fun t31 w11 =>
  pickD t28 (Value.bool true) t31 fun t32 =>
  gd t32 false (fun K => K t19 w11) w11 fun t34 w13 =>
  gd t32 false (fun K => callD Try.prog 9 #[t34] w13 K) w13 fun t35 w14 =>
  gd t32 false (fun K => V Try.prog (do eqGuard .eql 29 (Operand.tmp 35) (Operand.const (Value.pointer none)) t35 (Value.pointer none); binOp .eql 29 t35 (Value.pointer none)) w14 K) w14 fun t36 w15 =>
  pickD t32 (Value.bool true) t36 fun t37 =>
  gd t37 false (fun K => K t19 w15) w15 fun t39 w17 =>
  gd t37 false (fun K => K t22 w17) w17 fun t40 w18 =>
  gd t37 false (fun K => callD Try.prog 10 #[t39, t40, (Value.slice none 0 0)] w18 K) w18 fun t41 w19 =>
  gd t37 false (fun K => V Try.prog (Op.unary UnOp.not t41) w19 K) w19 fun t42 w20 =>
  pickD t37 (Value.bool true) t42 fun t43 =>
  ifD t43 (
  R (Value.bool false) w20) (
  V Try.prog (Builtin.len_ #[22] 3 #[t22]) w20 fun t46 w22 =>
  V Try.prog (binOp .add 3 t46 (Value.int IntKind.i64 1)) w22 fun t47 w23 =>
  callD Try.prog 11 #[t3, t47] w23 fun t48 w24 =>
  V Try.prog (Builtin.len_ #[22] 3 #[t22]) w24 fun t51 w25 =>
  V Try.prog (binOp .sub 3 t51 t48) w25 fun t53 w26 =>
  V Try.prog (binOp .add 3 t53 (Value.int IntKind.i64 1)) w26 fun t54 w27 =>
  callD Try.prog 11 #[t1, t54] w27 fun t55 w28 =>
  V Try.prog (Builtin.len_ #[22] 3 #[t22]) w28 fun t58 w29 =>
  V Try.prog (binOp .sub 3 t58 t48) w29 fun t60 w30 =>
  V Try.prog (binOp .add 3 t60 (Value.int IntKind.i64 1)) w30 fun t61 w31 =>
  callD Try.prog 11 #[t2, t61] w31 fun t62 w32 =>
  V Try.prog (convert 3 21 t55) w32 fun t66 w33 =>
  V Try.prog (convert 3 21 t62) w33 fun t68 w34 =>
  V Try.prog (convert 3 21 t48) w34 fun t70 w35 =>
  V Try.prog (Instr.buildSlice 35 5 #[(0, (Value.int IntKind.i32 1)), (1, t66), (2, (Value.int IntKind.i32 1)), (3, t68), (4, t70)]) w35 fun t71 w36 =>
  callD Try.prog 12 #[t19, (Value.pointer none), (Value.int IntKind.i64 0), (Value.int IntKind.i64 31), (Value.int IntKind.i64 0), (Value.int IntKind.i64 0), t71] w36 fun t72 w37 =>
  V Try.prog (Instr.extract t72 0) w37 fun t73 w38 =>
  V Try.prog (Instr.extract t72 1) w38 fun t74 w39 =>
  callD Try.prog 9 #[t19] w39 fun t77 w40 =>
  callD Try.prog 13 #[t77, (Value.int IntKind.i64 1)] w40 fun t78 w41 =>
  V Try.prog (Instr.extract t78 0) w41 fun t79 w42 =>
  V Try.prog (Instr.extract t78 1) w42 fun t80 w43 =>
  V Try.prog (Instr.alloc 37 true (.tuple #[])) w43 fun t14 w44 =>
  U Try.prog (Instr.storeAt 37 t14 t79) w44 fun _ w45 =>
  drawD w45 fun S10 w46 =>
  yieldS Try.prog S10 (Instr.sliceAt 22 t22 none (some t55) none) fun t83 =>
  yieldS Try.prog S10 (convert 22 9 t83) fun t84 =>
  yieldS Try.prog S10 (binOp .add 3 t62 t48) fun t89 =>
  yieldS Try.prog S10 (Instr.sliceAt 22 t22 (some t62) (some t89) none) fun t90 =>
  yieldS Try.prog S10 (convert 22 9 t90) fun t91 =>
  yieldS Try.prog S10 (binOp .add 9 t84 t91) fun t92 =>
  yieldS Try.prog S10 (binOp .add 3 t55 t48) fun t96 =>
  yieldS Try.prog S10 (Instr.sliceAt 22 t22 (some t96) none none) fun t97 =>
  yieldS Try.prog S10 (convert 22 9 t97) fun t98 =>
  yieldS Try.prog S10 (binOp .add 9 t92 t98) fun t99 =>
  V Try.prog (do eqGuard .eql 3 (Operand.tmp 100) (Operand.const (Value.int IntKind.i64 36864)) t74 (Value.int IntKind.i64 36864); binOp .eql 3 t74 (Value.int IntKind.i64 36864)) w46 fun t101 w47 =>
  gd t101 true (fun K => K t80 w47) w47 fun t103 w48 =>
  pickD t101 t103 (Value.bool false) fun t104 =>
  gd t104 true (fun K => V Try.prog (Instr.fieldAt 37 t14 4) w48 K) w48 fun t106 w50 =>
  gd t104 true (fun K => V Try.prog (Instr.loadAt 22 t106) w50 K) w50 fun t107 w51 =>
  gd t104 true (fun K => V Try.prog (convert 22 9 t107) w51 K) w51 fun t108 w52 =>
  gd t104 true (fun K => K t99 w52) w52 fun t109 w53 =>
  gd t104 true (fun K => V Try.prog (do eqGuard .eql 9 (Operand.tmp 108) (Operand.tmp 109) t108 t109; binOp .eql 9 t108 t109) w53 K) w53 fun t110 w54 =>
  pickD t104 t110 (Value.bool false) fun t111 =>
  R t111 w54)
theorem F3_eq (t0 : Value) (t1 : Value) (t2 : Value) (t3 : Value) (w : World) (R : Value → World → Prop) : F3_den t0 t1 t2 t3 w R = vc Try.prog F3_ann (Try.f3.body.getD .skip) (retE Try.prog Try.f3.results.toList R) (argEnv [t0, t1, t2, t3]) w := by kernel_rfl
theorem F3_wp {t0 : Value} {t1 : Value} {t2 : Value} {t3 : Value} {w : World} {R : Value → World → Prop} (h : F3_den t0 t1 t2 t3 w R) : callD Try.prog 3 #[t0, t1, t2, t3] w R :=
  callD.of_calls (fn := Try.f3) (c := Try.f3.body.getD .skip) Try.func3 (by kernel_rfl) (by kernel_rfl) (calls_of_vc (args := [t0, t1, t2, t3]) F3_ann mixed Try.func3 (by kernel_rfl) (by kernel_rfl) (F3_eq t0 t1 t2 t3 w R ▸ h))

/-- taciturn/taciturnlaw12.RoomSends -/
def F4_ann : Ann := (Ann.seq Ann.leaf (Ann.seq Ann.leaf (Ann.seq (Ann.seq Ann.leaf (Ann.cond (Ann.seq Ann.leaf Ann.leaf) Ann.leaf)) (Ann.seq Ann.leaf (Ann.seq Ann.leaf (Ann.seq (Ann.seq Ann.leaf (Ann.cond (Ann.seq Ann.leaf Ann.leaf) Ann.leaf)) (Ann.seq Ann.leaf (Ann.seq (Ann.seq Ann.leaf (Ann.block (Ann.loop [6, 12, 13, 14, 15, 16, 17, 18, 19, 20, 21, 22, 46, 47, 48, 49, 50, 51, 52, 53, 54, 55, 56, 57, 58, 59, 60, 61, 62, 63, 64, 65, 66, 67, 68, 69, 70, 71, 72, 73, 74, 75, 76, 77, 78, 79, 80, 81, 82, 83, 84, 85, 86, 87, 88, 89, 90, 91, 92, 93, 94, 95, 96, 97, 98, 99, 100, 101, 102, 103, 104, 105, 106, 107, 108, 109, 110, 111, 112, 113, 114, 115, 116, 117, 118, 119, 120, 121, 122, 123, 124, 125, 126, 127, 128, 129, 130, 131, 132, 133, 134, 135, 136, 137, 138, 139, 140, 141, 142, 143, 144, 145, 146, 147, 148, 149, 150, 151, 152, 153, 154, 155, 156, 157, 158, 159, 160, 161] [12] (Ann.seq (Ann.seq Ann.leaf (Ann.cond Ann.leaf Ann.leaf)) (Ann.seq (Ann.block (Ann.seq Ann.leaf (Ann.seq Ann.leaf (Ann.seq Ann.leaf (Ann.join [14, 15, 64, 65, 66, 67, 68, 69, 70, 71, 72, 73, 74, 75] [14, 15] (Ann.seq Ann.leaf (Ann.cond (Ann.seq Ann.leaf Ann.leaf) Ann.leaf)) (Ann.seq Ann.leaf (Ann.seq Ann.leaf (Ann.seq Ann.leaf (Ann.seq Ann.leaf (Ann.seq (Ann.seq Ann.leaf (Ann.cond (Ann.seq Ann.leaf Ann.leaf) Ann.leaf)) (Ann.join [128, 129, 130, 131, 132, 133, 134, 135, 136, 137, 138, 139, 140, 141, 142, 143, 144] [] (Ann.seq Ann.leaf (Ann.cond (Ann.draw [0, 1, 0, 4, 8, 16, 0, 0, 0, 0, 768, 1216, 2048, 4128, 16383, 32767] [0, 1, 0, 4, 8, 16, 0, 0, 0, 0, 768, 1216, 2048, 4128, 2, 24576] 15 (.take 0 (.take 1 (.take 2 (.take 3 (.take 4 (.take 5 (.take 6 (.take 7 (.take 8 (.take 9 (.take 10 (.take 11 (.take 12 (.take 13 (.take 14 (.last 15))))))))))))))))) Ann.leaf)) (Ann.seq Ann.leaf (Ann.seq Ann.leaf (Ann.cond (Ann.seq Ann.leaf Ann.leaf) Ann.leaf)))))))))))))) Ann.leaf))))) (Ann.seq Ann.leaf Ann.leaf)))))))))
def F4_den (t0 : Value) (t1 : Value) (t2 : Value) (w : World) (R : Value → World → Prop) : Prop :=
  callD Try.prog 6 #[(Value.int IntKind.i64 100)] w fun t24 w1 =>
  V Try.prog (Instr.extract t24 0) w1 fun t25 w2 =>
  V Try.prog (Instr.extract t24 1) w2 fun t26 w3 =>
  callD Try.prog 8 #[] w3 fun t27 w4 =>
  V Try.prog (Op.unary UnOp.not t27) w4 fun t28 w5 =>
  gd t28 false (fun K => K t26 w5) w5 fun t30 w6 =>
  gd t28 false (fun K => V Try.prog (do eqGuard .neq 24 (Operand.tmp 30) (Operand.const (Value.int IntKind.i64 0)) t30 (Value.int IntKind.i64 0); binOp .neq 24 t30 (Value.int IntKind.i64 0)) w6 K) w6 fun t31 w7 =>
  pickD t28 (Value.bool true) t31 fun t32 =>
  gd t32 false (fun K => K t25 w7) w7 fun t34 w9 =>
  gd t32 false (fun K => V Try.prog (do eqGuard .eql 23 (Operand.tmp 34) (Operand.const (Value.pointer none)) t34 (Value.pointer none); binOp .eql 23 t34 (Value.pointer none)) w9 K) w9 fun t35 w10 =>
  pickD t32 (Value.bool true) t35 fun t36 =>
  ifD t36 (
  R (Value.bool false) w10) (
  callD Try.prog 7 #[t0, (Value.int IntKind.i64 64)] w10 fun t38 w12 =>
  callD Try.prog 7 #[t1, (Value.int IntKind.i64 64)] w12 fun t40 w13 =>
  callD Try.prog 10 #[t25, t38, t40] w13 fun t44 w14 =>
  V Try.prog (Op.unary UnOp.not t44) w14 fun t45 w15 =>
  ifD t45 (
  R (Value.bool false) w15) (
  V Try.prog (Instr.alloc 42 true (.tuple #[])) w15 fun t11 w16 =>
  ∃ (I1 : NP 1) (μ1 : NF 1), I1 (Value.int IntKind.i64 0) w16 ∧
  ∀ (t12 : Value), ∀ w17 : World, I1 t12 w17 → ∀ _f : Env,
  V Try.prog (Builtin.len_ #[41] 3 #[t2]) w17 fun t48 w18 =>
  V Try.prog (binOp .lss 3 t12 t48) w18 fun t49 w19 =>
  gd t49 true (fun K => K t12 w19) w19 fun t51 w20 =>
  gd t49 true (fun K => V Try.prog (binOp .lss 3 t51 (Value.int IntKind.i64 30)) w20 K) w20 fun t52 w21 =>
  pickD t49 t52 (Value.bool false) fun t53 =>
  ifD t53 (
  V Try.prog (Instr.indexAt 41 t2 t12) w21 fun t58 w23 =>
  V Try.prog (Instr.fieldAt 44 t58 2) w23 fun t59 w24 =>
  V Try.prog (Instr.loadAt 3 t59) w24 fun t60 w25 =>
  callD Try.prog 11 #[t60, (Value.int IntKind.i64 2)] w25 fun t61 w26 =>
  V Try.prog (binOp .add 3 (Value.int IntKind.i64 1) t61) w26 fun t62 w27 =>
  ∃ J2 : NP 2,
  (V Try.prog (do eqGuard .eql 3 (Operand.tmp 64) (Operand.const (Value.int IntKind.i64 2)) t62 (Value.int IntKind.i64 2); binOp .eql 3 t62 (Value.int IntKind.i64 2)) w27 fun t65 w28 =>
  gd t65 true (fun K => K t2 w28) w28 fun t67 w29 =>
  gd t65 true (fun K => K t12 w29) w29 fun t68 w30 =>
  gd t65 true (fun K => V Try.prog (Instr.indexAt 41 t67 t68) w30 K) w30 fun t69 w31 =>
  gd t65 true (fun K => V Try.prog (Instr.fieldAt 44 t69 0) w31 K) w31 fun t70 w32 =>
  gd t65 true (fun K => V Try.prog (Instr.loadAt 3 t70) w32 K) w32 fun t71 w33 =>
  gd t65 true (fun K => V Try.prog (binOp .rem 3 t71 (Value.int IntKind.i64 2)) w33 K) w33 fun t72 w34 =>
  gd t65 true (fun K => V Try.prog (do eqGuard .eql 3 (Operand.tmp 72) (Operand.const (Value.int IntKind.i64 0)) t72 (Value.int IntKind.i64 0); binOp .eql 3 t72 (Value.int IntKind.i64 0)) w34 K) w34 fun t73 w35 =>
  pickD t65 t73 (Value.bool false) fun t74 =>
  ifD t74 (
  J2 t40 (Value.int IntKind.i32 2) w35) (
  J2 t38 (Value.int IntKind.i32 1) w35)) ∧
  ∀ (t14 : Value) (t15 : Value), ∀ w37 : World, J2 t14 t15 w37 → ∀ _f : Env,
  V Try.prog (Instr.indexAt 41 t2 t12) w37 fun t78 w38 =>
  V Try.prog (Instr.fieldAt 44 t78 3) w38 fun t79 w39 =>
  V Try.prog (Instr.loadAt 3 t79) w39 fun t80 w40 =>
  V Try.prog (Builtin.len_ #[22] 3 #[t14]) w40 fun t82 w41 =>
  V Try.prog (binOp .add 3 t82 (Value.int IntKind.i64 1)) w41 fun t83 w42 =>
  callD Try.prog 11 #[t80, t83] w42 fun t84 w43 =>
  V Try.prog (Instr.indexAt 41 t2 t12) w43 fun t87 w44 =>
  V Try.prog (Instr.fieldAt 44 t87 1) w44 fun t88 w45 =>
  V Try.prog (Instr.loadAt 3 t88) w45 fun t89 w46 =>
  V Try.prog (Builtin.len_ #[22] 3 #[t14]) w46 fun t91 w47 =>
  V Try.prog (binOp .sub 3 t91 t84) w47 fun t93 w48 =>
  V Try.prog (binOp .add 3 t93 (Value.int IntKind.i64 1)) w48 fun t94 w49 =>
  callD Try.prog 11 #[t89, t94] w49 fun t95 w50 =>
  V Try.prog (convert 3 21 t84) w50 fun t101 w51 =>
  V Try.prog (convert 3 21 t95) w51 fun t103 w52 =>
  V Try.prog (Instr.buildSlice 35 3 #[(0, t15), (1, t101), (2, t103)]) w52 fun t104 w53 =>
  callD Try.prog 12 #[t25, (Value.pointer none), (Value.int IntKind.i64 0), (Value.int IntKind.i64 36), t62, (Value.int IntKind.i64 0), t104] w53 fun t105 w54 =>
  V Try.prog (Instr.extract t105 0) w54 fun t106 w55 =>
  V Try.prog (Instr.extract t105 1) w55 fun t107 w56 =>
  V Try.prog (binOp .sub 3 t62 (Value.int IntKind.i64 1)) w56 fun t109 w57 =>
  V Try.prog (Instr.indexAt 42 t11 t109) w57 fun t110 w58 =>
  V Try.prog (Instr.loadAt 9 t110) w58 fun t111 w59 =>
  V Try.prog (Builtin.len_ #[9] 3 #[t111]) w59 fun t112 w60 =>
  V Try.prog (binOp .add 3 t112 t95) w60 fun t114 w61 =>
  V Try.prog (binOp .gtr 3 t114 (Value.int IntKind.i64 128)) w61 fun t115 w62 =>
  V Try.prog (do eqGuard .eql 3 (Operand.tmp 116) (Operand.const (Value.int IntKind.i64 28425)) t107 (Value.int IntKind.i64 28425); binOp .eql 3 t107 (Value.int IntKind.i64 28425)) w62 fun t117 w63 =>
  V Try.prog (do eqGuard .neq 4 (Operand.tmp 117) (Operand.tmp 118) t117 t115; binOp .neq 4 t117 t115) w63 fun t119 w64 =>
  gd t119 false (fun K => K t115 w64) w64 fun t121 w65 =>
  gd t119 false (fun K => V Try.prog (Op.unary UnOp.not t121) w65 K) w65 fun t122 w66 =>
  gd t119 false (fun K => K t122 w66) w66 fun t123 w67 =>
  gd t123 true (fun K => K t107 w67) w67 fun t124 w68 =>
  gd t123 true (fun K => V Try.prog (do eqGuard .neq 3 (Operand.tmp 124) (Operand.const (Value.int IntKind.i64 36864)) t124 (Value.int IntKind.i64 36864); binOp .neq 3 t124 (Value.int IntKind.i64 36864)) w68 K) w68 fun t125 w69 =>
  gd t119 false (fun K => pickD t123 t125 (Value.bool false) fun v => K v w69) w69 fun t126 w70 =>
  pickD t119 (Value.bool true) t126 fun t127 =>
  ifD t127 (
  R (Value.bool false) w70) (
  ∃ J3 : NP 0,
  (V Try.prog (Op.unary UnOp.not t115) w70 fun t129 w72 =>
  ifD t129 (
  drawD w72 fun S25 w73 =>
  yieldS Try.prog S25 (binOp .sub 3 t62 (Value.int IntKind.i64 1)) fun t131 =>
  yieldS Try.prog S25 (binOp .sub 3 t62 (Value.int IntKind.i64 1)) fun t133 =>
  yieldS Try.prog S25 (Instr.indexAt 42 t11 t133) fun t134 =>
  yieldS Try.prog S25 (Instr.loadAt 9 t134) fun t135 =>
  yieldS Try.prog S25 (binOp .add 3 t84 t95) fun t140 =>
  yieldS Try.prog S25 (Instr.sliceAt 22 t14 (some t84) (some t140) none) fun t141 =>
  yieldS Try.prog S25 (convert 22 9 t141) fun t142 =>
  yieldS Try.prog S25 (binOp .add 9 t135 t142) fun t143 =>
  yieldS Try.prog S25 (Instr.indexAt 42 t11 t131) fun t144 =>
  U Try.prog (Instr.storeAt 9 t144 t143) w73 fun _ w74 =>
  J3 w74) (
  J3 w72)) ∧
  ∀ w75 : World, J3 w75 → ∀ _f : Env,
  callD Try.prog 14 #[t25] w75 fun t147 w76 =>
  V Try.prog (Instr.extract t147 0) w76 fun t148 w77 =>
  V Try.prog (Instr.extract t147 1) w77 fun t149 w78 =>
  V Try.prog (convert 22 9 t148) w78 fun t151 w79 =>
  V Try.prog (Instr.indexAt 42 t11 (Value.int IntKind.i64 0)) w79 fun t152 w80 =>
  V Try.prog (Instr.loadAt 9 t152) w80 fun t153 w81 =>
  V Try.prog (do eqGuard .neq 9 (Operand.tmp 151) (Operand.tmp 153) t151 t153; binOp .neq 9 t151 t153) w81 fun t154 w82 =>
  gd t154 false (fun K => K t149 w82) w82 fun t156 w83 =>
  gd t154 false (fun K => V Try.prog (convert 22 9 t156) w83 K) w83 fun t157 w84 =>
  gd t154 false (fun K => V Try.prog (Instr.indexAt 42 t11 (Value.int IntKind.i64 1)) w84 K) w84 fun t158 w85 =>
  gd t154 false (fun K => V Try.prog (Instr.loadAt 9 t158) w85 K) w85 fun t159 w86 =>
  gd t154 false (fun K => V Try.prog (do eqGuard .neq 9 (Operand.tmp 157) (Operand.tmp 159) t157 t159; binOp .neq 9 t157 t159) w86 K) w86 fun t160 w87 =>
  pickD t154 (Value.bool true) t160 fun t161 =>
  ifD t161 (
  R (Value.bool false) w87) (
  V Try.prog (binOp .add 3 t12 (Value.int IntKind.i64 1)) w87 fun t55 w89 =>
  I1 t55 w89 ∧ μ1 t55 w89 < μ1 t12 w17))) (
  callD Try.prog 10 #[t25, (Value.slice none 0 0), (Value.slice none 0 0)] w21 fun t163 w90 =>
  gd t163 true (fun K => K t38 w90) w90 fun t165 w91 =>
  gd t163 true (fun K => V Try.prog (Builtin.len_ #[22] 3 #[t165]) w91 K) w91 fun t166 w92 =>
  gd t163 true (fun K => V Try.prog (binOp .leq 3 t166 (Value.int IntKind.i64 64)) w92 K) w92 fun t167 w93 =>
  pickD t163 t167 (Value.bool false) fun t168 =>
  R t168 w93)))
theorem F4_eq (t0 : Value) (t1 : Value) (t2 : Value) (w : World) (R : Value → World → Prop) : F4_den t0 t1 t2 w R = vc Try.prog F4_ann (Try.f4.body.getD .skip) (retE Try.prog Try.f4.results.toList R) (argEnv [t0, t1, t2]) w := by kernel_rfl
theorem F4_wp {t0 : Value} {t1 : Value} {t2 : Value} {w : World} {R : Value → World → Prop} (h : F4_den t0 t1 t2 w R) : callD Try.prog 4 #[t0, t1, t2] w R :=
  callD.of_calls (fn := Try.f4) (c := Try.f4.body.getD .skip) Try.func4 (by kernel_rfl) (by kernel_rfl) (calls_of_vc (args := [t0, t1, t2]) F4_ann mixed Try.func4 (by kernel_rfl) (by kernel_rfl) (F4_eq t0 t1 t2 w R ▸ h))

/-- taciturn/taciturnlaw12.RoomWalls -/
def F5_ann : Ann := (Ann.seq Ann.leaf (Ann.seq Ann.leaf (Ann.seq (Ann.seq Ann.leaf (Ann.cond (Ann.seq Ann.leaf Ann.leaf) Ann.leaf)) (Ann.seq (Ann.seq Ann.leaf (Ann.block (Ann.loop [2, 5, 6, 7, 8, 9, 10, 11, 12, 13, 14, 15, 16, 17, 18, 19, 39, 40, 41, 42, 43, 44, 45, 46, 47, 48, 49, 50, 51, 52, 53, 54, 55, 56, 57, 58, 59, 60, 61, 62, 63, 64, 65, 66, 67, 68, 69, 70, 71, 72, 73, 74, 75, 76, 77, 78, 79, 80, 81, 82, 83, 84, 85, 86, 87, 88, 89, 90, 91, 92, 93, 94, 95, 96, 97, 98, 99, 100, 101, 102, 103, 104, 105, 106, 107, 108, 109, 110, 111, 112, 113, 114, 115, 116, 117, 118, 119, 120, 121, 122, 123, 124, 125, 126, 127, 128, 129, 130, 131, 132, 133, 134, 135, 136, 137, 138, 139, 140, 141, 142, 143, 144, 145, 146, 147, 148, 149, 150, 151, 152, 153, 154, 155, 156, 157, 158] [5] (Ann.seq (Ann.seq Ann.leaf (Ann.cond Ann.leaf Ann.leaf)) (Ann.seq (Ann.block (Ann.seq Ann.leaf (Ann.seq Ann.leaf (Ann.seq Ann.leaf (Ann.seq Ann.leaf (Ann.seq (Ann.seq Ann.leaf (Ann.block (Ann.loop [9, 10, 11, 61, 62, 63, 64, 65, 66, 67, 68, 69, 70, 71, 72, 73, 74, 75, 76, 77, 78, 79, 80, 81, 82, 83] [9, 10] (Ann.seq (Ann.seq Ann.leaf (Ann.cond Ann.leaf Ann.leaf)) (Ann.seq (Ann.block (Ann.seq Ann.leaf (Ann.join [11, 67, 68, 69, 70, 71, 72, 73, 74, 75, 76] [11] (Ann.seq Ann.leaf (Ann.cond Ann.leaf Ann.leaf)) Ann.leaf))) Ann.leaf))))) (Ann.seq Ann.leaf (Ann.seq Ann.leaf (Ann.seq (Ann.seq Ann.leaf (Ann.cond (Ann.seq Ann.leaf Ann.leaf) Ann.leaf)) (Ann.seq (Ann.seq Ann.leaf (Ann.block (Ann.loop [2, 15, 16, 17, 18, 19, 102, 103, 104, 105, 106, 107, 108, 109, 110, 111, 112, 113, 114, 115, 116, 117, 118, 119, 120, 121, 122, 123, 124, 125, 126, 127, 128, 129, 130, 131, 132, 133, 134, 135, 136, 137, 138, 139, 140, 141, 142, 143, 144, 145, 146, 147, 148] [15] (Ann.seq (Ann.seq Ann.leaf (Ann.cond Ann.leaf Ann.leaf)) (Ann.seq (Ann.block (Ann.seq Ann.leaf (Ann.seq Ann.leaf (Ann.seq Ann.leaf (Ann.cond (Ann.seq Ann.leaf Ann.leaf) Ann.leaf))))) Ann.leaf))))) (Ann.seq Ann.leaf (Ann.cond (Ann.seq Ann.leaf Ann.leaf) Ann.leaf)))))))))))) Ann.leaf))))) (Ann.seq Ann.leaf Ann.leaf)))))
def F5_den (t0 : Value) (w : World) (R : Value → World → Prop) : Prop :=
  callD Try.prog 6 #[(Value.int IntKind.i64 1000)] w fun t21 w1 =>
  V Try.prog (Instr.extract t21 0) w1 fun t22 w2 =>
  V Try.prog (Instr.extract t21 1) w2 fun t23 w3 =>
  callD Try.prog 8 #[] w3 fun t24 w4 =>
  V Try.prog (Op.unary UnOp.not t24) w4 fun t25 w5 =>
  gd t25 false (fun K => K t23 w5) w5 fun t27 w6 =>
  gd t25 false (fun K => V Try.prog (do eqGuard .neq 24 (Operand.tmp 27) (Operand.const (Value.int IntKind.i64 0)) t27 (Value.int IntKind.i64 0); binOp .neq 24 t27 (Value.int IntKind.i64 0)) w6 K) w6 fun t28 w7 =>
  pickD t25 (Value.bool true) t28 fun t29 =>
  gd t29 false (fun K => K t22 w7) w7 fun t31 w9 =>
  gd t29 false (fun K => V Try.prog (do eqGuard .eql 23 (Operand.tmp 31) (Operand.const (Value.pointer none)) t31 (Value.pointer none); binOp .eql 23 t31 (Value.pointer none)) w9 K) w9 fun t32 w10 =>
  pickD t29 (Value.bool true) t32 fun t33 =>
  gd t33 false (fun K => K t22 w10) w10 fun t35 w12 =>
  gd t33 false (fun K => callD Try.prog 9 #[t35] w12 K) w12 fun t36 w13 =>
  gd t33 false (fun K => V Try.prog (do eqGuard .eql 29 (Operand.tmp 36) (Operand.const (Value.pointer none)) t36 (Value.pointer none); binOp .eql 29 t36 (Value.pointer none)) w13 K) w13 fun t37 w14 =>
  pickD t33 (Value.bool true) t37 fun t38 =>
  ifD t38 (
  R (Value.bool false) w14) (
  ∃ (I1 : NP 1) (μ1 : NF 1), I1 (Value.int IntKind.i64 0) w14 ∧
  ∀ (t5 : Value), ∀ w16 : World, I1 t5 w16 → ∀ _f : Env,
  V Try.prog (Builtin.len_ #[41] 3 #[t0]) w16 fun t41 w17 =>
  V Try.prog (binOp .lss 3 t5 t41) w17 fun t42 w18 =>
  gd t42 true (fun K => K t5 w18) w18 fun t44 w19 =>
  gd t42 true (fun K => V Try.prog (binOp .lss 3 t44 (Value.int IntKind.i64 40)) w19 K) w19 fun t45 w20 =>
  pickD t42 t45 (Value.bool false) fun t46 =>
  ifD t46 (
  V Try.prog (Instr.indexAt 41 t0 t5) w20 fun t51 w22 =>
  V Try.prog (Instr.loadAt 44 t51) w22 fun t52 w23 =>
  V Try.prog (Instr.alloc 44 true (.tuple #[])) w23 fun t6 w24 =>
  U Try.prog (Instr.storeAt 44 t6 t52) w24 fun _ w25 =>
  V Try.prog (Instr.fieldAt 44 t6 1) w25 fun t53 w26 =>
  V Try.prog (Instr.loadAt 3 t53) w26 fun t54 w27 =>
  callD Try.prog 11 #[t54, (Value.int IntKind.i64 3)] w27 fun t55 w28 =>
  V Try.prog (Instr.build 48 #[(0, (Value.int IntKind.i64 27)), (1, (Value.int IntKind.i64 27)), (2, (Value.int IntKind.i64 30)), (3, (Value.int IntKind.i64 30)), (4, (Value.int IntKind.i64 31)), (5, (Value.int IntKind.i64 31)), (6, (Value.int IntKind.i64 29)), (7, (Value.int IntKind.i64 36)), (8, (Value.int IntKind.i64 32)), (9, (Value.int IntKind.i64 28))]) w28 fun t56 w29 =>
  V Try.prog (Instr.fieldAt 44 t6 0) w29 fun t57 w30 =>
  V Try.prog (Instr.loadAt 3 t57) w30 fun t58 w31 =>
  callD Try.prog 11 #[t58, (Value.int IntKind.i64 10)] w31 fun t59 w32 =>
  V Try.prog (Instr.index 48 t56 t59) w32 fun t60 w33 =>
  ∃ (I2 : NP 2) (μ2 : NF 2), I2 (Value.slice none 0 0) (Value.int IntKind.i64 0) w33 ∧
  ∀ (t9 : Value) (t10 : Value), ∀ w34 : World, I2 t9 t10 w34 → ∀ _f : Env,
  callD Try.prog 15 #[t60] w34 fun t63 w35 =>
  V Try.prog (binOp .lss 3 t10 t63) w35 fun t64 w36 =>
  ifD t64 (
  ∃ J3 : NP 1,
  (V Try.prog (Instr.fieldAt 44 t6 4) w36 fun t68 w37 =>
  V Try.prog (Instr.loadAt 35 t68) w37 fun t69 w38 =>
  V Try.prog (Builtin.len_ #[35] 3 #[t69]) w38 fun t70 w39 =>
  V Try.prog (binOp .lss 3 t10 t70) w39 fun t71 w40 =>
  ifD t71 (
  V Try.prog (Instr.fieldAt 44 t6 4) w40 fun t72 w41 =>
  V Try.prog (Instr.loadAt 35 t72) w41 fun t73 w42 =>
  V Try.prog (Instr.indexAt 35 t73 t10) w42 fun t75 w43 =>
  V Try.prog (Instr.loadAt 21 t75) w43 fun t76 w44 =>
  J3 t76 w44) (
  J3 (Value.int IntKind.i32 0) w40)) ∧
  ∀ (t11 : Value), ∀ w45 : World, J3 t11 w45 → ∀ _f : Env,
  V Try.prog (convert 21 3 t11) w45 fun t79 w46 =>
  callD Try.prog 11 #[t79, (Value.int IntKind.i64 7)] w46 fun t80 w47 =>
  V Try.prog (convert 3 21 t80) w47 fun t81 w48 =>
  V Try.prog (Instr.buildSlice 35 1 #[(0, t81)]) w48 fun t82 w49 =>
  V Try.prog (Builtin.append_ #[35, 35] 35 #[t9, t82]) w49 fun t83 w50 =>
  V Try.prog (binOp .add 3 t10 (Value.int IntKind.i64 1)) w50 fun t66 w51 =>
  I2 t83 t66 w51 ∧ μ2 t83 t66 w51 < μ2 t9 t10 w34) (
  callD Try.prog 9 #[t22] w36 fun t85 w52 =>
  callD Try.prog 16 #[t85] w52 fun t86 w53 =>
  V Try.prog (Instr.build 50 #[(0, (Value.int IntKind.i64 0)), (1, (Value.int IntKind.i64 0)), (2, (Value.int IntKind.i64 4)), (3, (Value.int IntKind.i64 1))]) w53 fun t91 w54 =>
  V Try.prog (Instr.fieldAt 44 t6 3) w54 fun t92 w55 =>
  V Try.prog (Instr.loadAt 3 t92) w55 fun t93 w56 =>
  callD Try.prog 11 #[t93, (Value.int IntKind.i64 4)] w56 fun t94 w57 =>
  V Try.prog (Instr.index 50 t91 t94) w57 fun t95 w58 =>
  callD Try.prog 12 #[t22, (Value.pointer none), t55, t60, (Value.int IntKind.i64 3), t95, t9] w58 fun t97 w59 =>
  V Try.prog (Instr.extract t97 0) w59 fun t98 w60 =>
  V Try.prog (Instr.extract t97 1) w60 fun t99 w61 =>
  V Try.prog (do eqGuard .eql 29 (Operand.tmp 100) (Operand.const (Value.pointer none)) t86 (Value.pointer none); binOp .eql 29 t86 (Value.pointer none)) w61 fun t101 w62 =>
  ifD t101 (
  R (Value.bool false) w62) (
  ∃ (I4 : NP 1) (μ4 : NF 1), I4 (Value.int IntKind.i64 1) w62 ∧
  ∀ (t15 : Value), ∀ w63 : World, I4 t15 w63 → ∀ _f : Env,
  callD Try.prog 17 #[t86] w63 fun t104 w64 =>
  V Try.prog (binOp .leq 3 t15 t104) w64 fun t105 w65 =>
  ifD t105 (
  callD Try.prog 13 #[t86, t15] w65 fun t111 w66 =>
  V Try.prog (Instr.extract t111 0) w66 fun t112 w67 =>
  V Try.prog (Instr.extract t111 1) w67 fun t113 w68 =>
  V Try.prog (Instr.alloc 37 true (.tuple #[])) w68 fun t16 w69 =>
  U Try.prog (Instr.storeAt 37 t16 t112) w69 fun _ w70 =>
  callD Try.prog 9 #[t22] w70 fun t116 w71 =>
  callD Try.prog 13 #[t116, t15] w71 fun t118 w72 =>
  V Try.prog (Instr.extract t118 0) w72 fun t119 w73 =>
  V Try.prog (Instr.extract t118 1) w73 fun t120 w74 =>
  V Try.prog (Instr.alloc 37 true (.tuple #[])) w74 fun t18 w75 =>
  U Try.prog (Instr.storeAt 37 t18 t119) w75 fun _ w76 =>
  V Try.prog (Op.unary UnOp.not t120) w76 fun t122 w77 =>
  gd t122 false (fun K => V Try.prog (Instr.loadAt 37 t16) w77 K) w77 fun t124 w78 =>
  gd t122 false (fun K => V Try.prog (Instr.loadAt 37 t18) w78 K) w78 fun t125 w79 =>
  gd t122 false (fun K => callD Try.prog 18 #[t124, t125] w79 K) w79 fun t126 w80 =>
  gd t122 false (fun K => V Try.prog (Op.unary UnOp.not t126) w80 K) w80 fun t127 w81 =>
  gd t122 false (fun K => K t127 w81) w81 fun t128 w82 =>
  gd t128 true (fun K => K t99 w82) w82 fun t129 w83 =>
  gd t128 true (fun K => V Try.prog (do eqGuard .neq 3 (Operand.tmp 129) (Operand.const (Value.int IntKind.i64 36864)) t129 (Value.int IntKind.i64 36864); binOp .neq 3 t129 (Value.int IntKind.i64 36864)) w83 K) w83 fun t130 w84 =>
  gd t128 true (fun K => K t130 w84) w84 fun t131 w85 =>
  gd t131 false (fun K => V Try.prog (Instr.fieldAt 37 t16 0) w85 K) w85 fun t132 w86 =>
  gd t131 false (fun K => V Try.prog (Instr.loadAt 3 t132) w86 K) w86 fun t133 w87 =>
  gd t131 false (fun K => V Try.prog (do eqGuard .neq 3 (Operand.tmp 133) (Operand.const (Value.int IntKind.i64 (-1))) t133 (Value.int IntKind.i64 (-1)); binOp .neq 3 t133 (Value.int IntKind.i64 (-1))) w87 K) w87 fun t134 w88 =>
  gd t131 false (fun K => K t134 w88) w88 fun t135 w89 =>
  gd t135 true (fun K => V Try.prog (Instr.fieldAt 37 t16 0) w89 K) w89 fun t136 w90 =>
  gd t135 true (fun K => V Try.prog (Instr.loadAt 3 t136) w90 K) w90 fun t137 w91 =>
  gd t135 true (fun K => K t55 w91) w91 fun t138 w92 =>
  gd t135 true (fun K => V Try.prog (do eqGuard .neq 3 (Operand.tmp 137) (Operand.tmp 138) t137 t138; binOp .neq 3 t137 t138) w92 K) w92 fun t139 w93 =>
  gd t131 false (fun K => pickD t135 t139 (Value.bool false) fun v => K v w93) w93 fun t140 w94 =>
  gd t131 false (fun K => K t140 w94) w94 fun t141 w95 =>
  gd t141 true (fun K => V Try.prog (Instr.fieldAt 37 t16 3) w95 K) w95 fun t142 w96 =>
  gd t141 true (fun K => V Try.prog (Instr.loadAt 4 t142) w96 K) w96 fun t143 w97 =>
  gd t141 true (fun K => V Try.prog (Op.unary UnOp.not t143) w97 K) w97 fun t144 w98 =>
  gd t131 false (fun K => pickD t141 t144 (Value.bool false) fun v => K v w98) w98 fun t145 w99 =>
  gd t128 true (fun K => pickD t131 (Value.bool true) t145 fun v => K v w99) w99 fun t146 w100 =>
  gd t122 false (fun K => pickD t128 t146 (Value.bool false) fun v => K v w100) w100 fun t147 w101 =>
  pickD t122 (Value.bool true) t147 fun t148 =>
  ifD t148 (
  R (Value.bool false) w101) (
  V Try.prog (binOp .add 3 t15 (Value.int IntKind.i64 1)) w101 fun t107 w103 =>
  I4 t107 w103 ∧ μ4 t107 w103 < μ4 t15 w63)) (
  V Try.prog (do eqGuard .neq 3 (Operand.tmp 149) (Operand.const (Value.int IntKind.i64 36864)) t99 (Value.int IntKind.i64 36864); binOp .neq 3 t99 (Value.int IntKind.i64 36864)) w65 fun t150 w104 =>
  gd t150 true (fun K => K t22 w104) w104 fun t152 w105 =>
  gd t150 true (fun K => callD Try.prog 9 #[t152] w105 K) w105 fun t153 w106 =>
  gd t150 true (fun K => callD Try.prog 17 #[t153] w106 K) w106 fun t154 w107 =>
  gd t150 true (fun K => K t86 w107) w107 fun t155 w108 =>
  gd t150 true (fun K => callD Try.prog 17 #[t155] w108 K) w108 fun t156 w109 =>
  gd t150 true (fun K => V Try.prog (do eqGuard .neq 3 (Operand.tmp 154) (Operand.tmp 156) t154 t156; binOp .neq 3 t154 t156) w109 K) w109 fun t157 w110 =>
  pickD t150 t157 (Value.bool false) fun t158 =>
  ifD t158 (
  R (Value.bool false) w110) (
  V Try.prog (binOp .add 3 t5 (Value.int IntKind.i64 1)) w110 fun t48 w112 =>
  I1 t48 w112 ∧ μ1 t48 w112 < μ1 t5 w16))))) (
  R (Value.bool true) w20))
theorem F5_eq (t0 : Value) (w : World) (R : Value → World → Prop) : F5_den t0 w R = vc Try.prog F5_ann (Try.f5.body.getD .skip) (retE Try.prog Try.f5.results.toList R) (argEnv [t0]) w := by kernel_rfl
theorem F5_wp {t0 : Value} {w : World} {R : Value → World → Prop} (h : F5_den t0 w R) : callD Try.prog 5 #[t0] w R :=
  callD.of_calls (fn := Try.f5) (c := Try.f5.body.getD .skip) Try.func5 (by kernel_rfl) (by kernel_rfl) (calls_of_vc (args := [t0]) F5_ann mixed Try.func5 (by kernel_rfl) (by kernel_rfl) (F5_eq t0 w R ▸ h))

/-- taciturn/room.New -/
def F6_ann : Ann := (Ann.seq Ann.leaf (Ann.seq Ann.leaf (Ann.seq (Ann.seq Ann.leaf (Ann.cond (Ann.seq Ann.leaf Ann.leaf) Ann.leaf)) (Ann.seq Ann.leaf Ann.leaf))))
def F6_den (t0 : Value) (w : World) (R : Value → World → Prop) : Prop :=
  callD Try.prog 19 #[t0] w fun t8 w1 =>
  V Try.prog (Instr.extract t8 0) w1 fun t9 w2 =>
  V Try.prog (Instr.extract t8 1) w2 fun t10 w3 =>
  V Try.prog (do eqGuard .neq 24 (Operand.tmp 11) (Operand.const (Value.int IntKind.i64 0)) t10 (Value.int IntKind.i64 0); binOp .neq 24 t10 (Value.int IntKind.i64 0)) w3 fun t12 w4 =>
  ifD t12 (
  R (.tuple #[(Value.pointer none), t10]) w4) (
  V Try.prog (Instr.build 59 #[(0, t9)]) w4 fun t15 w5 =>
  V Try.prog (Instr.box 59 t15) w5 fun t16 w6 =>
  R (.tuple #[t16, (Value.int IntKind.i64 0)]) w6)
theorem F6_eq (t0 : Value) (w : World) (R : Value → World → Prop) : F6_den t0 w R = vc Try.prog F6_ann (Try.f6.body.getD .skip) (retE Try.prog Try.f6.results.toList R) (argEnv [t0]) w := by kernel_rfl
theorem F6_wp {t0 : Value} {w : World} {R : Value → World → Prop} (h : F6_den t0 w R) : callD Try.prog 6 #[t0] w R :=
  callD.of_calls (fn := Try.f6) (c := Try.f6.body.getD .skip) Try.func6 (by kernel_rfl) (by kernel_rfl) (calls_of_vc (args := [t0]) F6_ann mixed Try.func6 (by kernel_rfl) (by kernel_rfl) (F6_eq t0 w R ▸ h))

/-- taciturn/taciturnhand.Few -/
def F7_ann : Ann := (Ann.seq Ann.leaf (Ann.seq Ann.leaf Ann.leaf))
def F7_den (t0 : Value) (t1 : Value) (w : World) (R : Value → World → Prop) : Prop :=
  V Try.prog (Instr.buildSlice 22 0 #[]) w fun t5 w1 =>
  V Try.prog (Builtin.len_ #[22] 3 #[t0]) w1 fun t8 w2 =>
  V Try.prog (Builtin.min_ #[3, 3] 3 #[t8, t1]) w2 fun t10 w3 =>
  V Try.prog (Instr.sliceAt 22 t0 none (some t10) none) w3 fun t11 w4 =>
  V Try.prog (Builtin.append_ #[22, 22] 22 #[t5, t11]) w4 fun t12 w5 =>
  R t12 w5
theorem F7_eq (t0 : Value) (t1 : Value) (w : World) (R : Value → World → Prop) : F7_den t0 t1 w R = vc Try.prog F7_ann (Try.f7.body.getD .skip) (retE Try.prog Try.f7.results.toList R) (argEnv [t0, t1]) w := by kernel_rfl
theorem F7_wp {t0 : Value} {t1 : Value} {w : World} {R : Value → World → Prop} (h : F7_den t0 t1 w R) : callD Try.prog 7 #[t0, t1] w R :=
  callD.of_calls (fn := Try.f7) (c := Try.f7.body.getD .skip) Try.func7 (by kernel_rfl) (by kernel_rfl) (calls_of_vc (args := [t0, t1]) F7_ann mixed Try.func7 (by kernel_rfl) (by kernel_rfl) (F7_eq t0 t1 w R ▸ h))

/-- taciturn/taciturnlaw12.known -/
def F8_ann : Ann := (Ann.seq Ann.leaf (Ann.seq Ann.leaf (Ann.seq (Ann.seq Ann.leaf (Ann.cond (Ann.seq Ann.leaf Ann.leaf) Ann.leaf)) (Ann.seq Ann.leaf (Ann.seq Ann.leaf (Ann.seq Ann.leaf Ann.leaf))))))
def F8_den (w : World) (R : Value → World → Prop) : Prop :=
  callD Try.prog 6 #[(Value.int IntKind.i64 100)] w fun t8 w1 =>
  V Try.prog (Instr.extract t8 0) w1 fun t9 w2 =>
  V Try.prog (Instr.extract t8 1) w2 fun t10 w3 =>
  V Try.prog (do eqGuard .neq 24 (Operand.tmp 11) (Operand.const (Value.int IntKind.i64 0)) t10 (Value.int IntKind.i64 0); binOp .neq 24 t10 (Value.int IntKind.i64 0)) w3 fun t12 w4 =>
  gd t12 false (fun K => K t9 w4) w4 fun t14 w5 =>
  gd t12 false (fun K => V Try.prog (do eqGuard .eql 23 (Operand.tmp 14) (Operand.const (Value.pointer none)) t14 (Value.pointer none); binOp .eql 23 t14 (Value.pointer none)) w5 K) w5 fun t15 w6 =>
  pickD t12 (Value.bool true) t15 fun t16 =>
  ifD t16 (
  R (Value.bool false) w6) (
  V Try.prog (Instr.buildSlice 35 2 #[(0, (Value.int IntKind.i32 7)), (1, (Value.int IntKind.i32 0))]) w6 fun t19 w8 =>
  callD Try.prog 12 #[t9, (Value.pointer none), (Value.int IntKind.i64 0), (Value.int IntKind.i64 17), (Value.int IntKind.i64 0), (Value.int IntKind.i64 0), t19] w8 fun t20 w9 =>
  V Try.prog (Instr.extract t20 0) w9 fun t21 w10 =>
  V Try.prog (Instr.extract t20 1) w10 fun t22 w11 =>
  V Try.prog (Instr.buildSlice 35 2 #[(0, (Value.int IntKind.i32 7)), (1, (Value.int IntKind.i32 2))]) w11 fun t25 w12 =>
  callD Try.prog 12 #[t9, (Value.pointer none), (Value.int IntKind.i64 0), (Value.int IntKind.i64 17), (Value.int IntKind.i64 0), (Value.int IntKind.i64 0), t25] w12 fun t26 w13 =>
  V Try.prog (Instr.extract t26 0) w13 fun t27 w14 =>
  V Try.prog (Instr.extract t26 1) w14 fun t28 w15 =>
  V Try.prog (do eqGuard .eql 21 (Operand.tmp 29) (Operand.const (Value.int IntKind.i32 0)) t21 (Value.int IntKind.i32 0); binOp .eql 21 t21 (Value.int IntKind.i32 0)) w15 fun t30 w16 =>
  gd t30 true (fun K => K t22 w16) w16 fun t32 w17 =>
  gd t30 true (fun K => V Try.prog (do eqGuard .eql 3 (Operand.tmp 32) (Operand.const (Value.int IntKind.i64 28419)) t32 (Value.int IntKind.i64 28419); binOp .eql 3 t32 (Value.int IntKind.i64 28419)) w17 K) w17 fun t33 w18 =>
  pickD t30 t33 (Value.bool false) fun t34 =>
  gd t34 true (fun K => K t27 w18) w18 fun t36 w20 =>
  gd t34 true (fun K => V Try.prog (do eqGuard .eql 21 (Operand.tmp 36) (Operand.const (Value.int IntKind.i32 3)) t36 (Value.int IntKind.i32 3); binOp .eql 21 t36 (Value.int IntKind.i32 3)) w20 K) w20 fun t37 w21 =>
  pickD t34 t37 (Value.bool false) fun t38 =>
  gd t38 true (fun K => K t28 w21) w21 fun t40 w23 =>
  gd t38 true (fun K => V Try.prog (do eqGuard .eql 3 (Operand.tmp 40) (Operand.const (Value.int IntKind.i64 36864)) t40 (Value.int IntKind.i64 36864); binOp .eql 3 t40 (Value.int IntKind.i64 36864)) w23 K) w23 fun t41 w24 =>
  pickD t38 t41 (Value.bool false) fun t42 =>
  R t42 w24)
theorem F8_eq (w : World) (R : Value → World → Prop) : F8_den w R = vc Try.prog F8_ann (Try.f8.body.getD .skip) (retE Try.prog Try.f8.results.toList R) (argEnv []) w := by kernel_rfl
theorem F8_wp {w : World} {R : Value → World → Prop} (h : F8_den w R) : callD Try.prog 8 #[] w R :=
  callD.of_calls (fn := Try.f8) (c := Try.f8.body.getD .skip) Try.func8 (by kernel_rfl) (by kernel_rfl) (calls_of_vc (args := []) F8_ann mixed Try.func8 (by kernel_rfl) (by kernel_rfl) (F8_eq w R ▸ h))

/-- (*taciturn/room.Room).Heap -/
def F9_ann : Ann := (Ann.seq Ann.leaf (Ann.seq Ann.leaf Ann.leaf))
def F9_den (t0 : Value) (w : World) (R : Value → World → Prop) : Prop :=
  Go.Vc.Safe (t0) ∧
  V Try.prog (Instr.fieldAt 59 t0 0) w fun t5 w2 =>
  V Try.prog (Instr.loadAt 29 t5) w2 fun t6 w3 =>
  R t6 w3
theorem F9_eq (t0 : Value) (w : World) (R : Value → World → Prop) : F9_den t0 w R = vc Try.prog F9_ann (Try.f9.body.getD .skip) (retE Try.prog Try.f9.results.toList R) (argEnv [t0]) w := by kernel_rfl
theorem F9_wp {t0 : Value} {w : World} {R : Value → World → Prop} (h : F9_den t0 w R) : callD Try.prog 9 #[t0] w R :=
  callD.of_calls (fn := Try.f9) (c := Try.f9.body.getD .skip) Try.func9 (by kernel_rfl) (by kernel_rfl) (calls_of_vc (args := [t0]) F9_ann mixed Try.func9 (by kernel_rfl) (by kernel_rfl) (F9_eq t0 w R ▸ h))

/-- (*taciturn/room.Room).Begin -/
def F10_ann : Ann := (Ann.seq Ann.leaf (Ann.seq (Ann.seq Ann.leaf (Ann.cond (Ann.seq Ann.leaf Ann.leaf) Ann.leaf)) (Ann.seq Ann.leaf (Ann.seq Ann.leaf (Ann.seq Ann.leaf (Ann.seq Ann.leaf Ann.leaf))))))
def F10_den (t0 : Value) (t1 : Value) (t2 : Value) (w : World) (R : Value → World → Prop) : Prop :=
  V Try.prog (Builtin.len_ #[22] 3 #[t1]) w fun t8 w1 =>
  V Try.prog (binOp .gtr 3 t8 (Value.int IntKind.i64 64)) w1 fun t9 w2 =>
  gd t9 false (fun K => K t2 w2) w2 fun t11 w3 =>
  gd t9 false (fun K => V Try.prog (Builtin.len_ #[22] 3 #[t11]) w3 K) w3 fun t12 w4 =>
  gd t9 false (fun K => V Try.prog (binOp .gtr 3 t12 (Value.int IntKind.i64 64)) w4 K) w4 fun t13 w5 =>
  pickD t9 (Value.bool true) t13 fun t14 =>
  ifD t14 (
  R (Value.bool false) w5) (
  Go.Vc.Safe (t0) ∧
  V Try.prog (Instr.fieldAt 59 t0 0) w5 fun t17 w8 =>
  V Try.prog (Instr.loadAt 29 t17) w8 fun t18 w9 =>
  callD Try.prog 20 #[t18, (Value.int IntKind.i64 1), t1] w9 fun t20 w10 =>
  Go.Vc.Safe (t0) ∧
  V Try.prog (Instr.fieldAt 59 t0 0) w10 fun t23 w12 =>
  V Try.prog (Instr.loadAt 29 t23) w12 fun t24 w13 =>
  callD Try.prog 20 #[t24, (Value.int IntKind.i64 2), t2] w13 fun t26 w14 =>
  Go.Vc.Safe (t0) ∧
  V Try.prog (Instr.fieldAt 59 t0 3) w14 fun t30 w16 =>
  U Try.prog (Instr.storeAt 22 t30 (Value.slice none 0 0)) w16 fun _ w17 =>
  Go.Vc.Safe (t0) ∧
  V Try.prog (Instr.fieldAt 59 t0 4) w17 fun t32 w19 =>
  U Try.prog (Instr.storeAt 22 t32 (Value.slice none 0 0)) w19 fun _ w20 =>
  R (Value.bool true) w20)
theorem F10_eq (t0 : Value) (t1 : Value) (t2 : Value) (w : World) (R : Value → World → Prop) : F10_den t0 t1 t2 w R = vc Try.prog F10_ann (Try.f10.body.getD .skip) (retE Try.prog Try.f10.results.toList R) (argEnv [t0, t1, t2]) w := by kernel_rfl
theorem F10_wp {t0 : Value} {t1 : Value} {t2 : Value} {w : World} {R : Value → World → Prop} (h : F10_den t0 t1 t2 w R) : callD Try.prog 10 #[t0, t1, t2] w R :=
  callD.of_calls (fn := Try.f10) (c := Try.f10.body.getD .skip) Try.func10 (by kernel_rfl) (by kernel_rfl) (calls_of_vc (args := [t0, t1, t2]) F10_ann mixed Try.func10 (by kernel_rfl) (by kernel_rfl) (F10_eq t0 t1 t2 w R ▸ h))

/-- taciturn/taciturnhand.Pick -/
def F11_ann : Ann := (Ann.seq Ann.leaf (Ann.seq Ann.leaf (Ann.seq (Ann.seq Ann.leaf (Ann.cond Ann.leaf Ann.leaf)) (Ann.seq Ann.leaf Ann.leaf))))
def F11_den (t0 : Value) (t1 : Value) (w : World) (R : Value → World → Prop) : Prop :=
  V Try.prog (binOp .rem 3 t0 t1) w fun t7 w1 =>
  V Try.prog (binOp .lss 3 t7 (Value.int IntKind.i64 0)) w1 fun t9 w2 =>
  ifD t9 (
  V Try.prog (binOp .add 3 t7 t1) w2 fun t12 w3 =>
  R t12 w3) (
  R t7 w2)
theorem F11_eq (t0 : Value) (t1 : Value) (w : World) (R : Value → World → Prop) : F11_den t0 t1 w R = vc Try.prog F11_ann (Try.f11.body.getD .skip) (retE Try.prog Try.f11.results.toList R) (argEnv [t0, t1]) w := by kernel_rfl
theorem F11_wp {t0 : Value} {t1 : Value} {w : World} {R : Value → World → Prop} (h : F11_den t0 t1 w R) : callD Try.prog 11 #[t0, t1] w R :=
  callD.of_calls (fn := Try.f11) (c := Try.f11.body.getD .skip) Try.func11 (by kernel_rfl) (by kernel_rfl) (calls_of_vc (args := [t0, t1]) F11_ann mixed Try.func11 (by kernel_rfl) (by kernel_rfl) (F11_eq t0 t1 w R ▸ h))

/-- (*taciturn/room.Room).Serve -/
def F12_ann : Ann := (Ann.seq Ann.leaf (Ann.seq (Ann.seq Ann.leaf (Ann.cond (Ann.seq Ann.leaf Ann.leaf) Ann.leaf)) (Ann.seq Ann.leaf (Ann.seq (Ann.seq Ann.leaf (Ann.block (Ann.loop [18, 36, 37, 38, 39, 40, 41, 42, 43, 44, 45, 46, 47] [36] (Ann.seq Ann.leaf (Ann.seq (Ann.cond Ann.leaf Ann.leaf) (Ann.seq (Ann.block (Ann.seq Ann.leaf Ann.leaf)) Ann.leaf)))))) (Ann.seq (Ann.seq Ann.leaf (Ann.block (Ann.seq Ann.leaf (Ann.cond (Ann.seq (Ann.draw [0, 1, 2, 0, 8, 16, 36, 64, 64, 448, 512, 512, 4095, 8191] [0, 1, 2, 0, 8, 16, 36, 64, 64, 384, 512, 512, 1024, 2048] 14 (.take 0 (.take 1 (.take 2 (.take 3 (.take 4 (.take 5 (.only 6 (.take 7 (.take 8 (.only 9 (.take 10 (.take 11 (.take 12 (.take 13 .done))))))))))))))) Ann.leaf) (Ann.seq Ann.leaf (Ann.cond (Ann.seq (Ann.draw [0, 1, 2, 0, 8, 16, 36, 64, 64, 448, 512, 512, 4095, 8191] [0, 1, 2, 0, 8, 16, 36, 64, 64, 384, 512, 512, 1024, 2048] 14 (.take 0 (.take 1 (.take 2 (.take 3 (.take 4 (.take 5 (.only 6 (.take 7 (.take 8 (.only 9 (.take 10 (.take 11 (.take 12 (.take 13 .done))))))))))))))) Ann.leaf) (Ann.seq Ann.leaf (Ann.cond (Ann.seq Ann.leaf Ann.leaf) (Ann.seq Ann.leaf (Ann.cond (Ann.seq Ann.leaf Ann.leaf) (Ann.seq Ann.leaf (Ann.cond (Ann.seq Ann.leaf Ann.leaf) (Ann.seq Ann.leaf (Ann.cond (Ann.seq Ann.leaf Ann.leaf) (Ann.seq Ann.leaf (Ann.cond (Ann.seq Ann.leaf Ann.leaf) (Ann.seq Ann.leaf (Ann.cond (Ann.seq Ann.leaf Ann.leaf) Ann.leaf)))))))))))))))))) (Ann.seq Ann.leaf Ann.leaf))))))
def F12_den (t0 : Value) (t1 : Value) (t2 : Value) (t3 : Value) (t4 : Value) (t5 : Value) (t6 : Value) (w : World) (R : Value → World → Prop) : Prop :=
  V Try.prog (do eqGuard .eql 23 (Operand.tmp 19) (Operand.const (Value.pointer none)) t0 (Value.pointer none); binOp .eql 23 t0 (Value.pointer none)) w fun t20 w1 =>
  gd t20 false (fun K => K t6 w1) w1 fun t22 w2 =>
  gd t20 false (fun K => V Try.prog (Builtin.len_ #[35] 3 #[t22]) w2 K) w2 fun t23 w3 =>
  gd t20 false (fun K => K t3 w3) w3 fun t24 w4 =>
  gd t20 false (fun K => callD Try.prog 21 #[t24] w4 K) w4 fun t25 w5 =>
  gd t20 false (fun K => V Try.prog (do eqGuard .neq 3 (Operand.tmp 23) (Operand.tmp 25) t23 t25; binOp .neq 3 t23 t25) w5 K) w5 fun t26 w6 =>
  pickD t20 (Value.bool true) t26 fun t27 =>
  ifD t27 (
  R (.tuple #[(Value.int IntKind.i32 0), (Value.int IntKind.i64 27013)]) w6) (
  V Try.prog (Instr.build 64 #[(0, t0), (1, t1), (2, t2), (3, t4), (4, t5)]) w6 fun t33 w8 =>
  V Try.prog (Instr.alloc 64 true (.tuple #[])) w8 fun t16 w9 =>
  U Try.prog (Instr.storeAt 64 t16 t33) w9 fun _ w10 =>
  V Try.prog (Builtin.len_ #[35] 3 #[t6]) w10 fun t35 w11 =>
  ∃ (I1 : NP 1) (μ1 : NF 1), I1 (Value.int IntKind.i64 0) w11 ∧
  ∀ (t36 : Value), ∀ w12 : World, I1 t36 w12 → ∀ _f : Env,
  V Try.prog (binOp .lss 3 t36 t35) w12 fun t37 w13 =>
  ifD t37 (
  V Try.prog (Instr.indexAt 35 t6 t36) w13 fun t38 w14 =>
  V Try.prog (Instr.loadAt 21 t38) w14 fun t39 w15 =>
  V Try.prog (Instr.fieldAt 64 t16 5) w15 fun t40 w16 =>
  V Try.prog (Instr.loadAt 62 t40) w16 fun t41 w17 =>
  V Try.prog (convert 21 3 t39) w17 fun t43 w18 =>
  V Try.prog (Instr.buildSlice 62 1 #[(0, t43)]) w18 fun t44 w19 =>
  V Try.prog (Builtin.append_ #[62, 62] 62 #[t41, t44]) w19 fun t45 w20 =>
  V Try.prog (Instr.fieldAt 64 t16 5) w20 fun t46 w21 =>
  U Try.prog (Instr.storeAt 62 t46 t45) w21 fun _ w22 =>
  V Try.prog (binOp .add 3 t36 (Value.int IntKind.i64 1)) w22 fun t47 w23 =>
  I1 t47 w23 ∧ μ1 t47 w23 < μ1 t36 w12) (
  V Try.prog (do eqGuard .eql 3 (Operand.tmp 48) (Operand.const (Value.int IntKind.i64 17)) t3 (Value.int IntKind.i64 17); binOp .eql 3 t3 (Value.int IntKind.i64 17)) w13 fun t50 w24 =>
  ifD t50 (
  drawD w24 fun S11 w25 =>
  yieldS Try.prog S11 (Instr.indexAt 35 t6 (Value.int IntKind.i64 0)) fun t52 =>
  yieldS Try.prog S11 (Instr.loadAt 21 t52) fun t53 =>
  yieldS Try.prog S11 (Instr.indexAt 35 t6 (Value.int IntKind.i64 1)) fun t55 =>
  yieldS Try.prog S11 (Instr.loadAt 21 t55) fun t56 =>
  callD Try.prog 23 #[t53, t56] w25 fun t57 w26 =>
  S11 w26 ∧
  yieldS Try.prog S11 (Instr.extract t57 0) fun t58 =>
  yieldS Try.prog S11 (Instr.extract t57 1) fun t59 =>
  callD Try.prog 22 #[t58, t59] w26 fun t60 w27 =>
  S11 w27 ∧
  yieldS Try.prog S11 (Instr.extract t60 0) fun t61 =>
  yieldS Try.prog S11 (Instr.extract t60 1) fun t62 =>
  R (.tuple #[t61, t62]) w27) (
  V Try.prog (do eqGuard .eql 3 (Operand.tmp 48) (Operand.const (Value.int IntKind.i64 18)) t3 (Value.int IntKind.i64 18); binOp .eql 3 t3 (Value.int IntKind.i64 18)) w24 fun t64 w28 =>
  ifD t64 (
  drawD w28 fun S13 w29 =>
  yieldS Try.prog S13 (Instr.indexAt 35 t6 (Value.int IntKind.i64 0)) fun t66 =>
  yieldS Try.prog S13 (Instr.loadAt 21 t66) fun t67 =>
  yieldS Try.prog S13 (Instr.indexAt 35 t6 (Value.int IntKind.i64 1)) fun t69 =>
  yieldS Try.prog S13 (Instr.loadAt 21 t69) fun t70 =>
  callD Try.prog 24 #[t67, t70] w29 fun t71 w30 =>
  S13 w30 ∧
  yieldS Try.prog S13 (Instr.extract t71 0) fun t72 =>
  yieldS Try.prog S13 (Instr.extract t71 1) fun t73 =>
  callD Try.prog 22 #[t72, t73] w30 fun t74 w31 =>
  S13 w31 ∧
  yieldS Try.prog S13 (Instr.extract t74 0) fun t75 =>
  yieldS Try.prog S13 (Instr.extract t74 1) fun t76 =>
  R (.tuple #[t75, t76]) w31) (
  V Try.prog (do eqGuard .eql 3 (Operand.tmp 48) (Operand.const (Value.int IntKind.i64 27)) t3 (Value.int IntKind.i64 27); binOp .eql 3 t3 (Value.int IntKind.i64 27)) w28 fun t78 w32 =>
  ifD t78 (
  V Try.prog (Instr.loadAt 64 t16) w32 fun t79 w33 =>
  callD Try.prog 25 #[t79] w33 fun t80 w34 =>
  V Try.prog (Instr.extract t80 0) w34 fun t81 w35 =>
  V Try.prog (Instr.extract t80 1) w35 fun t82 w36 =>
  R (.tuple #[t81, t82]) w36) (
  V Try.prog (do eqGuard .eql 3 (Operand.tmp 48) (Operand.const (Value.int IntKind.i64 28)) t3 (Value.int IntKind.i64 28); binOp .eql 3 t3 (Value.int IntKind.i64 28)) w32 fun t84 w37 =>
  ifD t84 (
  V Try.prog (Instr.loadAt 64 t16) w37 fun t85 w38 =>
  callD Try.prog 26 #[t85] w38 fun t86 w39 =>
  V Try.prog (Instr.extract t86 0) w39 fun t87 w40 =>
  V Try.prog (Instr.extract t86 1) w40 fun t88 w41 =>
  R (.tuple #[t87, t88]) w41) (
  V Try.prog (do eqGuard .eql 3 (Operand.tmp 48) (Operand.const (Value.int IntKind.i64 29)) t3 (Value.int IntKind.i64 29); binOp .eql 3 t3 (Value.int IntKind.i64 29)) w37 fun t90 w42 =>
  ifD t90 (
  V Try.prog (Instr.loadAt 64 t16) w42 fun t91 w43 =>
  callD Try.prog 27 #[t91] w43 fun t92 w44 =>
  V Try.prog (Instr.extract t92 0) w44 fun t93 w45 =>
  V Try.prog (Instr.extract t92 1) w45 fun t94 w46 =>
  R (.tuple #[t93, t94]) w46) (
  V Try.prog (do eqGuard .eql 3 (Operand.tmp 48) (Operand.const (Value.int IntKind.i64 30)) t3 (Value.int IntKind.i64 30); binOp .eql 3 t3 (Value.int IntKind.i64 30)) w42 fun t96 w47 =>
  ifD t96 (
  V Try.prog (Instr.loadAt 64 t16) w47 fun t97 w48 =>
  callD Try.prog 28 #[t97] w48 fun t98 w49 =>
  V Try.prog (Instr.extract t98 0) w49 fun t99 w50 =>
  V Try.prog (Instr.extract t98 1) w50 fun t100 w51 =>
  R (.tuple #[t99, t100]) w51) (
  V Try.prog (do eqGuard .eql 3 (Operand.tmp 48) (Operand.const (Value.int IntKind.i64 31)) t3 (Value.int IntKind.i64 31); binOp .eql 3 t3 (Value.int IntKind.i64 31)) w47 fun t102 w52 =>
  ifD t102 (
  V Try.prog (Instr.loadAt 64 t16) w52 fun t103 w53 =>
  callD Try.prog 29 #[t103] w53 fun t104 w54 =>
  V Try.prog (Instr.extract t104 0) w54 fun t105 w55 =>
  V Try.prog (Instr.extract t104 1) w55 fun t106 w56 =>
  R (.tuple #[t105, t106]) w56) (
  V Try.prog (do eqGuard .eql 3 (Operand.tmp 48) (Operand.const (Value.int IntKind.i64 32)) t3 (Value.int IntKind.i64 32); binOp .eql 3 t3 (Value.int IntKind.i64 32)) w52 fun t108 w57 =>
  ifD t108 (
  V Try.prog (Instr.loadAt 64 t16) w57 fun t109 w58 =>
  callD Try.prog 30 #[t109] w58 fun t110 w59 =>
  V Try.prog (Instr.extract t110 0) w59 fun t111 w60 =>
  V Try.prog (Instr.extract t110 1) w60 fun t112 w61 =>
  R (.tuple #[t111, t112]) w61) (
  V Try.prog (Instr.loadAt 64 t16) w57 fun t113 w62 =>
  callD Try.prog 31 #[t113] w62 fun t114 w63 =>
  V Try.prog (Instr.extract t114 0) w63 fun t115 w64 =>
  V Try.prog (Instr.extract t114 1) w64 fun t116 w65 =>
  R (.tuple #[t115, t116]) w65))))))))))
theorem F12_eq (t0 : Value) (t1 : Value) (t2 : Value) (t3 : Value) (t4 : Value) (t5 : Value) (t6 : Value) (w : World) (R : Value → World → Prop) : F12_den t0 t1 t2 t3 t4 t5 t6 w R = vc Try.prog F12_ann (Try.f12.body.getD .skip) (retE Try.prog Try.f12.results.toList R) (argEnv [t0, t1, t2, t3, t4, t5, t6]) w := by kernel_rfl
theorem F12_wp {t0 : Value} {t1 : Value} {t2 : Value} {t3 : Value} {t4 : Value} {t5 : Value} {t6 : Value} {w : World} {R : Value → World → Prop} (h : F12_den t0 t1 t2 t3 t4 t5 t6 w R) : callD Try.prog 12 #[t0, t1, t2, t3, t4, t5, t6] w R :=
  callD.of_calls (fn := Try.f12) (c := Try.f12.body.getD .skip) Try.func12 (by kernel_rfl) (by kernel_rfl) (calls_of_vc (args := [t0, t1, t2, t3, t4, t5, t6]) F12_ann mixed Try.func12 (by kernel_rfl) (by kernel_rfl) (F12_eq t0 t1 t2 t3 t4 t5 t6 w R ▸ h))

/-- (*taciturn/heap.Heap).Array -/
def F13_ann : Ann := (Ann.seq Ann.leaf (Ann.seq Ann.leaf (Ann.seq (Ann.seq Ann.leaf (Ann.cond (Ann.seq Ann.leaf Ann.leaf) Ann.leaf)) (Ann.seq Ann.leaf (Ann.seq Ann.leaf (Ann.seq Ann.leaf Ann.leaf))))))
def F13_den (t0 : Value) (t1 : Value) (w : World) (R : Value → World → Prop) : Prop :=
  V Try.prog (Instr.alloc 37 true (.tuple #[])) w fun t4 w1 =>
  callD Try.prog 32 #[t0, t1] w1 fun t10 w2 =>
  V Try.prog (do eqGuard .eql 69 (Operand.tmp 11) (Operand.const (Value.pointer none)) t10 (Value.pointer none); binOp .eql 69 t10 (Value.pointer none)) w2 fun t12 w3 =>
  ifD t12 (
  V Try.prog (Instr.build 37 #[]) w3 fun t13 w4 =>
  U Try.prog (Instr.storeAt 37 t4 t13) w4 fun _ w5 =>
  ∃ r1, (loadVar 37 (match t4 with | .pointer (some p) => p | _ => ⟨0, 0, none⟩)).run Try.prog w5 = .ok r1 w5 ∧ (∃ p, t4 = Value.pointer (some p)) ∧ R (.tuple #[r1, (Value.bool false)]) w5) (
  Go.Vc.Safe (t10) ∧
  V Try.prog (Instr.loadAt 37 t10) w3 fun t16 w7 =>
  V Try.prog (Instr.alloc 37 true (.tuple #[])) w7 fun t7 w8 =>
  U Try.prog (Instr.storeAt 37 t7 t16) w8 fun _ w9 =>
  Go.Vc.Safe (t10) ∧
  V Try.prog (Instr.fieldAt 37 t10 4) w9 fun t19 w11 =>
  V Try.prog (Instr.loadAt 22 t19) w11 fun t20 w12 =>
  callD Try.prog 33 #[t20] w12 fun t21 w13 =>
  V Try.prog (Instr.fieldAt 37 t7 4) w13 fun t22 w14 =>
  U Try.prog (Instr.storeAt 22 t22 t21) w14 fun _ w15 =>
  V Try.prog (Instr.loadAt 37 t7) w15 fun t23 w16 =>
  U Try.prog (Instr.storeAt 37 t4 t23) w16 fun _ w17 =>
  ∃ r1, (loadVar 37 (match t4 with | .pointer (some p) => p | _ => ⟨0, 0, none⟩)).run Try.prog w17 = .ok r1 w17 ∧ (∃ p, t4 = Value.pointer (some p)) ∧ R (.tuple #[r1, (Value.bool true)]) w17)
theorem F13_eq (t0 : Value) (t1 : Value) (w : World) (R : Value → World → Prop) : F13_den t0 t1 w R = vc Try.prog F13_ann (Try.f13.body.getD .skip) (retE Try.prog Try.f13.results.toList R) (argEnv [t0, t1]) w := by kernel_rfl
theorem F13_wp {t0 : Value} {t1 : Value} {w : World} {R : Value → World → Prop} (h : F13_den t0 t1 w R) : callD Try.prog 13 #[t0, t1] w R :=
  callD.of_calls (fn := Try.f13) (c := Try.f13.body.getD .skip) Try.func13 (by kernel_rfl) (by kernel_rfl) (calls_of_vc (args := [t0, t1]) F13_ann mixed Try.func13 (by kernel_rfl) (by kernel_rfl) (F13_eq t0 t1 w R ▸ h))

/-- (*taciturn/room.Room).Told -/
def F14_ann : Ann := (Ann.seq Ann.leaf (Ann.seq (Ann.draw [0, 1, 2, 4, 8, 0, 32, 64, 128, 272, 543, 2047] [0, 1, 2, 4, 8, 0, 32, 64, 128, 256, 16, 512] 12 (.take 0 (.take 1 (.take 2 (.take 3 (.take 5 (.take 6 (.take 7 (.take 8 (.only 4 (.only 9 (.take 10 (.take 11 .done))))))))))))) Ann.leaf))
def F14_den (t0 : Value) (w : World) (R : Value → World → Prop) : Prop :=
  drawD w fun S1 w1 =>
  Go.Vc.Safe (t0) ∧
  yieldS Try.prog S1 (Instr.fieldAt 59 t0 3) fun t6 =>
  yieldS Try.prog S1 (Instr.loadAt 22 t6) fun t7 =>
  Go.Vc.Safe (t0) ∧
  yieldS Try.prog S1 (Instr.fieldAt 59 t0 4) fun t11 =>
  yieldS Try.prog S1 (Instr.loadAt 22 t11) fun t12 =>
  callD Try.prog 33 #[t7] w1 fun t8 w2 =>
  S1 w2 ∧
  callD Try.prog 33 #[t12] w2 fun t13 w3 =>
  S1 w3 ∧
  R (.tuple #[t8, t13]) w3
theorem F14_eq (t0 : Value) (w : World) (R : Value → World → Prop) : F14_den t0 w R = vc Try.prog F14_ann (Try.f14.body.getD .skip) (retE Try.prog Try.f14.results.toList R) (argEnv [t0]) w := by kernel_rfl
theorem F14_wp {t0 : Value} {w : World} {R : Value → World → Prop} (h : F14_den t0 w R) : callD Try.prog 14 #[t0] w R :=
  callD.of_calls (fn := Try.f14) (c := Try.f14.body.getD .skip) Try.func14 (by kernel_rfl) (by kernel_rfl) (calls_of_vc (args := [t0]) F14_ann mixed Try.func14 (by kernel_rfl) (by kernel_rfl) (F14_eq t0 w R ▸ h))

/-- taciturn/taciturnref8.Serves -/
def F15_ann : Ann := (Ann.seq Ann.leaf (Ann.seq (Ann.seq Ann.leaf (Ann.block (Ann.join [4, 5, 6] [4] (Ann.seq Ann.leaf (Ann.cond Ann.leaf Ann.leaf)) (Ann.cond (Ann.seq Ann.leaf Ann.leaf) (Ann.join [7, 8, 9, 10] [7] (Ann.seq Ann.leaf (Ann.cond Ann.leaf (Ann.seq Ann.leaf (Ann.cond Ann.leaf Ann.leaf)))) (Ann.cond (Ann.seq Ann.leaf Ann.leaf) (Ann.join [11, 12, 13] [11] (Ann.seq Ann.leaf (Ann.cond Ann.leaf Ann.leaf)) (Ann.cond (Ann.seq Ann.leaf Ann.leaf) (Ann.seq (Ann.seq Ann.leaf (Ann.cond Ann.leaf Ann.leaf)) (Ann.cond (Ann.seq Ann.leaf Ann.leaf) Ann.leaf)))))))))) (Ann.seq Ann.leaf Ann.leaf)))
def F15_den (t0 : Value) (w : World) (R : Value → World → Prop) : Prop :=
  ∃ J1 : NP 1,
  (V Try.prog (do eqGuard .eql 3 (Operand.tmp 3) (Operand.const (Value.int IntKind.i64 27)) t0 (Value.int IntKind.i64 27); binOp .eql 3 t0 (Value.int IntKind.i64 27)) w fun t5 w1 =>
  ifD t5 (
  J1 t5 w1) (
  V Try.prog (do eqGuard .eql 3 (Operand.tmp 3) (Operand.const (Value.int IntKind.i64 28)) t0 (Value.int IntKind.i64 28); binOp .eql 3 t0 (Value.int IntKind.i64 28)) w1 fun t6 w2 =>
  J1 t6 w2)) ∧
  ∀ (t4 : Value), ∀ w3 : World, J1 t4 w3 → ∀ _f : Env,
  ifD t4 (
  R (Value.int IntKind.i64 1) w3) (
  ∃ J2 : NP 1,
  (V Try.prog (do eqGuard .eql 3 (Operand.tmp 3) (Operand.const (Value.int IntKind.i64 17)) t0 (Value.int IntKind.i64 17); binOp .eql 3 t0 (Value.int IntKind.i64 17)) w3 fun t8 w4 =>
  ifD t8 (
  J2 t8 w4) (
  V Try.prog (do eqGuard .eql 3 (Operand.tmp 3) (Operand.const (Value.int IntKind.i64 18)) t0 (Value.int IntKind.i64 18); binOp .eql 3 t0 (Value.int IntKind.i64 18)) w4 fun t9 w5 =>
  ifD t9 (
  J2 t9 w5) (
  V Try.prog (do eqGuard .eql 3 (Operand.tmp 3) (Operand.const (Value.int IntKind.i64 29)) t0 (Value.int IntKind.i64 29); binOp .eql 3 t0 (Value.int IntKind.i64 29)) w5 fun t10 w6 =>
  J2 t10 w6))) ∧
  ∀ (t7 : Value), ∀ w7 : World, J2 t7 w7 → ∀ _f : Env,
  ifD t7 (
  R (Value.int IntKind.i64 2) w7) (
  ∃ J3 : NP 1,
  (V Try.prog (do eqGuard .eql 3 (Operand.tmp 3) (Operand.const (Value.int IntKind.i64 30)) t0 (Value.int IntKind.i64 30); binOp .eql 3 t0 (Value.int IntKind.i64 30)) w7 fun t12 w8 =>
  ifD t12 (
  J3 t12 w8) (
  V Try.prog (do eqGuard .eql 3 (Operand.tmp 3) (Operand.const (Value.int IntKind.i64 36)) t0 (Value.int IntKind.i64 36); binOp .eql 3 t0 (Value.int IntKind.i64 36)) w8 fun t13 w9 =>
  J3 t13 w9)) ∧
  ∀ (t11 : Value), ∀ w10 : World, J3 t11 w10 → ∀ _f : Env,
  ifD t11 (
  R (Value.int IntKind.i64 3) w10) (
  V Try.prog (do eqGuard .eql 3 (Operand.tmp 3) (Operand.const (Value.int IntKind.i64 31)) t0 (Value.int IntKind.i64 31); binOp .eql 3 t0 (Value.int IntKind.i64 31)) w10 fun t15 w11 =>
  ifD t15 (
  ifD t15 (
  R (Value.int IntKind.i64 5) w11) (
  R (Value.int IntKind.i64 (-1)) w11)) (
  V Try.prog (do eqGuard .eql 3 (Operand.tmp 3) (Operand.const (Value.int IntKind.i64 32)) t0 (Value.int IntKind.i64 32); binOp .eql 3 t0 (Value.int IntKind.i64 32)) w11 fun t16 w12 =>
  ifD t16 (
  R (Value.int IntKind.i64 5) w12) (
  R (Value.int IntKind.i64 (-1)) w12)))))
theorem F15_eq (t0 : Value) (w : World) (R : Value → World → Prop) : F15_den t0 w R = vc Try.prog F15_ann (Try.f15.body.getD .skip) (retE Try.prog Try.f15.results.toList R) (argEnv [t0]) w := by kernel_rfl
theorem F15_wp {t0 : Value} {w : World} {R : Value → World → Prop} (h : F15_den t0 w R) : callD Try.prog 15 #[t0] w R :=
  callD.of_calls (fn := Try.f15) (c := Try.f15.body.getD .skip) Try.func15 (by kernel_rfl) (by kernel_rfl) (calls_of_vc (args := [t0]) F15_ann mixed Try.func15 (by kernel_rfl) (by kernel_rfl) (F15_eq t0 w R ▸ h))

/-- (*taciturn/heap.Heap).Copy -/
def F16_ann : Ann := (Ann.seq Ann.leaf (Ann.seq Ann.leaf (Ann.seq (Ann.seq Ann.leaf (Ann.block (Ann.loop [4, 5, 6, 13, 14, 15, 16, 17, 18, 19, 20, 21, 22, 23, 24, 25, 26, 27, 28, 29, 30, 31, 32, 33, 34, 35, 36, 37] [4] (Ann.seq (Ann.seq Ann.leaf (Ann.cond Ann.leaf Ann.leaf)) (Ann.seq (Ann.block (Ann.seq Ann.leaf (Ann.draw [0, 0, 2, 4, 8, 0, 32, 80, 255, 511, 767] [0, 0, 2, 4, 8, 0, 32, 80, 1, 256, 640] 10 (.take 0 (.take 1 (.take 2 (.take 3 (.take 4 (.take 5 (.only 6 (.only 7 (.take 8 (.take 9 (.last 10)))))))))))))) Ann.leaf))))) (Ann.seq Ann.leaf Ann.leaf))))
def F16_den (t0 : Value) (w : World) (R : Value → World → Prop) : Prop :=
  Go.Vc.Safe (t0) ∧
  V Try.prog (Instr.fieldAt 74 t0 0) w fun t9 w2 =>
  V Try.prog (Instr.loadAt 3 t9) w2 fun t10 w3 =>
  V Try.prog (Instr.build 74 #[(0, t10)]) w3 fun t11 w4 =>
  V Try.prog (Instr.box 74 t11) w4 fun t12 w5 =>
  ∃ (I1 : NP 1) (μ1 : NF 1), I1 (Value.int IntKind.i64 1) w5 ∧
  ∀ (t4 : Value), ∀ w6 : World, I1 t4 w6 → ∀ _f : Env,
  Go.Vc.Safe (t0) ∧
  V Try.prog (Instr.fieldAt 74 t0 1) w6 fun t16 w8 =>
  V Try.prog (Instr.loadAt 72 t16) w8 fun t17 w9 =>
  V Try.prog (Builtin.len_ #[72] 3 #[t17]) w9 fun t18 w10 =>
  V Try.prog (binOp .leq 3 t4 t18) w10 fun t19 w11 =>
  ifD t19 (
  callD Try.prog 13 #[t0, t4] w11 fun t25 w12 =>
  V Try.prog (Instr.extract t25 0) w12 fun t26 w13 =>
  V Try.prog (Instr.extract t25 1) w13 fun t27 w14 =>
  V Try.prog (Instr.alloc 37 true (.tuple #[])) w14 fun t5 w15 =>
  U Try.prog (Instr.storeAt 37 t5 t26) w15 fun _ w16 =>
  drawD w16 fun S6 w17 =>
  Go.Vc.Safe (t12) ∧
  yieldS Try.prog S6 (Instr.fieldAt 74 t12 1) fun t31 =>
  yieldS Try.prog S6 (Instr.loadAt 72 t31) fun t32 =>
  yieldS Try.prog S6 (Instr.loadAt 37 t5) fun t33 =>
  V Try.prog (Instr.buildSlice 72 1 #[(0, t33)]) w17 fun t34 w18 =>
  S6 w18 ∧
  V Try.prog (Builtin.append_ #[72, 72] 72 #[t32, t34]) w18 fun t35 w19 =>
  S6 w19 ∧
  Go.Vc.Safe (t12) ∧
  yieldS Try.prog S6 (Instr.fieldAt 74 t12 1) fun t37 =>
  U Try.prog (Instr.storeAt 72 t37 t35) w19 fun _ w20 =>
  V Try.prog (binOp .add 3 t4 (Value.int IntKind.i64 1)) w20 fun t21 w21 =>
  I1 t21 w21 ∧ μ1 t21 w21 < μ1 t4 w6) (
  R t12 w11)
theorem F16_eq (t0 : Value) (w : World) (R : Value → World → Prop) : F16_den t0 w R = vc Try.prog F16_ann (Try.f16.body.getD .skip) (retE Try.prog Try.f16.results.toList R) (argEnv [t0]) w := by kernel_rfl
theorem F16_wp {t0 : Value} {w : World} {R : Value → World → Prop} (h : F16_den t0 w R) : callD Try.prog 16 #[t0] w R :=
  callD.of_calls (fn := Try.f16) (c := Try.f16.body.getD .skip) Try.func16 (by kernel_rfl) (by kernel_rfl) (calls_of_vc (args := [t0]) F16_ann mixed Try.func16 (by kernel_rfl) (by kernel_rfl) (F16_eq t0 w R ▸ h))

/-- (*taciturn/heap.Heap).Count -/
def F17_ann : Ann := (Ann.seq Ann.leaf (Ann.seq Ann.leaf Ann.leaf))
def F17_den (t0 : Value) (w : World) (R : Value → World → Prop) : Prop :=
  Go.Vc.Safe (t0) ∧
  V Try.prog (Instr.fieldAt 74 t0 1) w fun t5 w2 =>
  V Try.prog (Instr.loadAt 72 t5) w2 fun t6 w3 =>
  V Try.prog (Builtin.len_ #[72] 3 #[t6]) w3 fun t7 w4 =>
  R t7 w4
theorem F17_eq (t0 : Value) (w : World) (R : Value → World → Prop) : F17_den t0 w R = vc Try.prog F17_ann (Try.f17.body.getD .skip) (retE Try.prog Try.f17.results.toList R) (argEnv [t0]) w := by kernel_rfl
theorem F17_wp {t0 : Value} {w : World} {R : Value → World → Prop} (h : F17_den t0 w R) : callD Try.prog 17 #[t0] w R :=
  callD.of_calls (fn := Try.f17) (c := Try.f17.body.getD .skip) Try.func17 (by kernel_rfl) (by kernel_rfl) (calls_of_vc (args := [t0]) F17_ann mixed Try.func17 (by kernel_rfl) (by kernel_rfl) (F17_eq t0 w R ▸ h))

/-- taciturn/taciturnref8.SameArray -/
def F18_ann : Ann := (Ann.seq Ann.leaf (Ann.seq Ann.leaf Ann.leaf))
def F18_den (t0 : Value) (t1 : Value) (w : World) (R : Value → World → Prop) : Prop :=
  V Try.prog (Instr.box 37 t0) w fun t2 w1 =>
  V Try.prog (Instr.box 37 t1) w1 fun t3 w2 =>
  V Try.prog (Instr.fieldAt 37 t2 0) w2 fun t5 w3 =>
  V Try.prog (Instr.loadAt 3 t5) w3 fun t6 w4 =>
  V Try.prog (Instr.fieldAt 37 t3 0) w4 fun t7 w5 =>
  V Try.prog (Instr.loadAt 3 t7) w5 fun t8 w6 =>
  V Try.prog (do eqGuard .eql 3 (Operand.tmp 6) (Operand.tmp 8) t6 t8; binOp .eql 3 t6 t8) w6 fun t9 w7 =>
  gd t9 true (fun K => V Try.prog (Instr.fieldAt 37 t2 1) w7 K) w7 fun t11 w8 =>
  gd t9 true (fun K => V Try.prog (Instr.loadAt 3 t11) w8 K) w8 fun t12 w9 =>
  gd t9 true (fun K => V Try.prog (Instr.fieldAt 37 t3 1) w9 K) w9 fun t13 w10 =>
  gd t9 true (fun K => V Try.prog (Instr.loadAt 3 t13) w10 K) w10 fun t14 w11 =>
  gd t9 true (fun K => V Try.prog (do eqGuard .eql 3 (Operand.tmp 12) (Operand.tmp 14) t12 t14; binOp .eql 3 t12 t14) w11 K) w11 fun t15 w12 =>
  pickD t9 t15 (Value.bool false) fun t16 =>
  gd t16 true (fun K => V Try.prog (Instr.fieldAt 37 t2 2) w12 K) w12 fun t18 w14 =>
  gd t16 true (fun K => V Try.prog (Instr.loadAt 3 t18) w14 K) w14 fun t19 w15 =>
  gd t16 true (fun K => V Try.prog (Instr.fieldAt 37 t3 2) w15 K) w15 fun t20 w16 =>
  gd t16 true (fun K => V Try.prog (Instr.loadAt 3 t20) w16 K) w16 fun t21 w17 =>
  gd t16 true (fun K => V Try.prog (do eqGuard .eql 3 (Operand.tmp 19) (Operand.tmp 21) t19 t21; binOp .eql 3 t19 t21) w17 K) w17 fun t22 w18 =>
  pickD t16 t22 (Value.bool false) fun t23 =>
  gd t23 true (fun K => V Try.prog (Instr.fieldAt 37 t2 3) w18 K) w18 fun t25 w20 =>
  gd t23 true (fun K => V Try.prog (Instr.loadAt 4 t25) w20 K) w20 fun t26 w21 =>
  gd t23 true (fun K => V Try.prog (Instr.fieldAt 37 t3 3) w21 K) w21 fun t27 w22 =>
  gd t23 true (fun K => V Try.prog (Instr.loadAt 4 t27) w22 K) w22 fun t28 w23 =>
  gd t23 true (fun K => V Try.prog (do eqGuard .eql 4 (Operand.tmp 26) (Operand.tmp 28) t26 t28; binOp .eql 4 t26 t28) w23 K) w23 fun t29 w24 =>
  pickD t23 t29 (Value.bool false) fun t30 =>
  gd t30 true (fun K => V Try.prog (Instr.fieldAt 37 t2 4) w24 K) w24 fun t32 w26 =>
  gd t30 true (fun K => V Try.prog (Instr.loadAt 22 t32) w26 K) w26 fun t33 w27 =>
  gd t30 true (fun K => V Try.prog (convert 22 9 t33) w27 K) w27 fun t34 w28 =>
  gd t30 true (fun K => V Try.prog (Instr.fieldAt 37 t3 4) w28 K) w28 fun t35 w29 =>
  gd t30 true (fun K => V Try.prog (Instr.loadAt 22 t35) w29 K) w29 fun t36 w30 =>
  gd t30 true (fun K => V Try.prog (convert 22 9 t36) w30 K) w30 fun t37 w31 =>
  gd t30 true (fun K => V Try.prog (do eqGuard .eql 9 (Operand.tmp 34) (Operand.tmp 37) t34 t37; binOp .eql 9 t34 t37) w31 K) w31 fun t38 w32 =>
  pickD t30 t38 (Value.bool false) fun t39 =>
  R t39 w32
theorem F18_eq (t0 : Value) (t1 : Value) (w : World) (R : Value → World → Prop) : F18_den t0 t1 w R = vc Try.prog F18_ann (Try.f18.body.getD .skip) (retE Try.prog Try.f18.results.toList R) (argEnv [t0, t1]) w := by kernel_rfl
theorem F18_wp {t0 : Value} {t1 : Value} {w : World} {R : Value → World → Prop} (h : F18_den t0 t1 w R) : callD Try.prog 18 #[t0, t1] w R :=
  callD.of_calls (fn := Try.f18) (c := Try.f18.body.getD .skip) Try.func18 (by kernel_rfl) (by kernel_rfl) (calls_of_vc (args := [t0, t1]) F18_ann mixed Try.func18 (by kernel_rfl) (by kernel_rfl) (F18_eq t0 t1 w R ▸ h))

/-- taciturn/heap.New -/
def F19_ann : Ann := (Ann.seq Ann.leaf (Ann.seq (Ann.seq Ann.leaf (Ann.cond (Ann.seq Ann.leaf Ann.leaf) Ann.leaf)) (Ann.seq Ann.leaf Ann.leaf)))
def F19_den (t0 : Value) (w : World) (R : Value → World → Prop) : Prop :=
  V Try.prog (binOp .lss 3 t0 (Value.int IntKind.i64 64)) w fun t5 w1 =>
  gd t5 false (fun K => K t0 w1) w1 fun t7 w2 =>
  gd t5 false (fun K => V Try.prog (binOp .gtr 3 t7 (Value.int IntKind.i64 4096)) w2 K) w2 fun t8 w3 =>
  pickD t5 (Value.bool true) t8 fun t9 =>
  ifD t9 (
  R (.tuple #[(Value.pointer none), (Value.int IntKind.i64 1)]) w3) (
  V Try.prog (Instr.build 37 #[(0, (Value.int IntKind.i64 (-1))), (1, (Value.int IntKind.i64 3))]) w3 fun t11 w5 =>
  V Try.prog (Instr.build 37 #[(0, (Value.int IntKind.i64 (-1))), (1, (Value.int IntKind.i64 4))]) w5 fun t12 w6 =>
  V Try.prog (Instr.buildSlice 72 2 #[(0, t11), (1, t12)]) w6 fun t13 w7 =>
  V Try.prog (Instr.build 74 #[(0, t0), (1, t13)]) w7 fun t14 w8 =>
  V Try.prog (Instr.box 74 t14) w8 fun t15 w9 =>
  R (.tuple #[t15, (Value.int IntKind.i64 0)]) w9)
theorem F19_eq (t0 : Value) (w : World) (R : Value → World → Prop) : F19_den t0 w R = vc Try.prog F19_ann (Try.f19.body.getD .skip) (retE Try.prog Try.f19.results.toList R) (argEnv [t0]) w := by kernel_rfl
theorem F19_wp {t0 : Value} {w : World} {R : Value → World → Prop} (h : F19_den t0 w R) : callD Try.prog 19 #[t0] w R :=
  callD.of_calls (fn := Try.f19) (c := Try.f19.body.getD .skip) Try.func19 (by kernel_rfl) (by kernel_rfl) (calls_of_vc (args := [t0]) F19_ann mixed Try.func19 (by kernel_rfl) (by kernel_rfl) (F19_eq t0 w R ▸ h))

/-- (*taciturn/heap.Heap).SetBuffer -/
def F20_ann : Ann := (Ann.seq Ann.leaf (Ann.seq (Ann.seq Ann.leaf (Ann.cond (Ann.seq Ann.leaf Ann.leaf) Ann.leaf)) (Ann.seq Ann.leaf (Ann.seq Ann.leaf Ann.leaf))))
def F20_den (t0 : Value) (t1 : Value) (t2 : Value) (w : World) (R : Value → World → Prop) : Prop :=
  V Try.prog (do eqGuard .neq 3 (Operand.tmp 7) (Operand.const (Value.int IntKind.i64 1)) t1 (Value.int IntKind.i64 1); binOp .neq 3 t1 (Value.int IntKind.i64 1)) w fun t8 w1 =>
  gd t8 true (fun K => K t1 w1) w1 fun t10 w2 =>
  gd t8 true (fun K => V Try.prog (do eqGuard .neq 3 (Operand.tmp 10) (Operand.const (Value.int IntKind.i64 2)) t10 (Value.int IntKind.i64 2); binOp .neq 3 t10 (Value.int IntKind.i64 2)) w2 K) w2 fun t11 w3 =>
  pickD t8 t11 (Value.bool false) fun t12 =>
  gd t12 false (fun K => K t2 w3) w3 fun t14 w5 =>
  gd t12 false (fun K => V Try.prog (Builtin.len_ #[22] 3 #[t14]) w5 K) w5 fun t15 w6 =>
  gd t12 false (fun K => V Try.prog (binOp .gtr 3 t15 (Value.int IntKind.i64 64)) w6 K) w6 fun t16 w7 =>
  pickD t12 (Value.bool true) t16 fun t17 =>
  ifD t17 (
  R (Value.bool false) w7) (
  callD Try.prog 32 #[t0, t1] w7 fun t20 w9 =>
  callD Try.prog 33 #[t2] w9 fun t22 w10 =>
  Go.Vc.Safe (t20) ∧
  V Try.prog (Instr.fieldAt 37 t20 4) w10 fun t24 w12 =>
  U Try.prog (Instr.storeAt 22 t24 t22) w12 fun _ w13 =>
  R (Value.bool true) w13)
theorem F20_eq (t0 : Value) (t1 : Value) (t2 : Value) (w : World) (R : Value → World → Prop) : F20_den t0 t1 t2 w R = vc Try.prog F20_ann (Try.f20.body.getD .skip) (retE Try.prog Try.f20.results.toList R) (argEnv [t0, t1, t2]) w := by kernel_rfl
theorem F20_wp {t0 : Value} {t1 : Value} {t2 : Value} {w : World} {R : Value → World → Prop} (h : F20_den t0 t1 t2 w R) : callD Try.prog 20 #[t0, t1, t2] w R :=
  callD.of_calls (fn := Try.f20) (c := Try.f20.body.getD .skip) Try.func20 (by kernel_rfl) (by kernel_rfl) (calls_of_vc (args := [t0, t1, t2]) F20_ann mixed Try.func20 (by kernel_rfl) (by kernel_rfl) (F20_eq t0 t1 t2 w R ▸ h))

/-- taciturn/room.Serves -/
def F21_ann : Ann := (Ann.seq Ann.leaf (Ann.seq (Ann.seq Ann.leaf (Ann.block (Ann.join [4, 5, 6] [4] (Ann.seq Ann.leaf (Ann.cond Ann.leaf Ann.leaf)) (Ann.cond (Ann.seq Ann.leaf Ann.leaf) (Ann.join [7, 8, 9, 10] [7] (Ann.seq Ann.leaf (Ann.cond Ann.leaf (Ann.seq Ann.leaf (Ann.cond Ann.leaf Ann.leaf)))) (Ann.cond (Ann.seq Ann.leaf Ann.leaf) (Ann.join [11, 12, 13] [11] (Ann.seq Ann.leaf (Ann.cond Ann.leaf Ann.leaf)) (Ann.cond (Ann.seq Ann.leaf Ann.leaf) (Ann.seq (Ann.seq Ann.leaf (Ann.cond Ann.leaf Ann.leaf)) (Ann.cond (Ann.seq Ann.leaf Ann.leaf) Ann.leaf)))))))))) (Ann.seq Ann.leaf Ann.leaf)))
def F21_den (t0 : Value) (w : World) (R : Value → World → Prop) : Prop :=
  ∃ J1 : NP 1,
  (V Try.prog (do eqGuard .eql 3 (Operand.tmp 3) (Operand.const (Value.int IntKind.i64 27)) t0 (Value.int IntKind.i64 27); binOp .eql 3 t0 (Value.int IntKind.i64 27)) w fun t5 w1 =>
  ifD t5 (
  J1 t5 w1) (
  V Try.prog (do eqGuard .eql 3 (Operand.tmp 3) (Operand.const (Value.int IntKind.i64 28)) t0 (Value.int IntKind.i64 28); binOp .eql 3 t0 (Value.int IntKind.i64 28)) w1 fun t6 w2 =>
  J1 t6 w2)) ∧
  ∀ (t4 : Value), ∀ w3 : World, J1 t4 w3 → ∀ _f : Env,
  ifD t4 (
  R (Value.int IntKind.i64 1) w3) (
  ∃ J2 : NP 1,
  (V Try.prog (do eqGuard .eql 3 (Operand.tmp 3) (Operand.const (Value.int IntKind.i64 17)) t0 (Value.int IntKind.i64 17); binOp .eql 3 t0 (Value.int IntKind.i64 17)) w3 fun t8 w4 =>
  ifD t8 (
  J2 t8 w4) (
  V Try.prog (do eqGuard .eql 3 (Operand.tmp 3) (Operand.const (Value.int IntKind.i64 18)) t0 (Value.int IntKind.i64 18); binOp .eql 3 t0 (Value.int IntKind.i64 18)) w4 fun t9 w5 =>
  ifD t9 (
  J2 t9 w5) (
  V Try.prog (do eqGuard .eql 3 (Operand.tmp 3) (Operand.const (Value.int IntKind.i64 29)) t0 (Value.int IntKind.i64 29); binOp .eql 3 t0 (Value.int IntKind.i64 29)) w5 fun t10 w6 =>
  J2 t10 w6))) ∧
  ∀ (t7 : Value), ∀ w7 : World, J2 t7 w7 → ∀ _f : Env,
  ifD t7 (
  R (Value.int IntKind.i64 2) w7) (
  ∃ J3 : NP 1,
  (V Try.prog (do eqGuard .eql 3 (Operand.tmp 3) (Operand.const (Value.int IntKind.i64 30)) t0 (Value.int IntKind.i64 30); binOp .eql 3 t0 (Value.int IntKind.i64 30)) w7 fun t12 w8 =>
  ifD t12 (
  J3 t12 w8) (
  V Try.prog (do eqGuard .eql 3 (Operand.tmp 3) (Operand.const (Value.int IntKind.i64 36)) t0 (Value.int IntKind.i64 36); binOp .eql 3 t0 (Value.int IntKind.i64 36)) w8 fun t13 w9 =>
  J3 t13 w9)) ∧
  ∀ (t11 : Value), ∀ w10 : World, J3 t11 w10 → ∀ _f : Env,
  ifD t11 (
  R (Value.int IntKind.i64 3) w10) (
  V Try.prog (do eqGuard .eql 3 (Operand.tmp 3) (Operand.const (Value.int IntKind.i64 31)) t0 (Value.int IntKind.i64 31); binOp .eql 3 t0 (Value.int IntKind.i64 31)) w10 fun t15 w11 =>
  ifD t15 (
  ifD t15 (
  R (Value.int IntKind.i64 5) w11) (
  R (Value.int IntKind.i64 (-1)) w11)) (
  V Try.prog (do eqGuard .eql 3 (Operand.tmp 3) (Operand.const (Value.int IntKind.i64 32)) t0 (Value.int IntKind.i64 32); binOp .eql 3 t0 (Value.int IntKind.i64 32)) w11 fun t16 w12 =>
  ifD t16 (
  R (Value.int IntKind.i64 5) w12) (
  R (Value.int IntKind.i64 (-1)) w12)))))
theorem F21_eq (t0 : Value) (w : World) (R : Value → World → Prop) : F21_den t0 w R = vc Try.prog F21_ann (Try.f21.body.getD .skip) (retE Try.prog Try.f21.results.toList R) (argEnv [t0]) w := by kernel_rfl
theorem F21_wp {t0 : Value} {w : World} {R : Value → World → Prop} (h : F21_den t0 w R) : callD Try.prog 21 #[t0] w R :=
  callD.of_calls (fn := Try.f21) (c := Try.f21.body.getD .skip) Try.func21 (by kernel_rfl) (by kernel_rfl) (calls_of_vc (args := [t0]) F21_ann mixed Try.func21 (by kernel_rfl) (by kernel_rfl) (F21_eq t0 w R ▸ h))

/-- taciturn/room.divided -/
def F22_ann : Ann := (Ann.seq Ann.leaf (Ann.seq (Ann.seq Ann.leaf (Ann.cond (Ann.seq Ann.leaf Ann.leaf) Ann.leaf)) (Ann.seq Ann.leaf Ann.leaf)))
def F22_den (t0 : Value) (t1 : Value) (w : World) (R : Value → World → Prop) : Prop :=
  V Try.prog (Op.unary UnOp.not t1) w fun t7 w1 =>
  ifD t7 (
  R (.tuple #[(Value.int IntKind.i32 0), (Value.int IntKind.i64 28419)]) w1) (
  R (.tuple #[t0, (Value.int IntKind.i64 36864)]) w1)
theorem F22_eq (t0 : Value) (t1 : Value) (w : World) (R : Value → World → Prop) : F22_den t0 t1 w R = vc Try.prog F22_ann (Try.f22.body.getD .skip) (retE Try.prog Try.f22.results.toList R) (argEnv [t0, t1]) w := by kernel_rfl
theorem F22_wp {t0 : Value} {t1 : Value} {w : World} {R : Value → World → Prop} (h : F22_den t0 t1 w R) : callD Try.prog 22 #[t0, t1] w R :=
  callD.of_calls (fn := Try.f22) (c := Try.f22.body.getD .skip) Try.func22 (by kernel_rfl) (by kernel_rfl) (calls_of_vc (args := [t0, t1]) F22_ann mixed Try.func22 (by kernel_rfl) (by kernel_rfl) (F22_eq t0 t1 w R ▸ h))

/-- taciturn/word.Div -/
def F23_ann : Ann := (Ann.seq Ann.leaf (Ann.seq (Ann.seq Ann.leaf (Ann.cond (Ann.seq Ann.leaf Ann.leaf) Ann.leaf)) (Ann.seq Ann.leaf Ann.leaf)))
def F23_den (t0 : Value) (t1 : Value) (w : World) (R : Value → World → Prop) : Prop :=
  V Try.prog (do eqGuard .eql 21 (Operand.tmp 6) (Operand.const (Value.int IntKind.i32 0)) t1 (Value.int IntKind.i32 0); binOp .eql 21 t1 (Value.int IntKind.i32 0)) w fun t7 w1 =>
  ifD t7 (
  R (.tuple #[(Value.int IntKind.i32 0), (Value.bool false)]) w1) (
  V Try.prog (convert 21 2 t0) w1 fun t9 w2 =>
  V Try.prog (convert 21 2 t1) w2 fun t11 w3 =>
  V Try.prog (binOp .quo 2 t9 t11) w3 fun t12 w4 =>
  V Try.prog (convert 2 21 t12) w4 fun t13 w5 =>
  R (.tuple #[t13, (Value.bool true)]) w5)
theorem F23_eq (t0 : Value) (t1 : Value) (w : World) (R : Value → World → Prop) : F23_den t0 t1 w R = vc Try.prog F23_ann (Try.f23.body.getD .skip) (retE Try.prog Try.f23.results.toList R) (argEnv [t0, t1]) w := by kernel_rfl
theorem F23_wp {t0 : Value} {t1 : Value} {w : World} {R : Value → World → Prop} (h : F23_den t0 t1 w R) : callD Try.prog 23 #[t0, t1] w R :=
  callD.of_calls (fn := Try.f23) (c := Try.f23.body.getD .skip) Try.func23 (by kernel_rfl) (by kernel_rfl) (calls_of_vc (args := [t0, t1]) F23_ann mixed Try.func23 (by kernel_rfl) (by kernel_rfl) (F23_eq t0 t1 w R ▸ h))

/-- taciturn/word.Rem -/
def F24_ann : Ann := (Ann.seq Ann.leaf (Ann.seq (Ann.seq Ann.leaf (Ann.cond (Ann.seq Ann.leaf Ann.leaf) Ann.leaf)) (Ann.seq Ann.leaf Ann.leaf)))
def F24_den (t0 : Value) (t1 : Value) (w : World) (R : Value → World → Prop) : Prop :=
  V Try.prog (do eqGuard .eql 21 (Operand.tmp 6) (Operand.const (Value.int IntKind.i32 0)) t1 (Value.int IntKind.i32 0); binOp .eql 21 t1 (Value.int IntKind.i32 0)) w fun t7 w1 =>
  ifD t7 (
  R (.tuple #[(Value.int IntKind.i32 0), (Value.bool false)]) w1) (
  V Try.prog (convert 21 2 t0) w1 fun t9 w2 =>
  V Try.prog (convert 21 2 t1) w2 fun t11 w3 =>
  V Try.prog (binOp .rem 2 t9 t11) w3 fun t12 w4 =>
  V Try.prog (convert 2 21 t12) w4 fun t13 w5 =>
  R (.tuple #[t13, (Value.bool true)]) w5)
theorem F24_eq (t0 : Value) (t1 : Value) (w : World) (R : Value → World → Prop) : F24_den t0 t1 w R = vc Try.prog F24_ann (Try.f24.body.getD .skip) (retE Try.prog Try.f24.results.toList R) (argEnv [t0, t1]) w := by kernel_rfl
theorem F24_wp {t0 : Value} {t1 : Value} {w : World} {R : Value → World → Prop} (h : F24_den t0 t1 w R) : callD Try.prog 24 #[t0, t1] w R :=
  callD.of_calls (fn := Try.f24) (c := Try.f24.body.getD .skip) Try.func24 (by kernel_rfl) (by kernel_rfl) (calls_of_vc (args := [t0, t1]) F24_ann mixed Try.func24 (by kernel_rfl) (by kernel_rfl) (F24_eq t0 t1 w R ▸ h))

/-- (taciturn/room.service).make -/
def F25_ann : Ann := (Ann.seq Ann.leaf (Ann.seq Ann.leaf (Ann.seq Ann.leaf (Ann.seq (Ann.seq Ann.leaf (Ann.cond (Ann.seq Ann.leaf Ann.leaf) Ann.leaf)) (Ann.seq (Ann.draw [0, 1, 2, 4, 8, 0, 32, 0, 128, 0, 512, 1024, 0, 4096, 8192, 0, 51536, 65536, 131072, 131072, 524287, 2097151] [0, 1, 2, 4, 8, 0, 32, 0, 128, 0, 512, 1024, 0, 4096, 8192, 0, 51536, 65536, 131072, 131072, 262144, 524288] 22 (.take 0 (.take 1 (.take 2 (.take 3 (.take 4 (.take 5 (.take 6 (.take 7 (.take 8 (.take 9 (.take 10 (.take 11 (.take 12 (.take 13 (.take 14 (.take 15 (.only 16 (.take 17 (.take 18 (.take 19 (.take 20 (.take 21 .done))))))))))))))))))))))) (Ann.seq (Ann.seq Ann.leaf (Ann.cond (Ann.seq Ann.leaf Ann.leaf) Ann.leaf)) (Ann.seq Ann.leaf Ann.leaf)))))))
def F25_den (t0 : Value) (w : World) (R : Value → World → Prop) : Prop :=
  V Try.prog (Instr.box 64 t0) w fun t1 w1 =>
  V Try.prog (Instr.fieldAt 64 t1 5) w1 fun t7 w2 =>
  V Try.prog (Instr.loadAt 62 t7) w2 fun t8 w3 =>
  V Try.prog (Instr.indexAt 62 t8 (Value.int IntKind.i64 0)) w3 fun t9 w4 =>
  V Try.prog (Instr.loadAt 3 t9) w4 fun t10 w5 =>
  V Try.prog (Instr.loadAt 64 t1) w5 fun t11 w6 =>
  V Try.prog (Instr.fieldAt 64 t1 3) w6 fun t12 w7 =>
  V Try.prog (Instr.loadAt 3 t12) w7 fun t13 w8 =>
  V Try.prog (Instr.fieldAt 64 t1 4) w8 fun t14 w9 =>
  V Try.prog (Instr.loadAt 3 t14) w9 fun t15 w10 =>
  callD Try.prog 34 #[t11, (Value.int IntKind.i64 3), t13, t15, t10] w10 fun t17 w11 =>
  V Try.prog (binOp .lss 3 t10 (Value.int IntKind.i64 0)) w11 fun t19 w12 =>
  gd t19 false (fun K => K t10 w12) w12 fun t21 w13 =>
  gd t19 false (fun K => V Try.prog (binOp .gtr 3 t21 (Value.int IntKind.i64 64)) w13 K) w13 fun t22 w14 =>
  pickD t19 (Value.bool true) t22 fun t23 =>
  ifD t23 (
  R (.tuple #[(Value.int IntKind.i32 0), (Value.int IntKind.i64 28425)]) w14) (
  drawD w14 fun S5 w16 =>
  yieldS Try.prog S5 (Instr.fieldAt 64 t1 0) fun t25 =>
  yieldS Try.prog S5 (Instr.loadAt 23 t25) fun t26 =>
  Go.Vc.Safe (t26) ∧
  yieldS Try.prog S5 (Instr.fieldAt 59 t26 0) fun t28 =>
  yieldS Try.prog S5 (Instr.loadAt 29 t28) fun t29 =>
  yieldS Try.prog S5 (Instr.fieldAt 64 t1 2) fun t30 =>
  yieldS Try.prog S5 (Instr.loadAt 3 t30) fun t31 =>
  yieldS Try.prog S5 (Instr.fieldAt 64 t1 3) fun t32 =>
  yieldS Try.prog S5 (Instr.loadAt 3 t32) fun t33 =>
  yieldS Try.prog S5 (Instr.fieldAt 64 t1 4) fun t34 =>
  yieldS Try.prog S5 (Instr.loadAt 3 t34) fun t35 =>
  yieldS Try.prog S5 (binOp .and 3 t35 (Value.int IntKind.i64 3)) fun t36 =>
  yieldS Try.prog S5 (Instr.fieldAt 64 t1 4) fun t37 =>
  yieldS Try.prog S5 (Instr.loadAt 3 t37) fun t38 =>
  yieldS Try.prog S5 (binOp .geq 3 t38 (Value.int IntKind.i64 4)) fun t39 =>
  callD Try.prog 35 #[t29, t31, t33, t36, t39, t10] w16 fun t41 w17 =>
  S5 w17 ∧
  yieldS Try.prog S5 (Instr.extract t41 0) fun t42 =>
  yieldS Try.prog S5 (Instr.extract t41 1) fun t43 =>
  V Try.prog (Op.unary UnOp.not t43) w17 fun t45 w18 =>
  ifD t45 (
  R (.tuple #[(Value.int IntKind.i32 0), (Value.int IntKind.i64 28421)]) w18) (
  V Try.prog (convert 3 21 t42) w18 fun t47 w19 =>
  R (.tuple #[t47, (Value.int IntKind.i64 36864)]) w19))
theorem F25_eq (t0 : Value) (w : World) (R : Value → World → Prop) : F25_den t0 w R = vc Try.prog F25_ann (Try.f25.body.getD .skip) (retE Try.prog Try.f25.results.toList R) (argEnv [t0]) w := by kernel_rfl
theorem F25_wp {t0 : Value} {w : World} {R : Value → World → Prop} (h : F25_den t0 w R) : callD Try.prog 25 #[t0] w R :=
  callD.of_calls (fn := Try.f25) (c := Try.f25.body.getD .skip) Try.func25 (by kernel_rfl) (by kernel_rfl) (calls_of_vc (args := [t0]) F25_ann mixed Try.func25 (by kernel_rfl) (by kernel_rfl) (F25_eq t0 w R ▸ h))

/-- (taciturn/room.service).length -/
def F26_ann : Ann := (Ann.seq Ann.leaf (Ann.seq Ann.leaf (Ann.seq Ann.leaf (Ann.seq (Ann.seq (Ann.draw [0, 1, 2, 4, 8, 0, 0, 64, 176, 511] [0, 1, 2, 4, 8, 0, 0, 64, 176, 256] 10 (.take 0 (.take 1 (.take 2 (.take 3 (.take 4 (.take 5 (.take 6 (.take 7 (.only 8 (.take 9 .done))))))))))) (Ann.seq Ann.leaf (Ann.cond (Ann.seq Ann.leaf Ann.leaf) Ann.leaf))) (Ann.seq Ann.leaf (Ann.seq Ann.leaf Ann.leaf))))))
def F26_den (t0 : Value) (w : World) (R : Value → World → Prop) : Prop :=
  V Try.prog (Instr.box 64 t0) w fun t1 w1 =>
  V Try.prog (Instr.fieldAt 64 t1 5) w1 fun t8 w2 =>
  V Try.prog (Instr.loadAt 62 t8) w2 fun t9 w3 =>
  V Try.prog (Instr.indexAt 62 t9 (Value.int IntKind.i64 0)) w3 fun t10 w4 =>
  V Try.prog (Instr.loadAt 3 t10) w4 fun t11 w5 =>
  V Try.prog (Instr.loadAt 64 t1) w5 fun t12 w6 =>
  callD Try.prog 36 #[t12, t11, (Value.int IntKind.i64 0), (Value.int IntKind.i64 0)] w6 fun t14 w7 =>
  drawD w7 fun S3 w8 =>
  yieldS Try.prog S3 (Instr.fieldAt 64 t1 0) fun t15 =>
  yieldS Try.prog S3 (Instr.loadAt 23 t15) fun t16 =>
  Go.Vc.Safe (t16) ∧
  yieldS Try.prog S3 (Instr.fieldAt 59 t16 0) fun t18 =>
  yieldS Try.prog S3 (Instr.loadAt 29 t18) fun t19 =>
  yieldS Try.prog S3 (Instr.fieldAt 64 t1 2) fun t21 =>
  yieldS Try.prog S3 (Instr.loadAt 3 t21) fun t22 =>
  callD Try.prog 37 #[t19, t11, t22] w8 fun t23 w9 =>
  S3 w9 ∧
  V Try.prog (do eqGuard .neq 3 (Operand.tmp 24) (Operand.const (Value.int IntKind.i64 36864)) t23 (Value.int IntKind.i64 36864); binOp .neq 3 t23 (Value.int IntKind.i64 36864)) w9 fun t25 w10 =>
  ifD t25 (
  R (.tuple #[(Value.int IntKind.i32 0), t23]) w10) (
  V Try.prog (Instr.fieldAt 64 t1 0) w10 fun t28 w11 =>
  V Try.prog (Instr.loadAt 23 t28) w11 fun t29 w12 =>
  Go.Vc.Safe (t29) ∧
  V Try.prog (Instr.fieldAt 59 t29 0) w12 fun t31 w14 =>
  V Try.prog (Instr.loadAt 29 t31) w14 fun t32 w15 =>
  callD Try.prog 13 #[t32, t11] w15 fun t34 w16 =>
  V Try.prog (Instr.extract t34 0) w16 fun t35 w17 =>
  V Try.prog (Instr.extract t34 1) w17 fun t36 w18 =>
  V Try.prog (Instr.alloc 37 true (.tuple #[])) w18 fun t6 w19 =>
  U Try.prog (Instr.storeAt 37 t6 t35) w19 fun _ w20 =>
  V Try.prog (Instr.fieldAt 37 t6 4) w20 fun t37 w21 =>
  V Try.prog (Instr.loadAt 22 t37) w21 fun t38 w22 =>
  V Try.prog (Builtin.len_ #[22] 3 #[t38]) w22 fun t39 w23 =>
  V Try.prog (convert 3 21 t39) w23 fun t40 w24 =>
  R (.tuple #[t40, (Value.int IntKind.i64 36864)]) w24)
theorem F26_eq (t0 : Value) (w : World) (R : Value → World → Prop) : F26_den t0 w R = vc Try.prog F26_ann (Try.f26.body.getD .skip) (retE Try.prog Try.f26.results.toList R) (argEnv [t0]) w := by kernel_rfl
theorem F26_wp {t0 : Value} {w : World} {R : Value → World → Prop} (h : F26_den t0 w R) : callD Try.prog 26 #[t0] w R :=
  callD.of_calls (fn := Try.f26) (c := Try.f26.body.getD .skip) Try.func26 (by kernel_rfl) (by kernel_rfl) (calls_of_vc (args := [t0]) F26_ann mixed Try.func26 (by kernel_rfl) (by kernel_rfl) (F26_eq t0 w R ▸ h))

/-- (taciturn/room.service).get -/
def F27_ann : Ann := (Ann.seq Ann.leaf (Ann.seq (Ann.draw [0, 1, 2, 4, 0, 16, 32, 64, 15, 511] [0, 1, 2, 4, 0, 16, 32, 64, 8, 128] 10 (.take 0 (.take 1 (.take 2 (.take 3 (.take 4 (.take 5 (.take 6 (.take 7 (.take 8 (.take 9 .done))))))))))) (Ann.seq Ann.leaf (Ann.seq (Ann.seq Ann.leaf (Ann.seq Ann.leaf (Ann.cond (Ann.seq Ann.leaf Ann.leaf) Ann.leaf))) (Ann.seq Ann.leaf (Ann.seq Ann.leaf Ann.leaf))))))
def F27_den (t0 : Value) (w : World) (R : Value → World → Prop) : Prop :=
  V Try.prog (Instr.box 64 t0) w fun t1 w1 =>
  drawD w1 fun S1 w2 =>
  yieldS Try.prog S1 (Instr.fieldAt 64 t1 5) fun t9 =>
  yieldS Try.prog S1 (Instr.loadAt 62 t9) fun t10 =>
  yieldS Try.prog S1 (Instr.indexAt 62 t10 (Value.int IntKind.i64 0)) fun t11 =>
  yieldS Try.prog S1 (Instr.loadAt 3 t11) fun t12 =>
  yieldS Try.prog S1 (Instr.fieldAt 64 t1 5) fun t13 =>
  yieldS Try.prog S1 (Instr.loadAt 62 t13) fun t14 =>
  yieldS Try.prog S1 (Instr.indexAt 62 t14 (Value.int IntKind.i64 1)) fun t15 =>
  yieldS Try.prog S1 (Instr.loadAt 3 t15) fun t16 =>
  V Try.prog (Instr.loadAt 64 t1) w2 fun t17 w3 =>
  callD Try.prog 36 #[t17, t12, t16, (Value.int IntKind.i64 1)] w3 fun t20 w4 =>
  V Try.prog (Instr.loadAt 64 t1) w4 fun t21 w5 =>
  callD Try.prog 38 #[t21, t12, t16, (Value.int IntKind.i64 1)] w5 fun t24 w6 =>
  V Try.prog (do eqGuard .neq 3 (Operand.tmp 25) (Operand.const (Value.int IntKind.i64 36864)) t24 (Value.int IntKind.i64 36864); binOp .neq 3 t24 (Value.int IntKind.i64 36864)) w6 fun t26 w7 =>
  ifD t26 (
  R (.tuple #[(Value.int IntKind.i32 0), t24]) w7) (
  V Try.prog (Instr.fieldAt 64 t1 0) w7 fun t29 w8 =>
  V Try.prog (Instr.loadAt 23 t29) w8 fun t30 w9 =>
  Go.Vc.Safe (t30) ∧
  V Try.prog (Instr.fieldAt 59 t30 0) w9 fun t32 w11 =>
  V Try.prog (Instr.loadAt 29 t32) w11 fun t33 w12 =>
  callD Try.prog 39 #[t33, t12, t16] w12 fun t36 w13 =>
  V Try.prog (Instr.extract t36 0) w13 fun t37 w14 =>
  V Try.prog (Instr.extract t36 1) w14 fun t38 w15 =>
  V Try.prog (convert 5 21 t37) w15 fun t40 w16 =>
  R (.tuple #[t40, (Value.int IntKind.i64 36864)]) w16)
theorem F27_eq (t0 : Value) (w : World) (R : Value → World → Prop) : F27_den t0 w R = vc Try.prog F27_ann (Try.f27.body.getD .skip) (retE Try.prog Try.f27.results.toList R) (argEnv [t0]) w := by kernel_rfl
theorem F27_wp {t0 : Value} {w : World} {R : Value → World → Prop} (h : F27_den t0 w R) : callD Try.prog 27 #[t0] w R :=
  callD.of_calls (fn := Try.f27) (c := Try.f27.body.getD .skip) Try.func27 (by kernel_rfl) (by kernel_rfl) (calls_of_vc (args := [t0]) F27_ann mixed Try.func27 (by kernel_rfl) (by kernel_rfl) (F27_eq t0 w R ▸ h))

/-- (taciturn/room.service).put -/
def F28_ann : Ann := (Ann.seq Ann.leaf (Ann.seq (Ann.draw [0, 1, 2, 4, 0, 16, 32, 64, 15, 511] [0, 1, 2, 4, 0, 16, 32, 64, 8, 128] 10 (.take 0 (.take 1 (.take 2 (.take 3 (.take 4 (.take 5 (.take 6 (.take 7 (.take 8 (.take 9 .done))))))))))) (Ann.seq Ann.leaf (Ann.seq (Ann.seq Ann.leaf (Ann.seq Ann.leaf (Ann.cond (Ann.seq Ann.leaf Ann.leaf) Ann.leaf))) (Ann.seq (Ann.draw [0, 1, 2, 4, 8, 0, 0, 0, 128, 256, 512, 1024, 2160] [0, 1, 2, 4, 8, 0, 0, 0, 128, 256, 512, 1024, 2160] 13 (.take 0 (.take 1 (.take 2 (.take 3 (.take 4 (.take 5 (.take 6 (.take 7 (.take 8 (.take 9 (.take 10 (.take 11 (.only 12 .done)))))))))))))) (Ann.seq Ann.leaf Ann.leaf))))))
def F28_den (t0 : Value) (w : World) (R : Value → World → Prop) : Prop :=
  V Try.prog (Instr.box 64 t0) w fun t1 w1 =>
  drawD w1 fun S1 w2 =>
  yieldS Try.prog S1 (Instr.fieldAt 64 t1 5) fun t7 =>
  yieldS Try.prog S1 (Instr.loadAt 62 t7) fun t8 =>
  yieldS Try.prog S1 (Instr.indexAt 62 t8 (Value.int IntKind.i64 0)) fun t9 =>
  yieldS Try.prog S1 (Instr.loadAt 3 t9) fun t10 =>
  yieldS Try.prog S1 (Instr.fieldAt 64 t1 5) fun t11 =>
  yieldS Try.prog S1 (Instr.loadAt 62 t11) fun t12 =>
  yieldS Try.prog S1 (Instr.indexAt 62 t12 (Value.int IntKind.i64 1)) fun t13 =>
  yieldS Try.prog S1 (Instr.loadAt 3 t13) fun t14 =>
  V Try.prog (Instr.loadAt 64 t1) w2 fun t15 w3 =>
  callD Try.prog 36 #[t15, t10, t14, (Value.int IntKind.i64 1)] w3 fun t18 w4 =>
  V Try.prog (Instr.loadAt 64 t1) w4 fun t19 w5 =>
  callD Try.prog 38 #[t19, t10, t14, (Value.int IntKind.i64 1)] w5 fun t22 w6 =>
  V Try.prog (do eqGuard .neq 3 (Operand.tmp 23) (Operand.const (Value.int IntKind.i64 36864)) t22 (Value.int IntKind.i64 36864); binOp .neq 3 t22 (Value.int IntKind.i64 36864)) w6 fun t24 w7 =>
  ifD t24 (
  R (.tuple #[(Value.int IntKind.i32 0), t22]) w7) (
  drawD w7 fun S6 w8 =>
  yieldS Try.prog S6 (Instr.fieldAt 64 t1 0) fun t26 =>
  yieldS Try.prog S6 (Instr.loadAt 23 t26) fun t27 =>
  Go.Vc.Safe (t27) ∧
  yieldS Try.prog S6 (Instr.fieldAt 59 t27 0) fun t29 =>
  yieldS Try.prog S6 (Instr.loadAt 29 t29) fun t30 =>
  yieldS Try.prog S6 (Instr.fieldAt 64 t1 5) fun t33 =>
  yieldS Try.prog S6 (Instr.loadAt 62 t33) fun t34 =>
  yieldS Try.prog S6 (Instr.indexAt 62 t34 (Value.int IntKind.i64 2)) fun t35 =>
  yieldS Try.prog S6 (Instr.loadAt 3 t35) fun t36 =>
  yieldS Try.prog S6 (convert 3 5 t36) fun t37 =>
  callD Try.prog 40 #[t30, t10, t14, t37] w8 fun t38 w9 =>
  S6 w9 ∧
  R (.tuple #[(Value.int IntKind.i32 0), (Value.int IntKind.i64 36864)]) w9)
theorem F28_eq (t0 : Value) (w : World) (R : Value → World → Prop) : F28_den t0 w R = vc Try.prog F28_ann (Try.f28.body.getD .skip) (retE Try.prog Try.f28.results.toList R) (argEnv [t0]) w := by kernel_rfl
theorem F28_wp {t0 : Value} {w : World} {R : Value → World → Prop} (h : F28_den t0 w R) : callD Try.prog 28 #[t0] w R :=
  callD.of_calls (fn := Try.f28) (c := Try.f28.body.getD .skip) Try.func28 (by kernel_rfl) (by kernel_rfl) (calls_of_vc (args := [t0]) F28_ann mixed Try.func28 (by kernel_rfl) (by kernel_rfl) (F28_eq t0 w R ▸ h))

/-- (taciturn/room.service).copy -/
def F29_ann : Ann := (Ann.seq Ann.leaf (Ann.seq (Ann.seq Ann.leaf (Ann.seq Ann.leaf (Ann.cond (Ann.seq Ann.leaf Ann.leaf) Ann.leaf))) (Ann.seq Ann.leaf (Ann.seq (Ann.seq (Ann.draw [0, 0, 2, 4, 0, 16, 32, 0, 128, 256, 585, 1024, 0] [0, 0, 2, 4, 0, 16, 32, 0, 128, 256, 585, 1024, 0] 13 (.take 0 (.take 1 (.take 2 (.take 3 (.take 4 (.take 5 (.take 6 (.take 7 (.take 8 (.take 9 (.take 12 (.only 10 (.take 11 .done)))))))))))))) (Ann.block (Ann.loop [6, 7, 27, 28, 29, 30, 31, 32, 33, 34, 35, 36, 37, 38, 39, 40, 41, 42, 43, 44, 45, 46, 47] [27] (Ann.seq Ann.leaf (Ann.seq (Ann.cond Ann.leaf Ann.leaf) (Ann.seq (Ann.block (Ann.seq Ann.leaf (Ann.draw [0, 1, 2, 4, 8, 0, 32, 64, 0, 256, 512, 0, 3072, 0, 12432] [0, 1, 2, 4, 8, 0, 32, 64, 0, 256, 512, 0, 3072, 0, 12432] 15 (.take 0 (.take 1 (.take 2 (.take 3 (.take 4 (.take 5 (.take 6 (.take 7 (.take 8 (.take 9 (.take 10 (.take 11 (.take 12 (.take 13 (.only 14 .done)))))))))))))))))) Ann.leaf)))))) (Ann.seq Ann.leaf Ann.leaf)))))
def F29_den (t0 : Value) (w : World) (R : Value → World → Prop) : Prop :=
  V Try.prog (Instr.box 64 t0) w fun t1 w1 =>
  V Try.prog (Instr.loadAt 64 t1) w1 fun t8 w2 =>
  callD Try.prog 41 #[t8] w2 fun t9 w3 =>
  V Try.prog (do eqGuard .neq 3 (Operand.tmp 10) (Operand.const (Value.int IntKind.i64 36864)) t9 (Value.int IntKind.i64 36864); binOp .neq 3 t9 (Value.int IntKind.i64 36864)) w3 fun t11 w4 =>
  ifD t11 (
  R (.tuple #[(Value.int IntKind.i32 0), t9]) w4) (
  V Try.prog (Instr.fieldAt 64 t1 5) w4 fun t13 w5 =>
  V Try.prog (Instr.loadAt 62 t13) w5 fun t14 w6 =>
  drawD w6 fun S5 w7 =>
  yieldS Try.prog S5 (Instr.loadAt 64 t1) fun t15 =>
  yieldS Try.prog S5 (Instr.indexAt 62 t14 (Value.int IntKind.i64 2)) fun t17 =>
  yieldS Try.prog S5 (Instr.loadAt 3 t17) fun t18 =>
  yieldS Try.prog S5 (Instr.indexAt 62 t14 (Value.int IntKind.i64 3)) fun t20 =>
  yieldS Try.prog S5 (Instr.loadAt 3 t20) fun t21 =>
  yieldS Try.prog S5 (Instr.indexAt 62 t14 (Value.int IntKind.i64 4)) fun t23 =>
  yieldS Try.prog S5 (Instr.loadAt 3 t23) fun t24 =>
  callD Try.prog 42 #[t15, t18, t21, t24] w7 fun t25 w8 =>
  S5 w8 ∧
  yieldS Try.prog S5 (Builtin.len_ #[22] 3 #[t25]) fun t26 =>
  ∃ (I1 : NP 1) (μ1 : NF 1), I1 (Value.int IntKind.i64 0) w8 ∧
  ∀ (t27 : Value), ∀ w9 : World, I1 t27 w9 → ∀ _f : Env,
  V Try.prog (binOp .lss 3 t27 t26) w9 fun t28 w10 =>
  ifD t28 (
  V Try.prog (Instr.indexAt 22 t25 t27) w10 fun t30 w11 =>
  V Try.prog (Instr.loadAt 5 t30) w11 fun t31 w12 =>
  drawD w12 fun S8 w13 =>
  yieldS Try.prog S8 (Instr.fieldAt 64 t1 0) fun t32 =>
  yieldS Try.prog S8 (Instr.loadAt 23 t32) fun t33 =>
  Go.Vc.Safe (t33) ∧
  yieldS Try.prog S8 (Instr.fieldAt 59 t33 0) fun t35 =>
  yieldS Try.prog S8 (Instr.loadAt 29 t35) fun t36 =>
  yieldS Try.prog S8 (Instr.indexAt 62 t14 (Value.int IntKind.i64 0)) fun t38 =>
  yieldS Try.prog S8 (Instr.loadAt 3 t38) fun t39 =>
  yieldS Try.prog S8 (Instr.indexAt 62 t14 (Value.int IntKind.i64 1)) fun t41 =>
  yieldS Try.prog S8 (Instr.loadAt 3 t41) fun t42 =>
  yieldS Try.prog S8 (binOp .add 3 t42 t27) fun t44 =>
  callD Try.prog 40 #[t36, t39, t44, t31] w13 fun t46 w14 =>
  S8 w14 ∧
  V Try.prog (binOp .add 3 t27 (Value.int IntKind.i64 1)) w14 fun t47 w15 =>
  I1 t47 w15 ∧ μ1 t47 w15 < μ1 t27 w9) (
  R (.tuple #[(Value.int IntKind.i32 0), (Value.int IntKind.i64 36864)]) w10))
theorem F29_eq (t0 : Value) (w : World) (R : Value → World → Prop) : F29_den t0 w R = vc Try.prog F29_ann (Try.f29.body.getD .skip) (retE Try.prog Try.f29.results.toList R) (argEnv [t0]) w := by kernel_rfl
theorem F29_wp {t0 : Value} {w : World} {R : Value → World → Prop} (h : F29_den t0 w R) : callD Try.prog 29 #[t0] w R :=
  callD.of_calls (fn := Try.f29) (c := Try.f29.body.getD .skip) Try.func29 (by kernel_rfl) (by kernel_rfl) (calls_of_vc (args := [t0]) F29_ann mixed Try.func29 (by kernel_rfl) (by kernel_rfl) (F29_eq t0 w R ▸ h))

/-- (taciturn/room.service).same -/
def F30_ann : Ann := (Ann.seq Ann.leaf (Ann.seq (Ann.seq Ann.leaf (Ann.seq Ann.leaf (Ann.cond (Ann.seq Ann.leaf Ann.leaf) Ann.leaf))) (Ann.seq Ann.leaf (Ann.seq (Ann.draw [0, 0, 2, 4, 0, 16, 32, 0, 128, 256, 585, 0, 0, 4096, 8192, 0, 32768, 65536, 0, 262144, 524288, 1199104, 2098176, 8388607, 16777215] [0, 0, 2, 4, 0, 16, 32, 0, 128, 256, 585, 0, 0, 4096, 8192, 0, 32768, 65536, 0, 262144, 524288, 1198080, 2098176, 4194304, 0] 25 (.take 0 (.take 1 (.take 2 (.take 3 (.take 4 (.take 5 (.take 6 (.take 7 (.take 8 (.take 9 (.take 11 (.take 12 (.take 13 (.take 14 (.take 15 (.take 16 (.take 17 (.take 18 (.take 19 (.take 20 (.only 10 (.only 21 (.only 22 (.take 23 (.take 24 .done)))))))))))))))))))))))))) Ann.leaf))))
def F30_den (t0 : Value) (w : World) (R : Value → World → Prop) : Prop :=
  V Try.prog (Instr.box 64 t0) w fun t1 w1 =>
  V Try.prog (Instr.loadAt 64 t1) w1 fun t6 w2 =>
  callD Try.prog 41 #[t6] w2 fun t7 w3 =>
  V Try.prog (do eqGuard .neq 3 (Operand.tmp 8) (Operand.const (Value.int IntKind.i64 36864)) t7 (Value.int IntKind.i64 36864); binOp .neq 3 t7 (Value.int IntKind.i64 36864)) w3 fun t9 w4 =>
  ifD t9 (
  R (.tuple #[(Value.int IntKind.i32 0), t7]) w4) (
  V Try.prog (Instr.fieldAt 64 t1 5) w4 fun t11 w5 =>
  V Try.prog (Instr.loadAt 62 t11) w5 fun t12 w6 =>
  drawD w6 fun S5 w7 =>
  yieldS Try.prog S5 (Instr.loadAt 64 t1) fun t13 =>
  yieldS Try.prog S5 (Instr.indexAt 62 t12 (Value.int IntKind.i64 0)) fun t15 =>
  yieldS Try.prog S5 (Instr.loadAt 3 t15) fun t16 =>
  yieldS Try.prog S5 (Instr.indexAt 62 t12 (Value.int IntKind.i64 1)) fun t18 =>
  yieldS Try.prog S5 (Instr.loadAt 3 t18) fun t19 =>
  yieldS Try.prog S5 (Instr.indexAt 62 t12 (Value.int IntKind.i64 4)) fun t21 =>
  yieldS Try.prog S5 (Instr.loadAt 3 t21) fun t22 =>
  yieldS Try.prog S5 (Instr.loadAt 64 t1) fun t24 =>
  yieldS Try.prog S5 (Instr.indexAt 62 t12 (Value.int IntKind.i64 2)) fun t26 =>
  yieldS Try.prog S5 (Instr.loadAt 3 t26) fun t27 =>
  yieldS Try.prog S5 (Instr.indexAt 62 t12 (Value.int IntKind.i64 3)) fun t29 =>
  yieldS Try.prog S5 (Instr.loadAt 3 t29) fun t30 =>
  yieldS Try.prog S5 (Instr.indexAt 62 t12 (Value.int IntKind.i64 4)) fun t32 =>
  yieldS Try.prog S5 (Instr.loadAt 3 t32) fun t33 =>
  callD Try.prog 42 #[t13, t16, t19, t22] w7 fun t23 w8 =>
  S5 w8 ∧
  callD Try.prog 42 #[t24, t27, t30, t33] w8 fun t34 w9 =>
  S5 w9 ∧
  callD Try.prog 43 #[t23, t34] w9 fun t35 w10 =>
  S5 w10 ∧
  R (.tuple #[t35, (Value.int IntKind.i64 36864)]) w10)
theorem F30_eq (t0 : Value) (w : World) (R : Value → World → Prop) : F30_den t0 w R = vc Try.prog F30_ann (Try.f30.body.getD .skip) (retE Try.prog Try.f30.results.toList R) (argEnv [t0]) w := by kernel_rfl
theorem F30_wp {t0 : Value} {w : World} {R : Value → World → Prop} (h : F30_den t0 w R) : callD Try.prog 30 #[t0] w R :=
  callD.of_calls (fn := Try.f30) (c := Try.f30.body.getD .skip) Try.func30 (by kernel_rfl) (by kernel_rfl) (calls_of_vc (args := [t0]) F30_ann mixed Try.func30 (by kernel_rfl) (by kernel_rfl) (F30_eq t0 w R ▸ h))

/-- (taciturn/room.service).send -/
def F31_ann : Ann := (Ann.seq Ann.leaf (Ann.seq (Ann.draw [0, 1, 2, 4, 0, 16, 32, 64, 0, 256, 512, 1024, 15, 4351, 16383] [0, 1, 2, 4, 0, 16, 32, 64, 0, 256, 512, 1024, 8, 128, 2048] 15 (.take 0 (.take 1 (.take 2 (.take 3 (.take 4 (.take 5 (.take 6 (.take 7 (.take 8 (.take 9 (.take 10 (.take 11 (.take 12 (.take 13 (.take 14 .done)))))))))))))))) (Ann.seq Ann.leaf (Ann.seq (Ann.seq Ann.leaf (Ann.seq Ann.leaf (Ann.cond (Ann.seq Ann.leaf Ann.leaf) Ann.leaf))) (Ann.seq Ann.leaf (Ann.join [8, 38, 39, 40, 41, 42, 43, 44] [8] (Ann.seq Ann.leaf (Ann.cond Ann.leaf Ann.leaf)) (Ann.seq (Ann.seq Ann.leaf (Ann.cond (Ann.seq Ann.leaf Ann.leaf) Ann.leaf)) (Ann.seq (Ann.draw [0, 0, 2, 4, 0, 0, 0, 0, 240, 264, 1023, 2047] [0, 0, 2, 4, 0, 0, 0, 0, 240, 264, 1, 1536] 11 (.take 0 (.take 1 (.take 2 (.take 3 (.take 4 (.take 5 (.take 6 (.take 7 (.only 8 (.only 9 (.take 10 (.last 11))))))))))))) (Ann.seq Ann.leaf Ann.leaf)))))))))
def F31_den (t0 : Value) (w : World) (R : Value → World → Prop) : Prop :=
  V Try.prog (Instr.box 64 t0) w fun t1 w1 =>
  drawD w1 fun S1 w2 =>
  yieldS Try.prog S1 (Instr.fieldAt 64 t1 5) fun t9 =>
  yieldS Try.prog S1 (Instr.loadAt 62 t9) fun t10 =>
  yieldS Try.prog S1 (Instr.indexAt 62 t10 (Value.int IntKind.i64 0)) fun t11 =>
  yieldS Try.prog S1 (Instr.loadAt 3 t11) fun t12 =>
  yieldS Try.prog S1 (Instr.fieldAt 64 t1 5) fun t13 =>
  yieldS Try.prog S1 (Instr.loadAt 62 t13) fun t14 =>
  yieldS Try.prog S1 (Instr.indexAt 62 t14 (Value.int IntKind.i64 1)) fun t15 =>
  yieldS Try.prog S1 (Instr.loadAt 3 t15) fun t16 =>
  yieldS Try.prog S1 (Instr.fieldAt 64 t1 5) fun t17 =>
  yieldS Try.prog S1 (Instr.loadAt 62 t17) fun t18 =>
  yieldS Try.prog S1 (Instr.indexAt 62 t18 (Value.int IntKind.i64 2)) fun t19 =>
  yieldS Try.prog S1 (Instr.loadAt 3 t19) fun t20 =>
  V Try.prog (Instr.loadAt 64 t1) w2 fun t21 w3 =>
  callD Try.prog 36 #[t21, t12, t16, t20] w3 fun t25 w4 =>
  V Try.prog (Instr.loadAt 64 t1) w4 fun t26 w5 =>
  callD Try.prog 38 #[t26, t12, t16, t20] w5 fun t30 w6 =>
  V Try.prog (do eqGuard .neq 3 (Operand.tmp 31) (Operand.const (Value.int IntKind.i64 36864)) t30 (Value.int IntKind.i64 36864); binOp .neq 3 t30 (Value.int IntKind.i64 36864)) w6 fun t32 w7 =>
  ifD t32 (
  R (.tuple #[(Value.int IntKind.i32 0), t30]) w7) (
  V Try.prog (Instr.fieldAt 64 t1 0) w7 fun t34 w8 =>
  V Try.prog (Instr.loadAt 23 t34) w8 fun t35 w9 =>
  Go.Vc.Safe (t35) ∧
  V Try.prog (Instr.fieldAt 59 t35 3) w9 fun t37 w11 =>
  ∃ J1 : NP 1,
  (V Try.prog (Instr.fieldAt 64 t1 3) w11 fun t38 w12 =>
  V Try.prog (Instr.loadAt 3 t38) w12 fun t39 w13 =>
  V Try.prog (do eqGuard .neq 3 (Operand.tmp 39) (Operand.const (Value.int IntKind.i64 1)) t39 (Value.int IntKind.i64 1); binOp .neq 3 t39 (Value.int IntKind.i64 1)) w13 fun t40 w14 =>
  ifD t40 (
  V Try.prog (Instr.fieldAt 64 t1 0) w14 fun t41 w15 =>
  V Try.prog (Instr.loadAt 23 t41) w15 fun t42 w16 =>
  Go.Vc.Safe (t42) ∧
  V Try.prog (Instr.fieldAt 59 t42 4) w16 fun t44 w18 =>
  J1 t44 w18) (
  J1 t37 w14)) ∧
  ∀ (t8 : Value), ∀ w19 : World, J1 t8 w19 → ∀ _f : Env,
  Go.Vc.Safe (t8) ∧
  V Try.prog (Instr.loadAt 22 t8) w19 fun t47 w21 =>
  V Try.prog (Builtin.len_ #[22] 3 #[t47]) w21 fun t48 w22 =>
  V Try.prog (binOp .add 3 t48 t20) w22 fun t50 w23 =>
  V Try.prog (binOp .gtr 3 t50 (Value.int IntKind.i64 128)) w23 fun t51 w24 =>
  ifD t51 (
  R (.tuple #[(Value.int IntKind.i32 0), (Value.int IntKind.i64 28425)]) w24) (
  drawD w24 fun S11 w25 =>
  Go.Vc.Safe (t8) ∧
  yieldS Try.prog S11 (Instr.loadAt 22 t8) fun t55 =>
  yieldS Try.prog S11 (Instr.loadAt 64 t1) fun t56 =>
  callD Try.prog 42 #[t56, t12, t16, t20] w25 fun t60 w26 =>
  S11 w26 ∧
  V Try.prog (Builtin.append_ #[22, 22] 22 #[t55, t60]) w26 fun t61 w27 =>
  S11 w27 ∧
  Go.Vc.Safe (t8) ∧
  U Try.prog (Instr.storeAt 22 t8 t61) w27 fun _ w28 =>
  R (.tuple #[(Value.int IntKind.i32 0), (Value.int IntKind.i64 36864)]) w28))
theorem F31_eq (t0 : Value) (w : World) (R : Value → World → Prop) : F31_den t0 w R = vc Try.prog F31_ann (Try.f31.body.getD .skip) (retE Try.prog Try.f31.results.toList R) (argEnv [t0]) w := by kernel_rfl
theorem F31_wp {t0 : Value} {w : World} {R : Value → World → Prop} (h : F31_den t0 w R) : callD Try.prog 31 #[t0] w R :=
  callD.of_calls (fn := Try.f31) (c := Try.f31.body.getD .skip) Try.func31 (by kernel_rfl) (by kernel_rfl) (calls_of_vc (args := [t0]) F31_ann mixed Try.func31 (by kernel_rfl) (by kernel_rfl) (F31_eq t0 w R ▸ h))

/-- (*taciturn/heap.Heap).at -/
def F32_ann : Ann := (Ann.seq Ann.leaf (Ann.seq (Ann.seq Ann.leaf (Ann.cond (Ann.seq Ann.leaf Ann.leaf) Ann.leaf)) (Ann.seq Ann.leaf Ann.leaf)))
def F32_den (t0 : Value) (t1 : Value) (w : World) (R : Value → World → Prop) : Prop :=
  V Try.prog (binOp .lss 3 t1 (Value.int IntKind.i64 1)) w fun t6 w1 =>
  gd t6 false (fun K => K t1 w1) w1 fun t8 w2 =>
  gd t6 false (fun K => K t0 w2) w2 fun t9 w3 =>
  gd t6 false (fun K => (Go.Vc.Safe (t9) ∧ K (t9) w3)) w3 fun t10 w4 =>
  gd t6 false (fun K => V Try.prog (Instr.fieldAt 74 t10 1) w4 K) w4 fun t11 w5 =>
  gd t6 false (fun K => V Try.prog (Instr.loadAt 72 t11) w5 K) w5 fun t12 w6 =>
  gd t6 false (fun K => V Try.prog (Builtin.len_ #[72] 3 #[t12]) w6 K) w6 fun t13 w7 =>
  gd t6 false (fun K => V Try.prog (binOp .gtr 3 t8 t13) w7 K) w7 fun t14 w8 =>
  pickD t6 (Value.bool true) t14 fun t15 =>
  ifD t15 (
  R (Value.pointer none) w8) (
  Go.Vc.Safe (t0) ∧
  V Try.prog (Instr.fieldAt 74 t0 1) w8 fun t18 w11 =>
  V Try.prog (Instr.loadAt 72 t18) w11 fun t19 w12 =>
  V Try.prog (binOp .sub 3 t1 (Value.int IntKind.i64 1)) w12 fun t21 w13 =>
  V Try.prog (Instr.indexAt 72 t19 t21) w13 fun t22 w14 =>
  R t22 w14)
theorem F32_eq (t0 : Value) (t1 : Value) (w : World) (R : Value → World → Prop) : F32_den t0 t1 w R = vc Try.prog F32_ann (Try.f32.body.getD .skip) (retE Try.prog Try.f32.results.toList R) (argEnv [t0, t1]) w := by kernel_rfl
theorem F32_wp {t0 : Value} {t1 : Value} {w : World} {R : Value → World → Prop} (h : F32_den t0 t1 w R) : callD Try.prog 32 #[t0, t1] w R :=
  callD.of_calls (fn := Try.f32) (c := Try.f32.body.getD .skip) Try.func32 (by kernel_rfl) (by kernel_rfl) (calls_of_vc (args := [t0, t1]) F32_ann mixed Try.func32 (by kernel_rfl) (by kernel_rfl) (F32_eq t0 t1 w R ▸ h))

/-- slices.Clone[[]byte,byte] -/
def F33_ann : Ann := (Ann.seq Ann.leaf (Ann.seq (Ann.seq Ann.leaf (Ann.cond (Ann.seq Ann.leaf Ann.leaf) Ann.leaf)) (Ann.seq Ann.leaf Ann.leaf)))
def F33_den (t0 : Value) (w : World) (R : Value → World → Prop) : Prop :=
  V Try.prog (do eqGuard .eql 22 (Operand.tmp 3) (Operand.const (Value.slice none 0 0)) t0 (Value.slice none 0 0); binOp .eql 22 t0 (Value.slice none 0 0)) w fun t4 w1 =>
  ifD t4 (
  R (Value.slice none 0 0) w1) (
  V Try.prog (Instr.buildSlice 22 0 #[]) w1 fun t5 w2 =>
  V Try.prog (Builtin.append_ #[22, 22] 22 #[t5, t0]) w2 fun t7 w3 =>
  R t7 w3)
theorem F33_eq (t0 : Value) (w : World) (R : Value → World → Prop) : F33_den t0 w R = vc Try.prog F33_ann (Try.f33.body.getD .skip) (retE Try.prog Try.f33.results.toList R) (argEnv [t0]) w := by kernel_rfl
theorem F33_wp {t0 : Value} {w : World} {R : Value → World → Prop} (h : F33_den t0 w R) : callD Try.prog 33 #[t0] w R :=
  callD.of_calls (fn := Try.f33) (c := Try.f33.body.getD .skip) Try.func33 (by kernel_rfl) (by kernel_rfl) (calls_of_vc (args := [t0]) F33_ann mixed Try.func33 (by kernel_rfl) (by kernel_rfl) (F33_eq t0 w R ▸ h))

/-- (taciturn/room.service).shows -/
def F34_ann : Ann := (Ann.seq Ann.leaf (Ann.seq Ann.leaf (Ann.cond Ann.leaf Ann.leaf)))
def F34_den (t0 : Value) (t1 : Value) (t2 : Value) (t3 : Value) (t4 : Value) (w : World) (R : Value → World → Prop) : Prop :=
  V Try.prog (Instr.box 64 t0) w fun t5 w1 =>
  V Try.prog (Instr.fieldAt 64 t5 1) w1 fun t10 w2 =>
  V Try.prog (Instr.loadAt 61 t10) w2 fun t11 w3 =>
  V Try.prog (do eqGuard .neq 61 (Operand.tmp 11) (Operand.const (Value.pointer none)) t11 (Value.pointer none); binOp .neq 61 t11 (Value.pointer none)) w3 fun t12 w4 =>
  ifD t12 (
  V Try.prog (Instr.fieldAt 64 t5 1) w4 fun t13 w5 =>
  V Try.prog (Instr.loadAt 61 t13) w5 fun t14 w6 =>
  callD Try.prog 44 #[t14, t1, t2, t3, t4] w6 fun t19 w7 =>
  R (.tuple #[]) w7) (
  R (.tuple #[]) w4)
theorem F34_eq (t0 : Value) (t1 : Value) (t2 : Value) (t3 : Value) (t4 : Value) (w : World) (R : Value → World → Prop) : F34_den t0 t1 t2 t3 t4 w R = vc Try.prog F34_ann (Try.f34.body.getD .skip) (retE Try.prog Try.f34.results.toList R) (argEnv [t0, t1, t2, t3, t4]) w := by kernel_rfl
theorem F34_wp {t0 : Value} {t1 : Value} {t2 : Value} {t3 : Value} {t4 : Value} {w : World} {R : Value → World → Prop} (h : F34_den t0 t1 t2 t3 t4 w R) : callD Try.prog 34 #[t0, t1, t2, t3, t4] w R :=
  callD.of_calls (fn := Try.f34) (c := Try.f34.body.getD .skip) Try.func34 (by kernel_rfl) (by kernel_rfl) (calls_of_vc (args := [t0, t1, t2, t3, t4]) F34_ann mixed Try.func34 (by kernel_rfl) (by kernel_rfl) (F34_eq t0 t1 t2 t3 t4 w R ▸ h))

/-- (*taciturn/heap.Heap).Alloc -/
def F35_ann : Ann := (Ann.seq Ann.leaf (Ann.seq (Ann.seq (Ann.draw [0, 1, 2, 4, 12, 20, 36, 64, 192, 320, 576, 1024, 3072, 5120, 9216, 16384, 49152, 81920, 147456, 262144, 786432, 1310720, 2359296, 4194304, 12582912, 4194304, 37748736, 71303168, 138412032, 4194304, 541065216, 1346371584, 2168455168, 4299161600] [0, 1, 2, 4, 12, 20, 32, 64, 192, 320, 512, 1024, 3072, 5120, 8192, 16384, 49152, 81920, 131072, 262144, 786432, 1310720, 2097152, 4194304, 12582912, 4194304, 37748736, 71303168, 138412032, 4194304, 541065216, 1346371584, 2168455168, 4299161600] 34 (.take 0 (.take 1 (.take 2 (.take 3 (.take 4 (.take 5 (.take 6 (.take 7 (.take 8 (.take 9 (.take 10 (.take 11 (.take 12 (.take 13 (.take 14 (.take 15 (.take 16 (.take 17 (.take 18 (.take 19 (.take 20 (.take 21 (.take 22 (.take 23 (.take 24 (.take 25 (.take 26 (.take 27 (.take 28 (.take 29 (.only 30 (.take 31 (.take 32 (.take 33 .done))))))))))))))))))))))))))))))))))) (Ann.cond (Ann.seq Ann.leaf Ann.leaf) Ann.leaf)) (Ann.seq (Ann.draw [0, 0, 2, 4, 8, 0, 0, 0, 0, 0, 512, 1504, 2048, 4112, 16383, 32767, 49151] [0, 0, 2, 4, 8, 0, 0, 0, 0, 0, 512, 1504, 2048, 4112, 1, 16384, 40960] 16 (.take 0 (.take 1 (.take 2 (.take 3 (.take 4 (.take 5 (.take 6 (.take 7 (.take 8 (.take 9 (.only 10 (.take 11 (.only 12 (.only 13 (.take 14 (.take 15 (.last 16)))))))))))))))))) (Ann.seq Ann.leaf Ann.leaf))))
def F35_den (t0 : Value) (t1 : Value) (t2 : Value) (t3 : Value) (t4 : Value) (t5 : Value) (w : World) (R : Value → World → Prop) : Prop :=
  drawD w fun S1 w1 =>
  yieldS Try.prog S1 (do eqGuard .neq 3 (Operand.tmp 14) (Operand.const (Value.int IntKind.i64 3)) t2 (Value.int IntKind.i64 3); binOp .neq 3 t2 (Value.int IntKind.i64 3)) fun t15 =>
  gdY t15 true (fun K => K t2) fun t17 =>
  gdY t15 true (fun K => yieldS Try.prog S1 (do eqGuard .neq 3 (Operand.tmp 17) (Operand.const (Value.int IntKind.i64 4)) t17 (Value.int IntKind.i64 4); binOp .neq 3 t17 (Value.int IntKind.i64 4)) K) fun t18 =>
  pickD t15 t18 (Value.bool false) fun t19 =>
  gdY t19 false (fun K => K t3) fun t21 =>
  gdY t19 false (fun K => yieldS Try.prog S1 (binOp .lss 3 t21 (Value.int IntKind.i64 0)) K) fun t22 =>
  pickD t19 (Value.bool true) t22 fun t23 =>
  gdY t23 false (fun K => K t3) fun t25 =>
  gdY t23 false (fun K => yieldS Try.prog S1 (binOp .gtr 3 t25 (Value.int IntKind.i64 2)) K) fun t26 =>
  pickD t23 (Value.bool true) t26 fun t27 =>
  gdY t27 false (fun K => K t5) fun t29 =>
  gdY t27 false (fun K => yieldS Try.prog S1 (binOp .lss 3 t29 (Value.int IntKind.i64 0)) K) fun t30 =>
  pickD t27 (Value.bool true) t30 fun t31 =>
  gdY t31 false (fun K => K t5) fun t33 =>
  gdY t31 false (fun K => yieldS Try.prog S1 (binOp .gtr 3 t33 (Value.int IntKind.i64 64)) K) fun t34 =>
  pickD t31 (Value.bool true) t34 fun t35 =>
  gdY t35 false (fun K => K t5) fun t37 =>
  gdY t35 false (fun K => yieldS Try.prog S1 (binOp .add 3 (Value.int IntKind.i64 8) t37) K) fun t38 =>
  gdY t35 false (fun K => K t0) fun t39 =>
  gdY t35 false (fun K => (Go.Vc.Safe (t39) ∧ K (t39))) fun t40 =>
  gdY t35 false (fun K => yieldS Try.prog S1 (Instr.fieldAt 74 t40 0) K) fun t41 =>
  gdY t35 false (fun K => yieldS Try.prog S1 (Instr.loadAt 3 t41) K) fun t42 =>
  gdY t35 false (fun K => K t0) fun t43 =>
  gd t35 false (fun K => callD Try.prog 45 #[t43] w1 K) w1 fun t44 w2 =>
  S1 w2 ∧
  gdY t35 false (fun K => yieldS Try.prog S1 (binOp .sub 3 t42 t44) K) fun t45 =>
  gdY t35 false (fun K => yieldS Try.prog S1 (binOp .gtr 3 t38 t45) K) fun t46 =>
  pickD t35 (Value.bool true) t46 fun t47 =>
  ifD t47 (
  R (.tuple #[(Value.int IntKind.i64 0), (Value.bool false)]) w2) (
  drawD w2 fun S3 w3 =>
  Go.Vc.Safe (t0) ∧
  yieldS Try.prog S3 (Instr.fieldAt 74 t0 1) fun t51 =>
  yieldS Try.prog S3 (Instr.loadAt 72 t51) fun t52 =>
  V Try.prog (Instr.makeSlice 22 t5 t5) w3 fun t58 w4 =>
  S3 w4 ∧
  yieldS Try.prog S3 (Instr.build 37 #[(0, t1), (1, t2), (2, t3), (3, t4), (4, t58)]) fun t59 =>
  V Try.prog (Instr.buildSlice 72 1 #[(0, t59)]) w4 fun t60 w5 =>
  S3 w5 ∧
  V Try.prog (Builtin.append_ #[72, 72] 72 #[t52, t60]) w5 fun t61 w6 =>
  S3 w6 ∧
  Go.Vc.Safe (t0) ∧
  yieldS Try.prog S3 (Instr.fieldAt 74 t0 1) fun t63 =>
  U Try.prog (Instr.storeAt 72 t63 t61) w6 fun _ w7 =>
  Go.Vc.Safe (t0) ∧
  V Try.prog (Instr.fieldAt 74 t0 1) w7 fun t66 w9 =>
  V Try.prog (Instr.loadAt 72 t66) w9 fun t67 w10 =>
  V Try.prog (Builtin.len_ #[72] 3 #[t67]) w10 fun t68 w11 =>
  R (.tuple #[t68, (Value.bool true)]) w11)
theorem F35_eq (t0 : Value) (t1 : Value) (t2 : Value) (t3 : Value) (t4 : Value) (t5 : Value) (w : World) (R : Value → World → Prop) : F35_den t0 t1 t2 t3 t4 t5 w R = vc Try.prog F35_ann (Try.f35.body.getD .skip) (retE Try.prog Try.f35.results.toList R) (argEnv [t0, t1, t2, t3, t4, t5]) w := by kernel_rfl
theorem F35_wp {t0 : Value} {t1 : Value} {t2 : Value} {t3 : Value} {t4 : Value} {t5 : Value} {w : World} {R : Value → World → Prop} (h : F35_den t0 t1 t2 t3 t4 t5 w R) : callD Try.prog 35 #[t0, t1, t2, t3, t4, t5] w R :=
  callD.of_calls (fn := Try.f35) (c := Try.f35.body.getD .skip) Try.func35 (by kernel_rfl) (by kernel_rfl) (calls_of_vc (args := [t0, t1, t2, t3, t4, t5]) F35_ann mixed Try.func35 (by kernel_rfl) (by kernel_rfl) (F35_eq t0 t1 t2 t3 t4 t5 w R ▸ h))

/-- (taciturn/room.service).touch -/
def F36_ann : Ann := (Ann.seq Ann.leaf Ann.leaf)
def F36_den (t0 : Value) (t1 : Value) (t2 : Value) (t3 : Value) (w : World) (R : Value → World → Prop) : Prop :=
  V Try.prog (Instr.box 64 t0) w fun t4 w1 =>
  V Try.prog (Instr.loadAt 64 t4) w1 fun t8 w2 =>
  callD Try.prog 34 #[t8, (Value.int IntKind.i64 2), t1, t2, t3] w2 fun t12 w3 =>
  R (.tuple #[]) w3
theorem F36_eq (t0 : Value) (t1 : Value) (t2 : Value) (t3 : Value) (w : World) (R : Value → World → Prop) : F36_den t0 t1 t2 t3 w R = vc Try.prog F36_ann (Try.f36.body.getD .skip) (retE Try.prog Try.f36.results.toList R) (argEnv [t0, t1, t2, t3]) w := by kernel_rfl
theorem F36_wp {t0 : Value} {t1 : Value} {t2 : Value} {t3 : Value} {w : World} {R : Value → World → Prop} (h : F36_den t0 t1 t2 t3 w R) : callD Try.prog 36 #[t0, t1, t2, t3] w R :=
  callD.of_calls (fn := Try.f36) (c := Try.f36.body.getD .skip) Try.func36 (by kernel_rfl) (by kernel_rfl) (calls_of_vc (args := [t0, t1, t2, t3]) F36_ann mixed Try.func36 (by kernel_rfl) (by kernel_rfl) (F36_eq t0 t1 t2 t3 w R ▸ h))

/-- taciturn/wall.Check -/
def F37_ann : Ann := (Ann.seq Ann.leaf (Ann.seq (Ann.seq Ann.leaf (Ann.cond (Ann.seq Ann.leaf Ann.leaf) Ann.leaf)) (Ann.seq Ann.leaf (Ann.seq (Ann.block (Ann.seq Ann.leaf (Ann.cond (Ann.seq Ann.leaf Ann.leaf) (Ann.seq Ann.leaf (Ann.cond (Ann.seq Ann.leaf Ann.leaf) Ann.leaf))))) (Ann.seq Ann.leaf Ann.leaf)))))
def F37_den (t0 : Value) (t1 : Value) (t2 : Value) (w : World) (R : Value → World → Prop) : Prop :=
  V Try.prog (do eqGuard .eql 29 (Operand.tmp 9) (Operand.const (Value.pointer none)) t0 (Value.pointer none); binOp .eql 29 t0 (Value.pointer none)) w fun t10 w1 =>
  ifD t10 (
  R (Value.int IntKind.i64 27013) w1) (
  callD Try.prog 13 #[t0, t1] w1 fun t14 w2 =>
  V Try.prog (Instr.extract t14 0) w2 fun t15 w3 =>
  V Try.prog (Instr.extract t14 1) w3 fun t16 w4 =>
  V Try.prog (Instr.alloc 37 true (.tuple #[])) w4 fun t7 w5 =>
  U Try.prog (Instr.storeAt 37 t7 t15) w5 fun _ w6 =>
  V Try.prog (Op.unary UnOp.not t16) w6 fun t19 w7 =>
  ifD t19 (
  R (Value.int IntKind.i64 28417) w7) (
  V Try.prog (Instr.loadAt 37 t7) w7 fun t21 w8 =>
  callD Try.prog 46 #[t21, t2] w8 fun t23 w9 =>
  V Try.prog (Op.unary UnOp.not t23) w9 fun t24 w10 =>
  ifD t24 (
  R (Value.int IntKind.i64 28420) w10) (
  R (Value.int IntKind.i64 36864) w10)))
theorem F37_eq (t0 : Value) (t1 : Value) (t2 : Value) (w : World) (R : Value → World → Prop) : F37_den t0 t1 t2 w R = vc Try.prog F37_ann (Try.f37.body.getD .skip) (retE Try.prog Try.f37.results.toList R) (argEnv [t0, t1, t2]) w := by kernel_rfl
theorem F37_wp {t0 : Value} {t1 : Value} {t2 : Value} {w : World} {R : Value → World → Prop} (h : F37_den t0 t1 t2 w R) : callD Try.prog 37 #[t0, t1, t2] w R :=
  callD.of_calls (fn := Try.f37) (c := Try.f37.body.getD .skip) Try.func37 (by kernel_rfl) (by kernel_rfl) (calls_of_vc (args := [t0, t1, t2]) F37_ann mixed Try.func37 (by kernel_rfl) (by kernel_rfl) (F37_eq t0 t1 t2 w R ▸ h))

/-- (taciturn/room.service).ranges -/
def F38_ann : Ann := (Ann.seq Ann.leaf (Ann.seq (Ann.draw [0, 1, 2, 4, 8, 0, 0, 0, 0, 256, 752, 2047] [0, 1, 2, 4, 8, 0, 0, 0, 0, 256, 752, 1024] 12 (.take 0 (.take 1 (.take 2 (.take 3 (.take 4 (.take 5 (.take 6 (.take 7 (.take 8 (.take 9 (.only 10 (.take 11 .done))))))))))))) Ann.leaf))
def F38_den (t0 : Value) (t1 : Value) (t2 : Value) (t3 : Value) (w : World) (R : Value → World → Prop) : Prop :=
  V Try.prog (Instr.box 64 t0) w fun t4 w1 =>
  drawD w1 fun S1 w2 =>
  yieldS Try.prog S1 (Instr.fieldAt 64 t4 0) fun t9 =>
  yieldS Try.prog S1 (Instr.loadAt 23 t9) fun t10 =>
  Go.Vc.Safe (t10) ∧
  yieldS Try.prog S1 (Instr.fieldAt 59 t10 0) fun t12 =>
  yieldS Try.prog S1 (Instr.loadAt 29 t12) fun t13 =>
  yieldS Try.prog S1 (Instr.fieldAt 64 t4 2) fun t17 =>
  yieldS Try.prog S1 (Instr.loadAt 3 t17) fun t18 =>
  callD Try.prog 47 #[t13, t1, t2, t3, t18] w2 fun t19 w3 =>
  S1 w3 ∧
  R t19 w3
theorem F38_eq (t0 : Value) (t1 : Value) (t2 : Value) (t3 : Value) (w : World) (R : Value → World → Prop) : F38_den t0 t1 t2 t3 w R = vc Try.prog F38_ann (Try.f38.body.getD .skip) (retE Try.prog Try.f38.results.toList R) (argEnv [t0, t1, t2, t3]) w := by kernel_rfl
theorem F38_wp {t0 : Value} {t1 : Value} {t2 : Value} {t3 : Value} {w : World} {R : Value → World → Prop} (h : F38_den t0 t1 t2 t3 w R) : callD Try.prog 38 #[t0, t1, t2, t3] w R :=
  callD.of_calls (fn := Try.f38) (c := Try.f38.body.getD .skip) Try.func38 (by kernel_rfl) (by kernel_rfl) (calls_of_vc (args := [t0, t1, t2, t3]) F38_ann mixed Try.func38 (by kernel_rfl) (by kernel_rfl) (F38_eq t0 t1 t2 t3 w R ▸ h))

/-- (*taciturn/heap.Heap).Get -/
def F39_ann : Ann := (Ann.seq Ann.leaf (Ann.seq Ann.leaf (Ann.seq (Ann.seq Ann.leaf (Ann.cond (Ann.seq Ann.leaf Ann.leaf) Ann.leaf)) (Ann.seq Ann.leaf Ann.leaf))))
def F39_den (t0 : Value) (t1 : Value) (t2 : Value) (w : World) (R : Value → World → Prop) : Prop :=
  callD Try.prog 32 #[t0, t1] w fun t11 w1 =>
  V Try.prog (do eqGuard .eql 69 (Operand.tmp 12) (Operand.const (Value.pointer none)) t11 (Value.pointer none); binOp .eql 69 t11 (Value.pointer none)) w1 fun t13 w2 =>
  gd t13 false (fun K => K t2 w2) w2 fun t15 w3 =>
  gd t13 false (fun K => V Try.prog (binOp .lss 3 t15 (Value.int IntKind.i64 0)) w3 K) w3 fun t16 w4 =>
  pickD t13 (Value.bool true) t16 fun t17 =>
  gd t17 false (fun K => K t2 w4) w4 fun t19 w6 =>
  gd t17 false (fun K => K t11 w6) w6 fun t20 w7 =>
  gd t17 false (fun K => (Go.Vc.Safe (t20) ∧ K (t20) w7)) w7 fun t21 w8 =>
  gd t17 false (fun K => V Try.prog (Instr.fieldAt 37 t21 4) w8 K) w8 fun t22 w9 =>
  gd t17 false (fun K => V Try.prog (Instr.loadAt 22 t22) w9 K) w9 fun t23 w10 =>
  gd t17 false (fun K => V Try.prog (Builtin.len_ #[22] 3 #[t23]) w10 K) w10 fun t24 w11 =>
  gd t17 false (fun K => V Try.prog (binOp .geq 3 t19 t24) w11 K) w11 fun t25 w12 =>
  pickD t17 (Value.bool true) t25 fun t26 =>
  ifD t26 (
  R (.tuple #[(Value.int IntKind.u8 0), (Value.bool false)]) w12) (
  Go.Vc.Safe (t11) ∧
  V Try.prog (Instr.fieldAt 37 t11 4) w12 fun t29 w15 =>
  V Try.prog (Instr.loadAt 22 t29) w15 fun t30 w16 =>
  V Try.prog (Instr.indexAt 22 t30 t2) w16 fun t32 w17 =>
  V Try.prog (Instr.loadAt 5 t32) w17 fun t33 w18 =>
  R (.tuple #[t33, (Value.bool true)]) w18)
theorem F39_eq (t0 : Value) (t1 : Value) (t2 : Value) (w : World) (R : Value → World → Prop) : F39_den t0 t1 t2 w R = vc Try.prog F39_ann (Try.f39.body.getD .skip) (retE Try.prog Try.f39.results.toList R) (argEnv [t0, t1, t2]) w := by kernel_rfl
theorem F39_wp {t0 : Value} {t1 : Value} {t2 : Value} {w : World} {R : Value → World → Prop} (h : F39_den t0 t1 t2 w R) : callD Try.prog 39 #[t0, t1, t2] w R :=
  callD.of_calls (fn := Try.f39) (c := Try.f39.body.getD .skip) Try.func39 (by kernel_rfl) (by kernel_rfl) (calls_of_vc (args := [t0, t1, t2]) F39_ann mixed Try.func39 (by kernel_rfl) (by kernel_rfl) (F39_eq t0 t1 t2 w R ▸ h))

/-- (*taciturn/heap.Heap).Put -/
def F40_ann : Ann := (Ann.seq Ann.leaf (Ann.seq (Ann.seq Ann.leaf (Ann.seq Ann.leaf (Ann.cond (Ann.seq Ann.leaf Ann.leaf) Ann.leaf))) (Ann.seq Ann.leaf (Ann.seq Ann.leaf Ann.leaf))))
def F40_den (t0 : Value) (t1 : Value) (t2 : Value) (t3 : Value) (w : World) (R : Value → World → Prop) : Prop :=
  callD Try.prog 39 #[t0, t1, t2] w fun t15 w1 =>
  V Try.prog (Instr.extract t15 0) w1 fun t16 w2 =>
  V Try.prog (Instr.extract t15 1) w2 fun t17 w3 =>
  V Try.prog (Op.unary UnOp.not t17) w3 fun t19 w4 =>
  ifD t19 (
  R (Value.bool false) w4) (
  callD Try.prog 32 #[t0, t1] w4 fun t22 w5 =>
  Go.Vc.Safe (t22) ∧
  V Try.prog (Instr.fieldAt 37 t22 4) w5 fun t24 w7 =>
  V Try.prog (Instr.loadAt 22 t24) w7 fun t25 w8 =>
  V Try.prog (Instr.indexAt 22 t25 t2) w8 fun t28 w9 =>
  U Try.prog (Instr.storeAt 5 t28 t3) w9 fun _ w10 =>
  R (Value.bool true) w10)
theorem F40_eq (t0 : Value) (t1 : Value) (t2 : Value) (t3 : Value) (w : World) (R : Value → World → Prop) : F40_den t0 t1 t2 t3 w R = vc Try.prog F40_ann (Try.f40.body.getD .skip) (retE Try.prog Try.f40.results.toList R) (argEnv [t0, t1, t2, t3]) w := by kernel_rfl
theorem F40_wp {t0 : Value} {t1 : Value} {t2 : Value} {t3 : Value} {w : World} {R : Value → World → Prop} (h : F40_den t0 t1 t2 t3 w R) : callD Try.prog 40 #[t0, t1, t2, t3] w R :=
  callD.of_calls (fn := Try.f40) (c := Try.f40.body.getD .skip) Try.func40 (by kernel_rfl) (by kernel_rfl) (calls_of_vc (args := [t0, t1, t2, t3]) F40_ann mixed Try.func40 (by kernel_rfl) (by kernel_rfl) (F40_eq t0 t1 t2 t3 w R ▸ h))

/-- (taciturn/room.service).both -/
def F41_ann : Ann := (Ann.seq Ann.leaf (Ann.seq Ann.leaf (Ann.seq Ann.leaf (Ann.seq (Ann.draw [0, 0, 2, 4, 0, 16, 32, 0, 201] [0, 0, 2, 4, 0, 16, 32, 0, 201] 9 (.take 0 (.take 1 (.take 2 (.take 3 (.take 4 (.take 5 (.take 6 (.take 7 (.only 8 .done)))))))))) (Ann.seq (Ann.draw [0, 0, 2, 4, 0, 16, 32, 0, 201] [0, 0, 2, 4, 0, 16, 32, 0, 201] 9 (.take 0 (.take 1 (.take 2 (.take 3 (.take 4 (.take 5 (.take 6 (.take 7 (.only 8 .done)))))))))) (Ann.seq (Ann.seq (Ann.draw [0, 0, 2, 4, 0, 16, 32, 0, 201, 511] [0, 0, 2, 4, 0, 16, 32, 0, 201, 256] 10 (.take 0 (.take 1 (.take 2 (.take 3 (.take 4 (.take 5 (.take 6 (.take 7 (.only 8 (.take 9 .done))))))))))) (Ann.seq Ann.leaf (Ann.cond (Ann.seq Ann.leaf Ann.leaf) Ann.leaf))) (Ann.seq (Ann.draw [0, 0, 2, 4, 0, 16, 32, 0, 201, 511] [0, 0, 2, 4, 0, 16, 32, 0, 201, 256] 10 (.take 0 (.take 1 (.take 2 (.take 3 (.take 4 (.take 5 (.take 6 (.take 7 (.only 8 (.take 9 .done))))))))))) Ann.leaf)))))))
def F41_den (t0 : Value) (w : World) (R : Value → World → Prop) : Prop :=
  V Try.prog (Instr.box 64 t0) w fun t1 w1 =>
  V Try.prog (Instr.fieldAt 64 t1 5) w1 fun t6 w2 =>
  V Try.prog (Instr.loadAt 62 t6) w2 fun t7 w3 =>
  V Try.prog (Instr.indexAt 62 t7 (Value.int IntKind.i64 4)) w3 fun t9 w4 =>
  V Try.prog (Instr.loadAt 3 t9) w4 fun t10 w5 =>
  drawD w5 fun S3 w6 =>
  yieldS Try.prog S3 (Instr.loadAt 64 t1) fun t11 =>
  yieldS Try.prog S3 (Instr.indexAt 62 t7 (Value.int IntKind.i64 0)) fun t13 =>
  yieldS Try.prog S3 (Instr.loadAt 3 t13) fun t14 =>
  yieldS Try.prog S3 (Instr.indexAt 62 t7 (Value.int IntKind.i64 1)) fun t16 =>
  yieldS Try.prog S3 (Instr.loadAt 3 t16) fun t17 =>
  callD Try.prog 36 #[t11, t14, t17, t10] w6 fun t19 w7 =>
  S3 w7 ∧
  drawD w7 fun S4 w8 =>
  yieldS Try.prog S4 (Instr.loadAt 64 t1) fun t20 =>
  yieldS Try.prog S4 (Instr.indexAt 62 t7 (Value.int IntKind.i64 2)) fun t22 =>
  yieldS Try.prog S4 (Instr.loadAt 3 t22) fun t23 =>
  yieldS Try.prog S4 (Instr.indexAt 62 t7 (Value.int IntKind.i64 3)) fun t25 =>
  yieldS Try.prog S4 (Instr.loadAt 3 t25) fun t26 =>
  callD Try.prog 36 #[t20, t23, t26, t10] w8 fun t28 w9 =>
  S4 w9 ∧
  drawD w9 fun S5 w10 =>
  yieldS Try.prog S5 (Instr.loadAt 64 t1) fun t29 =>
  yieldS Try.prog S5 (Instr.indexAt 62 t7 (Value.int IntKind.i64 0)) fun t31 =>
  yieldS Try.prog S5 (Instr.loadAt 3 t31) fun t32 =>
  yieldS Try.prog S5 (Instr.indexAt 62 t7 (Value.int IntKind.i64 1)) fun t34 =>
  yieldS Try.prog S5 (Instr.loadAt 3 t34) fun t35 =>
  callD Try.prog 38 #[t29, t32, t35, t10] w10 fun t37 w11 =>
  S5 w11 ∧
  V Try.prog (do eqGuard .neq 3 (Operand.tmp 38) (Operand.const (Value.int IntKind.i64 36864)) t37 (Value.int IntKind.i64 36864); binOp .neq 3 t37 (Value.int IntKind.i64 36864)) w11 fun t39 w12 =>
  ifD t39 (
  R t37 w12) (
  drawD w12 fun S8 w13 =>
  yieldS Try.prog S8 (Instr.loadAt 64 t1) fun t41 =>
  yieldS Try.prog S8 (Instr.indexAt 62 t7 (Value.int IntKind.i64 2)) fun t43 =>
  yieldS Try.prog S8 (Instr.loadAt 3 t43) fun t44 =>
  yieldS Try.prog S8 (Instr.indexAt 62 t7 (Value.int IntKind.i64 3)) fun t46 =>
  yieldS Try.prog S8 (Instr.loadAt 3 t46) fun t47 =>
  callD Try.prog 38 #[t41, t44, t47, t10] w13 fun t49 w14 =>
  S8 w14 ∧
  R t49 w14)
theorem F41_eq (t0 : Value) (w : World) (R : Value → World → Prop) : F41_den t0 w R = vc Try.prog F41_ann (Try.f41.body.getD .skip) (retE Try.prog Try.f41.results.toList R) (argEnv [t0]) w := by kernel_rfl
theorem F41_wp {t0 : Value} {w : World} {R : Value → World → Prop} (h : F41_den t0 w R) : callD Try.prog 41 #[t0] w R :=
  callD.of_calls (fn := Try.f41) (c := Try.f41.body.getD .skip) Try.func41 (by kernel_rfl) (by kernel_rfl) (calls_of_vc (args := [t0]) F41_ann mixed Try.func41 (by kernel_rfl) (by kernel_rfl) (F41_eq t0 w R ▸ h))

/-- (taciturn/room.service).bytes -/
def F42_ann : Ann := (Ann.seq Ann.leaf (Ann.seq Ann.leaf (Ann.seq Ann.leaf Ann.leaf)))
def F42_den (t0 : Value) (t1 : Value) (t2 : Value) (t3 : Value) (w : World) (R : Value → World → Prop) : Prop :=
  V Try.prog (Instr.box 64 t0) w fun t4 w1 =>
  V Try.prog (Instr.fieldAt 64 t4 0) w1 fun t12 w2 =>
  V Try.prog (Instr.loadAt 23 t12) w2 fun t13 w3 =>
  Go.Vc.Safe (t13) ∧
  V Try.prog (Instr.fieldAt 59 t13 0) w3 fun t15 w5 =>
  V Try.prog (Instr.loadAt 29 t15) w5 fun t16 w6 =>
  callD Try.prog 13 #[t16, t1] w6 fun t18 w7 =>
  V Try.prog (Instr.extract t18 0) w7 fun t19 w8 =>
  V Try.prog (Instr.extract t18 1) w8 fun t20 w9 =>
  V Try.prog (Instr.alloc 37 true (.tuple #[])) w9 fun t9 w10 =>
  U Try.prog (Instr.storeAt 37 t9 t19) w10 fun _ w11 =>
  V Try.prog (Instr.fieldAt 37 t9 4) w11 fun t21 w12 =>
  V Try.prog (Instr.loadAt 22 t21) w12 fun t22 w13 =>
  V Try.prog (binOp .add 3 t2 t3) w13 fun t26 w14 =>
  V Try.prog (Instr.sliceAt 22 t22 (some t2) (some t26) none) w14 fun t27 w15 =>
  R t27 w15
theorem F42_eq (t0 : Value) (t1 : Value) (t2 : Value) (t3 : Value) (w : World) (R : Value → World → Prop) : F42_den t0 t1 t2 t3 w R = vc Try.prog F42_ann (Try.f42.body.getD .skip) (retE Try.prog Try.f42.results.toList R) (argEnv [t0, t1, t2, t3]) w := by kernel_rfl
theorem F42_wp {t0 : Value} {t1 : Value} {t2 : Value} {t3 : Value} {w : World} {R : Value → World → Prop} (h : F42_den t0 t1 t2 t3 w R) : callD Try.prog 42 #[t0, t1, t2, t3] w R :=
  callD.of_calls (fn := Try.f42) (c := Try.f42.body.getD .skip) Try.func42 (by kernel_rfl) (by kernel_rfl) (calls_of_vc (args := [t0, t1, t2, t3]) F42_ann mixed Try.func42 (by kernel_rfl) (by kernel_rfl) (F42_eq t0 t1 t2 t3 w R ▸ h))

/-- taciturn/word.SameBytes -/
def F43_ann : Ann := (Ann.seq Ann.leaf (Ann.seq (Ann.seq Ann.leaf (Ann.cond (Ann.seq Ann.leaf Ann.leaf) Ann.leaf)) (Ann.seq Ann.leaf (Ann.seq (Ann.seq Ann.leaf (Ann.block (Ann.loop [5, 6, 14, 15, 16, 17, 18, 19, 20, 21, 22, 23, 24, 25, 26, 27, 28] [5, 14] (Ann.seq Ann.leaf (Ann.seq (Ann.cond Ann.leaf Ann.leaf) (Ann.seq (Ann.block (Ann.seq Ann.leaf (Ann.draw [0, 0, 0, 6, 8, 0, 0, 96, 128, 272, 513, 2047] [0, 0, 0, 6, 8, 0, 0, 96, 128, 272, 513, 1025] 12 (.take 0 (.take 1 (.take 2 (.take 3 (.take 4 (.take 5 (.take 6 (.take 7 (.take 8 (.take 9 (.take 10 (.take 11 .done))))))))))))))) Ann.leaf)))))) (Ann.seq Ann.leaf Ann.leaf)))))
def F43_den (t0 : Value) (t1 : Value) (w : World) (R : Value → World → Prop) : Prop :=
  V Try.prog (Builtin.len_ #[22] 3 #[t0]) w fun t8 w1 =>
  V Try.prog (Builtin.len_ #[22] 3 #[t1]) w1 fun t10 w2 =>
  V Try.prog (do eqGuard .neq 3 (Operand.tmp 8) (Operand.tmp 10) t8 t10; binOp .neq 3 t8 t10) w2 fun t11 w3 =>
  ifD t11 (
  R (Value.int IntKind.i32 0) w3) (
  V Try.prog (Builtin.len_ #[22] 3 #[t0]) w3 fun t13 w4 =>
  ∃ (I1 : NP 2) (μ1 : NF 2), I1 (Value.int IntKind.u8 0) (Value.int IntKind.i64 0) w4 ∧
  ∀ (t5 : Value) (t14 : Value), ∀ w5 : World, I1 t5 t14 w5 → ∀ _f : Env,
  V Try.prog (binOp .lss 3 t14 t13) w5 fun t15 w6 =>
  ifD t15 (
  drawD w6 fun S7 w7 =>
  yieldS Try.prog S7 (Instr.indexAt 22 t0 t14) fun t20 =>
  yieldS Try.prog S7 (Instr.loadAt 5 t20) fun t21 =>
  yieldS Try.prog S7 (Instr.indexAt 22 t1 t14) fun t24 =>
  yieldS Try.prog S7 (Instr.loadAt 5 t24) fun t25 =>
  yieldS Try.prog S7 (binOp .xor 5 t21 t25) fun t26 =>
  yieldS Try.prog S7 (binOp .or 5 t5 t26) fun t27 =>
  V Try.prog (binOp .add 3 t14 (Value.int IntKind.i64 1)) w7 fun t28 w8 =>
  I1 t27 t28 w8 ∧ μ1 t27 t28 w8 < μ1 t5 t14 w5) (
  V Try.prog (convert 5 21 t5) w6 fun t30 w9 =>
  callD Try.prog 48 #[t30] w9 fun t31 w10 =>
  V Try.prog (binOp .sub 21 (Value.int IntKind.i32 1) t31) w10 fun t32 w11 =>
  R t32 w11))
theorem F43_eq (t0 : Value) (t1 : Value) (w : World) (R : Value → World → Prop) : F43_den t0 t1 w R = vc Try.prog F43_ann (Try.f43.body.getD .skip) (retE Try.prog Try.f43.results.toList R) (argEnv [t0, t1]) w := by kernel_rfl
theorem F43_wp {t0 : Value} {t1 : Value} {w : World} {R : Value → World → Prop} (h : F43_den t0 t1 w R) : callD Try.prog 43 #[t0, t1] w R :=
  callD.of_calls (fn := Try.f43) (c := Try.f43.body.getD .skip) Try.func43 (by kernel_rfl) (by kernel_rfl) (calls_of_vc (args := [t0, t1]) F43_ann mixed Try.func43 (by kernel_rfl) (by kernel_rfl) (F43_eq t0 t1 w R ▸ h))

/-- (*taciturn/leak.Trace).Add -/
def F44_ann : Ann := (Ann.seq Ann.leaf (Ann.seq (Ann.seq Ann.leaf (Ann.cond (Ann.seq Ann.leaf Ann.leaf) Ann.leaf)) (Ann.seq Ann.leaf (Ann.seq Ann.leaf Ann.leaf))))
def F44_den (t0 : Value) (t1 : Value) (t2 : Value) (t3 : Value) (t4 : Value) (w : World) (R : Value → World → Prop) : Prop :=
  Go.Vc.Safe (t0) ∧
  V Try.prog (Instr.fieldAt 93 t0 0) w fun t13 w2 =>
  V Try.prog (Instr.loadAt 91 t13) w2 fun t14 w3 =>
  V Try.prog (Builtin.len_ #[91] 3 #[t14]) w3 fun t15 w4 =>
  V Try.prog (binOp .geq 3 t15 (Value.int IntKind.i64 200000)) w4 fun t16 w5 =>
  ifD t16 (
  R (Value.bool false) w5) (
  Go.Vc.Safe (t0) ∧
  V Try.prog (Instr.fieldAt 93 t0 0) w5 fun t20 w7 =>
  V Try.prog (Instr.loadAt 91 t20) w7 fun t21 w8 =>
  V Try.prog (Instr.build 95 #[(0, t1), (1, t2), (2, t3), (3, t4)]) w8 fun t26 w9 =>
  V Try.prog (Instr.buildSlice 91 1 #[(0, t26)]) w9 fun t27 w10 =>
  V Try.prog (Builtin.append_ #[91, 91] 91 #[t21, t27]) w10 fun t28 w11 =>
  Go.Vc.Safe (t0) ∧
  V Try.prog (Instr.fieldAt 93 t0 0) w11 fun t30 w13 =>
  U Try.prog (Instr.storeAt 91 t30 t28) w13 fun _ w14 =>
  R (Value.bool true) w14)
theorem F44_eq (t0 : Value) (t1 : Value) (t2 : Value) (t3 : Value) (t4 : Value) (w : World) (R : Value → World → Prop) : F44_den t0 t1 t2 t3 t4 w R = vc Try.prog F44_ann (Try.f44.body.getD .skip) (retE Try.prog Try.f44.results.toList R) (argEnv [t0, t1, t2, t3, t4]) w := by kernel_rfl
theorem F44_wp {t0 : Value} {t1 : Value} {t2 : Value} {t3 : Value} {t4 : Value} {w : World} {R : Value → World → Prop} (h : F44_den t0 t1 t2 t3 t4 w R) : callD Try.prog 44 #[t0, t1, t2, t3, t4] w R :=
  callD.of_calls (fn := Try.f44) (c := Try.f44.body.getD .skip) Try.func44 (by kernel_rfl) (by kernel_rfl) (calls_of_vc (args := [t0, t1, t2, t3, t4]) F44_ann mixed Try.func44 (by kernel_rfl) (by kernel_rfl) (F44_eq t0 t1 t2 t3 t4 w R ▸ h))

/-- (*taciturn/heap.Heap).Used -/
def F45_ann : Ann := (Ann.seq Ann.leaf (Ann.seq Ann.leaf (Ann.seq (Ann.seq Ann.leaf (Ann.block (Ann.loop [3, 5, 12, 13, 14, 15, 16, 17, 18, 19, 20, 21, 22] [3, 12] (Ann.seq Ann.leaf (Ann.seq (Ann.cond Ann.leaf Ann.leaf) (Ann.seq (Ann.block (Ann.seq Ann.leaf Ann.leaf)) Ann.leaf)))))) (Ann.seq Ann.leaf Ann.leaf))))
def F45_den (t0 : Value) (w : World) (R : Value → World → Prop) : Prop :=
  Go.Vc.Safe (t0) ∧
  V Try.prog (Instr.fieldAt 74 t0 1) w fun t8 w2 =>
  V Try.prog (Instr.loadAt 72 t8) w2 fun t9 w3 =>
  V Try.prog (Instr.sliceAt 72 t9 (some (Value.int IntKind.i64 2)) none none) w3 fun t10 w4 =>
  V Try.prog (Builtin.len_ #[72] 3 #[t10]) w4 fun t11 w5 =>
  ∃ (I1 : NP 2) (μ1 : NF 2), I1 (Value.int IntKind.i64 0) (Value.int IntKind.i64 0) w5 ∧
  ∀ (t3 : Value) (t12 : Value), ∀ w6 : World, I1 t3 t12 w6 → ∀ _f : Env,
  V Try.prog (binOp .lss 3 t12 t11) w6 fun t13 w7 =>
  ifD t13 (
  V Try.prog (Instr.indexAt 72 t10 t12) w7 fun t14 w8 =>
  V Try.prog (Instr.loadAt 37 t14) w8 fun t15 w9 =>
  V Try.prog (Instr.alloc 37 true (.tuple #[])) w9 fun t5 w10 =>
  U Try.prog (Instr.storeAt 37 t5 t15) w10 fun _ w11 =>
  V Try.prog (Instr.fieldAt 37 t5 4) w11 fun t17 w12 =>
  V Try.prog (Instr.loadAt 22 t17) w12 fun t18 w13 =>
  V Try.prog (Builtin.len_ #[22] 3 #[t18]) w13 fun t19 w14 =>
  V Try.prog (binOp .add 3 (Value.int IntKind.i64 8) t19) w14 fun t20 w15 =>
  V Try.prog (binOp .add 3 t3 t20) w15 fun t21 w16 =>
  V Try.prog (binOp .add 3 t12 (Value.int IntKind.i64 1)) w16 fun t22 w17 =>
  I1 t21 t22 w17 ∧ μ1 t21 t22 w17 < μ1 t3 t12 w6) (
  R t3 w7)
theorem F45_eq (t0 : Value) (w : World) (R : Value → World → Prop) : F45_den t0 w R = vc Try.prog F45_ann (Try.f45.body.getD .skip) (retE Try.prog Try.f45.results.toList R) (argEnv [t0]) w := by kernel_rfl
theorem F45_wp {t0 : Value} {w : World} {R : Value → World → Prop} (h : F45_den t0 w R) : callD Try.prog 45 #[t0] w R :=
  callD.of_calls (fn := Try.f45) (c := Try.f45.body.getD .skip) Try.func45 (by kernel_rfl) (by kernel_rfl) (calls_of_vc (args := [t0]) F45_ann mixed Try.func45 (by kernel_rfl) (by kernel_rfl) (F45_eq t0 w R ▸ h))

/-- taciturn/wall.May -/
def F46_ann : Ann := (Ann.seq Ann.leaf (Ann.seq Ann.leaf Ann.leaf))
def F46_den (t0 : Value) (t1 : Value) (w : World) (R : Value → World → Prop) : Prop :=
  V Try.prog (Instr.box 37 t0) w fun t2 w1 =>
  V Try.prog (Instr.fieldAt 37 t2 0) w1 fun t5 w2 =>
  V Try.prog (Instr.loadAt 3 t5) w2 fun t6 w3 =>
  V Try.prog (do eqGuard .eql 3 (Operand.tmp 6) (Operand.const (Value.int IntKind.i64 (-1))) t6 (Value.int IntKind.i64 (-1)); binOp .eql 3 t6 (Value.int IntKind.i64 (-1))) w3 fun t7 w4 =>
  gd t7 false (fun K => V Try.prog (Instr.fieldAt 37 t2 0) w4 K) w4 fun t9 w5 =>
  gd t7 false (fun K => V Try.prog (Instr.loadAt 3 t9) w5 K) w5 fun t10 w6 =>
  gd t7 false (fun K => K t1 w6) w6 fun t11 w7 =>
  gd t7 false (fun K => V Try.prog (do eqGuard .eql 3 (Operand.tmp 10) (Operand.tmp 11) t10 t11; binOp .eql 3 t10 t11) w7 K) w7 fun t12 w8 =>
  pickD t7 (Value.bool true) t12 fun t13 =>
  gd t13 false (fun K => V Try.prog (Instr.fieldAt 37 t2 3) w8 K) w8 fun t15 w10 =>
  gd t13 false (fun K => V Try.prog (Instr.loadAt 4 t15) w10 K) w10 fun t16 w11 =>
  pickD t13 (Value.bool true) t16 fun t17 =>
  R t17 w11
theorem F46_eq (t0 : Value) (t1 : Value) (w : World) (R : Value → World → Prop) : F46_den t0 t1 w R = vc Try.prog F46_ann (Try.f46.body.getD .skip) (retE Try.prog Try.f46.results.toList R) (argEnv [t0, t1]) w := by kernel_rfl
theorem F46_wp {t0 : Value} {t1 : Value} {w : World} {R : Value → World → Prop} (h : F46_den t0 t1 w R) : callD Try.prog 46 #[t0, t1] w R :=
  callD.of_calls (fn := Try.f46) (c := Try.f46.body.getD .skip) Try.func46 (by kernel_rfl) (by kernel_rfl) (calls_of_vc (args := [t0, t1]) F46_ann mixed Try.func46 (by kernel_rfl) (by kernel_rfl) (F46_eq t0 t1 w R ▸ h))

/-- taciturn/wall.Range -/
def F47_ann : Ann := (Ann.seq Ann.leaf (Ann.seq (Ann.seq Ann.leaf (Ann.seq Ann.leaf (Ann.cond (Ann.seq Ann.leaf Ann.leaf) Ann.leaf))) (Ann.seq Ann.leaf (Ann.seq (Ann.seq Ann.leaf (Ann.cond (Ann.seq Ann.leaf Ann.leaf) Ann.leaf)) (Ann.seq Ann.leaf Ann.leaf)))))
def F47_den (t0 : Value) (t1 : Value) (t2 : Value) (t3 : Value) (t4 : Value) (w : World) (R : Value → World → Prop) : Prop :=
  callD Try.prog 37 #[t0, t1, t4] w fun t17 w1 =>
  V Try.prog (do eqGuard .neq 3 (Operand.tmp 18) (Operand.const (Value.int IntKind.i64 36864)) t17 (Value.int IntKind.i64 36864); binOp .neq 3 t17 (Value.int IntKind.i64 36864)) w1 fun t19 w2 =>
  ifD t19 (
  R t17 w2) (
  callD Try.prog 13 #[t0, t1] w2 fun t24 w3 =>
  V Try.prog (Instr.extract t24 0) w3 fun t25 w4 =>
  V Try.prog (Instr.extract t24 1) w4 fun t26 w5 =>
  V Try.prog (Instr.alloc 37 true (.tuple #[])) w5 fun t12 w6 =>
  U Try.prog (Instr.storeAt 37 t12 t25) w6 fun _ w7 =>
  V Try.prog (binOp .lss 3 t2 (Value.int IntKind.i64 0)) w7 fun t28 w8 =>
  gd t28 false (fun K => K t3 w8) w8 fun t30 w9 =>
  gd t28 false (fun K => V Try.prog (binOp .lss 3 t30 (Value.int IntKind.i64 0)) w9 K) w9 fun t31 w10 =>
  pickD t28 (Value.bool true) t31 fun t32 =>
  gd t32 false (fun K => K t2 w10) w10 fun t34 w12 =>
  gd t32 false (fun K => V Try.prog (Instr.fieldAt 37 t12 4) w12 K) w12 fun t35 w13 =>
  gd t32 false (fun K => V Try.prog (Instr.loadAt 22 t35) w13 K) w13 fun t36 w14 =>
  gd t32 false (fun K => V Try.prog (Builtin.len_ #[22] 3 #[t36]) w14 K) w14 fun t37 w15 =>
  gd t32 false (fun K => V Try.prog (binOp .gtr 3 t34 t37) w15 K) w15 fun t38 w16 =>
  pickD t32 (Value.bool true) t38 fun t39 =>
  gd t39 false (fun K => K t3 w16) w16 fun t41 w18 =>
  gd t39 false (fun K => V Try.prog (Instr.fieldAt 37 t12 4) w18 K) w18 fun t42 w19 =>
  gd t39 false (fun K => V Try.prog (Instr.loadAt 22 t42) w19 K) w19 fun t43 w20 =>
  gd t39 false (fun K => V Try.prog (Builtin.len_ #[22] 3 #[t43]) w20 K) w20 fun t44 w21 =>
  gd t39 false (fun K => K t2 w21) w21 fun t45 w22 =>
  gd t39 false (fun K => V Try.prog (binOp .sub 3 t44 t45) w22 K) w22 fun t46 w23 =>
  gd t39 false (fun K => V Try.prog (binOp .gtr 3 t41 t46) w23 K) w23 fun t47 w24 =>
  pickD t39 (Value.bool true) t47 fun t48 =>
  ifD t48 (
  R (Value.int IntKind.i64 28418) w24) (
  R (Value.int IntKind.i64 36864) w24))
theorem F47_eq (t0 : Value) (t1 : Value) (t2 : Value) (t3 : Value) (t4 : Value) (w : World) (R : Value → World → Prop) : F47_den t0 t1 t2 t3 t4 w R = vc Try.prog F47_ann (Try.f47.body.getD .skip) (retE Try.prog Try.f47.results.toList R) (argEnv [t0, t1, t2, t3, t4]) w := by kernel_rfl
theorem F47_wp {t0 : Value} {t1 : Value} {t2 : Value} {t3 : Value} {t4 : Value} {w : World} {R : Value → World → Prop} (h : F47_den t0 t1 t2 t3 t4 w R) : callD Try.prog 47 #[t0, t1, t2, t3, t4] w R :=
  callD.of_calls (fn := Try.f47) (c := Try.f47.body.getD .skip) Try.func47 (by kernel_rfl) (by kernel_rfl) (calls_of_vc (args := [t0, t1, t2, t3, t4]) F47_ann mixed Try.func47 (by kernel_rfl) (by kernel_rfl) (F47_eq t0 t1 t2 t3 t4 w R ▸ h))

/-- taciturn/word.some -/
def F48_ann : Ann := (Ann.seq Ann.leaf (Ann.seq Ann.leaf Ann.leaf))
def F48_den (t0 : Value) (w : World) (R : Value → World → Prop) : Prop :=
  V Try.prog (Op.unary UnOp.neg t0) w fun t5 w1 =>
  V Try.prog (binOp .or 21 t0 t5) w1 fun t6 w2 =>
  callD Try.prog 49 #[t6, (Value.int IntKind.i32 31)] w2 fun t7 w3 =>
  R t7 w3
theorem F48_eq (t0 : Value) (w : World) (R : Value → World → Prop) : F48_den t0 w R = vc Try.prog F48_ann (Try.f48.body.getD .skip) (retE Try.prog Try.f48.results.toList R) (argEnv [t0]) w := by kernel_rfl
theorem F48_wp {t0 : Value} {w : World} {R : Value → World → Prop} (h : F48_den t0 w R) : callD Try.prog 48 #[t0] w R :=
  callD.of_calls (fn := Try.f48) (c := Try.f48.body.getD .skip) Try.func48 (by kernel_rfl) (by kernel_rfl) (calls_of_vc (args := [t0]) F48_ann mixed Try.func48 (by kernel_rfl) (by kernel_rfl) (F48_eq t0 w R ▸ h))

/-- taciturn/word.Shr -/
def F49_ann : Ann := (Ann.seq Ann.leaf (Ann.seq Ann.leaf Ann.leaf))
def F49_den (t0 : Value) (t1 : Value) (w : World) (R : Value → World → Prop) : Prop :=
  V Try.prog (convert 21 97 t0) w fun t6 w1 =>
  V Try.prog (binOp .and 21 t1 (Value.int IntKind.i32 31)) w1 fun t8 w2 =>
  V Try.prog (binOp .shr 97 t6 t8) w2 fun t9 w3 =>
  V Try.prog (convert 97 21 t9) w3 fun t10 w4 =>
  R t10 w4
theorem F49_eq (t0 : Value) (t1 : Value) (w : World) (R : Value → World → Prop) : F49_den t0 t1 w R = vc Try.prog F49_ann (Try.f49.body.getD .skip) (retE Try.prog Try.f49.results.toList R) (argEnv [t0, t1]) w := by kernel_rfl
theorem F49_wp {t0 : Value} {t1 : Value} {w : World} {R : Value → World → Prop} (h : F49_den t0 t1 w R) : callD Try.prog 49 #[t0, t1] w R :=
  callD.of_calls (fn := Try.f49) (c := Try.f49.body.getD .skip) Try.func49 (by kernel_rfl) (by kernel_rfl) (calls_of_vc (args := [t0, t1]) F49_ann mixed Try.func49 (by kernel_rfl) (by kernel_rfl) (F49_eq t0 t1 w R ▸ h))

end Go.Proofs.Ytgjmpnngheohbaa
