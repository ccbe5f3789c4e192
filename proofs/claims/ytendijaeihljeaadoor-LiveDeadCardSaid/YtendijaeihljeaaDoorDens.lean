/- Each function's body, opened into a plain condition by program (vcgen.py); the kernel holds the one against the other. -/
import Derived.Test.YtendijaeihljeaaDoorLaws
import Derived.Test.YtendijaeihljeaaDoorProg
import Derived.KernelRfl
namespace Go.Proofs.YtendijaeihljeaaDoor
open Go.Vc
theorem mixed : Tryd.prog.follows .mixedOrders = true := by kernel_rfl
/-- taciturn/taciturnlaw19.LiveDead -/
def F3_ann : Ann := (Ann.seq Ann.leaf (Ann.seq Ann.leaf (Ann.seq Ann.leaf (Ann.seq (Ann.seq Ann.leaf (Ann.cond (Ann.seq Ann.leaf Ann.leaf) Ann.leaf)) (Ann.seq Ann.leaf (Ann.seq Ann.leaf (Ann.seq Ann.leaf (Ann.seq (Ann.seq Ann.leaf (Ann.block (Ann.loop [15, 45, 46, 47, 48, 49, 50, 51, 52, 53, 54, 55, 56, 57, 58, 59, 60, 61, 62, 63, 64, 65, 66, 67, 68] [15] (Ann.seq (Ann.seq Ann.leaf (Ann.cond Ann.leaf Ann.leaf)) (Ann.seq (Ann.block (Ann.seq Ann.leaf (Ann.cond Ann.leaf Ann.leaf))) Ann.leaf))))) (Ann.seq Ann.leaf (Ann.seq Ann.leaf (Ann.seq Ann.leaf (Ann.seq Ann.leaf Ann.leaf))))))))))))
def F3_den (t0 : Value) (t1 : Value) (t2 : Value) (t3 : Value) (t4 : Value) (w : World) (R : Value → World → Prop) : Prop :=
  callD Tryd.prog 6 #[t0, t1, (Value.int IntKind.i64 0)] w fun t24 w1 =>
  V Tryd.prog (Instr.alloc 26 true (.tuple #[])) w1 fun t11 w2 =>
  U Tryd.prog (Instr.storeAt 26 t11 t24) w2 fun _ w3 =>
  V Tryd.prog (Instr.loadAt 26 t11) w3 fun t25 w4 =>
  callD Tryd.prog 7 #[t25] w4 fun t26 w5 =>
  callD Tryd.prog 8 #[] w5 fun t27 w6 =>
  V Tryd.prog (Op.unary UnOp.not t27) w6 fun t28 w7 =>
  gd t28 false (fun K => K t26 w7) w7 fun t30 w8 =>
  gd t28 false (fun K => V Tryd.prog (Builtin.len_ #[28] 3 #[t30]) w8 K) w8 fun t31 w9 =>
  gd t28 false (fun K => V Tryd.prog (Instr.fieldAt 26 t11 1) w9 K) w9 fun t32 w10 =>
  gd t28 false (fun K => V Tryd.prog (Instr.loadAt 3 t32) w10 K) w10 fun t33 w11 =>
  gd t28 false (fun K => V Tryd.prog (do eqGuard .neq 3 (Operand.tmp 31) (Operand.tmp 33) t31 t33; binOp .neq 3 t31 t33) w11 K) w11 fun t34 w12 =>
  pickD t28 (Value.bool true) t34 fun t35 =>
  ifD t35 (
  R (Value.bool false) w12) (
  V Tryd.prog (Instr.fieldAt 26 t11 1) w12 fun t36 w14 =>
  V Tryd.prog (Instr.loadAt 3 t36) w14 fun t37 w15 =>
  V Tryd.prog (Instr.makeSlice 23 t37 t37) w15 fun t38 w16 =>
  V Tryd.prog (Builtin.copy_ #[23, 23] 3 #[t38, t2]) w16 fun t41 w17 =>
  V Tryd.prog (Instr.buildSlice 23 0 #[]) w17 fun t42 w18 =>
  V Tryd.prog (Builtin.append_ #[23, 23] 23 #[t42, t38]) w18 fun t44 w19 =>
  ∃ (I1 : NP 1) (μ1 : NF 1), I1 (Value.int IntKind.i64 0) w19 ∧
  ∀ (t15 : Value), ∀ w20 : World, I1 t15 w20 → ∀ _f : Env,
  V Tryd.prog (Instr.fieldAt 26 t11 1) w20 fun t46 w21 =>
  V Tryd.prog (Instr.loadAt 3 t46) w21 fun t47 w22 =>
  V Tryd.prog (binOp .lss 3 t15 t47) w22 fun t48 w23 =>
  gd t48 true (fun K => K t15 w23) w23 fun t50 w24 =>
  gd t48 true (fun K => K t3 w24) w24 fun t51 w25 =>
  gd t48 true (fun K => V Tryd.prog (Builtin.len_ #[23] 3 #[t51]) w25 K) w25 fun t52 w26 =>
  gd t48 true (fun K => V Tryd.prog (binOp .lss 3 t50 t52) w26 K) w26 fun t53 w27 =>
  pickD t48 t53 (Value.bool false) fun t54 =>
  ifD t54 (
  V Tryd.prog (Instr.indexAt 28 t26 t15) w27 fun t59 w29 =>
  V Tryd.prog (Instr.loadAt 4 t59) w29 fun t60 w30 =>
  V Tryd.prog (Op.unary UnOp.not t60) w30 fun t61 w31 =>
  ifD t61 (
  V Tryd.prog (Instr.indexAt 23 t3 t15) w31 fun t66 w32 =>
  V Tryd.prog (Instr.loadAt 21 t66) w32 fun t67 w33 =>
  V Tryd.prog (Instr.indexAt 23 t44 t15) w33 fun t68 w34 =>
  U Tryd.prog (Instr.storeAt 21 t68 t67) w34 fun _ w35 =>
  V Tryd.prog (binOp .add 3 t15 (Value.int IntKind.i64 1)) w35 fun t56 w36 =>
  I1 t56 w36 ∧ μ1 t56 w36 < μ1 t15 w20) (
  V Tryd.prog (binOp .add 3 t15 (Value.int IntKind.i64 1)) w31 fun t56_1 w37 =>
  I1 t56_1 w37 ∧ μ1 t56_1 w37 < μ1 t15 w20)) (
  callD Tryd.prog 9 #[t4, (Value.int IntKind.i64 150)] w27 fun t70 w38 =>
  V Tryd.prog (Instr.loadAt 26 t11) w38 fun t72 w39 =>
  callD Tryd.prog 10 #[t72, t38, (Value.int IntKind.i64 0), t70] w39 fun t75 w40 =>
  V Tryd.prog (Instr.extract t75 0) w40 fun t76 w41 =>
  V Tryd.prog (Instr.extract t75 1) w41 fun t77 w42 =>
  V Tryd.prog (Instr.extract t75 2) w42 fun t78 w43 =>
  V Tryd.prog (Instr.loadAt 26 t11) w43 fun t80 w44 =>
  callD Tryd.prog 10 #[t80, t44, (Value.int IntKind.i64 0), t70] w44 fun t83 w45 =>
  V Tryd.prog (Instr.extract t83 0) w45 fun t84 w46 =>
  V Tryd.prog (Instr.extract t83 1) w46 fun t85 w47 =>
  V Tryd.prog (Instr.extract t83 2) w47 fun t86 w48 =>
  V Tryd.prog (do eqGuard .eql 3 (Operand.tmp 87) (Operand.tmp 88) t77 t85; binOp .eql 3 t77 t85) w48 fun t89 w49 =>
  gd t89 true (fun K => K t78 w49) w49 fun t91 w50 =>
  gd t89 true (fun K => K t86 w50) w50 fun t92 w51 =>
  gd t89 true (fun K => V Tryd.prog (do eqGuard .eql 3 (Operand.tmp 91) (Operand.tmp 92) t91 t92; binOp .eql 3 t91 t92) w51 K) w51 fun t93 w52 =>
  pickD t89 t93 (Value.bool false) fun t94 =>
  R t94 w52))
theorem F3_eq (t0 : Value) (t1 : Value) (t2 : Value) (t3 : Value) (t4 : Value) (w : World) (R : Value → World → Prop) : F3_den t0 t1 t2 t3 t4 w R = vc Tryd.prog F3_ann (Tryd.f3.body.getD .skip) (retE Tryd.prog Tryd.f3.results.toList R) (argEnv [t0, t1, t2, t3, t4]) w := by kernel_rfl
theorem F3_wp {t0 : Value} {t1 : Value} {t2 : Value} {t3 : Value} {t4 : Value} {w : World} {R : Value → World → Prop} (h : F3_den t0 t1 t2 t3 t4 w R) : callD Tryd.prog 3 #[t0, t1, t2, t3, t4] w R :=
  callD.of_calls (fn := Tryd.f3) (c := Tryd.f3.body.getD .skip) Tryd.func3 (by kernel_rfl) (by kernel_rfl) (calls_of_vc (args := [t0, t1, t2, t3, t4]) F3_ann mixed Tryd.func3 (by kernel_rfl) (by kernel_rfl) (F3_eq t0 t1 t2 t3 t4 w R ▸ h))

/-- taciturn/taciturnlaw20.PlaceRight -/
def F4_ann : Ann := (Ann.seq Ann.leaf (Ann.seq Ann.leaf (Ann.seq Ann.leaf (Ann.join [15, 16, 25, 26, 27, 28, 29, 30, 31, 32, 33, 34, 35, 36, 37, 38, 39, 40, 41, 42, 43, 44, 45, 46, 47, 48, 49, 50, 51, 52, 53, 54, 55, 56, 57, 58, 59, 60, 61, 62, 63, 64, 65, 66, 67, 68, 69, 70, 71, 72, 73, 74, 75, 76, 77, 78, 79, 80] [] (Ann.seq Ann.leaf (Ann.cond (Ann.seq Ann.leaf (Ann.seq (Ann.seq Ann.leaf (Ann.block (Ann.loop [15, 31, 32, 33, 34, 35, 36, 37, 38, 39, 40, 41, 42, 43] [15] (Ann.seq (Ann.seq Ann.leaf (Ann.cond Ann.leaf Ann.leaf)) (Ann.seq (Ann.block Ann.leaf) Ann.leaf))))) (Ann.seq Ann.leaf (Ann.block (Ann.loop [16, 44, 45, 46, 47, 48, 49, 50, 51, 52, 53, 54, 55, 56, 57, 58, 59, 60, 61, 62, 63, 64, 65, 66, 67, 68, 69, 70, 71, 72, 73, 74, 75, 76, 77, 78, 79, 80] [16] (Ann.seq (Ann.seq Ann.leaf (Ann.cond Ann.leaf Ann.leaf)) (Ann.seq (Ann.block (Ann.draw [0, 1, 0, 0, 12, 16, 0, 64, 160, 0, 0, 1536, 2048, 4096, 0, 16384, 41216, 65536, 131072, 0, 0, 1572864, 2097152, 4194304, 8454144, 17039360, 67108863, 134217727] [0, 1, 0, 0, 12, 16, 0, 64, 160, 0, 0, 1536, 2048, 4096, 0, 16384, 40960, 65536, 131072, 0, 0, 1572864, 2097152, 4194304, 8388608, 17039360, 258, 100663296] 27 (.take 0 (.take 1 (.take 2 (.take 3 (.take 4 (.take 5 (.take 6 (.take 7 (.take 9 (.take 10 (.take 11 (.take 12 (.take 13 (.take 14 (.take 15 (.take 19 (.take 20 (.take 21 (.take 22 (.take 23 (.only 8 (.only 16 (.take 17 (.take 18 (.only 24 (.take 25 (.take 26 (.last 27)))))))))))))))))))))))))))))) Ann.leaf))))))) Ann.leaf)) (Ann.join [81, 82, 83, 84, 85, 86, 87, 88, 89, 90] [] (Ann.seq Ann.leaf (Ann.cond Ann.leaf Ann.leaf)) (Ann.seq (Ann.draw [0, 1, 2, 2, 14, 2, 50, 2, 194, 274, 514, 2047] [0, 1, 2, 2, 14, 2, 34, 2, 194, 274, 514, 1024] 12 (.only 0 (.take 1 (.take 2 (.take 3 (.take 5 (.take 7 (.only 4 (.only 6 (.only 8 (.take 9 (.take 10 (.take 11 .done))))))))))))) Ann.leaf))))))
def F4_den (t0 : Value) (t1 : Value) (t2 : Value) (t3 : Value) (t4 : Value) (t5 : Value) (w : World) (R : Value → World → Prop) : Prop :=
  callD Tryd.prog 6 #[t0, t1, t2] w fun t20 w1 =>
  V Tryd.prog (Instr.alloc 26 true (.tuple #[])) w1 fun t13 w2 =>
  U Tryd.prog (Instr.storeAt 26 t13 t20) w2 fun _ w3 =>
  V Tryd.prog (Instr.loadAt 26 t13) w3 fun t21 w4 =>
  callD Tryd.prog 11 #[t21, t3, t4] w4 fun t24 w5 =>
  V Tryd.prog (Instr.alloc 37 true (.tuple #[])) w5 fun t14 w6 =>
  U Tryd.prog (Instr.storeAt 37 t14 t24) w6 fun _ w7 =>
  ∃ J1 : NP 0,
  (V Tryd.prog (binOp .rem 3 t5 (Value.int IntKind.i64 3)) w7 fun t26 w8 =>
  V Tryd.prog (binOp .gtr 3 t26 (Value.int IntKind.i64 0)) w8 fun t27 w9 =>
  ifD t27 (
  V Tryd.prog (Instr.fieldAt 26 t13 1) w9 fun t28 w10 =>
  V Tryd.prog (Instr.loadAt 3 t28) w10 fun t29 w11 =>
  V Tryd.prog (Instr.build 37 #[(1, t29)]) w11 fun t30 w12 =>
  U Tryd.prog (Instr.storeAt 37 t14 t30) w12 fun _ w13 =>
  ∃ (I2 : NP 1) (μ2 : NF 1), I2 (Value.int IntKind.i64 0) w13 ∧
  ∀ (t15 : Value), ∀ w14 : World, I2 t15 w14 → ∀ _f : Env,
  V Tryd.prog (Instr.fieldAt 26 t13 1) w14 fun t32 w15 =>
  V Tryd.prog (Instr.loadAt 3 t32) w15 fun t33 w16 =>
  V Tryd.prog (binOp .lss 3 t15 t33) w16 fun t34 w17 =>
  ifD t34 (
  V Tryd.prog (Instr.fieldAt 37 t14 0) w17 fun t37 w18 =>
  V Tryd.prog (Instr.loadAt 35 t37) w18 fun t38 w19 =>
  V Tryd.prog (binOp .add 3 (Value.int IntKind.i64 16) t15) w19 fun t40 w20 =>
  V Tryd.prog (Instr.buildSlice 35 1 #[(0, t40)]) w20 fun t41 w21 =>
  V Tryd.prog (Builtin.append_ #[35, 35] 35 #[t38, t41]) w21 fun t42 w22 =>
  V Tryd.prog (Instr.fieldAt 37 t14 0) w22 fun t43 w23 =>
  U Tryd.prog (Instr.storeAt 35 t43 t42) w23 fun _ w24 =>
  V Tryd.prog (binOp .add 3 t15 (Value.int IntKind.i64 1)) w24 fun t36 w25 =>
  I2 t36 w25 ∧ μ2 t36 w25 < μ2 t15 w14) (
  ∃ (I3 : NP 1) (μ3 : NF 1), I3 (Value.int IntKind.i64 0) w17 ∧
  ∀ (t16 : Value), ∀ w26 : World, I3 t16 w26 → ∀ _f : Env,
  V Tryd.prog (Builtin.len_ #[35] 3 #[t3]) w26 fun t46 w27 =>
  V Tryd.prog (binOp .lss 3 t16 t46) w27 fun t47 w28 =>
  gd t47 true (fun K => K t16 w28) w28 fun t49 w29 =>
  gd t47 true (fun K => V Tryd.prog (binOp .lss 3 t49 (Value.int IntKind.i64 3)) w29 K) w29 fun t50 w30 =>
  pickD t47 t50 (Value.bool false) fun t51 =>
  ifD t51 (
  drawD w30 fun S12 w32 =>
  yieldS Tryd.prog S12 (Instr.fieldAt 37 t14 0) fun t54 =>
  yieldS Tryd.prog S12 (Instr.loadAt 35 t54) fun t55 =>
  yieldS Tryd.prog S12 (Instr.indexAt 35 t3 t16) fun t58 =>
  yieldS Tryd.prog S12 (Instr.loadAt 3 t58) fun t59 =>
  yieldS Tryd.prog S12 (Instr.fieldAt 26 t13 1) fun t60 =>
  yieldS Tryd.prog S12 (Instr.loadAt 3 t60) fun t61 =>
  yieldS Tryd.prog S12 (Instr.indexAt 35 t3 t16) fun t65 =>
  yieldS Tryd.prog S12 (Instr.loadAt 3 t65) fun t66 =>
  yieldS Tryd.prog S12 (binOp .quo 3 t66 (Value.int IntKind.i64 7)) fun t67 =>
  yieldS Tryd.prog S12 (Instr.fieldAt 26 t13 1) fun t68 =>
  yieldS Tryd.prog S12 (Instr.loadAt 3 t68) fun t69 =>
  yieldS Tryd.prog S12 (Instr.indexAt 35 t3 t16) fun t75 =>
  yieldS Tryd.prog S12 (Instr.loadAt 3 t75) fun t76 =>
  yieldS Tryd.prog S12 (binOp .quo 3 t76 (Value.int IntKind.i64 50)) fun t77 =>
  callD Tryd.prog 9 #[t59, t61] w32 fun t62 w33 =>
  S12 w33 ∧
  callD Tryd.prog 9 #[t67, t69] w33 fun t70 w34 =>
  S12 w34 ∧
  yieldS Tryd.prog S12 (binOp .add 3 (Value.int IntKind.i64 16) t70) fun t71 =>
  yieldS Tryd.prog S12 (Instr.build 39 #[(0, (Value.int IntKind.i64 5)), (1, (Value.int IntKind.i64 6)), (2, (Value.int IntKind.i64 16)), (3, t71)]) fun t72 =>
  callD Tryd.prog 9 #[t77, (Value.int IntKind.i64 4)] w34 fun t78 w35 =>
  S12 w35 ∧
  yieldS Tryd.prog S12 (Instr.index 39 t72 t78) fun t79 =>
  yieldS Tryd.prog S12 (Instr.indexAt 35 t55 t62) fun t80 =>
  U Tryd.prog (Instr.storeAt 3 t80 t79) w35 fun _ w36 =>
  V Tryd.prog (binOp .add 3 t16 (Value.int IntKind.i64 1)) w36 fun t53 w37 =>
  I3 t53 w37 ∧ μ3 t53 w37 < μ3 t16 w26) (
  J1 w30))) (
  J1 w9)) ∧
  ∀ w38 : World, J1 w38 → ∀ _f : Env,
  ∃ J4 : NP 0,
  (V Tryd.prog (binOp .rem 3 t5 (Value.int IntKind.i64 7)) w38 fun t82 w39 =>
  V Tryd.prog (do eqGuard .eql 3 (Operand.tmp 82) (Operand.const (Value.int IntKind.i64 0)) t82 (Value.int IntKind.i64 0); binOp .eql 3 t82 (Value.int IntKind.i64 0)) w39 fun t83 w40 =>
  ifD t83 (
  V Tryd.prog (Instr.buildSlice 35 0 #[]) w40 fun t84 w41 =>
  V Tryd.prog (Instr.fieldAt 37 t14 0) w41 fun t85 w42 =>
  V Tryd.prog (Instr.loadAt 35 t85) w42 fun t86 w43 =>
  V Tryd.prog (Builtin.append_ #[35, 35] 35 #[t84, t86]) w43 fun t87 w44 =>
  V Tryd.prog (Instr.buildSlice 35 1 #[(0, (Value.int IntKind.i64 16))]) w44 fun t88 w45 =>
  V Tryd.prog (Builtin.append_ #[35, 35] 35 #[t87, t88]) w45 fun t89 w46 =>
  V Tryd.prog (Instr.fieldAt 37 t14 0) w46 fun t90 w47 =>
  U Tryd.prog (Instr.storeAt 35 t90 t89) w47 fun _ w48 =>
  J4 w48) (
  J4 w40)) ∧
  ∀ w49 : World, J4 w49 → ∀ _f : Env,
  drawD w49 fun S15 w50 =>
  callD Tryd.prog 12 #[] w50 fun t91 w51 =>
  S15 w51 ∧
  gdY t91 true (fun K => yieldS Tryd.prog S15 (Instr.loadAt 26 t13) K) fun t93 =>
  gdY t91 true (fun K => yieldS Tryd.prog S15 (Instr.loadAt 37 t14) K) fun t94 =>
  gdY t91 true (fun K => yieldS Tryd.prog S15 (Instr.loadAt 26 t13) K) fun t96 =>
  gdY t91 true (fun K => yieldS Tryd.prog S15 (Instr.loadAt 37 t14) K) fun t98 =>
  gd t91 true (fun K => callD Tryd.prog 13 #[t93, t94] w51 K) w51 fun t95 w52 =>
  S15 w52 ∧
  gd t91 true (fun K => callD Tryd.prog 15 #[t96] w52 K) w52 fun t97 w53 =>
  S15 w53 ∧
  gd t91 true (fun K => callD Tryd.prog 14 #[t97, t98] w53 K) w53 fun t99 w54 =>
  S15 w54 ∧
  gdY t91 true (fun K => yieldS Tryd.prog S15 (do eqGuard .eql 4 (Operand.tmp 95) (Operand.tmp 99) t95 t99; binOp .eql 4 t95 t99) K) fun t100 =>
  pickD t91 t100 (Value.bool false) fun t101 =>
  R t101 w54
theorem F4_eq (t0 : Value) (t1 : Value) (t2 : Value) (t3 : Value) (t4 : Value) (t5 : Value) (w : World) (R : Value → World → Prop) : F4_den t0 t1 t2 t3 t4 t5 w R = vc Tryd.prog F4_ann (Tryd.f4.body.getD .skip) (retE Tryd.prog Tryd.f4.results.toList R) (argEnv [t0, t1, t2, t3, t4, t5]) w := by kernel_rfl
theorem F4_wp {t0 : Value} {t1 : Value} {t2 : Value} {t3 : Value} {t4 : Value} {t5 : Value} {w : World} {R : Value → World → Prop} (h : F4_den t0 t1 t2 t3 t4 t5 w R) : callD Tryd.prog 4 #[t0, t1, t2, t3, t4, t5] w R :=
  callD.of_calls (fn := Tryd.f4) (c := Tryd.f4.body.getD .skip) Tryd.func4 (by kernel_rfl) (by kernel_rfl) (calls_of_vc (args := [t0, t1, t2, t3, t4, t5]) F4_ann mixed Tryd.func4 (by kernel_rfl) (by kernel_rfl) (F4_eq t0 t1 t2 t3 t4 t5 w R ▸ h))

/-- taciturn/taciturnlaw20.PlaceAllocates -/
def F5_ann : Ann := (Ann.seq Ann.leaf (Ann.seq Ann.leaf (Ann.seq Ann.leaf (Ann.seq (Ann.draw [0, 1, 2, 2, 14, 18, 48, 64, 192, 64, 832, 1088, 4095] [0, 1, 2, 2, 14, 18, 32, 64, 192, 64, 832, 1088, 2048] 13 (.only 0 (.take 1 (.take 2 (.take 3 (.only 4 (.take 5 (.take 6 (.take 7 (.take 9 (.only 8 (.only 10 (.take 11 (.take 12 .done)))))))))))))) Ann.leaf))))
def F5_den (t0 : Value) (t1 : Value) (t2 : Value) (w : World) (R : Value → World → Prop) : Prop :=
  callD Tryd.prog 6 #[t0, t1, t2] w fun t12 w1 =>
  V Tryd.prog (Instr.alloc 26 true (.tuple #[])) w1 fun t7 w2 =>
  U Tryd.prog (Instr.storeAt 26 t7 t12) w2 fun _ w3 =>
  V Tryd.prog (Instr.loadAt 26 t7) w3 fun t13 w4 =>
  callD Tryd.prog 16 #[t13] w4 fun t14 w5 =>
  V Tryd.prog (Instr.alloc 37 true (.tuple #[])) w5 fun t8 w6 =>
  U Tryd.prog (Instr.storeAt 37 t8 t14) w6 fun _ w7 =>
  drawD w7 fun S3 w8 =>
  callD Tryd.prog 12 #[] w8 fun t15 w9 =>
  S3 w9 ∧
  gdY t15 true (fun K => yieldS Tryd.prog S3 (Instr.loadAt 26 t7) K) fun t17 =>
  gdY t15 true (fun K => yieldS Tryd.prog S3 (Instr.loadAt 37 t8) K) fun t18 =>
  gd t15 true (fun K => callD Tryd.prog 13 #[t17, t18] w9 K) w9 fun t19 w10 =>
  S3 w10 ∧
  pickD t15 t19 (Value.bool false) fun t20 =>
  gdY t20 true (fun K => yieldS Tryd.prog S3 (Instr.loadAt 26 t7) K) fun t22 =>
  gdY t20 true (fun K => yieldS Tryd.prog S3 (Instr.loadAt 37 t8) K) fun t24 =>
  gd t20 true (fun K => callD Tryd.prog 15 #[t22] w10 K) w10 fun t23 w11 =>
  S3 w11 ∧
  gd t20 true (fun K => callD Tryd.prog 14 #[t23, t24] w11 K) w11 fun t25 w12 =>
  S3 w12 ∧
  pickD t20 t25 (Value.bool false) fun t26 =>
  R t26 w12
theorem F5_eq (t0 : Value) (t1 : Value) (t2 : Value) (w : World) (R : Value → World → Prop) : F5_den t0 t1 t2 w R = vc Tryd.prog F5_ann (Tryd.f5.body.getD .skip) (retE Tryd.prog Tryd.f5.results.toList R) (argEnv [t0, t1, t2]) w := by kernel_rfl
theorem F5_wp {t0 : Value} {t1 : Value} {t2 : Value} {w : World} {R : Value → World → Prop} (h : F5_den t0 t1 t2 w R) : callD Tryd.prog 5 #[t0, t1, t2] w R :=
  callD.of_calls (fn := Tryd.f5) (c := Tryd.f5.body.getD .skip) Tryd.func5 (by kernel_rfl) (by kernel_rfl) (calls_of_vc (args := [t0, t1, t2]) F5_ann mixed Tryd.func5 (by kernel_rfl) (by kernel_rfl) (F5_eq t0 t1 t2 w R ▸ h))

/-- taciturn/taciturnhand.Tame -/
def F6_ann : Ann := (Ann.seq Ann.leaf (Ann.seq Ann.leaf (Ann.seq (Ann.seq Ann.leaf (Ann.block (Ann.loop [8, 9, 10, 15, 16, 17, 18, 19, 20, 21, 22, 23, 24, 25, 26, 27, 28, 29, 30, 31, 32, 33, 34, 35, 36, 37, 38, 39, 40, 41, 42, 43, 44, 45, 46, 47, 48, 49, 50, 51, 52, 53, 54, 55, 56, 57, 58, 59, 60, 61, 62, 63, 64, 65, 66, 67, 68, 69, 70, 71, 72, 73, 74, 75] [8] (Ann.seq (Ann.seq Ann.leaf (Ann.cond Ann.leaf Ann.leaf)) (Ann.seq (Ann.block (Ann.join [9, 22, 23, 24, 25, 26, 27, 28] [9] (Ann.draw [0, 1, 0, 4, 8, 16, 34, 0, 255] [0, 1, 0, 4, 8, 16, 34, 0, 192] 8 (.take 0 (.take 1 (.take 2 (.take 3 (.take 4 (.two 5 7 (.take 6 (.only 7 (.last 8))) (.only 5 (.take 6 (.last 8)))))))))) (Ann.seq (Ann.seq Ann.leaf (Ann.block (Ann.loop [10, 29, 30, 31, 32, 33, 34, 35, 36, 37, 38, 39, 40, 41] [10] (Ann.seq (Ann.seq Ann.leaf (Ann.cond Ann.leaf Ann.leaf)) (Ann.seq (Ann.block Ann.leaf) Ann.leaf))))) (Ann.seq (Ann.draw [0, 1, 0, 0, 8, 0, 48, 64, 255, 511] [0, 1, 0, 0, 8, 0, 48, 64, 6, 384] 9 (.take 0 (.take 1 (.take 2 (.take 3 (.take 4 (.take 5 (.take 6 (.take 7 (.take 8 (.last 9))))))))))) (Ann.seq Ann.leaf (Ann.seq (Ann.seq Ann.leaf (Ann.cond Ann.leaf Ann.leaf)) (Ann.seq Ann.leaf (Ann.cond Ann.leaf Ann.leaf)))))))) Ann.leaf))))) (Ann.seq Ann.leaf Ann.leaf))))
def F6_den (t0 : Value) (t1 : Value) (t2 : Value) (w : World) (R : Value → World → Prop) : Prop :=
  V Tryd.prog (Instr.alloc 26 true (.tuple #[])) w fun t6 w1 =>
  callD Tryd.prog 17 #[t0, t1, t2] w1 fun t14 w2 =>
  V Tryd.prog (Instr.alloc 26 true (.tuple #[])) w2 fun t7 w3 =>
  U Tryd.prog (Instr.storeAt 26 t7 t14) w3 fun _ w4 =>
  ∃ (I1 : NP 1) (μ1 : NF 1), I1 (Value.int IntKind.i64 0) w4 ∧
  ∀ (t8 : Value), ∀ w5 : World, I1 t8 w5 → ∀ _f : Env,
  V Tryd.prog (Instr.fieldAt 26 t7 2) w5 fun t16 w6 =>
  V Tryd.prog (Instr.loadAt 24 t16) w6 fun t17 w7 =>
  V Tryd.prog (Builtin.len_ #[24] 3 #[t17]) w7 fun t18 w8 =>
  V Tryd.prog (binOp .lss 3 t8 t18) w8 fun t19 w9 =>
  ifD t19 (
  ∃ J2 : NP 1,
  (drawD w9 fun S5 w10 =>
  yieldS Tryd.prog S5 (Instr.fieldAt 26 t7 1) fun t22 =>
  yieldS Tryd.prog S5 (Instr.loadAt 3 t22) fun t23 =>
  yieldS Tryd.prog S5 (Instr.fieldAt 26 t7 2) fun t24 =>
  yieldS Tryd.prog S5 (Instr.loadAt 24 t24) fun t25 =>
  yieldS Tryd.prog S5 (Builtin.len_ #[24] 3 #[t25]) fun t26 =>
  (V Tryd.prog (Instr.makeSlice 24 t26 t26) w10 fun t27 w11 =>
  S5 w11 ∧
  yieldS Tryd.prog S5 (Instr.build 26 #[(1, t23), (2, t27)]) fun t28 =>
  V Tryd.prog (Instr.alloc 26 true (.tuple #[])) w11 fun t9 w12 =>
  S5 w12 ∧
  U Tryd.prog (Instr.storeAt 26 t9 t28) w12 fun _ w13 =>
  J2 t9 w13) ∧
  (V Tryd.prog (Instr.alloc 26 true (.tuple #[])) w10 fun t9_1 w14 =>
  S5 w14 ∧
  V Tryd.prog (Instr.makeSlice 24 t26 t26) w14 fun t27_1 w15 =>
  S5 w15 ∧
  yieldS Tryd.prog S5 (Instr.build 26 #[(1, t23), (2, t27_1)]) fun t28_1 =>
  U Tryd.prog (Instr.storeAt 26 t9_1 t28_1) w15 fun _ w16 =>
  J2 t9_1 w16)) ∧
  ∀ (t9_2 : Value), ∀ w17 : World, J2 t9_2 w17 → ∀ _f : Env,
  ∃ (I3 : NP 1) (μ3 : NF 1), I3 (Value.int IntKind.i64 0) w17 ∧
  ∀ (t10 : Value), ∀ w18 : World, I3 t10 w18 → ∀ _f : Env,
  V Tryd.prog (Instr.fieldAt 26 t9_2 2) w18 fun t30 w19 =>
  V Tryd.prog (Instr.loadAt 24 t30) w19 fun t31 w20 =>
  V Tryd.prog (Builtin.len_ #[24] 3 #[t31]) w20 fun t32 w21 =>
  V Tryd.prog (binOp .lss 3 t10 t32) w21 fun t33 w22 =>
  ifD t33 (
  V Tryd.prog (Instr.fieldAt 26 t9_2 2) w22 fun t36 w23 =>
  V Tryd.prog (Instr.loadAt 24 t36) w23 fun t37 w24 =>
  V Tryd.prog (Instr.build 50 #[]) w24 fun t39 w25 =>
  V Tryd.prog (Instr.makeInterface 50 t39) w25 fun t40 w26 =>
  V Tryd.prog (Instr.indexAt 24 t37 t10) w26 fun t41 w27 =>
  U Tryd.prog (Instr.storeAt 52 t41 t40) w27 fun _ w28 =>
  V Tryd.prog (binOp .add 3 t10 (Value.int IntKind.i64 1)) w28 fun t35 w29 =>
  I3 t35 w29 ∧ μ3 t35 w29 < μ3 t10 w18) (
  drawD w22 fun S10 w30 =>
  yieldS Tryd.prog S10 (Instr.fieldAt 26 t9_2 2) fun t42 =>
  yieldS Tryd.prog S10 (Instr.loadAt 24 t42) fun t43 =>
  yieldS Tryd.prog S10 (Instr.fieldAt 26 t7 2) fun t45 =>
  yieldS Tryd.prog S10 (Instr.loadAt 24 t45) fun t46 =>
  yieldS Tryd.prog S10 (Instr.indexAt 24 t46 t8) fun t48 =>
  yieldS Tryd.prog S10 (Instr.loadAt 52 t48) fun t49 =>
  yieldS Tryd.prog S10 (Instr.indexAt 24 t43 t8) fun t50 =>
  U Tryd.prog (Instr.storeAt 52 t50 t49) w30 fun _ w31 =>
  V Tryd.prog (Instr.fieldAt 26 t9_2 2) w31 fun t51 w32 =>
  V Tryd.prog (Instr.loadAt 24 t51) w32 fun t52 w33 =>
  V Tryd.prog (Instr.fieldAt 26 t9_2 2) w33 fun t53 w34 =>
  V Tryd.prog (Instr.loadAt 24 t53) w34 fun t54 w35 =>
  V Tryd.prog (Builtin.len_ #[24] 3 #[t54]) w35 fun t55 w36 =>
  V Tryd.prog (binOp .sub 3 t55 (Value.int IntKind.i64 1)) w36 fun t56 w37 =>
  V Tryd.prog (Instr.build 54 #[(0, (Value.int IntKind.i64 (-1)))]) w37 fun t57 w38 =>
  V Tryd.prog (Instr.makeInterface 54 t57) w38 fun t58 w39 =>
  V Tryd.prog (Instr.indexAt 24 t52 t56) w39 fun t59 w40 =>
  U Tryd.prog (Instr.storeAt 52 t59 t58) w40 fun _ w41 =>
  V Tryd.prog (Instr.fieldAt 26 t7 2) w41 fun t61 w42 =>
  V Tryd.prog (Instr.loadAt 24 t61) w42 fun t62 w43 =>
  V Tryd.prog (Builtin.len_ #[24] 3 #[t62]) w43 fun t63 w44 =>
  V Tryd.prog (binOp .sub 3 t63 (Value.int IntKind.i64 1)) w44 fun t64 w45 =>
  V Tryd.prog (do eqGuard .eql 3 (Operand.tmp 60) (Operand.tmp 64) t8 t64; binOp .eql 3 t8 t64) w45 fun t65 w46 =>
  ifD t65 (
  V Tryd.prog (Instr.loadAt 26 t7) w46 fun t76 w47 =>
  U Tryd.prog (Instr.storeAt 26 t6 t76) w47 fun _ w48 =>
  ∃ r1, (loadVar 26 (match t6 with | .pointer (some p) => p | _ => ⟨0, 0, none⟩)).run Tryd.prog w48 = .ok r1 w48 ∧ (∃ p, t6 = Value.pointer (some p)) ∧ R r1 w48) (
  V Tryd.prog (Instr.loadAt 26 t9_2) w46 fun t66 w49 =>
  callD Tryd.prog 15 #[t66] w49 fun t67 w50 =>
  callD Tryd.prog 18 #[t67] w50 fun t68 w51 =>
  V Tryd.prog (Op.unary UnOp.not t68) w51 fun t69 w52 =>
  ifD t69 (
  V Tryd.prog (Instr.fieldAt 26 t7 2) w52 fun t70 w53 =>
  V Tryd.prog (Instr.loadAt 24 t70) w53 fun t71 w54 =>
  V Tryd.prog (Instr.build 50 #[]) w54 fun t73 w55 =>
  V Tryd.prog (Instr.makeInterface 50 t73) w55 fun t74 w56 =>
  V Tryd.prog (Instr.indexAt 24 t71 t8) w56 fun t75 w57 =>
  U Tryd.prog (Instr.storeAt 52 t75 t74) w57 fun _ w58 =>
  V Tryd.prog (binOp .add 3 t8 (Value.int IntKind.i64 1)) w58 fun t21 w59 =>
  I1 t21 w59 ∧ μ1 t21 w59 < μ1 t8 w5) (
  V Tryd.prog (binOp .add 3 t8 (Value.int IntKind.i64 1)) w52 fun t21_1 w60 =>
  I1 t21_1 w60 ∧ μ1 t21_1 w60 < μ1 t8 w5)))) (
  V Tryd.prog (Instr.loadAt 26 t7) w9 fun t76_1 w61 =>
  U Tryd.prog (Instr.storeAt 26 t6 t76_1) w61 fun _ w62 =>
  ∃ r1, (loadVar 26 (match t6 with | .pointer (some p) => p | _ => ⟨0, 0, none⟩)).run Tryd.prog w62 = .ok r1 w62 ∧ (∃ p, t6 = Value.pointer (some p)) ∧ R r1 w62)
theorem F6_eq (t0 : Value) (t1 : Value) (t2 : Value) (w : World) (R : Value → World → Prop) : F6_den t0 t1 t2 w R = vc Tryd.prog F6_ann (Tryd.f6.body.getD .skip) (retE Tryd.prog Tryd.f6.results.toList R) (argEnv [t0, t1, t2]) w := by kernel_rfl
theorem F6_wp {t0 : Value} {t1 : Value} {t2 : Value} {w : World} {R : Value → World → Prop} (h : F6_den t0 t1 t2 w R) : callD Tryd.prog 6 #[t0, t1, t2] w R :=
  callD.of_calls (fn := Tryd.f6) (c := Tryd.f6.body.getD .skip) Tryd.func6 (by kernel_rfl) (by kernel_rfl) (calls_of_vc (args := [t0, t1, t2]) F6_ann mixed Tryd.func6 (by kernel_rfl) (by kernel_rfl) (F6_eq t0 t1 t2 w R ▸ h))

/-- taciturn/live.Ahead -/
def F7_ann : Ann := (Ann.seq Ann.leaf (Ann.seq (Ann.seq Ann.leaf (Ann.cond (Ann.seq Ann.leaf Ann.leaf) Ann.leaf)) (Ann.seq (Ann.draw [0, 1, 2, 4, 0, 16, 32, 64, 168, 511] [0, 1, 2, 4, 0, 16, 32, 64, 136, 256] 10 (.take 0 (.take 1 (.take 2 (.take 3 (.take 4 (.only 5 (.re (.take 6 (.take 7 (.only 8 (.re (.take 9 .done))))))))))))) Ann.leaf)))
def F7_den (t0 : Value) (w : World) (R : Value → World → Prop) : Prop :=
  V Tryd.prog (Instr.box 26 t0) w fun t1 w1 =>
  V Tryd.prog (Instr.loadAt 26 t1) w1 fun t3 w2 =>
  callD Tryd.prog 19 #[t3] w2 fun t4 w3 =>
  V Tryd.prog (Op.unary UnOp.not t4) w3 fun t5 w4 =>
  ifD t5 (
  R (Value.slice none 0 0) w4) (
  drawD w4 fun S3 w5 =>
  yieldS Tryd.prog S3 (Instr.fieldAt 26 t1 2) fun t6 =>
  yieldS Tryd.prog S3 (Instr.loadAt 24 t6) fun t7 =>
  yieldS Tryd.prog S3 (Instr.indexAt 24 t7 (Value.int IntKind.i64 0)) fun t8 =>
  yieldS Tryd.prog S3 (Instr.loadAt 52 t8) fun t9 =>
  yieldS Tryd.prog S3 (Instr.loadAt 26 t1) fun t10 =>
  callD Tryd.prog 21 #[t10] w5 fun t11 w6 =>
  S3 w6 ∧
  reS S3 w6 fun S3_7 =>
  yieldS Tryd.prog S3_7 (Instr.indexAt 58 t11 (Value.int IntKind.i64 0)) fun t12 =>
  yieldS Tryd.prog S3_7 (Instr.loadAt 28 t12) fun t13 =>
  callD Tryd.prog 20 #[t9, t13] w6 fun t14 w8 =>
  S3_7 w8 ∧
  reS S3_7 w8 fun S3_7_9 =>
  R t14 w8)
theorem F7_eq (t0 : Value) (w : World) (R : Value → World → Prop) : F7_den t0 w R = vc Tryd.prog F7_ann (Tryd.f7.body.getD .skip) (retE Tryd.prog Tryd.f7.results.toList R) (argEnv [t0]) w := by kernel_rfl
theorem F7_wp {t0 : Value} {w : World} {R : Value → World → Prop} (h : F7_den t0 w R) : callD Tryd.prog 7 #[t0] w R :=
  callD.of_calls (fn := Tryd.f7) (c := Tryd.f7.body.getD .skip) Tryd.func7 (by kernel_rfl) (by kernel_rfl) (calls_of_vc (args := [t0]) F7_ann mixed Tryd.func7 (by kernel_rfl) (by kernel_rfl) (F7_eq t0 w R ▸ h))

/-- taciturn/taciturnlaw19.known -/
def F8_ann : Ann := (Ann.seq Ann.leaf (Ann.seq Ann.leaf (Ann.seq Ann.leaf Ann.leaf)))
def F8_den (w : World) (R : Value → World → Prop) : Prop :=
  V Tryd.prog (Instr.build 61 #[(0, (Value.int IntKind.i64 0))]) w fun t2 w1 =>
  V Tryd.prog (Instr.makeInterface 61 t2) w1 fun t3 w2 =>
  V Tryd.prog (Instr.build 54 #[(0, (Value.int IntKind.i64 0))]) w2 fun t4 w3 =>
  V Tryd.prog (Instr.makeInterface 54 t4) w3 fun t5 w4 =>
  V Tryd.prog (Instr.buildSlice 24 2 #[(0, t3), (1, t5)]) w4 fun t6 w5 =>
  V Tryd.prog (Instr.build 26 #[(1, (Value.int IntKind.i64 2)), (2, t6)]) w5 fun t7 w6 =>
  callD Tryd.prog 21 #[t7] w6 fun t8 w7 =>
  V Tryd.prog (Builtin.len_ #[58] 3 #[t8]) w7 fun t10 w8 =>
  V Tryd.prog (do eqGuard .eql 3 (Operand.tmp 10) (Operand.const (Value.int IntKind.i64 2)) t10 (Value.int IntKind.i64 2); binOp .eql 3 t10 (Value.int IntKind.i64 2)) w8 fun t11 w9 =>
  gd t11 true (fun K => K t8 w9) w9 fun t13 w10 =>
  gd t11 true (fun K => V Tryd.prog (Instr.indexAt 58 t13 (Value.int IntKind.i64 0)) w10 K) w10 fun t14 w11 =>
  gd t11 true (fun K => V Tryd.prog (Instr.loadAt 28 t14) w11 K) w11 fun t15 w12 =>
  gd t11 true (fun K => V Tryd.prog (Builtin.len_ #[28] 3 #[t15]) w12 K) w12 fun t16 w13 =>
  gd t11 true (fun K => V Tryd.prog (do eqGuard .eql 3 (Operand.tmp 16) (Operand.const (Value.int IntKind.i64 2)) t16 (Value.int IntKind.i64 2); binOp .eql 3 t16 (Value.int IntKind.i64 2)) w13 K) w13 fun t17 w14 =>
  pickD t11 t17 (Value.bool false) fun t18 =>
  gd t18 true (fun K => K t8 w14) w14 fun t20 w16 =>
  gd t18 true (fun K => V Tryd.prog (Instr.indexAt 58 t20 (Value.int IntKind.i64 0)) w16 K) w16 fun t21 w17 =>
  gd t18 true (fun K => V Tryd.prog (Instr.loadAt 28 t21) w17 K) w17 fun t22 w18 =>
  gd t18 true (fun K => V Tryd.prog (Instr.indexAt 28 t22 (Value.int IntKind.i64 0)) w18 K) w18 fun t23 w19 =>
  gd t18 true (fun K => V Tryd.prog (Instr.loadAt 4 t23) w19 K) w19 fun t24 w20 =>
  pickD t18 t24 (Value.bool false) fun t25 =>
  gd t25 true (fun K => K t8 w20) w20 fun t27 w22 =>
  gd t25 true (fun K => V Tryd.prog (Instr.indexAt 58 t27 (Value.int IntKind.i64 0)) w22 K) w22 fun t28 w23 =>
  gd t25 true (fun K => V Tryd.prog (Instr.loadAt 28 t28) w23 K) w23 fun t29 w24 =>
  gd t25 true (fun K => V Tryd.prog (Instr.indexAt 28 t29 (Value.int IntKind.i64 1)) w24 K) w24 fun t30 w25 =>
  gd t25 true (fun K => V Tryd.prog (Instr.loadAt 4 t30) w25 K) w25 fun t31 w26 =>
  gd t25 true (fun K => V Tryd.prog (Op.unary UnOp.not t31) w26 K) w26 fun t32 w27 =>
  pickD t25 t32 (Value.bool false) fun t33 =>
  gd t33 true (fun K => K t8 w27) w27 fun t35 w29 =>
  gd t33 true (fun K => V Tryd.prog (Instr.indexAt 58 t35 (Value.int IntKind.i64 1)) w29 K) w29 fun t36 w30 =>
  gd t33 true (fun K => V Tryd.prog (Instr.loadAt 28 t36) w30 K) w30 fun t37 w31 =>
  gd t33 true (fun K => V Tryd.prog (Builtin.len_ #[28] 3 #[t37]) w31 K) w31 fun t38 w32 =>
  gd t33 true (fun K => V Tryd.prog (do eqGuard .eql 3 (Operand.tmp 38) (Operand.const (Value.int IntKind.i64 2)) t38 (Value.int IntKind.i64 2); binOp .eql 3 t38 (Value.int IntKind.i64 2)) w32 K) w32 fun t39 w33 =>
  pickD t33 t39 (Value.bool false) fun t40 =>
  gd t40 true (fun K => K t8 w33) w33 fun t42 w35 =>
  gd t40 true (fun K => V Tryd.prog (Instr.indexAt 58 t42 (Value.int IntKind.i64 1)) w35 K) w35 fun t43 w36 =>
  gd t40 true (fun K => V Tryd.prog (Instr.loadAt 28 t43) w36 K) w36 fun t44 w37 =>
  gd t40 true (fun K => V Tryd.prog (Instr.indexAt 28 t44 (Value.int IntKind.i64 0)) w37 K) w37 fun t45 w38 =>
  gd t40 true (fun K => V Tryd.prog (Instr.loadAt 4 t45) w38 K) w38 fun t46 w39 =>
  gd t40 true (fun K => V Tryd.prog (Op.unary UnOp.not t46) w39 K) w39 fun t47 w40 =>
  pickD t40 t47 (Value.bool false) fun t48 =>
  R t48 w40
theorem F8_eq (w : World) (R : Value → World → Prop) : F8_den w R = vc Tryd.prog F8_ann (Tryd.f8.body.getD .skip) (retE Tryd.prog Tryd.f8.results.toList R) (argEnv []) w := by kernel_rfl
theorem F8_wp {w : World} {R : Value → World → Prop} (h : F8_den w R) : callD Tryd.prog 8 #[] w R :=
  callD.of_calls (fn := Tryd.f8) (c := Tryd.f8.body.getD .skip) Tryd.func8 (by kernel_rfl) (by kernel_rfl) (calls_of_vc (args := []) F8_ann mixed Tryd.func8 (by kernel_rfl) (by kernel_rfl) (F8_eq w R ▸ h))

/-- taciturn/taciturnhand.Pick -/
def F9_ann : Ann := (Ann.seq Ann.leaf (Ann.seq Ann.leaf (Ann.seq (Ann.seq Ann.leaf (Ann.cond Ann.leaf Ann.leaf)) (Ann.seq Ann.leaf Ann.leaf))))
def F9_den (t0 : Value) (t1 : Value) (w : World) (R : Value → World → Prop) : Prop :=
  V Tryd.prog (binOp .rem 3 t0 t1) w fun t7 w1 =>
  V Tryd.prog (binOp .lss 3 t7 (Value.int IntKind.i64 0)) w1 fun t9 w2 =>
  ifD t9 (
  V Tryd.prog (binOp .add 3 t7 t1) w2 fun t12 w3 =>
  R t12 w3) (
  R t7 w2)
theorem F9_eq (t0 : Value) (t1 : Value) (w : World) (R : Value → World → Prop) : F9_den t0 t1 w R = vc Tryd.prog F9_ann (Tryd.f9.body.getD .skip) (retE Tryd.prog Tryd.f9.results.toList R) (argEnv [t0, t1]) w := by kernel_rfl
theorem F9_wp {t0 : Value} {t1 : Value} {w : World} {R : Value → World → Prop} (h : F9_den t0 t1 w R) : callD Tryd.prog 9 #[t0, t1] w R :=
  callD.of_calls (fn := Tryd.f9) (c := Tryd.f9.body.getD .skip) Tryd.func9 (by kernel_rfl) (by kernel_rfl) (calls_of_vc (args := [t0, t1]) F9_ann mixed Tryd.func9 (by kernel_rfl) (by kernel_rfl) (F9_eq t0 t1 w R ▸ h))

/-- taciturn/ir.Eval -/
def F10_ann : Ann := (Ann.seq Ann.leaf (Ann.seq (Ann.seq Ann.leaf (Ann.cond (Ann.seq Ann.leaf Ann.leaf) Ann.leaf)) (Ann.seq Ann.leaf (Ann.seq (Ann.seq Ann.leaf (Ann.block (Ann.loop [2, 12, 13, 14, 15, 16, 29, 30, 31, 32, 33, 34, 35, 36, 37, 38, 39, 40, 41, 42, 43, 44, 45, 46, 47, 48, 49, 50, 51, 52, 53, 54, 55, 56, 57, 58, 59, 60, 61, 62, 63, 64, 65] [2, 12, 13] (Ann.seq (Ann.seq Ann.leaf (Ann.cond Ann.leaf Ann.leaf)) (Ann.seq (Ann.block (Ann.seq Ann.leaf (Ann.seq (Ann.seq Ann.leaf (Ann.seq Ann.leaf (Ann.cond Ann.leaf Ann.leaf))) Ann.leaf))) Ann.leaf))))) (Ann.seq Ann.leaf Ann.leaf)))))
def F10_den (t0 : Value) (t1 : Value) (t2 : Value) (t3 : Value) (w : World) (R : Value → World → Prop) : Prop :=
  V Tryd.prog (Instr.box 26 t0) w fun t4 w1 =>
  V Tryd.prog (Instr.loadAt 26 t4) w1 fun t17 w2 =>
  callD Tryd.prog 19 #[t17] w2 fun t18 w3 =>
  V Tryd.prog (Op.unary UnOp.not t18) w3 fun t19 w4 =>
  gd t19 false (fun K => K t1 w4) w4 fun t21 w5 =>
  gd t19 false (fun K => V Tryd.prog (Builtin.len_ #[23] 3 #[t21]) w5 K) w5 fun t22 w6 =>
  gd t19 false (fun K => V Tryd.prog (Instr.fieldAt 26 t4 1) w6 K) w6 fun t23 w7 =>
  gd t19 false (fun K => V Tryd.prog (Instr.loadAt 3 t23) w7 K) w7 fun t24 w8 =>
  gd t19 false (fun K => V Tryd.prog (do eqGuard .neq 3 (Operand.tmp 22) (Operand.tmp 24) t22 t24; binOp .neq 3 t22 t24) w8 K) w8 fun t25 w9 =>
  pickD t19 (Value.bool true) t25 fun t26 =>
  ifD t26 (
  R (.tuple #[(Value.slice none 0 0), (Value.int IntKind.i64 0), (Value.int IntKind.i64 0)]) w9) (
  callD Tryd.prog 22 #[t1] w9 fun t28 w11 =>
  ∃ (I1 : NP 3) (μ1 : NF 3), I1 t2 (Value.int IntKind.i64 0) (Value.int IntKind.i64 0) w11 ∧
  ∀ (t2_1 : Value) (t12 : Value) (t13 : Value), ∀ w12 : World, I1 t2_1 t12 t13 w12 → ∀ _f : Env,
  V Tryd.prog (binOp .lss 3 t13 t3) w12 fun t31 w13 =>
  gd t31 true (fun K => K t2_1 w13) w13 fun t33 w14 =>
  gd t31 true (fun K => V Tryd.prog (Instr.fieldAt 26 t4 2) w14 K) w14 fun t34 w15 =>
  gd t31 true (fun K => V Tryd.prog (Instr.loadAt 24 t34) w15 K) w15 fun t35 w16 =>
  gd t31 true (fun K => V Tryd.prog (Builtin.len_ #[24] 3 #[t35]) w16 K) w16 fun t36 w17 =>
  gd t31 true (fun K => callD Tryd.prog 23 #[t33, t36] w17 K) w17 fun t37 w18 =>
  pickD t31 t37 (Value.bool false) fun t38 =>
  gd t38 true (fun K => V Tryd.prog (Instr.fieldAt 26 t4 2) w18 K) w18 fun t40 w20 =>
  gd t38 true (fun K => V Tryd.prog (Instr.loadAt 24 t40) w20 K) w20 fun t41 w21 =>
  gd t38 true (fun K => K t2_1 w21) w21 fun t42 w22 =>
  gd t38 true (fun K => V Tryd.prog (Instr.indexAt 24 t41 t42) w22 K) w22 fun t43 w23 =>
  gd t38 true (fun K => V Tryd.prog (Instr.loadAt 52 t43) w23 K) w23 fun t44 w24 =>
  gd t38 true (fun K => callD Tryd.prog 24 #[t44] w24 K) w24 fun t45 w25 =>
  pickD t38 t45 (Value.bool false) fun t46 =>
  ifD t46 (
  V Tryd.prog (Instr.fieldAt 26 t4 2) w25 fun t49 w27 =>
  V Tryd.prog (Instr.loadAt 24 t49) w27 fun t50 w28 =>
  V Tryd.prog (Instr.indexAt 24 t50 t2_1) w28 fun t52 w29 =>
  V Tryd.prog (Instr.loadAt 52 t52) w29 fun t53 w30 =>
  V Tryd.prog (Instr.typeAssert t53 52 50 true) w30 fun t56 w31 =>
  V Tryd.prog (Instr.extract t56 0) w31 fun t57 w32 =>
  V Tryd.prog (Instr.extract t56 1) w32 fun t58 w33 =>
  V Tryd.prog (Instr.alloc 50 true (.tuple #[])) w33 fun t15 w34 =>
  U Tryd.prog (Instr.storeAt 50 t15 t57) w34 fun _ w35 =>
  ifD t58 (
  V Tryd.prog (binOp .add 3 t12 (Value.int IntKind.i64 1)) w35 fun t61 w36 =>
  callD Tryd.prog 25 #[t53, t28, t2_1] w36 fun t65 w37 =>
  V Tryd.prog (binOp .add 3 t13 (Value.int IntKind.i64 1)) w37 fun t48 w38 =>
  I1 t65 t61 t48 w38 ∧ μ1 t65 t61 t48 w38 < μ1 t2_1 t12 t13 w12) (
  callD Tryd.prog 25 #[t53, t28, t2_1] w35 fun t65_1 w39 =>
  V Tryd.prog (binOp .add 3 t13 (Value.int IntKind.i64 1)) w39 fun t48_1 w40 =>
  I1 t65_1 t12 t48_1 w40 ∧ μ1 t65_1 t12 t48_1 w40 < μ1 t2_1 t12 t13 w12)) (
  R (.tuple #[t28, t2_1, t12]) w25))
theorem F10_eq (t0 : Value) (t1 : Value) (t2 : Value) (t3 : Value) (w : World) (R : Value → World → Prop) : F10_den t0 t1 t2 t3 w R = vc Tryd.prog F10_ann (Tryd.f10.body.getD .skip) (retE Tryd.prog Tryd.f10.results.toList R) (argEnv [t0, t1, t2, t3]) w := by kernel_rfl
theorem F10_wp {t0 : Value} {t1 : Value} {t2 : Value} {t3 : Value} {w : World} {R : Value → World → Prop} (h : F10_den t0 t1 t2 t3 w R) : callD Tryd.prog 10 #[t0, t1, t2, t3] w R :=
  callD.of_calls (fn := Tryd.f10) (c := Tryd.f10.body.getD .skip) Tryd.func10 (by kernel_rfl) (by kernel_rfl) (calls_of_vc (args := [t0, t1, t2, t3]) F10_ann mixed Tryd.func10 (by kernel_rfl) (by kernel_rfl) (F10_eq t0 t1 t2 t3 w R ▸ h))

/-- taciturn/taciturnlaw20.some -/
def F11_ann : Ann := (Ann.seq Ann.leaf (Ann.seq Ann.leaf (Ann.seq (Ann.seq Ann.leaf (Ann.block (Ann.loop [8, 9, 13, 14, 15, 16, 17, 18, 19, 20, 21, 22, 23, 24, 25, 26, 27, 28, 29, 30, 31, 32, 33, 34, 35, 36, 37, 38, 39, 40, 41, 42, 43, 44, 45, 46, 47, 48, 49, 50, 51, 52] [8] (Ann.seq (Ann.seq Ann.leaf (Ann.cond Ann.leaf Ann.leaf)) (Ann.seq (Ann.block (Ann.seq Ann.leaf (Ann.join [9, 20, 21, 22, 23, 24, 25, 26, 27] [9] (Ann.seq Ann.leaf (Ann.cond Ann.leaf Ann.leaf)) (Ann.seq Ann.leaf (Ann.block (Ann.seq Ann.leaf (Ann.cond (Ann.draw [0, 1, 0, 4, 8, 16, 32, 82, 255, 511] [0, 1, 0, 4, 8, 16, 32, 66, 0, 384] 9 (.take 0 (.take 1 (.take 2 (.take 3 (.only 4 (.take 5 (.only 6 (.only 7 (.take 8 (.last 9))))))))))) (Ann.draw [0, 1, 0, 4, 0, 16, 32, 72, 128, 256, 642, 2047, 4095] [0, 1, 0, 4, 0, 16, 32, 72, 128, 256, 514, 0, 3072] 12 (.take 0 (.take 1 (.take 2 (.take 3 (.take 4 (.take 5 (.take 6 (.only 7 (.take 8 (.only 9 (.only 10 (.take 11 (.last 12))))))))))))))))))))) Ann.leaf))))) (Ann.seq Ann.leaf Ann.leaf))))
def F11_den (t0 : Value) (t1 : Value) (t2 : Value) (w : World) (R : Value → World → Prop) : Prop :=
  V Tryd.prog (Instr.box 26 t0) w fun t3 w1 =>
  V Tryd.prog (Instr.alloc 37 true (.tuple #[])) w1 fun t6 w2 =>
  callD Tryd.prog 9 #[t2, (Value.int IntKind.i64 12)] w2 fun t11 w3 =>
  V Tryd.prog (Instr.build 37 #[(1, t11)]) w3 fun t12 w4 =>
  V Tryd.prog (Instr.alloc 37 true (.tuple #[])) w4 fun t7 w5 =>
  U Tryd.prog (Instr.storeAt 37 t7 t12) w5 fun _ w6 =>
  ∃ (I1 : NP 1) (μ1 : NF 1), I1 (Value.int IntKind.i64 0) w6 ∧
  ∀ (t8 : Value), ∀ w7 : World, I1 t8 w7 → ∀ _f : Env,
  V Tryd.prog (Instr.fieldAt 26 t3 1) w7 fun t14 w8 =>
  V Tryd.prog (Instr.loadAt 3 t14) w8 fun t15 w9 =>
  V Tryd.prog (binOp .lss 3 t8 t15) w9 fun t16 w10 =>
  ifD t16 (
  ∃ J2 : NP 1,
  (V Tryd.prog (Builtin.len_ #[35] 3 #[t1]) w10 fun t22 w11 =>
  V Tryd.prog (binOp .lss 3 t8 t22) w11 fun t23 w12 =>
  ifD t23 (
  V Tryd.prog (Instr.indexAt 35 t1 t8) w12 fun t26 w13 =>
  V Tryd.prog (Instr.loadAt 3 t26) w13 fun t27 w14 =>
  J2 t27 w14) (
  J2 t8 w12)) ∧
  ∀ (t9 : Value), ∀ w15 : World, J2 t9 w15 → ∀ _f : Env,
  callD Tryd.prog 9 #[t9, (Value.int IntKind.i64 4)] w15 fun t29 w16 =>
  V Tryd.prog (do eqGuard .eql 3 (Operand.tmp 29) (Operand.const (Value.int IntKind.i64 0)) t29 (Value.int IntKind.i64 0); binOp .eql 3 t29 (Value.int IntKind.i64 0)) w16 fun t43 w17 =>
  ifD t43 (
  drawD w17 fun S11 w18 =>
  yieldS Tryd.prog S11 (Instr.fieldAt 37 t7 0) fun t44 =>
  yieldS Tryd.prog S11 (Instr.loadAt 35 t44) fun t45 =>
  yieldS Tryd.prog S11 (binOp .quo 3 t9 (Value.int IntKind.i64 4)) fun t47 =>
  callD Tryd.prog 9 #[t47, (Value.int IntKind.i64 2)] w18 fun t48 w19 =>
  S11 w19 ∧
  yieldS Tryd.prog S11 (binOp .add 3 (Value.int IntKind.i64 5) t48) fun t49 =>
  V Tryd.prog (Instr.buildSlice 35 1 #[(0, t49)]) w19 fun t50 w20 =>
  S11 w20 ∧
  V Tryd.prog (Builtin.append_ #[35, 35] 35 #[t45, t50]) w20 fun t51 w21 =>
  S11 w21 ∧
  yieldS Tryd.prog S11 (Instr.fieldAt 37 t7 0) fun t52 =>
  U Tryd.prog (Instr.storeAt 35 t52 t51) w21 fun _ w22 =>
  V Tryd.prog (binOp .add 3 t8 (Value.int IntKind.i64 1)) w22 fun t18 w23 =>
  I1 t18 w23 ∧ μ1 t18 w23 < μ1 t8 w7) (
  drawD w17 fun S9 w24 =>
  yieldS Tryd.prog S9 (Instr.fieldAt 37 t7 0) fun t30 =>
  yieldS Tryd.prog S9 (Instr.loadAt 35 t30) fun t31 =>
  yieldS Tryd.prog S9 (binOp .quo 3 t9 (Value.int IntKind.i64 4)) fun t33 =>
  yieldS Tryd.prog S9 (Instr.fieldAt 37 t7 1) fun t34 =>
  yieldS Tryd.prog S9 (Instr.loadAt 3 t34) fun t35 =>
  yieldS Tryd.prog S9 (binOp .add 3 t35 (Value.int IntKind.i64 1)) fun t36 =>
  callD Tryd.prog 9 #[t33, t36] w24 fun t37 w25 =>
  S9 w25 ∧
  yieldS Tryd.prog S9 (binOp .add 3 (Value.int IntKind.i64 16) t37) fun t38 =>
  V Tryd.prog (Instr.buildSlice 35 1 #[(0, t38)]) w25 fun t39 w26 =>
  S9 w26 ∧
  V Tryd.prog (Builtin.append_ #[35, 35] 35 #[t31, t39]) w26 fun t40 w27 =>
  S9 w27 ∧
  yieldS Tryd.prog S9 (Instr.fieldAt 37 t7 0) fun t41 =>
  U Tryd.prog (Instr.storeAt 35 t41 t40) w27 fun _ w28 =>
  V Tryd.prog (binOp .add 3 t8 (Value.int IntKind.i64 1)) w28 fun t18_1 w29 =>
  I1 t18_1 w29 ∧ μ1 t18_1 w29 < μ1 t8 w7)) (
  V Tryd.prog (Instr.loadAt 37 t7) w10 fun t53 w30 =>
  U Tryd.prog (Instr.storeAt 37 t6 t53) w30 fun _ w31 =>
  ∃ r1, (loadVar 37 (match t6 with | .pointer (some p) => p | _ => ⟨0, 0, none⟩)).run Tryd.prog w31 = .ok r1 w31 ∧ (∃ p, t6 = Value.pointer (some p)) ∧ R r1 w31)
theorem F11_eq (t0 : Value) (t1 : Value) (t2 : Value) (w : World) (R : Value → World → Prop) : F11_den t0 t1 t2 w R = vc Tryd.prog F11_ann (Tryd.f11.body.getD .skip) (retE Tryd.prog Tryd.f11.results.toList R) (argEnv [t0, t1, t2]) w := by kernel_rfl
theorem F11_wp {t0 : Value} {t1 : Value} {t2 : Value} {w : World} {R : Value → World → Prop} (h : F11_den t0 t1 t2 w R) : callD Tryd.prog 11 #[t0, t1, t2] w R :=
  callD.of_calls (fn := Tryd.f11) (c := Tryd.f11.body.getD .skip) Tryd.func11 (by kernel_rfl) (by kernel_rfl) (calls_of_vc (args := [t0, t1, t2]) F11_ann mixed Tryd.func11 (by kernel_rfl) (by kernel_rfl) (F11_eq t0 t1 t2 w R ▸ h))

/-- taciturn/taciturnlaw20.known -/
def F12_ann : Ann := (Ann.seq Ann.leaf (Ann.seq Ann.leaf (Ann.seq Ann.leaf (Ann.seq Ann.leaf Ann.leaf))))
def F12_den (w : World) (R : Value → World → Prop) : Prop :=
  V Tryd.prog (Instr.build 61 #[(0, (Value.int IntKind.i64 0)), (1, (Value.int IntKind.i32 1))]) w fun t3 w1 =>
  V Tryd.prog (Instr.makeInterface 61 t3) w1 fun t4 w2 =>
  V Tryd.prog (Instr.build 61 #[(0, (Value.int IntKind.i64 1)), (1, (Value.int IntKind.i32 2))]) w2 fun t5 w3 =>
  V Tryd.prog (Instr.makeInterface 61 t5) w3 fun t6 w4 =>
  V Tryd.prog (Instr.build 68 #[(0, (Value.int IntKind.i64 6)), (1, (Value.int IntKind.i64 2)), (2, (Value.int IntKind.i64 0)), (3, (Value.int IntKind.i64 1))]) w4 fun t7 w5 =>
  V Tryd.prog (Instr.makeInterface 68 t7) w5 fun t8 w6 =>
  V Tryd.prog (Instr.build 54 #[(0, (Value.int IntKind.i64 2))]) w6 fun t9 w7 =>
  V Tryd.prog (Instr.makeInterface 54 t9) w7 fun t10 w8 =>
  V Tryd.prog (Instr.buildSlice 24 4 #[(0, t4), (1, t6), (2, t8), (3, t10)]) w8 fun t11 w9 =>
  V Tryd.prog (Instr.build 26 #[(1, (Value.int IntKind.i64 3)), (2, t11)]) w9 fun t12 w10 =>
  V Tryd.prog (Instr.alloc 26 true (.tuple #[])) w10 fun t1 w11 =>
  U Tryd.prog (Instr.storeAt 26 t1 t12) w11 fun _ w12 =>
  V Tryd.prog (Instr.loadAt 26 t1) w12 fun t13 w13 =>
  callD Tryd.prog 16 #[t13] w13 fun t14 w14 =>
  V Tryd.prog (Instr.alloc 37 true (.tuple #[])) w14 fun t2 w15 =>
  U Tryd.prog (Instr.storeAt 37 t2 t14) w15 fun _ w16 =>
  V Tryd.prog (Instr.fieldAt 37 t2 0) w16 fun t15 w17 =>
  V Tryd.prog (Instr.loadAt 35 t15) w17 fun t16 w18 =>
  V Tryd.prog (Builtin.len_ #[35] 3 #[t16]) w18 fun t17 w19 =>
  V Tryd.prog (do eqGuard .eql 3 (Operand.tmp 17) (Operand.const (Value.int IntKind.i64 3)) t17 (Value.int IntKind.i64 3); binOp .eql 3 t17 (Value.int IntKind.i64 3)) w19 fun t18 w20 =>
  gd t18 true (fun K => V Tryd.prog (Instr.fieldAt 37 t2 1) w20 K) w20 fun t20 w21 =>
  gd t18 true (fun K => V Tryd.prog (Instr.loadAt 3 t20) w21 K) w21 fun t21 w22 =>
  gd t18 true (fun K => V Tryd.prog (do eqGuard .eql 3 (Operand.tmp 21) (Operand.const (Value.int IntKind.i64 0)) t21 (Value.int IntKind.i64 0); binOp .eql 3 t21 (Value.int IntKind.i64 0)) w22 K) w22 fun t22 w23 =>
  pickD t18 t22 (Value.bool false) fun t23 =>
  gd t23 true (fun K => V Tryd.prog (Instr.loadAt 26 t1) w23 K) w23 fun t25 w25 =>
  gd t23 true (fun K => V Tryd.prog (Instr.loadAt 37 t2) w25 K) w25 fun t26 w26 =>
  gd t23 true (fun K => callD Tryd.prog 13 #[t25, t26] w26 K) w26 fun t27 w27 =>
  pickD t23 t27 (Value.bool false) fun t28 =>
  gd t28 true (fun K => V Tryd.prog (Instr.loadAt 26 t1) w27 K) w27 fun t30 w29 =>
  gd t28 true (fun K => V Tryd.prog (Instr.buildSlice 35 3 #[(0, (Value.int IntKind.i64 5)), (1, (Value.int IntKind.i64 5)), (2, (Value.int IntKind.i64 6))]) w29 K) w29 fun t31 w30 =>
  gd t28 true (fun K => V Tryd.prog (Instr.build 37 #[(0, t31)]) w30 K) w30 fun t32 w31 =>
  gd t28 true (fun K => callD Tryd.prog 13 #[t30, t32] w31 K) w31 fun t33 w32 =>
  gd t28 true (fun K => V Tryd.prog (Op.unary UnOp.not t33) w32 K) w32 fun t34 w33 =>
  pickD t28 t34 (Value.bool false) fun t35 =>
  R t35 w33
theorem F12_eq (w : World) (R : Value → World → Prop) : F12_den w R = vc Tryd.prog F12_ann (Tryd.f12.body.getD .skip) (retE Tryd.prog Tryd.f12.results.toList R) (argEnv []) w := by kernel_rfl
theorem F12_wp {w : World} {R : Value → World → Prop} (h : F12_den w R) : callD Tryd.prog 12 #[] w R :=
  callD.of_calls (fn := Tryd.f12) (c := Tryd.f12.body.getD .skip) Tryd.func12 (by kernel_rfl) (by kernel_rfl) (calls_of_vc (args := []) F12_ann mixed Tryd.func12 (by kernel_rfl) (by kernel_rfl) (F12_eq w R ▸ h))

/-- taciturn/place.Right -/
def F13_ann : Ann := (Ann.seq Ann.leaf (Ann.seq (Ann.seq Ann.leaf (Ann.cond (Ann.seq Ann.leaf Ann.leaf) Ann.leaf)) (Ann.seq Ann.leaf (Ann.seq (Ann.seq Ann.leaf (Ann.block (Ann.loop [4, 6, 7, 34, 35, 36, 37, 38, 39, 40, 41, 42, 43, 44, 45, 46, 47, 48, 49, 50, 51, 52, 53, 54, 55, 56, 57, 58, 59, 60, 61, 62, 63, 64, 65] [34] (Ann.seq Ann.leaf (Ann.seq (Ann.cond Ann.leaf Ann.leaf) (Ann.seq (Ann.block (Ann.seq Ann.leaf (Ann.seq Ann.leaf (Ann.cond (Ann.seq Ann.leaf Ann.leaf) Ann.leaf)))) Ann.leaf)))))) (Ann.seq Ann.leaf Ann.leaf)))))
def F13_den (t0 : Value) (t1 : Value) (w : World) (R : Value → World → Prop) : Prop :=
  V Tryd.prog (Instr.box 26 t0) w fun t2 w1 =>
  V Tryd.prog (Instr.box 37 t1) w1 fun t3 w2 =>
  V Tryd.prog (Instr.loadAt 26 t2) w2 fun t8 w3 =>
  callD Tryd.prog 19 #[t8] w3 fun t9 w4 =>
  V Tryd.prog (Op.unary UnOp.not t9) w4 fun t10 w5 =>
  gd t10 false (fun K => V Tryd.prog (Instr.fieldAt 37 t3 0) w5 K) w5 fun t12 w6 =>
  gd t10 false (fun K => V Tryd.prog (Instr.loadAt 35 t12) w6 K) w6 fun t13 w7 =>
  gd t10 false (fun K => V Tryd.prog (Builtin.len_ #[35] 3 #[t13]) w7 K) w7 fun t14 w8 =>
  gd t10 false (fun K => V Tryd.prog (Instr.fieldAt 26 t2 1) w8 K) w8 fun t15 w9 =>
  gd t10 false (fun K => V Tryd.prog (Instr.loadAt 3 t15) w9 K) w9 fun t16 w10 =>
  gd t10 false (fun K => V Tryd.prog (do eqGuard .neq 3 (Operand.tmp 14) (Operand.tmp 16) t14 t16; binOp .neq 3 t14 t16) w10 K) w10 fun t17 w11 =>
  pickD t10 (Value.bool true) t17 fun t18 =>
  gd t18 false (fun K => V Tryd.prog (Instr.fieldAt 37 t3 1) w11 K) w11 fun t20 w13 =>
  gd t18 false (fun K => V Tryd.prog (Instr.loadAt 3 t20) w13 K) w13 fun t21 w14 =>
  gd t18 false (fun K => V Tryd.prog (binOp .lss 3 t21 (Value.int IntKind.i64 0)) w14 K) w14 fun t22 w15 =>
  pickD t18 (Value.bool true) t22 fun t23 =>
  gd t23 false (fun K => V Tryd.prog (Instr.fieldAt 37 t3 1) w15 K) w15 fun t25 w17 =>
  gd t23 false (fun K => V Tryd.prog (Instr.loadAt 3 t25) w17 K) w17 fun t26 w18 =>
  gd t23 false (fun K => V Tryd.prog (binOp .gtr 3 t26 (Value.int IntKind.i64 40)) w18 K) w18 fun t27 w19 =>
  pickD t23 (Value.bool true) t27 fun t28 =>
  ifD t28 (
  R (Value.bool false) w19) (
  V Tryd.prog (Instr.loadAt 26 t2) w19 fun t29 w21 =>
  callD Tryd.prog 26 #[t29] w21 fun t30 w22 =>
  V Tryd.prog (Instr.alloc 70 true (.tuple #[])) w22 fun t5 w23 =>
  U Tryd.prog (Instr.storeAt 70 t5 t30) w23 fun _ w24 =>
  V Tryd.prog (Instr.fieldAt 37 t3 0) w24 fun t31 w25 =>
  V Tryd.prog (Instr.loadAt 35 t31) w25 fun t32 w26 =>
  V Tryd.prog (Builtin.len_ #[35] 3 #[t32]) w26 fun t33 w27 =>
  ∃ (I1 : NP 1) (μ1 : NF 1), I1 (Value.int IntKind.i64 0) w27 ∧
  ∀ (t34 : Value), ∀ w28 : World, I1 t34 w28 → ∀ _f : Env,
  V Tryd.prog (binOp .lss 3 t34 t33) w28 fun t35 w29 =>
  ifD t35 (
  V Tryd.prog (Instr.indexAt 35 t32 t34) w29 fun t37 w30 =>
  V Tryd.prog (Instr.loadAt 3 t37) w30 fun t38 w31 =>
  V Tryd.prog (do eqGuard .neq 3 (Operand.tmp 39) (Operand.const (Value.int IntKind.i64 5)) t38 (Value.int IntKind.i64 5); binOp .neq 3 t38 (Value.int IntKind.i64 5)) w31 fun t40 w32 =>
  gd t40 true (fun K => K t38 w32) w32 fun t42 w33 =>
  gd t40 true (fun K => V Tryd.prog (do eqGuard .neq 3 (Operand.tmp 42) (Operand.const (Value.int IntKind.i64 6)) t42 (Value.int IntKind.i64 6); binOp .neq 3 t42 (Value.int IntKind.i64 6)) w33 K) w33 fun t43 w34 =>
  pickD t40 t43 (Value.bool false) fun t44 =>
  gd t44 true (fun K => K t38 w34) w34 fun t46 w36 =>
  gd t44 true (fun K => V Tryd.prog (binOp .lss 3 t46 (Value.int IntKind.i64 16)) w36 K) w36 fun t47 w37 =>
  gd t44 true (fun K => K t47 w37) w37 fun t48 w38 =>
  gd t48 false (fun K => K t38 w38) w38 fun t49 w39 =>
  gd t48 false (fun K => V Tryd.prog (Instr.fieldAt 37 t3 1) w39 K) w39 fun t50 w40 =>
  gd t48 false (fun K => V Tryd.prog (Instr.loadAt 3 t50) w40 K) w40 fun t51 w41 =>
  gd t48 false (fun K => V Tryd.prog (binOp .add 3 (Value.int IntKind.i64 16) t51) w41 K) w41 fun t52 w42 =>
  gd t48 false (fun K => V Tryd.prog (binOp .geq 3 t49 t52) w42 K) w42 fun t53 w43 =>
  gd t44 true (fun K => pickD t48 (Value.bool true) t53 fun v => K v w43) w43 fun t54 w44 =>
  pickD t44 t54 (Value.bool false) fun t55 =>
  gd t55 false (fun K => V Tryd.prog (Instr.loadAt 70 t5) w44 K) w44 fun t57 w46 =>
  gd t55 false (fun K => K t34 w46) w46 fun t58 w47 =>
  gd t55 false (fun K => K t38 w47) w47 fun t59 w48 =>
  gd t55 false (fun K => V Tryd.prog (Instr.fieldAt 37 t3 0) w48 K) w48 fun t60 w49 =>
  gd t55 false (fun K => V Tryd.prog (Instr.loadAt 35 t60) w49 K) w49 fun t61 w50 =>
  gd t55 false (fun K => callD Tryd.prog 27 #[t57, t58, t59, t61] w50 K) w50 fun t62 w51 =>
  gd t55 false (fun K => V Tryd.prog (Op.unary UnOp.not t62) w51 K) w51 fun t63 w52 =>
  pickD t55 (Value.bool true) t63 fun t64 =>
  ifD t64 (
  R (Value.bool false) w52) (
  V Tryd.prog (binOp .add 3 t34 (Value.int IntKind.i64 1)) w52 fun t65 w54 =>
  I1 t65 w54 ∧ μ1 t65 w54 < μ1 t34 w28)) (
  R (Value.bool true) w29))
theorem F13_eq (t0 : Value) (t1 : Value) (w : World) (R : Value → World → Prop) : F13_den t0 t1 w R = vc Tryd.prog F13_ann (Tryd.f13.body.getD .skip) (retE Tryd.prog Tryd.f13.results.toList R) (argEnv [t0, t1]) w := by kernel_rfl
theorem F13_wp {t0 : Value} {t1 : Value} {w : World} {R : Value → World → Prop} (h : F13_den t0 t1 w R) : callD Tryd.prog 13 #[t0, t1] w R :=
  callD.of_calls (fn := Tryd.f13) (c := Tryd.f13.body.getD .skip) Tryd.func13 (by kernel_rfl) (by kernel_rfl) (calls_of_vc (args := [t0, t1]) F13_ann mixed Tryd.func13 (by kernel_rfl) (by kernel_rfl) (F13_eq t0 t1 w R ▸ h))

/-- taciturn/taciturnref17.Right -/
def F14_ann : Ann := (Ann.seq Ann.leaf (Ann.seq (Ann.seq Ann.leaf (Ann.cond (Ann.seq Ann.leaf Ann.leaf) Ann.leaf)) (Ann.seq (Ann.seq Ann.leaf (Ann.block (Ann.loop [4, 5, 6, 30, 31, 32, 33, 34, 35, 36, 37, 38, 39, 40, 41, 42, 43, 44, 45, 46, 47, 48, 49, 50, 51, 52, 53, 54, 55, 56, 57, 58] [5] (Ann.seq (Ann.seq Ann.leaf (Ann.cond Ann.leaf Ann.leaf)) (Ann.seq (Ann.block (Ann.seq Ann.leaf (Ann.seq Ann.leaf (Ann.cond (Ann.seq Ann.leaf Ann.leaf) Ann.leaf)))) Ann.leaf))))) (Ann.seq Ann.leaf (Ann.seq (Ann.seq Ann.leaf (Ann.block (Ann.loop [4, 8, 9, 10, 11, 61, 62, 63, 64, 65, 66, 67, 68, 69, 70, 71, 72, 73, 74, 75, 76, 77, 78, 79, 80, 81, 82, 83, 84, 85, 86, 87, 88, 89, 90, 91, 92, 93, 94, 95, 96, 97, 98, 99, 100, 101, 102, 103, 104, 105, 106, 107, 108, 109, 110, 111, 112, 113, 114, 115, 116, 117, 118, 119, 120, 121, 122, 123] [8] (Ann.seq (Ann.seq Ann.leaf (Ann.cond Ann.leaf Ann.leaf)) (Ann.seq (Ann.block (Ann.seq Ann.leaf (Ann.seq Ann.leaf (Ann.join [80, 81, 82, 83, 84] [] (Ann.seq Ann.leaf (Ann.cond Ann.leaf Ann.leaf)) (Ann.seq (Ann.seq Ann.leaf (Ann.cond (Ann.seq Ann.leaf Ann.leaf) Ann.leaf)) (Ann.seq Ann.leaf (Ann.block (Ann.loop [4, 11, 89, 90, 91, 92, 93, 94, 95, 96, 97, 98, 99, 100, 101, 102, 103, 104, 105, 106, 107, 108, 109, 110, 111, 112, 113, 114, 115, 116, 117, 118, 119, 120, 121, 122, 123] [11] (Ann.seq (Ann.seq Ann.leaf (Ann.cond Ann.leaf Ann.leaf)) (Ann.seq (Ann.block (Ann.seq Ann.leaf (Ann.cond (Ann.seq Ann.leaf Ann.leaf) Ann.leaf))) Ann.leaf)))))))))) Ann.leaf))))) (Ann.seq Ann.leaf (Ann.seq (Ann.seq Ann.leaf (Ann.block (Ann.loop [13, 126, 127, 128, 129, 130, 131, 132, 133, 134] [13] (Ann.seq (Ann.seq Ann.leaf (Ann.cond Ann.leaf Ann.leaf)) (Ann.seq (Ann.block Ann.leaf) Ann.leaf))))) (Ann.seq Ann.leaf Ann.leaf))))))))
def F14_den (t0 : Value) (t1 : Value) (w : World) (R : Value → World → Prop) : Prop :=
  V Tryd.prog (Instr.box 44 t0) w fun t2 w1 =>
  V Tryd.prog (Instr.box 37 t1) w1 fun t3 w2 =>
  V Tryd.prog (Instr.fieldAt 37 t3 0) w2 fun t14 w3 =>
  V Tryd.prog (Instr.loadAt 35 t14) w3 fun t15 w4 =>
  V Tryd.prog (Builtin.len_ #[35] 3 #[t15]) w4 fun t16 w5 =>
  V Tryd.prog (Instr.fieldAt 44 t2 1) w5 fun t17 w6 =>
  V Tryd.prog (Instr.loadAt 3 t17) w6 fun t18 w7 =>
  V Tryd.prog (do eqGuard .neq 3 (Operand.tmp 16) (Operand.tmp 18) t16 t18; binOp .neq 3 t16 t18) w7 fun t19 w8 =>
  gd t19 false (fun K => V Tryd.prog (Instr.fieldAt 37 t3 1) w8 K) w8 fun t21 w9 =>
  gd t19 false (fun K => V Tryd.prog (Instr.loadAt 3 t21) w9 K) w9 fun t22 w10 =>
  gd t19 false (fun K => V Tryd.prog (binOp .lss 3 t22 (Value.int IntKind.i64 0)) w10 K) w10 fun t23 w11 =>
  pickD t19 (Value.bool true) t23 fun t24 =>
  gd t24 false (fun K => V Tryd.prog (Instr.fieldAt 37 t3 1) w11 K) w11 fun t26 w13 =>
  gd t24 false (fun K => V Tryd.prog (Instr.loadAt 3 t26) w13 K) w13 fun t27 w14 =>
  gd t24 false (fun K => V Tryd.prog (binOp .gtr 3 t27 (Value.int IntKind.i64 40)) w14 K) w14 fun t28 w15 =>
  pickD t24 (Value.bool true) t28 fun t29 =>
  ifD t29 (
  R (Value.bool false) w15) (
  ∃ (I1 : NP 1) (μ1 : NF 1), I1 (Value.int IntKind.i64 0) w15 ∧
  ∀ (t5 : Value), ∀ w17 : World, I1 t5 w17 → ∀ _f : Env,
  V Tryd.prog (Instr.fieldAt 37 t3 0) w17 fun t31 w18 =>
  V Tryd.prog (Instr.loadAt 35 t31) w18 fun t32 w19 =>
  V Tryd.prog (Builtin.len_ #[35] 3 #[t32]) w19 fun t33 w20 =>
  V Tryd.prog (binOp .lss 3 t5 t33) w20 fun t34 w21 =>
  ifD t34 (
  V Tryd.prog (Instr.fieldAt 37 t3 0) w21 fun t37 w22 =>
  V Tryd.prog (Instr.loadAt 35 t37) w22 fun t38 w23 =>
  V Tryd.prog (Instr.indexAt 35 t38 t5) w23 fun t40 w24 =>
  V Tryd.prog (Instr.loadAt 3 t40) w24 fun t41 w25 =>
  V Tryd.prog (do eqGuard .neq 3 (Operand.tmp 42) (Operand.const (Value.int IntKind.i64 5)) t41 (Value.int IntKind.i64 5); binOp .neq 3 t41 (Value.int IntKind.i64 5)) w25 fun t43 w26 =>
  gd t43 true (fun K => K t41 w26) w26 fun t45 w27 =>
  gd t43 true (fun K => V Tryd.prog (do eqGuard .neq 3 (Operand.tmp 45) (Operand.const (Value.int IntKind.i64 6)) t45 (Value.int IntKind.i64 6); binOp .neq 3 t45 (Value.int IntKind.i64 6)) w27 K) w27 fun t46 w28 =>
  pickD t43 t46 (Value.bool false) fun t47 =>
  gd t47 true (fun K => K t41 w28) w28 fun t49 w30 =>
  gd t47 true (fun K => V Tryd.prog (binOp .lss 3 t49 (Value.int IntKind.i64 16)) w30 K) w30 fun t50 w31 =>
  gd t47 true (fun K => K t50 w31) w31 fun t51 w32 =>
  gd t51 false (fun K => K t41 w32) w32 fun t52 w33 =>
  gd t51 false (fun K => V Tryd.prog (Instr.fieldAt 37 t3 1) w33 K) w33 fun t53 w34 =>
  gd t51 false (fun K => V Tryd.prog (Instr.loadAt 3 t53) w34 K) w34 fun t54 w35 =>
  gd t51 false (fun K => V Tryd.prog (binOp .add 3 (Value.int IntKind.i64 16) t54) w35 K) w35 fun t55 w36 =>
  gd t51 false (fun K => V Tryd.prog (binOp .geq 3 t52 t55) w36 K) w36 fun t56 w37 =>
  gd t47 true (fun K => pickD t51 (Value.bool true) t56 fun v => K v w37) w37 fun t57 w38 =>
  pickD t47 t57 (Value.bool false) fun t58 =>
  ifD t58 (
  R (Value.bool false) w38) (
  V Tryd.prog (binOp .add 3 t5 (Value.int IntKind.i64 1)) w38 fun t36 w40 =>
  I1 t36 w40 ∧ μ1 t36 w40 < μ1 t5 w17)) (
  V Tryd.prog (Instr.loadAt 44 t2) w21 fun t59 w41 =>
  callD Tryd.prog 28 #[t59] w41 fun t60 w42 =>
  ∃ (I2 : NP 1) (μ2 : NF 1), I2 (Value.int IntKind.i64 0) w42 ∧
  ∀ (t8 : Value), ∀ w43 : World, I2 t8 w43 → ∀ _f : Env,
  V Tryd.prog (Instr.fieldAt 44 t2 2) w43 fun t62 w44 =>
  V Tryd.prog (Instr.loadAt 42 t62) w44 fun t63 w45 =>
  V Tryd.prog (Builtin.len_ #[42] 3 #[t63]) w45 fun t64 w46 =>
  V Tryd.prog (binOp .lss 3 t8 t64) w46 fun t65 w47 =>
  ifD t65 (
  V Tryd.prog (Instr.fieldAt 44 t2 2) w47 fun t68 w48 =>
  V Tryd.prog (Instr.loadAt 42 t68) w48 fun t69 w49 =>
  V Tryd.prog (Instr.indexAt 42 t69 t8) w49 fun t71 w50 =>
  V Tryd.prog (Instr.loadAt 76 t71) w50 fun t72 w51 =>
  callD Tryd.prog 29 #[t72] w51 fun t73 w52 =>
  V Tryd.prog (Instr.buildSlice 28 0 #[]) w52 fun t74 w53 =>
  V Tryd.prog (Instr.indexAt 58 t60 t8) w53 fun t77 w54 =>
  V Tryd.prog (Instr.loadAt 28 t77) w54 fun t78 w55 =>
  V Tryd.prog (Builtin.append_ #[28, 28] 28 #[t74, t78]) w55 fun t79 w56 =>
  ∃ J3 : NP 0,
  (V Tryd.prog (binOp .geq 3 t73 (Value.int IntKind.i64 0)) w56 fun t81 w57 =>
  ifD t81 (
  V Tryd.prog (Instr.indexAt 28 t79 t73) w57 fun t84 w58 =>
  U Tryd.prog (Instr.storeAt 4 t84 (Value.bool true)) w58 fun _ w59 =>
  J3 w59) (
  J3 w57)) ∧
  ∀ w60 : World, J3 w60 → ∀ _f : Env,
  V Tryd.prog (Instr.loadAt 37 t3) w60 fun t86 w61 =>
  callD Tryd.prog 30 #[t79, t86] w61 fun t87 w62 =>
  V Tryd.prog (Op.unary UnOp.not t87) w62 fun t88 w63 =>
  ifD t88 (
  R (Value.bool false) w63) (
  ∃ (I4 : NP 1) (μ4 : NF 1), I4 (Value.int IntKind.i64 0) w63 ∧
  ∀ (t11 : Value), ∀ w64 : World, I4 t11 w64 → ∀ _f : Env,
  V Tryd.prog (Instr.fieldAt 44 t2 1) w64 fun t90 w65 =>
  V Tryd.prog (Instr.loadAt 3 t90) w65 fun t91 w66 =>
  V Tryd.prog (binOp .lss 3 t11 t91) w66 fun t92 w67 =>
  ifD t92 (
  V Tryd.prog (Instr.fieldAt 44 t2 2) w67 fun t95 w68 =>
  V Tryd.prog (Instr.loadAt 42 t95) w68 fun t96 w69 =>
  V Tryd.prog (Instr.indexAt 42 t96 t8) w69 fun t98 w70 =>
  V Tryd.prog (Instr.fieldAt 76 t98 0) w70 fun t99 w71 =>
  V Tryd.prog (Instr.loadAt 3 t99) w71 fun t100 w72 =>
  V Tryd.prog (binOp .geq 3 t100 (Value.int IntKind.i64 11)) w72 fun t101 w73 =>
  gd t101 true (fun K => K t60 w73) w73 fun t103 w74 =>
  gd t101 true (fun K => K t8 w74) w74 fun t104 w75 =>
  gd t101 true (fun K => V Tryd.prog (Instr.indexAt 58 t103 t104) w75 K) w75 fun t105 w76 =>
  gd t101 true (fun K => V Tryd.prog (Instr.loadAt 28 t105) w76 K) w76 fun t106 w77 =>
  gd t101 true (fun K => K t11 w77) w77 fun t107 w78 =>
  gd t101 true (fun K => V Tryd.prog (Instr.indexAt 28 t106 t107) w78 K) w78 fun t108 w79 =>
  gd t101 true (fun K => V Tryd.prog (Instr.loadAt 4 t108) w79 K) w79 fun t109 w80 =>
  pickD t101 t109 (Value.bool false) fun t110 =>
  gd t110 true (fun K => K t11 w80) w80 fun t112 w82 =>
  gd t110 true (fun K => K t73 w82) w82 fun t113 w83 =>
  gd t110 true (fun K => V Tryd.prog (do eqGuard .neq 3 (Operand.tmp 112) (Operand.tmp 113) t112 t113; binOp .neq 3 t112 t113) w83 K) w83 fun t114 w84 =>
  pickD t110 t114 (Value.bool false) fun t115 =>
  gd t115 true (fun K => V Tryd.prog (Instr.fieldAt 37 t3 0) w84 K) w84 fun t117 w86 =>
  gd t115 true (fun K => V Tryd.prog (Instr.loadAt 35 t117) w86 K) w86 fun t118 w87 =>
  gd t115 true (fun K => K t11 w87) w87 fun t119 w88 =>
  gd t115 true (fun K => V Tryd.prog (Instr.indexAt 35 t118 t119) w88 K) w88 fun t120 w89 =>
  gd t115 true (fun K => V Tryd.prog (Instr.loadAt 3 t120) w89 K) w89 fun t121 w90 =>
  gd t115 true (fun K => V Tryd.prog (binOp .lss 3 t121 (Value.int IntKind.i64 16)) w90 K) w90 fun t122 w91 =>
  pickD t115 t122 (Value.bool false) fun t123 =>
  ifD t123 (
  R (Value.bool false) w91) (
  V Tryd.prog (binOp .add 3 t11 (Value.int IntKind.i64 1)) w91 fun t94 w93 =>
  I4 t94 w93 ∧ μ4 t94 w93 < μ4 t11 w64)) (
  V Tryd.prog (binOp .add 3 t8 (Value.int IntKind.i64 1)) w67 fun t67 w94 =>
  I2 t67 w94 ∧ μ2 t67 w94 < μ2 t8 w43))) (
  V Tryd.prog (Instr.loadAt 44 t2) w47 fun t124 w95 =>
  callD Tryd.prog 31 #[t124] w95 fun t125 w96 =>
  ∃ (I5 : NP 1) (μ5 : NF 1), I5 (Value.int IntKind.i64 0) w96 ∧
  ∀ (t13 : Value), ∀ w97 : World, I5 t13 w97 → ∀ _f : Env,
  V Tryd.prog (Instr.fieldAt 44 t2 0) w97 fun t127 w98 =>
  V Tryd.prog (Instr.loadAt 3 t127) w98 fun t128 w99 =>
  V Tryd.prog (binOp .lss 3 t13 t128) w99 fun t129 w100 =>
  ifD t129 (
  V Tryd.prog (Instr.indexAt 28 t125 t13) w100 fun t134 w101 =>
  U Tryd.prog (Instr.storeAt 4 t134 (Value.bool true)) w101 fun _ w102 =>
  V Tryd.prog (binOp .add 3 t13 (Value.int IntKind.i64 1)) w102 fun t131 w103 =>
  I5 t131 w103 ∧ μ5 t131 w103 < μ5 t13 w97) (
  V Tryd.prog (Instr.loadAt 37 t3) w100 fun t136 w104 =>
  callD Tryd.prog 30 #[t125, t136] w104 fun t137 w105 =>
  R t137 w105))))
theorem F14_eq (t0 : Value) (t1 : Value) (w : World) (R : Value → World → Prop) : F14_den t0 t1 w R = vc Tryd.prog F14_ann (Tryd.f14.body.getD .skip) (retE Tryd.prog Tryd.f14.results.toList R) (argEnv [t0, t1]) w := by kernel_rfl
theorem F14_wp {t0 : Value} {t1 : Value} {w : World} {R : Value → World → Prop} (h : F14_den t0 t1 w R) : callD Tryd.prog 14 #[t0, t1] w R :=
  callD.of_calls (fn := Tryd.f14) (c := Tryd.f14.body.getD .skip) Tryd.func14 (by kernel_rfl) (by kernel_rfl) (calls_of_vc (args := [t0, t1]) F14_ann mixed Tryd.func14 (by kernel_rfl) (by kernel_rfl) (F14_eq t0 t1 w R ▸ h))

/-- taciturn/taciturnhand.Plain -/
def F15_ann : Ann := (Ann.seq Ann.leaf (Ann.seq Ann.leaf (Ann.seq (Ann.seq Ann.leaf (Ann.block (Ann.loop [4, 10, 11, 12, 13, 14, 15, 16, 17, 18, 19, 20, 21, 22, 23, 24, 25, 26, 27] [4] (Ann.seq (Ann.seq Ann.leaf (Ann.cond Ann.leaf Ann.leaf)) (Ann.seq (Ann.block (Ann.draw [0, 1, 0, 4, 0, 24, 32, 64, 128, 386, 1023, 2047] [0, 1, 0, 4, 0, 24, 32, 64, 128, 258, 0, 1536] 11 (.take 0 (.take 1 (.take 2 (.take 3 (.take 4 (.take 5 (.take 6 (.only 7 (.only 8 (.only 9 (.take 10 (.last 11)))))))))))))) Ann.leaf))))) (Ann.seq Ann.leaf Ann.leaf))))
def F15_den (t0 : Value) (w : World) (R : Value → World → Prop) : Prop :=
  V Tryd.prog (Instr.box 26 t0) w fun t1 w1 =>
  V Tryd.prog (Instr.alloc 44 true (.tuple #[])) w1 fun t2 w2 =>
  V Tryd.prog (Instr.fieldAt 26 t1 0) w2 fun t5 w3 =>
  V Tryd.prog (Instr.loadAt 3 t5) w3 fun t6 w4 =>
  V Tryd.prog (Instr.fieldAt 26 t1 1) w4 fun t7 w5 =>
  V Tryd.prog (Instr.loadAt 3 t7) w5 fun t8 w6 =>
  V Tryd.prog (Instr.build 44 #[(0, t6), (1, t8)]) w6 fun t9 w7 =>
  V Tryd.prog (Instr.alloc 44 true (.tuple #[])) w7 fun t3 w8 =>
  U Tryd.prog (Instr.storeAt 44 t3 t9) w8 fun _ w9 =>
  ∃ (I1 : NP 1) (μ1 : NF 1), I1 (Value.int IntKind.i64 0) w9 ∧
  ∀ (t4 : Value), ∀ w10 : World, I1 t4 w10 → ∀ _f : Env,
  V Tryd.prog (Instr.fieldAt 26 t1 2) w10 fun t11 w11 =>
  V Tryd.prog (Instr.loadAt 24 t11) w11 fun t12 w12 =>
  V Tryd.prog (Builtin.len_ #[24] 3 #[t12]) w12 fun t13 w13 =>
  V Tryd.prog (binOp .lss 3 t4 t13) w13 fun t14 w14 =>
  ifD t14 (
  drawD w14 fun S5 w15 =>
  yieldS Tryd.prog S5 (Instr.fieldAt 44 t3 2) fun t17 =>
  yieldS Tryd.prog S5 (Instr.loadAt 42 t17) fun t18 =>
  yieldS Tryd.prog S5 (Instr.fieldAt 26 t1 2) fun t19 =>
  yieldS Tryd.prog S5 (Instr.loadAt 24 t19) fun t20 =>
  yieldS Tryd.prog S5 (Instr.indexAt 24 t20 t4) fun t22 =>
  yieldS Tryd.prog S5 (Instr.loadAt 52 t22) fun t23 =>
  callD Tryd.prog 32 #[t23] w15 fun t24 w16 =>
  S5 w16 ∧
  V Tryd.prog (Instr.buildSlice 42 1 #[(0, t24)]) w16 fun t25 w17 =>
  S5 w17 ∧
  V Tryd.prog (Builtin.append_ #[42, 42] 42 #[t18, t25]) w17 fun t26 w18 =>
  S5 w18 ∧
  yieldS Tryd.prog S5 (Instr.fieldAt 44 t3 2) fun t27 =>
  U Tryd.prog (Instr.storeAt 42 t27 t26) w18 fun _ w19 =>
  V Tryd.prog (binOp .add 3 t4 (Value.int IntKind.i64 1)) w19 fun t16 w20 =>
  I1 t16 w20 ∧ μ1 t16 w20 < μ1 t4 w10) (
  V Tryd.prog (Instr.loadAt 44 t3) w14 fun t28 w21 =>
  U Tryd.prog (Instr.storeAt 44 t2 t28) w21 fun _ w22 =>
  ∃ r1, (loadVar 44 (match t2 with | .pointer (some p) => p | _ => ⟨0, 0, none⟩)).run Tryd.prog w22 = .ok r1 w22 ∧ (∃ p, t2 = Value.pointer (some p)) ∧ R r1 w22)
theorem F15_eq (t0 : Value) (w : World) (R : Value → World → Prop) : F15_den t0 w R = vc Tryd.prog F15_ann (Tryd.f15.body.getD .skip) (retE Tryd.prog Tryd.f15.results.toList R) (argEnv [t0]) w := by kernel_rfl
theorem F15_wp {t0 : Value} {w : World} {R : Value → World → Prop} (h : F15_den t0 w R) : callD Tryd.prog 15 #[t0] w R :=
  callD.of_calls (fn := Tryd.f15) (c := Tryd.f15.body.getD .skip) Tryd.func15 (by kernel_rfl) (by kernel_rfl) (calls_of_vc (args := [t0]) F15_ann mixed Tryd.func15 (by kernel_rfl) (by kernel_rfl) (F15_eq t0 w R ▸ h))

/-- taciturn/place.Allocate -/
def F16_ann : Ann := (Ann.seq Ann.leaf (Ann.seq (Ann.seq Ann.leaf (Ann.cond (Ann.seq Ann.leaf Ann.leaf) Ann.leaf)) (Ann.seq Ann.leaf (Ann.seq Ann.leaf (Ann.seq (Ann.seq Ann.leaf (Ann.block (Ann.loop [6, 7, 21, 22, 23, 24, 25, 26, 27, 28, 29, 30, 31, 32, 33, 34, 35, 36, 37, 38, 39, 40, 41, 42, 43, 44, 45, 46, 47, 48] [21] (Ann.seq Ann.leaf (Ann.seq (Ann.cond Ann.leaf Ann.leaf) (Ann.seq (Ann.block (Ann.seq Ann.leaf (Ann.seq Ann.leaf (Ann.seq (Ann.block (Ann.loop [7, 25, 26, 27, 28, 29, 30, 31, 32, 33, 34, 35] [7] (Ann.seq (Ann.seq Ann.leaf (Ann.cond Ann.leaf Ann.leaf)) (Ann.block (Ann.seq Ann.leaf (Ann.seq Ann.leaf (Ann.cond Ann.leaf Ann.leaf))))))) (Ann.seq Ann.leaf Ann.leaf))))) Ann.leaf)))))) (Ann.seq Ann.leaf Ann.leaf))))))
def F16_den (t0 : Value) (w : World) (R : Value → World → Prop) : Prop :=
  V Tryd.prog (Instr.box 26 t0) w fun t1 w1 =>
  V Tryd.prog (Instr.alloc 37 true (.tuple #[])) w1 fun t2 w2 =>
  V Tryd.prog (Instr.loadAt 26 t1) w2 fun t8 w3 =>
  callD Tryd.prog 19 #[t8] w3 fun t9 w4 =>
  V Tryd.prog (Op.unary UnOp.not t9) w4 fun t10 w5 =>
  ifD t10 (
  V Tryd.prog (Instr.build 37 #[]) w5 fun t11 w6 =>
  U Tryd.prog (Instr.storeAt 37 t2 t11) w6 fun _ w7 =>
  ∃ r1, (loadVar 37 (match t2 with | .pointer (some p) => p | _ => ⟨0, 0, none⟩)).run Tryd.prog w7 = .ok r1 w7 ∧ (∃ p, t2 = Value.pointer (some p)) ∧ R r1 w7) (
  V Tryd.prog (Instr.loadAt 26 t1) w5 fun t12 w8 =>
  callD Tryd.prog 26 #[t12] w8 fun t13 w9 =>
  V Tryd.prog (Instr.alloc 70 true (.tuple #[])) w9 fun t3 w10 =>
  U Tryd.prog (Instr.storeAt 70 t3 t13) w10 fun _ w11 =>
  V Tryd.prog (Instr.fieldAt 26 t1 1) w11 fun t14 w12 =>
  V Tryd.prog (Instr.loadAt 3 t14) w12 fun t15 w13 =>
  V Tryd.prog (Instr.makeSlice 35 t15 t15) w13 fun t16 w14 =>
  V Tryd.prog (Instr.build 37 #[(0, t16)]) w14 fun t17 w15 =>
  V Tryd.prog (Instr.alloc 37 true (.tuple #[])) w15 fun t4 w16 =>
  U Tryd.prog (Instr.storeAt 37 t4 t17) w16 fun _ w17 =>
  V Tryd.prog (Instr.fieldAt 70 t3 2) w17 fun t18 w18 =>
  V Tryd.prog (Instr.loadAt 35 t18) w18 fun t19 w19 =>
  V Tryd.prog (Builtin.len_ #[35] 3 #[t19]) w19 fun t20 w20 =>
  ∃ (I1 : NP 1) (μ1 : NF 1), I1 (Value.int IntKind.i64 0) w20 ∧
  ∀ (t21 : Value), ∀ w21 : World, I1 t21 w21 → ∀ _f : Env,
  V Tryd.prog (binOp .lss 3 t21 t20) w21 fun t22 w22 =>
  ifD t22 (
  V Tryd.prog (Instr.indexAt 35 t19 t21) w22 fun t23 w23 =>
  V Tryd.prog (Instr.loadAt 3 t23) w23 fun t24 w24 =>
  ∃ (I2 : NP 1) (μ2 : NF 1), I2 (Value.int IntKind.i64 5) w24 ∧
  ∀ (t7 : Value), ∀ w25 : World, I2 t7 w25 → ∀ _f : Env,
  V Tryd.prog (Instr.loadAt 70 t3) w25 fun t25 w26 =>
  V Tryd.prog (Instr.fieldAt 37 t4 0) w26 fun t28 w27 =>
  V Tryd.prog (Instr.loadAt 35 t28) w27 fun t29 w28 =>
  callD Tryd.prog 27 #[t25, t24, t7, t29] w28 fun t30 w29 =>
  V Tryd.prog (Op.unary UnOp.not t30) w29 fun t31 w30 =>
  ifD t31 (
  V Tryd.prog (binOp .add 3 t7 (Value.int IntKind.i64 1)) w30 fun t33 w31 =>
  V Tryd.prog (do eqGuard .eql 3 (Operand.tmp 34) (Operand.const (Value.int IntKind.i64 7)) t33 (Value.int IntKind.i64 7); binOp .eql 3 t33 (Value.int IntKind.i64 7)) w31 fun t35 w32 =>
  ifD t35 (
  I2 (Value.int IntKind.i64 16) w32 ∧ μ2 (Value.int IntKind.i64 16) w32 < μ2 t7 w25) (
  I2 t33 w32 ∧ μ2 t33 w32 < μ2 t7 w25)) (
  V Tryd.prog (Instr.fieldAt 37 t4 0) w30 fun t36 w33 =>
  V Tryd.prog (Instr.loadAt 35 t36) w33 fun t37 w34 =>
  V Tryd.prog (Instr.indexAt 35 t37 t24) w34 fun t40 w35 =>
  U Tryd.prog (Instr.storeAt 3 t40 t7) w35 fun _ w36 =>
  V Tryd.prog (Instr.fieldAt 37 t4 1) w36 fun t41 w37 =>
  V Tryd.prog (Instr.loadAt 3 t41) w37 fun t42 w38 =>
  V Tryd.prog (binOp .sub 3 t7 (Value.int IntKind.i64 16)) w38 fun t44 w39 =>
  V Tryd.prog (binOp .add 3 t44 (Value.int IntKind.i64 1)) w39 fun t45 w40 =>
  V Tryd.prog (Builtin.max_ #[3, 3] 3 #[t42, t45]) w40 fun t46 w41 =>
  V Tryd.prog (Instr.fieldAt 37 t4 1) w41 fun t47 w42 =>
  U Tryd.prog (Instr.storeAt 3 t47 t46) w42 fun _ w43 =>
  V Tryd.prog (binOp .add 3 t21 (Value.int IntKind.i64 1)) w43 fun t48 w44 =>
  I1 t48 w44 ∧ μ1 t48 w44 < μ1 t21 w21)) (
  V Tryd.prog (Instr.loadAt 37 t4) w22 fun t49 w45 =>
  U Tryd.prog (Instr.storeAt 37 t2 t49) w45 fun _ w46 =>
  ∃ r1, (loadVar 37 (match t2 with | .pointer (some p) => p | _ => ⟨0, 0, none⟩)).run Tryd.prog w46 = .ok r1 w46 ∧ (∃ p, t2 = Value.pointer (some p)) ∧ R r1 w46))
theorem F16_eq (t0 : Value) (w : World) (R : Value → World → Prop) : F16_den t0 w R = vc Tryd.prog F16_ann (Tryd.f16.body.getD .skip) (retE Tryd.prog Tryd.f16.results.toList R) (argEnv [t0]) w := by kernel_rfl
theorem F16_wp {t0 : Value} {w : World} {R : Value → World → Prop} (h : F16_den t0 w R) : callD Tryd.prog 16 #[t0] w R :=
  callD.of_calls (fn := Tryd.f16) (c := Tryd.f16.body.getD .skip) Tryd.func16 (by kernel_rfl) (by kernel_rfl) (calls_of_vc (args := [t0]) F16_ann mixed Tryd.func16 (by kernel_rfl) (by kernel_rfl) (F16_eq t0 w R ▸ h))

/-- taciturn/taciturnhand.Program -/
def F17_ann : Ann := (Ann.seq Ann.leaf (Ann.seq Ann.leaf (Ann.seq Ann.leaf (Ann.seq Ann.leaf (Ann.seq (Ann.seq Ann.leaf (Ann.block (Ann.loop [9, 25, 26, 27, 28, 29, 30, 31, 32, 33, 34, 35, 36, 37, 38, 39, 40, 41, 42, 43] [9] (Ann.seq (Ann.seq Ann.leaf (Ann.cond Ann.leaf Ann.leaf)) (Ann.seq (Ann.block (Ann.draw [0, 1, 0, 0, 12, 16, 0, 64, 0, 416, 512, 1538, 4095, 8191] [0, 1, 0, 0, 12, 16, 0, 64, 0, 416, 512, 1026, 0, 6144] 13 (.take 0 (.take 1 (.take 2 (.take 3 (.take 4 (.take 5 (.take 6 (.take 7 (.take 8 (.only 9 (.only 10 (.only 11 (.take 12 (.last 13)))))))))))))))) Ann.leaf))))) (Ann.seq Ann.leaf (Ann.seq Ann.leaf Ann.leaf)))))))
def F17_den (t0 : Value) (t1 : Value) (t2 : Value) (w : World) (R : Value → World → Prop) : Prop :=
  V Tryd.prog (Instr.alloc 26 true (.tuple #[])) w fun t6 w1 =>
  callD Tryd.prog 9 #[t1, (Value.int IntKind.i64 14)] w1 fun t11 w2 =>
  V Tryd.prog (binOp .add 3 (Value.int IntKind.i64 1) t11) w2 fun t12 w3 =>
  V Tryd.prog (Instr.build 26 #[(1, t12)]) w3 fun t13 w4 =>
  V Tryd.prog (Instr.alloc 26 true (.tuple #[])) w4 fun t7 w5 =>
  U Tryd.prog (Instr.storeAt 26 t7 t13) w5 fun _ w6 =>
  V Tryd.prog (Instr.fieldAt 26 t7 1) w6 fun t15 w7 =>
  V Tryd.prog (Instr.loadAt 3 t15) w7 fun t16 w8 =>
  V Tryd.prog (binOp .add 3 t16 (Value.int IntKind.i64 1)) w8 fun t17 w9 =>
  V Tryd.prog (Builtin.min_ #[3, 3] 3 #[(Value.int IntKind.i64 5), t17]) w9 fun t18 w10 =>
  callD Tryd.prog 9 #[t2, t18] w10 fun t19 w11 =>
  V Tryd.prog (Instr.fieldAt 26 t7 0) w11 fun t20 w12 =>
  U Tryd.prog (Instr.storeAt 3 t20 t19) w12 fun _ w13 =>
  V Tryd.prog (Builtin.len_ #[22] 3 #[t0]) w13 fun t22 w14 =>
  V Tryd.prog (Builtin.min_ #[3, 3] 3 #[t22, (Value.int IntKind.i64 40)]) w14 fun t23 w15 =>
  V Tryd.prog (binOp .add 3 t23 (Value.int IntKind.i64 1)) w15 fun t24 w16 =>
  ∃ (I1 : NP 1) (μ1 : NF 1), I1 (Value.int IntKind.i64 0) w16 ∧
  ∀ (t9 : Value), ∀ w17 : World, I1 t9 w17 → ∀ _f : Env,
  V Tryd.prog (binOp .sub 3 t24 (Value.int IntKind.i64 1)) w17 fun t27 w18 =>
  V Tryd.prog (binOp .lss 3 t9 t27) w18 fun t28 w19 =>
  ifD t28 (
  drawD w19 fun S7 w20 =>
  yieldS Tryd.prog S7 (Instr.fieldAt 26 t7 2) fun t31 =>
  yieldS Tryd.prog S7 (Instr.loadAt 24 t31) fun t32 =>
  yieldS Tryd.prog S7 (Instr.indexAt 22 t0 t9) fun t35 =>
  yieldS Tryd.prog S7 (Instr.loadAt 82 t35) fun t36 =>
  yieldS Tryd.prog S7 (Instr.fieldAt 26 t7 1) fun t37 =>
  yieldS Tryd.prog S7 (Instr.loadAt 3 t37) fun t38 =>
  callD Tryd.prog 33 #[t36, t38, t24] w20 fun t40 w21 =>
  S7 w21 ∧
  V Tryd.prog (Instr.buildSlice 24 1 #[(0, t40)]) w21 fun t41 w22 =>
  S7 w22 ∧
  V Tryd.prog (Builtin.append_ #[24, 24] 24 #[t32, t41]) w22 fun t42 w23 =>
  S7 w23 ∧
  yieldS Tryd.prog S7 (Instr.fieldAt 26 t7 2) fun t43 =>
  U Tryd.prog (Instr.storeAt 24 t43 t42) w23 fun _ w24 =>
  V Tryd.prog (binOp .add 3 t9 (Value.int IntKind.i64 1)) w24 fun t30 w25 =>
  I1 t30 w25 ∧ μ1 t30 w25 < μ1 t9 w17) (
  V Tryd.prog (Instr.fieldAt 26 t7 2) w19 fun t44 w26 =>
  V Tryd.prog (Instr.loadAt 24 t44) w26 fun t45 w27 =>
  V Tryd.prog (Instr.build 54 #[(0, (Value.int IntKind.i64 (-1)))]) w27 fun t46 w28 =>
  V Tryd.prog (Instr.makeInterface 54 t46) w28 fun t47 w29 =>
  V Tryd.prog (Instr.buildSlice 24 1 #[(0, t47)]) w29 fun t48 w30 =>
  V Tryd.prog (Builtin.append_ #[24, 24] 24 #[t45, t48]) w30 fun t49 w31 =>
  V Tryd.prog (Instr.fieldAt 26 t7 2) w31 fun t50 w32 =>
  U Tryd.prog (Instr.storeAt 24 t50 t49) w32 fun _ w33 =>
  V Tryd.prog (Instr.loadAt 26 t7) w33 fun t51 w34 =>
  U Tryd.prog (Instr.storeAt 26 t6 t51) w34 fun _ w35 =>
  ∃ r1, (loadVar 26 (match t6 with | .pointer (some p) => p | _ => ⟨0, 0, none⟩)).run Tryd.prog w35 = .ok r1 w35 ∧ (∃ p, t6 = Value.pointer (some p)) ∧ R r1 w35)
theorem F17_eq (t0 : Value) (t1 : Value) (t2 : Value) (w : World) (R : Value → World → Prop) : F17_den t0 t1 t2 w R = vc Tryd.prog F17_ann (Tryd.f17.body.getD .skip) (retE Tryd.prog Tryd.f17.results.toList R) (argEnv [t0, t1, t2]) w := by kernel_rfl
theorem F17_wp {t0 : Value} {t1 : Value} {t2 : Value} {w : World} {R : Value → World → Prop} (h : F17_den t0 t1 t2 w R) : callD Tryd.prog 17 #[t0, t1, t2] w R :=
  callD.of_calls (fn := Tryd.f17) (c := Tryd.f17.body.getD .skip) Tryd.func17 (by kernel_rfl) (by kernel_rfl) (calls_of_vc (args := [t0, t1, t2]) F17_ann mixed Tryd.func17 (by kernel_rfl) (by kernel_rfl) (F17_eq t0 t1 t2 w R ▸ h))

/-- taciturn/taciturnref17.Check -/
def F18_ann : Ann := (Ann.seq Ann.leaf (Ann.seq (Ann.seq Ann.leaf (Ann.cond (Ann.seq Ann.leaf Ann.leaf) Ann.leaf)) (Ann.seq (Ann.seq Ann.leaf (Ann.block (Ann.loop [2, 3, 4, 5, 6, 7, 8, 46, 47, 48, 49, 50, 51, 52, 53, 54, 55, 56, 57, 58, 59, 60, 61, 62, 63, 64, 65, 66, 67, 68, 69, 70, 71, 72, 73, 74, 75, 76, 77, 78, 79, 80, 81, 82, 83, 84, 85, 86, 87, 88, 89, 90, 91, 92, 93, 94, 95, 96, 97, 98, 99, 100, 101, 102, 103, 104, 105, 106, 107, 108, 109, 110, 111, 112, 113, 114, 115, 116, 117, 118, 119, 120, 121, 122, 123, 124, 125] [3] (Ann.seq (Ann.seq Ann.leaf (Ann.cond Ann.leaf Ann.leaf)) (Ann.seq (Ann.block (Ann.seq Ann.leaf (Ann.seq (Ann.seq Ann.leaf (Ann.cond (Ann.seq Ann.leaf Ann.leaf) Ann.leaf)) (Ann.seq (Ann.seq Ann.leaf (Ann.block (Ann.loop [2, 5, 61, 62, 63, 64, 65, 66, 67, 68, 69, 70, 71, 72, 73, 74, 75, 76, 77, 78, 79, 80, 81, 82, 83] [5] (Ann.seq (Ann.seq Ann.leaf (Ann.cond Ann.leaf Ann.leaf)) (Ann.seq (Ann.block (Ann.seq (Ann.draw [0, 1, 0, 6, 8, 16, 32, 64, 192, 64, 832, 1088, 64, 4160, 10304, 16448] [0, 1, 0, 6, 8, 16, 32, 64, 192, 64, 832, 1088, 64, 4160, 10304, 16448] 16 (.take 0 (.take 1 (.take 2 (.take 3 (.take 4 (.take 5 (.take 6 (.take 7 (.take 8 (.take 9 (.take 10 (.take 11 (.take 12 (.take 13 (.take 14 (.take 15 .done))))))))))))))))) (Ann.cond (Ann.seq Ann.leaf Ann.leaf) Ann.leaf))) Ann.leaf))))) (Ann.seq (Ann.seq Ann.leaf (Ann.seq Ann.leaf (Ann.cond (Ann.seq Ann.leaf Ann.leaf) Ann.leaf))) (Ann.seq Ann.leaf (Ann.seq Ann.leaf (Ann.block (Ann.loop [2, 8, 105, 106, 107, 108, 109, 110, 111, 112, 113, 114, 115, 116, 117, 118, 119, 120, 121, 122, 123, 124, 125] [8] (Ann.seq (Ann.seq Ann.leaf (Ann.cond Ann.leaf Ann.leaf)) (Ann.seq (Ann.block (Ann.seq (Ann.draw [0, 0, 3, 4, 8, 16, 32, 32, 224, 288, 32, 1056, 2080, 4640, 8224] [0, 0, 3, 4, 8, 16, 32, 32, 224, 288, 32, 1056, 2080, 4640, 8224] 15 (.take 0 (.take 1 (.take 2 (.take 3 (.take 4 (.take 5 (.take 6 (.take 7 (.take 8 (.take 9 (.take 10 (.take 11 (.take 12 (.take 13 (.take 14 .done)))))))))))))))) (Ann.cond (Ann.seq Ann.leaf Ann.leaf) Ann.leaf))) Ann.leaf))))))))))) Ann.leaf))))) (Ann.seq Ann.leaf Ann.leaf))))
def F18_den (t0 : Value) (w : World) (R : Value → World → Prop) : Prop :=
  V Tryd.prog (Instr.box 44 t0) w fun t1 w1 =>
  V Tryd.prog (Instr.fieldAt 44 t1 2) w1 fun t9 w2 =>
  V Tryd.prog (Instr.loadAt 42 t9) w2 fun t10 w3 =>
  V Tryd.prog (Builtin.len_ #[42] 3 #[t10]) w3 fun t11 w4 =>
  V Tryd.prog (binOp .lss 3 t11 (Value.int IntKind.i64 1)) w4 fun t12 w5 =>
  gd t12 false (fun K => V Tryd.prog (Instr.fieldAt 44 t1 2) w5 K) w5 fun t14 w6 =>
  gd t12 false (fun K => V Tryd.prog (Instr.loadAt 42 t14) w6 K) w6 fun t15 w7 =>
  gd t12 false (fun K => V Tryd.prog (Builtin.len_ #[42] 3 #[t15]) w7 K) w7 fun t16 w8 =>
  gd t12 false (fun K => V Tryd.prog (binOp .gtr 3 t16 (Value.int IntKind.i64 250)) w8 K) w8 fun t17 w9 =>
  pickD t12 (Value.bool true) t17 fun t18 =>
  gd t18 false (fun K => V Tryd.prog (Instr.fieldAt 44 t1 1) w9 K) w9 fun t20 w11 =>
  gd t18 false (fun K => V Tryd.prog (Instr.loadAt 3 t20) w11 K) w11 fun t21 w12 =>
  gd t18 false (fun K => V Tryd.prog (binOp .lss 3 t21 (Value.int IntKind.i64 0)) w12 K) w12 fun t22 w13 =>
  pickD t18 (Value.bool true) t22 fun t23 =>
  gd t23 false (fun K => V Tryd.prog (Instr.fieldAt 44 t1 1) w13 K) w13 fun t25 w15 =>
  gd t23 false (fun K => V Tryd.prog (Instr.loadAt 3 t25) w15 K) w15 fun t26 w16 =>
  gd t23 false (fun K => V Tryd.prog (binOp .gtr 3 t26 (Value.int IntKind.i64 40)) w16 K) w16 fun t27 w17 =>
  pickD t23 (Value.bool true) t27 fun t28 =>
  gd t28 false (fun K => V Tryd.prog (Instr.fieldAt 44 t1 0) w17 K) w17 fun t30 w19 =>
  gd t28 false (fun K => V Tryd.prog (Instr.loadAt 3 t30) w19 K) w19 fun t31 w20 =>
  gd t28 false (fun K => V Tryd.prog (binOp .lss 3 t31 (Value.int IntKind.i64 0)) w20 K) w20 fun t32 w21 =>
  pickD t28 (Value.bool true) t32 fun t33 =>
  gd t33 false (fun K => V Tryd.prog (Instr.fieldAt 44 t1 0) w21 K) w21 fun t35 w23 =>
  gd t33 false (fun K => V Tryd.prog (Instr.loadAt 3 t35) w23 K) w23 fun t36 w24 =>
  gd t33 false (fun K => V Tryd.prog (binOp .gtr 3 t36 (Value.int IntKind.i64 4)) w24 K) w24 fun t37 w25 =>
  pickD t33 (Value.bool true) t37 fun t38 =>
  gd t38 false (fun K => V Tryd.prog (Instr.fieldAt 44 t1 0) w25 K) w25 fun t40 w27 =>
  gd t38 false (fun K => V Tryd.prog (Instr.loadAt 3 t40) w27 K) w27 fun t41 w28 =>
  gd t38 false (fun K => V Tryd.prog (Instr.fieldAt 44 t1 1) w28 K) w28 fun t42 w29 =>
  gd t38 false (fun K => V Tryd.prog (Instr.loadAt 3 t42) w29 K) w29 fun t43 w30 =>
  gd t38 false (fun K => V Tryd.prog (binOp .gtr 3 t41 t43) w30 K) w30 fun t44 w31 =>
  pickD t38 (Value.bool true) t44 fun t45 =>
  ifD t45 (
  R (Value.bool false) w31) (
  ∃ (I1 : NP 1) (μ1 : NF 1), I1 (Value.int IntKind.i64 0) w31 ∧
  ∀ (t3 : Value), ∀ w33 : World, I1 t3 w33 → ∀ _f : Env,
  V Tryd.prog (Instr.fieldAt 44 t1 2) w33 fun t47 w34 =>
  V Tryd.prog (Instr.loadAt 42 t47) w34 fun t48 w35 =>
  V Tryd.prog (Builtin.len_ #[42] 3 #[t48]) w35 fun t49 w36 =>
  V Tryd.prog (binOp .lss 3 t3 t49) w36 fun t50 w37 =>
  ifD t50 (
  V Tryd.prog (Instr.fieldAt 44 t1 2) w37 fun t53 w38 =>
  V Tryd.prog (Instr.loadAt 42 t53) w38 fun t54 w39 =>
  V Tryd.prog (Instr.indexAt 42 t54 t3) w39 fun t56 w40 =>
  V Tryd.prog (Instr.loadAt 76 t56) w40 fun t57 w41 =>
  V Tryd.prog (Instr.alloc 76 true (.tuple #[])) w41 fun t4 w42 =>
  U Tryd.prog (Instr.storeAt 76 t4 t57) w42 fun _ w43 =>
  V Tryd.prog (Instr.loadAt 76 t4) w43 fun t58 w44 =>
  callD Tryd.prog 34 #[t58] w44 fun t59 w45 =>
  V Tryd.prog (Op.unary UnOp.not t59) w45 fun t60 w46 =>
  ifD t60 (
  R (Value.bool false) w46) (
  ∃ (I2 : NP 1) (μ2 : NF 1), I2 (Value.int IntKind.i64 0) w46 ∧
  ∀ (t5 : Value), ∀ w47 : World, I2 t5 w47 → ∀ _f : Env,
  V Tryd.prog (Instr.fieldAt 76 t4 7) w47 fun t62 w48 =>
  V Tryd.prog (Instr.loadAt 35 t62) w48 fun t63 w49 =>
  V Tryd.prog (Builtin.len_ #[35] 3 #[t63]) w49 fun t64 w50 =>
  V Tryd.prog (binOp .lss 3 t5 t64) w50 fun t65 w51 =>
  ifD t65 (
  drawD w51 fun S12 w52 =>
  yieldS Tryd.prog S12 (Instr.fieldAt 76 t4 7) fun t68 =>
  yieldS Tryd.prog S12 (Instr.loadAt 35 t68) fun t69 =>
  yieldS Tryd.prog S12 (Instr.indexAt 35 t69 t5) fun t71 =>
  yieldS Tryd.prog S12 (Instr.loadAt 3 t71) fun t72 =>
  yieldS Tryd.prog S12 (binOp .lss 3 t72 (Value.int IntKind.i64 0)) fun t73 =>
  gdY t73 false (fun K => yieldS Tryd.prog S12 (Instr.fieldAt 76 t4 7) K) fun t75 =>
  gdY t73 false (fun K => yieldS Tryd.prog S12 (Instr.loadAt 35 t75) K) fun t76 =>
  gdY t73 false (fun K => K t5) fun t77 =>
  gdY t73 false (fun K => yieldS Tryd.prog S12 (Instr.indexAt 35 t76 t77) K) fun t78 =>
  gdY t73 false (fun K => yieldS Tryd.prog S12 (Instr.loadAt 3 t78) K) fun t79 =>
  gdY t73 false (fun K => yieldS Tryd.prog S12 (Instr.fieldAt 44 t1 1) K) fun t80 =>
  gdY t73 false (fun K => yieldS Tryd.prog S12 (Instr.loadAt 3 t80) K) fun t81 =>
  gdY t73 false (fun K => yieldS Tryd.prog S12 (binOp .geq 3 t79 t81) K) fun t82 =>
  pickD t73 (Value.bool true) t82 fun t83 =>
  ifD t83 (
  R (Value.bool false) w52) (
  V Tryd.prog (binOp .add 3 t5 (Value.int IntKind.i64 1)) w52 fun t67 w53 =>
  I2 t67 w53 ∧ μ2 t67 w53 < μ2 t5 w47)) (
  V Tryd.prog (Instr.loadAt 76 t4) w51 fun t84 w54 =>
  callD Tryd.prog 35 #[t84] w54 fun t85 w55 =>
  V Tryd.prog (binOp .geq 3 t85 (Value.int IntKind.i64 0)) w55 fun t87 w56 =>
  gd t87 true (fun K => V Tryd.prog (Instr.fieldAt 76 t4 1) w56 K) w56 fun t89 w57 =>
  gd t87 true (fun K => V Tryd.prog (Instr.loadAt 3 t89) w57 K) w57 fun t90 w58 =>
  gd t87 true (fun K => V Tryd.prog (Instr.fieldAt 44 t1 1) w58 K) w58 fun t91 w59 =>
  gd t87 true (fun K => V Tryd.prog (Instr.loadAt 3 t91) w59 K) w59 fun t92 w60 =>
  gd t87 true (fun K => V Tryd.prog (binOp .geq 3 t90 t92) w60 K) w60 fun t93 w61 =>
  gd t87 true (fun K => K t93 w61) w61 fun t94 w62 =>
  gd t94 false (fun K => V Tryd.prog (Instr.fieldAt 76 t4 1) w62 K) w62 fun t95 w63 =>
  gd t94 false (fun K => V Tryd.prog (Instr.loadAt 3 t95) w63 K) w63 fun t96 w64 =>
  gd t94 false (fun K => K t85 w64) w64 fun t97 w65 =>
  gd t94 false (fun K => V Tryd.prog (binOp .sub 3 t97 (Value.int IntKind.i64 1)) w65 K) w65 fun t98 w66 =>
  gd t94 false (fun K => V Tryd.prog (binOp .lss 3 t96 t98) w66 K) w66 fun t99 w67 =>
  gd t87 true (fun K => pickD t94 (Value.bool true) t99 fun v => K v w67) w67 fun t100 w68 =>
  pickD t87 t100 (Value.bool false) fun t101 =>
  ifD t101 (
  R (Value.bool false) w68) (
  V Tryd.prog (Instr.loadAt 76 t4) w68 fun t102 w70 =>
  callD Tryd.prog 36 #[t102, t3] w70 fun t104 w71 =>
  ∃ (I3 : NP 1) (μ3 : NF 1), I3 (Value.int IntKind.i64 0) w71 ∧
  ∀ (t8 : Value), ∀ w72 : World, I3 t8 w72 → ∀ _f : Env,
  V Tryd.prog (Builtin.len_ #[35] 3 #[t104]) w72 fun t107 w73 =>
  V Tryd.prog (binOp .lss 3 t8 t107) w73 fun t108 w74 =>
  ifD t108 (
  drawD w74 fun S21 w75 =>
  yieldS Tryd.prog S21 (Instr.indexAt 35 t104 t8) fun t113 =>
  yieldS Tryd.prog S21 (Instr.loadAt 3 t113) fun t114 =>
  yieldS Tryd.prog S21 (binOp .lss 3 t114 (Value.int IntKind.i64 0)) fun t115 =>
  gdY t115 false (fun K => K t104) fun t117 =>
  gdY t115 false (fun K => K t8) fun t118 =>
  gdY t115 false (fun K => yieldS Tryd.prog S21 (Instr.indexAt 35 t117 t118) K) fun t119 =>
  gdY t115 false (fun K => yieldS Tryd.prog S21 (Instr.loadAt 3 t119) K) fun t120 =>
  gdY t115 false (fun K => yieldS Tryd.prog S21 (Instr.fieldAt 44 t1 2) K) fun t121 =>
  gdY t115 false (fun K => yieldS Tryd.prog S21 (Instr.loadAt 42 t121) K) fun t122 =>
  gdY t115 false (fun K => yieldS Tryd.prog S21 (Builtin.len_ #[42] 3 #[t122]) K) fun t123 =>
  gdY t115 false (fun K => yieldS Tryd.prog S21 (binOp .geq 3 t120 t123) K) fun t124 =>
  pickD t115 (Value.bool true) t124 fun t125 =>
  ifD t125 (
  R (Value.bool false) w75) (
  V Tryd.prog (binOp .add 3 t8 (Value.int IntKind.i64 1)) w75 fun t110 w76 =>
  I3 t110 w76 ∧ μ3 t110 w76 < μ3 t8 w72)) (
  V Tryd.prog (binOp .add 3 t3 (Value.int IntKind.i64 1)) w74 fun t52 w77 =>
  I1 t52 w77 ∧ μ1 t52 w77 < μ1 t3 w33))))) (
  R (Value.bool true) w37))
theorem F18_eq (t0 : Value) (w : World) (R : Value → World → Prop) : F18_den t0 w R = vc Tryd.prog F18_ann (Tryd.f18.body.getD .skip) (retE Tryd.prog Tryd.f18.results.toList R) (argEnv [t0]) w := by kernel_rfl
theorem F18_wp {t0 : Value} {w : World} {R : Value → World → Prop} (h : F18_den t0 w R) : callD Tryd.prog 18 #[t0] w R :=
  callD.of_calls (fn := Tryd.f18) (c := Tryd.f18.body.getD .skip) Tryd.func18 (by kernel_rfl) (by kernel_rfl) (calls_of_vc (args := [t0]) F18_ann mixed Tryd.func18 (by kernel_rfl) (by kernel_rfl) (F18_eq t0 w R ▸ h))

/-- taciturn/ir.Check -/
def F19_ann : Ann := (Ann.seq Ann.leaf (Ann.seq (Ann.seq Ann.leaf (Ann.cond (Ann.seq Ann.leaf Ann.leaf) Ann.leaf)) (Ann.seq (Ann.seq Ann.leaf (Ann.block (Ann.loop [2, 3, 4, 37, 38, 39, 40, 41, 42, 43, 44, 45, 46, 47] [37] (Ann.seq Ann.leaf (Ann.seq (Ann.cond Ann.leaf Ann.leaf) (Ann.seq (Ann.block (Ann.seq Ann.leaf (Ann.seq Ann.leaf (Ann.cond (Ann.seq Ann.leaf Ann.leaf) Ann.leaf)))) Ann.leaf)))))) (Ann.seq Ann.leaf Ann.leaf))))
def F19_den (t0 : Value) (w : World) (R : Value → World → Prop) : Prop :=
  V Tryd.prog (Instr.box 26 t0) w fun t1 w1 =>
  V Tryd.prog (Instr.fieldAt 26 t1 2) w1 fun t5 w2 =>
  V Tryd.prog (Instr.loadAt 24 t5) w2 fun t6 w3 =>
  V Tryd.prog (Builtin.len_ #[24] 3 #[t6]) w3 fun t7 w4 =>
  V Tryd.prog (binOp .lss 3 t7 (Value.int IntKind.i64 1)) w4 fun t8 w5 =>
  gd t8 false (fun K => V Tryd.prog (Instr.fieldAt 26 t1 2) w5 K) w5 fun t10 w6 =>
  gd t8 false (fun K => V Tryd.prog (Instr.loadAt 24 t10) w6 K) w6 fun t11 w7 =>
  gd t8 false (fun K => V Tryd.prog (Builtin.len_ #[24] 3 #[t11]) w7 K) w7 fun t12 w8 =>
  gd t8 false (fun K => V Tryd.prog (binOp .gtr 3 t12 (Value.int IntKind.i64 250)) w8 K) w8 fun t13 w9 =>
  pickD t8 (Value.bool true) t13 fun t14 =>
  gd t14 false (fun K => V Tryd.prog (Instr.fieldAt 26 t1 1) w9 K) w9 fun t16 w11 =>
  gd t14 false (fun K => V Tryd.prog (Instr.loadAt 3 t16) w11 K) w11 fun t17 w12 =>
  gd t14 false (fun K => callD Tryd.prog 23 #[t17, (Value.int IntKind.i64 41)] w12 K) w12 fun t18 w13 =>
  gd t14 false (fun K => V Tryd.prog (Op.unary UnOp.not t18) w13 K) w13 fun t19 w14 =>
  pickD t14 (Value.bool true) t19 fun t20 =>
  gd t20 false (fun K => V Tryd.prog (Instr.fieldAt 26 t1 0) w14 K) w14 fun t22 w16 =>
  gd t20 false (fun K => V Tryd.prog (Instr.loadAt 3 t22) w16 K) w16 fun t23 w17 =>
  gd t20 false (fun K => callD Tryd.prog 23 #[t23, (Value.int IntKind.i64 5)] w17 K) w17 fun t24 w18 =>
  gd t20 false (fun K => V Tryd.prog (Op.unary UnOp.not t24) w18 K) w18 fun t25 w19 =>
  pickD t20 (Value.bool true) t25 fun t26 =>
  gd t26 false (fun K => V Tryd.prog (Instr.fieldAt 26 t1 0) w19 K) w19 fun t28 w21 =>
  gd t26 false (fun K => V Tryd.prog (Instr.loadAt 3 t28) w21 K) w21 fun t29 w22 =>
  gd t26 false (fun K => V Tryd.prog (Instr.fieldAt 26 t1 1) w22 K) w22 fun t30 w23 =>
  gd t26 false (fun K => V Tryd.prog (Instr.loadAt 3 t30) w23 K) w23 fun t31 w24 =>
  gd t26 false (fun K => V Tryd.prog (binOp .gtr 3 t29 t31) w24 K) w24 fun t32 w25 =>
  pickD t26 (Value.bool true) t32 fun t33 =>
  ifD t33 (
  R (Value.bool false) w25) (
  V Tryd.prog (Instr.fieldAt 26 t1 2) w25 fun t34 w27 =>
  V Tryd.prog (Instr.loadAt 24 t34) w27 fun t35 w28 =>
  V Tryd.prog (Builtin.len_ #[24] 3 #[t35]) w28 fun t36 w29 =>
  ∃ (I1 : NP 1) (μ1 : NF 1), I1 (Value.int IntKind.i64 0) w29 ∧
  ∀ (t37 : Value), ∀ w30 : World, I1 t37 w30 → ∀ _f : Env,
  V Tryd.prog (binOp .lss 3 t37 t36) w30 fun t38 w31 =>
  ifD t38 (
  V Tryd.prog (Instr.indexAt 24 t35 t37) w31 fun t40 w32 =>
  V Tryd.prog (Instr.loadAt 52 t40) w32 fun t41 w33 =>
  V Tryd.prog (Instr.loadAt 26 t1) w33 fun t42 w34 =>
  callD Tryd.prog 37 #[t42, t41, t37] w34 fun t45 w35 =>
  V Tryd.prog (Op.unary UnOp.not t45) w35 fun t46 w36 =>
  ifD t46 (
  R (Value.bool false) w36) (
  V Tryd.prog (binOp .add 3 t37 (Value.int IntKind.i64 1)) w36 fun t47 w37 =>
  I1 t47 w37 ∧ μ1 t47 w37 < μ1 t37 w30)) (
  R (Value.bool true) w31))
theorem F19_eq (t0 : Value) (w : World) (R : Value → World → Prop) : F19_den t0 w R = vc Tryd.prog F19_ann (Tryd.f19.body.getD .skip) (retE Tryd.prog Tryd.f19.results.toList R) (argEnv [t0]) w := by kernel_rfl
theorem F19_wp {t0 : Value} {w : World} {R : Value → World → Prop} (h : F19_den t0 w R) : callD Tryd.prog 19 #[t0] w R :=
  callD.of_calls (fn := Tryd.f19) (c := Tryd.f19.body.getD .skip) Tryd.func19 (by kernel_rfl) (by kernel_rfl) (calls_of_vc (args := [t0]) F19_ann mixed Tryd.func19 (by kernel_rfl) (by kernel_rfl) (F19_eq t0 w R ▸ h))

/-- taciturn/live.ahead -/
def F20_ann : Ann := (Ann.seq Ann.leaf (Ann.seq Ann.leaf (Ann.join [6, 11, 12, 13, 14, 15, 16, 17] [] (Ann.seq Ann.leaf (Ann.seq Ann.leaf (Ann.cond Ann.leaf Ann.leaf))) (Ann.seq (Ann.seq Ann.leaf (Ann.block (Ann.loop [8, 21, 22, 23, 24, 25, 26, 27, 28] [21] (Ann.seq Ann.leaf (Ann.seq (Ann.cond Ann.leaf Ann.leaf) (Ann.seq (Ann.block (Ann.seq Ann.leaf Ann.leaf)) Ann.leaf)))))) (Ann.seq Ann.leaf Ann.leaf)))))
def F20_den (t0 : Value) (t1 : Value) (w : World) (R : Value → World → Prop) : Prop :=
  callD Tryd.prog 38 #[t1] w fun t10 w1 =>
  ∃ J1 : NP 0,
  (callD Tryd.prog 39 #[t0] w1 fun t12 w2 =>
  V Tryd.prog (binOp .geq 3 t12 (Value.int IntKind.i64 0)) w2 fun t14 w3 =>
  ifD t14 (
  V Tryd.prog (Instr.indexAt 28 t10 t12) w3 fun t17 w4 =>
  U Tryd.prog (Instr.storeAt 4 t17 (Value.bool false)) w4 fun _ w5 =>
  J1 w5) (
  J1 w3)) ∧
  ∀ w6 : World, J1 w6 → ∀ _f : Env,
  callD Tryd.prog 40 #[t0] w6 fun t19 w7 =>
  V Tryd.prog (Builtin.len_ #[35] 3 #[t19]) w7 fun t20 w8 =>
  ∃ (I2 : NP 1) (μ2 : NF 1), I2 (Value.int IntKind.i64 0) w8 ∧
  ∀ (t21 : Value), ∀ w9 : World, I2 t21 w9 → ∀ _f : Env,
  V Tryd.prog (binOp .lss 3 t21 t20) w9 fun t22 w10 =>
  ifD t22 (
  V Tryd.prog (Instr.indexAt 35 t19 t21) w10 fun t23 w11 =>
  V Tryd.prog (Instr.loadAt 3 t23) w11 fun t24 w12 =>
  V Tryd.prog (Instr.indexAt 28 t10 t24) w12 fun t27 w13 =>
  U Tryd.prog (Instr.storeAt 4 t27 (Value.bool true)) w13 fun _ w14 =>
  V Tryd.prog (binOp .add 3 t21 (Value.int IntKind.i64 1)) w14 fun t28 w15 =>
  I2 t28 w15 ∧ μ2 t28 w15 < μ2 t21 w9) (
  R t10 w10)
theorem F20_eq (t0 : Value) (t1 : Value) (w : World) (R : Value → World → Prop) : F20_den t0 t1 w R = vc Tryd.prog F20_ann (Tryd.f20.body.getD .skip) (retE Tryd.prog Tryd.f20.results.toList R) (argEnv [t0, t1]) w := by kernel_rfl
theorem F20_wp {t0 : Value} {t1 : Value} {w : World} {R : Value → World → Prop} (h : F20_den t0 t1 w R) : callD Tryd.prog 20 #[t0, t1] w R :=
  callD.of_calls (fn := Tryd.f20) (c := Tryd.f20.body.getD .skip) Tryd.func20 (by kernel_rfl) (by kernel_rfl) (calls_of_vc (args := [t0, t1]) F20_ann mixed Tryd.func20 (by kernel_rfl) (by kernel_rfl) (F20_eq t0 t1 w R ▸ h))

/-- taciturn/live.Behind -/
def F21_ann : Ann := (Ann.seq Ann.leaf (Ann.seq (Ann.seq Ann.leaf (Ann.cond (Ann.seq Ann.leaf Ann.leaf) Ann.leaf)) (Ann.seq Ann.leaf (Ann.seq (Ann.seq Ann.leaf (Ann.block (Ann.loop [4, 20, 21, 22, 23, 24, 25, 26, 27, 28, 29] [20] (Ann.seq Ann.leaf (Ann.seq (Ann.cond Ann.leaf Ann.leaf) (Ann.seq (Ann.block (Ann.seq Ann.leaf Ann.leaf)) Ann.leaf)))))) (Ann.seq (Ann.seq Ann.leaf (Ann.block (Ann.loop [5, 6, 8, 9, 10, 30, 31, 32, 33, 34, 35, 36, 37, 38, 39, 40, 41, 42, 43, 44, 45, 46, 47, 48, 49, 50, 51, 52, 53, 54, 55, 56, 57, 58, 59, 60, 61, 62, 63, 64, 65, 66, 67, 68, 69, 70, 71, 72, 73, 74, 75, 76, 77, 78, 79, 80, 81, 82, 83, 84, 85, 86, 87, 88, 89, 90, 91, 92, 93, 94, 95, 96, 97, 98] [5] (Ann.seq (Ann.seq Ann.leaf (Ann.cond Ann.leaf Ann.leaf)) (Ann.block (Ann.seq Ann.leaf (Ann.seq Ann.leaf (Ann.block (Ann.loop [5, 6, 8, 9, 10, 35, 36, 37, 38, 39, 40, 41, 42, 43, 44, 45, 46, 47, 48, 49, 50, 51, 52, 53, 54, 55, 56, 57, 58, 59, 60, 61, 62, 63, 64, 65, 66, 67, 68, 69, 70, 71, 72, 73, 74, 75, 76, 77, 78, 79, 80, 81, 82, 83, 84, 85, 86, 87, 88, 89, 90, 91, 92, 93, 94, 95, 96, 97, 98] [5, 6] (Ann.seq (Ann.seq Ann.leaf (Ann.cond Ann.leaf Ann.leaf)) (Ann.seq (Ann.block (Ann.seq Ann.leaf (Ann.block (Ann.loop [5, 8, 9, 10, 47, 48, 49, 50, 51, 52, 53, 54, 55, 56, 57, 58, 59, 60, 61, 62, 63, 64, 65, 66, 67, 68, 69, 70, 71, 72, 73, 74, 75, 76, 77, 78, 79, 80, 81, 82, 83, 84, 85, 86, 87, 88, 89, 90, 91, 92, 93, 94, 95, 96, 97, 98] [5, 47] (Ann.seq Ann.leaf (Ann.seq (Ann.cond Ann.leaf Ann.leaf) (Ann.seq (Ann.block (Ann.seq Ann.leaf (Ann.seq (Ann.draw [0, 1, 0, 6, 8, 0, 0, 96, 128, 272, 512, 0] [0, 1, 0, 6, 8, 0, 0, 96, 128, 272, 512, 0] 12 (.take 0 (.take 1 (.take 2 (.take 3 (.take 4 (.take 5 (.take 6 (.take 7 (.take 8 (.take 11 (.only 9 (.take 10 .done))))))))))))) (Ann.block (Ann.loop [5, 9, 10, 62, 63, 64, 65, 66, 67, 68, 69, 70, 71, 72, 73, 74, 75, 76, 77, 78, 79, 80, 81, 82, 83, 84, 85, 86, 87, 88, 89, 90, 91, 92, 93, 94, 95, 96, 97] [5, 62] (Ann.seq Ann.leaf (Ann.seq (Ann.cond Ann.leaf Ann.leaf) (Ann.seq (Ann.block (Ann.seq Ann.leaf (Ann.seq Ann.leaf (Ann.draw [0, 0, 3, 4, 0, 0, 0, 96, 128, 0, 768, 1024, 2048, 4096, 12288, 32767, 65535] [0, 0, 3, 4, 0, 0, 0, 96, 128, 0, 768, 1024, 2048, 4096, 12288, 24, 49152] 16 (.take 0 (.take 1 (.take 2 (.take 3 (.take 4 (.take 5 (.take 6 (.take 7 (.take 8 (.take 9 (.take 10 (.take 11 (.take 12 (.take 13 (.take 14 (.take 15 (.last 16))))))))))))))))))))) Ann.leaf)))))))) Ann.leaf))))))) Ann.leaf))))))))))) (Ann.seq Ann.leaf Ann.leaf))))))
def F21_den (t0 : Value) (w : World) (R : Value → World → Prop) : Prop :=
  V Tryd.prog (Instr.box 26 t0) w fun t1 w1 =>
  V Tryd.prog (Instr.loadAt 26 t1) w1 fun t11 w2 =>
  callD Tryd.prog 19 #[t11] w2 fun t12 w3 =>
  V Tryd.prog (Op.unary UnOp.not t12) w3 fun t13 w4 =>
  ifD t13 (
  R (Value.slice none 0 0) w4) (
  V Tryd.prog (Instr.fieldAt 26 t1 2) w4 fun t14 w5 =>
  V Tryd.prog (Instr.loadAt 24 t14) w5 fun t15 w6 =>
  V Tryd.prog (Builtin.len_ #[24] 3 #[t15]) w6 fun t16 w7 =>
  V Tryd.prog (Instr.makeSlice 58 t16 t16) w7 fun t17 w8 =>
  V Tryd.prog (Builtin.len_ #[58] 3 #[t17]) w8 fun t19 w9 =>
  ∃ (I1 : NP 1) (μ1 : NF 1), I1 (Value.int IntKind.i64 0) w9 ∧
  ∀ (t20 : Value), ∀ w10 : World, I1 t20 w10 → ∀ _f : Env,
  V Tryd.prog (binOp .lss 3 t20 t19) w10 fun t21 w11 =>
  ifD t21 (
  V Tryd.prog (Instr.fieldAt 26 t1 1) w11 fun t25 w12 =>
  V Tryd.prog (Instr.loadAt 3 t25) w12 fun t26 w13 =>
  V Tryd.prog (Instr.makeSlice 28 t26 t26) w13 fun t27 w14 =>
  V Tryd.prog (Instr.indexAt 58 t17 t20) w14 fun t28 w15 =>
  U Tryd.prog (Instr.storeAt 28 t28 t27) w15 fun _ w16 =>
  V Tryd.prog (binOp .add 3 t20 (Value.int IntKind.i64 1)) w16 fun t29 w17 =>
  I1 t29 w17 ∧ μ1 t29 w17 < μ1 t20 w10) (
  ∃ (I2 : NP 1) (μ2 : NF 1), I2 (Value.bool true) w11 ∧
  ∀ (t5 : Value), ∀ w18 : World, I2 t5 w18 → ∀ _f : Env,
  ifD t5 (
  V Tryd.prog (Instr.fieldAt 26 t1 2) w18 fun t31 w19 =>
  V Tryd.prog (Instr.loadAt 24 t31) w19 fun t32 w20 =>
  V Tryd.prog (Builtin.len_ #[24] 3 #[t32]) w20 fun t33 w21 =>
  V Tryd.prog (binOp .sub 3 t33 (Value.int IntKind.i64 1)) w21 fun t34 w22 =>
  ∃ (I3 : NP 2) (μ3 : NF 2), I3 (Value.bool false) t34 w22 ∧
  ∀ (t5_1 : Value) (t6 : Value), ∀ w23 : World, I3 t5_1 t6 w23 → ∀ _f : Env,
  V Tryd.prog (binOp .geq 3 t6 (Value.int IntKind.i64 0)) w23 fun t36 w24 =>
  ifD t36 (
  V Tryd.prog (Instr.fieldAt 26 t1 2) w24 fun t39 w25 =>
  V Tryd.prog (Instr.loadAt 24 t39) w25 fun t40 w26 =>
  V Tryd.prog (Instr.indexAt 24 t40 t6) w26 fun t42 w27 =>
  V Tryd.prog (Instr.loadAt 52 t42) w27 fun t43 w28 =>
  callD Tryd.prog 41 #[t43, t6] w28 fun t45 w29 =>
  V Tryd.prog (Builtin.len_ #[35] 3 #[t45]) w29 fun t46 w30 =>
  ∃ (I4 : NP 2) (μ4 : NF 2), I4 t5_1 (Value.int IntKind.i64 0) w30 ∧
  ∀ (t5_2 : Value) (t47 : Value), ∀ w31 : World, I4 t5_2 t47 w31 → ∀ _f : Env,
  V Tryd.prog (binOp .lss 3 t47 t46) w31 fun t48 w32 =>
  ifD t48 (
  V Tryd.prog (Instr.indexAt 35 t45 t47) w32 fun t49 w33 =>
  V Tryd.prog (Instr.loadAt 3 t49) w33 fun t50 w34 =>
  drawD w34 fun S18 w35 =>
  yieldS Tryd.prog S18 (Instr.fieldAt 26 t1 2) fun t51 =>
  yieldS Tryd.prog S18 (Instr.loadAt 24 t51) fun t52 =>
  yieldS Tryd.prog S18 (Instr.indexAt 24 t52 t50) fun t54 =>
  yieldS Tryd.prog S18 (Instr.loadAt 52 t54) fun t55 =>
  yieldS Tryd.prog S18 (Instr.indexAt 58 t17 t50) fun t58 =>
  yieldS Tryd.prog S18 (Instr.loadAt 28 t58) fun t59 =>
  callD Tryd.prog 20 #[t55, t59] w35 fun t60 w36 =>
  S18 w36 ∧
  yieldS Tryd.prog S18 (Builtin.len_ #[28] 3 #[t60]) fun t61 =>
  ∃ (I5 : NP 2) (μ5 : NF 2), I5 t5_2 (Value.int IntKind.i64 0) w36 ∧
  ∀ (t5_3 : Value) (t62 : Value), ∀ w37 : World, I5 t5_3 t62 w37 → ∀ _f : Env,
  V Tryd.prog (binOp .lss 3 t62 t61) w37 fun t63 w38 =>
  ifD t63 (
  V Tryd.prog (Instr.indexAt 28 t60 t62) w38 fun t65 w39 =>
  V Tryd.prog (Instr.loadAt 4 t65) w39 fun t66 w40 =>
  gd t5_3 false (fun K => K t66 w40) w40 fun t69 w41 =>
  gd t5_3 false (fun K => K t69 w41) w41 fun t70 w42 =>
  gd t70 true (fun K => K t17 w42) w42 fun t71 w43 =>
  gd t70 true (fun K => K t6 w43) w43 fun t72 w44 =>
  gd t70 true (fun K => V Tryd.prog (Instr.indexAt 58 t71 t72) w44 K) w44 fun t73 w45 =>
  gd t70 true (fun K => V Tryd.prog (Instr.loadAt 28 t73) w45 K) w45 fun t74 w46 =>
  gd t70 true (fun K => K t62 w46) w46 fun t75 w47 =>
  gd t70 true (fun K => V Tryd.prog (Instr.indexAt 28 t74 t75) w47 K) w47 fun t76 w48 =>
  gd t70 true (fun K => V Tryd.prog (Instr.loadAt 4 t76) w48 K) w48 fun t77 w49 =>
  gd t70 true (fun K => V Tryd.prog (Op.unary UnOp.not t77) w49 K) w49 fun t78 w50 =>
  gd t5_3 false (fun K => pickD t70 t78 (Value.bool false) fun v => K v w50) w50 fun t79 w51 =>
  pickD t5_3 (Value.bool true) t79 fun t80 =>
  drawD w51 fun S22 w53 =>
  yieldS Tryd.prog S22 (Instr.indexAt 58 t17 t6) fun t83 =>
  yieldS Tryd.prog S22 (Instr.loadAt 28 t83) fun t84 =>
  yieldS Tryd.prog S22 (Instr.indexAt 58 t17 t6) fun t88 =>
  yieldS Tryd.prog S22 (Instr.loadAt 28 t88) fun t89 =>
  yieldS Tryd.prog S22 (Instr.indexAt 28 t89 t62) fun t91 =>
  yieldS Tryd.prog S22 (Instr.loadAt 4 t91) fun t92 =>
  gdY t92 false (fun K => K t66) fun t94 =>
  pickD t92 (Value.bool true) t94 fun t95 =>
  yieldS Tryd.prog S22 (Instr.indexAt 28 t84 t62) fun t96 =>
  U Tryd.prog (Instr.storeAt 4 t96 t95) w53 fun _ w54 =>
  V Tryd.prog (binOp .add 3 t62 (Value.int IntKind.i64 1)) w54 fun t97 w55 =>
  I5 t80 t97 w55 ∧ μ5 t80 t97 w55 < μ5 t5_3 t62 w37) (
  V Tryd.prog (binOp .add 3 t47 (Value.int IntKind.i64 1)) w38 fun t98 w56 =>
  I4 t5_3 t98 w56 ∧ μ4 t5_3 t98 w56 < μ4 t5_2 t47 w31)) (
  V Tryd.prog (binOp .sub 3 t6 (Value.int IntKind.i64 1)) w32 fun t38 w57 =>
  I3 t5_2 t38 w57 ∧ μ3 t5_2 t38 w57 < μ3 t5_1 t6 w23)) (
  I2 t5_1 w24 ∧ μ2 t5_1 w24 < μ2 t5 w18)) (
  R t17 w18)))
theorem F21_eq (t0 : Value) (w : World) (R : Value → World → Prop) : F21_den t0 w R = vc Tryd.prog F21_ann (Tryd.f21.body.getD .skip) (retE Tryd.prog Tryd.f21.results.toList R) (argEnv [t0]) w := by kernel_rfl
theorem F21_wp {t0 : Value} {w : World} {R : Value → World → Prop} (h : F21_den t0 w R) : callD Tryd.prog 21 #[t0] w R :=
  callD.of_calls (fn := Tryd.f21) (c := Tryd.f21.body.getD .skip) Tryd.func21 (by kernel_rfl) (by kernel_rfl) (calls_of_vc (args := [t0]) F21_ann mixed Tryd.func21 (by kernel_rfl) (by kernel_rfl) (F21_eq t0 w R ▸ h))

/-- slices.Clone[[]int32,int32] -/
def F22_ann : Ann := (Ann.seq Ann.leaf (Ann.seq (Ann.seq Ann.leaf (Ann.cond (Ann.seq Ann.leaf Ann.leaf) Ann.leaf)) (Ann.seq Ann.leaf Ann.leaf)))
def F22_den (t0 : Value) (w : World) (R : Value → World → Prop) : Prop :=
  V Tryd.prog (do eqGuard .eql 23 (Operand.tmp 3) (Operand.const (Value.slice none 0 0)) t0 (Value.slice none 0 0); binOp .eql 23 t0 (Value.slice none 0 0)) w fun t4 w1 =>
  ifD t4 (
  R (Value.slice none 0 0) w1) (
  V Tryd.prog (Instr.buildSlice 23 0 #[]) w1 fun t5 w2 =>
  V Tryd.prog (Builtin.append_ #[23, 23] 23 #[t5, t0]) w2 fun t7 w3 =>
  R t7 w3)
theorem F22_eq (t0 : Value) (w : World) (R : Value → World → Prop) : F22_den t0 w R = vc Tryd.prog F22_ann (Tryd.f22.body.getD .skip) (retE Tryd.prog Tryd.f22.results.toList R) (argEnv [t0]) w := by kernel_rfl
theorem F22_wp {t0 : Value} {w : World} {R : Value → World → Prop} (h : F22_den t0 w R) : callD Tryd.prog 22 #[t0] w R :=
  callD.of_calls (fn := Tryd.f22) (c := Tryd.f22.body.getD .skip) Tryd.func22 (by kernel_rfl) (by kernel_rfl) (calls_of_vc (args := [t0]) F22_ann mixed Tryd.func22 (by kernel_rfl) (by kernel_rfl) (F22_eq t0 w R ▸ h))

/-- taciturn/ir.in -/
def F23_ann : Ann := (Ann.seq Ann.leaf (Ann.seq Ann.leaf Ann.leaf))
def F23_den (t0 : Value) (t1 : Value) (w : World) (R : Value → World → Prop) : Prop :=
  V Tryd.prog (binOp .geq 3 t0 (Value.int IntKind.i64 0)) w fun t6 w1 =>
  gd t6 true (fun K => K t0 w1) w1 fun t8 w2 =>
  gd t6 true (fun K => K t1 w2) w2 fun t9 w3 =>
  gd t6 true (fun K => V Tryd.prog (binOp .lss 3 t8 t9) w3 K) w3 fun t10 w4 =>
  pickD t6 t10 (Value.bool false) fun t11 =>
  R t11 w4
theorem F23_eq (t0 : Value) (t1 : Value) (w : World) (R : Value → World → Prop) : F23_den t0 t1 w R = vc Tryd.prog F23_ann (Tryd.f23.body.getD .skip) (retE Tryd.prog Tryd.f23.results.toList R) (argEnv [t0, t1]) w := by kernel_rfl
theorem F23_wp {t0 : Value} {t1 : Value} {w : World} {R : Value → World → Prop} (h : F23_den t0 t1 w R) : callD Tryd.prog 23 #[t0, t1] w R :=
  callD.of_calls (fn := Tryd.f23) (c := Tryd.f23.body.getD .skip) Tryd.func23 (by kernel_rfl) (by kernel_rfl) (calls_of_vc (args := [t0, t1]) F23_ann mixed Tryd.func23 (by kernel_rfl) (by kernel_rfl) (F23_eq t0 t1 w R ▸ h))

/-- taciturn/ir.Pure -/
def F24_ann : Ann := (Ann.seq Ann.leaf (Ann.seq (Ann.seq Ann.leaf (Ann.block (Ann.seq Ann.leaf (Ann.cond (Ann.seq Ann.leaf Ann.leaf) Ann.leaf)))) (Ann.seq Ann.leaf Ann.leaf)))
def F24_den (t0 : Value) (w : World) (R : Value → World → Prop) : Prop :=
  V Tryd.prog (Instr.typeAssert t0 52 61 true) w fun t4 w1 =>
  V Tryd.prog (Instr.extract t4 1) w1 fun t5 w2 =>
  V Tryd.prog (Instr.extract t4 0) w2 fun t6 w3 =>
  V Tryd.prog (Instr.typeAssert t0 52 91 true) w3 fun t7 w4 =>
  V Tryd.prog (Instr.extract t7 1) w4 fun t8 w5 =>
  V Tryd.prog (Instr.extract t7 0) w5 fun t9 w6 =>
  V Tryd.prog (Instr.typeAssert t0 52 68 true) w6 fun t10 w7 =>
  V Tryd.prog (Instr.extract t10 1) w7 fun t11 w8 =>
  V Tryd.prog (Instr.extract t10 0) w8 fun t12 w9 =>
  V Tryd.prog (Instr.typeAssert t0 52 93 true) w9 fun t13 w10 =>
  V Tryd.prog (Instr.extract t13 1) w10 fun t14 w11 =>
  V Tryd.prog (Instr.extract t13 0) w11 fun t15 w12 =>
  V Tryd.prog (Instr.typeAssert t0 52 95 true) w12 fun t16 w13 =>
  V Tryd.prog (Instr.extract t16 1) w13 fun t17 w14 =>
  V Tryd.prog (Instr.extract t16 0) w14 fun t18 w15 =>
  V Tryd.prog (Instr.typeAssert t0 52 50 true) w15 fun t19 w16 =>
  V Tryd.prog (Instr.extract t19 1) w16 fun t20 w17 =>
  V Tryd.prog (Instr.extract t19 0) w17 fun t21 w18 =>
  V Tryd.prog (Instr.typeAssert t0 52 97 true) w18 fun t22 w19 =>
  V Tryd.prog (Instr.extract t22 1) w19 fun t23 w20 =>
  V Tryd.prog (Instr.extract t22 0) w20 fun t24 w21 =>
  V Tryd.prog (Instr.typeAssert t0 52 99 true) w21 fun t25 w22 =>
  V Tryd.prog (Instr.extract t25 1) w22 fun t26 w23 =>
  V Tryd.prog (Instr.extract t25 0) w23 fun t27 w24 =>
  pickD t23 (Value.bool true) t26 fun t28 =>
  pickD t20 (Value.bool true) t28 fun t29 =>
  pickD t17 (Value.bool true) t29 fun t30 =>
  pickD t14 (Value.bool true) t30 fun t31 =>
  pickD t11 (Value.bool true) t31 fun t32 =>
  pickD t8 (Value.bool true) t32 fun t33 =>
  pickD t5 (Value.bool true) t33 fun t34 =>
  ifD t34 (
  R (Value.bool true) w24) (
  R (Value.bool false) w24)
theorem F24_eq (t0 : Value) (w : World) (R : Value → World → Prop) : F24_den t0 w R = vc Tryd.prog F24_ann (Tryd.f24.body.getD .skip) (retE Tryd.prog Tryd.f24.results.toList R) (argEnv [t0]) w := by kernel_rfl
theorem F24_wp {t0 : Value} {w : World} {R : Value → World → Prop} (h : F24_den t0 w R) : callD Tryd.prog 24 #[t0] w R :=
  callD.of_calls (fn := Tryd.f24) (c := Tryd.f24.body.getD .skip) Tryd.func24 (by kernel_rfl) (by kernel_rfl) (calls_of_vc (args := [t0]) F24_ann mixed Tryd.func24 (by kernel_rfl) (by kernel_rfl) (F24_eq t0 w R ▸ h))

/-- taciturn/ir.do -/
def F25_ann : Ann := (Ann.seq Ann.leaf (Ann.seq (Ann.seq Ann.leaf (Ann.block (Ann.seq Ann.leaf (Ann.cond (Ann.seq Ann.leaf Ann.leaf) (Ann.seq Ann.leaf (Ann.cond (Ann.seq Ann.leaf (Ann.draw [0, 0, 2, 0, 0, 16, 40, 64, 255, 511] [0, 0, 2, 0, 0, 16, 40, 64, 5, 384] 9 (.take 0 (.take 1 (.take 2 (.take 3 (.take 4 (.take 5 (.take 6 (.take 7 (.take 8 (.last 9)))))))))))) (Ann.seq Ann.leaf (Ann.cond (Ann.seq Ann.leaf (Ann.draw [0, 0, 2, 0, 8, 0, 0, 64, 160, 256, 0, 0, 2048, 5120, 8192, 16912, 65535, 131071] [0, 0, 2, 0, 8, 0, 0, 64, 160, 256, 0, 0, 2048, 5120, 8192, 16912, 5, 98304] 17 (.take 0 (.take 1 (.take 2 (.take 3 (.take 4 (.take 5 (.take 6 (.take 7 (.take 8 (.take 9 (.take 10 (.take 11 (.take 12 (.take 13 (.take 14 (.only 15 (.take 16 (.last 17)))))))))))))))))))) (Ann.seq Ann.leaf (Ann.cond (Ann.seq Ann.leaf (Ann.draw [0, 0, 2, 0, 8, 0, 0, 64, 160, 256, 528, 2047, 4095] [0, 0, 2, 0, 8, 0, 0, 64, 160, 256, 528, 5, 3072] 12 (.take 0 (.take 1 (.take 2 (.take 3 (.take 4 (.take 5 (.take 6 (.take 7 (.take 8 (.take 9 (.only 10 (.take 11 (.last 12))))))))))))))) (Ann.seq Ann.leaf (Ann.cond (Ann.seq Ann.leaf (Ann.draw [0, 0, 2, 0, 0, 16, 40, 64, 0, 0, 512, 1280, 2048, 0, 0, 16384, 40960, 65536, 135296, 524287, 1048575] [0, 0, 2, 0, 0, 16, 40, 64, 0, 0, 512, 1280, 2048, 0, 0, 16384, 40960, 65536, 135296, 5, 786432] 20 (.take 0 (.take 1 (.take 2 (.take 3 (.take 4 (.take 5 (.take 6 (.take 7 (.take 8 (.take 9 (.take 10 (.take 11 (.take 12 (.take 13 (.take 14 (.take 15 (.take 16 (.take 17 (.only 18 (.take 19 (.last 20))))))))))))))))))))))) (Ann.seq Ann.leaf (Ann.cond (Ann.seq Ann.leaf (Ann.seq Ann.leaf Ann.leaf)) (Ann.seq Ann.leaf (Ann.cond (Ann.seq Ann.leaf (Ann.seq Ann.leaf (Ann.cond (Ann.seq Ann.leaf Ann.leaf) Ann.leaf))) Ann.leaf)))))))))))))))) (Ann.seq Ann.leaf Ann.leaf)))
def F25_den (t0 : Value) (t1 : Value) (t2 : Value) (w : World) (R : Value → World → Prop) : Prop :=
  V Tryd.prog (Instr.typeAssert t0 52 61 true) w fun t15 w1 =>
  V Tryd.prog (Instr.extract t15 1) w1 fun t16 w2 =>
  V Tryd.prog (Instr.extract t15 0) w2 fun t17 w3 =>
  ifD t16 (
  V Tryd.prog (Instr.alloc 61 true (.tuple #[])) w3 fun t7 w4 =>
  U Tryd.prog (Instr.storeAt 61 t7 t17) w4 fun _ w5 =>
  V Tryd.prog (Instr.fieldAt 61 t7 0) w5 fun t19 w6 =>
  V Tryd.prog (Instr.loadAt 3 t19) w6 fun t20 w7 =>
  V Tryd.prog (Instr.fieldAt 61 t7 1) w7 fun t21 w8 =>
  V Tryd.prog (Instr.loadAt 21 t21) w8 fun t22 w9 =>
  V Tryd.prog (Instr.indexAt 23 t1 t20) w9 fun t23 w10 =>
  U Tryd.prog (Instr.storeAt 21 t23 t22) w10 fun _ w11 =>
  V Tryd.prog (binOp .add 3 t2 (Value.int IntKind.i64 1)) w11 fun t111 w12 =>
  R t111 w12) (
  V Tryd.prog (Instr.typeAssert t0 52 91 true) w3 fun t24 w13 =>
  V Tryd.prog (Instr.extract t24 1) w13 fun t25 w14 =>
  V Tryd.prog (Instr.extract t24 0) w14 fun t26 w15 =>
  ifD t25 (
  V Tryd.prog (Instr.alloc 91 true (.tuple #[])) w15 fun t8 w16 =>
  U Tryd.prog (Instr.storeAt 91 t8 t26) w16 fun _ w17 =>
  drawD w17 fun S7 w18 =>
  yieldS Tryd.prog S7 (Instr.fieldAt 91 t8 0) fun t28 =>
  yieldS Tryd.prog S7 (Instr.loadAt 3 t28) fun t29 =>
  yieldS Tryd.prog S7 (Instr.fieldAt 91 t8 1) fun t31 =>
  yieldS Tryd.prog S7 (Instr.loadAt 3 t31) fun t32 =>
  yieldS Tryd.prog S7 (Instr.indexAt 23 t1 t32) fun t33 =>
  yieldS Tryd.prog S7 (Instr.loadAt 21 t33) fun t34 =>
  yieldS Tryd.prog S7 (Instr.indexAt 23 t1 t29) fun t35 =>
  U Tryd.prog (Instr.storeAt 21 t35 t34) w18 fun _ w19 =>
  V Tryd.prog (binOp .add 3 t2 (Value.int IntKind.i64 1)) w19 fun t111_1 w20 =>
  R t111_1 w20) (
  V Tryd.prog (Instr.typeAssert t0 52 68 true) w15 fun t36 w21 =>
  V Tryd.prog (Instr.extract t36 1) w21 fun t37 w22 =>
  V Tryd.prog (Instr.extract t36 0) w22 fun t38 w23 =>
  ifD t37 (
  V Tryd.prog (Instr.alloc 68 true (.tuple #[])) w23 fun t9 w24 =>
  U Tryd.prog (Instr.storeAt 68 t9 t38) w24 fun _ w25 =>
  drawD w25 fun S10 w26 =>
  yieldS Tryd.prog S10 (Instr.fieldAt 68 t9 1) fun t40 =>
  yieldS Tryd.prog S10 (Instr.loadAt 3 t40) fun t41 =>
  yieldS Tryd.prog S10 (Instr.fieldAt 68 t9 0) fun t42 =>
  yieldS Tryd.prog S10 (Instr.loadAt 3 t42) fun t43 =>
  yieldS Tryd.prog S10 (Instr.fieldAt 68 t9 2) fun t45 =>
  yieldS Tryd.prog S10 (Instr.loadAt 3 t45) fun t46 =>
  yieldS Tryd.prog S10 (Instr.indexAt 23 t1 t46) fun t47 =>
  yieldS Tryd.prog S10 (Instr.loadAt 21 t47) fun t48 =>
  yieldS Tryd.prog S10 (Instr.fieldAt 68 t9 3) fun t50 =>
  yieldS Tryd.prog S10 (Instr.loadAt 3 t50) fun t51 =>
  yieldS Tryd.prog S10 (Instr.indexAt 23 t1 t51) fun t52 =>
  yieldS Tryd.prog S10 (Instr.loadAt 21 t52) fun t53 =>
  callD Tryd.prog 42 #[t43, t48, t53] w26 fun t54 w27 =>
  S10 w27 ∧
  yieldS Tryd.prog S10 (Instr.indexAt 23 t1 t41) fun t55 =>
  U Tryd.prog (Instr.storeAt 21 t55 t54) w27 fun _ w28 =>
  V Tryd.prog (binOp .add 3 t2 (Value.int IntKind.i64 1)) w28 fun t111_2 w29 =>
  R t111_2 w29) (
  V Tryd.prog (Instr.typeAssert t0 52 93 true) w23 fun t56 w30 =>
  V Tryd.prog (Instr.extract t56 1) w30 fun t57 w31 =>
  V Tryd.prog (Instr.extract t56 0) w31 fun t58 w32 =>
  ifD t57 (
  V Tryd.prog (Instr.alloc 93 true (.tuple #[])) w32 fun t10 w33 =>
  U Tryd.prog (Instr.storeAt 93 t10 t58) w33 fun _ w34 =>
  drawD w34 fun S13 w35 =>
  yieldS Tryd.prog S13 (Instr.fieldAt 93 t10 1) fun t60 =>
  yieldS Tryd.prog S13 (Instr.loadAt 3 t60) fun t61 =>
  yieldS Tryd.prog S13 (Instr.fieldAt 93 t10 0) fun t62 =>
  yieldS Tryd.prog S13 (Instr.loadAt 3 t62) fun t63 =>
  yieldS Tryd.prog S13 (Instr.fieldAt 93 t10 2) fun t65 =>
  yieldS Tryd.prog S13 (Instr.loadAt 3 t65) fun t66 =>
  yieldS Tryd.prog S13 (Instr.indexAt 23 t1 t66) fun t67 =>
  yieldS Tryd.prog S13 (Instr.loadAt 21 t67) fun t68 =>
  callD Tryd.prog 43 #[t63, t68] w35 fun t69 w36 =>
  S13 w36 ∧
  yieldS Tryd.prog S13 (Instr.indexAt 23 t1 t61) fun t70 =>
  U Tryd.prog (Instr.storeAt 21 t70 t69) w36 fun _ w37 =>
  V Tryd.prog (binOp .add 3 t2 (Value.int IntKind.i64 1)) w37 fun t111_3 w38 =>
  R t111_3 w38) (
  V Tryd.prog (Instr.typeAssert t0 52 95 true) w32 fun t71 w39 =>
  V Tryd.prog (Instr.extract t71 1) w39 fun t72 w40 =>
  V Tryd.prog (Instr.extract t71 0) w40 fun t73 w41 =>
  ifD t72 (
  V Tryd.prog (Instr.alloc 95 true (.tuple #[])) w41 fun t11 w42 =>
  U Tryd.prog (Instr.storeAt 95 t11 t73) w42 fun _ w43 =>
  drawD w43 fun S16 w44 =>
  yieldS Tryd.prog S16 (Instr.fieldAt 95 t11 0) fun t75 =>
  yieldS Tryd.prog S16 (Instr.loadAt 3 t75) fun t76 =>
  yieldS Tryd.prog S16 (Instr.fieldAt 95 t11 1) fun t78 =>
  yieldS Tryd.prog S16 (Instr.loadAt 3 t78) fun t79 =>
  yieldS Tryd.prog S16 (Instr.indexAt 23 t1 t79) fun t80 =>
  yieldS Tryd.prog S16 (Instr.loadAt 21 t80) fun t81 =>
  yieldS Tryd.prog S16 (Instr.fieldAt 95 t11 2) fun t83 =>
  yieldS Tryd.prog S16 (Instr.loadAt 3 t83) fun t84 =>
  yieldS Tryd.prog S16 (Instr.indexAt 23 t1 t84) fun t85 =>
  yieldS Tryd.prog S16 (Instr.loadAt 21 t85) fun t86 =>
  yieldS Tryd.prog S16 (Instr.fieldAt 95 t11 3) fun t88 =>
  yieldS Tryd.prog S16 (Instr.loadAt 3 t88) fun t89 =>
  yieldS Tryd.prog S16 (Instr.indexAt 23 t1 t89) fun t90 =>
  yieldS Tryd.prog S16 (Instr.loadAt 21 t90) fun t91 =>
  callD Tryd.prog 44 #[t81, t86, t91] w44 fun t92 w45 =>
  S16 w45 ∧
  yieldS Tryd.prog S16 (Instr.indexAt 23 t1 t76) fun t93 =>
  U Tryd.prog (Instr.storeAt 21 t93 t92) w45 fun _ w46 =>
  V Tryd.prog (binOp .add 3 t2 (Value.int IntKind.i64 1)) w46 fun t111_4 w47 =>
  R t111_4 w47) (
  V Tryd.prog (Instr.typeAssert t0 52 97 true) w41 fun t94 w48 =>
  V Tryd.prog (Instr.extract t94 1) w48 fun t95 w49 =>
  V Tryd.prog (Instr.extract t94 0) w49 fun t96 w50 =>
  ifD t95 (
  V Tryd.prog (Instr.alloc 97 true (.tuple #[])) w50 fun t12 w51 =>
  U Tryd.prog (Instr.storeAt 97 t12 t96) w51 fun _ w52 =>
  V Tryd.prog (Instr.fieldAt 97 t12 0) w52 fun t97 w53 =>
  V Tryd.prog (Instr.loadAt 3 t97) w53 fun t98 w54 =>
  R t98 w54) (
  V Tryd.prog (Instr.typeAssert t0 52 99 true) w50 fun t99 w55 =>
  V Tryd.prog (Instr.extract t99 1) w55 fun t100 w56 =>
  V Tryd.prog (Instr.extract t99 0) w56 fun t101 w57 =>
  ifD t100 (
  V Tryd.prog (Instr.alloc 99 true (.tuple #[])) w57 fun t13 w58 =>
  U Tryd.prog (Instr.storeAt 99 t13 t101) w58 fun _ w59 =>
  V Tryd.prog (Instr.fieldAt 99 t13 0) w59 fun t103 w60 =>
  V Tryd.prog (Instr.loadAt 3 t103) w60 fun t104 w61 =>
  V Tryd.prog (Instr.indexAt 23 t1 t104) w61 fun t105 w62 =>
  V Tryd.prog (Instr.loadAt 21 t105) w62 fun t106 w63 =>
  V Tryd.prog (do eqGuard .neq 21 (Operand.tmp 106) (Operand.const (Value.int IntKind.i32 0)) t106 (Value.int IntKind.i32 0); binOp .neq 21 t106 (Value.int IntKind.i32 0)) w63 fun t107 w64 =>
  ifD t107 (
  V Tryd.prog (Instr.fieldAt 99 t13 1) w64 fun t108 w65 =>
  V Tryd.prog (Instr.loadAt 3 t108) w65 fun t109 w66 =>
  R t109 w66) (
  V Tryd.prog (binOp .add 3 t2 (Value.int IntKind.i64 1)) w64 fun t111_5 w67 =>
  R t111_5 w67)) (
  V Tryd.prog (binOp .add 3 t2 (Value.int IntKind.i64 1)) w57 fun t111_6 w68 =>
  R t111_6 w68)))))))
theorem F25_eq (t0 : Value) (t1 : Value) (t2 : Value) (w : World) (R : Value → World → Prop) : F25_den t0 t1 t2 w R = vc Tryd.prog F25_ann (Tryd.f25.body.getD .skip) (retE Tryd.prog Tryd.f25.results.toList R) (argEnv [t0, t1, t2]) w := by kernel_rfl
theorem F25_wp {t0 : Value} {t1 : Value} {t2 : Value} {w : World} {R : Value → World → Prop} (h : F25_den t0 t1 t2 w R) : callD Tryd.prog 25 #[t0, t1, t2] w R :=
  callD.of_calls (fn := Tryd.f25) (c := Tryd.f25.body.getD .skip) Tryd.func25 (by kernel_rfl) (by kernel_rfl) (calls_of_vc (args := [t0, t1, t2]) F25_ann mixed Tryd.func25 (by kernel_rfl) (by kernel_rfl) (F25_eq t0 t1 t2 w R ▸ h))

/-- taciturn/place.rulesOf -/
def F26_ann : Ann := (Ann.seq Ann.leaf (Ann.join [3, 16, 17, 18, 19, 20, 21, 22] [3] (Ann.draw [0, 1, 2, 0, 8, 16, 36, 0, 255] [0, 1, 2, 0, 8, 16, 36, 0, 192] 8 (.take 0 (.take 1 (.take 3 (.take 4 (.three 2 5 7 (.two 5 7 (.take 6 (.only 7 (.last 8))) (.only 5 (.take 6 (.last 8)))) (.two 2 7 (.take 6 (.only 7 (.last 8))) (.only 2 (.take 6 (.last 8)))) (.two 2 5 (.only 5 (.take 6 (.last 8))) (.only 2 (.take 6 (.last 8)))))))))) (Ann.seq (Ann.seq Ann.leaf (Ann.block (Ann.loop [4, 25, 26, 27, 28, 29, 30, 31, 32, 33, 34, 35] [25] (Ann.seq Ann.leaf (Ann.seq (Ann.cond Ann.leaf Ann.leaf) (Ann.seq (Ann.block (Ann.seq Ann.leaf (Ann.draw [0, 1, 0, 0, 8, 16, 63, 127] [0, 1, 0, 0, 8, 16, 6, 96] 7 (.take 0 (.take 1 (.take 2 (.take 3 (.take 4 (.only 5 (.take 6 (.last 7))))))))))) Ann.leaf)))))) (Ann.seq Ann.leaf (Ann.seq Ann.leaf (Ann.seq Ann.leaf (Ann.seq (Ann.seq Ann.leaf (Ann.block (Ann.loop [8, 44, 45, 46, 47, 48, 49, 50, 51, 52, 53] [44] (Ann.seq Ann.leaf (Ann.seq (Ann.cond Ann.leaf Ann.leaf) (Ann.seq (Ann.block (Ann.seq Ann.leaf (Ann.seq Ann.leaf Ann.leaf))) Ann.leaf)))))) (Ann.seq Ann.leaf (Ann.seq (Ann.seq Ann.leaf (Ann.block (Ann.loop [9, 10, 11, 12, 13, 14, 59, 60, 61, 62, 63, 64, 65, 66, 67, 68, 69, 70, 71, 72, 73, 74, 75, 76, 77, 78, 79, 80, 81, 82, 83, 84, 85, 86, 87, 88, 89, 90, 91, 92, 93, 94, 95, 96, 97, 98, 99, 100, 101, 102, 103, 104, 105, 106, 107, 108] [59] (Ann.seq Ann.leaf (Ann.seq (Ann.cond Ann.leaf Ann.leaf) (Ann.seq (Ann.block (Ann.seq Ann.leaf (Ann.seq Ann.leaf (Ann.seq Ann.leaf (Ann.seq Ann.leaf (Ann.seq Ann.leaf (Ann.seq Ann.leaf (Ann.block (Ann.loop [13, 14, 80, 81, 82, 83, 84, 85, 86, 87, 88, 89, 90, 91, 92, 93, 94, 95, 96, 97, 98, 99, 100, 101, 102, 103, 104, 105, 106, 107] [80] (Ann.seq Ann.leaf (Ann.seq (Ann.cond Ann.leaf Ann.leaf) (Ann.seq (Ann.block (Ann.seq Ann.leaf (Ann.draw [0, 1, 0, 0, 8, 0, 48, 64, 128, 256, 768, 1024, 1024, 7168, 9472, 17664, 32768, 98304, 163840, 295168, 524544, 2097151, 4194303] [0, 1, 0, 0, 8, 0, 48, 64, 128, 256, 768, 1024, 1024, 7168, 9472, 16640, 32768, 98304, 163840, 295168, 524544, 6, 3145728] 22 (.take 0 (.take 1 (.take 2 (.take 3 (.take 4 (.take 5 (.take 6 (.take 7 (.take 8 (.take 9 (.take 10 (.take 11 (.take 12 (.take 13 (.take 14 (.take 15 (.take 16 (.only 17 (.take 18 (.take 19 (.take 20 (.take 21 (.last 22)))))))))))))))))))))))))) Ann.leaf)))))))))))) Ann.leaf)))))) (Ann.seq (Ann.seq Ann.leaf (Ann.block (Ann.loop [15, 111, 112, 113, 114, 115, 116, 117] [111] (Ann.seq Ann.leaf (Ann.seq (Ann.cond Ann.leaf Ann.leaf) (Ann.seq (Ann.block (Ann.seq Ann.leaf Ann.leaf)) Ann.leaf)))))) (Ann.seq Ann.leaf Ann.leaf)))))))))))
def F26_den (t0 : Value) (w : World) (R : Value → World → Prop) : Prop :=
  V Tryd.prog (Instr.box 26 t0) w fun t1 w1 =>
  V Tryd.prog (Instr.alloc 70 true (.tuple #[])) w1 fun t2 w2 =>
  ∃ J1 : NP 1,
  (drawD w2 fun S1 w3 =>
  yieldS Tryd.prog S1 (Instr.fieldAt 26 t1 1) fun t16 =>
  yieldS Tryd.prog S1 (Instr.loadAt 3 t16) fun t17 =>
  yieldS Tryd.prog S1 (Instr.fieldAt 26 t1 1) fun t19 =>
  yieldS Tryd.prog S1 (Instr.loadAt 3 t19) fun t20 =>
  (V Tryd.prog (Instr.makeSlice 58 t17 t17) w3 fun t18 w4 =>
  S1 w4 ∧
  (V Tryd.prog (Instr.makeSlice 28 t20 t20) w4 fun t21 w5 =>
  S1 w5 ∧
  yieldS Tryd.prog S1 (Instr.build 70 #[(0, t18), (1, t21), (2, (Value.slice none 0 0))]) fun t22 =>
  V Tryd.prog (Instr.alloc 70 true (.tuple #[])) w5 fun t3 w6 =>
  S1 w6 ∧
  U Tryd.prog (Instr.storeAt 70 t3 t22) w6 fun _ w7 =>
  J1 t3 w7) ∧
  (V Tryd.prog (Instr.alloc 70 true (.tuple #[])) w4 fun t3_1 w8 =>
  S1 w8 ∧
  V Tryd.prog (Instr.makeSlice 28 t20 t20) w8 fun t21_1 w9 =>
  S1 w9 ∧
  yieldS Tryd.prog S1 (Instr.build 70 #[(0, t18), (1, t21_1), (2, (Value.slice none 0 0))]) fun t22_1 =>
  U Tryd.prog (Instr.storeAt 70 t3_1 t22_1) w9 fun _ w10 =>
  J1 t3_1 w10)) ∧
  (V Tryd.prog (Instr.makeSlice 28 t20 t20) w3 fun t21_2 w11 =>
  S1 w11 ∧
  (V Tryd.prog (Instr.makeSlice 58 t17 t17) w11 fun t18_1 w12 =>
  S1 w12 ∧
  yieldS Tryd.prog S1 (Instr.build 70 #[(0, t18_1), (1, t21_2), (2, (Value.slice none 0 0))]) fun t22_2 =>
  V Tryd.prog (Instr.alloc 70 true (.tuple #[])) w12 fun t3_2 w13 =>
  S1 w13 ∧
  U Tryd.prog (Instr.storeAt 70 t3_2 t22_2) w13 fun _ w14 =>
  J1 t3_2 w14) ∧
  (V Tryd.prog (Instr.alloc 70 true (.tuple #[])) w11 fun t3_3 w15 =>
  S1 w15 ∧
  V Tryd.prog (Instr.makeSlice 58 t17 t17) w15 fun t18_2 w16 =>
  S1 w16 ∧
  yieldS Tryd.prog S1 (Instr.build 70 #[(0, t18_2), (1, t21_2), (2, (Value.slice none 0 0))]) fun t22_3 =>
  U Tryd.prog (Instr.storeAt 70 t3_3 t22_3) w16 fun _ w17 =>
  J1 t3_3 w17)) ∧
  (V Tryd.prog (Instr.alloc 70 true (.tuple #[])) w3 fun t3_4 w18 =>
  S1 w18 ∧
  (V Tryd.prog (Instr.makeSlice 58 t17 t17) w18 fun t18_3 w19 =>
  S1 w19 ∧
  V Tryd.prog (Instr.makeSlice 28 t20 t20) w19 fun t21_3 w20 =>
  S1 w20 ∧
  yieldS Tryd.prog S1 (Instr.build 70 #[(0, t18_3), (1, t21_3), (2, (Value.slice none 0 0))]) fun t22_4 =>
  U Tryd.prog (Instr.storeAt 70 t3_4 t22_4) w20 fun _ w21 =>
  J1 t3_4 w21) ∧
  (V Tryd.prog (Instr.makeSlice 28 t20 t20) w18 fun t21_4 w22 =>
  S1 w22 ∧
  V Tryd.prog (Instr.makeSlice 58 t17 t17) w22 fun t18_4 w23 =>
  S1 w23 ∧
  yieldS Tryd.prog S1 (Instr.build 70 #[(0, t18_4), (1, t21_4), (2, (Value.slice none 0 0))]) fun t22_5 =>
  U Tryd.prog (Instr.storeAt 70 t3_4 t22_5) w23 fun _ w24 =>
  J1 t3_4 w24))) ∧
  ∀ (t3_5 : Value), ∀ w25 : World, J1 t3_5 w25 → ∀ _f : Env,
  V Tryd.prog (Instr.fieldAt 26 t1 1) w25 fun t23 w26 =>
  V Tryd.prog (Instr.loadAt 3 t23) w26 fun t24 w27 =>
  ∃ (I2 : NP 1) (μ2 : NF 1), I2 (Value.int IntKind.i64 0) w27 ∧
  ∀ (t25 : Value), ∀ w28 : World, I2 t25 w28 → ∀ _f : Env,
  V Tryd.prog (binOp .lss 3 t25 t24) w28 fun t26 w29 =>
  ifD t26 (
  drawD w29 fun S5 w30 =>
  yieldS Tryd.prog S5 (Instr.fieldAt 70 t3_5 0) fun t28 =>
  yieldS Tryd.prog S5 (Instr.loadAt 58 t28) fun t29 =>
  yieldS Tryd.prog S5 (Instr.fieldAt 26 t1 1) fun t31 =>
  yieldS Tryd.prog S5 (Instr.loadAt 3 t31) fun t32 =>
  V Tryd.prog (Instr.makeSlice 28 t32 t32) w30 fun t33 w31 =>
  S5 w31 ∧
  yieldS Tryd.prog S5 (Instr.indexAt 58 t29 t25) fun t34 =>
  U Tryd.prog (Instr.storeAt 28 t34 t33) w31 fun _ w32 =>
  V Tryd.prog (binOp .add 3 t25 (Value.int IntKind.i64 1)) w32 fun t35 w33 =>
  I2 t35 w33 ∧ μ2 t35 w33 < μ2 t25 w28) (
  V Tryd.prog (Instr.loadAt 26 t1) w29 fun t36 w34 =>
  callD Tryd.prog 7 #[t36] w34 fun t37 w35 =>
  V Tryd.prog (Instr.fieldAt 26 t1 1) w35 fun t38 w36 =>
  V Tryd.prog (Instr.loadAt 3 t38) w36 fun t39 w37 =>
  V Tryd.prog (Instr.makeSlice 28 t39 t39) w37 fun t40 w38 =>
  V Tryd.prog (Instr.alloc 28 true (.tuple #[])) w38 fun t6 w39 =>
  U Tryd.prog (Instr.storeAt 28 t6 t40) w39 fun _ w40 =>
  V Tryd.prog (Instr.makeFunc (Fn.func 45) #[] #[t6, t3_5]) w40 fun t41 w41 =>
  V Tryd.prog (Instr.fieldAt 26 t1 0) w41 fun t42 w42 =>
  V Tryd.prog (Instr.loadAt 3 t42) w42 fun t43 w43 =>
  ∃ (I3 : NP 1) (μ3 : NF 1), I3 (Value.int IntKind.i64 0) w43 ∧
  ∀ (t44 : Value), ∀ w44 : World, I3 t44 w44 → ∀ _f : Env,
  V Tryd.prog (binOp .lss 3 t44 t43) w44 fun t45 w45 =>
  ifD t45 (
  V Tryd.prog (Instr.indexAt 28 t37 t44) w45 fun t49 w46 =>
  U Tryd.prog (Instr.storeAt 4 t49 (Value.bool true)) w46 fun _ w47 =>
  dynD Tryd.prog t41 #[t44] w47 fun t52 w48 =>
  V Tryd.prog (binOp .add 3 t44 (Value.int IntKind.i64 1)) w48 fun t53 w49 =>
  I3 t53 w49 ∧ μ3 t53 w49 < μ3 t44 w44) (
  callD Tryd.prog 46 #[t3_5, t37] w45 fun t55 w50 =>
  V Tryd.prog (Instr.loadAt 26 t1) w50 fun t56 w51 =>
  callD Tryd.prog 21 #[t56] w51 fun t57 w52 =>
  V Tryd.prog (Builtin.len_ #[58] 3 #[t57]) w52 fun t58 w53 =>
  ∃ (I4 : NP 1) (μ4 : NF 1), I4 (Value.int IntKind.i64 0) w53 ∧
  ∀ (t59 : Value), ∀ w54 : World, I4 t59 w54 → ∀ _f : Env,
  V Tryd.prog (binOp .lss 3 t59 t58) w54 fun t60 w55 =>
  ifD t60 (
  V Tryd.prog (Instr.indexAt 58 t57 t59) w55 fun t62 w56 =>
  V Tryd.prog (Instr.loadAt 28 t62) w56 fun t63 w57 =>
  V Tryd.prog (Instr.fieldAt 26 t1 2) w57 fun t64 w58 =>
  V Tryd.prog (Instr.loadAt 24 t64) w58 fun t65 w59 =>
  V Tryd.prog (Instr.indexAt 24 t65 t59) w59 fun t67 w60 =>
  V Tryd.prog (Instr.loadAt 52 t67) w60 fun t68 w61 =>
  callD Tryd.prog 39 #[t68] w61 fun t70 w62 =>
  dynD Tryd.prog t41 #[t70] w62 fun t73 w63 =>
  callD Tryd.prog 47 #[t63, t70] w63 fun t76 w64 =>
  callD Tryd.prog 46 #[t3_5, t76] w64 fun t77 w65 =>
  V Tryd.prog (Builtin.len_ #[28] 3 #[t63]) w65 fun t79 w66 =>
  ∃ (I5 : NP 1) (μ5 : NF 1), I5 (Value.int IntKind.i64 0) w66 ∧
  ∀ (t80 : Value), ∀ w67 : World, I5 t80 w67 → ∀ _f : Env,
  V Tryd.prog (binOp .lss 3 t80 t79) w67 fun t81 w68 =>
  ifD t81 (
  V Tryd.prog (Instr.indexAt 28 t63 t80) w68 fun t83 w69 =>
  V Tryd.prog (Instr.loadAt 4 t83) w69 fun t84 w70 =>
  drawD w70 fun S27 w71 =>
  yieldS Tryd.prog S27 (Instr.fieldAt 70 t3_5 1) fun t85 =>
  yieldS Tryd.prog S27 (Instr.loadAt 28 t85) fun t86 =>
  yieldS Tryd.prog S27 (Instr.fieldAt 70 t3_5 1) fun t88 =>
  yieldS Tryd.prog S27 (Instr.loadAt 28 t88) fun t89 =>
  yieldS Tryd.prog S27 (Instr.indexAt 28 t89 t80) fun t91 =>
  yieldS Tryd.prog S27 (Instr.loadAt 4 t91) fun t92 =>
  gdY t92 false (fun K => K t84) fun t94 =>
  gdY t92 false (fun K => K t94) fun t95 =>
  gdY t95 true (fun K => K t80) fun t96 =>
  gdY t95 true (fun K => K t70) fun t97 =>
  gdY t95 true (fun K => yieldS Tryd.prog S27 (do eqGuard .neq 3 (Operand.tmp 96) (Operand.tmp 97) t96 t97; binOp .neq 3 t96 t97) K) fun t98 =>
  gdY t92 false (fun K => pickD t95 t98 (Value.bool false) K) fun t99 =>
  gdY t92 false (fun K => K t99) fun t100 =>
  gdY t100 true (fun K => K t68) fun t101 =>
  gd t100 true (fun K => callD Tryd.prog 48 #[t101] w71 K) w71 fun t102 w72 =>
  S27 w72 ∧
  gdY t100 true (fun K => yieldS Tryd.prog S27 (Op.unary UnOp.not t102) K) fun t103 =>
  gdY t92 false (fun K => pickD t100 t103 (Value.bool false) K) fun t104 =>
  pickD t92 (Value.bool true) t104 fun t105 =>
  yieldS Tryd.prog S27 (Instr.indexAt 28 t86 t80) fun t106 =>
  U Tryd.prog (Instr.storeAt 4 t106 t105) w72 fun _ w73 =>
  V Tryd.prog (binOp .add 3 t80 (Value.int IntKind.i64 1)) w73 fun t107 w74 =>
  I5 t107 w74 ∧ μ5 t107 w74 < μ5 t80 w67) (
  V Tryd.prog (binOp .add 3 t59 (Value.int IntKind.i64 1)) w68 fun t108 w75 =>
  I4 t108 w75 ∧ μ4 t108 w75 < μ4 t59 w54)) (
  V Tryd.prog (Instr.fieldAt 26 t1 1) w55 fun t109 w76 =>
  V Tryd.prog (Instr.loadAt 3 t109) w76 fun t110 w77 =>
  ∃ (I6 : NP 1) (μ6 : NF 1), I6 (Value.int IntKind.i64 0) w77 ∧
  ∀ (t111 : Value), ∀ w78 : World, I6 t111 w78 → ∀ _f : Env,
  V Tryd.prog (binOp .lss 3 t111 t110) w78 fun t112 w79 =>
  ifD t112 (
  dynD Tryd.prog t41 #[t111] w79 fun t116 w80 =>
  V Tryd.prog (binOp .add 3 t111 (Value.int IntKind.i64 1)) w80 fun t117 w81 =>
  I6 t117 w81 ∧ μ6 t117 w81 < μ6 t111 w78) (
  V Tryd.prog (Instr.loadAt 70 t3_5) w79 fun t118 w82 =>
  U Tryd.prog (Instr.storeAt 70 t2 t118) w82 fun _ w83 =>
  ∃ r1, (loadVar 70 (match t2 with | .pointer (some p) => p | _ => ⟨0, 0, none⟩)).run Tryd.prog w83 = .ok r1 w83 ∧ (∃ p, t2 = Value.pointer (some p)) ∧ R r1 w83))))
theorem F26_eq (t0 : Value) (w : World) (R : Value → World → Prop) : F26_den t0 w R = vc Tryd.prog F26_ann (Tryd.f26.body.getD .skip) (retE Tryd.prog Tryd.f26.results.toList R) (argEnv [t0]) w := by kernel_rfl
theorem F26_wp {t0 : Value} {w : World} {R : Value → World → Prop} (h : F26_den t0 w R) : callD Tryd.prog 26 #[t0] w R :=
  callD.of_calls (fn := Tryd.f26) (c := Tryd.f26.body.getD .skip) Tryd.func26 (by kernel_rfl) (by kernel_rfl) (calls_of_vc (args := [t0]) F26_ann mixed Tryd.func26 (by kernel_rfl) (by kernel_rfl) (F26_eq t0 w R ▸ h))

/-- (taciturn/place.rules).may -/
def F27_ann : Ann := (Ann.seq Ann.leaf (Ann.seq (Ann.seq Ann.leaf (Ann.cond (Ann.seq Ann.leaf Ann.leaf) Ann.leaf)) (Ann.seq (Ann.seq Ann.leaf (Ann.block (Ann.loop [8, 9, 10, 22, 23, 24, 25, 26, 27, 28, 29, 30, 31, 32, 33, 34, 35, 36, 37, 38, 39, 40] [22] (Ann.seq Ann.leaf (Ann.seq (Ann.cond Ann.leaf Ann.leaf) (Ann.seq (Ann.block (Ann.seq Ann.leaf (Ann.seq Ann.leaf (Ann.cond (Ann.seq Ann.leaf Ann.leaf) Ann.leaf)))) Ann.leaf)))))) (Ann.seq Ann.leaf Ann.leaf))))
def F27_den (t0 : Value) (t1 : Value) (t2 : Value) (t3 : Value) (w : World) (R : Value → World → Prop) : Prop :=
  V Tryd.prog (Instr.box 70 t0) w fun t4 w1 =>
  V Tryd.prog (Instr.fieldAt 70 t4 1) w1 fun t11 w2 =>
  V Tryd.prog (Instr.loadAt 28 t11) w2 fun t12 w3 =>
  V Tryd.prog (Instr.indexAt 28 t12 t1) w3 fun t14 w4 =>
  V Tryd.prog (Instr.loadAt 4 t14) w4 fun t15 w5 =>
  gd t15 true (fun K => K t2 w5) w5 fun t17 w6 =>
  gd t15 true (fun K => V Tryd.prog (binOp .lss 3 t17 (Value.int IntKind.i64 16)) w6 K) w6 fun t18 w7 =>
  pickD t15 t18 (Value.bool false) fun t19 =>
  ifD t19 (
  R (Value.bool false) w7) (
  V Tryd.prog (Builtin.len_ #[35] 3 #[t3]) w7 fun t21 w9 =>
  ∃ (I1 : NP 1) (μ1 : NF 1), I1 (Value.int IntKind.i64 0) w9 ∧
  ∀ (t22 : Value), ∀ w10 : World, I1 t22 w10 → ∀ _f : Env,
  V Tryd.prog (binOp .lss 3 t22 t21) w10 fun t23 w11 =>
  ifD t23 (
  V Tryd.prog (Instr.indexAt 35 t3 t22) w11 fun t25 w12 =>
  V Tryd.prog (Instr.loadAt 3 t25) w12 fun t26 w13 =>
  V Tryd.prog (Instr.fieldAt 70 t4 0) w13 fun t27 w14 =>
  V Tryd.prog (Instr.loadAt 58 t27) w14 fun t28 w15 =>
  V Tryd.prog (Instr.indexAt 58 t28 t1) w15 fun t30 w16 =>
  V Tryd.prog (Instr.loadAt 28 t30) w16 fun t31 w17 =>
  V Tryd.prog (Instr.indexAt 28 t31 t22) w17 fun t33 w18 =>
  V Tryd.prog (Instr.loadAt 4 t33) w18 fun t34 w19 =>
  gd t34 true (fun K => K t26 w19) w19 fun t36 w20 =>
  gd t34 true (fun K => K t2 w20) w20 fun t37 w21 =>
  gd t34 true (fun K => V Tryd.prog (do eqGuard .eql 3 (Operand.tmp 36) (Operand.tmp 37) t36 t37; binOp .eql 3 t36 t37) w21 K) w21 fun t38 w22 =>
  pickD t34 t38 (Value.bool false) fun t39 =>
  ifD t39 (
  R (Value.bool false) w22) (
  V Tryd.prog (binOp .add 3 t22 (Value.int IntKind.i64 1)) w22 fun t40 w24 =>
  I1 t40 w24 ∧ μ1 t40 w24 < μ1 t22 w10)) (
  R (Value.bool true) w11))
theorem F27_eq (t0 : Value) (t1 : Value) (t2 : Value) (t3 : Value) (w : World) (R : Value → World → Prop) : F27_den t0 t1 t2 t3 w R = vc Tryd.prog F27_ann (Tryd.f27.body.getD .skip) (retE Tryd.prog Tryd.f27.results.toList R) (argEnv [t0, t1, t2, t3]) w := by kernel_rfl
theorem F27_wp {t0 : Value} {t1 : Value} {t2 : Value} {t3 : Value} {w : World} {R : Value → World → Prop} (h : F27_den t0 t1 t2 t3 w R) : callD Tryd.prog 27 #[t0, t1, t2, t3] w R :=
  callD.of_calls (fn := Tryd.f27) (c := Tryd.f27.body.getD .skip) Tryd.func27 (by kernel_rfl) (by kernel_rfl) (calls_of_vc (args := [t0, t1, t2, t3]) F27_ann mixed Tryd.func27 (by kernel_rfl) (by kernel_rfl) (F27_eq t0 t1 t2 t3 w R ▸ h))

/-- taciturn/taciturnref17.Behind -/
def F28_ann : Ann := (Ann.seq Ann.leaf (Ann.seq Ann.leaf (Ann.seq (Ann.seq Ann.leaf (Ann.block (Ann.loop [4, 15, 16, 17, 18, 19, 20, 21, 22, 23, 24, 25, 26] [4] (Ann.seq (Ann.seq Ann.leaf (Ann.cond Ann.leaf Ann.leaf)) (Ann.seq (Ann.block Ann.leaf) Ann.leaf))))) (Ann.seq (Ann.seq Ann.leaf (Ann.block (Ann.loop [5, 6, 7, 8, 9, 10, 27, 28, 29, 30, 31, 32, 33, 34, 35, 36, 37, 38, 39, 40, 41, 42, 43, 44, 45, 46, 47, 48, 49, 50, 51, 52, 53, 54, 55, 56, 57, 58, 59, 60, 61, 62, 63, 64, 65, 66, 67, 68, 69, 70, 71, 72, 73, 74, 75, 76, 77, 78, 79, 80, 81, 82, 83, 84, 85, 86, 87, 88, 89, 90] [5] (Ann.seq (Ann.seq Ann.leaf (Ann.cond Ann.leaf Ann.leaf)) (Ann.block (Ann.seq Ann.leaf (Ann.seq Ann.leaf (Ann.block (Ann.loop [5, 6, 7, 8, 9, 10, 32, 33, 34, 35, 36, 37, 38, 39, 40, 41, 42, 43, 44, 45, 46, 47, 48, 49, 50, 51, 52, 53, 54, 55, 56, 57, 58, 59, 60, 61, 62, 63, 64, 65, 66, 67, 68, 69, 70, 71, 72, 73, 74, 75, 76, 77, 78, 79, 80, 81, 82, 83, 84, 85, 86, 87, 88, 89, 90] [5, 6] (Ann.seq (Ann.seq Ann.leaf (Ann.cond Ann.leaf Ann.leaf)) (Ann.seq (Ann.block (Ann.seq Ann.leaf (Ann.seq Ann.leaf (Ann.block (Ann.loop [5, 8, 9, 10, 43, 44, 45, 46, 47, 48, 49, 50, 51, 52, 53, 54, 55, 56, 57, 58, 59, 60, 61, 62, 63, 64, 65, 66, 67, 68, 69, 70, 71, 72, 73, 74, 75, 76, 77, 78, 79, 80, 81, 82, 83, 84, 85, 86, 87, 88, 89, 90] [5, 8] (Ann.seq (Ann.seq Ann.leaf (Ann.cond Ann.leaf Ann.leaf)) (Ann.seq (Ann.block (Ann.seq (Ann.draw [0, 1, 0, 0, 12, 16, 34, 64, 0, 0, 0, 1536, 2048, 4352, 8192, 16512, 65535] [0, 1, 0, 0, 12, 16, 34, 64, 0, 0, 0, 1536, 2048, 4352, 8192, 16512, 32768] 17 (.take 0 (.take 1 (.take 2 (.take 3 (.take 4 (.take 5 (.take 6 (.take 7 (.take 8 (.take 9 (.take 10 (.take 11 (.take 12 (.take 13 (.take 14 (.only 15 (.take 16 .done)))))))))))))))))) (Ann.seq Ann.leaf (Ann.block (Ann.loop [5, 10, 65, 66, 67, 68, 69, 70, 71, 72, 73, 74, 75, 76, 77, 78, 79, 80, 81, 82, 83, 84, 85, 86, 87, 88, 89, 90] [5, 10] (Ann.seq (Ann.seq Ann.leaf (Ann.cond Ann.leaf Ann.leaf)) (Ann.seq (Ann.block (Ann.seq Ann.leaf (Ann.cond (Ann.seq Ann.leaf Ann.leaf) Ann.leaf))) Ann.leaf))))))) Ann.leaf))))))) Ann.leaf))))))))))) (Ann.seq Ann.leaf Ann.leaf)))))
def F28_den (t0 : Value) (w : World) (R : Value → World → Prop) : Prop :=
  V Tryd.prog (Instr.box 44 t0) w fun t1 w1 =>
  V Tryd.prog (Instr.fieldAt 44 t1 2) w1 fun t11 w2 =>
  V Tryd.prog (Instr.loadAt 42 t11) w2 fun t12 w3 =>
  V Tryd.prog (Builtin.len_ #[42] 3 #[t12]) w3 fun t13 w4 =>
  V Tryd.prog (Instr.makeSlice 58 t13 t13) w4 fun t14 w5 =>
  ∃ (I1 : NP 1) (μ1 : NF 1), I1 (Value.int IntKind.i64 0) w5 ∧
  ∀ (t4 : Value), ∀ w6 : World, I1 t4 w6 → ∀ _f : Env,
  V Tryd.prog (Builtin.len_ #[58] 3 #[t14]) w6 fun t17 w7 =>
  V Tryd.prog (binOp .lss 3 t4 t17) w7 fun t18 w8 =>
  ifD t18 (
  V Tryd.prog (Instr.fieldAt 44 t1 1) w8 fun t23 w9 =>
  V Tryd.prog (Instr.loadAt 3 t23) w9 fun t24 w10 =>
  V Tryd.prog (Instr.makeSlice 28 t24 t24) w10 fun t25 w11 =>
  V Tryd.prog (Instr.indexAt 58 t14 t4) w11 fun t26 w12 =>
  U Tryd.prog (Instr.storeAt 28 t26 t25) w12 fun _ w13 =>
  V Tryd.prog (binOp .add 3 t4 (Value.int IntKind.i64 1)) w13 fun t20 w14 =>
  I1 t20 w14 ∧ μ1 t20 w14 < μ1 t4 w6) (
  ∃ (I2 : NP 1) (μ2 : NF 1), I2 (Value.bool true) w8 ∧
  ∀ (t5 : Value), ∀ w15 : World, I2 t5 w15 → ∀ _f : Env,
  ifD t5 (
  V Tryd.prog (Instr.fieldAt 44 t1 2) w15 fun t28 w16 =>
  V Tryd.prog (Instr.loadAt 42 t28) w16 fun t29 w17 =>
  V Tryd.prog (Builtin.len_ #[42] 3 #[t29]) w17 fun t30 w18 =>
  V Tryd.prog (binOp .sub 3 t30 (Value.int IntKind.i64 1)) w18 fun t31 w19 =>
  ∃ (I3 : NP 2) (μ3 : NF 2), I3 (Value.bool false) t31 w19 ∧
  ∀ (t5_1 : Value) (t6 : Value), ∀ w20 : World, I3 t5_1 t6 w20 → ∀ _f : Env,
  V Tryd.prog (binOp .geq 3 t6 (Value.int IntKind.i64 0)) w20 fun t33 w21 =>
  ifD t33 (
  V Tryd.prog (Instr.fieldAt 44 t1 2) w21 fun t36 w22 =>
  V Tryd.prog (Instr.loadAt 42 t36) w22 fun t37 w23 =>
  V Tryd.prog (Instr.indexAt 42 t37 t6) w23 fun t39 w24 =>
  V Tryd.prog (Instr.loadAt 76 t39) w24 fun t40 w25 =>
  callD Tryd.prog 36 #[t40, t6] w25 fun t42 w26 =>
  ∃ (I4 : NP 2) (μ4 : NF 2), I4 t5_1 (Value.int IntKind.i64 0) w26 ∧
  ∀ (t5_2 : Value) (t8 : Value), ∀ w27 : World, I4 t5_2 t8 w27 → ∀ _f : Env,
  V Tryd.prog (Builtin.len_ #[35] 3 #[t42]) w27 fun t45 w28 =>
  V Tryd.prog (binOp .lss 3 t8 t45) w28 fun t46 w29 =>
  ifD t46 (
  drawD w29 fun S16 w30 =>
  yieldS Tryd.prog S16 (Instr.fieldAt 44 t1 2) fun t49 =>
  yieldS Tryd.prog S16 (Instr.loadAt 42 t49) fun t50 =>
  yieldS Tryd.prog S16 (Instr.indexAt 35 t42 t8) fun t53 =>
  yieldS Tryd.prog S16 (Instr.loadAt 3 t53) fun t54 =>
  yieldS Tryd.prog S16 (Instr.indexAt 42 t50 t54) fun t55 =>
  yieldS Tryd.prog S16 (Instr.loadAt 76 t55) fun t56 =>
  yieldS Tryd.prog S16 (Instr.indexAt 35 t42 t8) fun t60 =>
  yieldS Tryd.prog S16 (Instr.loadAt 3 t60) fun t61 =>
  yieldS Tryd.prog S16 (Instr.indexAt 58 t14 t61) fun t62 =>
  yieldS Tryd.prog S16 (Instr.loadAt 28 t62) fun t63 =>
  callD Tryd.prog 49 #[t56, t63] w30 fun t64 w31 =>
  S16 w31 ∧
  ∃ (I5 : NP 2) (μ5 : NF 2), I5 t5_2 (Value.int IntKind.i64 0) w31 ∧
  ∀ (t5_3 : Value) (t10 : Value), ∀ w32 : World, I5 t5_3 t10 w32 → ∀ _f : Env,
  V Tryd.prog (Instr.fieldAt 44 t1 1) w32 fun t66 w33 =>
  V Tryd.prog (Instr.loadAt 3 t66) w33 fun t67 w34 =>
  V Tryd.prog (binOp .lss 3 t10 t67) w34 fun t68 w35 =>
  ifD t68 (
  V Tryd.prog (Instr.indexAt 28 t64 t10) w35 fun t73 w36 =>
  V Tryd.prog (Instr.loadAt 4 t73) w36 fun t74 w37 =>
  gd t74 true (fun K => K t14 w37) w37 fun t76 w38 =>
  gd t74 true (fun K => K t6 w38) w38 fun t77 w39 =>
  gd t74 true (fun K => V Tryd.prog (Instr.indexAt 58 t76 t77) w39 K) w39 fun t78 w40 =>
  gd t74 true (fun K => V Tryd.prog (Instr.loadAt 28 t78) w40 K) w40 fun t79 w41 =>
  gd t74 true (fun K => K t10 w41) w41 fun t80 w42 =>
  gd t74 true (fun K => V Tryd.prog (Instr.indexAt 28 t79 t80) w42 K) w42 fun t81 w43 =>
  gd t74 true (fun K => V Tryd.prog (Instr.loadAt 4 t81) w43 K) w43 fun t82 w44 =>
  gd t74 true (fun K => V Tryd.prog (Op.unary UnOp.not t82) w44 K) w44 fun t83 w45 =>
  pickD t74 t83 (Value.bool false) fun t84 =>
  ifD t84 (
  V Tryd.prog (Instr.indexAt 58 t14 t6) w45 fun t87 w47 =>
  V Tryd.prog (Instr.loadAt 28 t87) w47 fun t88 w48 =>
  V Tryd.prog (Instr.indexAt 28 t88 t10) w48 fun t90 w49 =>
  U Tryd.prog (Instr.storeAt 4 t90 (Value.bool true)) w49 fun _ w50 =>
  V Tryd.prog (binOp .add 3 t10 (Value.int IntKind.i64 1)) w50 fun t70 w51 =>
  I5 (Value.bool true) t70 w51 ∧ μ5 (Value.bool true) t70 w51 < μ5 t5_3 t10 w32) (
  V Tryd.prog (binOp .add 3 t10 (Value.int IntKind.i64 1)) w45 fun t70_1 w52 =>
  I5 t5_3 t70_1 w52 ∧ μ5 t5_3 t70_1 w52 < μ5 t5_3 t10 w32)) (
  V Tryd.prog (binOp .add 3 t8 (Value.int IntKind.i64 1)) w35 fun t48 w53 =>
  I4 t5_3 t48 w53 ∧ μ4 t5_3 t48 w53 < μ4 t5_2 t8 w27)) (
  V Tryd.prog (binOp .sub 3 t6 (Value.int IntKind.i64 1)) w29 fun t35 w54 =>
  I3 t5_2 t35 w54 ∧ μ3 t5_2 t35 w54 < μ3 t5_1 t6 w20)) (
  I2 t5_1 w21 ∧ μ2 t5_1 w21 < μ2 t5 w15)) (
  R t14 w15))
theorem F28_eq (t0 : Value) (w : World) (R : Value → World → Prop) : F28_den t0 w R = vc Tryd.prog F28_ann (Tryd.f28.body.getD .skip) (retE Tryd.prog Tryd.f28.results.toList R) (argEnv [t0]) w := by kernel_rfl
theorem F28_wp {t0 : Value} {w : World} {R : Value → World → Prop} (h : F28_den t0 w R) : callD Tryd.prog 28 #[t0] w R :=
  callD.of_calls (fn := Tryd.f28) (c := Tryd.f28.body.getD .skip) Tryd.func28 (by kernel_rfl) (by kernel_rfl) (calls_of_vc (args := [t0]) F28_ann mixed Tryd.func28 (by kernel_rfl) (by kernel_rfl) (F28_eq t0 w R ▸ h))

/-- taciturn/taciturnref17.Def -/
def F29_ann : Ann := (Ann.seq Ann.leaf (Ann.seq (Ann.seq Ann.leaf (Ann.cond (Ann.seq Ann.leaf Ann.leaf) Ann.leaf)) (Ann.seq Ann.leaf Ann.leaf)))
def F29_den (t0 : Value) (w : World) (R : Value → World → Prop) : Prop :=
  V Tryd.prog (Instr.box 76 t0) w fun t1 w1 =>
  V Tryd.prog (Instr.loadAt 76 t1) w1 fun t3 w2 =>
  callD Tryd.prog 35 #[t3] w2 fun t4 w3 =>
  V Tryd.prog (binOp .lss 3 t4 (Value.int IntKind.i64 0)) w3 fun t5 w4 =>
  ifD t5 (
  R (Value.int IntKind.i64 (-1)) w4) (
  V Tryd.prog (Instr.fieldAt 76 t1 1) w4 fun t6 w5 =>
  V Tryd.prog (Instr.loadAt 3 t6) w5 fun t7 w6 =>
  R t7 w6)
theorem F29_eq (t0 : Value) (w : World) (R : Value → World → Prop) : F29_den t0 w R = vc Tryd.prog F29_ann (Tryd.f29.body.getD .skip) (retE Tryd.prog Tryd.f29.results.toList R) (argEnv [t0]) w := by kernel_rfl
theorem F29_wp {t0 : Value} {w : World} {R : Value → World → Prop} (h : F29_den t0 w R) : callD Tryd.prog 29 #[t0] w R :=
  callD.of_calls (fn := Tryd.f29) (c := Tryd.f29.body.getD .skip) Tryd.func29 (by kernel_rfl) (by kernel_rfl) (calls_of_vc (args := [t0]) F29_ann mixed Tryd.func29 (by kernel_rfl) (by kernel_rfl) (F29_eq t0 w R ▸ h))

/-- taciturn/taciturnref17.apart -/
def F30_ann : Ann := (Ann.seq Ann.leaf (Ann.seq (Ann.seq Ann.leaf (Ann.block (Ann.loop [4, 5, 6, 7, 8, 9, 10, 11, 12, 13, 14, 15, 16, 17, 18, 19, 20, 21, 22, 23, 24, 25, 26, 27, 28, 29, 30, 31, 32, 33, 34, 35, 36, 37, 38, 39, 40] [5] (Ann.seq (Ann.seq Ann.leaf (Ann.cond Ann.leaf Ann.leaf)) (Ann.seq (Ann.block (Ann.seq Ann.leaf (Ann.block (Ann.loop [4, 6, 13, 14, 15, 16, 17, 18, 19, 20, 21, 22, 23, 24, 25, 26, 27, 28, 29, 30, 31, 32, 33, 34, 35, 36, 37, 38, 39, 40] [6] (Ann.seq (Ann.seq Ann.leaf (Ann.cond Ann.leaf Ann.leaf)) (Ann.seq (Ann.block (Ann.seq (Ann.draw [0, 0, 3, 4, 8, 16, 16, 112, 144, 272, 528, 1024, 3072, 1024, 13312, 17408, 1024, 66560, 1024, 394240, 525312, 1082368, 2098176] [0, 0, 3, 4, 8, 16, 16, 112, 144, 272, 512, 1024, 3072, 1024, 13312, 17408, 1024, 66560, 1024, 394240, 525312, 1082368, 2098176] 23 (.take 0 (.take 1 (.take 2 (.take 3 (.take 4 (.take 5 (.take 6 (.take 7 (.take 8 (.take 9 (.take 10 (.take 11 (.take 12 (.take 13 (.take 14 (.take 15 (.take 16 (.take 17 (.take 18 (.take 19 (.take 20 (.take 21 (.take 22 .done)))))))))))))))))))))))) (Ann.cond (Ann.seq Ann.leaf Ann.leaf) Ann.leaf))) Ann.leaf)))))) Ann.leaf))))) (Ann.seq Ann.leaf Ann.leaf)))
def F30_den (t0 : Value) (t1 : Value) (w : World) (R : Value → World → Prop) : Prop :=
  V Tryd.prog (Instr.box 37 t1) w fun t3 w1 =>
  ∃ (I1 : NP 1) (μ1 : NF 1), I1 (Value.int IntKind.i64 0) w1 ∧
  ∀ (t5 : Value), ∀ w2 : World, I1 t5 w2 → ∀ _f : Env,
  V Tryd.prog (Builtin.len_ #[28] 3 #[t0]) w2 fun t9 w3 =>
  V Tryd.prog (binOp .lss 3 t5 t9) w3 fun t10 w4 =>
  ifD t10 (
  ∃ (I2 : NP 1) (μ2 : NF 1), I2 (Value.int IntKind.i64 0) w4 ∧
  ∀ (t6 : Value), ∀ w5 : World, I2 t6 w5 → ∀ _f : Env,
  V Tryd.prog (binOp .lss 3 t6 t5) w5 fun t15 w6 =>
  ifD t15 (
  drawD w6 fun S7 w7 =>
  yieldS Tryd.prog S7 (Instr.indexAt 28 t0 t5) fun t20 =>
  yieldS Tryd.prog S7 (Instr.loadAt 4 t20) fun t21 =>
  gdY t21 true (fun K => K t0) fun t23 =>
  gdY t21 true (fun K => K t6) fun t24 =>
  gdY t21 true (fun K => yieldS Tryd.prog S7 (Instr.indexAt 28 t23 t24) K) fun t25 =>
  gdY t21 true (fun K => yieldS Tryd.prog S7 (Instr.loadAt 4 t25) K) fun t26 =>
  pickD t21 t26 (Value.bool false) fun t27 =>
  gdY t27 true (fun K => yieldS Tryd.prog S7 (Instr.fieldAt 37 t3 0) K) fun t29 =>
  gdY t27 true (fun K => yieldS Tryd.prog S7 (Instr.loadAt 35 t29) K) fun t30 =>
  gdY t27 true (fun K => K t5) fun t31 =>
  gdY t27 true (fun K => yieldS Tryd.prog S7 (Instr.indexAt 35 t30 t31) K) fun t32 =>
  gdY t27 true (fun K => yieldS Tryd.prog S7 (Instr.loadAt 3 t32) K) fun t33 =>
  gdY t27 true (fun K => yieldS Tryd.prog S7 (Instr.fieldAt 37 t3 0) K) fun t34 =>
  gdY t27 true (fun K => yieldS Tryd.prog S7 (Instr.loadAt 35 t34) K) fun t35 =>
  gdY t27 true (fun K => K t6) fun t36 =>
  gdY t27 true (fun K => yieldS Tryd.prog S7 (Instr.indexAt 35 t35 t36) K) fun t37 =>
  gdY t27 true (fun K => yieldS Tryd.prog S7 (Instr.loadAt 3 t37) K) fun t38 =>
  gdY t27 true (fun K => yieldS Tryd.prog S7 (do eqGuard .eql 3 (Operand.tmp 33) (Operand.tmp 38) t33 t38; binOp .eql 3 t33 t38) K) fun t39 =>
  pickD t27 t39 (Value.bool false) fun t40 =>
  ifD t40 (
  R (Value.bool false) w7) (
  V Tryd.prog (binOp .add 3 t6 (Value.int IntKind.i64 1)) w7 fun t17 w8 =>
  I2 t17 w8 ∧ μ2 t17 w8 < μ2 t6 w5)) (
  V Tryd.prog (binOp .add 3 t5 (Value.int IntKind.i64 1)) w6 fun t12 w9 =>
  I1 t12 w9 ∧ μ1 t12 w9 < μ1 t5 w2)) (
  R (Value.bool true) w4)
theorem F30_eq (t0 : Value) (t1 : Value) (w : World) (R : Value → World → Prop) : F30_den t0 t1 w R = vc Tryd.prog F30_ann (Tryd.f30.body.getD .skip) (retE Tryd.prog Tryd.f30.results.toList R) (argEnv [t0, t1]) w := by kernel_rfl
theorem F30_wp {t0 : Value} {t1 : Value} {w : World} {R : Value → World → Prop} (h : F30_den t0 t1 w R) : callD Tryd.prog 30 #[t0, t1] w R :=
  callD.of_calls (fn := Tryd.f30) (c := Tryd.f30.body.getD .skip) Tryd.func30 (by kernel_rfl) (by kernel_rfl) (calls_of_vc (args := [t0, t1]) F30_ann mixed Tryd.func30 (by kernel_rfl) (by kernel_rfl) (F30_eq t0 t1 w R ▸ h))

/-- taciturn/taciturnref17.Ahead -/
def F31_ann : Ann := (Ann.seq Ann.leaf (Ann.seq (Ann.draw [0, 1, 2, 4, 0, 16, 32, 64, 168, 511] [0, 1, 2, 4, 0, 16, 32, 64, 136, 256] 10 (.take 0 (.take 1 (.take 2 (.take 3 (.take 4 (.only 5 (.re (.take 6 (.take 7 (.only 8 (.re (.take 9 .done))))))))))))) Ann.leaf))
def F31_den (t0 : Value) (w : World) (R : Value → World → Prop) : Prop :=
  V Tryd.prog (Instr.box 44 t0) w fun t1 w1 =>
  drawD w1 fun S1 w2 =>
  yieldS Tryd.prog S1 (Instr.fieldAt 44 t1 2) fun t3 =>
  yieldS Tryd.prog S1 (Instr.loadAt 42 t3) fun t4 =>
  yieldS Tryd.prog S1 (Instr.indexAt 42 t4 (Value.int IntKind.i64 0)) fun t5 =>
  yieldS Tryd.prog S1 (Instr.loadAt 76 t5) fun t6 =>
  yieldS Tryd.prog S1 (Instr.loadAt 44 t1) fun t7 =>
  callD Tryd.prog 28 #[t7] w2 fun t8 w3 =>
  S1 w3 ∧
  reS S1 w3 fun S1_4 =>
  yieldS Tryd.prog S1_4 (Instr.indexAt 58 t8 (Value.int IntKind.i64 0)) fun t9 =>
  yieldS Tryd.prog S1_4 (Instr.loadAt 28 t9) fun t10 =>
  callD Tryd.prog 49 #[t6, t10] w3 fun t11 w5 =>
  S1_4 w5 ∧
  reS S1_4 w5 fun S1_4_6 =>
  R t11 w5
theorem F31_eq (t0 : Value) (w : World) (R : Value → World → Prop) : F31_den t0 w R = vc Tryd.prog F31_ann (Tryd.f31.body.getD .skip) (retE Tryd.prog Tryd.f31.results.toList R) (argEnv [t0]) w := by kernel_rfl
theorem F31_wp {t0 : Value} {w : World} {R : Value → World → Prop} (h : F31_den t0 w R) : callD Tryd.prog 31 #[t0] w R :=
  callD.of_calls (fn := Tryd.f31) (c := Tryd.f31.body.getD .skip) Tryd.func31 (by kernel_rfl) (by kernel_rfl) (calls_of_vc (args := [t0]) F31_ann mixed Tryd.func31 (by kernel_rfl) (by kernel_rfl) (F31_eq t0 w R ▸ h))

/-- taciturn/taciturnhand.PlainNode -/
def F32_ann : Ann := (Ann.seq Ann.leaf (Ann.seq (Ann.seq Ann.leaf (Ann.block (Ann.seq Ann.leaf (Ann.cond (Ann.seq Ann.leaf (Ann.seq Ann.leaf Ann.leaf)) (Ann.seq Ann.leaf (Ann.cond (Ann.seq Ann.leaf (Ann.seq Ann.leaf Ann.leaf)) (Ann.seq Ann.leaf (Ann.cond (Ann.seq Ann.leaf (Ann.seq Ann.leaf Ann.leaf)) (Ann.seq Ann.leaf (Ann.cond (Ann.seq Ann.leaf (Ann.seq Ann.leaf Ann.leaf)) (Ann.seq Ann.leaf (Ann.cond (Ann.seq Ann.leaf (Ann.seq Ann.leaf Ann.leaf)) (Ann.seq Ann.leaf (Ann.cond (Ann.seq Ann.leaf (Ann.seq Ann.leaf Ann.leaf)) (Ann.seq Ann.leaf (Ann.cond (Ann.seq Ann.leaf (Ann.seq Ann.leaf Ann.leaf)) (Ann.seq Ann.leaf (Ann.cond (Ann.seq Ann.leaf (Ann.seq Ann.leaf Ann.leaf)) (Ann.seq Ann.leaf (Ann.cond (Ann.seq Ann.leaf (Ann.seq Ann.leaf Ann.leaf)) (Ann.seq Ann.leaf (Ann.cond (Ann.seq Ann.leaf (Ann.seq Ann.leaf Ann.leaf)) (Ann.seq Ann.leaf (Ann.cond (Ann.seq Ann.leaf (Ann.seq Ann.leaf Ann.leaf)) (Ann.seq Ann.leaf (Ann.cond (Ann.seq Ann.leaf (Ann.seq Ann.leaf Ann.leaf)) (Ann.seq Ann.leaf (Ann.cond (Ann.seq Ann.leaf (Ann.seq Ann.leaf Ann.leaf)) (Ann.seq Ann.leaf (Ann.cond (Ann.seq Ann.leaf (Ann.seq (Ann.seq Ann.leaf (Ann.cond (Ann.seq Ann.leaf Ann.leaf) Ann.leaf)) (Ann.seq Ann.leaf Ann.leaf))) Ann.leaf)))))))))))))))))))))))))))))) (Ann.seq Ann.leaf Ann.leaf)))
def F32_den (t0 : Value) (w : World) (R : Value → World → Prop) : Prop :=
  V Tryd.prog (Instr.alloc 76 true (.tuple #[])) w fun t2 w1 =>
  V Tryd.prog (Instr.typeAssert t0 52 61 true) w1 fun t18 w2 =>
  V Tryd.prog (Instr.extract t18 1) w2 fun t19 w3 =>
  V Tryd.prog (Instr.extract t18 0) w3 fun t20 w4 =>
  ifD t19 (
  V Tryd.prog (Instr.alloc 61 true (.tuple #[])) w4 fun t3 w5 =>
  U Tryd.prog (Instr.storeAt 61 t3 t20) w5 fun _ w6 =>
  V Tryd.prog (Instr.fieldAt 61 t3 0) w6 fun t21 w7 =>
  V Tryd.prog (Instr.loadAt 3 t21) w7 fun t22 w8 =>
  V Tryd.prog (Instr.fieldAt 61 t3 1) w8 fun t23 w9 =>
  V Tryd.prog (Instr.loadAt 21 t23) w9 fun t24 w10 =>
  V Tryd.prog (convert 21 3 t24) w10 fun t25 w11 =>
  V Tryd.prog (Instr.build 76 #[(0, (Value.int IntKind.i64 1)), (1, t22), (3, t25)]) w11 fun t26 w12 =>
  U Tryd.prog (Instr.storeAt 76 t2 t26) w12 fun _ w13 =>
  ∃ r1, (loadVar 76 (match t2 with | .pointer (some p) => p | _ => ⟨0, 0, none⟩)).run Tryd.prog w13 = .ok r1 w13 ∧ (∃ p, t2 = Value.pointer (some p)) ∧ R r1 w13) (
  V Tryd.prog (Instr.typeAssert t0 52 91 true) w4 fun t27 w14 =>
  V Tryd.prog (Instr.extract t27 1) w14 fun t28 w15 =>
  V Tryd.prog (Instr.extract t27 0) w15 fun t29 w16 =>
  ifD t28 (
  V Tryd.prog (Instr.alloc 91 true (.tuple #[])) w16 fun t4 w17 =>
  U Tryd.prog (Instr.storeAt 91 t4 t29) w17 fun _ w18 =>
  V Tryd.prog (Instr.fieldAt 91 t4 0) w18 fun t30 w19 =>
  V Tryd.prog (Instr.loadAt 3 t30) w19 fun t31 w20 =>
  V Tryd.prog (Instr.fieldAt 91 t4 1) w20 fun t32 w21 =>
  V Tryd.prog (Instr.loadAt 3 t32) w21 fun t33 w22 =>
  V Tryd.prog (Instr.buildSlice 35 1 #[(0, t33)]) w22 fun t34 w23 =>
  V Tryd.prog (Instr.build 76 #[(0, (Value.int IntKind.i64 2)), (1, t31), (7, t34)]) w23 fun t35 w24 =>
  U Tryd.prog (Instr.storeAt 76 t2 t35) w24 fun _ w25 =>
  ∃ r1, (loadVar 76 (match t2 with | .pointer (some p) => p | _ => ⟨0, 0, none⟩)).run Tryd.prog w25 = .ok r1 w25 ∧ (∃ p, t2 = Value.pointer (some p)) ∧ R r1 w25) (
  V Tryd.prog (Instr.typeAssert t0 52 68 true) w16 fun t36 w26 =>
  V Tryd.prog (Instr.extract t36 1) w26 fun t37 w27 =>
  V Tryd.prog (Instr.extract t36 0) w27 fun t38 w28 =>
  ifD t37 (
  V Tryd.prog (Instr.alloc 68 true (.tuple #[])) w28 fun t5 w29 =>
  U Tryd.prog (Instr.storeAt 68 t5 t38) w29 fun _ w30 =>
  V Tryd.prog (Instr.fieldAt 68 t5 0) w30 fun t39 w31 =>
  V Tryd.prog (Instr.loadAt 3 t39) w31 fun t40 w32 =>
  V Tryd.prog (Instr.fieldAt 68 t5 1) w32 fun t41 w33 =>
  V Tryd.prog (Instr.loadAt 3 t41) w33 fun t42 w34 =>
  V Tryd.prog (Instr.fieldAt 68 t5 2) w34 fun t43 w35 =>
  V Tryd.prog (Instr.loadAt 3 t43) w35 fun t44 w36 =>
  V Tryd.prog (Instr.fieldAt 68 t5 3) w36 fun t45 w37 =>
  V Tryd.prog (Instr.loadAt 3 t45) w37 fun t46 w38 =>
  V Tryd.prog (Instr.buildSlice 35 2 #[(0, t44), (1, t46)]) w38 fun t47 w39 =>
  V Tryd.prog (Instr.build 76 #[(0, (Value.int IntKind.i64 3)), (2, t40), (1, t42), (7, t47)]) w39 fun t48 w40 =>
  U Tryd.prog (Instr.storeAt 76 t2 t48) w40 fun _ w41 =>
  ∃ r1, (loadVar 76 (match t2 with | .pointer (some p) => p | _ => ⟨0, 0, none⟩)).run Tryd.prog w41 = .ok r1 w41 ∧ (∃ p, t2 = Value.pointer (some p)) ∧ R r1 w41) (
  V Tryd.prog (Instr.typeAssert t0 52 93 true) w28 fun t49 w42 =>
  V Tryd.prog (Instr.extract t49 1) w42 fun t50 w43 =>
  V Tryd.prog (Instr.extract t49 0) w43 fun t51 w44 =>
  ifD t50 (
  V Tryd.prog (Instr.alloc 93 true (.tuple #[])) w44 fun t6 w45 =>
  U Tryd.prog (Instr.storeAt 93 t6 t51) w45 fun _ w46 =>
  V Tryd.prog (Instr.fieldAt 93 t6 0) w46 fun t52 w47 =>
  V Tryd.prog (Instr.loadAt 3 t52) w47 fun t53 w48 =>
  V Tryd.prog (Instr.fieldAt 93 t6 1) w48 fun t54 w49 =>
  V Tryd.prog (Instr.loadAt 3 t54) w49 fun t55 w50 =>
  V Tryd.prog (Instr.fieldAt 93 t6 2) w50 fun t56 w51 =>
  V Tryd.prog (Instr.loadAt 3 t56) w51 fun t57 w52 =>
  V Tryd.prog (Instr.buildSlice 35 1 #[(0, t57)]) w52 fun t58 w53 =>
  V Tryd.prog (Instr.build 76 #[(0, (Value.int IntKind.i64 4)), (2, t53), (1, t55), (7, t58)]) w53 fun t59 w54 =>
  U Tryd.prog (Instr.storeAt 76 t2 t59) w54 fun _ w55 =>
  ∃ r1, (loadVar 76 (match t2 with | .pointer (some p) => p | _ => ⟨0, 0, none⟩)).run Tryd.prog w55 = .ok r1 w55 ∧ (∃ p, t2 = Value.pointer (some p)) ∧ R r1 w55) (
  V Tryd.prog (Instr.typeAssert t0 52 95 true) w44 fun t60 w56 =>
  V Tryd.prog (Instr.extract t60 1) w56 fun t61 w57 =>
  V Tryd.prog (Instr.extract t60 0) w57 fun t62 w58 =>
  ifD t61 (
  V Tryd.prog (Instr.alloc 95 true (.tuple #[])) w58 fun t7 w59 =>
  U Tryd.prog (Instr.storeAt 95 t7 t62) w59 fun _ w60 =>
  V Tryd.prog (Instr.fieldAt 95 t7 0) w60 fun t63 w61 =>
  V Tryd.prog (Instr.loadAt 3 t63) w61 fun t64 w62 =>
  V Tryd.prog (Instr.fieldAt 95 t7 1) w62 fun t65 w63 =>
  V Tryd.prog (Instr.loadAt 3 t65) w63 fun t66 w64 =>
  V Tryd.prog (Instr.fieldAt 95 t7 2) w64 fun t67 w65 =>
  V Tryd.prog (Instr.loadAt 3 t67) w65 fun t68 w66 =>
  V Tryd.prog (Instr.fieldAt 95 t7 3) w66 fun t69 w67 =>
  V Tryd.prog (Instr.loadAt 3 t69) w67 fun t70 w68 =>
  V Tryd.prog (Instr.buildSlice 35 3 #[(0, t66), (1, t68), (2, t70)]) w68 fun t71 w69 =>
  V Tryd.prog (Instr.build 76 #[(0, (Value.int IntKind.i64 5)), (1, t64), (7, t71)]) w69 fun t72 w70 =>
  U Tryd.prog (Instr.storeAt 76 t2 t72) w70 fun _ w71 =>
  ∃ r1, (loadVar 76 (match t2 with | .pointer (some p) => p | _ => ⟨0, 0, none⟩)).run Tryd.prog w71 = .ok r1 w71 ∧ (∃ p, t2 = Value.pointer (some p)) ∧ R r1 w71) (
  V Tryd.prog (Instr.typeAssert t0 52 50 true) w58 fun t73 w72 =>
  V Tryd.prog (Instr.extract t73 1) w72 fun t74 w73 =>
  V Tryd.prog (Instr.extract t73 0) w73 fun t75 w74 =>
  ifD t74 (
  V Tryd.prog (Instr.alloc 50 true (.tuple #[])) w74 fun t8 w75 =>
  U Tryd.prog (Instr.storeAt 50 t8 t75) w75 fun _ w76 =>
  V Tryd.prog (Instr.build 76 #[(0, (Value.int IntKind.i64 6)), (1, (Value.int IntKind.i64 (-1)))]) w76 fun t76 w77 =>
  U Tryd.prog (Instr.storeAt 76 t2 t76) w77 fun _ w78 =>
  ∃ r1, (loadVar 76 (match t2 with | .pointer (some p) => p | _ => ⟨0, 0, none⟩)).run Tryd.prog w78 = .ok r1 w78 ∧ (∃ p, t2 = Value.pointer (some p)) ∧ R r1 w78) (
  V Tryd.prog (Instr.typeAssert t0 52 97 true) w74 fun t77 w79 =>
  V Tryd.prog (Instr.extract t77 1) w79 fun t78 w80 =>
  V Tryd.prog (Instr.extract t77 0) w80 fun t79 w81 =>
  ifD t78 (
  V Tryd.prog (Instr.alloc 97 true (.tuple #[])) w81 fun t9 w82 =>
  U Tryd.prog (Instr.storeAt 97 t9 t79) w82 fun _ w83 =>
  V Tryd.prog (Instr.fieldAt 97 t9 0) w83 fun t80 w84 =>
  V Tryd.prog (Instr.loadAt 3 t80) w84 fun t81 w85 =>
  V Tryd.prog (Instr.build 76 #[(0, (Value.int IntKind.i64 7)), (1, (Value.int IntKind.i64 (-1))), (6, t81)]) w85 fun t82 w86 =>
  U Tryd.prog (Instr.storeAt 76 t2 t82) w86 fun _ w87 =>
  ∃ r1, (loadVar 76 (match t2 with | .pointer (some p) => p | _ => ⟨0, 0, none⟩)).run Tryd.prog w87 = .ok r1 w87 ∧ (∃ p, t2 = Value.pointer (some p)) ∧ R r1 w87) (
  V Tryd.prog (Instr.typeAssert t0 52 99 true) w81 fun t83 w88 =>
  V Tryd.prog (Instr.extract t83 1) w88 fun t84 w89 =>
  V Tryd.prog (Instr.extract t83 0) w89 fun t85 w90 =>
  ifD t84 (
  V Tryd.prog (Instr.alloc 99 true (.tuple #[])) w90 fun t10 w91 =>
  U Tryd.prog (Instr.storeAt 99 t10 t85) w91 fun _ w92 =>
  V Tryd.prog (Instr.fieldAt 99 t10 1) w92 fun t86 w93 =>
  V Tryd.prog (Instr.loadAt 3 t86) w93 fun t87 w94 =>
  V Tryd.prog (Instr.fieldAt 99 t10 0) w94 fun t88 w95 =>
  V Tryd.prog (Instr.loadAt 3 t88) w95 fun t89 w96 =>
  V Tryd.prog (Instr.buildSlice 35 1 #[(0, t89)]) w96 fun t90 w97 =>
  V Tryd.prog (Instr.build 76 #[(0, (Value.int IntKind.i64 8)), (1, (Value.int IntKind.i64 (-1))), (6, t87), (7, t90)]) w97 fun t91 w98 =>
  U Tryd.prog (Instr.storeAt 76 t2 t91) w98 fun _ w99 =>
  ∃ r1, (loadVar 76 (match t2 with | .pointer (some p) => p | _ => ⟨0, 0, none⟩)).run Tryd.prog w99 = .ok r1 w99 ∧ (∃ p, t2 = Value.pointer (some p)) ∧ R r1 w99) (
  V Tryd.prog (Instr.typeAssert t0 52 108 true) w90 fun t92 w100 =>
  V Tryd.prog (Instr.extract t92 1) w100 fun t93 w101 =>
  V Tryd.prog (Instr.extract t92 0) w101 fun t94 w102 =>
  ifD t93 (
  V Tryd.prog (Instr.alloc 108 true (.tuple #[])) w102 fun t11 w103 =>
  U Tryd.prog (Instr.storeAt 108 t11 t94) w103 fun _ w104 =>
  V Tryd.prog (Instr.fieldAt 108 t11 0) w104 fun t95 w105 =>
  V Tryd.prog (Instr.loadAt 3 t95) w105 fun t96 w106 =>
  V Tryd.prog (Instr.fieldAt 108 t11 1) w106 fun t97 w107 =>
  V Tryd.prog (Instr.loadAt 3 t97) w107 fun t98 w108 =>
  V Tryd.prog (Instr.build 76 #[(0, (Value.int IntKind.i64 9)), (1, t96), (3, t98)]) w108 fun t99 w109 =>
  U Tryd.prog (Instr.storeAt 76 t2 t99) w109 fun _ w110 =>
  ∃ r1, (loadVar 76 (match t2 with | .pointer (some p) => p | _ => ⟨0, 0, none⟩)).run Tryd.prog w110 = .ok r1 w110 ∧ (∃ p, t2 = Value.pointer (some p)) ∧ R r1 w110) (
  V Tryd.prog (Instr.typeAssert t0 52 110 true) w102 fun t100 w111 =>
  V Tryd.prog (Instr.extract t100 1) w111 fun t101 w112 =>
  V Tryd.prog (Instr.extract t100 0) w112 fun t102 w113 =>
  ifD t101 (
  V Tryd.prog (Instr.alloc 110 true (.tuple #[])) w113 fun t12 w114 =>
  U Tryd.prog (Instr.storeAt 110 t12 t102) w114 fun _ w115 =>
  V Tryd.prog (Instr.fieldAt 110 t12 0) w115 fun t103 w116 =>
  V Tryd.prog (Instr.loadAt 3 t103) w116 fun t104 w117 =>
  V Tryd.prog (Instr.fieldAt 110 t12 1) w117 fun t105 w118 =>
  V Tryd.prog (Instr.loadAt 3 t105) w118 fun t106 w119 =>
  V Tryd.prog (Instr.buildSlice 35 1 #[(0, t106)]) w119 fun t107 w120 =>
  V Tryd.prog (Instr.build 76 #[(0, (Value.int IntKind.i64 10)), (1, (Value.int IntKind.i64 (-1))), (3, t104), (7, t107)]) w120 fun t108 w121 =>
  U Tryd.prog (Instr.storeAt 76 t2 t108) w121 fun _ w122 =>
  ∃ r1, (loadVar 76 (match t2 with | .pointer (some p) => p | _ => ⟨0, 0, none⟩)).run Tryd.prog w122 = .ok r1 w122 ∧ (∃ p, t2 = Value.pointer (some p)) ∧ R r1 w122) (
  V Tryd.prog (Instr.typeAssert t0 52 112 true) w113 fun t109 w123 =>
  V Tryd.prog (Instr.extract t109 1) w123 fun t110 w124 =>
  V Tryd.prog (Instr.extract t109 0) w124 fun t111 w125 =>
  ifD t110 (
  V Tryd.prog (Instr.alloc 112 true (.tuple #[])) w125 fun t13 w126 =>
  U Tryd.prog (Instr.storeAt 112 t13 t111) w126 fun _ w127 =>
  V Tryd.prog (Instr.fieldAt 112 t13 0) w127 fun t112 w128 =>
  V Tryd.prog (Instr.loadAt 3 t112) w128 fun t113 w129 =>
  V Tryd.prog (Instr.fieldAt 112 t13 1) w129 fun t114 w130 =>
  V Tryd.prog (Instr.loadAt 3 t114) w130 fun t115 w131 =>
  V Tryd.prog (Instr.fieldAt 112 t13 2) w131 fun t116 w132 =>
  V Tryd.prog (Instr.loadAt 3 t116) w132 fun t117 w133 =>
  V Tryd.prog (Instr.fieldAt 112 t13 3) w133 fun t118 w134 =>
  V Tryd.prog (Instr.loadAt 3 t118) w134 fun t119 w135 =>
  V Tryd.prog (Instr.fieldAt 112 t13 4) w135 fun t120 w136 =>
  V Tryd.prog (Instr.loadAt 35 t120) w136 fun t121 w137 =>
  V Tryd.prog (Instr.build 76 #[(0, (Value.int IntKind.i64 11)), (2, t113), (4, t115), (5, t117), (1, t119), (7, t121)]) w137 fun t122 w138 =>
  U Tryd.prog (Instr.storeAt 76 t2 t122) w138 fun _ w139 =>
  ∃ r1, (loadVar 76 (match t2 with | .pointer (some p) => p | _ => ⟨0, 0, none⟩)).run Tryd.prog w139 = .ok r1 w139 ∧ (∃ p, t2 = Value.pointer (some p)) ∧ R r1 w139) (
  V Tryd.prog (Instr.typeAssert t0 52 114 true) w125 fun t123 w140 =>
  V Tryd.prog (Instr.extract t123 1) w140 fun t124 w141 =>
  V Tryd.prog (Instr.extract t123 0) w141 fun t125 w142 =>
  ifD t124 (
  V Tryd.prog (Instr.alloc 114 true (.tuple #[])) w142 fun t14 w143 =>
  U Tryd.prog (Instr.storeAt 114 t14 t125) w143 fun _ w144 =>
  V Tryd.prog (Instr.fieldAt 114 t14 0) w144 fun t126 w145 =>
  V Tryd.prog (Instr.loadAt 3 t126) w145 fun t127 w146 =>
  V Tryd.prog (Instr.fieldAt 114 t14 1) w146 fun t128 w147 =>
  V Tryd.prog (Instr.loadAt 3 t128) w147 fun t129 w148 =>
  V Tryd.prog (Instr.fieldAt 114 t14 2) w148 fun t130 w149 =>
  V Tryd.prog (Instr.loadAt 35 t130) w149 fun t131 w150 =>
  V Tryd.prog (Instr.build 76 #[(0, (Value.int IntKind.i64 12)), (3, t127), (1, t129), (7, t131)]) w150 fun t132 w151 =>
  U Tryd.prog (Instr.storeAt 76 t2 t132) w151 fun _ w152 =>
  ∃ r1, (loadVar 76 (match t2 with | .pointer (some p) => p | _ => ⟨0, 0, none⟩)).run Tryd.prog w152 = .ok r1 w152 ∧ (∃ p, t2 = Value.pointer (some p)) ∧ R r1 w152) (
  V Tryd.prog (Instr.typeAssert t0 52 116 true) w142 fun t133 w153 =>
  V Tryd.prog (Instr.extract t133 1) w153 fun t134 w154 =>
  V Tryd.prog (Instr.extract t133 0) w154 fun t135 w155 =>
  ifD t134 (
  V Tryd.prog (Instr.alloc 116 true (.tuple #[])) w155 fun t15 w156 =>
  U Tryd.prog (Instr.storeAt 116 t15 t135) w156 fun _ w157 =>
  V Tryd.prog (Instr.fieldAt 116 t15 0) w157 fun t136 w158 =>
  V Tryd.prog (Instr.loadAt 3 t136) w158 fun t137 w159 =>
  V Tryd.prog (Instr.fieldAt 116 t15 1) w159 fun t138 w160 =>
  V Tryd.prog (Instr.loadAt 3 t138) w160 fun t139 w161 =>
  V Tryd.prog (Instr.fieldAt 116 t15 2) w161 fun t140 w162 =>
  V Tryd.prog (Instr.loadAt 35 t140) w162 fun t141 w163 =>
  V Tryd.prog (Instr.build 76 #[(0, (Value.int IntKind.i64 13)), (3, t137), (1, t139), (7, t141)]) w163 fun t142 w164 =>
  U Tryd.prog (Instr.storeAt 76 t2 t142) w164 fun _ w165 =>
  ∃ r1, (loadVar 76 (match t2 with | .pointer (some p) => p | _ => ⟨0, 0, none⟩)).run Tryd.prog w165 = .ok r1 w165 ∧ (∃ p, t2 = Value.pointer (some p)) ∧ R r1 w165) (
  V Tryd.prog (Instr.typeAssert t0 52 54 true) w155 fun t143 w166 =>
  V Tryd.prog (Instr.extract t143 1) w166 fun t144 w167 =>
  V Tryd.prog (Instr.extract t143 0) w167 fun t145 w168 =>
  ifD t144 (
  V Tryd.prog (Instr.alloc 54 true (.tuple #[])) w168 fun t16 w169 =>
  U Tryd.prog (Instr.storeAt 54 t16 t145) w169 fun _ w170 =>
  V Tryd.prog (Instr.fieldAt 54 t16 0) w170 fun t146 w171 =>
  V Tryd.prog (Instr.loadAt 3 t146) w171 fun t147 w172 =>
  V Tryd.prog (do eqGuard .eql 3 (Operand.tmp 147) (Operand.const (Value.int IntKind.i64 (-1))) t147 (Value.int IntKind.i64 (-1)); binOp .eql 3 t147 (Value.int IntKind.i64 (-1))) w172 fun t148 w173 =>
  ifD t148 (
  V Tryd.prog (Instr.build 76 #[(0, (Value.int IntKind.i64 14)), (1, (Value.int IntKind.i64 (-1)))]) w173 fun t149 w174 =>
  U Tryd.prog (Instr.storeAt 76 t2 t149) w174 fun _ w175 =>
  ∃ r1, (loadVar 76 (match t2 with | .pointer (some p) => p | _ => ⟨0, 0, none⟩)).run Tryd.prog w175 = .ok r1 w175 ∧ (∃ p, t2 = Value.pointer (some p)) ∧ R r1 w175) (
  V Tryd.prog (Instr.fieldAt 54 t16 0) w173 fun t150 w176 =>
  V Tryd.prog (Instr.loadAt 3 t150) w176 fun t151 w177 =>
  V Tryd.prog (Instr.buildSlice 35 1 #[(0, t151)]) w177 fun t152 w178 =>
  V Tryd.prog (Instr.build 76 #[(0, (Value.int IntKind.i64 14)), (1, (Value.int IntKind.i64 (-1))), (7, t152)]) w178 fun t153 w179 =>
  U Tryd.prog (Instr.storeAt 76 t2 t153) w179 fun _ w180 =>
  ∃ r1, (loadVar 76 (match t2 with | .pointer (some p) => p | _ => ⟨0, 0, none⟩)).run Tryd.prog w180 = .ok r1 w180 ∧ (∃ p, t2 = Value.pointer (some p)) ∧ R r1 w180)) (
  V Tryd.prog (Instr.build 76 #[]) w168 fun t154 w181 =>
  U Tryd.prog (Instr.storeAt 76 t2 t154) w181 fun _ w182 =>
  ∃ r1, (loadVar 76 (match t2 with | .pointer (some p) => p | _ => ⟨0, 0, none⟩)).run Tryd.prog w182 = .ok r1 w182 ∧ (∃ p, t2 = Value.pointer (some p)) ∧ R r1 w182))))))))))))))
theorem F32_eq (t0 : Value) (w : World) (R : Value → World → Prop) : F32_den t0 w R = vc Tryd.prog F32_ann (Tryd.f32.body.getD .skip) (retE Tryd.prog Tryd.f32.results.toList R) (argEnv [t0]) w := by kernel_rfl
theorem F32_wp {t0 : Value} {w : World} {R : Value → World → Prop} (h : F32_den t0 w R) : callD Tryd.prog 32 #[t0] w R :=
  callD.of_calls (fn := Tryd.f32) (c := Tryd.f32.body.getD .skip) Tryd.func32 (by kernel_rfl) (by kernel_rfl) (calls_of_vc (args := [t0]) F32_ann mixed Tryd.func32 (by kernel_rfl) (by kernel_rfl) (F32_eq t0 w R ▸ h))

/-- taciturn/taciturnhand.Node -/
def F33_ann : Ann := (Ann.seq Ann.leaf (Ann.seq Ann.leaf (Ann.seq Ann.leaf (Ann.join [8, 27, 28, 29, 30, 31] [8] (Ann.seq Ann.leaf (Ann.cond Ann.leaf Ann.leaf)) (Ann.seq Ann.leaf (Ann.seq (Ann.seq Ann.leaf (Ann.block (Ann.loop [9, 10, 32, 33, 34, 35, 36, 37, 38, 39, 40, 41, 42, 43, 44, 45, 46, 47, 48, 49, 50, 51, 52] [9, 10] (Ann.seq (Ann.seq Ann.leaf (Ann.cond Ann.leaf Ann.leaf)) (Ann.seq (Ann.block Ann.leaf) Ann.leaf))))) (Ann.seq Ann.leaf (Ann.seq (Ann.seq Ann.leaf (Ann.block (Ann.join [60, 61, 62] [60] (Ann.seq Ann.leaf (Ann.cond Ann.leaf Ann.leaf)) (Ann.cond (Ann.seq Ann.leaf Ann.leaf) (Ann.seq Ann.leaf (Ann.cond (Ann.seq Ann.leaf Ann.leaf) (Ann.join [78, 79, 80, 81] [78] (Ann.seq Ann.leaf (Ann.cond Ann.leaf (Ann.seq Ann.leaf (Ann.cond Ann.leaf Ann.leaf)))) (Ann.cond (Ann.seq Ann.leaf (Ann.join [12, 87, 88, 89, 90, 91, 92, 93] [12] (Ann.seq Ann.leaf (Ann.cond Ann.leaf Ann.leaf)) (Ann.seq (Ann.draw [0, 0, 0, 0, 8, 20, 0, 0, 128, 352, 547, 1024, 4095] [0, 0, 0, 0, 8, 20, 0, 0, 128, 320, 547, 1024, 2048] 13 (.take 0 (.take 1 (.take 2 (.take 3 (.take 4 (.take 6 (.take 7 (.take 8 (.only 5 (.only 9 (.take 10 (.take 11 (.take 12 .done)))))))))))))) Ann.leaf))) (Ann.seq Ann.leaf (Ann.cond (Ann.seq (Ann.draw [0, 0, 2, 4, 9, 0, 0, 0, 128, 328, 560, 1024, 4095] [0, 0, 2, 4, 9, 0, 0, 0, 128, 320, 560, 1024, 2048] 13 (.take 0 (.take 1 (.take 2 (.take 5 (.take 6 (.take 7 (.take 8 (.only 3 (.take 4 (.only 9 (.take 10 (.take 11 (.take 12 .done)))))))))))))) Ann.leaf) (Ann.seq Ann.leaf (Ann.cond (Ann.seq (Ann.draw [0, 0, 0, 4, 10, 0, 0, 64, 176, 0, 0, 1024, 2816, 4369, 8192, 32767] [0, 0, 0, 4, 10, 0, 0, 64, 160, 0, 0, 1024, 2560, 4369, 8192, 16384] 16 (.take 0 (.take 1 (.take 2 (.take 3 (.take 5 (.take 6 (.take 7 (.take 9 (.take 10 (.take 11 (.only 4 (.only 8 (.only 12 (.take 13 (.take 14 (.take 15 .done))))))))))))))))) Ann.leaf) (Ann.join [137, 138, 139] [137] (Ann.seq Ann.leaf (Ann.cond Ann.leaf Ann.leaf)) (Ann.cond (Ann.seq Ann.leaf Ann.leaf) (Ann.seq Ann.leaf (Ann.cond (Ann.seq Ann.leaf Ann.leaf) (Ann.join [147, 148, 149] [147] (Ann.seq Ann.leaf (Ann.cond Ann.leaf Ann.leaf)) (Ann.cond (Ann.seq Ann.leaf Ann.leaf) (Ann.seq Ann.leaf (Ann.cond (Ann.seq Ann.leaf Ann.leaf) (Ann.seq Ann.leaf (Ann.cond (Ann.seq (Ann.draw [0, 1, 2, 0, 0, 16, 44, 68, 128, 511] [0, 1, 2, 0, 0, 16, 40, 68, 128, 256] 10 (.take 0 (.take 1 (.take 3 (.take 4 (.take 5 (.only 2 (.only 6 (.take 7 (.take 8 (.take 9 .done))))))))))) Ann.leaf) (Ann.seq Ann.leaf (Ann.cond (Ann.seq Ann.leaf (Ann.seq Ann.leaf (Ann.seq Ann.leaf (Ann.seq Ann.leaf (Ann.seq (Ann.seq Ann.leaf (Ann.block (Ann.loop [16, 17, 185, 186, 187, 188, 189, 190, 191, 192, 193, 194, 195, 196, 197, 198, 199] [16, 17] (Ann.seq (Ann.seq Ann.leaf (Ann.cond Ann.leaf Ann.leaf)) (Ann.seq (Ann.block Ann.leaf) Ann.leaf))))) (Ann.join [16, 200, 201, 202, 203, 204] [16] (Ann.seq Ann.leaf (Ann.cond Ann.leaf Ann.leaf)) (Ann.seq Ann.leaf (Ann.join [18, 206, 207, 208, 209] [18] (Ann.seq Ann.leaf (Ann.cond Ann.leaf Ann.leaf)) (Ann.seq (Ann.draw [0, 1, 2, 0, 8, 16, 0, 0, 228, 256, 1023] [0, 1, 2, 0, 8, 16, 0, 0, 228, 256, 512] 11 (.take 0 (.take 1 (.take 2 (.take 3 (.take 4 (.take 6 (.take 7 (.only 5 (.take 8 (.take 9 (.take 10 .done)))))))))))) Ann.leaf))))))))) (Ann.seq Ann.leaf (Ann.cond (Ann.seq Ann.leaf (Ann.join [19, 223, 224, 225, 226] [19] (Ann.seq Ann.leaf (Ann.cond Ann.leaf Ann.leaf)) (Ann.seq Ann.leaf (Ann.seq (Ann.seq Ann.leaf (Ann.cond (Ann.seq Ann.leaf Ann.leaf) Ann.leaf)) (Ann.seq Ann.leaf Ann.leaf))))) Ann.leaf)))))))))))))))))))))))))) (Ann.seq (Ann.seq Ann.leaf (Ann.cond (Ann.seq Ann.leaf Ann.leaf) Ann.leaf)) (Ann.seq Ann.leaf Ann.leaf))))))))))
def F33_den (t0 : Value) (t1 : Value) (t2 : Value) (w : World) (R : Value → World → Prop) : Prop :=
  V Tryd.prog (Instr.box 82 t0) w fun t3 w1 =>
  V Tryd.prog (Instr.box 3 t1) w1 fun t4 w2 =>
  V Tryd.prog (Instr.makeFunc (Fn.func 50) #[] #[t4]) w2 fun t21 w3 =>
  V Tryd.prog (Instr.fieldAt 82 t3 7) w3 fun t22 w4 =>
  V Tryd.prog (Instr.loadAt 3 t22) w4 fun t23 w5 =>
  V Tryd.prog (Builtin.max_ #[3, 3] 3 #[(Value.int IntKind.i64 1), t2]) w5 fun t25 w6 =>
  callD Tryd.prog 9 #[t23, t25] w6 fun t26 w7 =>
  ∃ J1 : NP 1,
  (V Tryd.prog (Instr.fieldAt 82 t3 7) w7 fun t27 w8 =>
  V Tryd.prog (Instr.loadAt 3 t27) w8 fun t28 w9 =>
  V Tryd.prog (binOp .rem 3 t28 (Value.int IntKind.i64 97)) w9 fun t29 w10 =>
  V Tryd.prog (do eqGuard .eql 3 (Operand.tmp 29) (Operand.const (Value.int IntKind.i64 96)) t29 (Value.int IntKind.i64 96); binOp .eql 3 t29 (Value.int IntKind.i64 96)) w10 fun t30 w11 =>
  ifD t30 (
  J1 t2 w11) (
  J1 t26 w11)) ∧
  ∀ (t8 : Value), ∀ w12 : World, J1 t8 w12 → ∀ _f : Env,
  ∃ (I2 : NP 2) (μ2 : NF 2), I2 (Value.slice none 0 0) (Value.int IntKind.i64 0) w12 ∧
  ∀ (t9 : Value) (t10 : Value), ∀ w13 : World, I2 t9 t10 w13 → ∀ _f : Env,
  V Tryd.prog (Instr.fieldAt 82 t3 8) w13 fun t33 w14 =>
  V Tryd.prog (Instr.loadAt 35 t33) w14 fun t34 w15 =>
  V Tryd.prog (Builtin.len_ #[35] 3 #[t34]) w15 fun t35 w16 =>
  V Tryd.prog (binOp .lss 3 t10 t35) w16 fun t36 w17 =>
  gd t36 true (fun K => K t10 w17) w17 fun t38 w18 =>
  gd t36 true (fun K => V Tryd.prog (binOp .lss 3 t38 (Value.int IntKind.i64 6)) w18 K) w18 fun t39 w19 =>
  pickD t36 t39 (Value.bool false) fun t40 =>
  ifD t40 (
  V Tryd.prog (Instr.fieldAt 82 t3 8) w19 fun t45 w21 =>
  V Tryd.prog (Instr.loadAt 35 t45) w21 fun t46 w22 =>
  V Tryd.prog (Instr.indexAt 35 t46 t10) w22 fun t48 w23 =>
  V Tryd.prog (Instr.loadAt 3 t48) w23 fun t49 w24 =>
  dynD Tryd.prog t21 #[t49] w24 fun t50 w25 =>
  V Tryd.prog (Instr.buildSlice 35 1 #[(0, t50)]) w25 fun t51 w26 =>
  V Tryd.prog (Builtin.append_ #[35, 35] 35 #[t9, t51]) w26 fun t52 w27 =>
  V Tryd.prog (binOp .add 3 t10 (Value.int IntKind.i64 1)) w27 fun t42 w28 =>
  I2 t52 t42 w28 ∧ μ2 t52 t42 w28 < μ2 t9 t10 w13) (
  V Tryd.prog (Instr.fieldAt 82 t3 1) w19 fun t54 w29 =>
  V Tryd.prog (Instr.loadAt 3 t54) w29 fun t55 w30 =>
  dynD Tryd.prog t21 #[t55] w30 fun t56 w31 =>
  V Tryd.prog (Instr.fieldAt 82 t3 0) w31 fun t57 w32 =>
  V Tryd.prog (Instr.loadAt 3 t57) w32 fun t58 w33 =>
  callD Tryd.prog 9 #[t58, (Value.int IntKind.i64 18)] w33 fun t59 w34 =>
  ∃ J3 : NP 1,
  (V Tryd.prog (do eqGuard .eql 3 (Operand.tmp 59) (Operand.const (Value.int IntKind.i64 0)) t59 (Value.int IntKind.i64 0); binOp .eql 3 t59 (Value.int IntKind.i64 0)) w34 fun t61 w35 =>
  ifD t61 (
  J3 t61 w35) (
  V Tryd.prog (do eqGuard .eql 3 (Operand.tmp 59) (Operand.const (Value.int IntKind.i64 1)) t59 (Value.int IntKind.i64 1); binOp .eql 3 t59 (Value.int IntKind.i64 1)) w35 fun t62 w36 =>
  J3 t62 w36)) ∧
  ∀ (t60 : Value), ∀ w37 : World, J3 t60 w37 → ∀ _f : Env,
  ifD t60 (
  V Tryd.prog (Instr.fieldAt 82 t3 3) w37 fun t64 w38 =>
  V Tryd.prog (Instr.loadAt 3 t64) w38 fun t65 w39 =>
  V Tryd.prog (convert 3 21 t65) w39 fun t66 w40 =>
  V Tryd.prog (Instr.build 61 #[(0, t56), (1, t66)]) w40 fun t67 w41 =>
  V Tryd.prog (Instr.makeInterface 61 t67) w41 fun t68 w42 =>
  R t68 w42) (
  V Tryd.prog (do eqGuard .eql 3 (Operand.tmp 59) (Operand.const (Value.int IntKind.i64 2)) t59 (Value.int IntKind.i64 2); binOp .eql 3 t59 (Value.int IntKind.i64 2)) w37 fun t70 w43 =>
  ifD t70 (
  V Tryd.prog (Instr.fieldAt 82 t3 4) w43 fun t73 w44 =>
  V Tryd.prog (Instr.loadAt 3 t73) w44 fun t74 w45 =>
  dynD Tryd.prog t21 #[t74] w45 fun t75 w46 =>
  V Tryd.prog (Instr.build 91 #[(0, t56), (1, t75)]) w46 fun t76 w47 =>
  V Tryd.prog (Instr.makeInterface 91 t76) w47 fun t77 w48 =>
  R t77 w48) (
  ∃ J4 : NP 1,
  (V Tryd.prog (do eqGuard .eql 3 (Operand.tmp 59) (Operand.const (Value.int IntKind.i64 3)) t59 (Value.int IntKind.i64 3); binOp .eql 3 t59 (Value.int IntKind.i64 3)) w43 fun t79 w49 =>
  ifD t79 (
  J4 t79 w49) (
  V Tryd.prog (do eqGuard .eql 3 (Operand.tmp 59) (Operand.const (Value.int IntKind.i64 4)) t59 (Value.int IntKind.i64 4); binOp .eql 3 t59 (Value.int IntKind.i64 4)) w49 fun t80 w50 =>
  ifD t80 (
  J4 t80 w50) (
  V Tryd.prog (do eqGuard .eql 3 (Operand.tmp 59) (Operand.const (Value.int IntKind.i64 5)) t59 (Value.int IntKind.i64 5); binOp .eql 3 t59 (Value.int IntKind.i64 5)) w50 fun t81 w51 =>
  J4 t81 w51))) ∧
  ∀ (t78 : Value), ∀ w52 : World, J4 t78 w52 → ∀ _f : Env,
  ifD t78 (
  V Tryd.prog (Instr.fieldAt 82 t3 2) w52 fun t82 w53 =>
  V Tryd.prog (Instr.loadAt 3 t82) w53 fun t83 w54 =>
  callD Tryd.prog 9 #[t83, (Value.int IntKind.i64 12)] w54 fun t84 w55 =>
  V Tryd.prog (Instr.indexAt 118 (Value.pointer (some ⟨0, 0, none⟩)) t84) w55 fun t85 w56 =>
  V Tryd.prog (Instr.loadAt 3 t85) w56 fun t86 w57 =>
  ∃ J5 : NP 1,
  (V Tryd.prog (Instr.fieldAt 82 t3 2) w57 fun t87 w58 =>
  V Tryd.prog (Instr.loadAt 3 t87) w58 fun t88 w59 =>
  V Tryd.prog (binOp .rem 3 t88 (Value.int IntKind.i64 83)) w59 fun t89 w60 =>
  V Tryd.prog (do eqGuard .eql 3 (Operand.tmp 89) (Operand.const (Value.int IntKind.i64 82)) t89 (Value.int IntKind.i64 82); binOp .eql 3 t89 (Value.int IntKind.i64 82)) w60 fun t90 w61 =>
  ifD t90 (
  V Tryd.prog (Instr.fieldAt 82 t3 2) w61 fun t91 w62 =>
  V Tryd.prog (Instr.loadAt 3 t91) w62 fun t92 w63 =>
  callD Tryd.prog 9 #[t92, (Value.int IntKind.i64 45)] w63 fun t93 w64 =>
  J5 t93 w64) (
  J5 t86 w61)) ∧
  ∀ (t12 : Value), ∀ w65 : World, J5 t12 w65 → ∀ _f : Env,
  drawD w65 fun S23 w66 =>
  yieldS Tryd.prog S23 (Instr.fieldAt 82 t3 4) fun t97 =>
  yieldS Tryd.prog S23 (Instr.loadAt 3 t97) fun t98 =>
  yieldS Tryd.prog S23 (Instr.fieldAt 82 t3 5) fun t101 =>
  yieldS Tryd.prog S23 (Instr.loadAt 3 t101) fun t102 =>
  dynD Tryd.prog t21 #[t98] w66 fun t99 w67 =>
  S23 w67 ∧
  dynD Tryd.prog t21 #[t102] w67 fun t103 w68 =>
  S23 w68 ∧
  yieldS Tryd.prog S23 (Instr.build 68 #[(0, t12), (1, t56), (2, t99), (3, t103)]) fun t104 =>
  yieldS Tryd.prog S23 (Instr.makeInterface 68 t104) fun t105 =>
  R t105 w68) (
  V Tryd.prog (do eqGuard .eql 3 (Operand.tmp 59) (Operand.const (Value.int IntKind.i64 6)) t59 (Value.int IntKind.i64 6); binOp .eql 3 t59 (Value.int IntKind.i64 6)) w52 fun t107 w69 =>
  ifD t107 (
  drawD w69 fun S25 w70 =>
  yieldS Tryd.prog S25 (Instr.build 119 #[(0, (Value.int IntKind.i64 15)), (1, (Value.int IntKind.i64 16)), (2, (Value.int IntKind.i64 26))]) fun t108 =>
  yieldS Tryd.prog S25 (Instr.fieldAt 82 t3 2) fun t109 =>
  yieldS Tryd.prog S25 (Instr.loadAt 3 t109) fun t110 =>
  yieldS Tryd.prog S25 (Instr.fieldAt 82 t3 4) fun t115 =>
  yieldS Tryd.prog S25 (Instr.loadAt 3 t115) fun t116 =>
  callD Tryd.prog 9 #[t110, (Value.int IntKind.i64 3)] w70 fun t111 w71 =>
  S25 w71 ∧
  yieldS Tryd.prog S25 (Instr.index 119 t108 t111) fun t112 =>
  dynD Tryd.prog t21 #[t116] w71 fun t117 w72 =>
  S25 w72 ∧
  yieldS Tryd.prog S25 (Instr.build 93 #[(0, t112), (1, t56), (2, t117)]) fun t118 =>
  yieldS Tryd.prog S25 (Instr.makeInterface 93 t118) fun t119 =>
  R t119 w72) (
  V Tryd.prog (do eqGuard .eql 3 (Operand.tmp 59) (Operand.const (Value.int IntKind.i64 7)) t59 (Value.int IntKind.i64 7); binOp .eql 3 t59 (Value.int IntKind.i64 7)) w69 fun t121 w73 =>
  ifD t121 (
  drawD w73 fun S27 w74 =>
  yieldS Tryd.prog S27 (Instr.fieldAt 82 t3 6) fun t124 =>
  yieldS Tryd.prog S27 (Instr.loadAt 3 t124) fun t125 =>
  yieldS Tryd.prog S27 (Instr.fieldAt 82 t3 4) fun t128 =>
  yieldS Tryd.prog S27 (Instr.loadAt 3 t128) fun t129 =>
  yieldS Tryd.prog S27 (Instr.fieldAt 82 t3 5) fun t132 =>
  yieldS Tryd.prog S27 (Instr.loadAt 3 t132) fun t133 =>
  dynD Tryd.prog t21 #[t125] w74 fun t126 w75 =>
  S27 w75 ∧
  dynD Tryd.prog t21 #[t129] w75 fun t130 w76 =>
  S27 w76 ∧
  dynD Tryd.prog t21 #[t133] w76 fun t134 w77 =>
  S27 w77 ∧
  yieldS Tryd.prog S27 (Instr.build 95 #[(0, t56), (1, t126), (2, t130), (3, t134)]) fun t135 =>
  yieldS Tryd.prog S27 (Instr.makeInterface 95 t135) fun t136 =>
  R t136 w77) (
  ∃ J6 : NP 1,
  (V Tryd.prog (do eqGuard .eql 3 (Operand.tmp 59) (Operand.const (Value.int IntKind.i64 8)) t59 (Value.int IntKind.i64 8); binOp .eql 3 t59 (Value.int IntKind.i64 8)) w73 fun t138 w78 =>
  ifD t138 (
  J6 t138 w78) (
  V Tryd.prog (do eqGuard .eql 3 (Operand.tmp 59) (Operand.const (Value.int IntKind.i64 9)) t59 (Value.int IntKind.i64 9); binOp .eql 3 t59 (Value.int IntKind.i64 9)) w78 fun t139 w79 =>
  J6 t139 w79)) ∧
  ∀ (t137 : Value), ∀ w80 : World, J6 t137 w80 → ∀ _f : Env,
  ifD t137 (
  V Tryd.prog (Instr.build 50 #[]) w80 fun t140 w81 =>
  V Tryd.prog (Instr.makeInterface 50 t140) w81 fun t141 w82 =>
  R t141 w82) (
  V Tryd.prog (do eqGuard .eql 3 (Operand.tmp 59) (Operand.const (Value.int IntKind.i64 10)) t59 (Value.int IntKind.i64 10); binOp .eql 3 t59 (Value.int IntKind.i64 10)) w80 fun t143 w83 =>
  ifD t143 (
  V Tryd.prog (Instr.build 97 #[(0, t8)]) w83 fun t145 w84 =>
  V Tryd.prog (Instr.makeInterface 97 t145) w84 fun t146 w85 =>
  R t146 w85) (
  ∃ J7 : NP 1,
  (V Tryd.prog (do eqGuard .eql 3 (Operand.tmp 59) (Operand.const (Value.int IntKind.i64 11)) t59 (Value.int IntKind.i64 11); binOp .eql 3 t59 (Value.int IntKind.i64 11)) w83 fun t148 w86 =>
  ifD t148 (
  J7 t148 w86) (
  V Tryd.prog (do eqGuard .eql 3 (Operand.tmp 59) (Operand.const (Value.int IntKind.i64 12)) t59 (Value.int IntKind.i64 12); binOp .eql 3 t59 (Value.int IntKind.i64 12)) w86 fun t149 w87 =>
  J7 t149 w87)) ∧
  ∀ (t147 : Value), ∀ w88 : World, J7 t147 w88 → ∀ _f : Env,
  ifD t147 (
  V Tryd.prog (Instr.fieldAt 82 t3 6) w88 fun t151 w89 =>
  V Tryd.prog (Instr.loadAt 3 t151) w89 fun t152 w90 =>
  dynD Tryd.prog t21 #[t152] w90 fun t153 w91 =>
  V Tryd.prog (Instr.build 99 #[(0, t153), (1, t8)]) w91 fun t155 w92 =>
  V Tryd.prog (Instr.makeInterface 99 t155) w92 fun t156 w93 =>
  R t156 w93) (
  V Tryd.prog (do eqGuard .eql 3 (Operand.tmp 59) (Operand.const (Value.int IntKind.i64 13)) t59 (Value.int IntKind.i64 13); binOp .eql 3 t59 (Value.int IntKind.i64 13)) w88 fun t158 w94 =>
  ifD t158 (
  V Tryd.prog (Instr.fieldAt 82 t3 3) w94 fun t160 w95 =>
  V Tryd.prog (Instr.loadAt 3 t160) w95 fun t161 w96 =>
  callD Tryd.prog 9 #[t161, (Value.int IntKind.i64 9)] w96 fun t162 w97 =>
  V Tryd.prog (Instr.build 108 #[(0, t56), (1, t162)]) w97 fun t163 w98 =>
  V Tryd.prog (Instr.makeInterface 108 t163) w98 fun t164 w99 =>
  R t164 w99) (
  V Tryd.prog (do eqGuard .eql 3 (Operand.tmp 59) (Operand.const (Value.int IntKind.i64 14)) t59 (Value.int IntKind.i64 14); binOp .eql 3 t59 (Value.int IntKind.i64 14)) w94 fun t166 w100 =>
  ifD t166 (
  drawD w100 fun S39 w101 =>
  yieldS Tryd.prog S39 (Instr.fieldAt 82 t3 3) fun t167 =>
  yieldS Tryd.prog S39 (Instr.loadAt 3 t167) fun t168 =>
  yieldS Tryd.prog S39 (Instr.fieldAt 82 t3 4) fun t171 =>
  yieldS Tryd.prog S39 (Instr.loadAt 3 t171) fun t172 =>
  callD Tryd.prog 9 #[t168, (Value.int IntKind.i64 8)] w101 fun t169 w102 =>
  S39 w102 ∧
  dynD Tryd.prog t21 #[t172] w102 fun t173 w103 =>
  S39 w103 ∧
  yieldS Tryd.prog S39 (Instr.build 110 #[(0, t169), (1, t173)]) fun t174 =>
  yieldS Tryd.prog S39 (Instr.makeInterface 110 t174) fun t175 =>
  R t175 w103) (
  V Tryd.prog (do eqGuard .eql 3 (Operand.tmp 59) (Operand.const (Value.int IntKind.i64 15)) t59 (Value.int IntKind.i64 15); binOp .eql 3 t59 (Value.int IntKind.i64 15)) w100 fun t177 w104 =>
  ifD t177 (
  V Tryd.prog (Instr.build 120 #[(0, (Value.int IntKind.i64 17)), (1, (Value.int IntKind.i64 18)), (2, (Value.int IntKind.i64 27)), (3, (Value.int IntKind.i64 28)), (4, (Value.int IntKind.i64 29)), (5, (Value.int IntKind.i64 30)), (6, (Value.int IntKind.i64 31)), (7, (Value.int IntKind.i64 32)), (8, (Value.int IntKind.i64 36)), (9, (Value.int IntKind.i64 6))]) w104 fun t178 w105 =>
  V Tryd.prog (Instr.alloc 120 true (.tuple #[])) w105 fun t13 w106 =>
  U Tryd.prog (Instr.storeAt 120 t13 t178) w106 fun _ w107 =>
  V Tryd.prog (Instr.fieldAt 82 t3 2) w107 fun t179 w108 =>
  V Tryd.prog (Instr.loadAt 3 t179) w108 fun t180 w109 =>
  callD Tryd.prog 9 #[t180, (Value.int IntKind.i64 10)] w109 fun t181 w110 =>
  V Tryd.prog (Instr.build 120 #[(0, (Value.int IntKind.i64 2)), (1, (Value.int IntKind.i64 2)), (2, (Value.int IntKind.i64 1)), (3, (Value.int IntKind.i64 1)), (4, (Value.int IntKind.i64 2)), (5, (Value.int IntKind.i64 3)), (6, (Value.int IntKind.i64 5)), (7, (Value.int IntKind.i64 5)), (8, (Value.int IntKind.i64 3)), (9, (Value.int IntKind.i64 2))]) w110 fun t182 w111 =>
  V Tryd.prog (Instr.index 120 t182 t181) w111 fun t184 w112 =>
  ∃ (I8 : NP 2) (μ8 : NF 2), I8 (Value.slice none 0 0) (Value.int IntKind.i64 0) w112 ∧
  ∀ (t16 : Value) (t17 : Value), ∀ w113 : World, I8 t16 t17 w113 → ∀ _f : Env,
  V Tryd.prog (binOp .lss 3 t17 t184) w113 fun t187 w114 =>
  ifD t187 (
  V Tryd.prog (Instr.fieldAt 82 t3 4) w114 fun t192 w115 =>
  V Tryd.prog (Instr.loadAt 3 t192) w115 fun t193 w116 =>
  V Tryd.prog (binOp .mul 3 (Value.int IntKind.i64 7) t17) w116 fun t195 w117 =>
  V Tryd.prog (binOp .add 3 t193 t195) w117 fun t196 w118 =>
  dynD Tryd.prog t21 #[t196] w118 fun t197 w119 =>
  V Tryd.prog (Instr.buildSlice 35 1 #[(0, t197)]) w119 fun t198 w120 =>
  V Tryd.prog (Builtin.append_ #[35, 35] 35 #[t16, t198]) w120 fun t199 w121 =>
  V Tryd.prog (binOp .add 3 t17 (Value.int IntKind.i64 1)) w121 fun t189 w122 =>
  I8 t199 t189 w122 ∧ μ8 t199 t189 w122 < μ8 t16 t17 w113) (
  ∃ J9 : NP 1,
  (V Tryd.prog (Instr.fieldAt 82 t3 5) w114 fun t200 w123 =>
  V Tryd.prog (Instr.loadAt 3 t200) w123 fun t201 w124 =>
  V Tryd.prog (binOp .rem 3 t201 (Value.int IntKind.i64 13)) w124 fun t202 w125 =>
  V Tryd.prog (do eqGuard .eql 3 (Operand.tmp 202) (Operand.const (Value.int IntKind.i64 12)) t202 (Value.int IntKind.i64 12); binOp .eql 3 t202 (Value.int IntKind.i64 12)) w125 fun t203 w126 =>
  ifD t203 (
  J9 t9 w126) (
  J9 t16 w126)) ∧
  ∀ (t16_1 : Value), ∀ w127 : World, J9 t16_1 w127 → ∀ _f : Env,
  ∃ J10 : NP 1,
  (V Tryd.prog (Instr.fieldAt 82 t3 6) w127 fun t206 w128 =>
  V Tryd.prog (Instr.loadAt 3 t206) w128 fun t207 w129 =>
  V Tryd.prog (binOp .rem 3 t207 (Value.int IntKind.i64 3)) w129 fun t208 w130 =>
  V Tryd.prog (do eqGuard .eql 3 (Operand.tmp 208) (Operand.const (Value.int IntKind.i64 0)) t208 (Value.int IntKind.i64 0); binOp .eql 3 t208 (Value.int IntKind.i64 0)) w130 fun t209 w131 =>
  ifD t209 (
  J10 (Value.int IntKind.i64 (-1)) w131) (
  J10 t56 w131)) ∧
  ∀ (t18 : Value), ∀ w132 : World, J10 t18 w132 → ∀ _f : Env,
  drawD w132 fun S54 w133 =>
  yieldS Tryd.prog S54 (Instr.indexAt 120 t13 t181) fun t211 =>
  yieldS Tryd.prog S54 (Instr.loadAt 3 t211) fun t212 =>
  yieldS Tryd.prog S54 (Instr.fieldAt 82 t3 5) fun t213 =>
  yieldS Tryd.prog S54 (Instr.loadAt 3 t213) fun t214 =>
  callD Tryd.prog 9 #[t214, (Value.int IntKind.i64 7)] w133 fun t215 w134 =>
  S54 w134 ∧
  yieldS Tryd.prog S54 (Instr.build 112 #[(0, t212), (1, (Value.int IntKind.i64 3)), (2, t215), (3, t18), (4, t16_1)]) fun t218 =>
  yieldS Tryd.prog S54 (Instr.makeInterface 112 t218) fun t219 =>
  R t219 w134)) (
  V Tryd.prog (do eqGuard .eql 3 (Operand.tmp 59) (Operand.const (Value.int IntKind.i64 16)) t59 (Value.int IntKind.i64 16); binOp .eql 3 t59 (Value.int IntKind.i64 16)) w104 fun t221 w135 =>
  ifD t221 (
  ∃ J11 : NP 1,
  (V Tryd.prog (Instr.fieldAt 82 t3 6) w135 fun t223 w136 =>
  V Tryd.prog (Instr.loadAt 3 t223) w136 fun t224 w137 =>
  V Tryd.prog (binOp .rem 3 t224 (Value.int IntKind.i64 3)) w137 fun t225 w138 =>
  V Tryd.prog (do eqGuard .eql 3 (Operand.tmp 225) (Operand.const (Value.int IntKind.i64 0)) t225 (Value.int IntKind.i64 0); binOp .eql 3 t225 (Value.int IntKind.i64 0)) w138 fun t226 w139 =>
  ifD t226 (
  J11 (Value.int IntKind.i64 (-1)) w139) (
  J11 t56 w139)) ∧
  ∀ (t19 : Value), ∀ w140 : World, J11 t19 w140 → ∀ _f : Env,
  V Tryd.prog (Builtin.len_ #[35] 3 #[t9]) w140 fun t229 w141 =>
  V Tryd.prog (Builtin.min_ #[3, 3] 3 #[t229, (Value.int IntKind.i64 4)]) w141 fun t230 w142 =>
  V Tryd.prog (Instr.sliceAt 35 t9 none (some t230) none) w142 fun t231 w143 =>
  V Tryd.prog (Instr.fieldAt 82 t3 4) w143 fun t232 w144 =>
  V Tryd.prog (Instr.loadAt 3 t232) w144 fun t233 w145 =>
  V Tryd.prog (binOp .rem 3 t233 (Value.int IntKind.i64 2)) w145 fun t234 w146 =>
  V Tryd.prog (do eqGuard .eql 3 (Operand.tmp 234) (Operand.const (Value.int IntKind.i64 0)) t234 (Value.int IntKind.i64 0); binOp .eql 3 t234 (Value.int IntKind.i64 0)) w146 fun t235 w147 =>
  ifD t235 (
  V Tryd.prog (Instr.fieldAt 82 t3 3) w147 fun t236 w148 =>
  V Tryd.prog (Instr.loadAt 3 t236) w148 fun t237 w149 =>
  callD Tryd.prog 9 #[t237, (Value.int IntKind.i64 9)] w149 fun t238 w150 =>
  V Tryd.prog (Instr.build 114 #[(0, t238), (1, t19), (2, t231)]) w150 fun t241 w151 =>
  V Tryd.prog (Instr.makeInterface 114 t241) w151 fun t242 w152 =>
  R t242 w152) (
  V Tryd.prog (Instr.fieldAt 82 t3 3) w147 fun t243 w153 =>
  V Tryd.prog (Instr.loadAt 3 t243) w153 fun t244 w154 =>
  callD Tryd.prog 9 #[t244, (Value.int IntKind.i64 5)] w154 fun t245 w155 =>
  V Tryd.prog (Instr.build 116 #[(0, t245), (1, t19), (2, t231)]) w155 fun t248 w156 =>
  V Tryd.prog (Instr.makeInterface 116 t248) w156 fun t249 w157 =>
  R t249 w157)) (
  V Tryd.prog (Instr.fieldAt 82 t3 4) w135 fun t250 w158 =>
  V Tryd.prog (Instr.loadAt 3 t250) w158 fun t251 w159 =>
  V Tryd.prog (binOp .rem 3 t251 (Value.int IntKind.i64 3)) w159 fun t252 w160 =>
  V Tryd.prog (do eqGuard .eql 3 (Operand.tmp 252) (Operand.const (Value.int IntKind.i64 0)) t252 (Value.int IntKind.i64 0); binOp .eql 3 t252 (Value.int IntKind.i64 0)) w160 fun t253 w161 =>
  ifD t253 (
  V Tryd.prog (Instr.build 54 #[(0, (Value.int IntKind.i64 (-1)))]) w161 fun t254 w162 =>
  V Tryd.prog (Instr.makeInterface 54 t254) w162 fun t255 w163 =>
  R t255 w163) (
  V Tryd.prog (Instr.fieldAt 82 t3 4) w161 fun t257 w164 =>
  V Tryd.prog (Instr.loadAt 3 t257) w164 fun t258 w165 =>
  dynD Tryd.prog t21 #[t258] w165 fun t259 w166 =>
  V Tryd.prog (Instr.build 54 #[(0, t259)]) w166 fun t260 w167 =>
  V Tryd.prog (Instr.makeInterface 54 t260) w167 fun t261 w168 =>
  R t261 w168))))))))))))))
theorem F33_eq (t0 : Value) (t1 : Value) (t2 : Value) (w : World) (R : Value → World → Prop) : F33_den t0 t1 t2 w R = vc Tryd.prog F33_ann (Tryd.f33.body.getD .skip) (retE Tryd.prog Tryd.f33.results.toList R) (argEnv [t0, t1, t2]) w := by kernel_rfl
theorem F33_wp {t0 : Value} {t1 : Value} {t2 : Value} {w : World} {R : Value → World → Prop} (h : F33_den t0 t1 t2 w R) : callD Tryd.prog 33 #[t0, t1, t2] w R :=
  callD.of_calls (fn := Tryd.f33) (c := Tryd.f33.body.getD .skip) Tryd.func33 (by kernel_rfl) (by kernel_rfl) (calls_of_vc (args := [t0, t1, t2]) F33_ann mixed Tryd.func33 (by kernel_rfl) (by kernel_rfl) (F33_eq t0 t1 t2 w R ▸ h))

/-- taciturn/taciturnref17.right -/
def F34_ann : Ann := (Ann.seq Ann.leaf (Ann.seq Ann.leaf (Ann.seq Ann.leaf (Ann.join [3, 4, 5, 6, 7, 8, 9, 10, 11, 12, 13, 14, 15, 16, 17, 18, 19, 20, 21, 22, 23, 24, 25, 26, 27, 28, 29, 30, 31, 32, 33, 34, 35, 36, 37, 38, 39, 40, 41, 42, 43, 44, 45, 46, 47, 48, 49, 50, 51, 52, 53, 54, 55, 56, 57, 58, 59, 60, 61, 62, 63, 64, 65, 66, 67, 68, 69, 70, 71, 72, 73, 74, 75, 76, 77, 78, 79, 80, 81, 82, 83, 84, 85, 86, 87, 88, 89, 90, 91, 92, 93, 94, 95, 96, 97, 98, 99, 100, 101, 102, 103, 104, 105, 106, 107, 108, 109, 110, 111, 112, 113, 114, 115, 116, 117, 118, 119, 120, 121, 122, 123, 124] [3, 4] (Ann.seq Ann.leaf (Ann.block (Ann.join [7, 8, 9, 10] [7] (Ann.seq Ann.leaf (Ann.cond Ann.leaf (Ann.seq Ann.leaf (Ann.cond Ann.leaf Ann.leaf)))) (Ann.cond Ann.leaf (Ann.seq Ann.leaf (Ann.cond Ann.leaf (Ann.seq Ann.leaf (Ann.cond (Ann.seq Ann.leaf Ann.leaf) (Ann.seq Ann.leaf (Ann.cond (Ann.seq Ann.leaf Ann.leaf) (Ann.seq Ann.leaf (Ann.cond Ann.leaf (Ann.seq Ann.leaf (Ann.cond Ann.leaf (Ann.seq Ann.leaf (Ann.cond Ann.leaf (Ann.seq Ann.leaf (Ann.cond (Ann.seq Ann.leaf Ann.leaf) (Ann.seq Ann.leaf (Ann.cond (Ann.seq Ann.leaf Ann.leaf) (Ann.seq Ann.leaf (Ann.cond (Ann.seq Ann.leaf Ann.leaf) (Ann.seq Ann.leaf (Ann.cond (Ann.seq Ann.leaf Ann.leaf) (Ann.seq Ann.leaf (Ann.cond (Ann.seq Ann.leaf Ann.leaf) Ann.leaf)))))))))))))))))))))))))) (Ann.seq Ann.leaf Ann.leaf)))))
def F34_den (t0 : Value) (w : World) (R : Value → World → Prop) : Prop :=
  V Tryd.prog (Instr.box 76 t0) w fun t1 w1 =>
  ∃ J1 : NP 2,
  (V Tryd.prog (Instr.fieldAt 76 t1 0) w1 fun t5 w2 =>
  V Tryd.prog (Instr.loadAt 3 t5) w2 fun t6 w3 =>
  ∃ J2 : NP 1,
  (V Tryd.prog (do eqGuard .eql 3 (Operand.tmp 6) (Operand.const (Value.int IntKind.i64 1)) t6 (Value.int IntKind.i64 1); binOp .eql 3 t6 (Value.int IntKind.i64 1)) w3 fun t8 w4 =>
  ifD t8 (
  J2 t8 w4) (
  V Tryd.prog (do eqGuard .eql 3 (Operand.tmp 6) (Operand.const (Value.int IntKind.i64 6)) t6 (Value.int IntKind.i64 6); binOp .eql 3 t6 (Value.int IntKind.i64 6)) w4 fun t9 w5 =>
  ifD t9 (
  J2 t9 w5) (
  V Tryd.prog (do eqGuard .eql 3 (Operand.tmp 6) (Operand.const (Value.int IntKind.i64 7)) t6 (Value.int IntKind.i64 7); binOp .eql 3 t6 (Value.int IntKind.i64 7)) w5 fun t10 w6 =>
  J2 t10 w6))) ∧
  ∀ (t7 : Value), ∀ w7 : World, J2 t7 w7 → ∀ _f : Env,
  ifD t7 (
  J1 (Value.int IntKind.i64 0) (Value.bool true) w7) (
  V Tryd.prog (do eqGuard .eql 3 (Operand.tmp 6) (Operand.const (Value.int IntKind.i64 2)) t6 (Value.int IntKind.i64 2); binOp .eql 3 t6 (Value.int IntKind.i64 2)) w7 fun t12 w8 =>
  ifD t12 (
  J1 (Value.int IntKind.i64 1) (Value.bool true) w8) (
  V Tryd.prog (do eqGuard .eql 3 (Operand.tmp 6) (Operand.const (Value.int IntKind.i64 3)) t6 (Value.int IntKind.i64 3); binOp .eql 3 t6 (Value.int IntKind.i64 3)) w8 fun t14 w9 =>
  ifD t14 (
  V Tryd.prog (Instr.fieldAt 76 t1 2) w9 fun t15 w10 =>
  V Tryd.prog (Instr.loadAt 3 t15) w10 fun t16 w11 =>
  V Tryd.prog (binOp .geq 3 t16 (Value.int IntKind.i64 6)) w11 fun t17 w12 =>
  gd t17 true (fun K => V Tryd.prog (Instr.fieldAt 76 t1 2) w12 K) w12 fun t19 w13 =>
  gd t17 true (fun K => V Tryd.prog (Instr.loadAt 3 t19) w13 K) w13 fun t20 w14 =>
  gd t17 true (fun K => V Tryd.prog (binOp .leq 3 t20 (Value.int IntKind.i64 14)) w14 K) w14 fun t21 w15 =>
  pickD t17 t21 (Value.bool false) fun t22 =>
  gd t22 false (fun K => V Tryd.prog (Instr.fieldAt 76 t1 2) w15 K) w15 fun t24 w17 =>
  gd t22 false (fun K => V Tryd.prog (Instr.loadAt 3 t24) w17 K) w17 fun t25 w18 =>
  gd t22 false (fun K => V Tryd.prog (do eqGuard .eql 3 (Operand.tmp 25) (Operand.const (Value.int IntKind.i64 19)) t25 (Value.int IntKind.i64 19); binOp .eql 3 t25 (Value.int IntKind.i64 19)) w18 K) w18 fun t26 w19 =>
  pickD t22 (Value.bool true) t26 fun t27 =>
  gd t27 false (fun K => V Tryd.prog (Instr.fieldAt 76 t1 2) w19 K) w19 fun t29 w21 =>
  gd t27 false (fun K => V Tryd.prog (Instr.loadAt 3 t29) w21 K) w21 fun t30 w22 =>
  gd t27 false (fun K => V Tryd.prog (do eqGuard .eql 3 (Operand.tmp 30) (Operand.const (Value.int IntKind.i64 20)) t30 (Value.int IntKind.i64 20); binOp .eql 3 t30 (Value.int IntKind.i64 20)) w22 K) w22 fun t31 w23 =>
  pickD t27 (Value.bool true) t31 fun t32 =>
  gd t32 false (fun K => V Tryd.prog (Instr.fieldAt 76 t1 2) w23 K) w23 fun t34 w25 =>
  gd t32 false (fun K => V Tryd.prog (Instr.loadAt 3 t34) w25 K) w25 fun t35 w26 =>
  gd t32 false (fun K => V Tryd.prog (do eqGuard .eql 3 (Operand.tmp 35) (Operand.const (Value.int IntKind.i64 21)) t35 (Value.int IntKind.i64 21); binOp .eql 3 t35 (Value.int IntKind.i64 21)) w26 K) w26 fun t36 w27 =>
  pickD t32 (Value.bool true) t36 fun t37 =>
  J1 (Value.int IntKind.i64 2) t37 w27) (
  V Tryd.prog (do eqGuard .eql 3 (Operand.tmp 6) (Operand.const (Value.int IntKind.i64 4)) t6 (Value.int IntKind.i64 4); binOp .eql 3 t6 (Value.int IntKind.i64 4)) w9 fun t39 w29 =>
  ifD t39 (
  V Tryd.prog (Instr.fieldAt 76 t1 2) w29 fun t40 w30 =>
  V Tryd.prog (Instr.loadAt 3 t40) w30 fun t41 w31 =>
  V Tryd.prog (do eqGuard .eql 3 (Operand.tmp 41) (Operand.const (Value.int IntKind.i64 15)) t41 (Value.int IntKind.i64 15); binOp .eql 3 t41 (Value.int IntKind.i64 15)) w31 fun t42 w32 =>
  gd t42 false (fun K => V Tryd.prog (Instr.fieldAt 76 t1 2) w32 K) w32 fun t44 w33 =>
  gd t42 false (fun K => V Tryd.prog (Instr.loadAt 3 t44) w33 K) w33 fun t45 w34 =>
  gd t42 false (fun K => V Tryd.prog (do eqGuard .eql 3 (Operand.tmp 45) (Operand.const (Value.int IntKind.i64 16)) t45 (Value.int IntKind.i64 16); binOp .eql 3 t45 (Value.int IntKind.i64 16)) w34 K) w34 fun t46 w35 =>
  pickD t42 (Value.bool true) t46 fun t47 =>
  gd t47 false (fun K => V Tryd.prog (Instr.fieldAt 76 t1 2) w35 K) w35 fun t49 w37 =>
  gd t47 false (fun K => V Tryd.prog (Instr.loadAt 3 t49) w37 K) w37 fun t50 w38 =>
  gd t47 false (fun K => V Tryd.prog (do eqGuard .eql 3 (Operand.tmp 50) (Operand.const (Value.int IntKind.i64 26)) t50 (Value.int IntKind.i64 26); binOp .eql 3 t50 (Value.int IntKind.i64 26)) w38 K) w38 fun t51 w39 =>
  pickD t47 (Value.bool true) t51 fun t52 =>
  J1 (Value.int IntKind.i64 1) t52 w39) (
  V Tryd.prog (do eqGuard .eql 3 (Operand.tmp 6) (Operand.const (Value.int IntKind.i64 5)) t6 (Value.int IntKind.i64 5); binOp .eql 3 t6 (Value.int IntKind.i64 5)) w29 fun t54 w41 =>
  ifD t54 (
  J1 (Value.int IntKind.i64 3) (Value.bool true) w41) (
  V Tryd.prog (do eqGuard .eql 3 (Operand.tmp 6) (Operand.const (Value.int IntKind.i64 8)) t6 (Value.int IntKind.i64 8); binOp .eql 3 t6 (Value.int IntKind.i64 8)) w41 fun t56 w42 =>
  ifD t56 (
  J1 (Value.int IntKind.i64 1) (Value.bool true) w42) (
  V Tryd.prog (do eqGuard .eql 3 (Operand.tmp 6) (Operand.const (Value.int IntKind.i64 9)) t6 (Value.int IntKind.i64 9); binOp .eql 3 t6 (Value.int IntKind.i64 9)) w42 fun t58 w43 =>
  ifD t58 (
  V Tryd.prog (Instr.fieldAt 76 t1 3) w43 fun t59 w44 =>
  V Tryd.prog (Instr.loadAt 3 t59) w44 fun t60 w45 =>
  V Tryd.prog (binOp .geq 3 t60 (Value.int IntKind.i64 0)) w45 fun t61 w46 =>
  gd t61 true (fun K => V Tryd.prog (Instr.fieldAt 76 t1 3) w46 K) w46 fun t63 w47 =>
  gd t61 true (fun K => V Tryd.prog (Instr.loadAt 3 t63) w47 K) w47 fun t64 w48 =>
  gd t61 true (fun K => V Tryd.prog (binOp .lss 3 t64 (Value.int IntKind.i64 8)) w48 K) w48 fun t65 w49 =>
  pickD t61 t65 (Value.bool false) fun t66 =>
  J1 (Value.int IntKind.i64 0) t66 w49) (
  V Tryd.prog (do eqGuard .eql 3 (Operand.tmp 6) (Operand.const (Value.int IntKind.i64 10)) t6 (Value.int IntKind.i64 10); binOp .eql 3 t6 (Value.int IntKind.i64 10)) w43 fun t68 w51 =>
  ifD t68 (
  V Tryd.prog (Instr.fieldAt 76 t1 3) w51 fun t69 w52 =>
  V Tryd.prog (Instr.loadAt 3 t69) w52 fun t70 w53 =>
  V Tryd.prog (binOp .geq 3 t70 (Value.int IntKind.i64 0)) w53 fun t71 w54 =>
  gd t71 true (fun K => V Tryd.prog (Instr.fieldAt 76 t1 3) w54 K) w54 fun t73 w55 =>
  gd t71 true (fun K => V Tryd.prog (Instr.loadAt 3 t73) w55 K) w55 fun t74 w56 =>
  gd t71 true (fun K => V Tryd.prog (binOp .lss 3 t74 (Value.int IntKind.i64 8)) w56 K) w56 fun t75 w57 =>
  pickD t71 t75 (Value.bool false) fun t76 =>
  J1 (Value.int IntKind.i64 1) t76 w57) (
  V Tryd.prog (do eqGuard .eql 3 (Operand.tmp 6) (Operand.const (Value.int IntKind.i64 11)) t6 (Value.int IntKind.i64 11); binOp .eql 3 t6 (Value.int IntKind.i64 11)) w51 fun t78 w59 =>
  ifD t78 (
  V Tryd.prog (Instr.fieldAt 76 t1 2) w59 fun t79 w60 =>
  V Tryd.prog (Instr.loadAt 3 t79) w60 fun t80 w61 =>
  callD Tryd.prog 51 #[t80] w61 fun t81 w62 =>
  V Tryd.prog (binOp .geq 3 t81 (Value.int IntKind.i64 0)) w62 fun t83 w63 =>
  J1 t81 t83 w63) (
  V Tryd.prog (do eqGuard .eql 3 (Operand.tmp 6) (Operand.const (Value.int IntKind.i64 12)) t6 (Value.int IntKind.i64 12); binOp .eql 3 t6 (Value.int IntKind.i64 12)) w59 fun t85 w64 =>
  ifD t85 (
  V Tryd.prog (Instr.fieldAt 76 t1 7) w64 fun t86 w65 =>
  V Tryd.prog (Instr.loadAt 35 t86) w65 fun t87 w66 =>
  V Tryd.prog (Builtin.len_ #[35] 3 #[t87]) w66 fun t88 w67 =>
  V Tryd.prog (Instr.fieldAt 76 t1 3) w67 fun t89 w68 =>
  V Tryd.prog (Instr.loadAt 3 t89) w68 fun t90 w69 =>
  V Tryd.prog (binOp .geq 3 t90 (Value.int IntKind.i64 0)) w69 fun t91 w70 =>
  gd t91 true (fun K => V Tryd.prog (Instr.fieldAt 76 t1 3) w70 K) w70 fun t93 w71 =>
  gd t91 true (fun K => V Tryd.prog (Instr.loadAt 3 t93) w71 K) w71 fun t94 w72 =>
  gd t91 true (fun K => V Tryd.prog (binOp .lss 3 t94 (Value.int IntKind.i64 8)) w72 K) w72 fun t95 w73 =>
  pickD t91 t95 (Value.bool false) fun t96 =>
  gd t96 true (fun K => K t88 w73) w73 fun t98 w75 =>
  gd t96 true (fun K => V Tryd.prog (binOp .leq 3 t98 (Value.int IntKind.i64 4)) w75 K) w75 fun t99 w76 =>
  pickD t96 t99 (Value.bool false) fun t100 =>
  J1 t88 t100 w76) (
  V Tryd.prog (do eqGuard .eql 3 (Operand.tmp 6) (Operand.const (Value.int IntKind.i64 13)) t6 (Value.int IntKind.i64 13); binOp .eql 3 t6 (Value.int IntKind.i64 13)) w64 fun t102 w78 =>
  ifD t102 (
  V Tryd.prog (Instr.fieldAt 76 t1 7) w78 fun t103 w79 =>
  V Tryd.prog (Instr.loadAt 35 t103) w79 fun t104 w80 =>
  V Tryd.prog (Builtin.len_ #[35] 3 #[t104]) w80 fun t105 w81 =>
  V Tryd.prog (Instr.fieldAt 76 t1 3) w81 fun t106 w82 =>
  V Tryd.prog (Instr.loadAt 3 t106) w82 fun t107 w83 =>
  V Tryd.prog (binOp .geq 3 t107 (Value.int IntKind.i64 0)) w83 fun t108 w84 =>
  gd t108 true (fun K => V Tryd.prog (Instr.fieldAt 76 t1 3) w84 K) w84 fun t110 w85 =>
  gd t108 true (fun K => V Tryd.prog (Instr.loadAt 3 t110) w85 K) w85 fun t111 w86 =>
  gd t108 true (fun K => V Tryd.prog (binOp .lss 3 t111 (Value.int IntKind.i64 4)) w86 K) w86 fun t112 w87 =>
  pickD t108 t112 (Value.bool false) fun t113 =>
  gd t113 true (fun K => K t105 w87) w87 fun t115 w89 =>
  gd t113 true (fun K => V Tryd.prog (binOp .leq 3 t115 (Value.int IntKind.i64 4)) w89 K) w89 fun t116 w90 =>
  pickD t113 t116 (Value.bool false) fun t117 =>
  J1 t105 t117 w90) (
  V Tryd.prog (do eqGuard .eql 3 (Operand.tmp 6) (Operand.const (Value.int IntKind.i64 14)) t6 (Value.int IntKind.i64 14); binOp .eql 3 t6 (Value.int IntKind.i64 14)) w78 fun t119 w92 =>
  ifD t119 (
  V Tryd.prog (Instr.fieldAt 76 t1 7) w92 fun t120 w93 =>
  V Tryd.prog (Instr.loadAt 35 t120) w93 fun t121 w94 =>
  V Tryd.prog (Builtin.len_ #[35] 3 #[t121]) w94 fun t122 w95 =>
  V Tryd.prog (binOp .leq 3 t122 (Value.int IntKind.i64 1)) w95 fun t124 w96 =>
  J1 t122 t124 w96) (
  J1 (Value.int IntKind.i64 0) (Value.bool false) w92))))))))))))) ∧
  ∀ (t3 : Value) (t4 : Value), ∀ w97 : World, J1 t3 t4 w97 → ∀ _f : Env,
  gd t4 true (fun K => V Tryd.prog (Instr.fieldAt 76 t1 7) w97 K) w97 fun t127 w98 =>
  gd t4 true (fun K => V Tryd.prog (Instr.loadAt 35 t127) w98 K) w98 fun t128 w99 =>
  gd t4 true (fun K => V Tryd.prog (Builtin.len_ #[35] 3 #[t128]) w99 K) w99 fun t129 w100 =>
  gd t4 true (fun K => K t3 w100) w100 fun t130 w101 =>
  gd t4 true (fun K => V Tryd.prog (do eqGuard .eql 3 (Operand.tmp 129) (Operand.tmp 130) t129 t130; binOp .eql 3 t129 t130) w101 K) w101 fun t131 w102 =>
  pickD t4 t131 (Value.bool false) fun t132 =>
  R t132 w102
theorem F34_eq (t0 : Value) (w : World) (R : Value → World → Prop) : F34_den t0 w R = vc Tryd.prog F34_ann (Tryd.f34.body.getD .skip) (retE Tryd.prog Tryd.f34.results.toList R) (argEnv [t0]) w := by kernel_rfl
theorem F34_wp {t0 : Value} {w : World} {R : Value → World → Prop} (h : F34_den t0 w R) : callD Tryd.prog 34 #[t0] w R :=
  callD.of_calls (fn := Tryd.f34) (c := Tryd.f34.body.getD .skip) Tryd.func34 (by kernel_rfl) (by kernel_rfl) (calls_of_vc (args := [t0]) F34_ann mixed Tryd.func34 (by kernel_rfl) (by kernel_rfl) (F34_eq t0 w R ▸ h))

/-- taciturn/taciturnref17.writes -/
def F35_ann : Ann := (Ann.seq Ann.leaf (Ann.seq (Ann.seq Ann.leaf (Ann.block (Ann.join [5, 6, 7, 8, 9, 10, 11] [5] (Ann.seq Ann.leaf (Ann.cond Ann.leaf (Ann.seq Ann.leaf (Ann.cond Ann.leaf (Ann.seq Ann.leaf (Ann.cond Ann.leaf (Ann.seq Ann.leaf (Ann.cond Ann.leaf (Ann.seq Ann.leaf (Ann.cond Ann.leaf Ann.leaf)))))))))) (Ann.cond (Ann.seq Ann.leaf Ann.leaf) (Ann.seq (Ann.seq Ann.leaf (Ann.cond Ann.leaf (Ann.seq Ann.leaf (Ann.cond Ann.leaf Ann.leaf)))) (Ann.cond (Ann.seq Ann.leaf Ann.leaf) Ann.leaf)))))) (Ann.seq Ann.leaf Ann.leaf)))
def F35_den (t0 : Value) (w : World) (R : Value → World → Prop) : Prop :=
  V Tryd.prog (Instr.box 76 t0) w fun t1 w1 =>
  V Tryd.prog (Instr.fieldAt 76 t1 0) w1 fun t3 w2 =>
  V Tryd.prog (Instr.loadAt 3 t3) w2 fun t4 w3 =>
  ∃ J1 : NP 1,
  (V Tryd.prog (do eqGuard .eql 3 (Operand.tmp 4) (Operand.const (Value.int IntKind.i64 1)) t4 (Value.int IntKind.i64 1); binOp .eql 3 t4 (Value.int IntKind.i64 1)) w3 fun t6 w4 =>
  ifD t6 (
  J1 t6 w4) (
  V Tryd.prog (do eqGuard .eql 3 (Operand.tmp 4) (Operand.const (Value.int IntKind.i64 2)) t4 (Value.int IntKind.i64 2); binOp .eql 3 t4 (Value.int IntKind.i64 2)) w4 fun t7 w5 =>
  ifD t7 (
  J1 t7 w5) (
  V Tryd.prog (do eqGuard .eql 3 (Operand.tmp 4) (Operand.const (Value.int IntKind.i64 3)) t4 (Value.int IntKind.i64 3); binOp .eql 3 t4 (Value.int IntKind.i64 3)) w5 fun t8 w6 =>
  ifD t8 (
  J1 t8 w6) (
  V Tryd.prog (do eqGuard .eql 3 (Operand.tmp 4) (Operand.const (Value.int IntKind.i64 4)) t4 (Value.int IntKind.i64 4); binOp .eql 3 t4 (Value.int IntKind.i64 4)) w6 fun t9 w7 =>
  ifD t9 (
  J1 t9 w7) (
  V Tryd.prog (do eqGuard .eql 3 (Operand.tmp 4) (Operand.const (Value.int IntKind.i64 5)) t4 (Value.int IntKind.i64 5); binOp .eql 3 t4 (Value.int IntKind.i64 5)) w7 fun t10 w8 =>
  ifD t10 (
  J1 t10 w8) (
  V Tryd.prog (do eqGuard .eql 3 (Operand.tmp 4) (Operand.const (Value.int IntKind.i64 9)) t4 (Value.int IntKind.i64 9); binOp .eql 3 t4 (Value.int IntKind.i64 9)) w8 fun t11 w9 =>
  J1 t11 w9)))))) ∧
  ∀ (t5 : Value), ∀ w10 : World, J1 t5 w10 → ∀ _f : Env,
  ifD t5 (
  R (Value.int IntKind.i64 1) w10) (
  V Tryd.prog (do eqGuard .eql 3 (Operand.tmp 4) (Operand.const (Value.int IntKind.i64 11)) t4 (Value.int IntKind.i64 11); binOp .eql 3 t4 (Value.int IntKind.i64 11)) w10 fun t13 w11 =>
  ifD t13 (
  ifD t13 (
  R (Value.int IntKind.i64 0) w11) (
  R (Value.int IntKind.i64 (-1)) w11)) (
  V Tryd.prog (do eqGuard .eql 3 (Operand.tmp 4) (Operand.const (Value.int IntKind.i64 12)) t4 (Value.int IntKind.i64 12); binOp .eql 3 t4 (Value.int IntKind.i64 12)) w11 fun t14 w12 =>
  ifD t14 (
  ifD t14 (
  R (Value.int IntKind.i64 0) w12) (
  R (Value.int IntKind.i64 (-1)) w12)) (
  V Tryd.prog (do eqGuard .eql 3 (Operand.tmp 4) (Operand.const (Value.int IntKind.i64 13)) t4 (Value.int IntKind.i64 13); binOp .eql 3 t4 (Value.int IntKind.i64 13)) w12 fun t15 w13 =>
  ifD t15 (
  R (Value.int IntKind.i64 0) w13) (
  R (Value.int IntKind.i64 (-1)) w13))))
theorem F35_eq (t0 : Value) (w : World) (R : Value → World → Prop) : F35_den t0 w R = vc Tryd.prog F35_ann (Tryd.f35.body.getD .skip) (retE Tryd.prog Tryd.f35.results.toList R) (argEnv [t0]) w := by kernel_rfl
theorem F35_wp {t0 : Value} {w : World} {R : Value → World → Prop} (h : F35_den t0 w R) : callD Tryd.prog 35 #[t0] w R :=
  callD.of_calls (fn := Tryd.f35) (c := Tryd.f35.body.getD .skip) Tryd.func35 (by kernel_rfl) (by kernel_rfl) (calls_of_vc (args := [t0]) F35_ann mixed Tryd.func35 (by kernel_rfl) (by kernel_rfl) (F35_eq t0 w R ▸ h))

/-- taciturn/taciturnref17.Next -/
def F36_ann : Ann := (Ann.seq Ann.leaf (Ann.seq (Ann.seq Ann.leaf (Ann.block (Ann.join [7, 8, 9] [7] (Ann.seq Ann.leaf (Ann.cond Ann.leaf Ann.leaf)) (Ann.cond (Ann.seq Ann.leaf Ann.leaf) (Ann.seq Ann.leaf (Ann.cond (Ann.seq Ann.leaf Ann.leaf) (Ann.seq Ann.leaf (Ann.cond (Ann.seq (Ann.seq Ann.leaf (Ann.cond (Ann.seq Ann.leaf Ann.leaf) Ann.leaf)) (Ann.seq Ann.leaf Ann.leaf)) Ann.leaf)))))))) (Ann.seq Ann.leaf Ann.leaf)))
def F36_den (t0 : Value) (t1 : Value) (w : World) (R : Value → World → Prop) : Prop :=
  V Tryd.prog (Instr.box 76 t0) w fun t2 w1 =>
  V Tryd.prog (Instr.fieldAt 76 t2 0) w1 fun t5 w2 =>
  V Tryd.prog (Instr.loadAt 3 t5) w2 fun t6 w3 =>
  ∃ J1 : NP 1,
  (V Tryd.prog (do eqGuard .eql 3 (Operand.tmp 6) (Operand.const (Value.int IntKind.i64 0)) t6 (Value.int IntKind.i64 0); binOp .eql 3 t6 (Value.int IntKind.i64 0)) w3 fun t8 w4 =>
  ifD t8 (
  J1 t8 w4) (
  V Tryd.prog (do eqGuard .eql 3 (Operand.tmp 6) (Operand.const (Value.int IntKind.i64 14)) t6 (Value.int IntKind.i64 14); binOp .eql 3 t6 (Value.int IntKind.i64 14)) w4 fun t9 w5 =>
  J1 t9 w5)) ∧
  ∀ (t7 : Value), ∀ w6 : World, J1 t7 w6 → ∀ _f : Env,
  ifD t7 (
  R (Value.slice none 0 0) w6) (
  V Tryd.prog (do eqGuard .eql 3 (Operand.tmp 6) (Operand.const (Value.int IntKind.i64 7)) t6 (Value.int IntKind.i64 7); binOp .eql 3 t6 (Value.int IntKind.i64 7)) w6 fun t11 w7 =>
  ifD t11 (
  V Tryd.prog (Instr.fieldAt 76 t2 6) w7 fun t12 w8 =>
  V Tryd.prog (Instr.loadAt 3 t12) w8 fun t13 w9 =>
  V Tryd.prog (Instr.buildSlice 35 1 #[(0, t13)]) w9 fun t14 w10 =>
  R t14 w10) (
  V Tryd.prog (do eqGuard .eql 3 (Operand.tmp 6) (Operand.const (Value.int IntKind.i64 8)) t6 (Value.int IntKind.i64 8); binOp .eql 3 t6 (Value.int IntKind.i64 8)) w7 fun t16 w11 =>
  ifD t16 (
  V Tryd.prog (Instr.fieldAt 76 t2 6) w11 fun t17 w12 =>
  V Tryd.prog (Instr.loadAt 3 t17) w12 fun t18 w13 =>
  V Tryd.prog (binOp .add 3 t1 (Value.int IntKind.i64 1)) w13 fun t20 w14 =>
  V Tryd.prog (do eqGuard .eql 3 (Operand.tmp 18) (Operand.tmp 20) t18 t20; binOp .eql 3 t18 t20) w14 fun t21 w15 =>
  ifD t21 (
  V Tryd.prog (binOp .add 3 t1 (Value.int IntKind.i64 1)) w15 fun t23 w16 =>
  V Tryd.prog (Instr.buildSlice 35 1 #[(0, t23)]) w16 fun t24 w17 =>
  R t24 w17) (
  V Tryd.prog (binOp .add 3 t1 (Value.int IntKind.i64 1)) w15 fun t26 w18 =>
  V Tryd.prog (Instr.fieldAt 76 t2 6) w18 fun t27 w19 =>
  V Tryd.prog (Instr.loadAt 3 t27) w19 fun t28 w20 =>
  V Tryd.prog (Instr.buildSlice 35 2 #[(0, t26), (1, t28)]) w20 fun t29 w21 =>
  R t29 w21)) (
  V Tryd.prog (binOp .add 3 t1 (Value.int IntKind.i64 1)) w11 fun t31 w22 =>
  V Tryd.prog (Instr.buildSlice 35 1 #[(0, t31)]) w22 fun t32 w23 =>
  R t32 w23)))
theorem F36_eq (t0 : Value) (t1 : Value) (w : World) (R : Value → World → Prop) : F36_den t0 t1 w R = vc Tryd.prog F36_ann (Tryd.f36.body.getD .skip) (retE Tryd.prog Tryd.f36.results.toList R) (argEnv [t0, t1]) w := by kernel_rfl
theorem F36_wp {t0 : Value} {t1 : Value} {w : World} {R : Value → World → Prop} (h : F36_den t0 t1 w R) : callD Tryd.prog 36 #[t0, t1] w R :=
  callD.of_calls (fn := Tryd.f36) (c := Tryd.f36.body.getD .skip) Tryd.func36 (by kernel_rfl) (by kernel_rfl) (calls_of_vc (args := [t0, t1]) F36_ann mixed Tryd.func36 (by kernel_rfl) (by kernel_rfl) (F36_eq t0 t1 w R ▸ h))

/-- (taciturn/ir.Program).right -/
def F37_ann : Ann := (Ann.seq Ann.leaf (Ann.seq (Ann.seq Ann.leaf (Ann.cond (Ann.seq Ann.leaf Ann.leaf) Ann.leaf)) (Ann.seq (Ann.seq Ann.leaf (Ann.block (Ann.loop [6, 8, 18, 19, 20, 21, 22, 23, 24, 25, 26, 27] [18] (Ann.seq Ann.leaf (Ann.seq (Ann.cond Ann.leaf Ann.leaf) (Ann.seq (Ann.block (Ann.seq Ann.leaf (Ann.seq Ann.leaf (Ann.cond (Ann.seq Ann.leaf Ann.leaf) Ann.leaf)))) Ann.leaf)))))) (Ann.seq (Ann.seq Ann.leaf (Ann.block (Ann.loop [6, 10, 32, 33, 34, 35, 36, 37, 38, 39, 40, 41, 42] [32] (Ann.seq Ann.leaf (Ann.seq (Ann.cond Ann.leaf Ann.leaf) (Ann.seq (Ann.block (Ann.seq Ann.leaf (Ann.seq Ann.leaf (Ann.cond (Ann.seq Ann.leaf Ann.leaf) Ann.leaf)))) Ann.leaf)))))) (Ann.seq Ann.leaf (Ann.seq Ann.leaf Ann.leaf))))))
def F37_den (t0 : Value) (t1 : Value) (t2 : Value) (w : World) (R : Value → World → Prop) : Prop :=
  V Tryd.prog (Instr.box 26 t0) w fun t3 w1 =>
  callD Tryd.prog 52 #[t1] w1 fun t13 w2 =>
  V Tryd.prog (Op.unary UnOp.not t13) w2 fun t14 w3 =>
  ifD t14 (
  R (Value.bool false) w3) (
  callD Tryd.prog 40 #[t1] w3 fun t16 w4 =>
  V Tryd.prog (Builtin.len_ #[35] 3 #[t16]) w4 fun t17 w5 =>
  ∃ (I1 : NP 1) (μ1 : NF 1), I1 (Value.int IntKind.i64 0) w5 ∧
  ∀ (t18 : Value), ∀ w6 : World, I1 t18 w6 → ∀ _f : Env,
  V Tryd.prog (binOp .lss 3 t18 t17) w6 fun t19 w7 =>
  ifD t19 (
  V Tryd.prog (Instr.indexAt 35 t16 t18) w7 fun t20 w8 =>
  V Tryd.prog (Instr.loadAt 3 t20) w8 fun t21 w9 =>
  V Tryd.prog (Instr.fieldAt 26 t3 1) w9 fun t23 w10 =>
  V Tryd.prog (Instr.loadAt 3 t23) w10 fun t24 w11 =>
  callD Tryd.prog 23 #[t21, t24] w11 fun t25 w12 =>
  V Tryd.prog (Op.unary UnOp.not t25) w12 fun t26 w13 =>
  ifD t26 (
  R (Value.bool false) w13) (
  V Tryd.prog (binOp .add 3 t18 (Value.int IntKind.i64 1)) w13 fun t27 w14 =>
  I1 t27 w14 ∧ μ1 t27 w14 < μ1 t18 w6)) (
  callD Tryd.prog 41 #[t1, t2] w7 fun t30 w15 =>
  V Tryd.prog (Builtin.len_ #[35] 3 #[t30]) w15 fun t31 w16 =>
  ∃ (I2 : NP 1) (μ2 : NF 1), I2 (Value.int IntKind.i64 0) w16 ∧
  ∀ (t32 : Value), ∀ w17 : World, I2 t32 w17 → ∀ _f : Env,
  V Tryd.prog (binOp .lss 3 t32 t31) w17 fun t33 w18 =>
  ifD t33 (
  V Tryd.prog (Instr.indexAt 35 t30 t32) w18 fun t34 w19 =>
  V Tryd.prog (Instr.loadAt 3 t34) w19 fun t35 w20 =>
  V Tryd.prog (Instr.fieldAt 26 t3 2) w20 fun t37 w21 =>
  V Tryd.prog (Instr.loadAt 24 t37) w21 fun t38 w22 =>
  V Tryd.prog (Builtin.len_ #[24] 3 #[t38]) w22 fun t39 w23 =>
  callD Tryd.prog 23 #[t35, t39] w23 fun t40 w24 =>
  V Tryd.prog (Op.unary UnOp.not t40) w24 fun t41 w25 =>
  ifD t41 (
  R (Value.bool false) w25) (
  V Tryd.prog (binOp .add 3 t32 (Value.int IntKind.i64 1)) w25 fun t42 w26 =>
  I2 t42 w26 ∧ μ2 t42 w26 < μ2 t32 w17)) (
  callD Tryd.prog 39 #[t1] w18 fun t44 w27 =>
  V Tryd.prog (Instr.fieldAt 26 t3 1) w27 fun t46 w28 =>
  V Tryd.prog (Instr.loadAt 3 t46) w28 fun t47 w29 =>
  callD Tryd.prog 23 #[t44, t47] w29 fun t48 w30 =>
  gd t48 false (fun K => K t44 w30) w30 fun t50 w31 =>
  gd t48 false (fun K => V Tryd.prog (do eqGuard .eql 3 (Operand.tmp 50) (Operand.const (Value.int IntKind.i64 (-1))) t50 (Value.int IntKind.i64 (-1)); binOp .eql 3 t50 (Value.int IntKind.i64 (-1))) w31 K) w31 fun t51 w32 =>
  gd t48 false (fun K => K t51 w32) w32 fun t52 w33 =>
  gd t52 true (fun K => K t1 w33) w33 fun t53 w34 =>
  gd t52 true (fun K => callD Tryd.prog 53 #[t53] w34 K) w34 fun t54 w35 =>
  gd t48 false (fun K => pickD t52 t54 (Value.bool false) fun v => K v w35) w35 fun t55 w36 =>
  pickD t48 (Value.bool true) t55 fun t56 =>
  R t56 w36)))
theorem F37_eq (t0 : Value) (t1 : Value) (t2 : Value) (w : World) (R : Value → World → Prop) : F37_den t0 t1 t2 w R = vc Tryd.prog F37_ann (Tryd.f37.body.getD .skip) (retE Tryd.prog Tryd.f37.results.toList R) (argEnv [t0, t1, t2]) w := by kernel_rfl
theorem F37_wp {t0 : Value} {t1 : Value} {t2 : Value} {w : World} {R : Value → World → Prop} (h : F37_den t0 t1 t2 w R) : callD Tryd.prog 37 #[t0, t1, t2] w R :=
  callD.of_calls (fn := Tryd.f37) (c := Tryd.f37.body.getD .skip) Tryd.func37 (by kernel_rfl) (by kernel_rfl) (calls_of_vc (args := [t0, t1, t2]) F37_ann mixed Tryd.func37 (by kernel_rfl) (by kernel_rfl) (F37_eq t0 t1 t2 w R ▸ h))

/-- slices.Clone[[]bool,bool] -/
def F38_ann : Ann := (Ann.seq Ann.leaf (Ann.seq (Ann.seq Ann.leaf (Ann.cond (Ann.seq Ann.leaf Ann.leaf) Ann.leaf)) (Ann.seq Ann.leaf Ann.leaf)))
def F38_den (t0 : Value) (w : World) (R : Value → World → Prop) : Prop :=
  V Tryd.prog (do eqGuard .eql 28 (Operand.tmp 3) (Operand.const (Value.slice none 0 0)) t0 (Value.slice none 0 0); binOp .eql 28 t0 (Value.slice none 0 0)) w fun t4 w1 =>
  ifD t4 (
  R (Value.slice none 0 0) w1) (
  V Tryd.prog (Instr.buildSlice 28 0 #[]) w1 fun t5 w2 =>
  V Tryd.prog (Builtin.append_ #[28, 28] 28 #[t5, t0]) w2 fun t7 w3 =>
  R t7 w3)
theorem F38_eq (t0 : Value) (w : World) (R : Value → World → Prop) : F38_den t0 w R = vc Tryd.prog F38_ann (Tryd.f38.body.getD .skip) (retE Tryd.prog Tryd.f38.results.toList R) (argEnv [t0]) w := by kernel_rfl
theorem F38_wp {t0 : Value} {w : World} {R : Value → World → Prop} (h : F38_den t0 w R) : callD Tryd.prog 38 #[t0] w R :=
  callD.of_calls (fn := Tryd.f38) (c := Tryd.f38.body.getD .skip) Tryd.func38 (by kernel_rfl) (by kernel_rfl) (calls_of_vc (args := [t0]) F38_ann mixed Tryd.func38 (by kernel_rfl) (by kernel_rfl) (F38_eq t0 w R ▸ h))

/-- taciturn/ir.Def -/
def F39_ann : Ann := (Ann.seq Ann.leaf (Ann.seq (Ann.seq Ann.leaf (Ann.block (Ann.seq Ann.leaf (Ann.cond (Ann.seq Ann.leaf (Ann.seq Ann.leaf Ann.leaf)) (Ann.seq Ann.leaf (Ann.cond (Ann.seq Ann.leaf (Ann.seq Ann.leaf Ann.leaf)) (Ann.seq Ann.leaf (Ann.cond (Ann.seq Ann.leaf (Ann.seq Ann.leaf Ann.leaf)) (Ann.seq Ann.leaf (Ann.cond (Ann.seq Ann.leaf (Ann.seq Ann.leaf Ann.leaf)) (Ann.seq Ann.leaf (Ann.cond (Ann.seq Ann.leaf (Ann.seq Ann.leaf Ann.leaf)) (Ann.seq Ann.leaf (Ann.cond (Ann.seq Ann.leaf (Ann.seq Ann.leaf Ann.leaf)) (Ann.seq Ann.leaf (Ann.cond (Ann.seq Ann.leaf (Ann.seq Ann.leaf Ann.leaf)) (Ann.seq Ann.leaf (Ann.cond (Ann.seq Ann.leaf (Ann.seq Ann.leaf Ann.leaf)) (Ann.seq Ann.leaf (Ann.cond (Ann.seq Ann.leaf (Ann.seq Ann.leaf Ann.leaf)) Ann.leaf)))))))))))))))))))) (Ann.seq Ann.leaf Ann.leaf)))
def F39_den (t0 : Value) (w : World) (R : Value → World → Prop) : Prop :=
  V Tryd.prog (Instr.typeAssert t0 52 61 true) w fun t13 w1 =>
  V Tryd.prog (Instr.extract t13 1) w1 fun t14 w2 =>
  V Tryd.prog (Instr.extract t13 0) w2 fun t15 w3 =>
  ifD t14 (
  V Tryd.prog (Instr.alloc 61 true (.tuple #[])) w3 fun t3 w4 =>
  U Tryd.prog (Instr.storeAt 61 t3 t15) w4 fun _ w5 =>
  V Tryd.prog (Instr.fieldAt 61 t3 0) w5 fun t16 w6 =>
  V Tryd.prog (Instr.loadAt 3 t16) w6 fun t17 w7 =>
  R t17 w7) (
  V Tryd.prog (Instr.typeAssert t0 52 91 true) w3 fun t18 w8 =>
  V Tryd.prog (Instr.extract t18 1) w8 fun t19 w9 =>
  V Tryd.prog (Instr.extract t18 0) w9 fun t20 w10 =>
  ifD t19 (
  V Tryd.prog (Instr.alloc 91 true (.tuple #[])) w10 fun t4 w11 =>
  U Tryd.prog (Instr.storeAt 91 t4 t20) w11 fun _ w12 =>
  V Tryd.prog (Instr.fieldAt 91 t4 0) w12 fun t21 w13 =>
  V Tryd.prog (Instr.loadAt 3 t21) w13 fun t22 w14 =>
  R t22 w14) (
  V Tryd.prog (Instr.typeAssert t0 52 68 true) w10 fun t23 w15 =>
  V Tryd.prog (Instr.extract t23 1) w15 fun t24 w16 =>
  V Tryd.prog (Instr.extract t23 0) w16 fun t25 w17 =>
  ifD t24 (
  V Tryd.prog (Instr.alloc 68 true (.tuple #[])) w17 fun t5 w18 =>
  U Tryd.prog (Instr.storeAt 68 t5 t25) w18 fun _ w19 =>
  V Tryd.prog (Instr.fieldAt 68 t5 1) w19 fun t26 w20 =>
  V Tryd.prog (Instr.loadAt 3 t26) w20 fun t27 w21 =>
  R t27 w21) (
  V Tryd.prog (Instr.typeAssert t0 52 93 true) w17 fun t28 w22 =>
  V Tryd.prog (Instr.extract t28 1) w22 fun t29 w23 =>
  V Tryd.prog (Instr.extract t28 0) w23 fun t30 w24 =>
  ifD t29 (
  V Tryd.prog (Instr.alloc 93 true (.tuple #[])) w24 fun t6 w25 =>
  U Tryd.prog (Instr.storeAt 93 t6 t30) w25 fun _ w26 =>
  V Tryd.prog (Instr.fieldAt 93 t6 1) w26 fun t31 w27 =>
  V Tryd.prog (Instr.loadAt 3 t31) w27 fun t32 w28 =>
  R t32 w28) (
  V Tryd.prog (Instr.typeAssert t0 52 95 true) w24 fun t33 w29 =>
  V Tryd.prog (Instr.extract t33 1) w29 fun t34 w30 =>
  V Tryd.prog (Instr.extract t33 0) w30 fun t35 w31 =>
  ifD t34 (
  V Tryd.prog (Instr.alloc 95 true (.tuple #[])) w31 fun t7 w32 =>
  U Tryd.prog (Instr.storeAt 95 t7 t35) w32 fun _ w33 =>
  V Tryd.prog (Instr.fieldAt 95 t7 0) w33 fun t36 w34 =>
  V Tryd.prog (Instr.loadAt 3 t36) w34 fun t37 w35 =>
  R t37 w35) (
  V Tryd.prog (Instr.typeAssert t0 52 108 true) w31 fun t38 w36 =>
  V Tryd.prog (Instr.extract t38 1) w36 fun t39 w37 =>
  V Tryd.prog (Instr.extract t38 0) w37 fun t40 w38 =>
  ifD t39 (
  V Tryd.prog (Instr.alloc 108 true (.tuple #[])) w38 fun t8 w39 =>
  U Tryd.prog (Instr.storeAt 108 t8 t40) w39 fun _ w40 =>
  V Tryd.prog (Instr.fieldAt 108 t8 0) w40 fun t41 w41 =>
  V Tryd.prog (Instr.loadAt 3 t41) w41 fun t42 w42 =>
  R t42 w42) (
  V Tryd.prog (Instr.typeAssert t0 52 112 true) w38 fun t43 w43 =>
  V Tryd.prog (Instr.extract t43 1) w43 fun t44 w44 =>
  V Tryd.prog (Instr.extract t43 0) w44 fun t45 w45 =>
  ifD t44 (
  V Tryd.prog (Instr.alloc 112 true (.tuple #[])) w45 fun t9 w46 =>
  U Tryd.prog (Instr.storeAt 112 t9 t45) w46 fun _ w47 =>
  V Tryd.prog (Instr.fieldAt 112 t9 3) w47 fun t46 w48 =>
  V Tryd.prog (Instr.loadAt 3 t46) w48 fun t47 w49 =>
  R t47 w49) (
  V Tryd.prog (Instr.typeAssert t0 52 114 true) w45 fun t48 w50 =>
  V Tryd.prog (Instr.extract t48 1) w50 fun t49 w51 =>
  V Tryd.prog (Instr.extract t48 0) w51 fun t50 w52 =>
  ifD t49 (
  V Tryd.prog (Instr.alloc 114 true (.tuple #[])) w52 fun t10 w53 =>
  U Tryd.prog (Instr.storeAt 114 t10 t50) w53 fun _ w54 =>
  V Tryd.prog (Instr.fieldAt 114 t10 1) w54 fun t51 w55 =>
  V Tryd.prog (Instr.loadAt 3 t51) w55 fun t52 w56 =>
  R t52 w56) (
  V Tryd.prog (Instr.typeAssert t0 52 116 true) w52 fun t53 w57 =>
  V Tryd.prog (Instr.extract t53 1) w57 fun t54 w58 =>
  V Tryd.prog (Instr.extract t53 0) w58 fun t55 w59 =>
  ifD t54 (
  V Tryd.prog (Instr.alloc 116 true (.tuple #[])) w59 fun t11 w60 =>
  U Tryd.prog (Instr.storeAt 116 t11 t55) w60 fun _ w61 =>
  V Tryd.prog (Instr.fieldAt 116 t11 1) w61 fun t56 w62 =>
  V Tryd.prog (Instr.loadAt 3 t56) w62 fun t57 w63 =>
  R t57 w63) (
  R (Value.int IntKind.i64 (-1)) w59)))))))))
theorem F39_eq (t0 : Value) (w : World) (R : Value → World → Prop) : F39_den t0 w R = vc Tryd.prog F39_ann (Tryd.f39.body.getD .skip) (retE Tryd.prog Tryd.f39.results.toList R) (argEnv [t0]) w := by kernel_rfl
theorem F39_wp {t0 : Value} {w : World} {R : Value → World → Prop} (h : F39_den t0 w R) : callD Tryd.prog 39 #[t0] w R :=
  callD.of_calls (fn := Tryd.f39) (c := Tryd.f39.body.getD .skip) Tryd.func39 (by kernel_rfl) (by kernel_rfl) (calls_of_vc (args := [t0]) F39_ann mixed Tryd.func39 (by kernel_rfl) (by kernel_rfl) (F39_eq t0 w R ▸ h))

/-- taciturn/ir.Uses -/
def F40_ann : Ann := (Ann.seq Ann.leaf (Ann.seq (Ann.seq Ann.leaf (Ann.block (Ann.seq Ann.leaf (Ann.cond (Ann.seq Ann.leaf (Ann.seq Ann.leaf Ann.leaf)) (Ann.seq Ann.leaf (Ann.cond (Ann.seq Ann.leaf (Ann.seq Ann.leaf Ann.leaf)) (Ann.seq Ann.leaf (Ann.cond (Ann.seq Ann.leaf (Ann.seq Ann.leaf Ann.leaf)) (Ann.seq Ann.leaf (Ann.cond (Ann.seq Ann.leaf (Ann.seq Ann.leaf Ann.leaf)) (Ann.seq Ann.leaf (Ann.cond (Ann.seq Ann.leaf (Ann.seq Ann.leaf Ann.leaf)) (Ann.seq Ann.leaf (Ann.cond (Ann.seq Ann.leaf (Ann.seq Ann.leaf Ann.leaf)) (Ann.seq Ann.leaf (Ann.cond (Ann.seq Ann.leaf (Ann.seq Ann.leaf Ann.leaf)) (Ann.seq Ann.leaf (Ann.cond (Ann.seq Ann.leaf (Ann.seq Ann.leaf Ann.leaf)) (Ann.seq Ann.leaf (Ann.cond (Ann.seq Ann.leaf (Ann.seq Ann.leaf Ann.leaf)) (Ann.seq Ann.leaf (Ann.cond (Ann.seq Ann.leaf (Ann.seq Ann.leaf (Ann.cond (Ann.seq Ann.leaf Ann.leaf) Ann.leaf))) Ann.leaf)))))))))))))))))))))) (Ann.seq Ann.leaf Ann.leaf)))
def F40_den (t0 : Value) (w : World) (R : Value → World → Prop) : Prop :=
  V Tryd.prog (Instr.typeAssert t0 52 91 true) w fun t14 w1 =>
  V Tryd.prog (Instr.extract t14 1) w1 fun t15 w2 =>
  V Tryd.prog (Instr.extract t14 0) w2 fun t16 w3 =>
  ifD t15 (
  V Tryd.prog (Instr.alloc 91 true (.tuple #[])) w3 fun t3 w4 =>
  U Tryd.prog (Instr.storeAt 91 t3 t16) w4 fun _ w5 =>
  V Tryd.prog (Instr.fieldAt 91 t3 1) w5 fun t17 w6 =>
  V Tryd.prog (Instr.loadAt 3 t17) w6 fun t18 w7 =>
  V Tryd.prog (Instr.buildSlice 35 1 #[(0, t18)]) w7 fun t19 w8 =>
  R t19 w8) (
  V Tryd.prog (Instr.typeAssert t0 52 68 true) w3 fun t20 w9 =>
  V Tryd.prog (Instr.extract t20 1) w9 fun t21 w10 =>
  V Tryd.prog (Instr.extract t20 0) w10 fun t22 w11 =>
  ifD t21 (
  V Tryd.prog (Instr.alloc 68 true (.tuple #[])) w11 fun t4 w12 =>
  U Tryd.prog (Instr.storeAt 68 t4 t22) w12 fun _ w13 =>
  V Tryd.prog (Instr.fieldAt 68 t4 2) w13 fun t23 w14 =>
  V Tryd.prog (Instr.loadAt 3 t23) w14 fun t24 w15 =>
  V Tryd.prog (Instr.fieldAt 68 t4 3) w15 fun t25 w16 =>
  V Tryd.prog (Instr.loadAt 3 t25) w16 fun t26 w17 =>
  V Tryd.prog (Instr.buildSlice 35 2 #[(0, t24), (1, t26)]) w17 fun t27 w18 =>
  R t27 w18) (
  V Tryd.prog (Instr.typeAssert t0 52 93 true) w11 fun t28 w19 =>
  V Tryd.prog (Instr.extract t28 1) w19 fun t29 w20 =>
  V Tryd.prog (Instr.extract t28 0) w20 fun t30 w21 =>
  ifD t29 (
  V Tryd.prog (Instr.alloc 93 true (.tuple #[])) w21 fun t5 w22 =>
  U Tryd.prog (Instr.storeAt 93 t5 t30) w22 fun _ w23 =>
  V Tryd.prog (Instr.fieldAt 93 t5 2) w23 fun t31 w24 =>
  V Tryd.prog (Instr.loadAt 3 t31) w24 fun t32 w25 =>
  V Tryd.prog (Instr.buildSlice 35 1 #[(0, t32)]) w25 fun t33 w26 =>
  R t33 w26) (
  V Tryd.prog (Instr.typeAssert t0 52 95 true) w21 fun t34 w27 =>
  V Tryd.prog (Instr.extract t34 1) w27 fun t35 w28 =>
  V Tryd.prog (Instr.extract t34 0) w28 fun t36 w29 =>
  ifD t35 (
  V Tryd.prog (Instr.alloc 95 true (.tuple #[])) w29 fun t6 w30 =>
  U Tryd.prog (Instr.storeAt 95 t6 t36) w30 fun _ w31 =>
  V Tryd.prog (Instr.fieldAt 95 t6 1) w31 fun t37 w32 =>
  V Tryd.prog (Instr.loadAt 3 t37) w32 fun t38 w33 =>
  V Tryd.prog (Instr.fieldAt 95 t6 2) w33 fun t39 w34 =>
  V Tryd.prog (Instr.loadAt 3 t39) w34 fun t40 w35 =>
  V Tryd.prog (Instr.fieldAt 95 t6 3) w35 fun t41 w36 =>
  V Tryd.prog (Instr.loadAt 3 t41) w36 fun t42 w37 =>
  V Tryd.prog (Instr.buildSlice 35 3 #[(0, t38), (1, t40), (2, t42)]) w37 fun t43 w38 =>
  R t43 w38) (
  V Tryd.prog (Instr.typeAssert t0 52 99 true) w29 fun t44 w39 =>
  V Tryd.prog (Instr.extract t44 1) w39 fun t45 w40 =>
  V Tryd.prog (Instr.extract t44 0) w40 fun t46 w41 =>
  ifD t45 (
  V Tryd.prog (Instr.alloc 99 true (.tuple #[])) w41 fun t7 w42 =>
  U Tryd.prog (Instr.storeAt 99 t7 t46) w42 fun _ w43 =>
  V Tryd.prog (Instr.fieldAt 99 t7 0) w43 fun t47 w44 =>
  V Tryd.prog (Instr.loadAt 3 t47) w44 fun t48 w45 =>
  V Tryd.prog (Instr.buildSlice 35 1 #[(0, t48)]) w45 fun t49 w46 =>
  R t49 w46) (
  V Tryd.prog (Instr.typeAssert t0 52 110 true) w41 fun t50 w47 =>
  V Tryd.prog (Instr.extract t50 1) w47 fun t51 w48 =>
  V Tryd.prog (Instr.extract t50 0) w48 fun t52 w49 =>
  ifD t51 (
  V Tryd.prog (Instr.alloc 110 true (.tuple #[])) w49 fun t8 w50 =>
  U Tryd.prog (Instr.storeAt 110 t8 t52) w50 fun _ w51 =>
  V Tryd.prog (Instr.fieldAt 110 t8 1) w51 fun t53 w52 =>
  V Tryd.prog (Instr.loadAt 3 t53) w52 fun t54 w53 =>
  V Tryd.prog (Instr.buildSlice 35 1 #[(0, t54)]) w53 fun t55 w54 =>
  R t55 w54) (
  V Tryd.prog (Instr.typeAssert t0 52 112 true) w49 fun t56 w55 =>
  V Tryd.prog (Instr.extract t56 1) w55 fun t57 w56 =>
  V Tryd.prog (Instr.extract t56 0) w56 fun t58 w57 =>
  ifD t57 (
  V Tryd.prog (Instr.alloc 112 true (.tuple #[])) w57 fun t9 w58 =>
  U Tryd.prog (Instr.storeAt 112 t9 t58) w58 fun _ w59 =>
  V Tryd.prog (Instr.fieldAt 112 t9 4) w59 fun t59 w60 =>
  V Tryd.prog (Instr.loadAt 35 t59) w60 fun t60 w61 =>
  callD Tryd.prog 54 #[t60] w61 fun t61 w62 =>
  R t61 w62) (
  V Tryd.prog (Instr.typeAssert t0 52 114 true) w57 fun t62 w63 =>
  V Tryd.prog (Instr.extract t62 1) w63 fun t63 w64 =>
  V Tryd.prog (Instr.extract t62 0) w64 fun t64 w65 =>
  ifD t63 (
  V Tryd.prog (Instr.alloc 114 true (.tuple #[])) w65 fun t10 w66 =>
  U Tryd.prog (Instr.storeAt 114 t10 t64) w66 fun _ w67 =>
  V Tryd.prog (Instr.fieldAt 114 t10 2) w67 fun t65 w68 =>
  V Tryd.prog (Instr.loadAt 35 t65) w68 fun t66 w69 =>
  callD Tryd.prog 54 #[t66] w69 fun t67 w70 =>
  R t67 w70) (
  V Tryd.prog (Instr.typeAssert t0 52 116 true) w65 fun t68 w71 =>
  V Tryd.prog (Instr.extract t68 1) w71 fun t69 w72 =>
  V Tryd.prog (Instr.extract t68 0) w72 fun t70 w73 =>
  ifD t69 (
  V Tryd.prog (Instr.alloc 116 true (.tuple #[])) w73 fun t11 w74 =>
  U Tryd.prog (Instr.storeAt 116 t11 t70) w74 fun _ w75 =>
  V Tryd.prog (Instr.fieldAt 116 t11 2) w75 fun t71 w76 =>
  V Tryd.prog (Instr.loadAt 35 t71) w76 fun t72 w77 =>
  callD Tryd.prog 54 #[t72] w77 fun t73 w78 =>
  R t73 w78) (
  V Tryd.prog (Instr.typeAssert t0 52 54 true) w73 fun t74 w79 =>
  V Tryd.prog (Instr.extract t74 1) w79 fun t75 w80 =>
  V Tryd.prog (Instr.extract t74 0) w80 fun t76 w81 =>
  ifD t75 (
  V Tryd.prog (Instr.alloc 54 true (.tuple #[])) w81 fun t12 w82 =>
  U Tryd.prog (Instr.storeAt 54 t12 t76) w82 fun _ w83 =>
  V Tryd.prog (Instr.fieldAt 54 t12 0) w83 fun t77 w84 =>
  V Tryd.prog (Instr.loadAt 3 t77) w84 fun t78 w85 =>
  V Tryd.prog (do eqGuard .neq 3 (Operand.tmp 78) (Operand.const (Value.int IntKind.i64 (-1))) t78 (Value.int IntKind.i64 (-1)); binOp .neq 3 t78 (Value.int IntKind.i64 (-1))) w85 fun t79 w86 =>
  ifD t79 (
  V Tryd.prog (Instr.fieldAt 54 t12 0) w86 fun t80 w87 =>
  V Tryd.prog (Instr.loadAt 3 t80) w87 fun t81 w88 =>
  V Tryd.prog (Instr.buildSlice 35 1 #[(0, t81)]) w88 fun t82 w89 =>
  R t82 w89) (
  R (Value.slice none 0 0) w86)) (
  R (Value.slice none 0 0) w81))))))))))
theorem F40_eq (t0 : Value) (w : World) (R : Value → World → Prop) : F40_den t0 w R = vc Tryd.prog F40_ann (Tryd.f40.body.getD .skip) (retE Tryd.prog Tryd.f40.results.toList R) (argEnv [t0]) w := by kernel_rfl
theorem F40_wp {t0 : Value} {w : World} {R : Value → World → Prop} (h : F40_den t0 w R) : callD Tryd.prog 40 #[t0] w R :=
  callD.of_calls (fn := Tryd.f40) (c := Tryd.f40.body.getD .skip) Tryd.func40 (by kernel_rfl) (by kernel_rfl) (calls_of_vc (args := [t0]) F40_ann mixed Tryd.func40 (by kernel_rfl) (by kernel_rfl) (F40_eq t0 w R ▸ h))

/-- taciturn/ir.Next -/
def F41_ann : Ann := (Ann.seq Ann.leaf (Ann.seq (Ann.seq Ann.leaf (Ann.block (Ann.seq Ann.leaf (Ann.cond (Ann.seq Ann.leaf (Ann.seq Ann.leaf Ann.leaf)) (Ann.seq Ann.leaf (Ann.cond (Ann.seq Ann.leaf (Ann.seq Ann.leaf Ann.leaf)) (Ann.seq Ann.leaf (Ann.cond (Ann.seq Ann.leaf (Ann.seq Ann.leaf (Ann.cond (Ann.seq Ann.leaf Ann.leaf) Ann.leaf))) (Ann.seq Ann.leaf (Ann.cond (Ann.seq Ann.leaf (Ann.seq Ann.leaf Ann.leaf)) Ann.leaf)))))))))) (Ann.seq Ann.leaf Ann.leaf)))
def F41_den (t0 : Value) (t1 : Value) (w : World) (R : Value → World → Prop) : Prop :=
  V Tryd.prog (do eqGuard .eql 52 (Operand.tmp 9) (Operand.const Value.nilIface) t0 Value.nilIface; binOp .eql 52 t0 Value.nilIface) w fun t10 w1 =>
  ifD t10 (
  R (Value.slice none 0 0) w1) (
  V Tryd.prog (Instr.typeAssert t0 52 97 true) w1 fun t11 w2 =>
  V Tryd.prog (Instr.extract t11 1) w2 fun t12 w3 =>
  V Tryd.prog (Instr.extract t11 0) w3 fun t13 w4 =>
  ifD t12 (
  V Tryd.prog (Instr.alloc 97 true (.tuple #[])) w4 fun t6 w5 =>
  U Tryd.prog (Instr.storeAt 97 t6 t13) w5 fun _ w6 =>
  V Tryd.prog (Instr.fieldAt 97 t6 0) w6 fun t14 w7 =>
  V Tryd.prog (Instr.loadAt 3 t14) w7 fun t15 w8 =>
  V Tryd.prog (Instr.buildSlice 35 1 #[(0, t15)]) w8 fun t16 w9 =>
  R t16 w9) (
  V Tryd.prog (Instr.typeAssert t0 52 99 true) w4 fun t17 w10 =>
  V Tryd.prog (Instr.extract t17 1) w10 fun t18 w11 =>
  V Tryd.prog (Instr.extract t17 0) w11 fun t19 w12 =>
  ifD t18 (
  V Tryd.prog (Instr.alloc 99 true (.tuple #[])) w12 fun t7 w13 =>
  U Tryd.prog (Instr.storeAt 99 t7 t19) w13 fun _ w14 =>
  V Tryd.prog (Instr.fieldAt 99 t7 1) w14 fun t20 w15 =>
  V Tryd.prog (Instr.loadAt 3 t20) w15 fun t21 w16 =>
  V Tryd.prog (binOp .add 3 t1 (Value.int IntKind.i64 1)) w16 fun t23 w17 =>
  V Tryd.prog (do eqGuard .neq 3 (Operand.tmp 21) (Operand.tmp 23) t21 t23; binOp .neq 3 t21 t23) w17 fun t24 w18 =>
  ifD t24 (
  V Tryd.prog (binOp .add 3 t1 (Value.int IntKind.i64 1)) w18 fun t26 w19 =>
  V Tryd.prog (Instr.fieldAt 99 t7 1) w19 fun t27 w20 =>
  V Tryd.prog (Instr.loadAt 3 t27) w20 fun t28 w21 =>
  V Tryd.prog (Instr.buildSlice 35 2 #[(0, t26), (1, t28)]) w21 fun t29 w22 =>
  R t29 w22) (
  V Tryd.prog (binOp .add 3 t1 (Value.int IntKind.i64 1)) w18 fun t34 w23 =>
  V Tryd.prog (Instr.buildSlice 35 1 #[(0, t34)]) w23 fun t35 w24 =>
  R t35 w24)) (
  V Tryd.prog (Instr.typeAssert t0 52 54 true) w12 fun t30 w25 =>
  V Tryd.prog (Instr.extract t30 1) w25 fun t31 w26 =>
  V Tryd.prog (Instr.extract t30 0) w26 fun t32 w27 =>
  ifD t31 (
  V Tryd.prog (Instr.alloc 54 true (.tuple #[])) w27 fun t8 w28 =>
  U Tryd.prog (Instr.storeAt 54 t8 t32) w28 fun _ w29 =>
  R (Value.slice none 0 0) w29) (
  V Tryd.prog (binOp .add 3 t1 (Value.int IntKind.i64 1)) w27 fun t34_1 w30 =>
  V Tryd.prog (Instr.buildSlice 35 1 #[(0, t34_1)]) w30 fun t35_1 w31 =>
  R t35_1 w31))))
theorem F41_eq (t0 : Value) (t1 : Value) (w : World) (R : Value → World → Prop) : F41_den t0 t1 w R = vc Tryd.prog F41_ann (Tryd.f41.body.getD .skip) (retE Tryd.prog Tryd.f41.results.toList R) (argEnv [t0, t1]) w := by kernel_rfl
theorem F41_wp {t0 : Value} {t1 : Value} {w : World} {R : Value → World → Prop} (h : F41_den t0 t1 w R) : callD Tryd.prog 41 #[t0, t1] w R :=
  callD.of_calls (fn := Tryd.f41) (c := Tryd.f41.body.getD .skip) Tryd.func41 (by kernel_rfl) (by kernel_rfl) (calls_of_vc (args := [t0, t1]) F41_ann mixed Tryd.func41 (by kernel_rfl) (by kernel_rfl) (F41_eq t0 t1 w R ▸ h))

/-- taciturn/ir.sum -/
def F42_ann : Ann := (Ann.seq Ann.leaf (Ann.seq (Ann.seq Ann.leaf (Ann.block (Ann.seq Ann.leaf (Ann.cond (Ann.seq Ann.leaf Ann.leaf) (Ann.seq Ann.leaf (Ann.cond (Ann.seq Ann.leaf Ann.leaf) (Ann.seq Ann.leaf (Ann.cond (Ann.seq Ann.leaf Ann.leaf) (Ann.seq Ann.leaf (Ann.cond (Ann.seq Ann.leaf Ann.leaf) (Ann.seq Ann.leaf (Ann.cond (Ann.seq Ann.leaf Ann.leaf) (Ann.seq Ann.leaf (Ann.cond (Ann.seq Ann.leaf Ann.leaf) (Ann.seq Ann.leaf (Ann.cond (Ann.seq Ann.leaf Ann.leaf) (Ann.seq Ann.leaf (Ann.cond (Ann.seq Ann.leaf Ann.leaf) (Ann.seq Ann.leaf (Ann.cond (Ann.seq Ann.leaf Ann.leaf) (Ann.seq Ann.leaf (Ann.cond (Ann.seq Ann.leaf Ann.leaf) (Ann.seq Ann.leaf (Ann.cond (Ann.seq Ann.leaf Ann.leaf) Ann.leaf)))))))))))))))))))))))) (Ann.seq Ann.leaf Ann.leaf)))
def F42_den (t0 : Value) (t1 : Value) (t2 : Value) (w : World) (R : Value → World → Prop) : Prop :=
  V Tryd.prog (do eqGuard .eql 3 (Operand.tmp 7) (Operand.const (Value.int IntKind.i64 6)) t0 (Value.int IntKind.i64 6); binOp .eql 3 t0 (Value.int IntKind.i64 6)) w fun t9 w1 =>
  ifD t9 (
  callD Tryd.prog 55 #[t1, t2] w1 fun t12 w2 =>
  R t12 w2) (
  V Tryd.prog (do eqGuard .eql 3 (Operand.tmp 7) (Operand.const (Value.int IntKind.i64 7)) t0 (Value.int IntKind.i64 7); binOp .eql 3 t0 (Value.int IntKind.i64 7)) w1 fun t14 w3 =>
  ifD t14 (
  callD Tryd.prog 56 #[t1, t2] w3 fun t17 w4 =>
  R t17 w4) (
  V Tryd.prog (do eqGuard .eql 3 (Operand.tmp 7) (Operand.const (Value.int IntKind.i64 8)) t0 (Value.int IntKind.i64 8); binOp .eql 3 t0 (Value.int IntKind.i64 8)) w3 fun t19 w5 =>
  ifD t19 (
  callD Tryd.prog 57 #[t1, t2] w5 fun t22 w6 =>
  R t22 w6) (
  V Tryd.prog (do eqGuard .eql 3 (Operand.tmp 7) (Operand.const (Value.int IntKind.i64 9)) t0 (Value.int IntKind.i64 9); binOp .eql 3 t0 (Value.int IntKind.i64 9)) w5 fun t24 w7 =>
  ifD t24 (
  callD Tryd.prog 58 #[t1, t2] w7 fun t27 w8 =>
  R t27 w8) (
  V Tryd.prog (do eqGuard .eql 3 (Operand.tmp 7) (Operand.const (Value.int IntKind.i64 10)) t0 (Value.int IntKind.i64 10); binOp .eql 3 t0 (Value.int IntKind.i64 10)) w7 fun t29 w9 =>
  ifD t29 (
  callD Tryd.prog 59 #[t1, t2] w9 fun t32 w10 =>
  R t32 w10) (
  V Tryd.prog (do eqGuard .eql 3 (Operand.tmp 7) (Operand.const (Value.int IntKind.i64 11)) t0 (Value.int IntKind.i64 11); binOp .eql 3 t0 (Value.int IntKind.i64 11)) w9 fun t34 w11 =>
  ifD t34 (
  callD Tryd.prog 60 #[t1, t2] w11 fun t37 w12 =>
  R t37 w12) (
  V Tryd.prog (do eqGuard .eql 3 (Operand.tmp 7) (Operand.const (Value.int IntKind.i64 12)) t0 (Value.int IntKind.i64 12); binOp .eql 3 t0 (Value.int IntKind.i64 12)) w11 fun t39 w13 =>
  ifD t39 (
  callD Tryd.prog 61 #[t1, t2] w13 fun t42 w14 =>
  R t42 w14) (
  V Tryd.prog (do eqGuard .eql 3 (Operand.tmp 7) (Operand.const (Value.int IntKind.i64 13)) t0 (Value.int IntKind.i64 13); binOp .eql 3 t0 (Value.int IntKind.i64 13)) w13 fun t44 w15 =>
  ifD t44 (
  callD Tryd.prog 62 #[t1, t2] w15 fun t47 w16 =>
  R t47 w16) (
  V Tryd.prog (do eqGuard .eql 3 (Operand.tmp 7) (Operand.const (Value.int IntKind.i64 14)) t0 (Value.int IntKind.i64 14); binOp .eql 3 t0 (Value.int IntKind.i64 14)) w15 fun t49 w17 =>
  ifD t49 (
  callD Tryd.prog 63 #[t1, t2] w17 fun t52 w18 =>
  R t52 w18) (
  V Tryd.prog (do eqGuard .eql 3 (Operand.tmp 7) (Operand.const (Value.int IntKind.i64 19)) t0 (Value.int IntKind.i64 19); binOp .eql 3 t0 (Value.int IntKind.i64 19)) w17 fun t54 w19 =>
  ifD t54 (
  callD Tryd.prog 64 #[t1, t2] w19 fun t57 w20 =>
  R t57 w20) (
  V Tryd.prog (do eqGuard .eql 3 (Operand.tmp 7) (Operand.const (Value.int IntKind.i64 20)) t0 (Value.int IntKind.i64 20); binOp .eql 3 t0 (Value.int IntKind.i64 20)) w19 fun t59 w21 =>
  ifD t59 (
  callD Tryd.prog 65 #[t1, t2] w21 fun t62 w22 =>
  R t62 w22) (
  callD Tryd.prog 66 #[t1, t2] w21 fun t65 w23 =>
  R t65 w23)))))))))))
theorem F42_eq (t0 : Value) (t1 : Value) (t2 : Value) (w : World) (R : Value → World → Prop) : F42_den t0 t1 t2 w R = vc Tryd.prog F42_ann (Tryd.f42.body.getD .skip) (retE Tryd.prog Tryd.f42.results.toList R) (argEnv [t0, t1, t2]) w := by kernel_rfl
theorem F42_wp {t0 : Value} {t1 : Value} {t2 : Value} {w : World} {R : Value → World → Prop} (h : F42_den t0 t1 t2 w R) : callD Tryd.prog 42 #[t0, t1, t2] w R :=
  callD.of_calls (fn := Tryd.f42) (c := Tryd.f42.body.getD .skip) Tryd.func42 (by kernel_rfl) (by kernel_rfl) (calls_of_vc (args := [t0, t1, t2]) F42_ann mixed Tryd.func42 (by kernel_rfl) (by kernel_rfl) (F42_eq t0 t1 t2 w R ▸ h))

/-- taciturn/ir.one -/
def F43_ann : Ann := (Ann.seq Ann.leaf (Ann.seq (Ann.seq Ann.leaf (Ann.block (Ann.seq Ann.leaf (Ann.cond (Ann.seq Ann.leaf Ann.leaf) (Ann.seq Ann.leaf (Ann.cond (Ann.seq Ann.leaf Ann.leaf) Ann.leaf)))))) (Ann.seq Ann.leaf Ann.leaf)))
def F43_den (t0 : Value) (t1 : Value) (w : World) (R : Value → World → Prop) : Prop :=
  V Tryd.prog (do eqGuard .eql 3 (Operand.tmp 5) (Operand.const (Value.int IntKind.i64 15)) t0 (Value.int IntKind.i64 15); binOp .eql 3 t0 (Value.int IntKind.i64 15)) w fun t7 w1 =>
  ifD t7 (
  callD Tryd.prog 67 #[t1] w1 fun t9 w2 =>
  R t9 w2) (
  V Tryd.prog (do eqGuard .eql 3 (Operand.tmp 5) (Operand.const (Value.int IntKind.i64 16)) t0 (Value.int IntKind.i64 16); binOp .eql 3 t0 (Value.int IntKind.i64 16)) w1 fun t11 w3 =>
  ifD t11 (
  callD Tryd.prog 68 #[t1] w3 fun t13 w4 =>
  R t13 w4) (
  callD Tryd.prog 64 #[t1, (Value.int IntKind.i32 0)] w3 fun t15 w5 =>
  R t15 w5))
theorem F43_eq (t0 : Value) (t1 : Value) (w : World) (R : Value → World → Prop) : F43_den t0 t1 w R = vc Tryd.prog F43_ann (Tryd.f43.body.getD .skip) (retE Tryd.prog Tryd.f43.results.toList R) (argEnv [t0, t1]) w := by kernel_rfl
theorem F43_wp {t0 : Value} {t1 : Value} {w : World} {R : Value → World → Prop} (h : F43_den t0 t1 w R) : callD Tryd.prog 43 #[t0, t1] w R :=
  callD.of_calls (fn := Tryd.f43) (c := Tryd.f43.body.getD .skip) Tryd.func43 (by kernel_rfl) (by kernel_rfl) (calls_of_vc (args := [t0, t1]) F43_ann mixed Tryd.func43 (by kernel_rfl) (by kernel_rfl) (F43_eq t0 t1 w R ▸ h))

/-- taciturn/word.Pick -/
def F44_ann : Ann := (Ann.seq Ann.leaf (Ann.seq Ann.leaf (Ann.seq Ann.leaf Ann.leaf)))
def F44_den (t0 : Value) (t1 : Value) (t2 : Value) (w : World) (R : Value → World → Prop) : Prop :=
  callD Tryd.prog 69 #[t0] w fun t9 w1 =>
  V Tryd.prog (Op.unary UnOp.neg t9) w1 fun t10 w2 =>
  V Tryd.prog (binOp .and 21 t1 t10) w2 fun t13 w3 =>
  V Tryd.prog (binOp .andNot 21 t2 t10) w3 fun t16 w4 =>
  V Tryd.prog (binOp .or 21 t13 t16) w4 fun t17 w5 =>
  R t17 w5
theorem F44_eq (t0 : Value) (t1 : Value) (t2 : Value) (w : World) (R : Value → World → Prop) : F44_den t0 t1 t2 w R = vc Tryd.prog F44_ann (Tryd.f44.body.getD .skip) (retE Tryd.prog Tryd.f44.results.toList R) (argEnv [t0, t1, t2]) w := by kernel_rfl
theorem F44_wp {t0 : Value} {t1 : Value} {t2 : Value} {w : World} {R : Value → World → Prop} (h : F44_den t0 t1 t2 w R) : callD Tryd.prog 44 #[t0, t1, t2] w R :=
  callD.of_calls (fn := Tryd.f44) (c := Tryd.f44.body.getD .skip) Tryd.func44 (by kernel_rfl) (by kernel_rfl) (calls_of_vc (args := [t0, t1, t2]) F44_ann mixed Tryd.func44 (by kernel_rfl) (by kernel_rfl) (F44_eq t0 t1 t2 w R ▸ h))

/-- taciturn/place.rulesOf$1 -/
def F45_ann : Ann := (Ann.seq Ann.leaf (Ann.cond (Ann.seq Ann.leaf Ann.leaf) Ann.leaf))
def F45_den (t0 : Value) (t1 : Value) (t2 : Value) (w : World) (R : Value → World → Prop) : Prop :=
  V Tryd.prog (binOp .geq 3 t0 (Value.int IntKind.i64 0)) w fun t5 w1 =>
  gd t5 true (fun K => V Tryd.prog (Instr.loadAt 28 t1) w1 K) w1 fun t7 w2 =>
  gd t5 true (fun K => K t0 w2) w2 fun t8 w3 =>
  gd t5 true (fun K => V Tryd.prog (Instr.indexAt 28 t7 t8) w3 K) w3 fun t9 w4 =>
  gd t5 true (fun K => V Tryd.prog (Instr.loadAt 4 t9) w4 K) w4 fun t10 w5 =>
  gd t5 true (fun K => V Tryd.prog (Op.unary UnOp.not t10) w5 K) w5 fun t11 w6 =>
  pickD t5 t11 (Value.bool false) fun t12 =>
  ifD t12 (
  V Tryd.prog (Instr.loadAt 28 t1) w6 fun t13 w8 =>
  V Tryd.prog (Instr.indexAt 28 t13 t0) w8 fun t15 w9 =>
  U Tryd.prog (Instr.storeAt 4 t15 (Value.bool true)) w9 fun _ w10 =>
  V Tryd.prog (Instr.fieldAt 70 t2 2) w10 fun t16 w11 =>
  V Tryd.prog (Instr.loadAt 35 t16) w11 fun t17 w12 =>
  V Tryd.prog (Instr.buildSlice 35 1 #[(0, t0)]) w12 fun t19 w13 =>
  V Tryd.prog (Builtin.append_ #[35, 35] 35 #[t17, t19]) w13 fun t20 w14 =>
  V Tryd.prog (Instr.fieldAt 70 t2 2) w14 fun t21 w15 =>
  U Tryd.prog (Instr.storeAt 35 t21 t20) w15 fun _ w16 =>
  R (.tuple #[]) w16) (
  R (.tuple #[]) w6)
theorem F45_eq (t0 : Value) (t1 : Value) (t2 : Value) (w : World) (R : Value → World → Prop) : F45_den t0 t1 t2 w R = vc Tryd.prog F45_ann (Tryd.f45.body.getD .skip) (retE Tryd.prog Tryd.f45.results.toList R) (argEnv [t0, t1, t2]) w := by kernel_rfl
theorem F45_wp {t0 : Value} {t1 : Value} {t2 : Value} {w : World} {R : Value → World → Prop} (h : F45_den t0 t1 t2 w R) : callD Tryd.prog 45 #[t0, t1, t2] w R :=
  callD.of_calls (fn := Tryd.f45) (c := Tryd.f45.body.getD .skip) Tryd.func45 (by kernel_rfl) (by kernel_rfl) (calls_of_vc (args := [t0, t1, t2]) F45_ann mixed Tryd.func45 (by kernel_rfl) (by kernel_rfl) (F45_eq t0 t1 t2 w R ▸ h))

/-- (*taciturn/place.rules).all -/
def F46_ann : Ann := (Ann.seq Ann.leaf (Ann.block (Ann.loop [4, 5, 6, 7, 10, 11, 12, 13, 14, 15, 16, 17, 18, 19, 20, 21, 22, 23, 24, 25, 26, 27, 28, 29, 30, 31, 32, 33, 34, 35, 36, 37, 38, 39, 40, 41] [10] (Ann.seq Ann.leaf (Ann.seq (Ann.cond Ann.leaf Ann.leaf) (Ann.seq (Ann.block (Ann.seq Ann.leaf (Ann.seq Ann.leaf (Ann.block (Ann.loop [6, 7, 17, 18, 19, 20, 21, 22, 23, 24, 25, 26, 27, 28, 29, 30, 31, 32, 33, 34, 35, 36, 37, 38, 39, 40] [17] (Ann.seq Ann.leaf (Ann.seq (Ann.cond Ann.leaf Ann.leaf) (Ann.seq (Ann.block (Ann.seq Ann.leaf (Ann.seq Ann.leaf (Ann.cond Ann.leaf Ann.leaf)))) Ann.leaf)))))))) Ann.leaf))))))
def F46_den (t0 : Value) (t1 : Value) (w : World) (R : Value → World → Prop) : Prop :=
  V Tryd.prog (Builtin.len_ #[28] 3 #[t1]) w fun t9 w1 =>
  ∃ (I1 : NP 1) (μ1 : NF 1), I1 (Value.int IntKind.i64 0) w1 ∧
  ∀ (t10 : Value), ∀ w2 : World, I1 t10 w2 → ∀ _f : Env,
  V Tryd.prog (binOp .lss 3 t10 t9) w2 fun t11 w3 =>
  ifD t11 (
  V Tryd.prog (Instr.indexAt 28 t1 t10) w3 fun t13 w4 =>
  V Tryd.prog (Instr.loadAt 4 t13) w4 fun t14 w5 =>
  V Tryd.prog (Builtin.len_ #[28] 3 #[t1]) w5 fun t16 w6 =>
  ∃ (I2 : NP 1) (μ2 : NF 1), I2 (Value.int IntKind.i64 0) w6 ∧
  ∀ (t17 : Value), ∀ w7 : World, I2 t17 w7 → ∀ _f : Env,
  V Tryd.prog (binOp .lss 3 t17 t16) w7 fun t18 w8 =>
  ifD t18 (
  V Tryd.prog (Instr.indexAt 28 t1 t17) w8 fun t20 w9 =>
  V Tryd.prog (Instr.loadAt 4 t20) w9 fun t21 w10 =>
  gd t14 true (fun K => K t21 w10) w10 fun t24 w11 =>
  pickD t14 t24 (Value.bool false) fun t25 =>
  gd t25 true (fun K => K t10 w11) w11 fun t27 w13 =>
  gd t25 true (fun K => K t17 w13) w13 fun t28 w14 =>
  gd t25 true (fun K => V Tryd.prog (do eqGuard .neq 3 (Operand.tmp 27) (Operand.tmp 28) t27 t28; binOp .neq 3 t27 t28) w14 K) w14 fun t29 w15 =>
  pickD t25 t29 (Value.bool false) fun t30 =>
  ifD t30 (
  Go.Vc.Safe (t0) ∧
  V Tryd.prog (Instr.fieldAt 70 t0 0) w15 fun t33 w18 =>
  V Tryd.prog (Instr.loadAt 58 t33) w18 fun t34 w19 =>
  V Tryd.prog (Instr.indexAt 58 t34 t10) w19 fun t36 w20 =>
  V Tryd.prog (Instr.loadAt 28 t36) w20 fun t37 w21 =>
  V Tryd.prog (Instr.indexAt 28 t37 t17) w21 fun t39 w22 =>
  U Tryd.prog (Instr.storeAt 4 t39 (Value.bool true)) w22 fun _ w23 =>
  V Tryd.prog (binOp .add 3 t17 (Value.int IntKind.i64 1)) w23 fun t40 w24 =>
  I2 t40 w24 ∧ μ2 t40 w24 < μ2 t17 w7) (
  V Tryd.prog (binOp .add 3 t17 (Value.int IntKind.i64 1)) w15 fun t40_1 w25 =>
  I2 t40_1 w25 ∧ μ2 t40_1 w25 < μ2 t17 w7)) (
  V Tryd.prog (binOp .add 3 t10 (Value.int IntKind.i64 1)) w8 fun t41 w26 =>
  I1 t41 w26 ∧ μ1 t41 w26 < μ1 t10 w2)) (
  R (.tuple #[]) w3)
theorem F46_eq (t0 : Value) (t1 : Value) (w : World) (R : Value → World → Prop) : F46_den t0 t1 w R = vc Tryd.prog F46_ann (Tryd.f46.body.getD .skip) (retE Tryd.prog Tryd.f46.results.toList R) (argEnv [t0, t1]) w := by kernel_rfl
theorem F46_wp {t0 : Value} {t1 : Value} {w : World} {R : Value → World → Prop} (h : F46_den t0 t1 w R) : callD Tryd.prog 46 #[t0, t1] w R :=
  callD.of_calls (fn := Tryd.f46) (c := Tryd.f46.body.getD .skip) Tryd.func46 (by kernel_rfl) (by kernel_rfl) (calls_of_vc (args := [t0, t1]) F46_ann mixed Tryd.func46 (by kernel_rfl) (by kernel_rfl) (F46_eq t0 t1 w R ▸ h))

/-- taciturn/place.with -/
def F47_ann : Ann := (Ann.seq Ann.leaf (Ann.seq Ann.leaf (Ann.seq (Ann.seq Ann.leaf (Ann.cond Ann.leaf Ann.leaf)) (Ann.seq Ann.leaf Ann.leaf))))
def F47_den (t0 : Value) (t1 : Value) (w : World) (R : Value → World → Prop) : Prop :=
  V Tryd.prog (Instr.buildSlice 28 0 #[]) w fun t6 w1 =>
  V Tryd.prog (Builtin.append_ #[28, 28] 28 #[t6, t0]) w1 fun t8 w2 =>
  V Tryd.prog (binOp .geq 3 t1 (Value.int IntKind.i64 0)) w2 fun t10 w3 =>
  ifD t10 (
  V Tryd.prog (Instr.indexAt 28 t8 t1) w3 fun t13 w4 =>
  U Tryd.prog (Instr.storeAt 4 t13 (Value.bool true)) w4 fun _ w5 =>
  R t8 w5) (
  R t8 w3)
theorem F47_eq (t0 : Value) (t1 : Value) (w : World) (R : Value → World → Prop) : F47_den t0 t1 w R = vc Tryd.prog F47_ann (Tryd.f47.body.getD .skip) (retE Tryd.prog Tryd.f47.results.toList R) (argEnv [t0, t1]) w := by kernel_rfl
theorem F47_wp {t0 : Value} {t1 : Value} {w : World} {R : Value → World → Prop} (h : F47_den t0 t1 w R) : callD Tryd.prog 47 #[t0, t1] w R :=
  callD.of_calls (fn := Tryd.f47) (c := Tryd.f47.body.getD .skip) Tryd.func47 (by kernel_rfl) (by kernel_rfl) (calls_of_vc (args := [t0, t1]) F47_ann mixed Tryd.func47 (by kernel_rfl) (by kernel_rfl) (F47_eq t0 t1 w R ▸ h))

/-- taciturn/place.leaves -/
def F48_ann : Ann := (Ann.seq Ann.leaf (Ann.seq (Ann.seq Ann.leaf (Ann.block (Ann.seq Ann.leaf (Ann.cond (Ann.seq Ann.leaf Ann.leaf) Ann.leaf)))) (Ann.seq Ann.leaf Ann.leaf)))
def F48_den (t0 : Value) (w : World) (R : Value → World → Prop) : Prop :=
  V Tryd.prog (Instr.typeAssert t0 52 108 true) w fun t4 w1 =>
  V Tryd.prog (Instr.extract t4 1) w1 fun t5 w2 =>
  V Tryd.prog (Instr.extract t4 0) w2 fun t6 w3 =>
  V Tryd.prog (Instr.typeAssert t0 52 110 true) w3 fun t7 w4 =>
  V Tryd.prog (Instr.extract t7 1) w4 fun t8 w5 =>
  V Tryd.prog (Instr.extract t7 0) w5 fun t9 w6 =>
  pickD t5 (Value.bool true) t8 fun t10 =>
  ifD t10 (
  R (Value.bool true) w6) (
  callD Tryd.prog 24 #[t0] w6 fun t12 w8 =>
  R t12 w8)
theorem F48_eq (t0 : Value) (w : World) (R : Value → World → Prop) : F48_den t0 w R = vc Tryd.prog F48_ann (Tryd.f48.body.getD .skip) (retE Tryd.prog Tryd.f48.results.toList R) (argEnv [t0]) w := by kernel_rfl
theorem F48_wp {t0 : Value} {w : World} {R : Value → World → Prop} (h : F48_den t0 w R) : callD Tryd.prog 48 #[t0] w R :=
  callD.of_calls (fn := Tryd.f48) (c := Tryd.f48.body.getD .skip) Tryd.func48 (by kernel_rfl) (by kernel_rfl) (calls_of_vc (args := [t0]) F48_ann mixed Tryd.func48 (by kernel_rfl) (by kernel_rfl) (F48_eq t0 w R ▸ h))

/-- taciturn/taciturnref17.in -/
def F49_ann : Ann := (Ann.seq Ann.leaf (Ann.seq Ann.leaf (Ann.join [6, 11, 12, 13, 14, 15, 16, 17] [] (Ann.seq Ann.leaf (Ann.seq Ann.leaf (Ann.cond Ann.leaf Ann.leaf))) (Ann.seq (Ann.seq Ann.leaf (Ann.block (Ann.loop [7, 18, 19, 20, 21, 22, 23, 24, 25, 26, 27, 28, 29, 30, 31] [7] (Ann.seq (Ann.seq Ann.leaf (Ann.cond Ann.leaf Ann.leaf)) (Ann.seq (Ann.block Ann.leaf) Ann.leaf))))) (Ann.seq Ann.leaf Ann.leaf)))))
def F49_den (t0 : Value) (t1 : Value) (w : World) (R : Value → World → Prop) : Prop :=
  V Tryd.prog (Instr.box 76 t0) w fun t2 w1 =>
  V Tryd.prog (Instr.buildSlice 28 0 #[]) w1 fun t8 w2 =>
  V Tryd.prog (Builtin.append_ #[28, 28] 28 #[t8, t1]) w2 fun t10 w3 =>
  ∃ J1 : NP 0,
  (V Tryd.prog (Instr.loadAt 76 t2) w3 fun t11 w4 =>
  callD Tryd.prog 29 #[t11] w4 fun t12 w5 =>
  V Tryd.prog (binOp .geq 3 t12 (Value.int IntKind.i64 0)) w5 fun t14 w6 =>
  ifD t14 (
  V Tryd.prog (Instr.indexAt 28 t10 t12) w6 fun t17 w7 =>
  U Tryd.prog (Instr.storeAt 4 t17 (Value.bool false)) w7 fun _ w8 =>
  J1 w8) (
  J1 w6)) ∧
  ∀ w9 : World, J1 w9 → ∀ _f : Env,
  ∃ (I2 : NP 1) (μ2 : NF 1), I2 (Value.int IntKind.i64 0) w9 ∧
  ∀ (t7 : Value), ∀ w10 : World, I2 t7 w10 → ∀ _f : Env,
  V Tryd.prog (Instr.fieldAt 76 t2 7) w10 fun t19 w11 =>
  V Tryd.prog (Instr.loadAt 35 t19) w11 fun t20 w12 =>
  V Tryd.prog (Builtin.len_ #[35] 3 #[t20]) w12 fun t21 w13 =>
  V Tryd.prog (binOp .lss 3 t7 t21) w13 fun t22 w14 =>
  ifD t22 (
  V Tryd.prog (Instr.fieldAt 76 t2 7) w14 fun t26 w15 =>
  V Tryd.prog (Instr.loadAt 35 t26) w15 fun t27 w16 =>
  V Tryd.prog (Instr.indexAt 35 t27 t7) w16 fun t29 w17 =>
  V Tryd.prog (Instr.loadAt 3 t29) w17 fun t30 w18 =>
  V Tryd.prog (Instr.indexAt 28 t10 t30) w18 fun t31 w19 =>
  U Tryd.prog (Instr.storeAt 4 t31 (Value.bool true)) w19 fun _ w20 =>
  V Tryd.prog (binOp .add 3 t7 (Value.int IntKind.i64 1)) w20 fun t24 w21 =>
  I2 t24 w21 ∧ μ2 t24 w21 < μ2 t7 w10) (
  R t10 w14)
theorem F49_eq (t0 : Value) (t1 : Value) (w : World) (R : Value → World → Prop) : F49_den t0 t1 w R = vc Tryd.prog F49_ann (Tryd.f49.body.getD .skip) (retE Tryd.prog Tryd.f49.results.toList R) (argEnv [t0, t1]) w := by kernel_rfl
theorem F49_wp {t0 : Value} {t1 : Value} {w : World} {R : Value → World → Prop} (h : F49_den t0 t1 w R) : callD Tryd.prog 49 #[t0, t1] w R :=
  callD.of_calls (fn := Tryd.f49) (c := Tryd.f49.body.getD .skip) Tryd.func49 (by kernel_rfl) (by kernel_rfl) (calls_of_vc (args := [t0, t1]) F49_ann mixed Tryd.func49 (by kernel_rfl) (by kernel_rfl) (F49_eq t0 t1 w R ▸ h))

/-- taciturn/taciturnhand.Node$1 -/
def F50_ann : Ann := (Ann.seq Ann.leaf (Ann.seq (Ann.seq Ann.leaf (Ann.cond (Ann.seq Ann.leaf Ann.leaf) Ann.leaf)) (Ann.seq Ann.leaf Ann.leaf)))
def F50_den (t0 : Value) (t1 : Value) (w : World) (R : Value → World → Prop) : Prop :=
  V Tryd.prog (binOp .rem 3 t0 (Value.int IntKind.i64 61)) w fun t5 w1 =>
  V Tryd.prog (do eqGuard .eql 3 (Operand.tmp 5) (Operand.const (Value.int IntKind.i64 60)) t5 (Value.int IntKind.i64 60); binOp .eql 3 t5 (Value.int IntKind.i64 60)) w1 fun t6 w2 =>
  ifD t6 (
  V Tryd.prog (binOp .rem 3 t0 (Value.int IntKind.i64 70)) w2 fun t8 w3 =>
  R t8 w3) (
  V Tryd.prog (Instr.loadAt 3 t1) w2 fun t10 w4 =>
  V Tryd.prog (Builtin.max_ #[3, 3] 3 #[(Value.int IntKind.i64 1), t10]) w4 fun t11 w5 =>
  callD Tryd.prog 9 #[t0, t11] w5 fun t12 w6 =>
  R t12 w6)
theorem F50_eq (t0 : Value) (t1 : Value) (w : World) (R : Value → World → Prop) : F50_den t0 t1 w R = vc Tryd.prog F50_ann (Tryd.f50.body.getD .skip) (retE Tryd.prog Tryd.f50.results.toList R) (argEnv [t0, t1]) w := by kernel_rfl
theorem F50_wp {t0 : Value} {t1 : Value} {w : World} {R : Value → World → Prop} (h : F50_den t0 t1 w R) : callD Tryd.prog 50 #[t0, t1] w R :=
  callD.of_calls (fn := Tryd.f50) (c := Tryd.f50.body.getD .skip) Tryd.func50 (by kernel_rfl) (by kernel_rfl) (calls_of_vc (args := [t0, t1]) F50_ann mixed Tryd.func50 (by kernel_rfl) (by kernel_rfl) (F50_eq t0 t1 w R ▸ h))

/-- taciturn/taciturnref8.Serves -/
def F51_ann : Ann := (Ann.seq Ann.leaf (Ann.seq (Ann.seq Ann.leaf (Ann.block (Ann.join [4, 5, 6] [4] (Ann.seq Ann.leaf (Ann.cond Ann.leaf Ann.leaf)) (Ann.cond (Ann.seq Ann.leaf Ann.leaf) (Ann.join [7, 8, 9, 10] [7] (Ann.seq Ann.leaf (Ann.cond Ann.leaf (Ann.seq Ann.leaf (Ann.cond Ann.leaf Ann.leaf)))) (Ann.cond (Ann.seq Ann.leaf Ann.leaf) (Ann.join [11, 12, 13] [11] (Ann.seq Ann.leaf (Ann.cond Ann.leaf Ann.leaf)) (Ann.cond (Ann.seq Ann.leaf Ann.leaf) (Ann.seq (Ann.seq Ann.leaf (Ann.cond Ann.leaf Ann.leaf)) (Ann.cond (Ann.seq Ann.leaf Ann.leaf) Ann.leaf)))))))))) (Ann.seq Ann.leaf Ann.leaf)))
def F51_den (t0 : Value) (w : World) (R : Value → World → Prop) : Prop :=
  ∃ J1 : NP 1,
  (V Tryd.prog (do eqGuard .eql 3 (Operand.tmp 3) (Operand.const (Value.int IntKind.i64 27)) t0 (Value.int IntKind.i64 27); binOp .eql 3 t0 (Value.int IntKind.i64 27)) w fun t5 w1 =>
  ifD t5 (
  J1 t5 w1) (
  V Tryd.prog (do eqGuard .eql 3 (Operand.tmp 3) (Operand.const (Value.int IntKind.i64 28)) t0 (Value.int IntKind.i64 28); binOp .eql 3 t0 (Value.int IntKind.i64 28)) w1 fun t6 w2 =>
  J1 t6 w2)) ∧
  ∀ (t4 : Value), ∀ w3 : World, J1 t4 w3 → ∀ _f : Env,
  ifD t4 (
  R (Value.int IntKind.i64 1) w3) (
  ∃ J2 : NP 1,
  (V Tryd.prog (do eqGuard .eql 3 (Operand.tmp 3) (Operand.const (Value.int IntKind.i64 17)) t0 (Value.int IntKind.i64 17); binOp .eql 3 t0 (Value.int IntKind.i64 17)) w3 fun t8 w4 =>
  ifD t8 (
  J2 t8 w4) (
  V Tryd.prog (do eqGuard .eql 3 (Operand.tmp 3) (Operand.const (Value.int IntKind.i64 18)) t0 (Value.int IntKind.i64 18); binOp .eql 3 t0 (Value.int IntKind.i64 18)) w4 fun t9 w5 =>
  ifD t9 (
  J2 t9 w5) (
  V Tryd.prog (do eqGuard .eql 3 (Operand.tmp 3) (Operand.const (Value.int IntKind.i64 29)) t0 (Value.int IntKind.i64 29); binOp .eql 3 t0 (Value.int IntKind.i64 29)) w5 fun t10 w6 =>
  J2 t10 w6))) ∧
  ∀ (t7 : Value), ∀ w7 : World, J2 t7 w7 → ∀ _f : Env,
  ifD t7 (
  R (Value.int IntKind.i64 2) w7) (
  ∃ J3 : NP 1,
  (V Tryd.prog (do eqGuard .eql 3 (Operand.tmp 3) (Operand.const (Value.int IntKind.i64 30)) t0 (Value.int IntKind.i64 30); binOp .eql 3 t0 (Value.int IntKind.i64 30)) w7 fun t12 w8 =>
  ifD t12 (
  J3 t12 w8) (
  V Tryd.prog (do eqGuard .eql 3 (Operand.tmp 3) (Operand.const (Value.int IntKind.i64 36)) t0 (Value.int IntKind.i64 36); binOp .eql 3 t0 (Value.int IntKind.i64 36)) w8 fun t13 w9 =>
  J3 t13 w9)) ∧
  ∀ (t11 : Value), ∀ w10 : World, J3 t11 w10 → ∀ _f : Env,
  ifD t11 (
  R (Value.int IntKind.i64 3) w10) (
  V Tryd.prog (do eqGuard .eql 3 (Operand.tmp 3) (Operand.const (Value.int IntKind.i64 31)) t0 (Value.int IntKind.i64 31); binOp .eql 3 t0 (Value.int IntKind.i64 31)) w10 fun t15 w11 =>
  ifD t15 (
  ifD t15 (
  R (Value.int IntKind.i64 5) w11) (
  R (Value.int IntKind.i64 (-1)) w11)) (
  V Tryd.prog (do eqGuard .eql 3 (Operand.tmp 3) (Operand.const (Value.int IntKind.i64 32)) t0 (Value.int IntKind.i64 32); binOp .eql 3 t0 (Value.int IntKind.i64 32)) w11 fun t16 w12 =>
  ifD t16 (
  R (Value.int IntKind.i64 5) w12) (
  R (Value.int IntKind.i64 (-1)) w12)))))
theorem F51_eq (t0 : Value) (w : World) (R : Value → World → Prop) : F51_den t0 w R = vc Tryd.prog F51_ann (Tryd.f51.body.getD .skip) (retE Tryd.prog Tryd.f51.results.toList R) (argEnv [t0]) w := by kernel_rfl
theorem F51_wp {t0 : Value} {w : World} {R : Value → World → Prop} (h : F51_den t0 w R) : callD Tryd.prog 51 #[t0] w R :=
  callD.of_calls (fn := Tryd.f51) (c := Tryd.f51.body.getD .skip) Tryd.func51 (by kernel_rfl) (by kernel_rfl) (calls_of_vc (args := [t0]) F51_ann mixed Tryd.func51 (by kernel_rfl) (by kernel_rfl) (F51_eq t0 w R ▸ h))

/-- taciturn/ir.fields -/
def F52_ann : Ann := (Ann.seq Ann.leaf (Ann.seq (Ann.seq Ann.leaf (Ann.block (Ann.seq Ann.leaf (Ann.cond (Ann.seq Ann.leaf (Ann.seq Ann.leaf Ann.leaf)) (Ann.seq Ann.leaf (Ann.cond (Ann.seq Ann.leaf (Ann.seq Ann.leaf Ann.leaf)) (Ann.seq Ann.leaf (Ann.cond (Ann.seq Ann.leaf (Ann.seq Ann.leaf Ann.leaf)) (Ann.seq Ann.leaf (Ann.cond (Ann.seq Ann.leaf (Ann.seq Ann.leaf Ann.leaf)) (Ann.seq Ann.leaf (Ann.cond (Ann.seq Ann.leaf (Ann.seq (Ann.draw [0, 1, 2, 0, 8, 16, 36, 127] [0, 1, 2, 0, 8, 16, 36, 64] 8 (.take 0 (.take 1 (.take 3 (.take 4 (.take 5 (.only 2 (.take 6 (.take 7 .done))))))))) Ann.leaf)) (Ann.seq Ann.leaf (Ann.cond (Ann.seq Ann.leaf (Ann.seq Ann.leaf Ann.leaf)) (Ann.seq Ann.leaf (Ann.cond (Ann.seq Ann.leaf (Ann.seq Ann.leaf Ann.leaf)) Ann.leaf)))))))))))))))) (Ann.seq Ann.leaf Ann.leaf)))
def F52_den (t0 : Value) (w : World) (R : Value → World → Prop) : Prop :=
  V Tryd.prog (Instr.typeAssert t0 52 68 true) w fun t11 w1 =>
  V Tryd.prog (Instr.extract t11 1) w1 fun t12 w2 =>
  V Tryd.prog (Instr.extract t11 0) w2 fun t13 w3 =>
  ifD t12 (
  V Tryd.prog (Instr.alloc 68 true (.tuple #[])) w3 fun t3 w4 =>
  U Tryd.prog (Instr.storeAt 68 t3 t13) w4 fun _ w5 =>
  V Tryd.prog (Instr.fieldAt 68 t3 0) w5 fun t14 w6 =>
  V Tryd.prog (Instr.loadAt 3 t14) w6 fun t15 w7 =>
  callD Tryd.prog 70 #[t15] w7 fun t16 w8 =>
  R t16 w8) (
  V Tryd.prog (Instr.typeAssert t0 52 93 true) w3 fun t17 w9 =>
  V Tryd.prog (Instr.extract t17 1) w9 fun t18 w10 =>
  V Tryd.prog (Instr.extract t17 0) w10 fun t19 w11 =>
  ifD t18 (
  V Tryd.prog (Instr.alloc 93 true (.tuple #[])) w11 fun t4 w12 =>
  U Tryd.prog (Instr.storeAt 93 t4 t19) w12 fun _ w13 =>
  V Tryd.prog (Instr.fieldAt 93 t4 0) w13 fun t20 w14 =>
  V Tryd.prog (Instr.loadAt 3 t20) w14 fun t21 w15 =>
  callD Tryd.prog 71 #[t21] w15 fun t22 w16 =>
  R t22 w16) (
  V Tryd.prog (Instr.typeAssert t0 52 108 true) w11 fun t23 w17 =>
  V Tryd.prog (Instr.extract t23 1) w17 fun t24 w18 =>
  V Tryd.prog (Instr.extract t23 0) w18 fun t25 w19 =>
  ifD t24 (
  V Tryd.prog (Instr.alloc 108 true (.tuple #[])) w19 fun t5 w20 =>
  U Tryd.prog (Instr.storeAt 108 t5 t25) w20 fun _ w21 =>
  V Tryd.prog (Instr.fieldAt 108 t5 1) w21 fun t26 w22 =>
  V Tryd.prog (Instr.loadAt 3 t26) w22 fun t27 w23 =>
  callD Tryd.prog 23 #[t27, (Value.int IntKind.i64 8)] w23 fun t28 w24 =>
  R t28 w24) (
  V Tryd.prog (Instr.typeAssert t0 52 110 true) w19 fun t29 w25 =>
  V Tryd.prog (Instr.extract t29 1) w25 fun t30 w26 =>
  V Tryd.prog (Instr.extract t29 0) w26 fun t31 w27 =>
  ifD t30 (
  V Tryd.prog (Instr.alloc 110 true (.tuple #[])) w27 fun t6 w28 =>
  U Tryd.prog (Instr.storeAt 110 t6 t31) w28 fun _ w29 =>
  V Tryd.prog (Instr.fieldAt 110 t6 0) w29 fun t32 w30 =>
  V Tryd.prog (Instr.loadAt 3 t32) w30 fun t33 w31 =>
  callD Tryd.prog 23 #[t33, (Value.int IntKind.i64 8)] w31 fun t34 w32 =>
  R t34 w32) (
  V Tryd.prog (Instr.typeAssert t0 52 112 true) w27 fun t35 w33 =>
  V Tryd.prog (Instr.extract t35 1) w33 fun t36 w34 =>
  V Tryd.prog (Instr.extract t35 0) w34 fun t37 w35 =>
  ifD t36 (
  V Tryd.prog (Instr.alloc 112 true (.tuple #[])) w35 fun t7 w36 =>
  U Tryd.prog (Instr.storeAt 112 t7 t37) w36 fun _ w37 =>
  drawD w37 fun S16 w38 =>
  yieldS Tryd.prog S16 (Instr.fieldAt 112 t7 0) fun t38 =>
  yieldS Tryd.prog S16 (Instr.loadAt 3 t38) fun t39 =>
  yieldS Tryd.prog S16 (Instr.fieldAt 112 t7 4) fun t41 =>
  yieldS Tryd.prog S16 (Instr.loadAt 35 t41) fun t42 =>
  yieldS Tryd.prog S16 (Builtin.len_ #[35] 3 #[t42]) fun t43 =>
  callD Tryd.prog 72 #[t39] w38 fun t40 w39 =>
  S16 w39 ∧
  yieldS Tryd.prog S16 (do eqGuard .eql 3 (Operand.tmp 40) (Operand.tmp 43) t40 t43; binOp .eql 3 t40 t43) fun t44 =>
  R t44 w39) (
  V Tryd.prog (Instr.typeAssert t0 52 114 true) w35 fun t45 w40 =>
  V Tryd.prog (Instr.extract t45 1) w40 fun t46 w41 =>
  V Tryd.prog (Instr.extract t45 0) w41 fun t47 w42 =>
  ifD t46 (
  V Tryd.prog (Instr.alloc 114 true (.tuple #[])) w42 fun t8 w43 =>
  U Tryd.prog (Instr.storeAt 114 t8 t47) w43 fun _ w44 =>
  V Tryd.prog (Instr.fieldAt 114 t8 0) w44 fun t48 w45 =>
  V Tryd.prog (Instr.loadAt 3 t48) w45 fun t49 w46 =>
  callD Tryd.prog 23 #[t49, (Value.int IntKind.i64 8)] w46 fun t50 w47 =>
  gd t50 true (fun K => V Tryd.prog (Instr.fieldAt 114 t8 2) w47 K) w47 fun t52 w48 =>
  gd t50 true (fun K => V Tryd.prog (Instr.loadAt 35 t52) w48 K) w48 fun t53 w49 =>
  gd t50 true (fun K => V Tryd.prog (Builtin.len_ #[35] 3 #[t53]) w49 K) w49 fun t54 w50 =>
  gd t50 true (fun K => V Tryd.prog (binOp .leq 3 t54 (Value.int IntKind.i64 4)) w50 K) w50 fun t55 w51 =>
  pickD t50 t55 (Value.bool false) fun t56 =>
  R t56 w51) (
  V Tryd.prog (Instr.typeAssert t0 52 116 true) w42 fun t57 w53 =>
  V Tryd.prog (Instr.extract t57 1) w53 fun t58 w54 =>
  V Tryd.prog (Instr.extract t57 0) w54 fun t59 w55 =>
  ifD t58 (
  V Tryd.prog (Instr.alloc 116 true (.tuple #[])) w55 fun t9 w56 =>
  U Tryd.prog (Instr.storeAt 116 t9 t59) w56 fun _ w57 =>
  V Tryd.prog (Instr.fieldAt 116 t9 0) w57 fun t60 w58 =>
  V Tryd.prog (Instr.loadAt 3 t60) w58 fun t61 w59 =>
  callD Tryd.prog 23 #[t61, (Value.int IntKind.i64 4)] w59 fun t62 w60 =>
  gd t62 true (fun K => V Tryd.prog (Instr.fieldAt 116 t9 2) w60 K) w60 fun t64 w61 =>
  gd t62 true (fun K => V Tryd.prog (Instr.loadAt 35 t64) w61 K) w61 fun t65 w62 =>
  gd t62 true (fun K => V Tryd.prog (Builtin.len_ #[35] 3 #[t65]) w62 K) w62 fun t66 w63 =>
  gd t62 true (fun K => V Tryd.prog (binOp .leq 3 t66 (Value.int IntKind.i64 4)) w63 K) w63 fun t67 w64 =>
  pickD t62 t67 (Value.bool false) fun t68 =>
  R t68 w64) (
  V Tryd.prog (do eqGuard .neq 52 (Operand.tmp 69) (Operand.const Value.nilIface) t0 Value.nilIface; binOp .neq 52 t0 Value.nilIface) w55 fun t70 w66 =>
  R t70 w66)))))))
theorem F52_eq (t0 : Value) (w : World) (R : Value → World → Prop) : F52_den t0 w R = vc Tryd.prog F52_ann (Tryd.f52.body.getD .skip) (retE Tryd.prog Tryd.f52.results.toList R) (argEnv [t0]) w := by kernel_rfl
theorem F52_wp {t0 : Value} {w : World} {R : Value → World → Prop} (h : F52_den t0 w R) : callD Tryd.prog 52 #[t0] w R :=
  callD.of_calls (fn := Tryd.f52) (c := Tryd.f52.body.getD .skip) Tryd.func52 (by kernel_rfl) (by kernel_rfl) (calls_of_vc (args := [t0]) F52_ann mixed Tryd.func52 (by kernel_rfl) (by kernel_rfl) (F52_eq t0 w R ▸ h))

/-- taciturn/ir.bare -/
def F53_ann : Ann := (Ann.seq Ann.leaf (Ann.seq (Ann.seq Ann.leaf (Ann.block (Ann.seq Ann.leaf (Ann.cond (Ann.seq Ann.leaf Ann.leaf) Ann.leaf)))) (Ann.seq Ann.leaf Ann.leaf)))
def F53_den (t0 : Value) (w : World) (R : Value → World → Prop) : Prop :=
  V Tryd.prog (Instr.typeAssert t0 52 61 true) w fun t4 w1 =>
  V Tryd.prog (Instr.extract t4 1) w1 fun t5 w2 =>
  V Tryd.prog (Instr.extract t4 0) w2 fun t6 w3 =>
  V Tryd.prog (Instr.typeAssert t0 52 91 true) w3 fun t7 w4 =>
  V Tryd.prog (Instr.extract t7 1) w4 fun t8 w5 =>
  V Tryd.prog (Instr.extract t7 0) w5 fun t9 w6 =>
  V Tryd.prog (Instr.typeAssert t0 52 68 true) w6 fun t10 w7 =>
  V Tryd.prog (Instr.extract t10 1) w7 fun t11 w8 =>
  V Tryd.prog (Instr.extract t10 0) w8 fun t12 w9 =>
  V Tryd.prog (Instr.typeAssert t0 52 93 true) w9 fun t13 w10 =>
  V Tryd.prog (Instr.extract t13 1) w10 fun t14 w11 =>
  V Tryd.prog (Instr.extract t13 0) w11 fun t15 w12 =>
  V Tryd.prog (Instr.typeAssert t0 52 95 true) w12 fun t16 w13 =>
  V Tryd.prog (Instr.extract t16 1) w13 fun t17 w14 =>
  V Tryd.prog (Instr.extract t16 0) w14 fun t18 w15 =>
  V Tryd.prog (Instr.typeAssert t0 52 108 true) w15 fun t19 w16 =>
  V Tryd.prog (Instr.extract t19 1) w16 fun t20 w17 =>
  V Tryd.prog (Instr.extract t19 0) w17 fun t21 w18 =>
  pickD t17 (Value.bool true) t20 fun t22 =>
  pickD t14 (Value.bool true) t22 fun t23 =>
  pickD t11 (Value.bool true) t23 fun t24 =>
  pickD t8 (Value.bool true) t24 fun t25 =>
  pickD t5 (Value.bool true) t25 fun t26 =>
  ifD t26 (
  R (Value.bool false) w18) (
  R (Value.bool true) w18)
theorem F53_eq (t0 : Value) (w : World) (R : Value → World → Prop) : F53_den t0 w R = vc Tryd.prog F53_ann (Tryd.f53.body.getD .skip) (retE Tryd.prog Tryd.f53.results.toList R) (argEnv [t0]) w := by kernel_rfl
theorem F53_wp {t0 : Value} {w : World} {R : Value → World → Prop} (h : F53_den t0 w R) : callD Tryd.prog 53 #[t0] w R :=
  callD.of_calls (fn := Tryd.f53) (c := Tryd.f53.body.getD .skip) Tryd.func53 (by kernel_rfl) (by kernel_rfl) (calls_of_vc (args := [t0]) F53_ann mixed Tryd.func53 (by kernel_rfl) (by kernel_rfl) (F53_eq t0 w R ▸ h))

/-- slices.Clone[[]int,int] -/
def F54_ann : Ann := (Ann.seq Ann.leaf (Ann.seq (Ann.seq Ann.leaf (Ann.cond (Ann.seq Ann.leaf Ann.leaf) Ann.leaf)) (Ann.seq Ann.leaf Ann.leaf)))
def F54_den (t0 : Value) (w : World) (R : Value → World → Prop) : Prop :=
  V Tryd.prog (do eqGuard .eql 35 (Operand.tmp 3) (Operand.const (Value.slice none 0 0)) t0 (Value.slice none 0 0); binOp .eql 35 t0 (Value.slice none 0 0)) w fun t4 w1 =>
  ifD t4 (
  R (Value.slice none 0 0) w1) (
  V Tryd.prog (Instr.buildSlice 35 0 #[]) w1 fun t5 w2 =>
  V Tryd.prog (Builtin.append_ #[35, 35] 35 #[t5, t0]) w2 fun t7 w3 =>
  R t7 w3)
theorem F54_eq (t0 : Value) (w : World) (R : Value → World → Prop) : F54_den t0 w R = vc Tryd.prog F54_ann (Tryd.f54.body.getD .skip) (retE Tryd.prog Tryd.f54.results.toList R) (argEnv [t0]) w := by kernel_rfl
theorem F54_wp {t0 : Value} {w : World} {R : Value → World → Prop} (h : F54_den t0 w R) : callD Tryd.prog 54 #[t0] w R :=
  callD.of_calls (fn := Tryd.f54) (c := Tryd.f54.body.getD .skip) Tryd.func54 (by kernel_rfl) (by kernel_rfl) (calls_of_vc (args := [t0]) F54_ann mixed Tryd.func54 (by kernel_rfl) (by kernel_rfl) (F54_eq t0 w R ▸ h))

/-- taciturn/word.Add -/
def F55_ann : Ann := (Ann.seq Ann.leaf (Ann.seq Ann.leaf Ann.leaf))
def F55_den (t0 : Value) (t1 : Value) (w : World) (R : Value → World → Prop) : Prop :=
  V Tryd.prog (binOp .add 21 t0 t1) w fun t7 w1 =>
  R t7 w1
theorem F55_eq (t0 : Value) (t1 : Value) (w : World) (R : Value → World → Prop) : F55_den t0 t1 w R = vc Tryd.prog F55_ann (Tryd.f55.body.getD .skip) (retE Tryd.prog Tryd.f55.results.toList R) (argEnv [t0, t1]) w := by kernel_rfl
theorem F55_wp {t0 : Value} {t1 : Value} {w : World} {R : Value → World → Prop} (h : F55_den t0 t1 w R) : callD Tryd.prog 55 #[t0, t1] w R :=
  callD.of_calls (fn := Tryd.f55) (c := Tryd.f55.body.getD .skip) Tryd.func55 (by kernel_rfl) (by kernel_rfl) (calls_of_vc (args := [t0, t1]) F55_ann mixed Tryd.func55 (by kernel_rfl) (by kernel_rfl) (F55_eq t0 t1 w R ▸ h))

/-- taciturn/word.Sub -/
def F56_ann : Ann := (Ann.seq Ann.leaf (Ann.seq Ann.leaf Ann.leaf))
def F56_den (t0 : Value) (t1 : Value) (w : World) (R : Value → World → Prop) : Prop :=
  V Tryd.prog (binOp .sub 21 t0 t1) w fun t7 w1 =>
  R t7 w1
theorem F56_eq (t0 : Value) (t1 : Value) (w : World) (R : Value → World → Prop) : F56_den t0 t1 w R = vc Tryd.prog F56_ann (Tryd.f56.body.getD .skip) (retE Tryd.prog Tryd.f56.results.toList R) (argEnv [t0, t1]) w := by kernel_rfl
theorem F56_wp {t0 : Value} {t1 : Value} {w : World} {R : Value → World → Prop} (h : F56_den t0 t1 w R) : callD Tryd.prog 56 #[t0, t1] w R :=
  callD.of_calls (fn := Tryd.f56) (c := Tryd.f56.body.getD .skip) Tryd.func56 (by kernel_rfl) (by kernel_rfl) (calls_of_vc (args := [t0, t1]) F56_ann mixed Tryd.func56 (by kernel_rfl) (by kernel_rfl) (F56_eq t0 t1 w R ▸ h))

/-- taciturn/word.Mul -/
def F57_ann : Ann := (Ann.seq Ann.leaf (Ann.seq Ann.leaf Ann.leaf))
def F57_den (t0 : Value) (t1 : Value) (w : World) (R : Value → World → Prop) : Prop :=
  V Tryd.prog (binOp .mul 21 t0 t1) w fun t7 w1 =>
  R t7 w1
theorem F57_eq (t0 : Value) (t1 : Value) (w : World) (R : Value → World → Prop) : F57_den t0 t1 w R = vc Tryd.prog F57_ann (Tryd.f57.body.getD .skip) (retE Tryd.prog Tryd.f57.results.toList R) (argEnv [t0, t1]) w := by kernel_rfl
theorem F57_wp {t0 : Value} {t1 : Value} {w : World} {R : Value → World → Prop} (h : F57_den t0 t1 w R) : callD Tryd.prog 57 #[t0, t1] w R :=
  callD.of_calls (fn := Tryd.f57) (c := Tryd.f57.body.getD .skip) Tryd.func57 (by kernel_rfl) (by kernel_rfl) (calls_of_vc (args := [t0, t1]) F57_ann mixed Tryd.func57 (by kernel_rfl) (by kernel_rfl) (F57_eq t0 t1 w R ▸ h))

/-- taciturn/word.And -/
def F58_ann : Ann := (Ann.seq Ann.leaf (Ann.seq Ann.leaf Ann.leaf))
def F58_den (t0 : Value) (t1 : Value) (w : World) (R : Value → World → Prop) : Prop :=
  V Tryd.prog (binOp .and 21 t0 t1) w fun t7 w1 =>
  R t7 w1
theorem F58_eq (t0 : Value) (t1 : Value) (w : World) (R : Value → World → Prop) : F58_den t0 t1 w R = vc Tryd.prog F58_ann (Tryd.f58.body.getD .skip) (retE Tryd.prog Tryd.f58.results.toList R) (argEnv [t0, t1]) w := by kernel_rfl
theorem F58_wp {t0 : Value} {t1 : Value} {w : World} {R : Value → World → Prop} (h : F58_den t0 t1 w R) : callD Tryd.prog 58 #[t0, t1] w R :=
  callD.of_calls (fn := Tryd.f58) (c := Tryd.f58.body.getD .skip) Tryd.func58 (by kernel_rfl) (by kernel_rfl) (calls_of_vc (args := [t0, t1]) F58_ann mixed Tryd.func58 (by kernel_rfl) (by kernel_rfl) (F58_eq t0 t1 w R ▸ h))

/-- taciturn/word.Or -/
def F59_ann : Ann := (Ann.seq Ann.leaf (Ann.seq Ann.leaf Ann.leaf))
def F59_den (t0 : Value) (t1 : Value) (w : World) (R : Value → World → Prop) : Prop :=
  V Tryd.prog (binOp .or 21 t0 t1) w fun t7 w1 =>
  R t7 w1
theorem F59_eq (t0 : Value) (t1 : Value) (w : World) (R : Value → World → Prop) : F59_den t0 t1 w R = vc Tryd.prog F59_ann (Tryd.f59.body.getD .skip) (retE Tryd.prog Tryd.f59.results.toList R) (argEnv [t0, t1]) w := by kernel_rfl
theorem F59_wp {t0 : Value} {t1 : Value} {w : World} {R : Value → World → Prop} (h : F59_den t0 t1 w R) : callD Tryd.prog 59 #[t0, t1] w R :=
  callD.of_calls (fn := Tryd.f59) (c := Tryd.f59.body.getD .skip) Tryd.func59 (by kernel_rfl) (by kernel_rfl) (calls_of_vc (args := [t0, t1]) F59_ann mixed Tryd.func59 (by kernel_rfl) (by kernel_rfl) (F59_eq t0 t1 w R ▸ h))

/-- taciturn/word.Xor -/
def F60_ann : Ann := (Ann.seq Ann.leaf (Ann.seq Ann.leaf Ann.leaf))
def F60_den (t0 : Value) (t1 : Value) (w : World) (R : Value → World → Prop) : Prop :=
  V Tryd.prog (binOp .xor 21 t0 t1) w fun t7 w1 =>
  R t7 w1
theorem F60_eq (t0 : Value) (t1 : Value) (w : World) (R : Value → World → Prop) : F60_den t0 t1 w R = vc Tryd.prog F60_ann (Tryd.f60.body.getD .skip) (retE Tryd.prog Tryd.f60.results.toList R) (argEnv [t0, t1]) w := by kernel_rfl
theorem F60_wp {t0 : Value} {t1 : Value} {w : World} {R : Value → World → Prop} (h : F60_den t0 t1 w R) : callD Tryd.prog 60 #[t0, t1] w R :=
  callD.of_calls (fn := Tryd.f60) (c := Tryd.f60.body.getD .skip) Tryd.func60 (by kernel_rfl) (by kernel_rfl) (calls_of_vc (args := [t0, t1]) F60_ann mixed Tryd.func60 (by kernel_rfl) (by kernel_rfl) (F60_eq t0 t1 w R ▸ h))

/-- taciturn/word.Shl -/
def F61_ann : Ann := (Ann.seq Ann.leaf (Ann.seq Ann.leaf Ann.leaf))
def F61_den (t0 : Value) (t1 : Value) (w : World) (R : Value → World → Prop) : Prop :=
  V Tryd.prog (binOp .and 21 t1 (Value.int IntKind.i32 31)) w fun t7 w1 =>
  V Tryd.prog (binOp .shl 21 t0 t7) w1 fun t8 w2 =>
  R t8 w2
theorem F61_eq (t0 : Value) (t1 : Value) (w : World) (R : Value → World → Prop) : F61_den t0 t1 w R = vc Tryd.prog F61_ann (Tryd.f61.body.getD .skip) (retE Tryd.prog Tryd.f61.results.toList R) (argEnv [t0, t1]) w := by kernel_rfl
theorem F61_wp {t0 : Value} {t1 : Value} {w : World} {R : Value → World → Prop} (h : F61_den t0 t1 w R) : callD Tryd.prog 61 #[t0, t1] w R :=
  callD.of_calls (fn := Tryd.f61) (c := Tryd.f61.body.getD .skip) Tryd.func61 (by kernel_rfl) (by kernel_rfl) (calls_of_vc (args := [t0, t1]) F61_ann mixed Tryd.func61 (by kernel_rfl) (by kernel_rfl) (F61_eq t0 t1 w R ▸ h))

/-- taciturn/word.Shr -/
def F62_ann : Ann := (Ann.seq Ann.leaf (Ann.seq Ann.leaf Ann.leaf))
def F62_den (t0 : Value) (t1 : Value) (w : World) (R : Value → World → Prop) : Prop :=
  V Tryd.prog (convert 21 126 t0) w fun t6 w1 =>
  V Tryd.prog (binOp .and 21 t1 (Value.int IntKind.i32 31)) w1 fun t8 w2 =>
  V Tryd.prog (binOp .shr 126 t6 t8) w2 fun t9 w3 =>
  V Tryd.prog (convert 126 21 t9) w3 fun t10 w4 =>
  R t10 w4
theorem F62_eq (t0 : Value) (t1 : Value) (w : World) (R : Value → World → Prop) : F62_den t0 t1 w R = vc Tryd.prog F62_ann (Tryd.f62.body.getD .skip) (retE Tryd.prog Tryd.f62.results.toList R) (argEnv [t0, t1]) w := by kernel_rfl
theorem F62_wp {t0 : Value} {t1 : Value} {w : World} {R : Value → World → Prop} (h : F62_den t0 t1 w R) : callD Tryd.prog 62 #[t0, t1] w R :=
  callD.of_calls (fn := Tryd.f62) (c := Tryd.f62.body.getD .skip) Tryd.func62 (by kernel_rfl) (by kernel_rfl) (calls_of_vc (args := [t0, t1]) F62_ann mixed Tryd.func62 (by kernel_rfl) (by kernel_rfl) (F62_eq t0 t1 w R ▸ h))

/-- taciturn/word.Sar -/
def F63_ann : Ann := (Ann.seq Ann.leaf (Ann.seq Ann.leaf Ann.leaf))
def F63_den (t0 : Value) (t1 : Value) (w : World) (R : Value → World → Prop) : Prop :=
  V Tryd.prog (binOp .and 21 t1 (Value.int IntKind.i32 31)) w fun t7 w1 =>
  V Tryd.prog (binOp .shr 21 t0 t7) w1 fun t8 w2 =>
  R t8 w2
theorem F63_eq (t0 : Value) (t1 : Value) (w : World) (R : Value → World → Prop) : F63_den t0 t1 w R = vc Tryd.prog F63_ann (Tryd.f63.body.getD .skip) (retE Tryd.prog Tryd.f63.results.toList R) (argEnv [t0, t1]) w := by kernel_rfl
theorem F63_wp {t0 : Value} {t1 : Value} {w : World} {R : Value → World → Prop} (h : F63_den t0 t1 w R) : callD Tryd.prog 63 #[t0, t1] w R :=
  callD.of_calls (fn := Tryd.f63) (c := Tryd.f63.body.getD .skip) Tryd.func63 (by kernel_rfl) (by kernel_rfl) (calls_of_vc (args := [t0, t1]) F63_ann mixed Tryd.func63 (by kernel_rfl) (by kernel_rfl) (F63_eq t0 t1 w R ▸ h))

/-- taciturn/word.Eq -/
def F64_ann : Ann := (Ann.seq Ann.leaf (Ann.seq Ann.leaf Ann.leaf))
def F64_den (t0 : Value) (t1 : Value) (w : World) (R : Value → World → Prop) : Prop :=
  V Tryd.prog (binOp .xor 21 t0 t1) w fun t7 w1 =>
  callD Tryd.prog 69 #[t7] w1 fun t8 w2 =>
  V Tryd.prog (binOp .sub 21 (Value.int IntKind.i32 1) t8) w2 fun t9 w3 =>
  R t9 w3
theorem F64_eq (t0 : Value) (t1 : Value) (w : World) (R : Value → World → Prop) : F64_den t0 t1 w R = vc Tryd.prog F64_ann (Tryd.f64.body.getD .skip) (retE Tryd.prog Tryd.f64.results.toList R) (argEnv [t0, t1]) w := by kernel_rfl
theorem F64_wp {t0 : Value} {t1 : Value} {w : World} {R : Value → World → Prop} (h : F64_den t0 t1 w R) : callD Tryd.prog 64 #[t0, t1] w R :=
  callD.of_calls (fn := Tryd.f64) (c := Tryd.f64.body.getD .skip) Tryd.func64 (by kernel_rfl) (by kernel_rfl) (calls_of_vc (args := [t0, t1]) F64_ann mixed Tryd.func64 (by kernel_rfl) (by kernel_rfl) (F64_eq t0 t1 w R ▸ h))

/-- taciturn/word.Lt -/
def F65_ann : Ann := (Ann.seq Ann.leaf (Ann.seq Ann.leaf (Ann.seq Ann.leaf Ann.leaf)))
def F65_den (t0 : Value) (t1 : Value) (w : World) (R : Value → World → Prop) : Prop :=
  V Tryd.prog (convert 21 2 t0) w fun t7 w1 =>
  V Tryd.prog (convert 21 2 t1) w1 fun t9 w2 =>
  V Tryd.prog (binOp .sub 2 t7 t9) w2 fun t10 w3 =>
  V Tryd.prog (convert 2 127 t10) w3 fun t12 w4 =>
  V Tryd.prog (binOp .shr 127 t12 (Value.int IntKind.u64 63)) w4 fun t13 w5 =>
  V Tryd.prog (convert 127 21 t13) w5 fun t14 w6 =>
  R t14 w6
theorem F65_eq (t0 : Value) (t1 : Value) (w : World) (R : Value → World → Prop) : F65_den t0 t1 w R = vc Tryd.prog F65_ann (Tryd.f65.body.getD .skip) (retE Tryd.prog Tryd.f65.results.toList R) (argEnv [t0, t1]) w := by kernel_rfl
theorem F65_wp {t0 : Value} {t1 : Value} {w : World} {R : Value → World → Prop} (h : F65_den t0 t1 w R) : callD Tryd.prog 65 #[t0, t1] w R :=
  callD.of_calls (fn := Tryd.f65) (c := Tryd.f65.body.getD .skip) Tryd.func65 (by kernel_rfl) (by kernel_rfl) (calls_of_vc (args := [t0, t1]) F65_ann mixed Tryd.func65 (by kernel_rfl) (by kernel_rfl) (F65_eq t0 t1 w R ▸ h))

/-- taciturn/word.Below -/
def F66_ann : Ann := (Ann.seq Ann.leaf (Ann.seq Ann.leaf (Ann.seq Ann.leaf Ann.leaf)))
def F66_den (t0 : Value) (t1 : Value) (w : World) (R : Value → World → Prop) : Prop :=
  V Tryd.prog (convert 21 126 t0) w fun t7 w1 =>
  V Tryd.prog (convert 126 2 t7) w1 fun t8 w2 =>
  V Tryd.prog (convert 21 126 t1) w2 fun t10 w3 =>
  V Tryd.prog (convert 126 2 t10) w3 fun t11 w4 =>
  V Tryd.prog (binOp .sub 2 t8 t11) w4 fun t12 w5 =>
  V Tryd.prog (convert 2 127 t12) w5 fun t14 w6 =>
  V Tryd.prog (binOp .shr 127 t14 (Value.int IntKind.u64 63)) w6 fun t15 w7 =>
  V Tryd.prog (convert 127 21 t15) w7 fun t16 w8 =>
  R t16 w8
theorem F66_eq (t0 : Value) (t1 : Value) (w : World) (R : Value → World → Prop) : F66_den t0 t1 w R = vc Tryd.prog F66_ann (Tryd.f66.body.getD .skip) (retE Tryd.prog Tryd.f66.results.toList R) (argEnv [t0, t1]) w := by kernel_rfl
theorem F66_wp {t0 : Value} {t1 : Value} {w : World} {R : Value → World → Prop} (h : F66_den t0 t1 w R) : callD Tryd.prog 66 #[t0, t1] w R :=
  callD.of_calls (fn := Tryd.f66) (c := Tryd.f66.body.getD .skip) Tryd.func66 (by kernel_rfl) (by kernel_rfl) (calls_of_vc (args := [t0, t1]) F66_ann mixed Tryd.func66 (by kernel_rfl) (by kernel_rfl) (F66_eq t0 t1 w R ▸ h))

/-- taciturn/word.Neg -/
def F67_ann : Ann := (Ann.seq Ann.leaf (Ann.seq Ann.leaf Ann.leaf))
def F67_den (t0 : Value) (w : World) (R : Value → World → Prop) : Prop :=
  V Tryd.prog (Op.unary UnOp.neg t0) w fun t4 w1 =>
  R t4 w1
theorem F67_eq (t0 : Value) (w : World) (R : Value → World → Prop) : F67_den t0 w R = vc Tryd.prog F67_ann (Tryd.f67.body.getD .skip) (retE Tryd.prog Tryd.f67.results.toList R) (argEnv [t0]) w := by kernel_rfl
theorem F67_wp {t0 : Value} {w : World} {R : Value → World → Prop} (h : F67_den t0 w R) : callD Tryd.prog 67 #[t0] w R :=
  callD.of_calls (fn := Tryd.f67) (c := Tryd.f67.body.getD .skip) Tryd.func67 (by kernel_rfl) (by kernel_rfl) (calls_of_vc (args := [t0]) F67_ann mixed Tryd.func67 (by kernel_rfl) (by kernel_rfl) (F67_eq t0 w R ▸ h))

/-- taciturn/word.Not -/
def F68_ann : Ann := (Ann.seq Ann.leaf (Ann.seq Ann.leaf Ann.leaf))
def F68_den (t0 : Value) (w : World) (R : Value → World → Prop) : Prop :=
  V Tryd.prog (Op.unary UnOp.xor t0) w fun t4 w1 =>
  R t4 w1
theorem F68_eq (t0 : Value) (w : World) (R : Value → World → Prop) : F68_den t0 w R = vc Tryd.prog F68_ann (Tryd.f68.body.getD .skip) (retE Tryd.prog Tryd.f68.results.toList R) (argEnv [t0]) w := by kernel_rfl
theorem F68_wp {t0 : Value} {w : World} {R : Value → World → Prop} (h : F68_den t0 w R) : callD Tryd.prog 68 #[t0] w R :=
  callD.of_calls (fn := Tryd.f68) (c := Tryd.f68.body.getD .skip) Tryd.func68 (by kernel_rfl) (by kernel_rfl) (calls_of_vc (args := [t0]) F68_ann mixed Tryd.func68 (by kernel_rfl) (by kernel_rfl) (F68_eq t0 w R ▸ h))

/-- taciturn/word.some -/
def F69_ann : Ann := (Ann.seq Ann.leaf (Ann.seq Ann.leaf Ann.leaf))
def F69_den (t0 : Value) (w : World) (R : Value → World → Prop) : Prop :=
  V Tryd.prog (Op.unary UnOp.neg t0) w fun t5 w1 =>
  V Tryd.prog (binOp .or 21 t0 t5) w1 fun t6 w2 =>
  callD Tryd.prog 62 #[t6, (Value.int IntKind.i32 31)] w2 fun t7 w3 =>
  R t7 w3
theorem F69_eq (t0 : Value) (w : World) (R : Value → World → Prop) : F69_den t0 w R = vc Tryd.prog F69_ann (Tryd.f69.body.getD .skip) (retE Tryd.prog Tryd.f69.results.toList R) (argEnv [t0]) w := by kernel_rfl
theorem F69_wp {t0 : Value} {w : World} {R : Value → World → Prop} (h : F69_den t0 w R) : callD Tryd.prog 69 #[t0] w R :=
  callD.of_calls (fn := Tryd.f69) (c := Tryd.f69.body.getD .skip) Tryd.func69 (by kernel_rfl) (by kernel_rfl) (calls_of_vc (args := [t0]) F69_ann mixed Tryd.func69 (by kernel_rfl) (by kernel_rfl) (F69_eq t0 w R ▸ h))

/-- taciturn/ir.binary -/
def F70_ann : Ann := (Ann.seq Ann.leaf (Ann.seq Ann.leaf Ann.leaf))
def F70_den (t0 : Value) (w : World) (R : Value → World → Prop) : Prop :=
  V Tryd.prog (binOp .geq 3 t0 (Value.int IntKind.i64 6)) w fun t4 w1 =>
  gd t4 true (fun K => K t0 w1) w1 fun t6 w2 =>
  gd t4 true (fun K => V Tryd.prog (binOp .leq 3 t6 (Value.int IntKind.i64 14)) w2 K) w2 fun t7 w3 =>
  pickD t4 t7 (Value.bool false) fun t8 =>
  gd t8 false (fun K => K t0 w3) w3 fun t10 w5 =>
  gd t8 false (fun K => V Tryd.prog (binOp .geq 3 t10 (Value.int IntKind.i64 19)) w5 K) w5 fun t11 w6 =>
  gd t8 false (fun K => K t11 w6) w6 fun t12 w7 =>
  gd t12 true (fun K => K t0 w7) w7 fun t13 w8 =>
  gd t12 true (fun K => V Tryd.prog (binOp .leq 3 t13 (Value.int IntKind.i64 21)) w8 K) w8 fun t14 w9 =>
  gd t8 false (fun K => pickD t12 t14 (Value.bool false) fun v => K v w9) w9 fun t15 w10 =>
  pickD t8 (Value.bool true) t15 fun t16 =>
  R t16 w10
theorem F70_eq (t0 : Value) (w : World) (R : Value → World → Prop) : F70_den t0 w R = vc Tryd.prog F70_ann (Tryd.f70.body.getD .skip) (retE Tryd.prog Tryd.f70.results.toList R) (argEnv [t0]) w := by kernel_rfl
theorem F70_wp {t0 : Value} {w : World} {R : Value → World → Prop} (h : F70_den t0 w R) : callD Tryd.prog 70 #[t0] w R :=
  callD.of_calls (fn := Tryd.f70) (c := Tryd.f70.body.getD .skip) Tryd.func70 (by kernel_rfl) (by kernel_rfl) (calls_of_vc (args := [t0]) F70_ann mixed Tryd.func70 (by kernel_rfl) (by kernel_rfl) (F70_eq t0 w R ▸ h))

/-- taciturn/ir.unary -/
def F71_ann : Ann := (Ann.seq Ann.leaf (Ann.seq Ann.leaf Ann.leaf))
def F71_den (t0 : Value) (w : World) (R : Value → World → Prop) : Prop :=
  V Tryd.prog (do eqGuard .eql 3 (Operand.tmp 3) (Operand.const (Value.int IntKind.i64 15)) t0 (Value.int IntKind.i64 15); binOp .eql 3 t0 (Value.int IntKind.i64 15)) w fun t4 w1 =>
  gd t4 false (fun K => K t0 w1) w1 fun t6 w2 =>
  gd t4 false (fun K => V Tryd.prog (do eqGuard .eql 3 (Operand.tmp 6) (Operand.const (Value.int IntKind.i64 16)) t6 (Value.int IntKind.i64 16); binOp .eql 3 t6 (Value.int IntKind.i64 16)) w2 K) w2 fun t7 w3 =>
  pickD t4 (Value.bool true) t7 fun t8 =>
  gd t8 false (fun K => K t0 w3) w3 fun t10 w5 =>
  gd t8 false (fun K => V Tryd.prog (do eqGuard .eql 3 (Operand.tmp 10) (Operand.const (Value.int IntKind.i64 26)) t10 (Value.int IntKind.i64 26); binOp .eql 3 t10 (Value.int IntKind.i64 26)) w5 K) w5 fun t11 w6 =>
  pickD t8 (Value.bool true) t11 fun t12 =>
  R t12 w6
theorem F71_eq (t0 : Value) (w : World) (R : Value → World → Prop) : F71_den t0 w R = vc Tryd.prog F71_ann (Tryd.f71.body.getD .skip) (retE Tryd.prog Tryd.f71.results.toList R) (argEnv [t0]) w := by kernel_rfl
theorem F71_wp {t0 : Value} {w : World} {R : Value → World → Prop} (h : F71_den t0 w R) : callD Tryd.prog 71 #[t0] w R :=
  callD.of_calls (fn := Tryd.f71) (c := Tryd.f71.body.getD .skip) Tryd.func71 (by kernel_rfl) (by kernel_rfl) (calls_of_vc (args := [t0]) F71_ann mixed Tryd.func71 (by kernel_rfl) (by kernel_rfl) (F71_eq t0 w R ▸ h))

/-- taciturn/ir.serves -/
def F72_ann : Ann := (Ann.seq Ann.leaf (Ann.seq (Ann.seq Ann.leaf (Ann.block (Ann.join [4, 5, 6] [4] (Ann.seq Ann.leaf (Ann.cond Ann.leaf Ann.leaf)) (Ann.cond (Ann.seq Ann.leaf Ann.leaf) (Ann.join [7, 8, 9, 10] [7] (Ann.seq Ann.leaf (Ann.cond Ann.leaf (Ann.seq Ann.leaf (Ann.cond Ann.leaf Ann.leaf)))) (Ann.cond (Ann.seq Ann.leaf Ann.leaf) (Ann.join [11, 12, 13] [11] (Ann.seq Ann.leaf (Ann.cond Ann.leaf Ann.leaf)) (Ann.cond (Ann.seq Ann.leaf Ann.leaf) (Ann.seq (Ann.seq Ann.leaf (Ann.cond Ann.leaf Ann.leaf)) (Ann.cond (Ann.seq Ann.leaf Ann.leaf) Ann.leaf)))))))))) (Ann.seq Ann.leaf Ann.leaf)))
def F72_den (t0 : Value) (w : World) (R : Value → World → Prop) : Prop :=
  ∃ J1 : NP 1,
  (V Tryd.prog (do eqGuard .eql 3 (Operand.tmp 3) (Operand.const (Value.int IntKind.i64 27)) t0 (Value.int IntKind.i64 27); binOp .eql 3 t0 (Value.int IntKind.i64 27)) w fun t5 w1 =>
  ifD t5 (
  J1 t5 w1) (
  V Tryd.prog (do eqGuard .eql 3 (Operand.tmp 3) (Operand.const (Value.int IntKind.i64 28)) t0 (Value.int IntKind.i64 28); binOp .eql 3 t0 (Value.int IntKind.i64 28)) w1 fun t6 w2 =>
  J1 t6 w2)) ∧
  ∀ (t4 : Value), ∀ w3 : World, J1 t4 w3 → ∀ _f : Env,
  ifD t4 (
  R (Value.int IntKind.i64 1) w3) (
  ∃ J2 : NP 1,
  (V Tryd.prog (do eqGuard .eql 3 (Operand.tmp 3) (Operand.const (Value.int IntKind.i64 17)) t0 (Value.int IntKind.i64 17); binOp .eql 3 t0 (Value.int IntKind.i64 17)) w3 fun t8 w4 =>
  ifD t8 (
  J2 t8 w4) (
  V Tryd.prog (do eqGuard .eql 3 (Operand.tmp 3) (Operand.const (Value.int IntKind.i64 18)) t0 (Value.int IntKind.i64 18); binOp .eql 3 t0 (Value.int IntKind.i64 18)) w4 fun t9 w5 =>
  ifD t9 (
  J2 t9 w5) (
  V Tryd.prog (do eqGuard .eql 3 (Operand.tmp 3) (Operand.const (Value.int IntKind.i64 29)) t0 (Value.int IntKind.i64 29); binOp .eql 3 t0 (Value.int IntKind.i64 29)) w5 fun t10 w6 =>
  J2 t10 w6))) ∧
  ∀ (t7 : Value), ∀ w7 : World, J2 t7 w7 → ∀ _f : Env,
  ifD t7 (
  R (Value.int IntKind.i64 2) w7) (
  ∃ J3 : NP 1,
  (V Tryd.prog (do eqGuard .eql 3 (Operand.tmp 3) (Operand.const (Value.int IntKind.i64 30)) t0 (Value.int IntKind.i64 30); binOp .eql 3 t0 (Value.int IntKind.i64 30)) w7 fun t12 w8 =>
  ifD t12 (
  J3 t12 w8) (
  V Tryd.prog (do eqGuard .eql 3 (Operand.tmp 3) (Operand.const (Value.int IntKind.i64 36)) t0 (Value.int IntKind.i64 36); binOp .eql 3 t0 (Value.int IntKind.i64 36)) w8 fun t13 w9 =>
  J3 t13 w9)) ∧
  ∀ (t11 : Value), ∀ w10 : World, J3 t11 w10 → ∀ _f : Env,
  ifD t11 (
  R (Value.int IntKind.i64 3) w10) (
  V Tryd.prog (do eqGuard .eql 3 (Operand.tmp 3) (Operand.const (Value.int IntKind.i64 31)) t0 (Value.int IntKind.i64 31); binOp .eql 3 t0 (Value.int IntKind.i64 31)) w10 fun t15 w11 =>
  ifD t15 (
  ifD t15 (
  R (Value.int IntKind.i64 5) w11) (
  R (Value.int IntKind.i64 (-1)) w11)) (
  V Tryd.prog (do eqGuard .eql 3 (Operand.tmp 3) (Operand.const (Value.int IntKind.i64 32)) t0 (Value.int IntKind.i64 32); binOp .eql 3 t0 (Value.int IntKind.i64 32)) w11 fun t16 w12 =>
  ifD t16 (
  R (Value.int IntKind.i64 5) w12) (
  R (Value.int IntKind.i64 (-1)) w12)))))
theorem F72_eq (t0 : Value) (w : World) (R : Value → World → Prop) : F72_den t0 w R = vc Tryd.prog F72_ann (Tryd.f72.body.getD .skip) (retE Tryd.prog Tryd.f72.results.toList R) (argEnv [t0]) w := by kernel_rfl
theorem F72_wp {t0 : Value} {w : World} {R : Value → World → Prop} (h : F72_den t0 w R) : callD Tryd.prog 72 #[t0] w R :=
  callD.of_calls (fn := Tryd.f72) (c := Tryd.f72.body.getD .skip) Tryd.func72 (by kernel_rfl) (by kernel_rfl) (calls_of_vc (args := [t0]) F72_ann mixed Tryd.func72 (by kernel_rfl) (by kernel_rfl) (F72_eq t0 w R ▸ h))

end Go.Proofs.YtendijaeihljeaaDoor
