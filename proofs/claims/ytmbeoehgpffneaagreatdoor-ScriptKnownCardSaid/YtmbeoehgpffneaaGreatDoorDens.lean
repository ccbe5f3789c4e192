/- Each function's body, opened into a plain condition by program (vcgen.py); the kernel holds the one against the other. -/
import Derived.Test.YtmbeoehgpffneaaGreatDoorLaws
import Derived.Test.YtmbeoehgpffneaaGreatDoorProg
import Derived.KernelRfl
namespace Go.Proofs.YtmbeoehgpffneaaGreatDoor
open Go.Vc
theorem mixed : Tryz.prog.follows .mixedOrders = true := by kernel_rfl
/-- taciturn/taciturnlaw27.ScriptKnown -/
def F3_ann : Ann := (Ann.seq Ann.leaf (Ann.seq Ann.leaf (Ann.seq Ann.leaf (Ann.seq Ann.leaf (Ann.seq (Ann.seq Ann.leaf (Ann.block (Ann.loop [7, 8, 34, 35, 36, 37, 38, 39] [7, 8] (Ann.seq (Ann.seq Ann.leaf (Ann.cond Ann.leaf Ann.leaf)) (Ann.seq (Ann.block Ann.leaf) Ann.leaf))))) (Ann.seq Ann.leaf (Ann.seq Ann.leaf (Ann.seq Ann.leaf (Ann.seq Ann.leaf (Ann.seq Ann.leaf (Ann.seq Ann.leaf (Ann.seq Ann.leaf (Ann.seq Ann.leaf Ann.leaf)))))))))))))
def F3_den (w : World) (R : Value → World → Prop) : Prop :=
  callD Tryz.prog 4 #[(Value.int IntKind.i64 200), (Value.int IntKind.i64 0), (Value.string { data := #[114, 101, 115, 101, 116, 10, 10, 110, 111, 10] })] w fun t25 w1 =>
  V Tryz.prog (Instr.extract t25 0) w1 fun t26 w2 =>
  V Tryz.prog (Instr.extract t25 1) w2 fun t27 w3 =>
  V Tryz.prog (Instr.extract t25 2) w3 fun t28 w4 =>
  callD Tryz.prog 4 #[(Value.int IntKind.i64 1), (Value.int IntKind.i64 0), (Value.string { data := #[] })] w4 fun t30 w5 =>
  V Tryz.prog (Instr.extract t30 0) w5 fun t31 w6 =>
  V Tryz.prog (Instr.extract t30 1) w6 fun t32 w7 =>
  V Tryz.prog (Instr.extract t30 2) w7 fun t33 w8 =>
  ∃ (I1 : NP 2) (μ1 : NF 2), I1 (Value.string { data := #[] }) (Value.int IntKind.i64 0) w8 ∧
  ∀ (t7 : Value) (t8 : Value), ∀ w9 : World, I1 t7 t8 w9 → ∀ _f : Env,
  V Tryz.prog (binOp .lss 3 t8 (Value.int IntKind.i64 401)) w9 fun t35 w10 =>
  ifD t35 (
  V Tryz.prog (binOp .add 9 t7 (Value.string { data := #[10] })) w10 fun t39 w11 =>
  V Tryz.prog (binOp .add 3 t8 (Value.int IntKind.i64 1)) w11 fun t37 w12 =>
  I1 t39 t37 w12 ∧ μ1 t39 t37 w12 < μ1 t7 t8 w9) (
  callD Tryz.prog 4 #[(Value.int IntKind.i64 200), (Value.int IntKind.i64 0), t7] w10 fun t42 w13 =>
  V Tryz.prog (Instr.extract t42 0) w13 fun t43 w14 =>
  V Tryz.prog (Instr.extract t42 1) w14 fun t44 w15 =>
  V Tryz.prog (Instr.extract t42 2) w15 fun t45 w16 =>
  callD Tryz.prog 5 #[(Value.string { data := #[99, 111, 109, 109, 97, 110, 100, 32, 48, 97, 32, 45, 32, 55] })] w16 fun t47 w17 =>
  V Tryz.prog (Instr.extract t47 0) w17 fun t48 w18 =>
  V Tryz.prog (Instr.extract t47 1) w18 fun t49 w19 =>
  V Tryz.prog (Instr.alloc 27 true (.tuple #[])) w19 fun t12 w20 =>
  U Tryz.prog (Instr.storeAt 27 t12 t48) w20 fun _ w21 =>
  callD Tryz.prog 5 #[(Value.string { data := #[99, 111, 109, 109, 97, 110, 100, 32, 48, 65, 32, 45, 32, 55] })] w21 fun t51 w22 =>
  V Tryz.prog (Instr.extract t51 0) w22 fun t52 w23 =>
  V Tryz.prog (Instr.extract t51 1) w23 fun t53 w24 =>
  V Tryz.prog (Instr.alloc 27 true (.tuple #[])) w24 fun t14 w25 =>
  U Tryz.prog (Instr.storeAt 27 t14 t52) w25 fun _ w26 =>
  callD Tryz.prog 5 #[(Value.string { data := #[115, 101, 108, 101, 99, 116, 32, 78, 111] })] w26 fun t55 w27 =>
  V Tryz.prog (Instr.extract t55 0) w27 fun t56 w28 =>
  V Tryz.prog (Instr.extract t55 1) w28 fun t57 w29 =>
  V Tryz.prog (Instr.alloc 27 true (.tuple #[])) w29 fun t16 w30 =>
  U Tryz.prog (Instr.storeAt 27 t16 t56) w30 fun _ w31 =>
  callD Tryz.prog 5 #[(Value.string { data := #[99, 111, 109, 109, 97, 110, 100, 32, 45, 32, 45, 32, 48, 55] })] w31 fun t59 w32 =>
  V Tryz.prog (Instr.extract t59 0) w32 fun t60 w33 =>
  V Tryz.prog (Instr.extract t59 1) w33 fun t61 w34 =>
  V Tryz.prog (Instr.alloc 27 true (.tuple #[])) w34 fun t18 w35 =>
  U Tryz.prog (Instr.storeAt 27 t18 t60) w35 fun _ w36 =>
  V Tryz.prog (Instr.buildSlice 25 1 #[(0, (Value.int IntKind.u8 255))]) w36 fun t63 w37 =>
  V Tryz.prog (Instr.build 27 #[(0, (Value.int IntKind.i64 1)), (1, t63)]) w37 fun t64 w38 =>
  callD Tryz.prog 6 #[t64] w38 fun t65 w39 =>
  V Tryz.prog (Instr.extract t65 0) w39 fun t66 w40 =>
  V Tryz.prog (Instr.extract t65 1) w40 fun t67 w41 =>
  V Tryz.prog (Instr.build 27 #[]) w41 fun t69 w42 =>
  callD Tryz.prog 6 #[t69] w42 fun t70 w43 =>
  V Tryz.prog (Instr.extract t70 0) w43 fun t71 w44 =>
  V Tryz.prog (Instr.extract t70 1) w44 fun t72 w45 =>
  callD Tryz.prog 7 #[] w45 fun t73 w46 =>
  gd t73 true (fun K => K t27 w46) w46 fun t75 w47 =>
  gd t73 true (fun K => V Tryz.prog (do eqGuard .eql 3 (Operand.tmp 75) (Operand.const (Value.int IntKind.i64 3)) t75 (Value.int IntKind.i64 3); binOp .eql 3 t75 (Value.int IntKind.i64 3)) w47 K) w47 fun t76 w48 =>
  pickD t73 t76 (Value.bool false) fun t77 =>
  gd t77 true (fun K => K t28 w48) w48 fun t79 w50 =>
  gd t77 true (fun K => V Tryz.prog (do eqGuard .eql 22 (Operand.tmp 79) (Operand.const (Value.int IntKind.i64 5)) t79 (Value.int IntKind.i64 5); binOp .eql 22 t79 (Value.int IntKind.i64 5)) w50 K) w50 fun t80 w51 =>
  pickD t77 t80 (Value.bool false) fun t81 =>
  gd t81 true (fun K => K t33 w51) w51 fun t83 w53 =>
  gd t81 true (fun K => V Tryz.prog (do eqGuard .eql 22 (Operand.tmp 83) (Operand.const (Value.int IntKind.i64 1)) t83 (Value.int IntKind.i64 1); binOp .eql 22 t83 (Value.int IntKind.i64 1)) w53 K) w53 fun t84 w54 =>
  pickD t81 t84 (Value.bool false) fun t85 =>
  gd t85 true (fun K => K t45 w54) w54 fun t87 w56 =>
  gd t85 true (fun K => V Tryz.prog (do eqGuard .eql 22 (Operand.tmp 87) (Operand.const (Value.int IntKind.i64 6)) t87 (Value.int IntKind.i64 6); binOp .eql 22 t87 (Value.int IntKind.i64 6)) w56 K) w56 fun t88 w57 =>
  pickD t85 t88 (Value.bool false) fun t89 =>
  gd t89 true (fun K => K t49 w57) w57 fun t91 w59 =>
  pickD t89 t91 (Value.bool false) fun t92 =>
  gd t92 true (fun K => V Tryz.prog (Instr.fieldAt 27 t12 0) w59 K) w59 fun t94 w61 =>
  gd t92 true (fun K => V Tryz.prog (Instr.loadAt 3 t94) w61 K) w61 fun t95 w62 =>
  gd t92 true (fun K => V Tryz.prog (do eqGuard .eql 3 (Operand.tmp 95) (Operand.const (Value.int IntKind.i64 5)) t95 (Value.int IntKind.i64 5); binOp .eql 3 t95 (Value.int IntKind.i64 5)) w62 K) w62 fun t96 w63 =>
  pickD t92 t96 (Value.bool false) fun t97 =>
  gd t97 true (fun K => V Tryz.prog (Instr.fieldAt 27 t12 3) w63 K) w63 fun t99 w65 =>
  gd t97 true (fun K => V Tryz.prog (Instr.loadAt 25 t99) w65 K) w65 fun t100 w66 =>
  gd t97 true (fun K => V Tryz.prog (convert 25 9 t100) w66 K) w66 fun t101 w67 =>
  gd t97 true (fun K => V Tryz.prog (do eqGuard .eql 9 (Operand.tmp 101) (Operand.const (Value.string { data := #[10] })) t101 (Value.string { data := #[10] }); binOp .eql 9 t101 (Value.string { data := #[10] })) w67 K) w67 fun t102 w68 =>
  pickD t97 t102 (Value.bool false) fun t103 =>
  gd t103 true (fun K => V Tryz.prog (Instr.fieldAt 27 t12 4) w68 K) w68 fun t105 w70 =>
  gd t103 true (fun K => V Tryz.prog (Instr.loadAt 25 t105) w70 K) w70 fun t106 w71 =>
  gd t103 true (fun K => V Tryz.prog (Builtin.len_ #[25] 3 #[t106]) w71 K) w71 fun t107 w72 =>
  gd t103 true (fun K => V Tryz.prog (do eqGuard .eql 3 (Operand.tmp 107) (Operand.const (Value.int IntKind.i64 0)) t107 (Value.int IntKind.i64 0); binOp .eql 3 t107 (Value.int IntKind.i64 0)) w72 K) w72 fun t108 w73 =>
  pickD t103 t108 (Value.bool false) fun t109 =>
  gd t109 true (fun K => V Tryz.prog (Instr.fieldAt 27 t12 5) w73 K) w73 fun t111 w75 =>
  gd t109 true (fun K => V Tryz.prog (Instr.loadAt 3 t111) w75 K) w75 fun t112 w76 =>
  gd t109 true (fun K => V Tryz.prog (do eqGuard .eql 3 (Operand.tmp 112) (Operand.const (Value.int IntKind.i64 7)) t112 (Value.int IntKind.i64 7); binOp .eql 3 t112 (Value.int IntKind.i64 7)) w76 K) w76 fun t113 w77 =>
  pickD t109 t113 (Value.bool false) fun t114 =>
  gd t114 true (fun K => K t53 w77) w77 fun t116 w79 =>
  gd t114 true (fun K => V Tryz.prog (Op.unary UnOp.not t116) w79 K) w79 fun t117 w80 =>
  pickD t114 t117 (Value.bool false) fun t118 =>
  gd t118 true (fun K => K t57 w80) w80 fun t120 w82 =>
  gd t118 true (fun K => V Tryz.prog (Op.unary UnOp.not t120) w82 K) w82 fun t121 w83 =>
  pickD t118 t121 (Value.bool false) fun t122 =>
  gd t122 true (fun K => K t61 w83) w83 fun t124 w85 =>
  gd t122 true (fun K => V Tryz.prog (Op.unary UnOp.not t124) w85 K) w85 fun t125 w86 =>
  pickD t122 t125 (Value.bool false) fun t126 =>
  gd t126 true (fun K => K t67 w86) w86 fun t128 w88 =>
  pickD t126 t128 (Value.bool false) fun t129 =>
  gd t129 true (fun K => K t66 w88) w88 fun t131 w90 =>
  gd t129 true (fun K => V Tryz.prog (do eqGuard .eql 9 (Operand.tmp 131) (Operand.const (Value.string { data := #[105, 110, 115, 116, 97, 108, 108, 32, 102, 102] })) t131 (Value.string { data := #[105, 110, 115, 116, 97, 108, 108, 32, 102, 102] }); binOp .eql 9 t131 (Value.string { data := #[105, 110, 115, 116, 97, 108, 108, 32, 102, 102] })) w90 K) w90 fun t132 w91 =>
  pickD t129 t132 (Value.bool false) fun t133 =>
  gd t133 true (fun K => K t72 w91) w91 fun t135 w93 =>
  gd t133 true (fun K => V Tryz.prog (Op.unary UnOp.not t135) w93 K) w93 fun t136 w94 =>
  pickD t133 t136 (Value.bool false) fun t137 =>
  gd t137 true (fun K => V Tryz.prog (Instr.buildSlice 25 1 #[(0, (Value.int IntKind.u8 1))]) w94 K) w94 fun t139 w96 =>
  gd t137 true (fun K => V Tryz.prog (Instr.build 35 #[(0, (Value.int IntKind.i64 36864)), (1, t139)]) w96 K) w96 fun t140 w97 =>
  gd t137 true (fun K => callD Tryz.prog 8 #[t140] w97 K) w97 fun t141 w98 =>
  gd t137 true (fun K => V Tryz.prog (do eqGuard .eql 9 (Operand.tmp 141) (Operand.const (Value.string { data := #[57, 48, 48, 48, 32, 48, 49, 32, 45] })) t141 (Value.string { data := #[57, 48, 48, 48, 32, 48, 49, 32, 45] }); binOp .eql 9 t141 (Value.string { data := #[57, 48, 48, 48, 32, 48, 49, 32, 45] })) w98 K) w98 fun t142 w99 =>
  pickD t137 t142 (Value.bool false) fun t143 =>
  R t143 w99)
theorem F3_eq (w : World) (R : Value → World → Prop) : F3_den w R = vc Tryz.prog F3_ann (Tryz.f3.body.getD .skip) (retE Tryz.prog Tryz.f3.results.toList R) (argEnv []) w := by kernel_rfl
theorem F3_wp {w : World} {R : Value → World → Prop} (h : F3_den w R) : callD Tryz.prog 3 #[] w R :=
  callD.of_calls (fn := Tryz.f3) (c := Tryz.f3.body.getD .skip) Tryz.func3 (by kernel_rfl) (by kernel_rfl) (calls_of_vc (args := []) F3_ann mixed Tryz.func3 (by kernel_rfl) (by kernel_rfl) (F3_eq w R ▸ h))

/-- taciturn/script.Run -/
def F4_ann : Ann := (Ann.seq Ann.leaf (Ann.seq Ann.leaf (Ann.join [9, 22, 23, 24, 25, 26, 27, 28, 29, 30, 31, 32, 33] [9] (Ann.seq Ann.leaf (Ann.cond Ann.leaf Ann.leaf)) (Ann.seq (Ann.seq Ann.leaf (Ann.cond (Ann.seq Ann.leaf Ann.leaf) Ann.leaf)) (Ann.seq Ann.leaf (Ann.seq (Ann.seq Ann.leaf (Ann.block (Ann.loop [6, 7, 8, 10, 11, 12, 13, 14, 39, 40, 41, 42, 43, 44, 45, 46, 47, 48, 49, 50, 51, 52, 53, 54, 55, 56, 57, 58, 59, 60, 61, 62] [10, 39] (Ann.seq Ann.leaf (Ann.seq (Ann.cond Ann.leaf Ann.leaf) (Ann.seq (Ann.block (Ann.seq Ann.leaf (Ann.seq Ann.leaf (Ann.seq (Ann.seq Ann.leaf (Ann.cond (Ann.seq Ann.leaf Ann.leaf) Ann.leaf)) (Ann.seq Ann.leaf (Ann.cond Ann.leaf Ann.leaf)))))) Ann.leaf)))))) (Ann.seq Ann.leaf (Ann.seq (Ann.seq Ann.leaf (Ann.cond (Ann.seq Ann.leaf Ann.leaf) Ann.leaf)) (Ann.seq Ann.leaf (Ann.seq (Ann.seq Ann.leaf (Ann.block (Ann.loop [19, 74, 75, 76, 77, 78, 79, 80, 81, 82, 83, 84] [74] (Ann.seq Ann.leaf (Ann.seq (Ann.cond Ann.leaf Ann.leaf) (Ann.seq (Ann.block (Ann.seq Ann.leaf Ann.leaf)) Ann.leaf)))))) (Ann.seq Ann.leaf Ann.leaf)))))))))))
def F4_den (t0 : Value) (t1 : Value) (t2 : Value) (w : World) (R : Value → World → Prop) : Prop :=
  callD Tryz.prog 9 #[t2, (Value.string { data := #[10] })] w fun t21 w1 =>
  ∃ J1 : NP 1,
  (V Tryz.prog (Builtin.len_ #[36] 3 #[t21]) w1 fun t24 w2 =>
  V Tryz.prog (binOp .sub 3 t24 (Value.int IntKind.i64 1)) w2 fun t25 w3 =>
  V Tryz.prog (Instr.indexAt 36 t21 t25) w3 fun t26 w4 =>
  V Tryz.prog (Instr.loadAt 9 t26) w4 fun t27 w5 =>
  V Tryz.prog (do eqGuard .eql 9 (Operand.tmp 27) (Operand.const (Value.string { data := #[] })) t27 (Value.string { data := #[] }); binOp .eql 9 t27 (Value.string { data := #[] })) w5 fun t28 w6 =>
  ifD t28 (
  V Tryz.prog (Builtin.len_ #[36] 3 #[t21]) w6 fun t31 w7 =>
  V Tryz.prog (binOp .sub 3 t31 (Value.int IntKind.i64 1)) w7 fun t32 w8 =>
  V Tryz.prog (Instr.sliceAt 36 t21 none (some t32) none) w8 fun t33 w9 =>
  J1 t33 w9) (
  J1 t21 w6)) ∧
  ∀ (t9 : Value), ∀ w10 : World, J1 t9 w10 → ∀ _f : Env,
  V Tryz.prog (Builtin.len_ #[36] 3 #[t9]) w10 fun t35 w11 =>
  V Tryz.prog (binOp .gtr 3 t35 (Value.int IntKind.i64 400)) w11 fun t36 w12 =>
  ifD t36 (
  R (.tuple #[(Value.string { data := #[] }), (Value.int IntKind.i64 0), (Value.int IntKind.i64 6)]) w12) (
  V Tryz.prog (Builtin.len_ #[36] 3 #[t9]) w12 fun t38 w13 =>
  ∃ (I2 : NP 2) (μ2 : NF 2), I2 (Value.slice none 0 0) (Value.int IntKind.i64 0) w13 ∧
  ∀ (t10 : Value) (t39 : Value), ∀ w14 : World, I2 t10 t39 w14 → ∀ _f : Env,
  V Tryz.prog (binOp .lss 3 t39 t38) w14 fun t40 w15 =>
  ifD t40 (
  V Tryz.prog (Instr.indexAt 36 t9 t39) w15 fun t42 w16 =>
  V Tryz.prog (Instr.loadAt 9 t42) w16 fun t43 w17 =>
  callD Tryz.prog 5 #[t43] w17 fun t46 w18 =>
  V Tryz.prog (Instr.extract t46 0) w18 fun t47 w19 =>
  V Tryz.prog (Instr.extract t46 1) w19 fun t48 w20 =>
  V Tryz.prog (Instr.alloc 27 true (.tuple #[])) w20 fun t13 w21 =>
  U Tryz.prog (Instr.storeAt 27 t13 t47) w21 fun _ w22 =>
  V Tryz.prog (do eqGuard .neq 9 (Operand.tmp 49) (Operand.const (Value.string { data := #[] })) t43 (Value.string { data := #[] }); binOp .neq 9 t43 (Value.string { data := #[] })) w22 fun t50 w23 =>
  gd t50 true (fun K => K t48 w23) w23 fun t52 w24 =>
  gd t50 true (fun K => V Tryz.prog (Op.unary UnOp.not t52) w24 K) w24 fun t53 w25 =>
  pickD t50 t53 (Value.bool false) fun t54 =>
  ifD t54 (
  V Tryz.prog (binOp .add 3 t39 (Value.int IntKind.i64 1)) w25 fun t56 w27 =>
  R (.tuple #[(Value.string { data := #[] }), t56, (Value.int IntKind.i64 5)]) w27) (
  ifD t48 (
  V Tryz.prog (Instr.loadAt 27 t13) w25 fun t59 w28 =>
  V Tryz.prog (Instr.buildSlice 38 1 #[(0, t59)]) w28 fun t60 w29 =>
  V Tryz.prog (Builtin.append_ #[38, 38] 38 #[t10, t60]) w29 fun t61 w30 =>
  V Tryz.prog (binOp .add 3 t39 (Value.int IntKind.i64 1)) w30 fun t62 w31 =>
  I2 t61 t62 w31 ∧ μ2 t61 t62 w31 < μ2 t10 t39 w14) (
  V Tryz.prog (binOp .add 3 t39 (Value.int IntKind.i64 1)) w25 fun t62_1 w32 =>
  I2 t10 t62_1 w32 ∧ μ2 t10 t62_1 w32 < μ2 t10 t39 w14))) (
  callD Tryz.prog 10 #[t0, t1] w15 fun t66 w33 =>
  V Tryz.prog (Instr.extract t66 0) w33 fun t67 w34 =>
  V Tryz.prog (Instr.extract t66 1) w34 fun t68 w35 =>
  V Tryz.prog (do eqGuard .neq 22 (Operand.tmp 69) (Operand.const (Value.int IntKind.i64 0)) t68 (Value.int IntKind.i64 0); binOp .neq 22 t68 (Value.int IntKind.i64 0)) w35 fun t70 w36 =>
  ifD t70 (
  R (.tuple #[(Value.string { data := #[] }), (Value.int IntKind.i64 0), t68]) w36) (
  V Tryz.prog (Instr.alloc 44 true (.tuple #[])) w36 fun t17 w37 =>
  V Tryz.prog (Builtin.len_ #[38] 3 #[t10]) w37 fun t73 w38 =>
  ∃ (I3 : NP 1) (μ3 : NF 1), I3 (Value.int IntKind.i64 0) w38 ∧
  ∀ (t74 : Value), ∀ w39 : World, I3 t74 w39 → ∀ _f : Env,
  V Tryz.prog (binOp .lss 3 t74 t73) w39 fun t75 w40 =>
  ifD t75 (
  V Tryz.prog (Instr.indexAt 38 t10 t74) w40 fun t76 w41 =>
  V Tryz.prog (Instr.loadAt 27 t76) w41 fun t77 w42 =>
  V Tryz.prog (Instr.alloc 27 true (.tuple #[])) w42 fun t19 w43 =>
  U Tryz.prog (Instr.storeAt 27 t19 t77) w43 fun _ w44 =>
  V Tryz.prog (Instr.loadAt 27 t19) w44 fun t79 w45 =>
  callD Tryz.prog 12 #[t67, t79] w45 fun t80 w46 =>
  callD Tryz.prog 8 #[t80] w46 fun t81 w47 =>
  V Tryz.prog (binOp .add 9 t81 (Value.string { data := #[10] })) w47 fun t82 w48 =>
  callD Tryz.prog 11 #[t17, t82] w48 fun t83 w49 =>
  V Tryz.prog (binOp .add 3 t74 (Value.int IntKind.i64 1)) w49 fun t84 w50 =>
  I3 t84 w50 ∧ μ3 t84 w50 < μ3 t74 w39) (
  callD Tryz.prog 13 #[t17] w40 fun t85 w51 =>
  R (.tuple #[t85, (Value.int IntKind.i64 0), (Value.int IntKind.i64 0)]) w51))))
theorem F4_eq (t0 : Value) (t1 : Value) (t2 : Value) (w : World) (R : Value → World → Prop) : F4_den t0 t1 t2 w R = vc Tryz.prog F4_ann (Tryz.f4.body.getD .skip) (retE Tryz.prog Tryz.f4.results.toList R) (argEnv [t0, t1, t2]) w := by kernel_rfl
theorem F4_wp {t0 : Value} {t1 : Value} {t2 : Value} {w : World} {R : Value → World → Prop} (h : F4_den t0 t1 t2 w R) : callD Tryz.prog 4 #[t0, t1, t2] w R :=
  callD.of_calls (fn := Tryz.f4) (c := Tryz.f4.body.getD .skip) Tryz.func4 (by kernel_rfl) (by kernel_rfl) (calls_of_vc (args := [t0, t1, t2]) F4_ann mixed Tryz.func4 (by kernel_rfl) (by kernel_rfl) (F4_eq t0 t1 t2 w R ▸ h))

/-- taciturn/taciturnlaw27.known -/
def F7_ann : Ann := (Ann.seq Ann.leaf (Ann.seq Ann.leaf (Ann.seq Ann.leaf Ann.leaf)))
def F7_den (w : World) (R : Value → World → Prop) : Prop :=
  callD Tryz.prog 4 #[(Value.int IntKind.i64 200), (Value.int IntKind.i64 0), (Value.string { data := #[100, 101, 115, 101, 108, 101, 99, 116, 10] })] w fun t5 w1 =>
  V Tryz.prog (Instr.extract t5 0) w1 fun t6 w2 =>
  V Tryz.prog (Instr.extract t5 1) w2 fun t7 w3 =>
  V Tryz.prog (Instr.extract t5 2) w3 fun t8 w4 =>
  V Tryz.prog (do eqGuard .eql 22 (Operand.tmp 9) (Operand.const (Value.int IntKind.i64 0)) t8 (Value.int IntKind.i64 0); binOp .eql 22 t8 (Value.int IntKind.i64 0)) w4 fun t10 w5 =>
  gd t10 true (fun K => K t7 w5) w5 fun t12 w6 =>
  gd t10 true (fun K => V Tryz.prog (do eqGuard .eql 3 (Operand.tmp 12) (Operand.const (Value.int IntKind.i64 0)) t12 (Value.int IntKind.i64 0); binOp .eql 3 t12 (Value.int IntKind.i64 0)) w6 K) w6 fun t13 w7 =>
  pickD t10 t13 (Value.bool false) fun t14 =>
  gd t14 true (fun K => K t6 w7) w7 fun t16 w9 =>
  gd t14 true (fun K => V Tryz.prog (do eqGuard .eql 9 (Operand.tmp 16) (Operand.const (Value.string { data := #[54, 57, 56, 53, 32, 45, 32, 45, 10] })) t16 (Value.string { data := #[54, 57, 56, 53, 32, 45, 32, 45, 10] }); binOp .eql 9 t16 (Value.string { data := #[54, 57, 56, 53, 32, 45, 32, 45, 10] })) w9 K) w9 fun t17 w10 =>
  pickD t14 t17 (Value.bool false) fun t18 =>
  R t18 w10
theorem F7_eq (w : World) (R : Value → World → Prop) : F7_den w R = vc Tryz.prog F7_ann (Tryz.f7.body.getD .skip) (retE Tryz.prog Tryz.f7.results.toList R) (argEnv []) w := by kernel_rfl
theorem F7_wp {w : World} {R : Value → World → Prop} (h : F7_den w R) : callD Tryz.prog 7 #[] w R :=
  callD.of_calls (fn := Tryz.f7) (c := Tryz.f7.body.getD .skip) Tryz.func7 (by kernel_rfl) (by kernel_rfl) (calls_of_vc (args := []) F7_ann mixed Tryz.func7 (by kernel_rfl) (by kernel_rfl) (F7_eq w R ▸ h))

/-- taciturn/script.Tell -/
def F8_ann : Ann := (Ann.seq Ann.leaf (Ann.seq Ann.leaf (Ann.seq (Ann.seq Ann.leaf (Ann.block (Ann.loop [3, 4, 5, 6, 7, 8, 9, 10, 11, 12, 13, 14, 15, 16, 17, 18] [3, 5] (Ann.seq Ann.leaf (Ann.seq (Ann.cond Ann.leaf Ann.leaf) (Ann.seq (Ann.block (Ann.seq Ann.leaf Ann.leaf)) Ann.leaf)))))) (Ann.seq (Ann.draw [0, 1, 0, 4, 8, 18, 32, 0, 128, 272, 576, 2047] [0, 1, 0, 4, 8, 18, 32, 0, 128, 256, 576, 1024] 0 12 4095 (.take 0 (.take 1 (.take 2 (.take 3 (.take 7 (.take 8 (.only 4 (.take 5 (.take 6 (.only 9 (.take 10 (.take 11 .done))))))))))))) Ann.leaf))))
def F8_den (t0 : Value) (w : World) (R : Value → World → Prop) : Prop :=
  V Tryz.prog (Instr.box 35 t0) w fun t1 w1 =>
  ∃ (I1 : NP 2) (μ1 : NF 2), I1 (Value.string { data := #[] }) (Value.int IntKind.i64 0) w1 ∧
  ∀ (t3 : Value) (t5 : Value), ∀ w2 : World, I1 t3 t5 w2 → ∀ _f : Env,
  V Tryz.prog (binOp .lss 3 t5 (Value.int IntKind.i64 4)) w2 fun t6 w3 =>
  ifD t6 (
  V Tryz.prog (Instr.fieldAt 35 t1 0) w3 fun t8 w4 =>
  V Tryz.prog (Instr.loadAt 3 t8) w4 fun t9 w5 =>
  V Tryz.prog (binOp .mul 3 (Value.int IntKind.i64 4) t5) w5 fun t11 w6 =>
  V Tryz.prog (binOp .shr 3 t9 t11) w6 fun t12 w7 =>
  V Tryz.prog (binOp .and 3 t12 (Value.int IntKind.i64 15)) w7 fun t13 w8 =>
  V Tryz.prog (Instr.index 9 (Value.string { data := #[48, 49, 50, 51, 52, 53, 54, 55, 56, 57, 97, 98, 99, 100, 101, 102] }) t13) w8 fun t14 w9 =>
  V Tryz.prog (convert 5 9 t14) w9 fun t15 w10 =>
  V Tryz.prog (binOp .add 9 t15 t3) w10 fun t17 w11 =>
  V Tryz.prog (binOp .add 3 t5 (Value.int IntKind.i64 1)) w11 fun t18 w12 =>
  I1 t17 t18 w12 ∧ μ1 t17 t18 w12 < μ1 t3 t5 w2) (
  drawD w3 fun S7 w13 =>
  yieldS Tryz.prog S7 (binOp .add 9 t3 (Value.string { data := #[32] })) fun t20 =>
  yieldS Tryz.prog S7 (Instr.fieldAt 35 t1 1) fun t21 =>
  yieldS Tryz.prog S7 (Instr.loadAt 25 t21) fun t22 =>
  yieldS Tryz.prog S7 (Instr.fieldAt 35 t1 2) fun t26 =>
  yieldS Tryz.prog S7 (Instr.loadAt 25 t26) fun t27 =>
  callD Tryz.prog 17 #[t22] w13 fun t23 w14 =>
  S7 w14 ∧
  yieldS Tryz.prog S7 (binOp .add 9 t20 t23) fun t24 =>
  yieldS Tryz.prog S7 (binOp .add 9 t24 (Value.string { data := #[32] })) fun t25 =>
  callD Tryz.prog 17 #[t27] w14 fun t28 w15 =>
  S7 w15 ∧
  yieldS Tryz.prog S7 (binOp .add 9 t25 t28) fun t29 =>
  R t29 w15)
theorem F8_eq (t0 : Value) (w : World) (R : Value → World → Prop) : F8_den t0 w R = vc Tryz.prog F8_ann (Tryz.f8.body.getD .skip) (retE Tryz.prog Tryz.f8.results.toList R) (argEnv [t0]) w := by kernel_rfl
theorem F8_wp {t0 : Value} {w : World} {R : Value → World → Prop} (h : F8_den t0 w R) : callD Tryz.prog 8 #[t0] w R :=
  callD.of_calls (fn := Tryz.f8) (c := Tryz.f8.body.getD .skip) Tryz.func8 (by kernel_rfl) (by kernel_rfl) (calls_of_vc (args := [t0]) F8_ann mixed Tryz.func8 (by kernel_rfl) (by kernel_rfl) (F8_eq t0 w R ▸ h))

/-- taciturn/script.hex -/
def F17_ann : Ann := (Ann.seq Ann.leaf (Ann.seq (Ann.seq Ann.leaf (Ann.cond (Ann.seq Ann.leaf Ann.leaf) Ann.leaf)) (Ann.seq Ann.leaf (Ann.seq (Ann.seq Ann.leaf (Ann.block (Ann.loop [5, 11, 12, 13, 14, 15, 16, 17, 18, 19, 20, 21, 22, 23] [11] (Ann.seq Ann.leaf (Ann.seq (Ann.cond Ann.leaf Ann.leaf) (Ann.seq (Ann.block (Ann.seq Ann.leaf (Ann.seq Ann.leaf Ann.leaf))) Ann.leaf)))))) (Ann.seq Ann.leaf Ann.leaf)))))
def F17_den (t0 : Value) (w : World) (R : Value → World → Prop) : Prop :=
  V Tryz.prog (Builtin.len_ #[25] 3 #[t0]) w fun t7 w1 =>
  V Tryz.prog (do eqGuard .eql 3 (Operand.tmp 7) (Operand.const (Value.int IntKind.i64 0)) t7 (Value.int IntKind.i64 0); binOp .eql 3 t7 (Value.int IntKind.i64 0)) w1 fun t8 w2 =>
  ifD t8 (
  R (Value.string { data := #[45] }) w2) (
  V Tryz.prog (Instr.alloc 44 true (.tuple #[])) w2 fun t3 w3 =>
  V Tryz.prog (Builtin.len_ #[25] 3 #[t0]) w3 fun t10 w4 =>
  ∃ (I1 : NP 1) (μ1 : NF 1), I1 (Value.int IntKind.i64 0) w4 ∧
  ∀ (t11 : Value), ∀ w5 : World, I1 t11 w5 → ∀ _f : Env,
  V Tryz.prog (binOp .lss 3 t11 t10) w5 fun t12 w6 =>
  ifD t12 (
  V Tryz.prog (Instr.indexAt 25 t0 t11) w6 fun t13 w7 =>
  V Tryz.prog (Instr.loadAt 5 t13) w7 fun t14 w8 =>
  V Tryz.prog (binOp .shr 5 t14 (Value.int IntKind.u64 4)) w8 fun t16 w9 =>
  V Tryz.prog (Instr.index 9 (Value.string { data := #[48, 49, 50, 51, 52, 53, 54, 55, 56, 57, 97, 98, 99, 100, 101, 102] }) t16) w9 fun t17 w10 =>
  callD Tryz.prog 32 #[t3, t17] w10 fun t18 w11 =>
  V Tryz.prog (binOp .and 5 t14 (Value.int IntKind.u8 15)) w11 fun t20 w12 =>
  V Tryz.prog (Instr.index 9 (Value.string { data := #[48, 49, 50, 51, 52, 53, 54, 55, 56, 57, 97, 98, 99, 100, 101, 102] }) t20) w12 fun t21 w13 =>
  callD Tryz.prog 32 #[t3, t21] w13 fun t22 w14 =>
  V Tryz.prog (binOp .add 3 t11 (Value.int IntKind.i64 1)) w14 fun t23 w15 =>
  I1 t23 w15 ∧ μ1 t23 w15 < μ1 t11 w5) (
  callD Tryz.prog 13 #[t3] w6 fun t24 w16 =>
  R t24 w16))
theorem F17_eq (t0 : Value) (w : World) (R : Value → World → Prop) : F17_den t0 w R = vc Tryz.prog F17_ann (Tryz.f17.body.getD .skip) (retE Tryz.prog Tryz.f17.results.toList R) (argEnv [t0]) w := by kernel_rfl
theorem F17_wp {t0 : Value} {w : World} {R : Value → World → Prop} (h : F17_den t0 w R) : callD Tryz.prog 17 #[t0] w R :=
  callD.of_calls (fn := Tryz.f17) (c := Tryz.f17.body.getD .skip) Tryz.func17 (by kernel_rfl) (by kernel_rfl) (calls_of_vc (args := [t0]) F17_ann mixed Tryz.func17 (by kernel_rfl) (by kernel_rfl) (F17_eq t0 w R ▸ h))

/-- taciturn/script.bytesOf -/
def F30_ann : Ann := (Ann.seq Ann.leaf (Ann.seq (Ann.seq Ann.leaf (Ann.cond (Ann.seq Ann.leaf Ann.leaf) Ann.leaf)) (Ann.seq Ann.leaf (Ann.seq Ann.leaf (Ann.seq (Ann.seq Ann.leaf (Ann.block (Ann.loop [2, 3, 4, 5, 7, 8, 13, 14, 15, 16, 17, 18, 19, 20, 21, 22, 23, 24, 25, 26, 27, 28, 29, 30, 31, 32, 33, 34] [4, 5] (Ann.seq Ann.leaf (Ann.seq (Ann.cond Ann.leaf Ann.leaf) (Ann.block (Ann.seq Ann.leaf (Ann.seq Ann.leaf (Ann.block (Ann.seq Ann.leaf (Ann.cond (Ann.seq Ann.leaf Ann.leaf) (Ann.seq Ann.leaf (Ann.cond Ann.leaf (Ann.seq Ann.leaf Ann.leaf)))))))))))))) (Ann.seq Ann.leaf Ann.leaf))))))
def F30_den (t0 : Value) (w : World) (R : Value → World → Prop) : Prop :=
  V Tryz.prog (do eqGuard .eql 9 (Operand.tmp 9) (Operand.const (Value.string { data := #[45] })) t0 (Value.string { data := #[45] }); binOp .eql 9 t0 (Value.string { data := #[45] })) w fun t10 w1 =>
  ifD t10 (
  R (.tuple #[(Value.slice none 0 0), (Value.bool true)]) w1) (
  V Tryz.prog (Instr.range 9 t0) w1 fun t12 w2 =>
  ∃ (I1 : NP 2) (μ1 : NF 2), I1 (Value.slice none 0 0) (Value.int IntKind.i64 (-1)) w2 ∧
  ∀ (t4 : Value) (t5 : Value), ∀ w3 : World, I1 t4 t5 w3 → ∀ _f : Env,
  V Tryz.prog (Instr.next t12 true 0) w3 fun t13 w4 =>
  V Tryz.prog (Instr.extract t13 0) w4 fun t14 w5 =>
  ifD t14 (
  V Tryz.prog (Instr.extract t13 2) w5 fun t15 w6 =>
  V Tryz.prog (Builtin.min_ #[21, 21] 21 #[t15, (Value.int IntKind.i32 127)]) w6 fun t17 w7 =>
  V Tryz.prog (convert 21 5 t17) w7 fun t18 w8 =>
  callD Tryz.prog 51 #[(Value.string { data := #[48, 49, 50, 51, 52, 53, 54, 55, 56, 57, 97, 98, 99, 100, 101, 102] }), t18] w8 fun t19 w9 =>
  V Tryz.prog (binOp .lss 3 t19 (Value.int IntKind.i64 0)) w9 fun t30 w10 =>
  ifD t30 (
  R (.tuple #[(Value.slice none 0 0), (Value.bool false)]) w10) (
  V Tryz.prog (binOp .lss 3 t5 (Value.int IntKind.i64 0)) w10 fun t33 w11 =>
  ifD t33 (
  I1 t4 t19 w11 ∧ μ1 t4 t19 w11 < μ1 t4 t5 w3) (
  V Tryz.prog (binOp .shl 3 t5 (Value.int IntKind.u64 4)) w11 fun t22 w12 =>
  V Tryz.prog (binOp .or 3 t22 t19) w12 fun t24 w13 =>
  V Tryz.prog (convert 3 5 t24) w13 fun t25 w14 =>
  V Tryz.prog (Instr.buildSlice 25 1 #[(0, t25)]) w14 fun t26 w15 =>
  V Tryz.prog (Builtin.append_ #[25, 25] 25 #[t4, t26]) w15 fun t27 w16 =>
  I1 t27 (Value.int IntKind.i64 (-1)) w16 ∧ μ1 t27 (Value.int IntKind.i64 (-1)) w16 < μ1 t4 t5 w3))) (
  V Tryz.prog (do eqGuard .neq 9 (Operand.tmp 36) (Operand.const (Value.string { data := #[] })) t0 (Value.string { data := #[] }); binOp .neq 9 t0 (Value.string { data := #[] })) w5 fun t37 w17 =>
  gd t37 true (fun K => K t5 w17) w17 fun t39 w18 =>
  gd t37 true (fun K => V Tryz.prog (binOp .lss 3 t39 (Value.int IntKind.i64 0)) w18 K) w18 fun t40 w19 =>
  pickD t37 t40 (Value.bool false) fun t41 =>
  R (.tuple #[t4, t41]) w19))
theorem F30_eq (t0 : Value) (w : World) (R : Value → World → Prop) : F30_den t0 w R = vc Tryz.prog F30_ann (Tryz.f30.body.getD .skip) (retE Tryz.prog Tryz.f30.results.toList R) (argEnv [t0]) w := by kernel_rfl
theorem F30_wp {t0 : Value} {w : World} {R : Value → World → Prop} (h : F30_den t0 w R) : callD Tryz.prog 30 #[t0] w R :=
  callD.of_calls (fn := Tryz.f30) (c := Tryz.f30.body.getD .skip) Tryz.func30 (by kernel_rfl) (by kernel_rfl) (calls_of_vc (args := [t0]) F30_ann mixed Tryz.func30 (by kernel_rfl) (by kernel_rfl) (F30_eq t0 w R ▸ h))

end Go.Proofs.YtmbeoehgpffneaaGreatDoor
