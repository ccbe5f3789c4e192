/- Each function's body, opened into a plain condition by program (vcgen.py); the kernel holds the one against the other. -/
import Derived.Test.YtgjmpnngheohbaaDoorLaws
import Derived.Test.YtgjmpnngheohbaaDoorProg
import Derived.KernelRfl
namespace Go.Proofs.YtgjmpnngheohbaaDoor
open Go.Vc
theorem mixed : Tryd.prog.follows .mixedOrders = true := by kernel_rfl
/-- taciturn/taciturnlaw12.RoomFields -/
def F3_ann : Ann := (Ann.seq Ann.leaf (Ann.seq Ann.leaf (Ann.seq (Ann.seq Ann.leaf (Ann.cond (Ann.seq Ann.leaf Ann.leaf) Ann.leaf)) (Ann.seq Ann.leaf (Ann.seq (Ann.seq Ann.leaf (Ann.block (Ann.loop [2, 6, 7, 8, 38, 39, 40, 41, 42, 43, 44, 45, 46, 47, 48, 49, 50, 51, 52, 53, 54, 55] [6] (Ann.seq (Ann.seq Ann.leaf (Ann.cond Ann.leaf Ann.leaf)) (Ann.seq (Ann.block (Ann.seq Ann.leaf (Ann.seq Ann.leaf (Ann.cond (Ann.seq Ann.leaf Ann.leaf) Ann.leaf)))) Ann.leaf))))) (Ann.seq (Ann.seq Ann.leaf (Ann.block (Ann.loop [2, 9, 10, 11, 12, 13, 14, 15, 56, 57, 58, 59, 60, 61, 62, 63, 64, 65, 66, 67, 68, 69, 70, 71, 72, 73, 74, 75, 76, 77, 78, 79, 80, 81, 82, 83, 84, 85, 86, 87, 88, 89, 90, 91, 92, 93, 94, 95, 96, 97, 98, 99, 100, 101, 102, 103, 104, 105, 106, 107, 108, 109, 110, 111, 112, 113, 114, 115, 116, 117, 118, 119, 120, 121, 122, 123, 124] [9] (Ann.seq (Ann.seq Ann.leaf (Ann.cond Ann.leaf Ann.leaf)) (Ann.seq (Ann.block (Ann.seq Ann.leaf (Ann.seq Ann.leaf (Ann.seq (Ann.seq Ann.leaf (Ann.cond (Ann.seq Ann.leaf Ann.leaf) Ann.leaf)) (Ann.seq (Ann.draw [0, 0, 0, 0, 12, 16, 32, 64, 1, 511, 767] [0, 0, 0, 0, 12, 16, 32, 64, 1, 258, 640] 0 11 2047 (.take 0 (.take 1 (.take 2 (.take 3 (.take 4 (.take 5 (.take 6 (.take 7 (.take 8 (.take 9 (.only 10 .done)))))))))))) (Ann.seq Ann.leaf (Ann.block (Ann.loop [2, 12, 13, 14, 15, 99, 100, 101, 102, 103, 104, 105, 106, 107, 108, 109, 110, 111, 112, 113, 114, 115, 116, 117, 118, 119, 120, 121, 122, 123, 124] [12] (Ann.seq (Ann.seq Ann.leaf (Ann.cond Ann.leaf Ann.leaf)) (Ann.seq (Ann.block (Ann.seq Ann.leaf (Ann.block (Ann.loop [2, 13, 14, 15, 103, 104, 105, 106, 107, 108, 109, 110, 111, 112, 113, 114, 115, 116, 117, 118, 119, 120, 121, 122, 123, 124] [13] (Ann.seq (Ann.seq Ann.leaf (Ann.cond Ann.leaf Ann.leaf)) (Ann.seq (Ann.block (Ann.seq Ann.leaf (Ann.seq Ann.leaf (Ann.cond (Ann.seq Ann.leaf Ann.leaf) Ann.leaf)))) Ann.leaf)))))) Ann.leaf)))))))))) Ann.leaf))))) (Ann.seq Ann.leaf (Ann.seq Ann.leaf (Ann.seq Ann.leaf (Ann.seq Ann.leaf (Ann.seq Ann.leaf Ann.leaf)))))))))))
def F3_den (t0 : Value) (w : World) (R : Value → World → Prop) : Prop :=
  callD Tryd.prog 5 #[(Value.int IntKind.i64 100)] w fun t25 w1 =>
  V Tryd.prog (Instr.extract t25 0) w1 fun t26 w2 =>
  V Tryd.prog (Instr.extract t25 1) w2 fun t27 w3 =>
  callD Tryd.prog 6 #[] w3 fun t28 w4 =>
  V Tryd.prog (Op.unary UnOp.not t28) w4 fun t29 w5 =>
  gd t29 false (fun K => K t27 w5) w5 fun t31 w6 =>
  gd t29 false (fun K => V Tryd.prog (do eqGuard .neq 24 (Operand.tmp 31) (Operand.const (Value.int IntKind.i64 0)) t31 (Value.int IntKind.i64 0); binOp .neq 24 t31 (Value.int IntKind.i64 0)) w6 K) w6 fun t32 w7 =>
  pickD t29 (Value.bool true) t32 fun t33 =>
  gd t33 false (fun K => K t26 w7) w7 fun t35 w9 =>
  gd t33 false (fun K => V Tryd.prog (do eqGuard .eql 23 (Operand.tmp 35) (Operand.const (Value.pointer none)) t35 (Value.pointer none); binOp .eql 23 t35 (Value.pointer none)) w9 K) w9 fun t36 w10 =>
  pickD t33 (Value.bool true) t36 fun t37 =>
  ifD t37 (
  R (Value.bool false) w10) (
  V Tryd.prog (Instr.alloc 29 true (.tuple #[])) w10 fun t5 w12 =>
  ∃ (I1 : NP 1) (μ1 : NF 1), I1 (Value.int IntKind.i64 0) w12 ∧
  ∀ (t6 : Value), ∀ w13 : World, I1 t6 w13 → ∀ _f : Env,
  V Tryd.prog (binOp .lss 3 t6 (Value.int IntKind.i64 3)) w13 fun t39 w14 =>
  ifD t39 (
  callD Tryd.prog 8 #[t6, (Value.slice none 0 0)] w14 fun t45 w15 =>
  callD Tryd.prog 7 #[t26, t45] w15 fun t46 w16 =>
  V Tryd.prog (Instr.extract t46 0) w16 fun t47 w17 =>
  V Tryd.prog (Instr.extract t46 1) w17 fun t48 w18 =>
  V Tryd.prog (Op.unary UnOp.not t48) w18 fun t50 w19 =>
  gd t50 false (fun K => K t47 w19) w19 fun t52 w20 =>
  gd t50 false (fun K => K t6 w20) w20 fun t53 w21 =>
  gd t50 false (fun K => V Tryd.prog (do eqGuard .neq 3 (Operand.tmp 52) (Operand.tmp 53) t52 t53; binOp .neq 3 t52 t53) w21 K) w21 fun t54 w22 =>
  pickD t50 (Value.bool true) t54 fun t55 =>
  ifD t55 (
  R (Value.bool false) w22) (
  V Tryd.prog (binOp .add 3 t6 (Value.int IntKind.i64 1)) w22 fun t41 w24 =>
  I1 t41 w24 ∧ μ1 t41 w24 < μ1 t6 w13)) (
  ∃ (I2 : NP 1) (μ2 : NF 1), I2 (Value.int IntKind.i64 0) w14 ∧
  ∀ (t9 : Value), ∀ w25 : World, I2 t9 w25 → ∀ _f : Env,
  V Tryd.prog (Builtin.len_ #[22] 3 #[t0]) w25 fun t58 w26 =>
  V Tryd.prog (binOp .lss 3 t9 t58) w26 fun t59 w27 =>
  gd t59 true (fun K => K t9 w27) w27 fun t61 w28 =>
  gd t59 true (fun K => V Tryd.prog (binOp .lss 3 t61 (Value.int IntKind.i64 50)) w28 K) w28 fun t62 w29 =>
  pickD t59 t62 (Value.bool false) fun t63 =>
  ifD t63 (
  V Tryd.prog (Instr.indexAt 22 t0 t9) w29 fun t68 w31 =>
  V Tryd.prog (Instr.fieldAt 42 t68 1) w31 fun t69 w32 =>
  V Tryd.prog (Instr.loadAt 3 t69) w32 fun t70 w33 =>
  callD Tryd.prog 9 #[t70, (Value.int IntKind.i64 3)] w33 fun t71 w34 =>
  V Tryd.prog (Instr.indexAt 22 t0 t9) w34 fun t74 w35 =>
  V Tryd.prog (Instr.fieldAt 42 t74 2) w35 fun t75 w36 =>
  V Tryd.prog (Instr.loadAt 3 t75) w36 fun t76 w37 =>
  callD Tryd.prog 9 #[t76, (Value.int IntKind.i64 4)] w37 fun t77 w38 =>
  V Tryd.prog (Instr.indexAt 22 t0 t9) w38 fun t83 w39 =>
  V Tryd.prog (Instr.fieldAt 42 t83 3) w39 fun t84 w40 =>
  V Tryd.prog (Instr.loadAt 3 t84) w40 fun t85 w41 =>
  V Tryd.prog (convert 3 21 t85) w41 fun t86 w42 =>
  callD Tryd.prog 10 #[t26, t71, t77, t86] w42 fun t87 w43 =>
  V Tryd.prog (Op.unary UnOp.not t87) w43 fun t88 w44 =>
  ifD t88 (
  R (Value.bool false) w44) (
  drawD w44 fun S18 w45 =>
  yieldS Tryd.prog S18 (Instr.indexAt 22 t0 t9) fun t93 =>
  yieldS Tryd.prog S18 (Instr.fieldAt 42 t93 3) fun t94 =>
  yieldS Tryd.prog S18 (Instr.loadAt 3 t94) fun t95 =>
  yieldS Tryd.prog S18 (convert 3 21 t95) fun t96 =>
  yieldS Tryd.prog S18 (Instr.indexAt 29 t5 t71) fun t97 =>
  yieldS Tryd.prog S18 (Instr.indexAt 28 t97 t77) fun t98 =>
  U Tryd.prog (Instr.storeAt 21 t98 t96) w45 fun _ w46 =>
  S18 w46 ∧
  ∃ (I3 : NP 1) (μ3 : NF 1), I3 (Value.int IntKind.i64 0) w46 ∧
  ∀ (t12 : Value), ∀ w47 : World, I3 t12 w47 → ∀ _f : Env,
  V Tryd.prog (binOp .lss 3 t12 (Value.int IntKind.i64 3)) w47 fun t100 w48 =>
  ifD t100 (
  ∃ (I4 : NP 1) (μ4 : NF 1), I4 (Value.int IntKind.i64 0) w48 ∧
  ∀ (t13 : Value), ∀ w49 : World, I4 t13 w49 → ∀ _f : Env,
  V Tryd.prog (binOp .lss 3 t13 (Value.int IntKind.i64 4)) w49 fun t104 w50 =>
  ifD t104 (
  callD Tryd.prog 11 #[t26, t12, t13] w50 fun t111 w51 =>
  V Tryd.prog (Instr.extract t111 0) w51 fun t112 w52 =>
  V Tryd.prog (Instr.extract t111 1) w52 fun t113 w53 =>
  V Tryd.prog (Op.unary UnOp.not t113) w53 fun t115 w54 =>
  gd t115 false (fun K => K t112 w54) w54 fun t117 w55 =>
  gd t115 false (fun K => K t12 w55) w55 fun t118 w56 =>
  gd t115 false (fun K => K t13 w56) w56 fun t119 w57 =>
  gd t115 false (fun K => V Tryd.prog (Instr.indexAt 29 t5 t118) w57 K) w57 fun t120 w58 =>
  gd t115 false (fun K => V Tryd.prog (Instr.indexAt 28 t120 t119) w58 K) w58 fun t121 w59 =>
  gd t115 false (fun K => V Tryd.prog (Instr.loadAt 21 t121) w59 K) w59 fun t122 w60 =>
  gd t115 false (fun K => V Tryd.prog (do eqGuard .neq 21 (Operand.tmp 117) (Operand.tmp 122) t117 t122; binOp .neq 21 t117 t122) w60 K) w60 fun t123 w61 =>
  pickD t115 (Value.bool true) t123 fun t124 =>
  ifD t124 (
  R (Value.bool false) w61) (
  V Tryd.prog (binOp .add 3 t13 (Value.int IntKind.i64 1)) w61 fun t106 w63 =>
  I4 t106 w63 ∧ μ4 t106 w63 < μ4 t13 w49)) (
  V Tryd.prog (binOp .add 3 t12 (Value.int IntKind.i64 1)) w50 fun t102 w64 =>
  I3 t102 w64 ∧ μ3 t102 w64 < μ3 t12 w47)) (
  V Tryd.prog (binOp .add 3 t9 (Value.int IntKind.i64 1)) w48 fun t65 w65 =>
  I2 t65 w65 ∧ μ2 t65 w65 < μ2 t9 w25))) (
  callD Tryd.prog 11 #[t26, (Value.int IntKind.i64 3), (Value.int IntKind.i64 0)] w29 fun t127 w66 =>
  V Tryd.prog (Instr.extract t127 0) w66 fun t128 w67 =>
  V Tryd.prog (Instr.extract t127 1) w67 fun t129 w68 =>
  callD Tryd.prog 11 #[t26, (Value.int IntKind.i64 0), (Value.int IntKind.i64 4)] w68 fun t132 w69 =>
  V Tryd.prog (Instr.extract t132 0) w69 fun t133 w70 =>
  V Tryd.prog (Instr.extract t132 1) w70 fun t134 w71 =>
  callD Tryd.prog 11 #[t26, (Value.int IntKind.i64 0), (Value.int IntKind.i64 (-1))] w71 fun t137 w72 =>
  V Tryd.prog (Instr.extract t137 0) w72 fun t138 w73 =>
  V Tryd.prog (Instr.extract t137 1) w73 fun t139 w74 =>
  callD Tryd.prog 12 #[t26, (Value.int IntKind.i64 3)] w74 fun t142 w75 =>
  V Tryd.prog (Instr.extract t142 0) w75 fun t143 w76 =>
  V Tryd.prog (Instr.extract t142 1) w76 fun t144 w77 =>
  V Tryd.prog (Instr.alloc 36 true (.tuple #[])) w77 fun t22 w78 =>
  U Tryd.prog (Instr.storeAt 36 t22 t143) w78 fun _ w79 =>
  V Tryd.prog (Op.unary UnOp.not t129) w79 fun t146 w80 =>
  gd t146 true (fun K => K t134 w80) w80 fun t148 w81 =>
  gd t146 true (fun K => V Tryd.prog (Op.unary UnOp.not t148) w81 K) w81 fun t149 w82 =>
  pickD t146 t149 (Value.bool false) fun t150 =>
  gd t150 true (fun K => K t139 w82) w82 fun t152 w84 =>
  gd t150 true (fun K => V Tryd.prog (Op.unary UnOp.not t152) w84 K) w84 fun t153 w85 =>
  pickD t150 t153 (Value.bool false) fun t154 =>
  gd t154 true (fun K => K t144 w85) w85 fun t156 w87 =>
  gd t154 true (fun K => V Tryd.prog (Op.unary UnOp.not t156) w87 K) w87 fun t157 w88 =>
  pickD t154 t157 (Value.bool false) fun t158 =>
  gd t158 true (fun K => K t26 w88) w88 fun t160 w90 =>
  gd t158 true (fun K => callD Tryd.prog 13 #[t160] w90 K) w90 fun t161 w91 =>
  gd t158 true (fun K => V Tryd.prog (do eqGuard .eql 3 (Operand.tmp 161) (Operand.const (Value.int IntKind.i64 3)) t161 (Value.int IntKind.i64 3); binOp .eql 3 t161 (Value.int IntKind.i64 3)) w91 K) w91 fun t162 w92 =>
  pickD t158 t162 (Value.bool false) fun t163 =>
  R t163 w92)))
theorem F3_eq (t0 : Value) (w : World) (R : Value → World → Prop) : F3_den t0 w R = vc Tryd.prog F3_ann (Tryd.f3.body.getD .skip) (retE Tryd.prog Tryd.f3.results.toList R) (argEnv [t0]) w := by kernel_rfl
theorem F3_wp {t0 : Value} {w : World} {R : Value → World → Prop} (h : F3_den t0 w R) : callD Tryd.prog 3 #[t0] w R :=
  callD.of_calls (fn := Tryd.f3) (c := Tryd.f3.body.getD .skip) Tryd.func3 (by kernel_rfl) (by kernel_rfl) (calls_of_vc (args := [t0]) F3_ann mixed Tryd.func3 (by kernel_rfl) (by kernel_rfl) (F3_eq t0 w R ▸ h))

/-- taciturn/taciturnhand.Pick -/
def F9_ann : Ann := (Ann.seq Ann.leaf (Ann.seq Ann.leaf (Ann.seq (Ann.seq Ann.leaf (Ann.cond Ann.leaf Ann.leaf)) (Ann.seq Ann.leaf Ann.leaf))))
def F9_den (t0 : Value) (t1 : Value) (w : World) (R : Value → World → Prop) : Prop :=
  V Tryd.prog (binOp .rem 3 t0 t1) w fun t7 w1 =>
  V Tryd.prog (binOp .lss 3 t7 (Value.int IntKind.i64 0)) w1 fun t9 w2 =>
  ifD t9 (
  V Tryd.prog (binOp .add 3 t7 t1) w2 fun t12 w3 =>
  R t12 w3) (
  R t7 w2)
theorem F9_eq (t0 : Value) (t1 : Value) (w : World) (R : Value → World → Prop) : F9_den t0 t1 w R = vc Tryd.prog F9_ann (Tryd.f9.body.getD .skip) (retE Tryd.prog Tryd.f9.results.toList R) (argEnv [t0, t1]) w := by kernel_rfl
theorem F9_wp {t0 : Value} {t1 : Value} {w : World} {R : Value → World → Prop} (h : F9_den t0 t1 w R) : callD Tryd.prog 9 #[t0, t1] w R :=
  callD.of_calls (fn := Tryd.f9) (c := Tryd.f9.body.getD .skip) Tryd.func9 (by kernel_rfl) (by kernel_rfl) (calls_of_vc (args := [t0, t1]) F9_ann mixed Tryd.func9 (by kernel_rfl) (by kernel_rfl) (F9_eq t0 t1 w R ▸ h))

/-- (*taciturn/room.Room).SetField -/
def F10_ann : Ann := (Ann.seq Ann.leaf (Ann.seq (Ann.seq Ann.leaf (Ann.seq Ann.leaf (Ann.cond (Ann.seq Ann.leaf Ann.leaf) Ann.leaf))) (Ann.seq Ann.leaf (Ann.seq Ann.leaf Ann.leaf))))
def F10_den (t0 : Value) (t1 : Value) (t2 : Value) (t3 : Value) (w : World) (R : Value → World → Prop) : Prop :=
  callD Tryd.prog 11 #[t0, t1, t2] w fun t15 w1 =>
  V Tryd.prog (Instr.extract t15 0) w1 fun t16 w2 =>
  V Tryd.prog (Instr.extract t15 1) w2 fun t17 w3 =>
  V Tryd.prog (Op.unary UnOp.not t17) w3 fun t19 w4 =>
  ifD t19 (
  R (Value.bool false) w4) (
  Go.Vc.Safe (t0) ∧
  V Tryd.prog (Instr.fieldAt 80 t0 2) w4 fun t22 w6 =>
  V Tryd.prog (Instr.loadAt 61 t22) w6 fun t23 w7 =>
  V Tryd.prog (Instr.indexAt 61 t23 t1) w7 fun t25 w8 =>
  V Tryd.prog (Instr.loadAt 39 t25) w8 fun t26 w9 =>
  V Tryd.prog (Instr.indexAt 39 t26 t2) w9 fun t29 w10 =>
  U Tryd.prog (Instr.storeAt 21 t29 t3) w10 fun _ w11 =>
  R (Value.bool true) w11)
theorem F10_eq (t0 : Value) (t1 : Value) (t2 : Value) (t3 : Value) (w : World) (R : Value → World → Prop) : F10_den t0 t1 t2 t3 w R = vc Tryd.prog F10_ann (Tryd.f10.body.getD .skip) (retE Tryd.prog Tryd.f10.results.toList R) (argEnv [t0, t1, t2, t3]) w := by kernel_rfl
theorem F10_wp {t0 : Value} {t1 : Value} {t2 : Value} {t3 : Value} {w : World} {R : Value → World → Prop} (h : F10_den t0 t1 t2 t3 w R) : callD Tryd.prog 10 #[t0, t1, t2, t3] w R :=
  callD.of_calls (fn := Tryd.f10) (c := Tryd.f10.body.getD .skip) Tryd.func10 (by kernel_rfl) (by kernel_rfl) (calls_of_vc (args := [t0, t1, t2, t3]) F10_ann mixed Tryd.func10 (by kernel_rfl) (by kernel_rfl) (F10_eq t0 t1 t2 t3 w R ▸ h))

/-- (*taciturn/room.Room).Field -/
def F11_ann : Ann := (Ann.seq Ann.leaf (Ann.seq (Ann.seq Ann.leaf (Ann.cond (Ann.seq Ann.leaf Ann.leaf) Ann.leaf)) (Ann.seq Ann.leaf Ann.leaf)))
def F11_den (t0 : Value) (t1 : Value) (t2 : Value) (w : World) (R : Value → World → Prop) : Prop :=
  V Tryd.prog (binOp .lss 3 t1 (Value.int IntKind.i64 0)) w fun t9 w1 =>
  gd t9 false (fun K => K t1 w1) w1 fun t11 w2 =>
  gd t9 false (fun K => K t0 w2) w2 fun t12 w3 =>
  gd t9 false (fun K => (Go.Vc.Safe (t12) ∧ K (t12) w3)) w3 fun t13 w4 =>
  gd t9 false (fun K => V Tryd.prog (Instr.fieldAt 80 t13 2) w4 K) w4 fun t14 w5 =>
  gd t9 false (fun K => V Tryd.prog (Instr.loadAt 61 t14) w5 K) w5 fun t15 w6 =>
  gd t9 false (fun K => V Tryd.prog (Builtin.len_ #[61] 3 #[t15]) w6 K) w6 fun t16 w7 =>
  gd t9 false (fun K => V Tryd.prog (binOp .geq 3 t11 t16) w7 K) w7 fun t17 w8 =>
  pickD t9 (Value.bool true) t17 fun t18 =>
  gd t18 false (fun K => K t2 w8) w8 fun t20 w10 =>
  gd t18 false (fun K => V Tryd.prog (binOp .lss 3 t20 (Value.int IntKind.i64 0)) w10 K) w10 fun t21 w11 =>
  pickD t18 (Value.bool true) t21 fun t22 =>
  gd t22 false (fun K => K t2 w11) w11 fun t24 w13 =>
  gd t22 false (fun K => K t0 w13) w13 fun t25 w14 =>
  gd t22 false (fun K => (Go.Vc.Safe (t25) ∧ K (t25) w14)) w14 fun t26 w15 =>
  gd t22 false (fun K => V Tryd.prog (Instr.fieldAt 80 t26 2) w15 K) w15 fun t27 w16 =>
  gd t22 false (fun K => V Tryd.prog (Instr.loadAt 61 t27) w16 K) w16 fun t28 w17 =>
  gd t22 false (fun K => K t1 w17) w17 fun t29 w18 =>
  gd t22 false (fun K => V Tryd.prog (Instr.indexAt 61 t28 t29) w18 K) w18 fun t30 w19 =>
  gd t22 false (fun K => V Tryd.prog (Instr.loadAt 39 t30) w19 K) w19 fun t31 w20 =>
  gd t22 false (fun K => V Tryd.prog (Builtin.len_ #[39] 3 #[t31]) w20 K) w20 fun t32 w21 =>
  gd t22 false (fun K => V Tryd.prog (binOp .geq 3 t24 t32) w21 K) w21 fun t33 w22 =>
  pickD t22 (Value.bool true) t33 fun t34 =>
  ifD t34 (
  R (.tuple #[(Value.int IntKind.i32 0), (Value.bool false)]) w22) (
  Go.Vc.Safe (t0) ∧
  V Tryd.prog (Instr.fieldAt 80 t0 2) w22 fun t37 w25 =>
  V Tryd.prog (Instr.loadAt 61 t37) w25 fun t38 w26 =>
  V Tryd.prog (Instr.indexAt 61 t38 t1) w26 fun t40 w27 =>
  V Tryd.prog (Instr.loadAt 39 t40) w27 fun t41 w28 =>
  V Tryd.prog (Instr.indexAt 39 t41 t2) w28 fun t43 w29 =>
  V Tryd.prog (Instr.loadAt 21 t43) w29 fun t44 w30 =>
  R (.tuple #[t44, (Value.bool true)]) w30)
theorem F11_eq (t0 : Value) (t1 : Value) (t2 : Value) (w : World) (R : Value → World → Prop) : F11_den t0 t1 t2 w R = vc Tryd.prog F11_ann (Tryd.f11.body.getD .skip) (retE Tryd.prog Tryd.f11.results.toList R) (argEnv [t0, t1, t2]) w := by kernel_rfl
theorem F11_wp {t0 : Value} {t1 : Value} {t2 : Value} {w : World} {R : Value → World → Prop} (h : F11_den t0 t1 t2 w R) : callD Tryd.prog 11 #[t0, t1, t2] w R :=
  callD.of_calls (fn := Tryd.f11) (c := Tryd.f11.body.getD .skip) Tryd.func11 (by kernel_rfl) (by kernel_rfl) (calls_of_vc (args := [t0, t1, t2]) F11_ann mixed Tryd.func11 (by kernel_rfl) (by kernel_rfl) (F11_eq t0 t1 t2 w R ▸ h))

/-- (*taciturn/room.Room).Image -/
def F12_ann : Ann := (Ann.seq Ann.leaf (Ann.seq (Ann.seq Ann.leaf (Ann.cond (Ann.seq Ann.leaf Ann.leaf) Ann.leaf)) (Ann.seq Ann.leaf Ann.leaf)))
def F12_den (t0 : Value) (t1 : Value) (w : World) (R : Value → World → Prop) : Prop :=
  V Tryd.prog (Instr.alloc 36 true (.tuple #[])) w fun t4 w1 =>
  V Tryd.prog (binOp .lss 3 t1 (Value.int IntKind.i64 0)) w1 fun t7 w2 =>
  gd t7 false (fun K => K t1 w2) w2 fun t9 w3 =>
  gd t7 false (fun K => K t0 w3) w3 fun t10 w4 =>
  gd t7 false (fun K => (Go.Vc.Safe (t10) ∧ K (t10) w4)) w4 fun t11 w5 =>
  gd t7 false (fun K => V Tryd.prog (Instr.fieldAt 80 t11 1) w5 K) w5 fun t12 w6 =>
  gd t7 false (fun K => V Tryd.prog (Instr.loadAt 60 t12) w6 K) w6 fun t13 w7 =>
  gd t7 false (fun K => V Tryd.prog (Builtin.len_ #[60] 3 #[t13]) w7 K) w7 fun t14 w8 =>
  gd t7 false (fun K => V Tryd.prog (binOp .geq 3 t9 t14) w8 K) w8 fun t15 w9 =>
  pickD t7 (Value.bool true) t15 fun t16 =>
  ifD t16 (
  V Tryd.prog (Instr.build 36 #[]) w9 fun t17 w11 =>
  U Tryd.prog (Instr.storeAt 36 t4 t17) w11 fun _ w12 =>
  ∃ r1, (loadVar 36 (match t4 with | .pointer (some p) => p | _ => ⟨0, 0, none⟩)).run Tryd.prog w12 = .ok r1 w12 ∧ (∃ p, t4 = Value.pointer (some p)) ∧ R (.tuple #[r1, (Value.bool false)]) w12) (
  Go.Vc.Safe (t0) ∧
  V Tryd.prog (Instr.fieldAt 80 t0 1) w9 fun t20 w14 =>
  V Tryd.prog (Instr.loadAt 60 t20) w14 fun t21 w15 =>
  V Tryd.prog (Instr.indexAt 60 t21 t1) w15 fun t23 w16 =>
  V Tryd.prog (Instr.loadAt 36 t23) w16 fun t24 w17 =>
  callD Tryd.prog 26 #[t24] w17 fun t25 w18 =>
  U Tryd.prog (Instr.storeAt 36 t4 t25) w18 fun _ w19 =>
  ∃ r1, (loadVar 36 (match t4 with | .pointer (some p) => p | _ => ⟨0, 0, none⟩)).run Tryd.prog w19 = .ok r1 w19 ∧ (∃ p, t4 = Value.pointer (some p)) ∧ R (.tuple #[r1, (Value.bool true)]) w19)
theorem F12_eq (t0 : Value) (t1 : Value) (w : World) (R : Value → World → Prop) : F12_den t0 t1 w R = vc Tryd.prog F12_ann (Tryd.f12.body.getD .skip) (retE Tryd.prog Tryd.f12.results.toList R) (argEnv [t0, t1]) w := by kernel_rfl
theorem F12_wp {t0 : Value} {t1 : Value} {w : World} {R : Value → World → Prop} (h : F12_den t0 t1 w R) : callD Tryd.prog 12 #[t0, t1] w R :=
  callD.of_calls (fn := Tryd.f12) (c := Tryd.f12.body.getD .skip) Tryd.func12 (by kernel_rfl) (by kernel_rfl) (calls_of_vc (args := [t0, t1]) F12_ann mixed Tryd.func12 (by kernel_rfl) (by kernel_rfl) (F12_eq t0 t1 w R ▸ h))

/-- (*taciturn/room.Room).Count -/
def F13_ann : Ann := (Ann.seq Ann.leaf (Ann.seq Ann.leaf Ann.leaf))
def F13_den (t0 : Value) (w : World) (R : Value → World → Prop) : Prop :=
  Go.Vc.Safe (t0) ∧
  V Tryd.prog (Instr.fieldAt 80 t0 1) w fun t5 w2 =>
  V Tryd.prog (Instr.loadAt 60 t5) w2 fun t6 w3 =>
  V Tryd.prog (Builtin.len_ #[60] 3 #[t6]) w3 fun t7 w4 =>
  R t7 w4
theorem F13_eq (t0 : Value) (w : World) (R : Value → World → Prop) : F13_den t0 w R = vc Tryd.prog F13_ann (Tryd.f13.body.getD .skip) (retE Tryd.prog Tryd.f13.results.toList R) (argEnv [t0]) w := by kernel_rfl
theorem F13_wp {t0 : Value} {w : World} {R : Value → World → Prop} (h : F13_den t0 w R) : callD Tryd.prog 13 #[t0] w R :=
  callD.of_calls (fn := Tryd.f13) (c := Tryd.f13.body.getD .skip) Tryd.func13 (by kernel_rfl) (by kernel_rfl) (calls_of_vc (args := [t0]) F13_ann mixed Tryd.func13 (by kernel_rfl) (by kernel_rfl) (F13_eq t0 w R ▸ h))

end Go.Proofs.YtgjmpnngheohbaaDoor
