/- Each function's body, opened into a plain condition by program (vcgen.py); the kernel holds the one against the other. -/
import Derived.Test.YtgjmpnngheohbaaDoorLaws
import Derived.Test.YtgjmpnngheohbaaDoorProg
import Derived.KernelRfl
namespace Go.Proofs.YtgjmpnngheohbaaDoor
open Go.Vc
theorem mixed : Tryd.prog.follows .mixedOrders = true := by kernel_rfl
/-- taciturn/taciturnlaw12.RoomServes -/
def F4_ann : Ann := (Ann.seq Ann.leaf (Ann.seq Ann.leaf (Ann.seq Ann.leaf (Ann.seq Ann.leaf (Ann.seq (Ann.seq Ann.leaf (Ann.cond (Ann.seq Ann.leaf Ann.leaf) Ann.leaf)) (Ann.seq Ann.leaf (Ann.seq Ann.leaf (Ann.seq (Ann.seq Ann.leaf (Ann.block (Ann.loop [10, 57, 58, 59, 60, 61, 62, 63, 64, 65, 66, 67, 68] [10] (Ann.seq (Ann.seq Ann.leaf (Ann.cond Ann.leaf Ann.leaf)) (Ann.seq (Ann.block (Ann.seq Ann.leaf Ann.leaf)) Ann.leaf))))) (Ann.seq (Ann.seq Ann.leaf (Ann.block (Ann.loop [4, 11, 12, 13, 14, 15, 16, 17, 18, 19, 20, 21, 22, 23, 24, 25, 26, 27, 69, 70, 71, 72, 73, 74, 75, 76, 77, 78, 79, 80, 81, 82, 83, 84, 85, 86, 87, 88, 89, 90, 91, 92, 93, 94, 95, 96, 97, 98, 99, 100, 101, 102, 103, 104, 105, 106, 107, 108, 109, 110, 111, 112, 113, 114, 115, 116, 117, 118, 119, 120, 121, 122, 123, 124, 125, 126, 127, 128, 129, 130, 131, 132, 133, 134, 135, 136, 137, 138, 139, 140, 141, 142, 143, 144, 145, 146, 147, 148, 149, 150, 151, 152, 153, 154, 155, 156, 157, 158, 159, 160, 161, 162, 163, 164, 165, 166, 167, 168, 169, 170, 171, 172, 173, 174, 175, 176, 177, 178, 179, 180, 181, 182, 183, 184, 185, 186, 187, 188, 189, 190, 191, 192, 193, 194, 195, 196, 197, 198, 199, 200, 201, 202, 203, 204, 205, 206, 207, 208, 209, 210, 211, 212, 213, 214, 215, 216, 217, 218, 219, 220, 221, 222, 223, 224, 225, 226, 227, 228, 229, 230, 231, 232, 233, 234, 235, 236, 237] [11] (Ann.seq (Ann.seq Ann.leaf (Ann.cond Ann.leaf Ann.leaf)) (Ann.seq (Ann.block (Ann.seq Ann.leaf (Ann.seq Ann.leaf (Ann.join [4, 14, 15, 16, 17, 18, 19, 20, 21, 22, 23, 24, 25, 26, 27, 86, 87, 88, 89, 90, 91, 92, 93, 94, 95, 96, 97, 98, 99, 100, 101, 102, 103, 104, 105, 106, 107, 108, 109, 110, 111, 112, 113, 114, 115, 116, 117, 118, 119, 120, 121, 122, 123, 124, 125, 126, 127, 128, 129, 130, 131, 132, 133, 134, 135, 136, 137, 138, 139, 140, 141, 142, 143, 144, 145, 146, 147, 148, 149, 150, 151, 152, 153, 154, 155, 156, 157, 158, 159, 160, 161, 162, 163, 164, 165, 166, 167, 168, 169, 170, 171, 172, 173, 174, 175, 176, 177, 178, 179, 180, 181, 182, 183, 184, 185, 186, 187, 188, 189, 190, 191, 192, 193, 194, 195, 196, 197, 198, 199, 200, 201, 202, 203, 204, 205, 206, 207, 208, 209, 210, 211, 212, 213, 214, 215, 216, 217, 218, 219, 220, 221, 222, 223, 224, 225, 226, 227, 228, 229, 230, 231] [] (Ann.seq Ann.leaf (Ann.seq Ann.leaf (Ann.block (Ann.seq Ann.leaf (Ann.cond (Ann.seq Ann.leaf (Ann.seq (Ann.seq Ann.leaf (Ann.cond (Ann.seq Ann.leaf Ann.leaf) Ann.leaf)) (Ann.seq Ann.leaf (Ann.cond (Ann.draw [0, 1, 2, 4, 0, 24, 32, 0, 0, 256, 512, 2047, 4095] [0, 1, 2, 4, 0, 24, 32, 0, 0, 256, 512, 192, 3072] 0 12 4095 (.take 0 (.take 1 (.take 2 (.take 3 (.take 4 (.take 5 (.take 6 (.take 7 (.take 8 (.take 9 (.take 10 (.take 11 (.last 12)))))))))))))) Ann.leaf)))) (Ann.seq Ann.leaf (Ann.cond (Ann.seq Ann.leaf (Ann.seq (Ann.draw [0, 0, 0, 4, 11, 0, 0, 0, 128, 368, 528] [0, 0, 0, 4, 11, 0, 0, 0, 128, 352, 528] 0 11 2047 (.take 0 (.take 1 (.take 2 (.take 3 (.take 5 (.take 6 (.take 7 (.take 8 (.only 4 (.only 9 (.take 10 .done)))))))))))) (Ann.cond (Ann.seq Ann.leaf Ann.leaf) Ann.leaf))) (Ann.seq Ann.leaf (Ann.seq Ann.leaf (Ann.seq (Ann.seq Ann.leaf (Ann.block (Ann.loop [18, 19, 20, 93, 94, 95, 96, 97, 98, 99, 100, 101, 102, 103, 104, 105, 106, 107, 108, 109, 110, 111, 112, 113, 114, 115, 116, 117] [18, 19] (Ann.seq (Ann.seq Ann.leaf (Ann.cond Ann.leaf Ann.leaf)) (Ann.seq (Ann.block (Ann.seq Ann.leaf (Ann.join [20, 97, 98, 99, 100, 101, 102, 103, 104, 105, 106] [20] (Ann.seq Ann.leaf (Ann.cond Ann.leaf Ann.leaf)) (Ann.seq (Ann.seq Ann.leaf (Ann.cond Ann.leaf Ann.leaf)) Ann.leaf)))) Ann.leaf))))) (Ann.seq Ann.leaf (Ann.join [21, 120, 121, 122, 123, 124, 125, 126, 127, 128, 129, 130] [21] (Ann.seq Ann.leaf (Ann.cond Ann.leaf Ann.leaf)) (Ann.seq Ann.leaf (Ann.join [22, 135, 136, 137, 138, 139, 140] [22] (Ann.seq Ann.leaf (Ann.cond Ann.leaf Ann.leaf)) (Ann.seq Ann.leaf (Ann.seq Ann.leaf (Ann.seq Ann.leaf (Ann.seq Ann.leaf (Ann.cond (Ann.seq Ann.leaf Ann.leaf) Ann.leaf))))))))))))))))))) (Ann.seq Ann.leaf (Ann.cond (Ann.seq Ann.leaf Ann.leaf) Ann.leaf)))))) Ann.leaf))))) (Ann.seq Ann.leaf (Ann.seq (Ann.seq Ann.leaf (Ann.cond (Ann.seq Ann.leaf Ann.leaf) Ann.leaf)) (Ann.seq (Ann.seq Ann.leaf (Ann.block (Ann.loop [4, 29, 248, 249, 250, 251, 252, 253, 254, 255, 256, 257, 258, 259, 260, 261, 262, 263, 264, 265] [29] (Ann.seq (Ann.seq Ann.leaf (Ann.cond Ann.leaf Ann.leaf)) (Ann.seq (Ann.block (Ann.seq (Ann.draw [0, 0, 3, 4, 0, 16, 32, 64, 0, 384, 512, 1032] [0, 0, 3, 4, 0, 16, 32, 64, 0, 384, 512, 1032] 0 12 4095 (.take 0 (.take 1 (.take 2 (.take 3 (.take 4 (.take 5 (.take 6 (.take 7 (.take 8 (.take 9 (.take 10 (.take 11 .done))))))))))))) (Ann.cond (Ann.seq Ann.leaf Ann.leaf) Ann.leaf))) Ann.leaf))))) (Ann.seq Ann.leaf Ann.leaf)))))))))))))
def F4_den (t0 : Value) (t1 : Value) (w : World) (R : Value → World → Prop) : Prop :=
  callD Tryd.prog 9 #[t0, (Value.int IntKind.i64 300)] w fun t31 w1 =>
  V Tryd.prog (binOp .add 3 (Value.int IntKind.i64 64) t31) w1 fun t32 w2 =>
  callD Tryd.prog 5 #[t32] w2 fun t35 w3 =>
  V Tryd.prog (Instr.extract t35 0) w3 fun t36 w4 =>
  V Tryd.prog (Instr.extract t35 1) w4 fun t37 w5 =>
  callD Tryd.prog 14 #[] w5 fun t38 w6 =>
  callD Tryd.prog 6 #[] w6 fun t39 w7 =>
  V Tryd.prog (Op.unary UnOp.not t39) w7 fun t40 w8 =>
  gd t40 false (fun K => K t37 w8) w8 fun t42 w9 =>
  gd t40 false (fun K => V Tryd.prog (do eqGuard .neq 24 (Operand.tmp 42) (Operand.const (Value.int IntKind.i64 0)) t42 (Value.int IntKind.i64 0); binOp .neq 24 t42 (Value.int IntKind.i64 0)) w9 K) w9 fun t43 w10 =>
  pickD t40 (Value.bool true) t43 fun t44 =>
  gd t44 false (fun K => K t36 w10) w10 fun t46 w12 =>
  gd t44 false (fun K => V Tryd.prog (do eqGuard .eql 23 (Operand.tmp 46) (Operand.const (Value.pointer none)) t46 (Value.pointer none); binOp .eql 23 t46 (Value.pointer none)) w12 K) w12 fun t47 w13 =>
  pickD t44 (Value.bool true) t47 fun t48 =>
  gd t48 false (fun K => K t38 w13) w13 fun t50 w15 =>
  gd t48 false (fun K => V Tryd.prog (do eqGuard .eql 50 (Operand.tmp 50) (Operand.const (Value.pointer none)) t50 (Value.pointer none); binOp .eql 50 t50 (Value.pointer none)) w15 K) w15 fun t51 w16 =>
  pickD t48 (Value.bool true) t51 fun t52 =>
  ifD t52 (
  R (Value.bool false) w16) (
  callD Tryd.prog 15 #[t32] w16 fun t54 w18 =>
  V Tryd.prog (Instr.build 57 #[]) w18 fun t55 w19 =>
  V Tryd.prog (Instr.box 57 t55) w19 fun t56 w20 =>
  ∃ (I1 : NP 1) (μ1 : NF 1), I1 (Value.int IntKind.i64 0) w20 ∧
  ∀ (t10 : Value), ∀ w21 : World, I1 t10 w21 → ∀ _f : Env,
  V Tryd.prog (binOp .lss 3 t10 (Value.int IntKind.i64 2)) w21 fun t58 w22 =>
  ifD t58 (
  callD Tryd.prog 8 #[t10, (Value.slice none 0 0)] w22 fun t63 w23 =>
  callD Tryd.prog 7 #[t36, t63] w23 fun t64 w24 =>
  callD Tryd.prog 8 #[t10, (Value.slice none 0 0)] w24 fun t67 w25 =>
  callD Tryd.prog 16 #[t54, t67] w25 fun t68 w26 =>
  V Tryd.prog (binOp .add 3 t10 (Value.int IntKind.i64 1)) w26 fun t60 w27 =>
  I1 t60 w27 ∧ μ1 t60 w27 < μ1 t10 w21) (
  ∃ (I2 : NP 1) (μ2 : NF 1), I2 (Value.int IntKind.i64 0) w22 ∧
  ∀ (t11 : Value), ∀ w28 : World, I2 t11 w28 → ∀ _f : Env,
  V Tryd.prog (Builtin.len_ #[22] 3 #[t1]) w28 fun t71 w29 =>
  V Tryd.prog (binOp .lss 3 t11 t71) w29 fun t72 w30 =>
  gd t72 true (fun K => K t11 w30) w30 fun t74 w31 =>
  gd t72 true (fun K => V Tryd.prog (binOp .lss 3 t74 (Value.int IntKind.i64 50)) w31 K) w31 fun t75 w32 =>
  pickD t72 t75 (Value.bool false) fun t76 =>
  ifD t76 (
  V Tryd.prog (Instr.indexAt 22 t1 t11) w32 fun t81 w34 =>
  V Tryd.prog (Instr.loadAt 42 t81) w34 fun t82 w35 =>
  V Tryd.prog (Instr.alloc 42 true (.tuple #[])) w35 fun t12 w36 =>
  U Tryd.prog (Instr.storeAt 42 t12 t82) w36 fun _ w37 =>
  V Tryd.prog (Instr.fieldAt 42 t12 1) w37 fun t83 w38 =>
  V Tryd.prog (Instr.loadAt 3 t83) w38 fun t84 w39 =>
  callD Tryd.prog 9 #[t84, (Value.int IntKind.i64 2)] w39 fun t85 w40 =>
  ∃ J3 : NP 0,
  (V Tryd.prog (Instr.fieldAt 42 t12 0) w40 fun t86 w41 =>
  V Tryd.prog (Instr.loadAt 3 t86) w41 fun t87 w42 =>
  callD Tryd.prog 9 #[t87, (Value.int IntKind.i64 15)] w42 fun t88 w43 =>
  V Tryd.prog (do eqGuard .eql 3 (Operand.tmp 89) (Operand.const (Value.int IntKind.i64 13)) t88 (Value.int IntKind.i64 13); binOp .eql 3 t88 (Value.int IntKind.i64 13)) w43 fun t179 w44 =>
  ifD t179 (
  V Tryd.prog (Instr.fieldAt 42 t12 2) w44 fun t180 w45 =>
  V Tryd.prog (Instr.loadAt 3 t180) w45 fun t181 w46 =>
  callD Tryd.prog 9 #[t181, (Value.int IntKind.i64 6)] w46 fun t182 w47 =>
  V Tryd.prog (binOp .sub 3 t182 (Value.int IntKind.i64 1)) w47 fun t183 w48 =>
  V Tryd.prog (Instr.fieldAt 42 t12 3) w48 fun t187 w49 =>
  V Tryd.prog (Instr.loadAt 3 t187) w49 fun t188 w50 =>
  V Tryd.prog (convert 3 21 t188) w50 fun t189 w51 =>
  callD Tryd.prog 10 #[t36, t85, t183, t189] w51 fun t190 w52 =>
  V Tryd.prog (binOp .geq 3 t183 (Value.int IntKind.i64 0)) w52 fun t192 w53 =>
  gd t192 true (fun K => K t183 w53) w53 fun t194 w54 =>
  gd t192 true (fun K => V Tryd.prog (binOp .lss 3 t194 (Value.int IntKind.i64 4)) w54 K) w54 fun t195 w55 =>
  pickD t192 t195 (Value.bool false) fun t196 =>
  V Tryd.prog (do eqGuard .neq 4 (Operand.tmp 190) (Operand.tmp 196) t190 t196; binOp .neq 4 t190 t196) w55 fun t197 w57 =>
  ifD t197 (
  R (Value.bool false) w57) (
  V Tryd.prog (binOp .geq 3 t183 (Value.int IntKind.i64 0)) w57 fun t199 w58 =>
  gd t199 true (fun K => K t183 w58) w58 fun t201 w59 =>
  gd t199 true (fun K => V Tryd.prog (binOp .lss 3 t201 (Value.int IntKind.i64 4)) w59 K) w59 fun t202 w60 =>
  pickD t199 t202 (Value.bool false) fun t203 =>
  ifD t203 (
  drawD w60 fun S47 w62 =>
  Go.Vc.Safe (t54) ∧
  yieldS Tryd.prog S47 (Instr.fieldAt 63 t54 2) fun t206 =>
  yieldS Tryd.prog S47 (Instr.loadAt 61 t206) fun t207 =>
  yieldS Tryd.prog S47 (Instr.indexAt 61 t207 t85) fun t209 =>
  yieldS Tryd.prog S47 (Instr.loadAt 39 t209) fun t210 =>
  yieldS Tryd.prog S47 (Instr.fieldAt 42 t12 3) fun t212 =>
  yieldS Tryd.prog S47 (Instr.loadAt 3 t212) fun t213 =>
  yieldS Tryd.prog S47 (convert 3 21 t213) fun t214 =>
  yieldS Tryd.prog S47 (Instr.indexAt 39 t210 t183) fun t215 =>
  U Tryd.prog (Instr.storeAt 21 t215 t214) w62 fun _ w63 =>
  J3 w63) (
  J3 w60))) (
  V Tryd.prog (do eqGuard .eql 3 (Operand.tmp 89) (Operand.const (Value.int IntKind.i64 14)) t88 (Value.int IntKind.i64 14); binOp .eql 3 t88 (Value.int IntKind.i64 14)) w44 fun t217 w64 =>
  ifD t217 (
  V Tryd.prog (Instr.fieldAt 42 t12 5) w64 fun t218 w65 =>
  V Tryd.prog (Instr.loadAt 40 t218) w65 fun t219 w66 =>
  callD Tryd.prog 17 #[t219, (Value.int IntKind.i64 66)] w66 fun t220 w67 =>
  drawD w67 fun S50 w68 =>
  yieldS Tryd.prog S50 (Instr.fieldAt 42 t12 6) fun t223 =>
  yieldS Tryd.prog S50 (Instr.loadAt 40 t223) fun t224 =>
  yieldS Tryd.prog S50 (Instr.fieldAt 42 t12 6) fun t228 =>
  yieldS Tryd.prog S50 (Instr.loadAt 40 t228) fun t229 =>
  callD Tryd.prog 18 #[t36, t220, t224] w68 fun t225 w69 =>
  S50 w69 ∧
  callD Tryd.prog 19 #[t54, t220, t229] w69 fun t230 w70 =>
  S50 w70 ∧
  yieldS Tryd.prog S50 (do eqGuard .neq 4 (Operand.tmp 225) (Operand.tmp 230) t225 t230; binOp .neq 4 t225 t230) fun t231 =>
  ifD t231 (
  R (Value.bool false) w70) (
  J3 w70)) (
  V Tryd.prog (Instr.build 66 #[(0, (Value.int IntKind.i64 17)), (1, (Value.int IntKind.i64 18)), (2, (Value.int IntKind.i64 27)), (3, (Value.int IntKind.i64 28)), (4, (Value.int IntKind.i64 29)), (5, (Value.int IntKind.i64 30)), (6, (Value.int IntKind.i64 31)), (7, (Value.int IntKind.i64 32)), (8, (Value.int IntKind.i64 36)), (9, (Value.int IntKind.i64 27)), (10, (Value.int IntKind.i64 30)), (11, (Value.int IntKind.i64 31)), (12, (Value.int IntKind.i64 6))]) w64 fun t90 w71 =>
  V Tryd.prog (Instr.index 66 t90 t88) w71 fun t92 w72 =>
  ∃ (I4 : NP 2) (μ4 : NF 2), I4 (Value.slice none 0 0) (Value.int IntKind.i64 0) w72 ∧
  ∀ (t18 : Value) (t19 : Value), ∀ w73 : World, I4 t18 t19 w73 → ∀ _f : Env,
  V Tryd.prog (binOp .lss 3 t19 (Value.int IntKind.i64 6)) w73 fun t94 w74 =>
  ifD t94 (
  ∃ J5 : NP 1,
  (V Tryd.prog (Instr.fieldAt 42 t12 4) w74 fun t98 w75 =>
  V Tryd.prog (Instr.loadAt 39 t98) w75 fun t99 w76 =>
  V Tryd.prog (Builtin.len_ #[39] 3 #[t99]) w76 fun t100 w77 =>
  V Tryd.prog (binOp .lss 3 t19 t100) w77 fun t101 w78 =>
  ifD t101 (
  V Tryd.prog (Instr.fieldAt 42 t12 4) w78 fun t102 w79 =>
  V Tryd.prog (Instr.loadAt 39 t102) w79 fun t103 w80 =>
  V Tryd.prog (Instr.indexAt 39 t103 t19) w80 fun t105 w81 =>
  V Tryd.prog (Instr.loadAt 21 t105) w81 fun t106 w82 =>
  J5 t106 w82) (
  J5 (Value.int IntKind.i32 0) w78)) ∧
  ∀ (t20 : Value), ∀ w83 : World, J5 t20 w83 → ∀ _f : Env,
  V Tryd.prog (binOp .rem 21 t20 (Value.int IntKind.i32 11)) w83 fun t108 w84 =>
  V Tryd.prog (do eqGuard .neq 21 (Operand.tmp 108) (Operand.const (Value.int IntKind.i32 10)) t108 (Value.int IntKind.i32 10); binOp .neq 21 t108 (Value.int IntKind.i32 10)) w84 fun t109 w85 =>
  ifD t109 (
  V Tryd.prog (convert 21 3 t20) w85 fun t111 w86 =>
  callD Tryd.prog 9 #[t111, (Value.int IntKind.i64 9)] w86 fun t112 w87 =>
  V Tryd.prog (convert 3 21 t112) w87 fun t113 w88 =>
  V Tryd.prog (Instr.buildSlice 39 1 #[(0, t113)]) w88 fun t116 w89 =>
  V Tryd.prog (Builtin.append_ #[39, 39] 39 #[t18, t116]) w89 fun t117 w90 =>
  V Tryd.prog (binOp .add 3 t19 (Value.int IntKind.i64 1)) w90 fun t96 w91 =>
  I4 t117 t96 w91 ∧ μ4 t117 t96 w91 < μ4 t18 t19 w73) (
  V Tryd.prog (Instr.buildSlice 39 1 #[(0, t20)]) w85 fun t116_1 w92 =>
  V Tryd.prog (Builtin.append_ #[39, 39] 39 #[t18, t116_1]) w92 fun t117_1 w93 =>
  V Tryd.prog (binOp .add 3 t19 (Value.int IntKind.i64 1)) w93 fun t96_1 w94 =>
  I4 t117_1 t96_1 w94 ∧ μ4 t117_1 t96_1 w94 < μ4 t18 t19 w73)) (
  callD Tryd.prog 20 #[t92] w74 fun t119 w95 =>
  ∃ J6 : NP 1,
  (V Tryd.prog (Instr.fieldAt 42 t12 3) w95 fun t120 w96 =>
  V Tryd.prog (Instr.loadAt 3 t120) w96 fun t121 w97 =>
  V Tryd.prog (binOp .rem 3 t121 (Value.int IntKind.i64 19)) w97 fun t122 w98 =>
  V Tryd.prog (do eqGuard .eql 3 (Operand.tmp 122) (Operand.const (Value.int IntKind.i64 18)) t122 (Value.int IntKind.i64 18); binOp .eql 3 t122 (Value.int IntKind.i64 18)) w98 fun t123 w99 =>
  gd t123 false (fun K => K t119 w99) w99 fun t125 w100 =>
  gd t123 false (fun K => V Tryd.prog (binOp .lss 3 t125 (Value.int IntKind.i64 0)) w100 K) w100 fun t126 w101 =>
  pickD t123 (Value.bool true) t126 fun t127 =>
  ifD t127 (
  V Tryd.prog (Instr.fieldAt 42 t12 2) w101 fun t128 w103 =>
  V Tryd.prog (Instr.loadAt 3 t128) w103 fun t129 w104 =>
  callD Tryd.prog 9 #[t129, (Value.int IntKind.i64 6)] w104 fun t130 w105 =>
  J6 t130 w105) (
  J6 t119 w101)) ∧
  ∀ (t21 : Value), ∀ w106 : World, J6 t21 w106 → ∀ _f : Env,
  V Tryd.prog (Instr.fieldAt 42 t12 2) w106 fun t131 w107 =>
  V Tryd.prog (Instr.loadAt 3 t131) w107 fun t132 w108 =>
  callD Tryd.prog 9 #[t132, (Value.int IntKind.i64 2)] w108 fun t133 w109 =>
  V Tryd.prog (binOp .add 3 (Value.int IntKind.i64 3) t133) w109 fun t134 w110 =>
  ∃ J7 : NP 1,
  (V Tryd.prog (do eqGuard .eql 3 (Operand.tmp 135) (Operand.const (Value.int IntKind.i64 36)) t92 (Value.int IntKind.i64 36); binOp .eql 3 t92 (Value.int IntKind.i64 36)) w110 fun t136 w111 =>
  ifD t136 (
  V Tryd.prog (Instr.fieldAt 42 t12 2) w111 fun t137 w112 =>
  V Tryd.prog (Instr.loadAt 3 t137) w112 fun t138 w113 =>
  callD Tryd.prog 9 #[t138, (Value.int IntKind.i64 2)] w113 fun t139 w114 =>
  V Tryd.prog (binOp .add 3 (Value.int IntKind.i64 1) t139) w114 fun t140 w115 =>
  J7 t140 w115) (
  J7 t134 w111)) ∧
  ∀ (t22 : Value), ∀ w116 : World, J7 t22 w116 → ∀ _f : Env,
  V Tryd.prog (Instr.fieldAt 42 t12 3) w116 fun t141 w117 =>
  V Tryd.prog (Instr.loadAt 3 t141) w117 fun t142 w118 =>
  callD Tryd.prog 9 #[t142, (Value.int IntKind.i64 7)] w118 fun t143 w119 =>
  V Tryd.prog (Instr.sliceAt 39 t18 none (some t21) none) w119 fun t153 w120 =>
  callD Tryd.prog 21 #[t36, t38, t85, t92, t22, t143, t153] w120 fun t154 w121 =>
  V Tryd.prog (Instr.extract t154 0) w121 fun t155 w122 =>
  V Tryd.prog (Instr.extract t154 1) w122 fun t156 w123 =>
  V Tryd.prog (Instr.sliceAt 39 t18 none (some t21) none) w123 fun t166 w124 =>
  callD Tryd.prog 22 #[t54, t56, t85, t92, t22, t143, t166] w124 fun t167 w125 =>
  V Tryd.prog (Instr.extract t167 0) w125 fun t168 w126 =>
  V Tryd.prog (Instr.extract t167 1) w126 fun t169 w127 =>
  V Tryd.prog (do eqGuard .neq 21 (Operand.tmp 170) (Operand.tmp 171) t155 t168; binOp .neq 21 t155 t168) w127 fun t172 w128 =>
  gd t172 false (fun K => K t156 w128) w128 fun t174 w129 =>
  gd t172 false (fun K => K t169 w129) w129 fun t175 w130 =>
  gd t172 false (fun K => V Tryd.prog (do eqGuard .neq 3 (Operand.tmp 174) (Operand.tmp 175) t174 t175; binOp .neq 3 t174 t175) w130 K) w130 fun t176 w131 =>
  pickD t172 (Value.bool true) t176 fun t177 =>
  ifD t177 (
  R (Value.bool false) w131) (
  J3 w131))))) ∧
  ∀ w133 : World, J3 w133 → ∀ _f : Env,
  callD Tryd.prog 23 #[t36, t54, t38, t56] w133 fun t236 w134 =>
  V Tryd.prog (Op.unary UnOp.not t236) w134 fun t237 w135 =>
  ifD t237 (
  R (Value.bool false) w135) (
  V Tryd.prog (binOp .add 3 t11 (Value.int IntKind.i64 1)) w135 fun t78 w136 =>
  I2 t78 w136 ∧ μ2 t78 w136 < μ2 t11 w28)) (
  callD Tryd.prog 24 #[t38] w32 fun t239 w137 =>
  V Tryd.prog (Builtin.len_ #[55] 3 #[t239]) w137 fun t241 w138 =>
  Go.Vc.Safe (t56) ∧
  V Tryd.prog (Instr.fieldAt 57 t56 0) w138 fun t244 w140 =>
  V Tryd.prog (Instr.loadAt 55 t244) w140 fun t245 w141 =>
  V Tryd.prog (Builtin.len_ #[55] 3 #[t245]) w141 fun t246 w142 =>
  V Tryd.prog (do eqGuard .neq 3 (Operand.tmp 241) (Operand.tmp 246) t241 t246; binOp .neq 3 t241 t246) w142 fun t247 w143 =>
  ifD t247 (
  R (Value.bool false) w143) (
  ∃ (I8 : NP 1) (μ8 : NF 1), I8 (Value.int IntKind.i64 0) w143 ∧
  ∀ (t29 : Value), ∀ w144 : World, I8 t29 w144 → ∀ _f : Env,
  V Tryd.prog (Builtin.len_ #[55] 3 #[t239]) w144 fun t250 w145 =>
  V Tryd.prog (binOp .lss 3 t29 t250) w145 fun t251 w146 =>
  ifD t251 (
  drawD w146 fun S60 w147 =>
  yieldS Tryd.prog S60 (Instr.indexAt 55 t239 t29) fun t256 =>
  yieldS Tryd.prog S60 (Instr.loadAt 74 t256) fun t257 =>
  Go.Vc.Safe (t56) ∧
  yieldS Tryd.prog S60 (Instr.fieldAt 57 t56 0) fun t260 =>
  yieldS Tryd.prog S60 (Instr.loadAt 55 t260) fun t261 =>
  yieldS Tryd.prog S60 (Instr.indexAt 55 t261 t29) fun t263 =>
  yieldS Tryd.prog S60 (Instr.loadAt 74 t263) fun t264 =>
  yieldS Tryd.prog S60 (do eqGuard .neq 74 (Operand.tmp 257) (Operand.tmp 264) t257 t264; binOp .neq 74 t257 t264) fun t265 =>
  ifD t265 (
  R (Value.bool false) w147) (
  V Tryd.prog (binOp .add 3 t29 (Value.int IntKind.i64 1)) w147 fun t253 w148 =>
  I8 t253 w148 ∧ μ8 t253 w148 < μ8 t29 w144)) (
  R (Value.bool true) w146)))))
theorem F4_eq (t0 : Value) (t1 : Value) (w : World) (R : Value → World → Prop) : F4_den t0 t1 w R = vc Tryd.prog F4_ann (Tryd.f4.body.getD .skip) (retE Tryd.prog Tryd.f4.results.toList R) (argEnv [t0, t1]) w := by kernel_rfl
theorem F4_wp {t0 : Value} {t1 : Value} {w : World} {R : Value → World → Prop} (h : F4_den t0 t1 w R) : callD Tryd.prog 4 #[t0, t1] w R :=
  callD.of_calls (fn := Tryd.f4) (c := Tryd.f4.body.getD .skip) Tryd.func4 (by kernel_rfl) (by kernel_rfl) (calls_of_vc (args := [t0, t1]) F4_ann mixed Tryd.func4 (by kernel_rfl) (by kernel_rfl) (F4_eq t0 t1 w R ▸ h))

/-- taciturn/room.New -/
def F5_ann : Ann := (Ann.seq Ann.leaf (Ann.seq Ann.leaf (Ann.seq (Ann.seq Ann.leaf (Ann.cond (Ann.seq Ann.leaf Ann.leaf) Ann.leaf)) (Ann.seq Ann.leaf Ann.leaf))))
def F5_den (t0 : Value) (w : World) (R : Value → World → Prop) : Prop :=
  callD Tryd.prog 25 #[t0] w fun t8 w1 =>
  V Tryd.prog (Instr.extract t8 0) w1 fun t9 w2 =>
  V Tryd.prog (Instr.extract t8 1) w2 fun t10 w3 =>
  V Tryd.prog (do eqGuard .neq 24 (Operand.tmp 11) (Operand.const (Value.int IntKind.i64 0)) t10 (Value.int IntKind.i64 0); binOp .neq 24 t10 (Value.int IntKind.i64 0)) w3 fun t12 w4 =>
  ifD t12 (
  R (.tuple #[(Value.pointer none), t10]) w4) (
  V Tryd.prog (Instr.build 80 #[(0, t9)]) w4 fun t15 w5 =>
  V Tryd.prog (Instr.box 80 t15) w5 fun t16 w6 =>
  R (.tuple #[t16, (Value.int IntKind.i64 0)]) w6)
theorem F5_eq (t0 : Value) (w : World) (R : Value → World → Prop) : F5_den t0 w R = vc Tryd.prog F5_ann (Tryd.f5.body.getD .skip) (retE Tryd.prog Tryd.f5.results.toList R) (argEnv [t0]) w := by kernel_rfl
theorem F5_wp {t0 : Value} {w : World} {R : Value → World → Prop} (h : F5_den t0 w R) : callD Tryd.prog 5 #[t0] w R :=
  callD.of_calls (fn := Tryd.f5) (c := Tryd.f5.body.getD .skip) Tryd.func5 (by kernel_rfl) (by kernel_rfl) (calls_of_vc (args := [t0]) F5_ann mixed Tryd.func5 (by kernel_rfl) (by kernel_rfl) (F5_eq t0 w R ▸ h))

/-- taciturn/taciturnhand.Pick -/
def F9_ann : Ann := (Ann.seq Ann.leaf (Ann.seq Ann.leaf (Ann.seq (Ann.seq Ann.leaf (Ann.cond Ann.leaf Ann.leaf)) (Ann.seq Ann.leaf Ann.leaf))))
def F9_den (t0 : Value) (t1 : Value) (w : World) (R : Value → World → Prop) : Prop :=
  V Tryd.prog (binOp .rem 3 t0 t1) w fun t7 w1 =>
  V Tryd.prog (binOp .lss 3 t7 (Value.int IntKind.i64 0)) w1 fun t9 w2 =>
  ifD t9 (
  V Tryd.prog (binOp .add 3 t7 t1) w2 fun t12 w3 =>
  R t12 w3) (
  R t7 w2)
theorem F9_eq (t0 : Value) (t1 : Value) (w : World) (R : Value → World → Prop) : F9_den t0 t1 w R = vc Tryd.prog F9_ann (Tryd.f9.body.getD .skip) (retE Tryd.prog Tryd.f9.results.toList R) (argEnv [t0, t1]) w := by kernel_rfl
theorem F9_wp {t0 : Value} {t1 : Value} {w : World} {R : Value → World → Prop} (h : F9_den t0 t1 w R) : callD Tryd.prog 9 #[t0, t1] w R :=
  callD.of_calls (fn := Tryd.f9) (c := Tryd.f9.body.getD .skip) Tryd.func9 (by kernel_rfl) (by kernel_rfl) (calls_of_vc (args := [t0, t1]) F9_ann mixed Tryd.func9 (by kernel_rfl) (by kernel_rfl) (F9_eq t0 t1 w R ▸ h))

/-- (*taciturn/room.Room).SetField -/
def F10_ann : Ann := (Ann.seq Ann.leaf (Ann.seq (Ann.seq Ann.leaf (Ann.seq Ann.leaf (Ann.cond (Ann.seq Ann.leaf Ann.leaf) Ann.leaf))) (Ann.seq Ann.leaf (Ann.seq Ann.leaf Ann.leaf))))
def F10_den (t0 : Value) (t1 : Value) (t2 : Value) (t3 : Value) (w : World) (R : Value → World → Prop) : Prop :=
  callD Tryd.prog 11 #[t0, t1, t2] w fun t15 w1 =>
  V Tryd.prog (Instr.extract t15 0) w1 fun t16 w2 =>
  V Tryd.prog (Instr.extract t15 1) w2 fun t17 w3 =>
  V Tryd.prog (Op.unary UnOp.not t17) w3 fun t19 w4 =>
  ifD t19 (
  R (Value.bool false) w4) (
  Go.Vc.Safe (t0) ∧
  V Tryd.prog (Instr.fieldAt 80 t0 2) w4 fun t22 w6 =>
  V Tryd.prog (Instr.loadAt 61 t22) w6 fun t23 w7 =>
  V Tryd.prog (Instr.indexAt 61 t23 t1) w7 fun t25 w8 =>
  V Tryd.prog (Instr.loadAt 39 t25) w8 fun t26 w9 =>
  V Tryd.prog (Instr.indexAt 39 t26 t2) w9 fun t29 w10 =>
  U Tryd.prog (Instr.storeAt 21 t29 t3) w10 fun _ w11 =>
  R (Value.bool true) w11)
theorem F10_eq (t0 : Value) (t1 : Value) (t2 : Value) (t3 : Value) (w : World) (R : Value → World → Prop) : F10_den t0 t1 t2 t3 w R = vc Tryd.prog F10_ann (Tryd.f10.body.getD .skip) (retE Tryd.prog Tryd.f10.results.toList R) (argEnv [t0, t1, t2, t3]) w := by kernel_rfl
theorem F10_wp {t0 : Value} {t1 : Value} {t2 : Value} {t3 : Value} {w : World} {R : Value → World → Prop} (h : F10_den t0 t1 t2 t3 w R) : callD Tryd.prog 10 #[t0, t1, t2, t3] w R :=
  callD.of_calls (fn := Tryd.f10) (c := Tryd.f10.body.getD .skip) Tryd.func10 (by kernel_rfl) (by kernel_rfl) (calls_of_vc (args := [t0, t1, t2, t3]) F10_ann mixed Tryd.func10 (by kernel_rfl) (by kernel_rfl) (F10_eq t0 t1 t2 t3 w R ▸ h))

/-- (*taciturn/room.Room).Field -/
def F11_ann : Ann := (Ann.seq Ann.leaf (Ann.seq (Ann.seq Ann.leaf (Ann.cond (Ann.seq Ann.leaf Ann.leaf) Ann.leaf)) (Ann.seq Ann.leaf Ann.leaf)))
def F11_den (t0 : Value) (t1 : Value) (t2 : Value) (w : World) (R : Value → World → Prop) : Prop :=
  V Tryd.prog (binOp .lss 3 t1 (Value.int IntKind.i64 0)) w fun t9 w1 =>
  gd t9 false (fun K => K t1 w1) w1 fun t11 w2 =>
  gd t9 false (fun K => K t0 w2) w2 fun t12 w3 =>
  gd t9 false (fun K => (Go.Vc.Safe (t12) ∧ K (t12) w3)) w3 fun t13 w4 =>
  gd t9 false (fun K => V Tryd.prog (Instr.fieldAt 80 t13 2) w4 K) w4 fun t14 w5 =>
  gd t9 false (fun K => V Tryd.prog (Instr.loadAt 61 t14) w5 K) w5 fun t15 w6 =>
  gd t9 false (fun K => V Tryd.prog (Builtin.len_ #[61] 3 #[t15]) w6 K) w6 fun t16 w7 =>
  gd t9 false (fun K => V Tryd.prog (binOp .geq 3 t11 t16) w7 K) w7 fun t17 w8 =>
  pickD t9 (Value.bool true) t17 fun t18 =>
  gd t18 false (fun K => K t2 w8) w8 fun t20 w10 =>
  gd t18 false (fun K => V Tryd.prog (binOp .lss 3 t20 (Value.int IntKind.i64 0)) w10 K) w10 fun t21 w11 =>
  pickD t18 (Value.bool true) t21 fun t22 =>
  gd t22 false (fun K => K t2 w11) w11 fun t24 w13 =>
  gd t22 false (fun K => K t0 w13) w13 fun t25 w14 =>
  gd t22 false (fun K => (Go.Vc.Safe (t25) ∧ K (t25) w14)) w14 fun t26 w15 =>
  gd t22 false (fun K => V Tryd.prog (Instr.fieldAt 80 t26 2) w15 K) w15 fun t27 w16 =>
  gd t22 false (fun K => V Tryd.prog (Instr.loadAt 61 t27) w16 K) w16 fun t28 w17 =>
  gd t22 false (fun K => K t1 w17) w17 fun t29 w18 =>
  gd t22 false (fun K => V Tryd.prog (Instr.indexAt 61 t28 t29) w18 K) w18 fun t30 w19 =>
  gd t22 false (fun K => V Tryd.prog (Instr.loadAt 39 t30) w19 K) w19 fun t31 w20 =>
  gd t22 false (fun K => V Tryd.prog (Builtin.len_ #[39] 3 #[t31]) w20 K) w20 fun t32 w21 =>
  gd t22 false (fun K => V Tryd.prog (binOp .geq 3 t24 t32) w21 K) w21 fun t33 w22 =>
  pickD t22 (Value.bool true) t33 fun t34 =>
  ifD t34 (
  R (.tuple #[(Value.int IntKind.i32 0), (Value.bool false)]) w22) (
  Go.Vc.Safe (t0) ∧
  V Tryd.prog (Instr.fieldAt 80 t0 2) w22 fun t37 w25 =>
  V Tryd.prog (Instr.loadAt 61 t37) w25 fun t38 w26 =>
  V Tryd.prog (Instr.indexAt 61 t38 t1) w26 fun t40 w27 =>
  V Tryd.prog (Instr.loadAt 39 t40) w27 fun t41 w28 =>
  V Tryd.prog (Instr.indexAt 39 t41 t2) w28 fun t43 w29 =>
  V Tryd.prog (Instr.loadAt 21 t43) w29 fun t44 w30 =>
  R (.tuple #[t44, (Value.bool true)]) w30)
theorem F11_eq (t0 : Value) (t1 : Value) (t2 : Value) (w : World) (R : Value → World → Prop) : F11_den t0 t1 t2 w R = vc Tryd.prog F11_ann (Tryd.f11.body.getD .skip) (retE Tryd.prog Tryd.f11.results.toList R) (argEnv [t0, t1, t2]) w := by kernel_rfl
theorem F11_wp {t0 : Value} {t1 : Value} {t2 : Value} {w : World} {R : Value → World → Prop} (h : F11_den t0 t1 t2 w R) : callD Tryd.prog 11 #[t0, t1, t2] w R :=
  callD.of_calls (fn := Tryd.f11) (c := Tryd.f11.body.getD .skip) Tryd.func11 (by kernel_rfl) (by kernel_rfl) (calls_of_vc (args := [t0, t1, t2]) F11_ann mixed Tryd.func11 (by kernel_rfl) (by kernel_rfl) (F11_eq t0 t1 t2 w R ▸ h))

/-- (*taciturn/room.Room).Image -/
def F12_ann : Ann := (Ann.seq Ann.leaf (Ann.seq (Ann.seq Ann.leaf (Ann.cond (Ann.seq Ann.leaf Ann.leaf) Ann.leaf)) (Ann.seq Ann.leaf Ann.leaf)))
def F12_den (t0 : Value) (t1 : Value) (w : World) (R : Value → World → Prop) : Prop :=
  V Tryd.prog (Instr.alloc 36 true (.tuple #[])) w fun t4 w1 =>
  V Tryd.prog (binOp .lss 3 t1 (Value.int IntKind.i64 0)) w1 fun t7 w2 =>
  gd t7 false (fun K => K t1 w2) w2 fun t9 w3 =>
  gd t7 false (fun K => K t0 w3) w3 fun t10 w4 =>
  gd t7 false (fun K => (Go.Vc.Safe (t10) ∧ K (t10) w4)) w4 fun t11 w5 =>
  gd t7 false (fun K => V Tryd.prog (Instr.fieldAt 80 t11 1) w5 K) w5 fun t12 w6 =>
  gd t7 false (fun K => V Tryd.prog (Instr.loadAt 60 t12) w6 K) w6 fun t13 w7 =>
  gd t7 false (fun K => V Tryd.prog (Builtin.len_ #[60] 3 #[t13]) w7 K) w7 fun t14 w8 =>
  gd t7 false (fun K => V Tryd.prog (binOp .geq 3 t9 t14) w8 K) w8 fun t15 w9 =>
  pickD t7 (Value.bool true) t15 fun t16 =>
  ifD t16 (
  V Tryd.prog (Instr.build 36 #[]) w9 fun t17 w11 =>
  U Tryd.prog (Instr.storeAt 36 t4 t17) w11 fun _ w12 =>
  ∃ r1, (loadVar 36 (match t4 with | .pointer (some p) => p | _ => ⟨0, 0, none⟩)).run Tryd.prog w12 = .ok r1 w12 ∧ (∃ p, t4 = Value.pointer (some p)) ∧ R (.tuple #[r1, (Value.bool false)]) w12) (
  Go.Vc.Safe (t0) ∧
  V Tryd.prog (Instr.fieldAt 80 t0 1) w9 fun t20 w14 =>
  V Tryd.prog (Instr.loadAt 60 t20) w14 fun t21 w15 =>
  V Tryd.prog (Instr.indexAt 60 t21 t1) w15 fun t23 w16 =>
  V Tryd.prog (Instr.loadAt 36 t23) w16 fun t24 w17 =>
  callD Tryd.prog 26 #[t24] w17 fun t25 w18 =>
  U Tryd.prog (Instr.storeAt 36 t4 t25) w18 fun _ w19 =>
  ∃ r1, (loadVar 36 (match t4 with | .pointer (some p) => p | _ => ⟨0, 0, none⟩)).run Tryd.prog w19 = .ok r1 w19 ∧ (∃ p, t4 = Value.pointer (some p)) ∧ R (.tuple #[r1, (Value.bool true)]) w19)
theorem F12_eq (t0 : Value) (t1 : Value) (w : World) (R : Value → World → Prop) : F12_den t0 t1 w R = vc Tryd.prog F12_ann (Tryd.f12.body.getD .skip) (retE Tryd.prog Tryd.f12.results.toList R) (argEnv [t0, t1]) w := by kernel_rfl
theorem F12_wp {t0 : Value} {t1 : Value} {w : World} {R : Value → World → Prop} (h : F12_den t0 t1 w R) : callD Tryd.prog 12 #[t0, t1] w R :=
  callD.of_calls (fn := Tryd.f12) (c := Tryd.f12.body.getD .skip) Tryd.func12 (by kernel_rfl) (by kernel_rfl) (calls_of_vc (args := [t0, t1]) F12_ann mixed Tryd.func12 (by kernel_rfl) (by kernel_rfl) (F12_eq t0 t1 w R ▸ h))

/-- (*taciturn/room.Room).Count -/
def F13_ann : Ann := (Ann.seq Ann.leaf (Ann.seq Ann.leaf Ann.leaf))
def F13_den (t0 : Value) (w : World) (R : Value → World → Prop) : Prop :=
  Go.Vc.Safe (t0) ∧
  V Tryd.prog (Instr.fieldAt 80 t0 1) w fun t5 w2 =>
  V Tryd.prog (Instr.loadAt 60 t5) w2 fun t6 w3 =>
  V Tryd.prog (Builtin.len_ #[60] 3 #[t6]) w3 fun t7 w4 =>
  R t7 w4
theorem F13_eq (t0 : Value) (w : World) (R : Value → World → Prop) : F13_den t0 w R = vc Tryd.prog F13_ann (Tryd.f13.body.getD .skip) (retE Tryd.prog Tryd.f13.results.toList R) (argEnv [t0]) w := by kernel_rfl
theorem F13_wp {t0 : Value} {w : World} {R : Value → World → Prop} (h : F13_den t0 w R) : callD Tryd.prog 13 #[t0] w R :=
  callD.of_calls (fn := Tryd.f13) (c := Tryd.f13.body.getD .skip) Tryd.func13 (by kernel_rfl) (by kernel_rfl) (calls_of_vc (args := [t0]) F13_ann mixed Tryd.func13 (by kernel_rfl) (by kernel_rfl) (F13_eq t0 w R ▸ h))

/-- taciturn/leak.New -/
def F14_ann : Ann := (Ann.seq Ann.leaf (Ann.seq Ann.leaf Ann.leaf))
def F14_den (w : World) (R : Value → World → Prop) : Prop :=
  V Tryd.prog (Instr.build 91 #[]) w fun t1 w1 =>
  V Tryd.prog (Instr.box 91 t1) w1 fun t2 w2 =>
  R t2 w2
theorem F14_eq (w : World) (R : Value → World → Prop) : F14_den w R = vc Tryd.prog F14_ann (Tryd.f14.body.getD .skip) (retE Tryd.prog Tryd.f14.results.toList R) (argEnv []) w := by kernel_rfl
theorem F14_wp {w : World} {R : Value → World → Prop} (h : F14_den w R) : callD Tryd.prog 14 #[] w R :=
  callD.of_calls (fn := Tryd.f14) (c := Tryd.f14.body.getD .skip) Tryd.func14 (by kernel_rfl) (by kernel_rfl) (calls_of_vc (args := []) F14_ann mixed Tryd.func14 (by kernel_rfl) (by kernel_rfl) (F14_eq w R ▸ h))

/-- taciturn/taciturnref8.NewRoom -/
def F15_ann : Ann := (Ann.seq Ann.leaf (Ann.seq Ann.leaf Ann.leaf))
def F15_den (t0 : Value) (w : World) (R : Value → World → Prop) : Prop :=
  callD Tryd.prog 29 #[t0] w fun t4 w1 =>
  V Tryd.prog (Instr.build 63 #[(0, t4)]) w1 fun t5 w2 =>
  V Tryd.prog (Instr.box 63 t5) w2 fun t6 w3 =>
  R t6 w3
theorem F15_eq (t0 : Value) (w : World) (R : Value → World → Prop) : F15_den t0 w R = vc Tryd.prog F15_ann (Tryd.f15.body.getD .skip) (retE Tryd.prog Tryd.f15.results.toList R) (argEnv [t0]) w := by kernel_rfl
theorem F15_wp {t0 : Value} {w : World} {R : Value → World → Prop} (h : F15_den t0 w R) : callD Tryd.prog 15 #[t0] w R :=
  callD.of_calls (fn := Tryd.f15) (c := Tryd.f15.body.getD .skip) Tryd.func15 (by kernel_rfl) (by kernel_rfl) (calls_of_vc (args := [t0]) F15_ann mixed Tryd.func15 (by kernel_rfl) (by kernel_rfl) (F15_eq t0 w R ▸ h))

/-- taciturn/taciturnhand.Few -/
def F17_ann : Ann := (Ann.seq Ann.leaf (Ann.seq Ann.leaf Ann.leaf))
def F17_den (t0 : Value) (t1 : Value) (w : World) (R : Value → World → Prop) : Prop :=
  V Tryd.prog (Instr.buildSlice 40 0 #[]) w fun t5 w1 =>
  V Tryd.prog (Builtin.len_ #[40] 3 #[t0]) w1 fun t8 w2 =>
  V Tryd.prog (Builtin.min_ #[3, 3] 3 #[t8, t1]) w2 fun t10 w3 =>
  V Tryd.prog (Instr.sliceAt 40 t0 none (some t10) none) w3 fun t11 w4 =>
  V Tryd.prog (Builtin.append_ #[40, 40] 40 #[t5, t11]) w4 fun t12 w5 =>
  R t12 w5
theorem F17_eq (t0 : Value) (t1 : Value) (w : World) (R : Value → World → Prop) : F17_den t0 t1 w R = vc Tryd.prog F17_ann (Tryd.f17.body.getD .skip) (retE Tryd.prog Tryd.f17.results.toList R) (argEnv [t0, t1]) w := by kernel_rfl
theorem F17_wp {t0 : Value} {t1 : Value} {w : World} {R : Value → World → Prop} (h : F17_den t0 t1 w R) : callD Tryd.prog 17 #[t0, t1] w R :=
  callD.of_calls (fn := Tryd.f17) (c := Tryd.f17.body.getD .skip) Tryd.func17 (by kernel_rfl) (by kernel_rfl) (calls_of_vc (args := [t0, t1]) F17_ann mixed Tryd.func17 (by kernel_rfl) (by kernel_rfl) (F17_eq t0 t1 w R ▸ h))

/-- (*taciturn/room.Room).Begin -/
def F18_ann : Ann := (Ann.seq Ann.leaf (Ann.seq (Ann.seq Ann.leaf (Ann.cond (Ann.seq Ann.leaf Ann.leaf) Ann.leaf)) (Ann.seq Ann.leaf (Ann.seq Ann.leaf (Ann.seq Ann.leaf (Ann.seq Ann.leaf Ann.leaf))))))
def F18_den (t0 : Value) (t1 : Value) (t2 : Value) (w : World) (R : Value → World → Prop) : Prop :=
  V Tryd.prog (Builtin.len_ #[40] 3 #[t1]) w fun t8 w1 =>
  V Tryd.prog (binOp .gtr 3 t8 (Value.int IntKind.i64 64)) w1 fun t9 w2 =>
  gd t9 false (fun K => K t2 w2) w2 fun t11 w3 =>
  gd t9 false (fun K => V Tryd.prog (Builtin.len_ #[40] 3 #[t11]) w3 K) w3 fun t12 w4 =>
  gd t9 false (fun K => V Tryd.prog (binOp .gtr 3 t12 (Value.int IntKind.i64 64)) w4 K) w4 fun t13 w5 =>
  pickD t9 (Value.bool true) t13 fun t14 =>
  ifD t14 (
  R (Value.bool false) w5) (
  Go.Vc.Safe (t0) ∧
  V Tryd.prog (Instr.fieldAt 80 t0 0) w5 fun t17 w8 =>
  V Tryd.prog (Instr.loadAt 76 t17) w8 fun t18 w9 =>
  callD Tryd.prog 30 #[t18, (Value.int IntKind.i64 1), t1] w9 fun t20 w10 =>
  Go.Vc.Safe (t0) ∧
  V Tryd.prog (Instr.fieldAt 80 t0 0) w10 fun t23 w12 =>
  V Tryd.prog (Instr.loadAt 76 t23) w12 fun t24 w13 =>
  callD Tryd.prog 30 #[t24, (Value.int IntKind.i64 2), t2] w13 fun t26 w14 =>
  Go.Vc.Safe (t0) ∧
  V Tryd.prog (Instr.fieldAt 80 t0 3) w14 fun t30 w16 =>
  U Tryd.prog (Instr.storeAt 40 t30 (Value.slice none 0 0)) w16 fun _ w17 =>
  Go.Vc.Safe (t0) ∧
  V Tryd.prog (Instr.fieldAt 80 t0 4) w17 fun t32 w19 =>
  U Tryd.prog (Instr.storeAt 40 t32 (Value.slice none 0 0)) w19 fun _ w20 =>
  R (Value.bool true) w20)
theorem F18_eq (t0 : Value) (t1 : Value) (t2 : Value) (w : World) (R : Value → World → Prop) : F18_den t0 t1 t2 w R = vc Tryd.prog F18_ann (Tryd.f18.body.getD .skip) (retE Tryd.prog Tryd.f18.results.toList R) (argEnv [t0, t1, t2]) w := by kernel_rfl
theorem F18_wp {t0 : Value} {t1 : Value} {t2 : Value} {w : World} {R : Value → World → Prop} (h : F18_den t0 t1 t2 w R) : callD Tryd.prog 18 #[t0, t1, t2] w R :=
  callD.of_calls (fn := Tryd.f18) (c := Tryd.f18.body.getD .skip) Tryd.func18 (by kernel_rfl) (by kernel_rfl) (calls_of_vc (args := [t0, t1, t2]) F18_ann mixed Tryd.func18 (by kernel_rfl) (by kernel_rfl) (F18_eq t0 t1 t2 w R ▸ h))

/-- (*taciturn/taciturnref8.Room).Begin -/
def F19_ann : Ann := (Ann.seq Ann.leaf (Ann.seq (Ann.seq Ann.leaf (Ann.cond (Ann.seq Ann.leaf Ann.leaf) Ann.leaf)) (Ann.seq Ann.leaf (Ann.seq Ann.leaf (Ann.seq Ann.leaf (Ann.seq Ann.leaf (Ann.seq Ann.leaf Ann.leaf)))))))
def F19_den (t0 : Value) (t1 : Value) (t2 : Value) (w : World) (R : Value → World → Prop) : Prop :=
  V Tryd.prog (Builtin.len_ #[40] 3 #[t1]) w fun t8 w1 =>
  V Tryd.prog (binOp .gtr 3 t8 (Value.int IntKind.i64 64)) w1 fun t9 w2 =>
  gd t9 false (fun K => K t2 w2) w2 fun t11 w3 =>
  gd t9 false (fun K => V Tryd.prog (Builtin.len_ #[40] 3 #[t11]) w3 K) w3 fun t12 w4 =>
  gd t9 false (fun K => V Tryd.prog (binOp .gtr 3 t12 (Value.int IntKind.i64 64)) w4 K) w4 fun t13 w5 =>
  pickD t9 (Value.bool true) t13 fun t14 =>
  ifD t14 (
  R (Value.bool false) w5) (
  Go.Vc.Safe (t0) ∧
  V Tryd.prog (Instr.fieldAt 63 t0 0) w5 fun t17 w8 =>
  V Tryd.prog (Instr.loadAt 59 t17) w8 fun t18 w9 =>
  callD Tryd.prog 31 #[t18, (Value.int IntKind.i64 1), t1] w9 fun t20 w10 =>
  Go.Vc.Safe (t0) ∧
  V Tryd.prog (Instr.fieldAt 63 t0 0) w10 fun t23 w12 =>
  V Tryd.prog (Instr.loadAt 59 t23) w12 fun t24 w13 =>
  callD Tryd.prog 31 #[t24, (Value.int IntKind.i64 2), t2] w13 fun t26 w14 =>
  Go.Vc.Safe (t0) ∧
  V Tryd.prog (Instr.fieldAt 63 t0 3) w14 fun t29 w16 =>
  U Tryd.prog (Instr.storeAt 40 t29 (Value.slice none 0 0)) w16 fun _ w17 =>
  Go.Vc.Safe (t0) ∧
  V Tryd.prog (Instr.fieldAt 63 t0 4) w17 fun t32 w19 =>
  U Tryd.prog (Instr.storeAt 40 t32 (Value.slice none 0 0)) w19 fun _ w20 =>
  R (Value.bool true) w20)
theorem F19_eq (t0 : Value) (t1 : Value) (t2 : Value) (w : World) (R : Value → World → Prop) : F19_den t0 t1 t2 w R = vc Tryd.prog F19_ann (Tryd.f19.body.getD .skip) (retE Tryd.prog Tryd.f19.results.toList R) (argEnv [t0, t1, t2]) w := by kernel_rfl
theorem F19_wp {t0 : Value} {t1 : Value} {t2 : Value} {w : World} {R : Value → World → Prop} (h : F19_den t0 t1 t2 w R) : callD Tryd.prog 19 #[t0, t1, t2] w R :=
  callD.of_calls (fn := Tryd.f19) (c := Tryd.f19.body.getD .skip) Tryd.func19 (by kernel_rfl) (by kernel_rfl) (calls_of_vc (args := [t0, t1, t2]) F19_ann mixed Tryd.func19 (by kernel_rfl) (by kernel_rfl) (F19_eq t0 t1 t2 w R ▸ h))

/-- taciturn/taciturnref8.Serves -/
def F20_ann : Ann := (Ann.seq Ann.leaf (Ann.seq (Ann.seq Ann.leaf (Ann.block (Ann.join [4, 5, 6] [4] (Ann.seq Ann.leaf (Ann.cond Ann.leaf Ann.leaf)) (Ann.cond (Ann.seq Ann.leaf Ann.leaf) (Ann.join [7, 8, 9, 10] [7] (Ann.seq Ann.leaf (Ann.cond Ann.leaf (Ann.seq Ann.leaf (Ann.cond Ann.leaf Ann.leaf)))) (Ann.cond (Ann.seq Ann.leaf Ann.leaf) (Ann.join [11, 12, 13] [11] (Ann.seq Ann.leaf (Ann.cond Ann.leaf Ann.leaf)) (Ann.cond (Ann.seq Ann.leaf Ann.leaf) (Ann.seq (Ann.seq Ann.leaf (Ann.cond Ann.leaf Ann.leaf)) (Ann.cond (Ann.seq Ann.leaf Ann.leaf) Ann.leaf)))))))))) (Ann.seq Ann.leaf Ann.leaf)))
def F20_den (t0 : Value) (w : World) (R : Value → World → Prop) : Prop :=
  ∃ J1 : NP 1,
  (V Tryd.prog (do eqGuard .eql 3 (Operand.tmp 3) (Operand.const (Value.int IntKind.i64 27)) t0 (Value.int IntKind.i64 27); binOp .eql 3 t0 (Value.int IntKind.i64 27)) w fun t5 w1 =>
  ifD t5 (
  J1 t5 w1) (
  V Tryd.prog (do eqGuard .eql 3 (Operand.tmp 3) (Operand.const (Value.int IntKind.i64 28)) t0 (Value.int IntKind.i64 28); binOp .eql 3 t0 (Value.int IntKind.i64 28)) w1 fun t6 w2 =>
  J1 t6 w2)) ∧
  ∀ (t4 : Value), ∀ w3 : World, J1 t4 w3 → ∀ _f : Env,
  ifD t4 (
  R (Value.int IntKind.i64 1) w3) (
  ∃ J2 : NP 1,
  (V Tryd.prog (do eqGuard .eql 3 (Operand.tmp 3) (Operand.const (Value.int IntKind.i64 17)) t0 (Value.int IntKind.i64 17); binOp .eql 3 t0 (Value.int IntKind.i64 17)) w3 fun t8 w4 =>
  ifD t8 (
  J2 t8 w4) (
  V Tryd.prog (do eqGuard .eql 3 (Operand.tmp 3) (Operand.const (Value.int IntKind.i64 18)) t0 (Value.int IntKind.i64 18); binOp .eql 3 t0 (Value.int IntKind.i64 18)) w4 fun t9 w5 =>
  ifD t9 (
  J2 t9 w5) (
  V Tryd.prog (do eqGuard .eql 3 (Operand.tmp 3) (Operand.const (Value.int IntKind.i64 29)) t0 (Value.int IntKind.i64 29); binOp .eql 3 t0 (Value.int IntKind.i64 29)) w5 fun t10 w6 =>
  J2 t10 w6))) ∧
  ∀ (t7 : Value), ∀ w7 : World, J2 t7 w7 → ∀ _f : Env,
  ifD t7 (
  R (Value.int IntKind.i64 2) w7) (
  ∃ J3 : NP 1,
  (V Tryd.prog (do eqGuard .eql 3 (Operand.tmp 3) (Operand.const (Value.int IntKind.i64 30)) t0 (Value.int IntKind.i64 30); binOp .eql 3 t0 (Value.int IntKind.i64 30)) w7 fun t12 w8 =>
  ifD t12 (
  J3 t12 w8) (
  V Tryd.prog (do eqGuard .eql 3 (Operand.tmp 3) (Operand.const (Value.int IntKind.i64 36)) t0 (Value.int IntKind.i64 36); binOp .eql 3 t0 (Value.int IntKind.i64 36)) w8 fun t13 w9 =>
  J3 t13 w9)) ∧
  ∀ (t11 : Value), ∀ w10 : World, J3 t11 w10 → ∀ _f : Env,
  ifD t11 (
  R (Value.int IntKind.i64 3) w10) (
  V Tryd.prog (do eqGuard .eql 3 (Operand.tmp 3) (Operand.const (Value.int IntKind.i64 31)) t0 (Value.int IntKind.i64 31); binOp .eql 3 t0 (Value.int IntKind.i64 31)) w10 fun t15 w11 =>
  ifD t15 (
  ifD t15 (
  R (Value.int IntKind.i64 5) w11) (
  R (Value.int IntKind.i64 (-1)) w11)) (
  V Tryd.prog (do eqGuard .eql 3 (Operand.tmp 3) (Operand.const (Value.int IntKind.i64 32)) t0 (Value.int IntKind.i64 32); binOp .eql 3 t0 (Value.int IntKind.i64 32)) w11 fun t16 w12 =>
  ifD t16 (
  R (Value.int IntKind.i64 5) w12) (
  R (Value.int IntKind.i64 (-1)) w12)))))
theorem F20_eq (t0 : Value) (w : World) (R : Value → World → Prop) : F20_den t0 w R = vc Tryd.prog F20_ann (Tryd.f20.body.getD .skip) (retE Tryd.prog Tryd.f20.results.toList R) (argEnv [t0]) w := by kernel_rfl
theorem F20_wp {t0 : Value} {w : World} {R : Value → World → Prop} (h : F20_den t0 w R) : callD Tryd.prog 20 #[t0] w R :=
  callD.of_calls (fn := Tryd.f20) (c := Tryd.f20.body.getD .skip) Tryd.func20 (by kernel_rfl) (by kernel_rfl) (calls_of_vc (args := [t0]) F20_ann mixed Tryd.func20 (by kernel_rfl) (by kernel_rfl) (F20_eq t0 w R ▸ h))

/-- (*taciturn/room.Room).Serve -/
def F21_ann : Ann := (Ann.seq Ann.leaf (Ann.seq (Ann.seq Ann.leaf (Ann.cond (Ann.seq Ann.leaf Ann.leaf) Ann.leaf)) (Ann.seq Ann.leaf (Ann.seq (Ann.seq Ann.leaf (Ann.block (Ann.loop [18, 36, 37, 38, 39, 40, 41, 42, 43, 44, 45, 46, 47] [36] (Ann.seq Ann.leaf (Ann.seq (Ann.cond Ann.leaf Ann.leaf) (Ann.seq (Ann.block (Ann.seq Ann.leaf Ann.leaf)) Ann.leaf)))))) (Ann.seq (Ann.seq Ann.leaf (Ann.block (Ann.seq Ann.leaf (Ann.cond (Ann.seq (Ann.draw [0, 1, 2, 0, 8, 16, 36, 64, 64, 448, 512, 512, 4095, 8191] [0, 1, 2, 0, 8, 16, 36, 64, 64, 384, 512, 512, 1024, 2048] 0 14 16383 (.take 0 (.take 1 (.take 2 (.take 3 (.take 4 (.take 5 (.only 6 (.take 7 (.take 8 (.only 9 (.take 10 (.take 11 (.take 12 (.take 13 .done))))))))))))))) Ann.leaf) (Ann.seq Ann.leaf (Ann.cond (Ann.seq (Ann.draw [0, 1, 2, 0, 8, 16, 36, 64, 64, 448, 512, 512, 4095, 8191] [0, 1, 2, 0, 8, 16, 36, 64, 64, 384, 512, 512, 1024, 2048] 0 14 16383 (.take 0 (.take 1 (.take 2 (.take 3 (.take 4 (.take 5 (.only 6 (.take 7 (.take 8 (.only 9 (.take 10 (.take 11 (.take 12 (.take 13 .done))))))))))))))) Ann.leaf) (Ann.seq Ann.leaf (Ann.cond (Ann.seq Ann.leaf Ann.leaf) (Ann.seq Ann.leaf (Ann.cond (Ann.seq Ann.leaf Ann.leaf) (Ann.seq Ann.leaf (Ann.cond (Ann.seq Ann.leaf Ann.leaf) (Ann.seq Ann.leaf (Ann.cond (Ann.seq Ann.leaf Ann.leaf) (Ann.seq Ann.leaf (Ann.cond (Ann.seq Ann.leaf Ann.leaf) (Ann.seq Ann.leaf (Ann.cond (Ann.seq Ann.leaf Ann.leaf) Ann.leaf)))))))))))))))))) (Ann.seq Ann.leaf Ann.leaf))))))
def F21_den (t0 : Value) (t1 : Value) (t2 : Value) (t3 : Value) (t4 : Value) (t5 : Value) (t6 : Value) (w : World) (R : Value → World → Prop) : Prop :=
  V Tryd.prog (do eqGuard .eql 23 (Operand.tmp 19) (Operand.const (Value.pointer none)) t0 (Value.pointer none); binOp .eql 23 t0 (Value.pointer none)) w fun t20 w1 =>
  gd t20 false (fun K => K t6 w1) w1 fun t22 w2 =>
  gd t20 false (fun K => V Tryd.prog (Builtin.len_ #[39] 3 #[t22]) w2 K) w2 fun t23 w3 =>
  gd t20 false (fun K => K t3 w3) w3 fun t24 w4 =>
  gd t20 false (fun K => callD Tryd.prog 32 #[t24] w4 K) w4 fun t25 w5 =>
  gd t20 false (fun K => V Tryd.prog (do eqGuard .neq 3 (Operand.tmp 23) (Operand.tmp 25) t23 t25; binOp .neq 3 t23 t25) w5 K) w5 fun t26 w6 =>
  pickD t20 (Value.bool true) t26 fun t27 =>
  ifD t27 (
  R (.tuple #[(Value.int IntKind.i32 0), (Value.int IntKind.i64 27013)]) w6) (
  V Tryd.prog (Instr.build 95 #[(0, t0), (1, t1), (2, t2), (3, t4), (4, t5)]) w6 fun t33 w8 =>
  V Tryd.prog (Instr.alloc 95 true (.tuple #[])) w8 fun t16 w9 =>
  U Tryd.prog (Instr.storeAt 95 t16 t33) w9 fun _ w10 =>
  V Tryd.prog (Builtin.len_ #[39] 3 #[t6]) w10 fun t35 w11 =>
  ∃ (I1 : NP 1) (μ1 : NF 1), I1 (Value.int IntKind.i64 0) w11 ∧
  ∀ (t36 : Value), ∀ w12 : World, I1 t36 w12 → ∀ _f : Env,
  V Tryd.prog (binOp .lss 3 t36 t35) w12 fun t37 w13 =>
  ifD t37 (
  V Tryd.prog (Instr.indexAt 39 t6 t36) w13 fun t38 w14 =>
  V Tryd.prog (Instr.loadAt 21 t38) w14 fun t39 w15 =>
  V Tryd.prog (Instr.fieldAt 95 t16 5) w15 fun t40 w16 =>
  V Tryd.prog (Instr.loadAt 32 t40) w16 fun t41 w17 =>
  V Tryd.prog (convert 21 3 t39) w17 fun t43 w18 =>
  V Tryd.prog (Instr.buildSlice 32 1 #[(0, t43)]) w18 fun t44 w19 =>
  V Tryd.prog (Builtin.append_ #[32, 32] 32 #[t41, t44]) w19 fun t45 w20 =>
  V Tryd.prog (Instr.fieldAt 95 t16 5) w20 fun t46 w21 =>
  U Tryd.prog (Instr.storeAt 32 t46 t45) w21 fun _ w22 =>
  V Tryd.prog (binOp .add 3 t36 (Value.int IntKind.i64 1)) w22 fun t47 w23 =>
  I1 t47 w23 ∧ μ1 t47 w23 < μ1 t36 w12) (
  V Tryd.prog (do eqGuard .eql 3 (Operand.tmp 48) (Operand.const (Value.int IntKind.i64 17)) t3 (Value.int IntKind.i64 17); binOp .eql 3 t3 (Value.int IntKind.i64 17)) w13 fun t50 w24 =>
  ifD t50 (
  drawD w24 fun S11 w25 =>
  yieldS Tryd.prog S11 (Instr.indexAt 39 t6 (Value.int IntKind.i64 0)) fun t52 =>
  yieldS Tryd.prog S11 (Instr.loadAt 21 t52) fun t53 =>
  yieldS Tryd.prog S11 (Instr.indexAt 39 t6 (Value.int IntKind.i64 1)) fun t55 =>
  yieldS Tryd.prog S11 (Instr.loadAt 21 t55) fun t56 =>
  callD Tryd.prog 34 #[t53, t56] w25 fun t57 w26 =>
  S11 w26 ∧
  yieldS Tryd.prog S11 (Instr.extract t57 0) fun t58 =>
  yieldS Tryd.prog S11 (Instr.extract t57 1) fun t59 =>
  callD Tryd.prog 33 #[t58, t59] w26 fun t60 w27 =>
  S11 w27 ∧
  yieldS Tryd.prog S11 (Instr.extract t60 0) fun t61 =>
  yieldS Tryd.prog S11 (Instr.extract t60 1) fun t62 =>
  R (.tuple #[t61, t62]) w27) (
  V Tryd.prog (do eqGuard .eql 3 (Operand.tmp 48) (Operand.const (Value.int IntKind.i64 18)) t3 (Value.int IntKind.i64 18); binOp .eql 3 t3 (Value.int IntKind.i64 18)) w24 fun t64 w28 =>
  ifD t64 (
  drawD w28 fun S13 w29 =>
  yieldS Tryd.prog S13 (Instr.indexAt 39 t6 (Value.int IntKind.i64 0)) fun t66 =>
  yieldS Tryd.prog S13 (Instr.loadAt 21 t66) fun t67 =>
  yieldS Tryd.prog S13 (Instr.indexAt 39 t6 (Value.int IntKind.i64 1)) fun t69 =>
  yieldS Tryd.prog S13 (Instr.loadAt 21 t69) fun t70 =>
  callD Tryd.prog 35 #[t67, t70] w29 fun t71 w30 =>
  S13 w30 ∧
  yieldS Tryd.prog S13 (Instr.extract t71 0) fun t72 =>
  yieldS Tryd.prog S13 (Instr.extract t71 1) fun t73 =>
  callD Tryd.prog 33 #[t72, t73] w30 fun t74 w31 =>
  S13 w31 ∧
  yieldS Tryd.prog S13 (Instr.extract t74 0) fun t75 =>
  yieldS Tryd.prog S13 (Instr.extract t74 1) fun t76 =>
  R (.tuple #[t75, t76]) w31) (
  V Tryd.prog (do eqGuard .eql 3 (Operand.tmp 48) (Operand.const (Value.int IntKind.i64 27)) t3 (Value.int IntKind.i64 27); binOp .eql 3 t3 (Value.int IntKind.i64 27)) w28 fun t78 w32 =>
  ifD t78 (
  V Tryd.prog (Instr.loadAt 95 t16) w32 fun t79 w33 =>
  callD Tryd.prog 36 #[t79] w33 fun t80 w34 =>
  V Tryd.prog (Instr.extract t80 0) w34 fun t81 w35 =>
  V Tryd.prog (Instr.extract t80 1) w35 fun t82 w36 =>
  R (.tuple #[t81, t82]) w36) (
  V Tryd.prog (do eqGuard .eql 3 (Operand.tmp 48) (Operand.const (Value.int IntKind.i64 28)) t3 (Value.int IntKind.i64 28); binOp .eql 3 t3 (Value.int IntKind.i64 28)) w32 fun t84 w37 =>
  ifD t84 (
  V Tryd.prog (Instr.loadAt 95 t16) w37 fun t85 w38 =>
  callD Tryd.prog 37 #[t85] w38 fun t86 w39 =>
  V Tryd.prog (Instr.extract t86 0) w39 fun t87 w40 =>
  V Tryd.prog (Instr.extract t86 1) w40 fun t88 w41 =>
  R (.tuple #[t87, t88]) w41) (
  V Tryd.prog (do eqGuard .eql 3 (Operand.tmp 48) (Operand.const (Value.int IntKind.i64 29)) t3 (Value.int IntKind.i64 29); binOp .eql 3 t3 (Value.int IntKind.i64 29)) w37 fun t90 w42 =>
  ifD t90 (
  V Tryd.prog (Instr.loadAt 95 t16) w42 fun t91 w43 =>
  callD Tryd.prog 38 #[t91] w43 fun t92 w44 =>
  V Tryd.prog (Instr.extract t92 0) w44 fun t93 w45 =>
  V Tryd.prog (Instr.extract t92 1) w45 fun t94 w46 =>
  R (.tuple #[t93, t94]) w46) (
  V Tryd.prog (do eqGuard .eql 3 (Operand.tmp 48) (Operand.const (Value.int IntKind.i64 30)) t3 (Value.int IntKind.i64 30); binOp .eql 3 t3 (Value.int IntKind.i64 30)) w42 fun t96 w47 =>
  ifD t96 (
  V Tryd.prog (Instr.loadAt 95 t16) w47 fun t97 w48 =>
  callD Tryd.prog 39 #[t97] w48 fun t98 w49 =>
  V Tryd.prog (Instr.extract t98 0) w49 fun t99 w50 =>
  V Tryd.prog (Instr.extract t98 1) w50 fun t100 w51 =>
  R (.tuple #[t99, t100]) w51) (
  V Tryd.prog (do eqGuard .eql 3 (Operand.tmp 48) (Operand.const (Value.int IntKind.i64 31)) t3 (Value.int IntKind.i64 31); binOp .eql 3 t3 (Value.int IntKind.i64 31)) w47 fun t102 w52 =>
  ifD t102 (
  V Tryd.prog (Instr.loadAt 95 t16) w52 fun t103 w53 =>
  callD Tryd.prog 40 #[t103] w53 fun t104 w54 =>
  V Tryd.prog (Instr.extract t104 0) w54 fun t105 w55 =>
  V Tryd.prog (Instr.extract t104 1) w55 fun t106 w56 =>
  R (.tuple #[t105, t106]) w56) (
  V Tryd.prog (do eqGuard .eql 3 (Operand.tmp 48) (Operand.const (Value.int IntKind.i64 32)) t3 (Value.int IntKind.i64 32); binOp .eql 3 t3 (Value.int IntKind.i64 32)) w52 fun t108 w57 =>
  ifD t108 (
  V Tryd.prog (Instr.loadAt 95 t16) w57 fun t109 w58 =>
  callD Tryd.prog 41 #[t109] w58 fun t110 w59 =>
  V Tryd.prog (Instr.extract t110 0) w59 fun t111 w60 =>
  V Tryd.prog (Instr.extract t110 1) w60 fun t112 w61 =>
  R (.tuple #[t111, t112]) w61) (
  V Tryd.prog (Instr.loadAt 95 t16) w57 fun t113 w62 =>
  callD Tryd.prog 42 #[t113] w62 fun t114 w63 =>
  V Tryd.prog (Instr.extract t114 0) w63 fun t115 w64 =>
  V Tryd.prog (Instr.extract t114 1) w64 fun t116 w65 =>
  R (.tuple #[t115, t116]) w65))))))))))
theorem F21_eq (t0 : Value) (t1 : Value) (t2 : Value) (t3 : Value) (t4 : Value) (t5 : Value) (t6 : Value) (w : World) (R : Value → World → Prop) : F21_den t0 t1 t2 t3 t4 t5 t6 w R = vc Tryd.prog F21_ann (Tryd.f21.body.getD .skip) (retE Tryd.prog Tryd.f21.results.toList R) (argEnv [t0, t1, t2, t3, t4, t5, t6]) w := by kernel_rfl
theorem F21_wp {t0 : Value} {t1 : Value} {t2 : Value} {t3 : Value} {t4 : Value} {t5 : Value} {t6 : Value} {w : World} {R : Value → World → Prop} (h : F21_den t0 t1 t2 t3 t4 t5 t6 w R) : callD Tryd.prog 21 #[t0, t1, t2, t3, t4, t5, t6] w R :=
  callD.of_calls (fn := Tryd.f21) (c := Tryd.f21.body.getD .skip) Tryd.func21 (by kernel_rfl) (by kernel_rfl) (calls_of_vc (args := [t0, t1, t2, t3, t4, t5, t6]) F21_ann mixed Tryd.func21 (by kernel_rfl) (by kernel_rfl) (F21_eq t0 t1 t2 t3 t4 t5 t6 w R ▸ h))

/-- (*taciturn/taciturnref8.Room).Serve -/
def F22_ann : Ann := (Ann.seq Ann.leaf (Ann.seq (Ann.seq Ann.leaf (Ann.cond (Ann.seq Ann.leaf Ann.leaf) Ann.leaf)) (Ann.seq Ann.leaf (Ann.seq (Ann.seq Ann.leaf (Ann.block (Ann.loop [16, 17, 44, 45, 46, 47, 48, 49, 50, 51, 52, 53, 54, 55, 56, 57] [16, 17] (Ann.seq (Ann.seq Ann.leaf (Ann.cond Ann.leaf Ann.leaf)) (Ann.seq (Ann.block Ann.leaf) Ann.leaf))))) (Ann.seq Ann.leaf (Ann.seq (Ann.seq Ann.leaf (Ann.block (Ann.loop [19, 63, 64, 65, 66, 67, 68, 69, 70, 71, 72, 73, 74] [19] (Ann.seq (Ann.seq Ann.leaf (Ann.cond Ann.leaf Ann.leaf)) (Ann.seq (Ann.block Ann.leaf) Ann.leaf))))) (Ann.seq (Ann.seq Ann.leaf (Ann.block (Ann.join [76, 77, 78] [76] (Ann.seq Ann.leaf (Ann.cond Ann.leaf Ann.leaf)) (Ann.cond (Ann.seq (Ann.seq Ann.leaf (Ann.cond (Ann.seq Ann.leaf Ann.leaf) Ann.leaf)) (Ann.seq (Ann.draw [0, 0, 2, 4, 0, 16, 32, 73, 255, 511] [0, 0, 2, 4, 0, 16, 32, 73, 128, 0] 0 10 1023 (.take 0 (.take 1 (.take 2 (.take 3 (.take 4 (.take 5 (.take 6 (.only 7 (.take 8 (.take 9 .done))))))))))) Ann.leaf)) (Ann.seq Ann.leaf (Ann.cond (Ann.seq (Ann.seq Ann.leaf (Ann.cond (Ann.seq Ann.leaf Ann.leaf) Ann.leaf)) (Ann.seq (Ann.draw [0, 1, 2, 4, 0, 0, 0, 64, 128, 256, 0, 1024, 0, 4096, 8192, 19000, 32768, 65536, 65536, 262143, 1048575] [0, 1, 2, 4, 0, 0, 0, 64, 128, 256, 0, 1024, 0, 4096, 8192, 19000, 32768, 65536, 65536, 131072, 262144] 0 21 2097151 (.take 0 (.take 1 (.take 2 (.take 3 (.take 4 (.take 5 (.take 6 (.take 7 (.take 8 (.take 9 (.take 10 (.take 11 (.take 12 (.take 13 (.take 14 (.only 15 (.take 16 (.take 17 (.take 18 (.take 19 (.take 20 .done)))))))))))))))))))))) (Ann.seq (Ann.seq Ann.leaf (Ann.cond (Ann.seq Ann.leaf Ann.leaf) Ann.leaf)) (Ann.seq Ann.leaf Ann.leaf)))) (Ann.seq Ann.leaf (Ann.cond (Ann.seq (Ann.seq (Ann.draw [0, 1, 2, 4, 0, 16, 32, 0, 200, 511] [0, 1, 2, 4, 0, 16, 32, 0, 200, 256] 0 10 1023 (.take 0 (.take 1 (.take 2 (.take 3 (.take 4 (.take 5 (.take 6 (.take 7 (.only 8 (.take 9 .done))))))))))) (Ann.seq Ann.leaf (Ann.cond (Ann.seq Ann.leaf Ann.leaf) Ann.leaf))) (Ann.join [23, 24, 140, 141, 142, 143, 144, 145, 146, 147, 148, 149, 150] [23] (Ann.draw [0, 1, 2, 4, 0, 16, 32, 72, 128, 256, 256, 0, 3071, 8191] [0, 1, 2, 4, 0, 16, 32, 72, 128, 256, 256, 0, 2560, 1024] 0 14 16383 (.take 0 (.take 1 (.take 2 (.take 3 (.take 4 (.take 5 (.take 6 (.two 7 11 (.take 8 (.take 9 (.take 10 (.only 11 (.only 12 (.take 13 .done)))))) (.only 7 (.take 8 (.take 9 (.take 10 (.only 12 (.take 13 .done))))))))))))))) (Ann.seq Ann.leaf Ann.leaf))) (Ann.join [155, 156, 157] [155] (Ann.seq Ann.leaf (Ann.cond Ann.leaf Ann.leaf)) (Ann.cond (Ann.seq (Ann.seq (Ann.draw [0, 1, 2, 4, 0, 16, 32, 0, 128, 256, 0, 1608, 4095] [0, 1, 2, 4, 0, 16, 32, 0, 128, 256, 0, 1608, 2048] 0 13 8191 (.take 0 (.take 1 (.take 2 (.take 3 (.take 4 (.take 5 (.take 6 (.take 7 (.take 8 (.take 9 (.take 10 (.only 11 (.take 12 .done)))))))))))))) (Ann.seq Ann.leaf (Ann.cond (Ann.seq Ann.leaf Ann.leaf) Ann.leaf))) (Ann.seq (Ann.seq Ann.leaf (Ann.cond (Ann.seq (Ann.draw [0, 1, 2, 4, 0, 16, 32, 0, 128, 256, 0, 1024, 2048, 4096, 8192, 16968] [0, 1, 2, 4, 0, 16, 32, 0, 128, 256, 0, 1024, 2048, 4096, 8192, 16968] 0 16 65535 (.take 0 (.take 1 (.take 2 (.take 3 (.take 4 (.take 5 (.take 6 (.take 7 (.take 8 (.take 9 (.take 10 (.take 11 (.take 12 (.take 13 (.only 14 (.only 15 .done))))))))))))))))) (Ann.seq Ann.leaf Ann.leaf)) Ann.leaf)) (Ann.join [26, 27, 191, 192, 193, 194, 195, 196, 197, 198, 199, 200, 201] [26] (Ann.draw [0, 1, 2, 4, 0, 16, 32, 72, 128, 256, 256, 0, 3071, 8191] [0, 1, 2, 4, 0, 16, 32, 72, 128, 256, 256, 0, 2560, 1024] 0 14 16383 (.take 0 (.take 1 (.take 2 (.take 3 (.take 4 (.take 5 (.take 6 (.two 7 11 (.take 8 (.take 9 (.take 10 (.only 11 (.only 12 (.take 13 .done)))))) (.only 7 (.take 8 (.take 9 (.take 10 (.only 12 (.take 13 .done))))))))))))))) (Ann.seq (Ann.draw [0, 1, 0, 4, 8, 18, 32, 64, 255, 511] [0, 1, 0, 4, 8, 18, 32, 64, 128, 0] 0 10 1023 (.take 0 (.take 1 (.take 2 (.take 3 (.take 4 (.take 5 (.take 6 (.take 7 (.take 8 (.take 9 .done))))))))))) Ann.leaf)))) (Ann.join [210, 211, 212] [210] (Ann.seq Ann.leaf (Ann.cond Ann.leaf Ann.leaf)) (Ann.cond (Ann.seq (Ann.seq (Ann.draw [0, 1, 2, 4, 0, 16, 32, 0, 128, 256, 0, 1024, 2048, 0, 12872, 32767] [0, 1, 2, 4, 0, 16, 32, 0, 128, 256, 0, 1024, 2048, 0, 12872, 16384] 0 16 65535 (.take 0 (.take 1 (.take 2 (.take 3 (.take 4 (.take 5 (.take 6 (.take 7 (.take 8 (.take 9 (.take 10 (.take 11 (.take 12 (.take 13 (.only 14 (.take 15 .done))))))))))))))))) (Ann.seq Ann.leaf (Ann.cond (Ann.seq Ann.leaf Ann.leaf) Ann.leaf))) (Ann.seq (Ann.seq (Ann.draw [0, 1, 2, 4, 0, 16, 32, 0, 128, 256, 0, 1024, 2048, 0, 12872, 32767] [0, 1, 2, 4, 0, 16, 32, 0, 128, 256, 0, 1024, 2048, 0, 12872, 16384] 0 16 65535 (.take 0 (.take 1 (.take 2 (.take 3 (.take 4 (.take 5 (.take 6 (.take 7 (.take 8 (.take 9 (.take 10 (.take 11 (.take 12 (.take 13 (.only 14 (.take 15 .done))))))))))))))))) (Ann.seq Ann.leaf (Ann.cond (Ann.seq Ann.leaf Ann.leaf) Ann.leaf))) (Ann.join [30, 31, 249, 250, 251, 252, 253, 254, 255, 256, 257, 258, 259] [30] (Ann.draw [0, 1, 2, 4, 0, 16, 32, 72, 128, 256, 256, 0, 3071, 8191] [0, 1, 2, 4, 0, 16, 32, 72, 128, 256, 256, 0, 2560, 1024] 0 14 16383 (.take 0 (.take 1 (.take 2 (.take 3 (.take 4 (.take 5 (.take 6 (.two 7 11 (.take 8 (.take 9 (.take 10 (.only 11 (.only 12 (.take 13 .done)))))) (.only 7 (.take 8 (.take 9 (.take 10 (.only 12 (.take 13 .done))))))))))))))) (Ann.join [32, 33, 260, 261, 262, 263, 264, 265, 266, 267, 268, 269, 270] [32] (Ann.draw [0, 1, 2, 4, 0, 16, 32, 72, 128, 256, 256, 0, 3071, 8191] [0, 1, 2, 4, 0, 16, 32, 72, 128, 256, 256, 0, 2560, 1024] 0 14 16383 (.take 0 (.take 1 (.take 2 (.take 3 (.take 4 (.take 5 (.take 6 (.two 7 11 (.take 8 (.take 9 (.take 10 (.only 11 (.only 12 (.take 13 .done)))))) (.only 7 (.take 8 (.take 9 (.take 10 (.only 12 (.take 13 .done))))))))))))))) (Ann.seq (Ann.draw [0, 1, 0, 4, 8, 0, 32, 64, 0, 256, 512, 1152, 2066, 8191] [0, 1, 0, 4, 8, 0, 32, 64, 0, 256, 512, 1152, 2066, 4096] 0 14 16383 (.take 0 (.take 1 (.take 2 (.take 3 (.take 4 (.take 5 (.take 6 (.take 7 (.take 8 (.take 9 (.take 10 (.take 11 (.take 12 (.take 13 .done))))))))))))))) (Ann.seq (Ann.seq Ann.leaf (Ann.cond (Ann.seq (Ann.draw [0, 1, 2, 4, 0, 16, 32, 0, 128, 256, 0, 1608] [0, 1, 2, 4, 0, 16, 32, 0, 128, 256, 0, 1608] 0 12 4095 (.take 0 (.take 1 (.take 2 (.take 3 (.take 4 (.take 5 (.take 6 (.take 7 (.take 8 (.take 9 (.take 10 (.only 11 .done))))))))))))) (Ann.seq Ann.leaf Ann.leaf)) Ann.leaf)) (Ann.seq (Ann.seq (Ann.draw [0, 1, 0, 4, 8, 0, 32, 64, 0, 256, 512, 1152, 2066, 4096, 0, 16384, 40960] [0, 1, 0, 4, 8, 0, 32, 64, 0, 256, 512, 1152, 2066, 4096, 0, 16384, 40960] 0 17 131071 (.take 0 (.take 1 (.take 2 (.take 3 (.take 4 (.take 5 (.take 6 (.take 7 (.take 8 (.take 9 (.take 10 (.take 11 (.take 12 (.take 13 (.take 14 (.take 15 (.take 16 .done)))))))))))))))))) (Ann.cond (Ann.seq Ann.leaf Ann.leaf) Ann.leaf)) (Ann.seq Ann.leaf Ann.leaf)))))))) Ann.leaf)))))))))))) (Ann.seq (Ann.seq (Ann.draw [0, 1, 2, 4, 0, 16, 32, 0, 128, 256, 0, 1024, 2048, 0, 12872, 32767] [0, 1, 2, 4, 0, 16, 32, 0, 128, 256, 0, 1024, 2048, 0, 12872, 16384] 0 16 65535 (.take 0 (.take 1 (.take 2 (.take 3 (.take 4 (.take 5 (.take 6 (.take 7 (.take 8 (.take 9 (.take 10 (.take 11 (.take 12 (.take 13 (.only 14 (.take 15 .done))))))))))))))))) (Ann.seq Ann.leaf (Ann.cond (Ann.seq Ann.leaf Ann.leaf) Ann.leaf))) (Ann.join [36, 37, 333, 334, 335, 336, 337, 338, 339, 340, 341, 342, 343] [36] (Ann.draw [0, 1, 2, 4, 0, 16, 32, 72, 128, 256, 256, 0, 3071, 8191] [0, 1, 2, 4, 0, 16, 32, 72, 128, 256, 256, 0, 2560, 1024] 0 14 16383 (.take 0 (.take 1 (.take 2 (.take 3 (.take 4 (.take 5 (.take 6 (.two 7 11 (.take 8 (.take 9 (.take 10 (.only 11 (.only 12 (.take 13 .done)))))) (.only 7 (.take 8 (.take 9 (.take 10 (.only 12 (.take 13 .done))))))))))))))) (Ann.seq Ann.leaf (Ann.join [38, 347, 348, 349, 350, 351] [38] (Ann.seq Ann.leaf (Ann.cond Ann.leaf Ann.leaf)) (Ann.seq (Ann.seq (Ann.draw [0, 1, 2, 0, 8, 16, 32, 64, 132] [0, 1, 2, 0, 8, 16, 32, 64, 132] 0 9 511 (.take 0 (.take 1 (.take 2 (.take 3 (.take 4 (.take 5 (.take 6 (.take 7 (.take 8 .done)))))))))) (Ann.cond (Ann.seq Ann.leaf Ann.leaf) Ann.leaf)) (Ann.seq (Ann.draw [0, 0, 0, 4, 8, 18, 0, 64, 0, 256, 512, 0, 2048, 4096, 0, 16384, 32768, 73728, 132224, 262176, 1048575, 2097151] [0, 0, 0, 4, 8, 18, 0, 64, 0, 256, 512, 0, 2048, 4096, 0, 16384, 32768, 73728, 132224, 262176, 1, 1572864] 0 21 2097151 (.take 0 (.take 2 (.take 3 (.take 4 (.take 6 (.take 7 (.take 8 (.take 9 (.take 10 (.take 11 (.take 12 (.take 13 (.take 14 (.take 15 (.take 16 (.take 17 (.take 18 (.only 1 (.only 5 (.only 19 (.take 20 (.last 21))))))))))))))))))))))) (Ann.seq Ann.leaf Ann.leaf))))))))))))))
def F22_den (t0 : Value) (t1 : Value) (t2 : Value) (t3 : Value) (t4 : Value) (t5 : Value) (t6 : Value) (w : World) (R : Value → World → Prop) : Prop :=
  callD Tryd.prog 20 #[t3] w fun t40 w1 =>
  V Tryd.prog (Builtin.len_ #[39] 3 #[t6]) w1 fun t42 w2 =>
  V Tryd.prog (do eqGuard .neq 3 (Operand.tmp 40) (Operand.tmp 42) t40 t42; binOp .neq 3 t40 t42) w2 fun t43 w3 =>
  ifD t43 (
  R (.tuple #[(Value.int IntKind.i32 0), (Value.int IntKind.i64 27013)]) w3) (
  ∃ (I1 : NP 2) (μ1 : NF 2), I1 (Value.slice none 0 0) (Value.int IntKind.i64 0) w3 ∧
  ∀ (t16 : Value) (t17 : Value), ∀ w4 : World, I1 t16 t17 w4 → ∀ _f : Env,
  V Tryd.prog (Builtin.len_ #[39] 3 #[t6]) w4 fun t46 w5 =>
  V Tryd.prog (binOp .lss 3 t17 t46) w5 fun t47 w6 =>
  ifD t47 (
  V Tryd.prog (Instr.indexAt 39 t6 t17) w6 fun t53 w7 =>
  V Tryd.prog (Instr.loadAt 21 t53) w7 fun t54 w8 =>
  V Tryd.prog (convert 21 3 t54) w8 fun t55 w9 =>
  V Tryd.prog (Instr.buildSlice 32 1 #[(0, t55)]) w9 fun t56 w10 =>
  V Tryd.prog (Builtin.append_ #[32, 32] 32 #[t16, t56]) w10 fun t57 w11 =>
  V Tryd.prog (binOp .add 3 t17 (Value.int IntKind.i64 1)) w11 fun t49 w12 =>
  I1 t57 t49 w12 ∧ μ1 t57 t49 w12 < μ1 t16 t17 w4) (
  callD Tryd.prog 43 #[t3, t4, t5, t16] w6 fun t62 w13 =>
  ∃ (I2 : NP 1) (μ2 : NF 1), I2 (Value.int IntKind.i64 0) w13 ∧
  ∀ (t19 : Value), ∀ w14 : World, I2 t19 w14 → ∀ _f : Env,
  V Tryd.prog (Builtin.len_ #[55] 3 #[t62]) w14 fun t65 w15 =>
  V Tryd.prog (binOp .lss 3 t19 t65) w15 fun t66 w16 =>
  ifD t66 (
  V Tryd.prog (Instr.indexAt 55 t62 t19) w16 fun t72 w17 =>
  V Tryd.prog (Instr.loadAt 74 t72) w17 fun t73 w18 =>
  callD Tryd.prog 44 #[t1, t73] w18 fun t74 w19 =>
  V Tryd.prog (binOp .add 3 t19 (Value.int IntKind.i64 1)) w19 fun t68 w20 =>
  I2 t68 w20 ∧ μ2 t68 w20 < μ2 t19 w14) (
  ∃ J3 : NP 1,
  (V Tryd.prog (do eqGuard .eql 3 (Operand.tmp 75) (Operand.const (Value.int IntKind.i64 17)) t3 (Value.int IntKind.i64 17); binOp .eql 3 t3 (Value.int IntKind.i64 17)) w16 fun t77 w21 =>
  ifD t77 (
  J3 t77 w21) (
  V Tryd.prog (do eqGuard .eql 3 (Operand.tmp 75) (Operand.const (Value.int IntKind.i64 18)) t3 (Value.int IntKind.i64 18); binOp .eql 3 t3 (Value.int IntKind.i64 18)) w21 fun t78 w22 =>
  J3 t78 w22)) ∧
  ∀ (t76 : Value), ∀ w23 : World, J3 t76 w23 → ∀ _f : Env,
  ifD t76 (
  V Tryd.prog (Instr.indexAt 32 t16 (Value.int IntKind.i64 1)) w23 fun t80 w24 =>
  V Tryd.prog (Instr.loadAt 3 t80) w24 fun t81 w25 =>
  V Tryd.prog (do eqGuard .eql 3 (Operand.tmp 81) (Operand.const (Value.int IntKind.i64 0)) t81 (Value.int IntKind.i64 0); binOp .eql 3 t81 (Value.int IntKind.i64 0)) w25 fun t82 w26 =>
  ifD t82 (
  R (.tuple #[(Value.int IntKind.i32 0), (Value.int IntKind.i64 28419)]) w26) (
  drawD w26 fun S18 w27 =>
  yieldS Tryd.prog S18 (Instr.indexAt 39 t6 (Value.int IntKind.i64 0)) fun t85 =>
  yieldS Tryd.prog S18 (Instr.loadAt 21 t85) fun t86 =>
  yieldS Tryd.prog S18 (Instr.indexAt 39 t6 (Value.int IntKind.i64 1)) fun t88 =>
  yieldS Tryd.prog S18 (Instr.loadAt 21 t88) fun t89 =>
  callD Tryd.prog 45 #[t3, t86, t89] w27 fun t90 w28 =>
  S18 w28 ∧
  R (.tuple #[t90, (Value.int IntKind.i64 36864)]) w28)) (
  V Tryd.prog (do eqGuard .eql 3 (Operand.tmp 75) (Operand.const (Value.int IntKind.i64 27)) t3 (Value.int IntKind.i64 27); binOp .eql 3 t3 (Value.int IntKind.i64 27)) w23 fun t92 w29 =>
  ifD t92 (
  V Tryd.prog (Instr.indexAt 32 t16 (Value.int IntKind.i64 0)) w29 fun t94 w30 =>
  V Tryd.prog (Instr.loadAt 3 t94) w30 fun t95 w31 =>
  V Tryd.prog (binOp .lss 3 t95 (Value.int IntKind.i64 0)) w31 fun t96 w32 =>
  gd t96 false (fun K => K t16 w32) w32 fun t98 w33 =>
  gd t96 false (fun K => V Tryd.prog (Instr.indexAt 32 t98 (Value.int IntKind.i64 0)) w33 K) w33 fun t99 w34 =>
  gd t96 false (fun K => V Tryd.prog (Instr.loadAt 3 t99) w34 K) w34 fun t100 w35 =>
  gd t96 false (fun K => V Tryd.prog (binOp .gtr 3 t100 (Value.int IntKind.i64 64)) w35 K) w35 fun t101 w36 =>
  pickD t96 (Value.bool true) t101 fun t102 =>
  ifD t102 (
  R (.tuple #[(Value.int IntKind.i32 0), (Value.int IntKind.i64 28425)]) w36) (
  drawD w36 fun S22 w38 =>
  Go.Vc.Safe (t0) ∧
  yieldS Tryd.prog S22 (Instr.fieldAt 63 t0 0) fun t106 =>
  yieldS Tryd.prog S22 (Instr.loadAt 59 t106) fun t107 =>
  yieldS Tryd.prog S22 (binOp .rem 3 t5 (Value.int IntKind.i64 4)) fun t111 =>
  yieldS Tryd.prog S22 (binOp .add 3 t111 (Value.int IntKind.i64 4)) fun t112 =>
  yieldS Tryd.prog S22 (binOp .rem 3 t112 (Value.int IntKind.i64 4)) fun t113 =>
  yieldS Tryd.prog S22 (binOp .geq 3 t5 (Value.int IntKind.i64 4)) fun t115 =>
  yieldS Tryd.prog S22 (Instr.indexAt 32 t16 (Value.int IntKind.i64 0)) fun t117 =>
  yieldS Tryd.prog S22 (Instr.loadAt 3 t117) fun t118 =>
  callD Tryd.prog 46 #[t107, t2, t4, t113, t115, t118] w38 fun t119 w39 =>
  S22 w39 ∧
  yieldS Tryd.prog S22 (Instr.extract t119 0) fun t120 =>
  yieldS Tryd.prog S22 (Instr.extract t119 1) fun t121 =>
  V Tryd.prog (Op.unary UnOp.not t121) w39 fun t123 w40 =>
  ifD t123 (
  R (.tuple #[(Value.int IntKind.i32 0), (Value.int IntKind.i64 28421)]) w40) (
  V Tryd.prog (convert 3 21 t120) w40 fun t125 w41 =>
  R (.tuple #[t125, (Value.int IntKind.i64 36864)]) w41))) (
  V Tryd.prog (do eqGuard .eql 3 (Operand.tmp 75) (Operand.const (Value.int IntKind.i64 28)) t3 (Value.int IntKind.i64 28); binOp .eql 3 t3 (Value.int IntKind.i64 28)) w29 fun t127 w42 =>
  ifD t127 (
  drawD w42 fun S27 w43 =>
  Go.Vc.Safe (t0) ∧
  yieldS Tryd.prog S27 (Instr.fieldAt 63 t0 0) fun t130 =>
  yieldS Tryd.prog S27 (Instr.loadAt 59 t130) fun t131 =>
  yieldS Tryd.prog S27 (Instr.indexAt 32 t16 (Value.int IntKind.i64 0)) fun t133 =>
  yieldS Tryd.prog S27 (Instr.loadAt 3 t133) fun t134 =>
  callD Tryd.prog 47 #[t131, t134, t2] w43 fun t136 w44 =>
  S27 w44 ∧
  V Tryd.prog (do eqGuard .neq 3 (Operand.tmp 137) (Operand.const (Value.int IntKind.i64 36864)) t136 (Value.int IntKind.i64 36864); binOp .neq 3 t136 (Value.int IntKind.i64 36864)) w44 fun t138 w45 =>
  ifD t138 (
  R (.tuple #[(Value.int IntKind.i32 0), t136]) w45) (
  ∃ J4 : NP 1,
  (drawD w45 fun S30 w46 =>
  Go.Vc.Safe (t0) ∧
  yieldS Tryd.prog S30 (Instr.fieldAt 63 t0 0) fun t143 =>
  yieldS Tryd.prog S30 (Instr.loadAt 59 t143) fun t144 =>
  yieldS Tryd.prog S30 (Instr.indexAt 32 t16 (Value.int IntKind.i64 0)) fun t146 =>
  yieldS Tryd.prog S30 (Instr.loadAt 3 t146) fun t147 =>
  (callD Tryd.prog 48 #[t144, t147] w46 fun t148 w47 =>
  S30 w47 ∧
  yieldS Tryd.prog S30 (Instr.extract t148 0) fun t149 =>
  yieldS Tryd.prog S30 (Instr.extract t148 1) fun t150 =>
  V Tryd.prog (Instr.alloc 105 true (.tuple #[])) w47 fun t23 w48 =>
  S30 w48 ∧
  U Tryd.prog (Instr.storeAt 105 t23 t149) w48 fun _ w49 =>
  S30 w49 ∧
  J4 t23 w49) ∧
  (V Tryd.prog (Instr.alloc 105 true (.tuple #[])) w46 fun t23_1 w50 =>
  S30 w50 ∧
  callD Tryd.prog 48 #[t144, t147] w50 fun t148_1 w51 =>
  S30 w51 ∧
  yieldS Tryd.prog S30 (Instr.extract t148_1 0) fun t149_1 =>
  yieldS Tryd.prog S30 (Instr.extract t148_1 1) fun t150_1 =>
  U Tryd.prog (Instr.storeAt 105 t23_1 t149_1) w51 fun _ w52 =>
  S30 w52 ∧
  J4 t23_1 w52)) ∧
  ∀ (t23_2 : Value), ∀ w53 : World, J4 t23_2 w53 → ∀ _f : Env,
  V Tryd.prog (Instr.fieldAt 105 t23_2 4) w53 fun t151 w54 =>
  V Tryd.prog (Instr.loadAt 40 t151) w54 fun t152 w55 =>
  V Tryd.prog (Builtin.len_ #[40] 3 #[t152]) w55 fun t153 w56 =>
  V Tryd.prog (convert 3 21 t153) w56 fun t154 w57 =>
  R (.tuple #[t154, (Value.int IntKind.i64 36864)]) w57)) (
  ∃ J5 : NP 1,
  (V Tryd.prog (do eqGuard .eql 3 (Operand.tmp 75) (Operand.const (Value.int IntKind.i64 29)) t3 (Value.int IntKind.i64 29); binOp .eql 3 t3 (Value.int IntKind.i64 29)) w42 fun t156 w58 =>
  ifD t156 (
  J5 t156 w58) (
  V Tryd.prog (do eqGuard .eql 3 (Operand.tmp 75) (Operand.const (Value.int IntKind.i64 30)) t3 (Value.int IntKind.i64 30); binOp .eql 3 t3 (Value.int IntKind.i64 30)) w58 fun t157 w59 =>
  J5 t157 w59)) ∧
  ∀ (t155 : Value), ∀ w60 : World, J5 t155 w60 → ∀ _f : Env,
  ifD t155 (
  drawD w60 fun S34 w61 =>
  Go.Vc.Safe (t0) ∧
  yieldS Tryd.prog S34 (Instr.fieldAt 63 t0 0) fun t160 =>
  yieldS Tryd.prog S34 (Instr.loadAt 59 t160) fun t161 =>
  yieldS Tryd.prog S34 (Instr.indexAt 32 t16 (Value.int IntKind.i64 0)) fun t163 =>
  yieldS Tryd.prog S34 (Instr.loadAt 3 t163) fun t164 =>
  yieldS Tryd.prog S34 (Instr.indexAt 32 t16 (Value.int IntKind.i64 1)) fun t166 =>
  yieldS Tryd.prog S34 (Instr.loadAt 3 t166) fun t167 =>
  callD Tryd.prog 49 #[t161, t164, t167, (Value.int IntKind.i64 1), t2] w61 fun t169 w62 =>
  S34 w62 ∧
  V Tryd.prog (do eqGuard .neq 3 (Operand.tmp 170) (Operand.const (Value.int IntKind.i64 36864)) t169 (Value.int IntKind.i64 36864); binOp .neq 3 t169 (Value.int IntKind.i64 36864)) w62 fun t171 w63 =>
  ifD t171 (
  R (.tuple #[(Value.int IntKind.i32 0), t169]) w63) (
  V Tryd.prog (do eqGuard .eql 3 (Operand.tmp 173) (Operand.const (Value.int IntKind.i64 30)) t3 (Value.int IntKind.i64 30); binOp .eql 3 t3 (Value.int IntKind.i64 30)) w63 fun t174 w64 =>
  ifD t174 (
  drawD w64 fun S38 w65 =>
  Go.Vc.Safe (t0) ∧
  yieldS Tryd.prog S38 (Instr.fieldAt 63 t0 0) fun t177 =>
  yieldS Tryd.prog S38 (Instr.loadAt 59 t177) fun t178 =>
  yieldS Tryd.prog S38 (Instr.indexAt 32 t16 (Value.int IntKind.i64 0)) fun t180 =>
  yieldS Tryd.prog S38 (Instr.loadAt 3 t180) fun t181 =>
  yieldS Tryd.prog S38 (Instr.indexAt 32 t16 (Value.int IntKind.i64 1)) fun t183 =>
  yieldS Tryd.prog S38 (Instr.loadAt 3 t183) fun t184 =>
  yieldS Tryd.prog S38 (Instr.indexAt 32 t16 (Value.int IntKind.i64 2)) fun t186 =>
  yieldS Tryd.prog S38 (Instr.loadAt 3 t186) fun t187 =>
  yieldS Tryd.prog S38 (convert 3 5 t187) fun t188 =>
  V Tryd.prog (Instr.buildSlice 40 1 #[(0, t188)]) w65 fun t189 w66 =>
  S38 w66 ∧
  callD Tryd.prog 50 #[t178, t181, t184, t189] w66 fun t190 w67 =>
  S38 w67 ∧
  R (.tuple #[(Value.int IntKind.i32 0), (Value.int IntKind.i64 36864)]) w67) (
  ∃ J6 : NP 1,
  (drawD w64 fun S40 w68 =>
  Go.Vc.Safe (t0) ∧
  yieldS Tryd.prog S40 (Instr.fieldAt 63 t0 0) fun t194 =>
  yieldS Tryd.prog S40 (Instr.loadAt 59 t194) fun t195 =>
  yieldS Tryd.prog S40 (Instr.indexAt 32 t16 (Value.int IntKind.i64 0)) fun t197 =>
  yieldS Tryd.prog S40 (Instr.loadAt 3 t197) fun t198 =>
  (callD Tryd.prog 48 #[t195, t198] w68 fun t199 w69 =>
  S40 w69 ∧
  yieldS Tryd.prog S40 (Instr.extract t199 0) fun t200 =>
  yieldS Tryd.prog S40 (Instr.extract t199 1) fun t201 =>
  V Tryd.prog (Instr.alloc 105 true (.tuple #[])) w69 fun t26 w70 =>
  S40 w70 ∧
  U Tryd.prog (Instr.storeAt 105 t26 t200) w70 fun _ w71 =>
  S40 w71 ∧
  J6 t26 w71) ∧
  (V Tryd.prog (Instr.alloc 105 true (.tuple #[])) w68 fun t26_1 w72 =>
  S40 w72 ∧
  callD Tryd.prog 48 #[t195, t198] w72 fun t199_1 w73 =>
  S40 w73 ∧
  yieldS Tryd.prog S40 (Instr.extract t199_1 0) fun t200_1 =>
  yieldS Tryd.prog S40 (Instr.extract t199_1 1) fun t201_1 =>
  U Tryd.prog (Instr.storeAt 105 t26_1 t200_1) w73 fun _ w74 =>
  S40 w74 ∧
  J6 t26_1 w74)) ∧
  ∀ (t26_2 : Value), ∀ w75 : World, J6 t26_2 w75 → ∀ _f : Env,
  drawD w75 fun S41 w76 =>
  yieldS Tryd.prog S41 (Instr.fieldAt 105 t26_2 4) fun t202 =>
  yieldS Tryd.prog S41 (Instr.loadAt 40 t202) fun t203 =>
  yieldS Tryd.prog S41 (Instr.indexAt 32 t16 (Value.int IntKind.i64 1)) fun t205 =>
  yieldS Tryd.prog S41 (Instr.loadAt 3 t205) fun t206 =>
  yieldS Tryd.prog S41 (Instr.indexAt 40 t203 t206) fun t207 =>
  yieldS Tryd.prog S41 (Instr.loadAt 5 t207) fun t208 =>
  yieldS Tryd.prog S41 (convert 5 21 t208) fun t209 =>
  R (.tuple #[t209, (Value.int IntKind.i64 36864)]) w76))) (
  ∃ J7 : NP 1,
  (V Tryd.prog (do eqGuard .eql 3 (Operand.tmp 75) (Operand.const (Value.int IntKind.i64 31)) t3 (Value.int IntKind.i64 31); binOp .eql 3 t3 (Value.int IntKind.i64 31)) w60 fun t211 w77 =>
  ifD t211 (
  J7 t211 w77) (
  V Tryd.prog (do eqGuard .eql 3 (Operand.tmp 75) (Operand.const (Value.int IntKind.i64 32)) t3 (Value.int IntKind.i64 32); binOp .eql 3 t3 (Value.int IntKind.i64 32)) w77 fun t212 w78 =>
  J7 t212 w78)) ∧
  ∀ (t210 : Value), ∀ w79 : World, J7 t210 w79 → ∀ _f : Env,
  ifD t210 (
  drawD w79 fun S44 w80 =>
  Go.Vc.Safe (t0) ∧
  yieldS Tryd.prog S44 (Instr.fieldAt 63 t0 0) fun t215 =>
  yieldS Tryd.prog S44 (Instr.loadAt 59 t215) fun t216 =>
  yieldS Tryd.prog S44 (Instr.indexAt 32 t16 (Value.int IntKind.i64 0)) fun t218 =>
  yieldS Tryd.prog S44 (Instr.loadAt 3 t218) fun t219 =>
  yieldS Tryd.prog S44 (Instr.indexAt 32 t16 (Value.int IntKind.i64 1)) fun t221 =>
  yieldS Tryd.prog S44 (Instr.loadAt 3 t221) fun t222 =>
  yieldS Tryd.prog S44 (Instr.indexAt 32 t16 (Value.int IntKind.i64 4)) fun t224 =>
  yieldS Tryd.prog S44 (Instr.loadAt 3 t224) fun t225 =>
  callD Tryd.prog 49 #[t216, t219, t222, t225, t2] w80 fun t227 w81 =>
  S44 w81 ∧
  V Tryd.prog (do eqGuard .neq 3 (Operand.tmp 228) (Operand.const (Value.int IntKind.i64 36864)) t227 (Value.int IntKind.i64 36864); binOp .neq 3 t227 (Value.int IntKind.i64 36864)) w81 fun t229 w82 =>
  ifD t229 (
  R (.tuple #[(Value.int IntKind.i32 0), t227]) w82) (
  drawD w82 fun S47 w83 =>
  Go.Vc.Safe (t0) ∧
  yieldS Tryd.prog S47 (Instr.fieldAt 63 t0 0) fun t233 =>
  yieldS Tryd.prog S47 (Instr.loadAt 59 t233) fun t234 =>
  yieldS Tryd.prog S47 (Instr.indexAt 32 t16 (Value.int IntKind.i64 2)) fun t236 =>
  yieldS Tryd.prog S47 (Instr.loadAt 3 t236) fun t237 =>
  yieldS Tryd.prog S47 (Instr.indexAt 32 t16 (Value.int IntKind.i64 3)) fun t239 =>
  yieldS Tryd.prog S47 (Instr.loadAt 3 t239) fun t240 =>
  yieldS Tryd.prog S47 (Instr.indexAt 32 t16 (Value.int IntKind.i64 4)) fun t242 =>
  yieldS Tryd.prog S47 (Instr.loadAt 3 t242) fun t243 =>
  callD Tryd.prog 49 #[t234, t237, t240, t243, t2] w83 fun t245 w84 =>
  S47 w84 ∧
  V Tryd.prog (do eqGuard .neq 3 (Operand.tmp 246) (Operand.const (Value.int IntKind.i64 36864)) t245 (Value.int IntKind.i64 36864); binOp .neq 3 t245 (Value.int IntKind.i64 36864)) w84 fun t247 w85 =>
  ifD t247 (
  R (.tuple #[(Value.int IntKind.i32 0), t245]) w85) (
  ∃ J8 : NP 1,
  (drawD w85 fun S50 w86 =>
  Go.Vc.Safe (t0) ∧
  yieldS Tryd.prog S50 (Instr.fieldAt 63 t0 0) fun t252 =>
  yieldS Tryd.prog S50 (Instr.loadAt 59 t252) fun t253 =>
  yieldS Tryd.prog S50 (Instr.indexAt 32 t16 (Value.int IntKind.i64 0)) fun t255 =>
  yieldS Tryd.prog S50 (Instr.loadAt 3 t255) fun t256 =>
  (callD Tryd.prog 48 #[t253, t256] w86 fun t257 w87 =>
  S50 w87 ∧
  yieldS Tryd.prog S50 (Instr.extract t257 0) fun t258 =>
  yieldS Tryd.prog S50 (Instr.extract t257 1) fun t259 =>
  V Tryd.prog (Instr.alloc 105 true (.tuple #[])) w87 fun t30 w88 =>
  S50 w88 ∧
  U Tryd.prog (Instr.storeAt 105 t30 t258) w88 fun _ w89 =>
  S50 w89 ∧
  J8 t30 w89) ∧
  (V Tryd.prog (Instr.alloc 105 true (.tuple #[])) w86 fun t30_1 w90 =>
  S50 w90 ∧
  callD Tryd.prog 48 #[t253, t256] w90 fun t257_1 w91 =>
  S50 w91 ∧
  yieldS Tryd.prog S50 (Instr.extract t257_1 0) fun t258_1 =>
  yieldS Tryd.prog S50 (Instr.extract t257_1 1) fun t259_1 =>
  U Tryd.prog (Instr.storeAt 105 t30_1 t258_1) w91 fun _ w92 =>
  S50 w92 ∧
  J8 t30_1 w92)) ∧
  ∀ (t30_2 : Value), ∀ w93 : World, J8 t30_2 w93 → ∀ _f : Env,
  ∃ J9 : NP 1,
  (drawD w93 fun S51 w94 =>
  Go.Vc.Safe (t0) ∧
  yieldS Tryd.prog S51 (Instr.fieldAt 63 t0 0) fun t263 =>
  yieldS Tryd.prog S51 (Instr.loadAt 59 t263) fun t264 =>
  yieldS Tryd.prog S51 (Instr.indexAt 32 t16 (Value.int IntKind.i64 2)) fun t266 =>
  yieldS Tryd.prog S51 (Instr.loadAt 3 t266) fun t267 =>
  (callD Tryd.prog 48 #[t264, t267] w94 fun t268 w95 =>
  S51 w95 ∧
  yieldS Tryd.prog S51 (Instr.extract t268 0) fun t269 =>
  yieldS Tryd.prog S51 (Instr.extract t268 1) fun t270 =>
  V Tryd.prog (Instr.alloc 105 true (.tuple #[])) w95 fun t32 w96 =>
  S51 w96 ∧
  U Tryd.prog (Instr.storeAt 105 t32 t269) w96 fun _ w97 =>
  S51 w97 ∧
  J9 t32 w97) ∧
  (V Tryd.prog (Instr.alloc 105 true (.tuple #[])) w94 fun t32_1 w98 =>
  S51 w98 ∧
  callD Tryd.prog 48 #[t264, t267] w98 fun t268_1 w99 =>
  S51 w99 ∧
  yieldS Tryd.prog S51 (Instr.extract t268_1 0) fun t269_1 =>
  yieldS Tryd.prog S51 (Instr.extract t268_1 1) fun t270_1 =>
  U Tryd.prog (Instr.storeAt 105 t32_1 t269_1) w99 fun _ w100 =>
  S51 w100 ∧
  J9 t32_1 w100)) ∧
  ∀ (t32_2 : Value), ∀ w101 : World, J9 t32_2 w101 → ∀ _f : Env,
  drawD w101 fun S52 w102 =>
  yieldS Tryd.prog S52 (Instr.fieldAt 105 t32_2 4) fun t271 =>
  yieldS Tryd.prog S52 (Instr.loadAt 40 t271) fun t272 =>
  yieldS Tryd.prog S52 (Instr.indexAt 32 t16 (Value.int IntKind.i64 3)) fun t274 =>
  yieldS Tryd.prog S52 (Instr.loadAt 3 t274) fun t275 =>
  yieldS Tryd.prog S52 (Instr.indexAt 32 t16 (Value.int IntKind.i64 3)) fun t277 =>
  yieldS Tryd.prog S52 (Instr.loadAt 3 t277) fun t278 =>
  yieldS Tryd.prog S52 (Instr.indexAt 32 t16 (Value.int IntKind.i64 4)) fun t280 =>
  yieldS Tryd.prog S52 (Instr.loadAt 3 t280) fun t281 =>
  yieldS Tryd.prog S52 (binOp .add 3 t278 t281) fun t282 =>
  yieldS Tryd.prog S52 (Instr.sliceAt 40 t272 (some t275) (some t282) none) fun t283 =>
  V Tryd.prog (do eqGuard .eql 3 (Operand.tmp 284) (Operand.const (Value.int IntKind.i64 31)) t3 (Value.int IntKind.i64 31); binOp .eql 3 t3 (Value.int IntKind.i64 31)) w102 fun t285 w103 =>
  ifD t285 (
  drawD w103 fun S54 w104 =>
  Go.Vc.Safe (t0) ∧
  yieldS Tryd.prog S54 (Instr.fieldAt 63 t0 0) fun t288 =>
  yieldS Tryd.prog S54 (Instr.loadAt 59 t288) fun t289 =>
  yieldS Tryd.prog S54 (Instr.indexAt 32 t16 (Value.int IntKind.i64 0)) fun t291 =>
  yieldS Tryd.prog S54 (Instr.loadAt 3 t291) fun t292 =>
  yieldS Tryd.prog S54 (Instr.indexAt 32 t16 (Value.int IntKind.i64 1)) fun t294 =>
  yieldS Tryd.prog S54 (Instr.loadAt 3 t294) fun t295 =>
  callD Tryd.prog 50 #[t289, t292, t295, t283] w104 fun t297 w105 =>
  S54 w105 ∧
  R (.tuple #[(Value.int IntKind.i32 0), (Value.int IntKind.i64 36864)]) w105) (
  drawD w103 fun S56 w106 =>
  yieldS Tryd.prog S56 (Instr.fieldAt 105 t30_2 4) fun t298 =>
  yieldS Tryd.prog S56 (Instr.loadAt 40 t298) fun t299 =>
  yieldS Tryd.prog S56 (Instr.indexAt 32 t16 (Value.int IntKind.i64 1)) fun t301 =>
  yieldS Tryd.prog S56 (Instr.loadAt 3 t301) fun t302 =>
  yieldS Tryd.prog S56 (Instr.indexAt 32 t16 (Value.int IntKind.i64 1)) fun t304 =>
  yieldS Tryd.prog S56 (Instr.loadAt 3 t304) fun t305 =>
  yieldS Tryd.prog S56 (Instr.indexAt 32 t16 (Value.int IntKind.i64 4)) fun t307 =>
  yieldS Tryd.prog S56 (Instr.loadAt 3 t307) fun t308 =>
  yieldS Tryd.prog S56 (binOp .add 3 t305 t308) fun t309 =>
  yieldS Tryd.prog S56 (Instr.sliceAt 40 t299 (some t302) (some t309) none) fun t310 =>
  yieldS Tryd.prog S56 (convert 40 9 t310) fun t311 =>
  yieldS Tryd.prog S56 (convert 40 9 t283) fun t313 =>
  yieldS Tryd.prog S56 (do eqGuard .eql 9 (Operand.tmp 311) (Operand.tmp 313) t311 t313; binOp .eql 9 t311 t313) fun t314 =>
  ifD t314 (
  R (.tuple #[(Value.int IntKind.i32 1), (Value.int IntKind.i64 36864)]) w106) (
  R (.tuple #[(Value.int IntKind.i32 0), (Value.int IntKind.i64 36864)]) w106))))) (
  drawD w79 fun S59 w107 =>
  Go.Vc.Safe (t0) ∧
  yieldS Tryd.prog S59 (Instr.fieldAt 63 t0 0) fun t317 =>
  yieldS Tryd.prog S59 (Instr.loadAt 59 t317) fun t318 =>
  yieldS Tryd.prog S59 (Instr.indexAt 32 t16 (Value.int IntKind.i64 0)) fun t320 =>
  yieldS Tryd.prog S59 (Instr.loadAt 3 t320) fun t321 =>
  yieldS Tryd.prog S59 (Instr.indexAt 32 t16 (Value.int IntKind.i64 1)) fun t323 =>
  yieldS Tryd.prog S59 (Instr.loadAt 3 t323) fun t324 =>
  yieldS Tryd.prog S59 (Instr.indexAt 32 t16 (Value.int IntKind.i64 2)) fun t326 =>
  yieldS Tryd.prog S59 (Instr.loadAt 3 t326) fun t327 =>
  callD Tryd.prog 49 #[t318, t321, t324, t327, t2] w107 fun t329 w108 =>
  S59 w108 ∧
  V Tryd.prog (do eqGuard .neq 3 (Operand.tmp 330) (Operand.const (Value.int IntKind.i64 36864)) t329 (Value.int IntKind.i64 36864); binOp .neq 3 t329 (Value.int IntKind.i64 36864)) w108 fun t331 w109 =>
  ifD t331 (
  R (.tuple #[(Value.int IntKind.i32 0), t329]) w109) (
  ∃ J10 : NP 1,
  (drawD w109 fun S62 w110 =>
  Go.Vc.Safe (t0) ∧
  yieldS Tryd.prog S62 (Instr.fieldAt 63 t0 0) fun t336 =>
  yieldS Tryd.prog S62 (Instr.loadAt 59 t336) fun t337 =>
  yieldS Tryd.prog S62 (Instr.indexAt 32 t16 (Value.int IntKind.i64 0)) fun t339 =>
  yieldS Tryd.prog S62 (Instr.loadAt 3 t339) fun t340 =>
  (callD Tryd.prog 48 #[t337, t340] w110 fun t341 w111 =>
  S62 w111 ∧
  yieldS Tryd.prog S62 (Instr.extract t341 0) fun t342 =>
  yieldS Tryd.prog S62 (Instr.extract t341 1) fun t343 =>
  V Tryd.prog (Instr.alloc 105 true (.tuple #[])) w111 fun t36 w112 =>
  S62 w112 ∧
  U Tryd.prog (Instr.storeAt 105 t36 t342) w112 fun _ w113 =>
  S62 w113 ∧
  J10 t36 w113) ∧
  (V Tryd.prog (Instr.alloc 105 true (.tuple #[])) w110 fun t36_1 w114 =>
  S62 w114 ∧
  callD Tryd.prog 48 #[t337, t340] w114 fun t341_1 w115 =>
  S62 w115 ∧
  yieldS Tryd.prog S62 (Instr.extract t341_1 0) fun t342_1 =>
  yieldS Tryd.prog S62 (Instr.extract t341_1 1) fun t343_1 =>
  U Tryd.prog (Instr.storeAt 105 t36_1 t342_1) w115 fun _ w116 =>
  S62 w116 ∧
  J10 t36_1 w116)) ∧
  ∀ (t36_2 : Value), ∀ w117 : World, J10 t36_2 w117 → ∀ _f : Env,
  Go.Vc.Safe (t0) ∧
  V Tryd.prog (Instr.fieldAt 63 t0 3) w117 fun t346 w119 =>
  ∃ J11 : NP 1,
  (V Tryd.prog (do eqGuard .neq 3 (Operand.tmp 347) (Operand.const (Value.int IntKind.i64 1)) t4 (Value.int IntKind.i64 1); binOp .neq 3 t4 (Value.int IntKind.i64 1)) w119 fun t348 w120 =>
  ifD t348 (
  Go.Vc.Safe (t0) ∧
  V Tryd.prog (Instr.fieldAt 63 t0 4) w120 fun t351 w122 =>
  J11 t351 w122) (
  J11 t346 w120)) ∧
  ∀ (t38 : Value), ∀ w123 : World, J11 t38 w123 → ∀ _f : Env,
  drawD w123 fun S66 w124 =>
  yieldS Tryd.prog S66 (Instr.indexAt 32 t16 (Value.int IntKind.i64 2)) fun t353 =>
  yieldS Tryd.prog S66 (Instr.loadAt 3 t353) fun t354 =>
  Go.Vc.Safe (t38) ∧
  yieldS Tryd.prog S66 (Instr.loadAt 40 t38) fun t357 =>
  yieldS Tryd.prog S66 (Builtin.len_ #[40] 3 #[t357]) fun t358 =>
  yieldS Tryd.prog S66 (binOp .sub 3 (Value.int IntKind.i64 128) t358) fun t359 =>
  yieldS Tryd.prog S66 (binOp .gtr 3 t354 t359) fun t360 =>
  ifD t360 (
  R (.tuple #[(Value.int IntKind.i32 0), (Value.int IntKind.i64 28425)]) w124) (
  drawD w124 fun S68 w125 =>
  Go.Vc.Safe (t38) ∧
  yieldS Tryd.prog S68 (Instr.loadAt 40 t38) fun t365 =>
  yieldS Tryd.prog S68 (Instr.fieldAt 105 t36_2 4) fun t367 =>
  yieldS Tryd.prog S68 (Instr.loadAt 40 t367) fun t368 =>
  yieldS Tryd.prog S68 (Instr.indexAt 32 t16 (Value.int IntKind.i64 1)) fun t370 =>
  yieldS Tryd.prog S68 (Instr.loadAt 3 t370) fun t371 =>
  yieldS Tryd.prog S68 (Instr.indexAt 32 t16 (Value.int IntKind.i64 1)) fun t373 =>
  yieldS Tryd.prog S68 (Instr.loadAt 3 t373) fun t374 =>
  yieldS Tryd.prog S68 (Instr.indexAt 32 t16 (Value.int IntKind.i64 2)) fun t376 =>
  yieldS Tryd.prog S68 (Instr.loadAt 3 t376) fun t377 =>
  yieldS Tryd.prog S68 (binOp .add 3 t374 t377) fun t378 =>
  yieldS Tryd.prog S68 (Instr.sliceAt 40 t368 (some t371) (some t378) none) fun t379 =>
  V Tryd.prog (Instr.buildSlice 40 0 #[]) w125 fun t362 w126 =>
  S68 w126 ∧
  V Tryd.prog (Builtin.append_ #[40, 40] 40 #[t362, t365]) w126 fun t366 w127 =>
  S68 w127 ∧
  V Tryd.prog (Builtin.append_ #[40, 40] 40 #[t366, t379]) w127 fun t380 w128 =>
  S68 w128 ∧
  Go.Vc.Safe (t38) ∧
  U Tryd.prog (Instr.storeAt 40 t38 t380) w128 fun _ w129 =>
  R (.tuple #[(Value.int IntKind.i32 0), (Value.int IntKind.i64 36864)]) w129))))))))))
theorem F22_eq (t0 : Value) (t1 : Value) (t2 : Value) (t3 : Value) (t4 : Value) (t5 : Value) (t6 : Value) (w : World) (R : Value → World → Prop) : F22_den t0 t1 t2 t3 t4 t5 t6 w R = vc Tryd.prog F22_ann (Tryd.f22.body.getD .skip) (retE Tryd.prog Tryd.f22.results.toList R) (argEnv [t0, t1, t2, t3, t4, t5, t6]) w := by kernel_rfl
theorem F22_wp {t0 : Value} {t1 : Value} {t2 : Value} {t3 : Value} {t4 : Value} {t5 : Value} {t6 : Value} {w : World} {R : Value → World → Prop} (h : F22_den t0 t1 t2 t3 t4 t5 t6 w R) : callD Tryd.prog 22 #[t0, t1, t2, t3, t4, t5, t6] w R :=
  callD.of_calls (fn := Tryd.f22) (c := Tryd.f22.body.getD .skip) Tryd.func22 (by kernel_rfl) (by kernel_rfl) (calls_of_vc (args := [t0, t1, t2, t3, t4, t5, t6]) F22_ann mixed Tryd.func22 (by kernel_rfl) (by kernel_rfl) (F22_eq t0 t1 t2 t3 t4 t5 t6 w R ▸ h))

/-- taciturn/taciturnlaw12.alike -/
def F23_ann : Ann := (Ann.seq Ann.leaf (Ann.seq Ann.leaf (Ann.seq (Ann.seq (Ann.draw [0, 1, 2, 6, 8, 24, 8, 72, 136, 264, 520, 1064, 2056, 4104, 8192, 24576, 8192, 73728, 139264, 270336, 532480, 1089536, 2105344, 4202496, 8388608, 25165824, 8388608, 75497472, 142606336, 276824064, 545259520, 1115684864, 2155872256, 4328521728, 8589934592, 25769803776, 42949672960, 8589934592, 146028888064, 283467841536, 558345748480, 1108101562368, 2207613190144, 4406636445696, 8804682956800, 17669495455744, 35192962023424] [0, 1, 2, 4, 8, 24, 8, 72, 136, 264, 520, 1064, 2056, 4096, 8192, 24576, 8192, 73728, 139264, 270336, 532480, 1089536, 2105344, 4194304, 8388608, 25165824, 8388608, 75497472, 142606336, 276824064, 545259520, 1115684864, 2155872256, 4294967296, 8589934592, 25769803776, 42949672960, 8589934592, 146028888064, 283467841536, 558345748480, 1108101562368, 2207613190144, 4406636445696, 8804682956800, 17669495455744, 35192962023424] 0 47 140737488355327 (.take 0 (.only 1 (.take 2 (.take 3 (.take 4 (.take 5 (.take 6 (.take 7 (.take 8 (.take 9 (.take 10 (.take 11 (.take 12 (.take 13 (.take 14 (.take 15 (.take 16 (.take 17 (.take 18 (.take 19 (.take 20 (.take 21 (.take 22 (.take 23 (.take 24 (.take 26 (.take 27 (.take 28 (.take 29 (.take 30 (.only 25 (.take 31 (.take 32 (.take 33 (.take 34 (.take 37 (.take 38 (.take 39 (.take 40 (.take 41 (.take 42 (.take 43 (.take 44 (.only 35 (.only 36 (.take 45 (.take 46 .done)))))))))))))))))))))))))))))))))))))))))))))))) (Ann.cond (Ann.seq Ann.leaf Ann.leaf) Ann.leaf)) (Ann.seq (Ann.seq Ann.leaf (Ann.block (Ann.loop [8, 11, 12, 13, 70, 71, 72, 73, 74, 75, 76, 77, 78, 79, 80, 81, 82, 83, 84, 85, 86, 87, 88, 89, 90, 91, 92, 93, 94, 95, 96, 97, 98, 99, 100, 101, 102, 103, 104, 105, 106] [11] (Ann.seq (Ann.seq Ann.leaf (Ann.cond Ann.leaf Ann.leaf)) (Ann.seq (Ann.block (Ann.seq Ann.leaf (Ann.seq (Ann.draw [0, 1, 2, 4, 4, 20, 36, 68, 132, 260, 516, 4, 3076, 4100, 8204, 16388, 32772] [0, 1, 2, 4, 4, 20, 36, 68, 132, 260, 516, 4, 3076, 4100, 8204, 16388, 32772] 0 17 131071 (.take 0 (.take 1 (.take 2 (.take 3 (.take 4 (.take 5 (.take 6 (.take 7 (.take 8 (.take 9 (.take 10 (.take 11 (.take 12 (.take 13 (.only 14 (.take 15 (.take 16 .done)))))))))))))))))) (Ann.cond (Ann.seq Ann.leaf Ann.leaf) Ann.leaf)))) Ann.leaf))))) (Ann.seq (Ann.seq Ann.leaf (Ann.block (Ann.loop [8, 14, 15, 16, 17, 107, 108, 109, 110, 111, 112, 113, 114, 115, 116, 117, 118, 119, 120, 121, 122, 123, 124, 125, 126, 127, 128, 129, 130, 131, 132, 133, 134, 135, 136, 137, 138, 139, 140, 141, 142, 143, 144, 145, 146, 147, 148, 149, 150] [14] (Ann.seq (Ann.seq Ann.leaf (Ann.cond Ann.leaf Ann.leaf)) (Ann.seq (Ann.block (Ann.seq Ann.leaf (Ann.block (Ann.loop [8, 15, 16, 17, 116, 117, 118, 119, 120, 121, 122, 123, 124, 125, 126, 127, 128, 129, 130, 131, 132, 133, 134, 135, 136, 137, 138, 139, 140, 141, 142, 143, 144, 145, 146, 147, 148, 149, 150] [15] (Ann.seq (Ann.seq Ann.leaf (Ann.cond Ann.leaf Ann.leaf)) (Ann.seq (Ann.block (Ann.seq Ann.leaf (Ann.seq Ann.leaf (Ann.cond (Ann.seq Ann.leaf Ann.leaf) Ann.leaf)))) Ann.leaf)))))) Ann.leaf))))) (Ann.seq Ann.leaf Ann.leaf))))))
def F23_den (t0 : Value) (t1 : Value) (t2 : Value) (t3 : Value) (w : World) (R : Value → World → Prop) : Prop :=
  callD Tryd.prog 51 #[t0] w fun t20 w1 =>
  V Tryd.prog (Instr.extract t20 0) w1 fun t21 w2 =>
  V Tryd.prog (Instr.extract t20 1) w2 fun t22 w3 =>
  drawD w3 fun S2 w4 =>
  callD Tryd.prog 52 #[t0] w4 fun t24 w5 =>
  S2 w5 ∧
  yieldS Tryd.prog S2 (do eqGuard .eql 76 (Operand.tmp 24) (Operand.const (Value.pointer none)) t24 (Value.pointer none); binOp .eql 76 t24 (Value.pointer none)) fun t25 =>
  gdY t25 false (fun K => K t21) fun t27 =>
  gdY t25 false (fun K => yieldS Tryd.prog S2 (convert 40 9 t27) K) fun t28 =>
  gdY t25 false (fun K => K t1) fun t29 =>
  gdY t25 false (fun K => (Go.Vc.Safe (t29) ∧ K (t29))) fun t30 =>
  gdY t25 false (fun K => yieldS Tryd.prog S2 (Instr.fieldAt 63 t30 3) K) fun t31 =>
  gdY t25 false (fun K => yieldS Tryd.prog S2 (Instr.loadAt 40 t31) K) fun t32 =>
  gdY t25 false (fun K => yieldS Tryd.prog S2 (convert 40 9 t32) K) fun t33 =>
  gdY t25 false (fun K => yieldS Tryd.prog S2 (do eqGuard .neq 9 (Operand.tmp 28) (Operand.tmp 33) t28 t33; binOp .neq 9 t28 t33) K) fun t34 =>
  pickD t25 (Value.bool true) t34 fun t35 =>
  gdY t35 false (fun K => K t22) fun t37 =>
  gdY t35 false (fun K => yieldS Tryd.prog S2 (convert 40 9 t37) K) fun t38 =>
  gdY t35 false (fun K => K t1) fun t39 =>
  gdY t35 false (fun K => (Go.Vc.Safe (t39) ∧ K (t39))) fun t40 =>
  gdY t35 false (fun K => yieldS Tryd.prog S2 (Instr.fieldAt 63 t40 4) K) fun t41 =>
  gdY t35 false (fun K => yieldS Tryd.prog S2 (Instr.loadAt 40 t41) K) fun t42 =>
  gdY t35 false (fun K => yieldS Tryd.prog S2 (convert 40 9 t42) K) fun t43 =>
  gdY t35 false (fun K => yieldS Tryd.prog S2 (do eqGuard .neq 9 (Operand.tmp 38) (Operand.tmp 43) t38 t43; binOp .neq 9 t38 t43) K) fun t44 =>
  pickD t35 (Value.bool true) t44 fun t45 =>
  gdY t45 false (fun K => K t2) fun t47 =>
  gdY t45 false (fun K => K t3) fun t49 =>
  gdY t45 false (fun K => (Go.Vc.Safe (t49) ∧ K (t49))) fun t50 =>
  gdY t45 false (fun K => yieldS Tryd.prog S2 (Instr.fieldAt 57 t50 0) K) fun t51 =>
  gdY t45 false (fun K => yieldS Tryd.prog S2 (Instr.loadAt 55 t51) K) fun t52 =>
  gdY t45 false (fun K => yieldS Tryd.prog S2 (Builtin.len_ #[55] 3 #[t52]) K) fun t53 =>
  gd t45 false (fun K => callD Tryd.prog 53 #[t47] w5 K) w5 fun t48 w6 =>
  S2 w6 ∧
  gdY t45 false (fun K => yieldS Tryd.prog S2 (do eqGuard .neq 3 (Operand.tmp 48) (Operand.tmp 53) t48 t53; binOp .neq 3 t48 t53) K) fun t54 =>
  pickD t45 (Value.bool true) t54 fun t55 =>
  gdY t55 false (fun K => K t0) fun t57 =>
  gdY t55 false (fun K => K t1) fun t60 =>
  gdY t55 false (fun K => (Go.Vc.Safe (t60) ∧ K (t60))) fun t61 =>
  gdY t55 false (fun K => yieldS Tryd.prog S2 (Instr.fieldAt 63 t61 0) K) fun t62 =>
  gdY t55 false (fun K => yieldS Tryd.prog S2 (Instr.loadAt 59 t62) K) fun t63 =>
  gdY t55 false (fun K => (Go.Vc.Safe (t63) ∧ K (t63))) fun t64 =>
  gdY t55 false (fun K => yieldS Tryd.prog S2 (Instr.fieldAt 116 t64 1) K) fun t65 =>
  gdY t55 false (fun K => yieldS Tryd.prog S2 (Instr.loadAt 114 t65) K) fun t66 =>
  gdY t55 false (fun K => yieldS Tryd.prog S2 (Builtin.len_ #[114] 3 #[t66]) K) fun t67 =>
  gd t55 false (fun K => callD Tryd.prog 52 #[t57] w6 K) w6 fun t58 w7 =>
  S2 w7 ∧
  gd t55 false (fun K => callD Tryd.prog 54 #[t58] w7 K) w7 fun t59 w8 =>
  S2 w8 ∧
  gdY t55 false (fun K => yieldS Tryd.prog S2 (do eqGuard .neq 3 (Operand.tmp 59) (Operand.tmp 67) t59 t67; binOp .neq 3 t59 t67) K) fun t68 =>
  pickD t55 (Value.bool true) t68 fun t69 =>
  ifD t69 (
  R (Value.bool false) w8) (
  ∃ (I1 : NP 1) (μ1 : NF 1), I1 (Value.int IntKind.i64 0) w8 ∧
  ∀ (t11 : Value), ∀ w9 : World, I1 t11 w9 → ∀ _f : Env,
  Go.Vc.Safe (t1) ∧
  V Tryd.prog (Instr.fieldAt 63 t1 0) w9 fun t73 w11 =>
  V Tryd.prog (Instr.loadAt 59 t73) w11 fun t74 w12 =>
  Go.Vc.Safe (t74) ∧
  V Tryd.prog (Instr.fieldAt 116 t74 1) w12 fun t76 w14 =>
  V Tryd.prog (Instr.loadAt 114 t76) w14 fun t77 w15 =>
  V Tryd.prog (Builtin.len_ #[114] 3 #[t77]) w15 fun t78 w16 =>
  V Tryd.prog (binOp .lss 3 t11 t78) w16 fun t79 w17 =>
  ifD t79 (
  callD Tryd.prog 52 #[t0] w17 fun t84 w18 =>
  V Tryd.prog (binOp .add 3 t11 (Value.int IntKind.i64 1)) w18 fun t86 w19 =>
  callD Tryd.prog 55 #[t84, t86] w19 fun t87 w20 =>
  V Tryd.prog (Instr.extract t87 0) w20 fun t88 w21 =>
  V Tryd.prog (Instr.extract t87 1) w21 fun t89 w22 =>
  V Tryd.prog (Instr.alloc 105 true (.tuple #[])) w22 fun t12 w23 =>
  U Tryd.prog (Instr.storeAt 105 t12 t88) w23 fun _ w24 =>
  drawD w24 fun S8 w25 =>
  yieldS Tryd.prog S8 (Op.unary UnOp.not t89) fun t91 =>
  gdY t91 false (fun K => yieldS Tryd.prog S8 (Instr.loadAt 105 t12) K) fun t93 =>
  gdY t91 false (fun K => K t1) fun t94 =>
  gdY t91 false (fun K => (Go.Vc.Safe (t94) ∧ K (t94))) fun t95 =>
  gdY t91 false (fun K => yieldS Tryd.prog S8 (Instr.fieldAt 63 t95 0) K) fun t96 =>
  gdY t91 false (fun K => yieldS Tryd.prog S8 (Instr.loadAt 59 t96) K) fun t97 =>
  gdY t91 false (fun K => (Go.Vc.Safe (t97) ∧ K (t97))) fun t98 =>
  gdY t91 false (fun K => yieldS Tryd.prog S8 (Instr.fieldAt 116 t98 1) K) fun t99 =>
  gdY t91 false (fun K => yieldS Tryd.prog S8 (Instr.loadAt 114 t99) K) fun t100 =>
  gdY t91 false (fun K => K t11) fun t101 =>
  gdY t91 false (fun K => yieldS Tryd.prog S8 (Instr.indexAt 114 t100 t101) K) fun t102 =>
  gdY t91 false (fun K => yieldS Tryd.prog S8 (Instr.loadAt 105 t102) K) fun t103 =>
  gd t91 false (fun K => callD Tryd.prog 56 #[t93, t103] w25 K) w25 fun t104 w26 =>
  S8 w26 ∧
  gdY t91 false (fun K => yieldS Tryd.prog S8 (Op.unary UnOp.not t104) K) fun t105 =>
  pickD t91 (Value.bool true) t105 fun t106 =>
  ifD t106 (
  R (Value.bool false) w26) (
  V Tryd.prog (binOp .add 3 t11 (Value.int IntKind.i64 1)) w26 fun t81 w27 =>
  I1 t81 w27 ∧ μ1 t81 w27 < μ1 t11 w9)) (
  ∃ (I2 : NP 1) (μ2 : NF 1), I2 (Value.int IntKind.i64 0) w17 ∧
  ∀ (t14 : Value), ∀ w28 : World, I2 t14 w28 → ∀ _f : Env,
  Go.Vc.Safe (t1) ∧
  V Tryd.prog (Instr.fieldAt 63 t1 2) w28 fun t110 w30 =>
  V Tryd.prog (Instr.loadAt 61 t110) w30 fun t111 w31 =>
  V Tryd.prog (Builtin.len_ #[61] 3 #[t111]) w31 fun t112 w32 =>
  V Tryd.prog (binOp .lss 3 t14 t112) w32 fun t113 w33 =>
  ifD t113 (
  ∃ (I3 : NP 1) (μ3 : NF 1), I3 (Value.int IntKind.i64 0) w33 ∧
  ∀ (t15 : Value), ∀ w34 : World, I3 t15 w34 → ∀ _f : Env,
  Go.Vc.Safe (t1) ∧
  V Tryd.prog (Instr.fieldAt 63 t1 2) w34 fun t119 w36 =>
  V Tryd.prog (Instr.loadAt 61 t119) w36 fun t120 w37 =>
  V Tryd.prog (Instr.indexAt 61 t120 t14) w37 fun t122 w38 =>
  V Tryd.prog (Instr.loadAt 39 t122) w38 fun t123 w39 =>
  V Tryd.prog (Builtin.len_ #[39] 3 #[t123]) w39 fun t124 w40 =>
  V Tryd.prog (binOp .lss 3 t15 t124) w40 fun t125 w41 =>
  ifD t125 (
  callD Tryd.prog 11 #[t0, t14, t15] w41 fun t132 w42 =>
  V Tryd.prog (Instr.extract t132 0) w42 fun t133 w43 =>
  V Tryd.prog (Instr.extract t132 1) w43 fun t134 w44 =>
  V Tryd.prog (Op.unary UnOp.not t134) w44 fun t136 w45 =>
  gd t136 false (fun K => K t133 w45) w45 fun t138 w46 =>
  gd t136 false (fun K => K t1 w46) w46 fun t139 w47 =>
  gd t136 false (fun K => (Go.Vc.Safe (t139) ∧ K (t139) w47)) w47 fun t140 w48 =>
  gd t136 false (fun K => V Tryd.prog (Instr.fieldAt 63 t140 2) w48 K) w48 fun t141 w49 =>
  gd t136 false (fun K => V Tryd.prog (Instr.loadAt 61 t141) w49 K) w49 fun t142 w50 =>
  gd t136 false (fun K => K t14 w50) w50 fun t143 w51 =>
  gd t136 false (fun K => V Tryd.prog (Instr.indexAt 61 t142 t143) w51 K) w51 fun t144 w52 =>
  gd t136 false (fun K => V Tryd.prog (Instr.loadAt 39 t144) w52 K) w52 fun t145 w53 =>
  gd t136 false (fun K => K t15 w53) w53 fun t146 w54 =>
  gd t136 false (fun K => V Tryd.prog (Instr.indexAt 39 t145 t146) w54 K) w54 fun t147 w55 =>
  gd t136 false (fun K => V Tryd.prog (Instr.loadAt 21 t147) w55 K) w55 fun t148 w56 =>
  gd t136 false (fun K => V Tryd.prog (do eqGuard .neq 21 (Operand.tmp 138) (Operand.tmp 148) t138 t148; binOp .neq 21 t138 t148) w56 K) w56 fun t149 w57 =>
  pickD t136 (Value.bool true) t149 fun t150 =>
  ifD t150 (
  R (Value.bool false) w57) (
  V Tryd.prog (binOp .add 3 t15 (Value.int IntKind.i64 1)) w57 fun t127 w59 =>
  I3 t127 w59 ∧ μ3 t127 w59 < μ3 t15 w34)) (
  V Tryd.prog (binOp .add 3 t14 (Value.int IntKind.i64 1)) w41 fun t115 w60 =>
  I2 t115 w60 ∧ μ2 t115 w60 < μ2 t14 w28)) (
  R (Value.bool true) w33)))
theorem F23_eq (t0 : Value) (t1 : Value) (t2 : Value) (t3 : Value) (w : World) (R : Value → World → Prop) : F23_den t0 t1 t2 t3 w R = vc Tryd.prog F23_ann (Tryd.f23.body.getD .skip) (retE Tryd.prog Tryd.f23.results.toList R) (argEnv [t0, t1, t2, t3]) w := by kernel_rfl
theorem F23_wp {t0 : Value} {t1 : Value} {t2 : Value} {t3 : Value} {w : World} {R : Value → World → Prop} (h : F23_den t0 t1 t2 t3 w R) : callD Tryd.prog 23 #[t0, t1, t2, t3] w R :=
  callD.of_calls (fn := Tryd.f23) (c := Tryd.f23.body.getD .skip) Tryd.func23 (by kernel_rfl) (by kernel_rfl) (calls_of_vc (args := [t0, t1, t2, t3]) F23_ann mixed Tryd.func23 (by kernel_rfl) (by kernel_rfl) (F23_eq t0 t1 t2 t3 w R ▸ h))

/-- (*taciturn/leak.Trace).All -/
def F24_ann : Ann := (Ann.seq Ann.leaf (Ann.seq (Ann.seq Ann.leaf (Ann.cond (Ann.seq Ann.leaf Ann.leaf) Ann.leaf)) (Ann.seq Ann.leaf Ann.leaf)))
def F24_den (t0 : Value) (w : World) (R : Value → World → Prop) : Prop :=
  V Tryd.prog (do eqGuard .eql 50 (Operand.tmp 3) (Operand.const (Value.pointer none)) t0 (Value.pointer none); binOp .eql 50 t0 (Value.pointer none)) w fun t4 w1 =>
  ifD t4 (
  R (Value.slice none 0 0) w1) (
  Go.Vc.Safe (t0) ∧
  V Tryd.prog (Instr.fieldAt 91 t0 0) w1 fun t7 w3 =>
  V Tryd.prog (Instr.loadAt 55 t7) w3 fun t8 w4 =>
  callD Tryd.prog 57 #[t8] w4 fun t9 w5 =>
  R t9 w5)
theorem F24_eq (t0 : Value) (w : World) (R : Value → World → Prop) : F24_den t0 w R = vc Tryd.prog F24_ann (Tryd.f24.body.getD .skip) (retE Tryd.prog Tryd.f24.results.toList R) (argEnv [t0]) w := by kernel_rfl
theorem F24_wp {t0 : Value} {w : World} {R : Value → World → Prop} (h : F24_den t0 w R) : callD Tryd.prog 24 #[t0] w R :=
  callD.of_calls (fn := Tryd.f24) (c := Tryd.f24.body.getD .skip) Tryd.func24 (by kernel_rfl) (by kernel_rfl) (calls_of_vc (args := [t0]) F24_ann mixed Tryd.func24 (by kernel_rfl) (by kernel_rfl) (F24_eq t0 w R ▸ h))

/-- taciturn/heap.New -/
def F25_ann : Ann := (Ann.seq Ann.leaf (Ann.seq (Ann.seq Ann.leaf (Ann.cond (Ann.seq Ann.leaf Ann.leaf) Ann.leaf)) (Ann.seq Ann.leaf Ann.leaf)))
def F25_den (t0 : Value) (w : World) (R : Value → World → Prop) : Prop :=
  V Tryd.prog (binOp .lss 3 t0 (Value.int IntKind.i64 64)) w fun t5 w1 =>
  gd t5 false (fun K => K t0 w1) w1 fun t7 w2 =>
  gd t5 false (fun K => V Tryd.prog (binOp .gtr 3 t7 (Value.int IntKind.i64 4096)) w2 K) w2 fun t8 w3 =>
  pickD t5 (Value.bool true) t8 fun t9 =>
  ifD t9 (
  R (.tuple #[(Value.pointer none), (Value.int IntKind.i64 1)]) w3) (
  V Tryd.prog (Instr.build 105 #[(0, (Value.int IntKind.i64 (-1))), (1, (Value.int IntKind.i64 3))]) w3 fun t11 w5 =>
  V Tryd.prog (Instr.build 105 #[(0, (Value.int IntKind.i64 (-1))), (1, (Value.int IntKind.i64 4))]) w5 fun t12 w6 =>
  V Tryd.prog (Instr.buildSlice 114 2 #[(0, t11), (1, t12)]) w6 fun t13 w7 =>
  V Tryd.prog (Instr.build 120 #[(0, t0), (1, t13)]) w7 fun t14 w8 =>
  V Tryd.prog (Instr.box 120 t14) w8 fun t15 w9 =>
  R (.tuple #[t15, (Value.int IntKind.i64 0)]) w9)
theorem F25_eq (t0 : Value) (w : World) (R : Value → World → Prop) : F25_den t0 w R = vc Tryd.prog F25_ann (Tryd.f25.body.getD .skip) (retE Tryd.prog Tryd.f25.results.toList R) (argEnv [t0]) w := by kernel_rfl
theorem F25_wp {t0 : Value} {w : World} {R : Value → World → Prop} (h : F25_den t0 w R) : callD Tryd.prog 25 #[t0] w R :=
  callD.of_calls (fn := Tryd.f25) (c := Tryd.f25.body.getD .skip) Tryd.func25 (by kernel_rfl) (by kernel_rfl) (calls_of_vc (args := [t0]) F25_ann mixed Tryd.func25 (by kernel_rfl) (by kernel_rfl) (F25_eq t0 w R ▸ h))

/-- taciturn/taciturnref8.NewHeap -/
def F29_ann : Ann := (Ann.seq Ann.leaf (Ann.seq Ann.leaf Ann.leaf))
def F29_den (t0 : Value) (w : World) (R : Value → World → Prop) : Prop :=
  V Tryd.prog (Instr.build 105 #[(0, (Value.int IntKind.i64 (-1))), (1, (Value.int IntKind.i64 3))]) w fun t4 w1 =>
  V Tryd.prog (Instr.build 105 #[(0, (Value.int IntKind.i64 (-1))), (1, (Value.int IntKind.i64 4))]) w1 fun t5 w2 =>
  V Tryd.prog (Instr.buildSlice 114 2 #[(0, t4), (1, t5)]) w2 fun t6 w3 =>
  V Tryd.prog (Instr.build 116 #[(0, t0), (1, t6)]) w3 fun t7 w4 =>
  V Tryd.prog (Instr.box 116 t7) w4 fun t8 w5 =>
  R t8 w5
theorem F29_eq (t0 : Value) (w : World) (R : Value → World → Prop) : F29_den t0 w R = vc Tryd.prog F29_ann (Tryd.f29.body.getD .skip) (retE Tryd.prog Tryd.f29.results.toList R) (argEnv [t0]) w := by kernel_rfl
theorem F29_wp {t0 : Value} {w : World} {R : Value → World → Prop} (h : F29_den t0 w R) : callD Tryd.prog 29 #[t0] w R :=
  callD.of_calls (fn := Tryd.f29) (c := Tryd.f29.body.getD .skip) Tryd.func29 (by kernel_rfl) (by kernel_rfl) (calls_of_vc (args := [t0]) F29_ann mixed Tryd.func29 (by kernel_rfl) (by kernel_rfl) (F29_eq t0 w R ▸ h))

/-- (*taciturn/heap.Heap).SetBuffer -/
def F30_ann : Ann := (Ann.seq Ann.leaf (Ann.seq (Ann.seq Ann.leaf (Ann.cond (Ann.seq Ann.leaf Ann.leaf) Ann.leaf)) (Ann.seq Ann.leaf (Ann.seq Ann.leaf Ann.leaf))))
def F30_den (t0 : Value) (t1 : Value) (t2 : Value) (w : World) (R : Value → World → Prop) : Prop :=
  V Tryd.prog (do eqGuard .neq 3 (Operand.tmp 7) (Operand.const (Value.int IntKind.i64 1)) t1 (Value.int IntKind.i64 1); binOp .neq 3 t1 (Value.int IntKind.i64 1)) w fun t8 w1 =>
  gd t8 true (fun K => K t1 w1) w1 fun t10 w2 =>
  gd t8 true (fun K => V Tryd.prog (do eqGuard .neq 3 (Operand.tmp 10) (Operand.const (Value.int IntKind.i64 2)) t10 (Value.int IntKind.i64 2); binOp .neq 3 t10 (Value.int IntKind.i64 2)) w2 K) w2 fun t11 w3 =>
  pickD t8 t11 (Value.bool false) fun t12 =>
  gd t12 false (fun K => K t2 w3) w3 fun t14 w5 =>
  gd t12 false (fun K => V Tryd.prog (Builtin.len_ #[40] 3 #[t14]) w5 K) w5 fun t15 w6 =>
  gd t12 false (fun K => V Tryd.prog (binOp .gtr 3 t15 (Value.int IntKind.i64 64)) w6 K) w6 fun t16 w7 =>
  pickD t12 (Value.bool true) t16 fun t17 =>
  ifD t17 (
  R (Value.bool false) w7) (
  callD Tryd.prog 66 #[t0, t1] w7 fun t20 w9 =>
  callD Tryd.prog 65 #[t2] w9 fun t22 w10 =>
  Go.Vc.Safe (t20) ∧
  V Tryd.prog (Instr.fieldAt 105 t20 4) w10 fun t24 w12 =>
  U Tryd.prog (Instr.storeAt 40 t24 t22) w12 fun _ w13 =>
  R (Value.bool true) w13)
theorem F30_eq (t0 : Value) (t1 : Value) (t2 : Value) (w : World) (R : Value → World → Prop) : F30_den t0 t1 t2 w R = vc Tryd.prog F30_ann (Tryd.f30.body.getD .skip) (retE Tryd.prog Tryd.f30.results.toList R) (argEnv [t0, t1, t2]) w := by kernel_rfl
theorem F30_wp {t0 : Value} {t1 : Value} {t2 : Value} {w : World} {R : Value → World → Prop} (h : F30_den t0 t1 t2 w R) : callD Tryd.prog 30 #[t0, t1, t2] w R :=
  callD.of_calls (fn := Tryd.f30) (c := Tryd.f30.body.getD .skip) Tryd.func30 (by kernel_rfl) (by kernel_rfl) (calls_of_vc (args := [t0, t1, t2]) F30_ann mixed Tryd.func30 (by kernel_rfl) (by kernel_rfl) (F30_eq t0 t1 t2 w R ▸ h))

/-- (*taciturn/taciturnref8.Heap).SetBuffer -/
def F31_ann : Ann := (Ann.seq Ann.leaf (Ann.seq (Ann.seq Ann.leaf (Ann.cond (Ann.seq Ann.leaf Ann.leaf) Ann.leaf)) (Ann.seq Ann.leaf (Ann.seq Ann.leaf (Ann.seq Ann.leaf (Ann.seq Ann.leaf Ann.leaf))))))
def F31_den (t0 : Value) (t1 : Value) (t2 : Value) (w : World) (R : Value → World → Prop) : Prop :=
  V Tryd.prog (binOp .lss 3 t1 (Value.int IntKind.i64 1)) w fun t9 w1 =>
  gd t9 false (fun K => K t1 w1) w1 fun t11 w2 =>
  gd t9 false (fun K => V Tryd.prog (binOp .gtr 3 t11 (Value.int IntKind.i64 2)) w2 K) w2 fun t12 w3 =>
  pickD t9 (Value.bool true) t12 fun t13 =>
  gd t13 false (fun K => K t2 w3) w3 fun t15 w5 =>
  gd t13 false (fun K => V Tryd.prog (Builtin.len_ #[40] 3 #[t15]) w5 K) w5 fun t16 w6 =>
  gd t13 false (fun K => V Tryd.prog (binOp .gtr 3 t16 (Value.int IntKind.i64 64)) w6 K) w6 fun t17 w7 =>
  pickD t13 (Value.bool true) t17 fun t18 =>
  ifD t18 (
  R (Value.bool false) w7) (
  V Tryd.prog (Instr.buildSlice 114 0 #[]) w7 fun t19 w9 =>
  Go.Vc.Safe (t0) ∧
  V Tryd.prog (Instr.fieldAt 116 t0 1) w9 fun t22 w11 =>
  V Tryd.prog (Instr.loadAt 114 t22) w11 fun t23 w12 =>
  V Tryd.prog (Builtin.append_ #[114, 114] 114 #[t19, t23]) w12 fun t24 w13 =>
  V Tryd.prog (binOp .sub 3 t1 (Value.int IntKind.i64 1)) w13 fun t27 w14 =>
  V Tryd.prog (Instr.buildSlice 40 0 #[]) w14 fun t28 w15 =>
  V Tryd.prog (Builtin.append_ #[40, 40] 40 #[t28, t2]) w15 fun t30 w16 =>
  V Tryd.prog (Instr.indexAt 114 t24 t27) w16 fun t31 w17 =>
  V Tryd.prog (Instr.fieldAt 105 t31 4) w17 fun t32 w18 =>
  U Tryd.prog (Instr.storeAt 40 t32 t30) w18 fun _ w19 =>
  Go.Vc.Safe (t0) ∧
  V Tryd.prog (Instr.fieldAt 116 t0 1) w19 fun t36 w21 =>
  U Tryd.prog (Instr.storeAt 114 t36 t24) w21 fun _ w22 =>
  R (Value.bool true) w22)
theorem F31_eq (t0 : Value) (t1 : Value) (t2 : Value) (w : World) (R : Value → World → Prop) : F31_den t0 t1 t2 w R = vc Tryd.prog F31_ann (Tryd.f31.body.getD .skip) (retE Tryd.prog Tryd.f31.results.toList R) (argEnv [t0, t1, t2]) w := by kernel_rfl
theorem F31_wp {t0 : Value} {t1 : Value} {t2 : Value} {w : World} {R : Value → World → Prop} (h : F31_den t0 t1 t2 w R) : callD Tryd.prog 31 #[t0, t1, t2] w R :=
  callD.of_calls (fn := Tryd.f31) (c := Tryd.f31.body.getD .skip) Tryd.func31 (by kernel_rfl) (by kernel_rfl) (calls_of_vc (args := [t0, t1, t2]) F31_ann mixed Tryd.func31 (by kernel_rfl) (by kernel_rfl) (F31_eq t0 t1 t2 w R ▸ h))

/-- taciturn/room.Serves -/
def F32_ann : Ann := (Ann.seq Ann.leaf (Ann.seq (Ann.seq Ann.leaf (Ann.block (Ann.join [4, 5, 6] [4] (Ann.seq Ann.leaf (Ann.cond Ann.leaf Ann.leaf)) (Ann.cond (Ann.seq Ann.leaf Ann.leaf) (Ann.join [7, 8, 9, 10] [7] (Ann.seq Ann.leaf (Ann.cond Ann.leaf (Ann.seq Ann.leaf (Ann.cond Ann.leaf Ann.leaf)))) (Ann.cond (Ann.seq Ann.leaf Ann.leaf) (Ann.join [11, 12, 13] [11] (Ann.seq Ann.leaf (Ann.cond Ann.leaf Ann.leaf)) (Ann.cond (Ann.seq Ann.leaf Ann.leaf) (Ann.seq (Ann.seq Ann.leaf (Ann.cond Ann.leaf Ann.leaf)) (Ann.cond (Ann.seq Ann.leaf Ann.leaf) Ann.leaf)))))))))) (Ann.seq Ann.leaf Ann.leaf)))
def F32_den (t0 : Value) (w : World) (R : Value → World → Prop) : Prop :=
  ∃ J1 : NP 1,
  (V Tryd.prog (do eqGuard .eql 3 (Operand.tmp 3) (Operand.const (Value.int IntKind.i64 27)) t0 (Value.int IntKind.i64 27); binOp .eql 3 t0 (Value.int IntKind.i64 27)) w fun t5 w1 =>
  ifD t5 (
  J1 t5 w1) (
  V Tryd.prog (do eqGuard .eql 3 (Operand.tmp 3) (Operand.const (Value.int IntKind.i64 28)) t0 (Value.int IntKind.i64 28); binOp .eql 3 t0 (Value.int IntKind.i64 28)) w1 fun t6 w2 =>
  J1 t6 w2)) ∧
  ∀ (t4 : Value), ∀ w3 : World, J1 t4 w3 → ∀ _f : Env,
  ifD t4 (
  R (Value.int IntKind.i64 1) w3) (
  ∃ J2 : NP 1,
  (V Tryd.prog (do eqGuard .eql 3 (Operand.tmp 3) (Operand.const (Value.int IntKind.i64 17)) t0 (Value.int IntKind.i64 17); binOp .eql 3 t0 (Value.int IntKind.i64 17)) w3 fun t8 w4 =>
  ifD t8 (
  J2 t8 w4) (
  V Tryd.prog (do eqGuard .eql 3 (Operand.tmp 3) (Operand.const (Value.int IntKind.i64 18)) t0 (Value.int IntKind.i64 18); binOp .eql 3 t0 (Value.int IntKind.i64 18)) w4 fun t9 w5 =>
  ifD t9 (
  J2 t9 w5) (
  V Tryd.prog (do eqGuard .eql 3 (Operand.tmp 3) (Operand.const (Value.int IntKind.i64 29)) t0 (Value.int IntKind.i64 29); binOp .eql 3 t0 (Value.int IntKind.i64 29)) w5 fun t10 w6 =>
  J2 t10 w6))) ∧
  ∀ (t7 : Value), ∀ w7 : World, J2 t7 w7 → ∀ _f : Env,
  ifD t7 (
  R (Value.int IntKind.i64 2) w7) (
  ∃ J3 : NP 1,
  (V Tryd.prog (do eqGuard .eql 3 (Operand.tmp 3) (Operand.const (Value.int IntKind.i64 30)) t0 (Value.int IntKind.i64 30); binOp .eql 3 t0 (Value.int IntKind.i64 30)) w7 fun t12 w8 =>
  ifD t12 (
  J3 t12 w8) (
  V Tryd.prog (do eqGuard .eql 3 (Operand.tmp 3) (Operand.const (Value.int IntKind.i64 36)) t0 (Value.int IntKind.i64 36); binOp .eql 3 t0 (Value.int IntKind.i64 36)) w8 fun t13 w9 =>
  J3 t13 w9)) ∧
  ∀ (t11 : Value), ∀ w10 : World, J3 t11 w10 → ∀ _f : Env,
  ifD t11 (
  R (Value.int IntKind.i64 3) w10) (
  V Tryd.prog (do eqGuard .eql 3 (Operand.tmp 3) (Operand.const (Value.int IntKind.i64 31)) t0 (Value.int IntKind.i64 31); binOp .eql 3 t0 (Value.int IntKind.i64 31)) w10 fun t15 w11 =>
  ifD t15 (
  ifD t15 (
  R (Value.int IntKind.i64 5) w11) (
  R (Value.int IntKind.i64 (-1)) w11)) (
  V Tryd.prog (do eqGuard .eql 3 (Operand.tmp 3) (Operand.const (Value.int IntKind.i64 32)) t0 (Value.int IntKind.i64 32); binOp .eql 3 t0 (Value.int IntKind.i64 32)) w11 fun t16 w12 =>
  ifD t16 (
  R (Value.int IntKind.i64 5) w12) (
  R (Value.int IntKind.i64 (-1)) w12)))))
theorem F32_eq (t0 : Value) (w : World) (R : Value → World → Prop) : F32_den t0 w R = vc Tryd.prog F32_ann (Tryd.f32.body.getD .skip) (retE Tryd.prog Tryd.f32.results.toList R) (argEnv [t0]) w := by kernel_rfl
theorem F32_wp {t0 : Value} {w : World} {R : Value → World → Prop} (h : F32_den t0 w R) : callD Tryd.prog 32 #[t0] w R :=
  callD.of_calls (fn := Tryd.f32) (c := Tryd.f32.body.getD .skip) Tryd.func32 (by kernel_rfl) (by kernel_rfl) (calls_of_vc (args := [t0]) F32_ann mixed Tryd.func32 (by kernel_rfl) (by kernel_rfl) (F32_eq t0 w R ▸ h))

/-- taciturn/room.divided -/
def F33_ann : Ann := (Ann.seq Ann.leaf (Ann.seq (Ann.seq Ann.leaf (Ann.cond (Ann.seq Ann.leaf Ann.leaf) Ann.leaf)) (Ann.seq Ann.leaf Ann.leaf)))
def F33_den (t0 : Value) (t1 : Value) (w : World) (R : Value → World → Prop) : Prop :=
  V Tryd.prog (Op.unary UnOp.not t1) w fun t7 w1 =>
  ifD t7 (
  R (.tuple #[(Value.int IntKind.i32 0), (Value.int IntKind.i64 28419)]) w1) (
  R (.tuple #[t0, (Value.int IntKind.i64 36864)]) w1)
theorem F33_eq (t0 : Value) (t1 : Value) (w : World) (R : Value → World → Prop) : F33_den t0 t1 w R = vc Tryd.prog F33_ann (Tryd.f33.body.getD .skip) (retE Tryd.prog Tryd.f33.results.toList R) (argEnv [t0, t1]) w := by kernel_rfl
theorem F33_wp {t0 : Value} {t1 : Value} {w : World} {R : Value → World → Prop} (h : F33_den t0 t1 w R) : callD Tryd.prog 33 #[t0, t1] w R :=
  callD.of_calls (fn := Tryd.f33) (c := Tryd.f33.body.getD .skip) Tryd.func33 (by kernel_rfl) (by kernel_rfl) (calls_of_vc (args := [t0, t1]) F33_ann mixed Tryd.func33 (by kernel_rfl) (by kernel_rfl) (F33_eq t0 t1 w R ▸ h))

/-- taciturn/word.Div -/
def F34_ann : Ann := (Ann.seq Ann.leaf (Ann.seq (Ann.seq Ann.leaf (Ann.cond (Ann.seq Ann.leaf Ann.leaf) Ann.leaf)) (Ann.seq Ann.leaf Ann.leaf)))
def F34_den (t0 : Value) (t1 : Value) (w : World) (R : Value → World → Prop) : Prop :=
  V Tryd.prog (do eqGuard .eql 21 (Operand.tmp 6) (Operand.const (Value.int IntKind.i32 0)) t1 (Value.int IntKind.i32 0); binOp .eql 21 t1 (Value.int IntKind.i32 0)) w fun t7 w1 =>
  ifD t7 (
  R (.tuple #[(Value.int IntKind.i32 0), (Value.bool false)]) w1) (
  V Tryd.prog (convert 21 2 t0) w1 fun t9 w2 =>
  V Tryd.prog (convert 21 2 t1) w2 fun t11 w3 =>
  V Tryd.prog (binOp .quo 2 t9 t11) w3 fun t12 w4 =>
  V Tryd.prog (convert 2 21 t12) w4 fun t13 w5 =>
  R (.tuple #[t13, (Value.bool true)]) w5)
theorem F34_eq (t0 : Value) (t1 : Value) (w : World) (R : Value → World → Prop) : F34_den t0 t1 w R = vc Tryd.prog F34_ann (Tryd.f34.body.getD .skip) (retE Tryd.prog Tryd.f34.results.toList R) (argEnv [t0, t1]) w := by kernel_rfl
theorem F34_wp {t0 : Value} {t1 : Value} {w : World} {R : Value → World → Prop} (h : F34_den t0 t1 w R) : callD Tryd.prog 34 #[t0, t1] w R :=
  callD.of_calls (fn := Tryd.f34) (c := Tryd.f34.body.getD .skip) Tryd.func34 (by kernel_rfl) (by kernel_rfl) (calls_of_vc (args := [t0, t1]) F34_ann mixed Tryd.func34 (by kernel_rfl) (by kernel_rfl) (F34_eq t0 t1 w R ▸ h))

/-- taciturn/word.Rem -/
def F35_ann : Ann := (Ann.seq Ann.leaf (Ann.seq (Ann.seq Ann.leaf (Ann.cond (Ann.seq Ann.leaf Ann.leaf) Ann.leaf)) (Ann.seq Ann.leaf Ann.leaf)))
def F35_den (t0 : Value) (t1 : Value) (w : World) (R : Value → World → Prop) : Prop :=
  V Tryd.prog (do eqGuard .eql 21 (Operand.tmp 6) (Operand.const (Value.int IntKind.i32 0)) t1 (Value.int IntKind.i32 0); binOp .eql 21 t1 (Value.int IntKind.i32 0)) w fun t7 w1 =>
  ifD t7 (
  R (.tuple #[(Value.int IntKind.i32 0), (Value.bool false)]) w1) (
  V Tryd.prog (convert 21 2 t0) w1 fun t9 w2 =>
  V Tryd.prog (convert 21 2 t1) w2 fun t11 w3 =>
  V Tryd.prog (binOp .rem 2 t9 t11) w3 fun t12 w4 =>
  V Tryd.prog (convert 2 21 t12) w4 fun t13 w5 =>
  R (.tuple #[t13, (Value.bool true)]) w5)
theorem F35_eq (t0 : Value) (t1 : Value) (w : World) (R : Value → World → Prop) : F35_den t0 t1 w R = vc Tryd.prog F35_ann (Tryd.f35.body.getD .skip) (retE Tryd.prog Tryd.f35.results.toList R) (argEnv [t0, t1]) w := by kernel_rfl
theorem F35_wp {t0 : Value} {t1 : Value} {w : World} {R : Value → World → Prop} (h : F35_den t0 t1 w R) : callD Tryd.prog 35 #[t0, t1] w R :=
  callD.of_calls (fn := Tryd.f35) (c := Tryd.f35.body.getD .skip) Tryd.func35 (by kernel_rfl) (by kernel_rfl) (calls_of_vc (args := [t0, t1]) F35_ann mixed Tryd.func35 (by kernel_rfl) (by kernel_rfl) (F35_eq t0 t1 w R ▸ h))

/-- (taciturn/room.service).make -/
def F36_ann : Ann := (Ann.seq Ann.leaf (Ann.seq Ann.leaf (Ann.seq Ann.leaf (Ann.seq (Ann.seq Ann.leaf (Ann.cond (Ann.seq Ann.leaf Ann.leaf) Ann.leaf)) (Ann.seq (Ann.draw [0, 1, 2, 4, 8, 0, 32, 0, 128, 0, 512, 1024, 0, 4096, 8192, 0, 51536, 65536, 131072, 131072, 524287, 2097151] [0, 1, 2, 4, 8, 0, 32, 0, 128, 0, 512, 1024, 0, 4096, 8192, 0, 51536, 65536, 131072, 131072, 262144, 524288] 0 22 4194303 (.take 0 (.take 1 (.take 2 (.take 3 (.take 4 (.take 5 (.take 6 (.take 7 (.take 8 (.take 9 (.take 10 (.take 11 (.take 12 (.take 13 (.take 14 (.take 15 (.only 16 (.take 17 (.take 18 (.take 19 (.take 20 (.take 21 .done))))))))))))))))))))))) (Ann.seq (Ann.seq Ann.leaf (Ann.cond (Ann.seq Ann.leaf Ann.leaf) Ann.leaf)) (Ann.seq Ann.leaf Ann.leaf)))))))
def F36_den (t0 : Value) (w : World) (R : Value → World → Prop) : Prop :=
  V Tryd.prog (Instr.box 95 t0) w fun t1 w1 =>
  V Tryd.prog (Instr.fieldAt 95 t1 5) w1 fun t7 w2 =>
  V Tryd.prog (Instr.loadAt 32 t7) w2 fun t8 w3 =>
  V Tryd.prog (Instr.indexAt 32 t8 (Value.int IntKind.i64 0)) w3 fun t9 w4 =>
  V Tryd.prog (Instr.loadAt 3 t9) w4 fun t10 w5 =>
  V Tryd.prog (Instr.loadAt 95 t1) w5 fun t11 w6 =>
  V Tryd.prog (Instr.fieldAt 95 t1 3) w6 fun t12 w7 =>
  V Tryd.prog (Instr.loadAt 3 t12) w7 fun t13 w8 =>
  V Tryd.prog (Instr.fieldAt 95 t1 4) w8 fun t14 w9 =>
  V Tryd.prog (Instr.loadAt 3 t14) w9 fun t15 w10 =>
  callD Tryd.prog 67 #[t11, (Value.int IntKind.i64 3), t13, t15, t10] w10 fun t17 w11 =>
  V Tryd.prog (binOp .lss 3 t10 (Value.int IntKind.i64 0)) w11 fun t19 w12 =>
  gd t19 false (fun K => K t10 w12) w12 fun t21 w13 =>
  gd t19 false (fun K => V Tryd.prog (binOp .gtr 3 t21 (Value.int IntKind.i64 64)) w13 K) w13 fun t22 w14 =>
  pickD t19 (Value.bool true) t22 fun t23 =>
  ifD t23 (
  R (.tuple #[(Value.int IntKind.i32 0), (Value.int IntKind.i64 28425)]) w14) (
  drawD w14 fun S5 w16 =>
  yieldS Tryd.prog S5 (Instr.fieldAt 95 t1 0) fun t25 =>
  yieldS Tryd.prog S5 (Instr.loadAt 23 t25) fun t26 =>
  Go.Vc.Safe (t26) ∧
  yieldS Tryd.prog S5 (Instr.fieldAt 80 t26 0) fun t28 =>
  yieldS Tryd.prog S5 (Instr.loadAt 76 t28) fun t29 =>
  yieldS Tryd.prog S5 (Instr.fieldAt 95 t1 2) fun t30 =>
  yieldS Tryd.prog S5 (Instr.loadAt 3 t30) fun t31 =>
  yieldS Tryd.prog S5 (Instr.fieldAt 95 t1 3) fun t32 =>
  yieldS Tryd.prog S5 (Instr.loadAt 3 t32) fun t33 =>
  yieldS Tryd.prog S5 (Instr.fieldAt 95 t1 4) fun t34 =>
  yieldS Tryd.prog S5 (Instr.loadAt 3 t34) fun t35 =>
  yieldS Tryd.prog S5 (binOp .and 3 t35 (Value.int IntKind.i64 3)) fun t36 =>
  yieldS Tryd.prog S5 (Instr.fieldAt 95 t1 4) fun t37 =>
  yieldS Tryd.prog S5 (Instr.loadAt 3 t37) fun t38 =>
  yieldS Tryd.prog S5 (binOp .geq 3 t38 (Value.int IntKind.i64 4)) fun t39 =>
  callD Tryd.prog 68 #[t29, t31, t33, t36, t39, t10] w16 fun t41 w17 =>
  S5 w17 ∧
  yieldS Tryd.prog S5 (Instr.extract t41 0) fun t42 =>
  yieldS Tryd.prog S5 (Instr.extract t41 1) fun t43 =>
  V Tryd.prog (Op.unary UnOp.not t43) w17 fun t45 w18 =>
  ifD t45 (
  R (.tuple #[(Value.int IntKind.i32 0), (Value.int IntKind.i64 28421)]) w18) (
  V Tryd.prog (convert 3 21 t42) w18 fun t47 w19 =>
  R (.tuple #[t47, (Value.int IntKind.i64 36864)]) w19))
theorem F36_eq (t0 : Value) (w : World) (R : Value → World → Prop) : F36_den t0 w R = vc Tryd.prog F36_ann (Tryd.f36.body.getD .skip) (retE Tryd.prog Tryd.f36.results.toList R) (argEnv [t0]) w := by kernel_rfl
theorem F36_wp {t0 : Value} {w : World} {R : Value → World → Prop} (h : F36_den t0 w R) : callD Tryd.prog 36 #[t0] w R :=
  callD.of_calls (fn := Tryd.f36) (c := Tryd.f36.body.getD .skip) Tryd.func36 (by kernel_rfl) (by kernel_rfl) (calls_of_vc (args := [t0]) F36_ann mixed Tryd.func36 (by kernel_rfl) (by kernel_rfl) (F36_eq t0 w R ▸ h))

/-- (taciturn/room.service).length -/
def F37_ann : Ann := (Ann.seq Ann.leaf (Ann.seq Ann.leaf (Ann.seq Ann.leaf (Ann.seq (Ann.seq (Ann.draw [0, 1, 2, 4, 8, 0, 0, 64, 176, 511] [0, 1, 2, 4, 8, 0, 0, 64, 176, 256] 0 10 1023 (.take 0 (.take 1 (.take 2 (.take 3 (.take 4 (.take 5 (.take 6 (.take 7 (.only 8 (.take 9 .done))))))))))) (Ann.seq Ann.leaf (Ann.cond (Ann.seq Ann.leaf Ann.leaf) Ann.leaf))) (Ann.seq Ann.leaf (Ann.seq Ann.leaf Ann.leaf))))))
def F37_den (t0 : Value) (w : World) (R : Value → World → Prop) : Prop :=
  V Tryd.prog (Instr.box 95 t0) w fun t1 w1 =>
  V Tryd.prog (Instr.fieldAt 95 t1 5) w1 fun t8 w2 =>
  V Tryd.prog (Instr.loadAt 32 t8) w2 fun t9 w3 =>
  V Tryd.prog (Instr.indexAt 32 t9 (Value.int IntKind.i64 0)) w3 fun t10 w4 =>
  V Tryd.prog (Instr.loadAt 3 t10) w4 fun t11 w5 =>
  V Tryd.prog (Instr.loadAt 95 t1) w5 fun t12 w6 =>
  callD Tryd.prog 69 #[t12, t11, (Value.int IntKind.i64 0), (Value.int IntKind.i64 0)] w6 fun t14 w7 =>
  drawD w7 fun S3 w8 =>
  yieldS Tryd.prog S3 (Instr.fieldAt 95 t1 0) fun t15 =>
  yieldS Tryd.prog S3 (Instr.loadAt 23 t15) fun t16 =>
  Go.Vc.Safe (t16) ∧
  yieldS Tryd.prog S3 (Instr.fieldAt 80 t16 0) fun t18 =>
  yieldS Tryd.prog S3 (Instr.loadAt 76 t18) fun t19 =>
  yieldS Tryd.prog S3 (Instr.fieldAt 95 t1 2) fun t21 =>
  yieldS Tryd.prog S3 (Instr.loadAt 3 t21) fun t22 =>
  callD Tryd.prog 70 #[t19, t11, t22] w8 fun t23 w9 =>
  S3 w9 ∧
  V Tryd.prog (do eqGuard .neq 3 (Operand.tmp 24) (Operand.const (Value.int IntKind.i64 36864)) t23 (Value.int IntKind.i64 36864); binOp .neq 3 t23 (Value.int IntKind.i64 36864)) w9 fun t25 w10 =>
  ifD t25 (
  R (.tuple #[(Value.int IntKind.i32 0), t23]) w10) (
  V Tryd.prog (Instr.fieldAt 95 t1 0) w10 fun t28 w11 =>
  V Tryd.prog (Instr.loadAt 23 t28) w11 fun t29 w12 =>
  Go.Vc.Safe (t29) ∧
  V Tryd.prog (Instr.fieldAt 80 t29 0) w12 fun t31 w14 =>
  V Tryd.prog (Instr.loadAt 76 t31) w14 fun t32 w15 =>
  callD Tryd.prog 55 #[t32, t11] w15 fun t34 w16 =>
  V Tryd.prog (Instr.extract t34 0) w16 fun t35 w17 =>
  V Tryd.prog (Instr.extract t34 1) w17 fun t36 w18 =>
  V Tryd.prog (Instr.alloc 105 true (.tuple #[])) w18 fun t6 w19 =>
  U Tryd.prog (Instr.storeAt 105 t6 t35) w19 fun _ w20 =>
  V Tryd.prog (Instr.fieldAt 105 t6 4) w20 fun t37 w21 =>
  V Tryd.prog (Instr.loadAt 40 t37) w21 fun t38 w22 =>
  V Tryd.prog (Builtin.len_ #[40] 3 #[t38]) w22 fun t39 w23 =>
  V Tryd.prog (convert 3 21 t39) w23 fun t40 w24 =>
  R (.tuple #[t40, (Value.int IntKind.i64 36864)]) w24)
theorem F37_eq (t0 : Value) (w : World) (R : Value → World → Prop) : F37_den t0 w R = vc Tryd.prog F37_ann (Tryd.f37.body.getD .skip) (retE Tryd.prog Tryd.f37.results.toList R) (argEnv [t0]) w := by kernel_rfl
theorem F37_wp {t0 : Value} {w : World} {R : Value → World → Prop} (h : F37_den t0 w R) : callD Tryd.prog 37 #[t0] w R :=
  callD.of_calls (fn := Tryd.f37) (c := Tryd.f37.body.getD .skip) Tryd.func37 (by kernel_rfl) (by kernel_rfl) (calls_of_vc (args := [t0]) F37_ann mixed Tryd.func37 (by kernel_rfl) (by kernel_rfl) (F37_eq t0 w R ▸ h))

/-- (taciturn/room.service).get -/
def F38_ann : Ann := (Ann.seq Ann.leaf (Ann.seq (Ann.draw [0, 1, 2, 4, 0, 16, 32, 64, 15, 511] [0, 1, 2, 4, 0, 16, 32, 64, 8, 128] 0 10 1023 (.take 0 (.take 1 (.take 2 (.take 3 (.take 4 (.take 5 (.take 6 (.take 7 (.take 8 (.take 9 .done))))))))))) (Ann.seq Ann.leaf (Ann.seq (Ann.seq Ann.leaf (Ann.seq Ann.leaf (Ann.cond (Ann.seq Ann.leaf Ann.leaf) Ann.leaf))) (Ann.seq Ann.leaf (Ann.seq Ann.leaf Ann.leaf))))))
def F38_den (t0 : Value) (w : World) (R : Value → World → Prop) : Prop :=
  V Tryd.prog (Instr.box 95 t0) w fun t1 w1 =>
  drawD w1 fun S1 w2 =>
  yieldS Tryd.prog S1 (Instr.fieldAt 95 t1 5) fun t9 =>
  yieldS Tryd.prog S1 (Instr.loadAt 32 t9) fun t10 =>
  yieldS Tryd.prog S1 (Instr.indexAt 32 t10 (Value.int IntKind.i64 0)) fun t11 =>
  yieldS Tryd.prog S1 (Instr.loadAt 3 t11) fun t12 =>
  yieldS Tryd.prog S1 (Instr.fieldAt 95 t1 5) fun t13 =>
  yieldS Tryd.prog S1 (Instr.loadAt 32 t13) fun t14 =>
  yieldS Tryd.prog S1 (Instr.indexAt 32 t14 (Value.int IntKind.i64 1)) fun t15 =>
  yieldS Tryd.prog S1 (Instr.loadAt 3 t15) fun t16 =>
  V Tryd.prog (Instr.loadAt 95 t1) w2 fun t17 w3 =>
  callD Tryd.prog 69 #[t17, t12, t16, (Value.int IntKind.i64 1)] w3 fun t20 w4 =>
  V Tryd.prog (Instr.loadAt 95 t1) w4 fun t21 w5 =>
  callD Tryd.prog 71 #[t21, t12, t16, (Value.int IntKind.i64 1)] w5 fun t24 w6 =>
  V Tryd.prog (do eqGuard .neq 3 (Operand.tmp 25) (Operand.const (Value.int IntKind.i64 36864)) t24 (Value.int IntKind.i64 36864); binOp .neq 3 t24 (Value.int IntKind.i64 36864)) w6 fun t26 w7 =>
  ifD t26 (
  R (.tuple #[(Value.int IntKind.i32 0), t24]) w7) (
  V Tryd.prog (Instr.fieldAt 95 t1 0) w7 fun t29 w8 =>
  V Tryd.prog (Instr.loadAt 23 t29) w8 fun t30 w9 =>
  Go.Vc.Safe (t30) ∧
  V Tryd.prog (Instr.fieldAt 80 t30 0) w9 fun t32 w11 =>
  V Tryd.prog (Instr.loadAt 76 t32) w11 fun t33 w12 =>
  callD Tryd.prog 72 #[t33, t12, t16] w12 fun t36 w13 =>
  V Tryd.prog (Instr.extract t36 0) w13 fun t37 w14 =>
  V Tryd.prog (Instr.extract t36 1) w14 fun t38 w15 =>
  V Tryd.prog (convert 5 21 t37) w15 fun t40 w16 =>
  R (.tuple #[t40, (Value.int IntKind.i64 36864)]) w16)
theorem F38_eq (t0 : Value) (w : World) (R : Value → World → Prop) : F38_den t0 w R = vc Tryd.prog F38_ann (Tryd.f38.body.getD .skip) (retE Tryd.prog Tryd.f38.results.toList R) (argEnv [t0]) w := by kernel_rfl
theorem F38_wp {t0 : Value} {w : World} {R : Value → World → Prop} (h : F38_den t0 w R) : callD Tryd.prog 38 #[t0] w R :=
  callD.of_calls (fn := Tryd.f38) (c := Tryd.f38.body.getD .skip) Tryd.func38 (by kernel_rfl) (by kernel_rfl) (calls_of_vc (args := [t0]) F38_ann mixed Tryd.func38 (by kernel_rfl) (by kernel_rfl) (F38_eq t0 w R ▸ h))

/-- (taciturn/room.service).put -/
def F39_ann : Ann := (Ann.seq Ann.leaf (Ann.seq (Ann.draw [0, 1, 2, 4, 0, 16, 32, 64, 15, 511] [0, 1, 2, 4, 0, 16, 32, 64, 8, 128] 0 10 1023 (.take 0 (.take 1 (.take 2 (.take 3 (.take 4 (.take 5 (.take 6 (.take 7 (.take 8 (.take 9 .done))))))))))) (Ann.seq Ann.leaf (Ann.seq (Ann.seq Ann.leaf (Ann.seq Ann.leaf (Ann.cond (Ann.seq Ann.leaf Ann.leaf) Ann.leaf))) (Ann.seq (Ann.draw [0, 1, 2, 4, 8, 0, 0, 0, 128, 256, 512, 1024, 2160] [0, 1, 2, 4, 8, 0, 0, 0, 128, 256, 512, 1024, 2160] 0 13 8191 (.take 0 (.take 1 (.take 2 (.take 3 (.take 4 (.take 5 (.take 6 (.take 7 (.take 8 (.take 9 (.take 10 (.take 11 (.only 12 .done)))))))))))))) (Ann.seq Ann.leaf Ann.leaf))))))
def F39_den (t0 : Value) (w : World) (R : Value → World → Prop) : Prop :=
  V Tryd.prog (Instr.box 95 t0) w fun t1 w1 =>
  drawD w1 fun S1 w2 =>
  yieldS Tryd.prog S1 (Instr.fieldAt 95 t1 5) fun t7 =>
  yieldS Tryd.prog S1 (Instr.loadAt 32 t7) fun t8 =>
  yieldS Tryd.prog S1 (Instr.indexAt 32 t8 (Value.int IntKind.i64 0)) fun t9 =>
  yieldS Tryd.prog S1 (Instr.loadAt 3 t9) fun t10 =>
  yieldS Tryd.prog S1 (Instr.fieldAt 95 t1 5) fun t11 =>
  yieldS Tryd.prog S1 (Instr.loadAt 32 t11) fun t12 =>
  yieldS Tryd.prog S1 (Instr.indexAt 32 t12 (Value.int IntKind.i64 1)) fun t13 =>
  yieldS Tryd.prog S1 (Instr.loadAt 3 t13) fun t14 =>
  V Tryd.prog (Instr.loadAt 95 t1) w2 fun t15 w3 =>
  callD Tryd.prog 69 #[t15, t10, t14, (Value.int IntKind.i64 1)] w3 fun t18 w4 =>
  V Tryd.prog (Instr.loadAt 95 t1) w4 fun t19 w5 =>
  callD Tryd.prog 71 #[t19, t10, t14, (Value.int IntKind.i64 1)] w5 fun t22 w6 =>
  V Tryd.prog (do eqGuard .neq 3 (Operand.tmp 23) (Operand.const (Value.int IntKind.i64 36864)) t22 (Value.int IntKind.i64 36864); binOp .neq 3 t22 (Value.int IntKind.i64 36864)) w6 fun t24 w7 =>
  ifD t24 (
  R (.tuple #[(Value.int IntKind.i32 0), t22]) w7) (
  drawD w7 fun S6 w8 =>
  yieldS Tryd.prog S6 (Instr.fieldAt 95 t1 0) fun t26 =>
  yieldS Tryd.prog S6 (Instr.loadAt 23 t26) fun t27 =>
  Go.Vc.Safe (t27) ∧
  yieldS Tryd.prog S6 (Instr.fieldAt 80 t27 0) fun t29 =>
  yieldS Tryd.prog S6 (Instr.loadAt 76 t29) fun t30 =>
  yieldS Tryd.prog S6 (Instr.fieldAt 95 t1 5) fun t33 =>
  yieldS Tryd.prog S6 (Instr.loadAt 32 t33) fun t34 =>
  yieldS Tryd.prog S6 (Instr.indexAt 32 t34 (Value.int IntKind.i64 2)) fun t35 =>
  yieldS Tryd.prog S6 (Instr.loadAt 3 t35) fun t36 =>
  yieldS Tryd.prog S6 (convert 3 5 t36) fun t37 =>
  callD Tryd.prog 73 #[t30, t10, t14, t37] w8 fun t38 w9 =>
  S6 w9 ∧
  R (.tuple #[(Value.int IntKind.i32 0), (Value.int IntKind.i64 36864)]) w9)
theorem F39_eq (t0 : Value) (w : World) (R : Value → World → Prop) : F39_den t0 w R = vc Tryd.prog F39_ann (Tryd.f39.body.getD .skip) (retE Tryd.prog Tryd.f39.results.toList R) (argEnv [t0]) w := by kernel_rfl
theorem F39_wp {t0 : Value} {w : World} {R : Value → World → Prop} (h : F39_den t0 w R) : callD Tryd.prog 39 #[t0] w R :=
  callD.of_calls (fn := Tryd.f39) (c := Tryd.f39.body.getD .skip) Tryd.func39 (by kernel_rfl) (by kernel_rfl) (calls_of_vc (args := [t0]) F39_ann mixed Tryd.func39 (by kernel_rfl) (by kernel_rfl) (F39_eq t0 w R ▸ h))

/-- (taciturn/room.service).copy -/
def F40_ann : Ann := (Ann.seq Ann.leaf (Ann.seq (Ann.seq Ann.leaf (Ann.seq Ann.leaf (Ann.cond (Ann.seq Ann.leaf Ann.leaf) Ann.leaf))) (Ann.seq Ann.leaf (Ann.seq (Ann.seq (Ann.draw [0, 0, 2, 4, 0, 16, 32, 0, 128, 256, 585, 1024, 0] [0, 0, 2, 4, 0, 16, 32, 0, 128, 256, 585, 1024, 0] 0 13 8191 (.take 0 (.take 1 (.take 2 (.take 3 (.take 4 (.take 5 (.take 6 (.take 7 (.take 8 (.take 9 (.take 12 (.only 10 (.take 11 .done)))))))))))))) (Ann.block (Ann.loop [6, 7, 27, 28, 29, 30, 31, 32, 33, 34, 35, 36, 37, 38, 39, 40, 41, 42, 43, 44, 45, 46, 47] [27] (Ann.seq Ann.leaf (Ann.seq (Ann.cond Ann.leaf Ann.leaf) (Ann.seq (Ann.block (Ann.seq Ann.leaf (Ann.draw [0, 1, 2, 4, 8, 0, 32, 64, 0, 256, 512, 0, 3072, 0, 12432] [0, 1, 2, 4, 8, 0, 32, 64, 0, 256, 512, 0, 3072, 0, 12432] 0 15 32767 (.take 0 (.take 1 (.take 2 (.take 3 (.take 4 (.take 5 (.take 6 (.take 7 (.take 8 (.take 9 (.take 10 (.take 11 (.take 12 (.take 13 (.only 14 .done)))))))))))))))))) Ann.leaf)))))) (Ann.seq Ann.leaf Ann.leaf)))))
def F40_den (t0 : Value) (w : World) (R : Value → World → Prop) : Prop :=
  V Tryd.prog (Instr.box 95 t0) w fun t1 w1 =>
  V Tryd.prog (Instr.loadAt 95 t1) w1 fun t8 w2 =>
  callD Tryd.prog 74 #[t8] w2 fun t9 w3 =>
  V Tryd.prog (do eqGuard .neq 3 (Operand.tmp 10) (Operand.const (Value.int IntKind.i64 36864)) t9 (Value.int IntKind.i64 36864); binOp .neq 3 t9 (Value.int IntKind.i64 36864)) w3 fun t11 w4 =>
  ifD t11 (
  R (.tuple #[(Value.int IntKind.i32 0), t9]) w4) (
  V Tryd.prog (Instr.fieldAt 95 t1 5) w4 fun t13 w5 =>
  V Tryd.prog (Instr.loadAt 32 t13) w5 fun t14 w6 =>
  drawD w6 fun S5 w7 =>
  yieldS Tryd.prog S5 (Instr.loadAt 95 t1) fun t15 =>
  yieldS Tryd.prog S5 (Instr.indexAt 32 t14 (Value.int IntKind.i64 2)) fun t17 =>
  yieldS Tryd.prog S5 (Instr.loadAt 3 t17) fun t18 =>
  yieldS Tryd.prog S5 (Instr.indexAt 32 t14 (Value.int IntKind.i64 3)) fun t20 =>
  yieldS Tryd.prog S5 (Instr.loadAt 3 t20) fun t21 =>
  yieldS Tryd.prog S5 (Instr.indexAt 32 t14 (Value.int IntKind.i64 4)) fun t23 =>
  yieldS Tryd.prog S5 (Instr.loadAt 3 t23) fun t24 =>
  callD Tryd.prog 75 #[t15, t18, t21, t24] w7 fun t25 w8 =>
  S5 w8 ∧
  yieldS Tryd.prog S5 (Builtin.len_ #[40] 3 #[t25]) fun t26 =>
  ∃ (I1 : NP 1) (μ1 : NF 1), I1 (Value.int IntKind.i64 0) w8 ∧
  ∀ (t27 : Value), ∀ w9 : World, I1 t27 w9 → ∀ _f : Env,
  V Tryd.prog (binOp .lss 3 t27 t26) w9 fun t28 w10 =>
  ifD t28 (
  V Tryd.prog (Instr.indexAt 40 t25 t27) w10 fun t30 w11 =>
  V Tryd.prog (Instr.loadAt 5 t30) w11 fun t31 w12 =>
  drawD w12 fun S8 w13 =>
  yieldS Tryd.prog S8 (Instr.fieldAt 95 t1 0) fun t32 =>
  yieldS Tryd.prog S8 (Instr.loadAt 23 t32) fun t33 =>
  Go.Vc.Safe (t33) ∧
  yieldS Tryd.prog S8 (Instr.fieldAt 80 t33 0) fun t35 =>
  yieldS Tryd.prog S8 (Instr.loadAt 76 t35) fun t36 =>
  yieldS Tryd.prog S8 (Instr.indexAt 32 t14 (Value.int IntKind.i64 0)) fun t38 =>
  yieldS Tryd.prog S8 (Instr.loadAt 3 t38) fun t39 =>
  yieldS Tryd.prog S8 (Instr.indexAt 32 t14 (Value.int IntKind.i64 1)) fun t41 =>
  yieldS Tryd.prog S8 (Instr.loadAt 3 t41) fun t42 =>
  yieldS Tryd.prog S8 (binOp .add 3 t42 t27) fun t44 =>
  callD Tryd.prog 73 #[t36, t39, t44, t31] w13 fun t46 w14 =>
  S8 w14 ∧
  V Tryd.prog (binOp .add 3 t27 (Value.int IntKind.i64 1)) w14 fun t47 w15 =>
  I1 t47 w15 ∧ μ1 t47 w15 < μ1 t27 w9) (
  R (.tuple #[(Value.int IntKind.i32 0), (Value.int IntKind.i64 36864)]) w10))
theorem F40_eq (t0 : Value) (w : World) (R : Value → World → Prop) : F40_den t0 w R = vc Tryd.prog F40_ann (Tryd.f40.body.getD .skip) (retE Tryd.prog Tryd.f40.results.toList R) (argEnv [t0]) w := by kernel_rfl
theorem F40_wp {t0 : Value} {w : World} {R : Value → World → Prop} (h : F40_den t0 w R) : callD Tryd.prog 40 #[t0] w R :=
  callD.of_calls (fn := Tryd.f40) (c := Tryd.f40.body.getD .skip) Tryd.func40 (by kernel_rfl) (by kernel_rfl) (calls_of_vc (args := [t0]) F40_ann mixed Tryd.func40 (by kernel_rfl) (by kernel_rfl) (F40_eq t0 w R ▸ h))

/-- (taciturn/room.service).same -/
def F41_ann : Ann := (Ann.seq Ann.leaf (Ann.seq (Ann.seq Ann.leaf (Ann.seq Ann.leaf (Ann.cond (Ann.seq Ann.leaf Ann.leaf) Ann.leaf))) (Ann.seq Ann.leaf (Ann.seq (Ann.draw [0, 0, 2, 4, 0, 16, 32, 0, 128, 256, 585, 0, 0, 4096, 8192, 0, 32768, 65536, 0, 262144, 524288, 1199104, 2098176, 8388607, 16777215] [0, 0, 2, 4, 0, 16, 32, 0, 128, 256, 585, 0, 0, 4096, 8192, 0, 32768, 65536, 0, 262144, 524288, 1198080, 2098176, 4194304, 0] 0 25 33554431 (.take 0 (.take 1 (.take 2 (.take 3 (.take 4 (.take 5 (.take 6 (.take 7 (.take 8 (.take 9 (.take 11 (.take 12 (.take 13 (.take 14 (.take 15 (.take 16 (.take 17 (.take 18 (.take 19 (.take 20 (.only 10 (.only 21 (.only 22 (.take 23 (.take 24 .done)))))))))))))))))))))))))) Ann.leaf))))
def F41_den (t0 : Value) (w : World) (R : Value → World → Prop) : Prop :=
  V Tryd.prog (Instr.box 95 t0) w fun t1 w1 =>
  V Tryd.prog (Instr.loadAt 95 t1) w1 fun t6 w2 =>
  callD Tryd.prog 74 #[t6] w2 fun t7 w3 =>
  V Tryd.prog (do eqGuard .neq 3 (Operand.tmp 8) (Operand.const (Value.int IntKind.i64 36864)) t7 (Value.int IntKind.i64 36864); binOp .neq 3 t7 (Value.int IntKind.i64 36864)) w3 fun t9 w4 =>
  ifD t9 (
  R (.tuple #[(Value.int IntKind.i32 0), t7]) w4) (
  V Tryd.prog (Instr.fieldAt 95 t1 5) w4 fun t11 w5 =>
  V Tryd.prog (Instr.loadAt 32 t11) w5 fun t12 w6 =>
  drawD w6 fun S5 w7 =>
  yieldS Tryd.prog S5 (Instr.loadAt 95 t1) fun t13 =>
  yieldS Tryd.prog S5 (Instr.indexAt 32 t12 (Value.int IntKind.i64 0)) fun t15 =>
  yieldS Tryd.prog S5 (Instr.loadAt 3 t15) fun t16 =>
  yieldS Tryd.prog S5 (Instr.indexAt 32 t12 (Value.int IntKind.i64 1)) fun t18 =>
  yieldS Tryd.prog S5 (Instr.loadAt 3 t18) fun t19 =>
  yieldS Tryd.prog S5 (Instr.indexAt 32 t12 (Value.int IntKind.i64 4)) fun t21 =>
  yieldS Tryd.prog S5 (Instr.loadAt 3 t21) fun t22 =>
  yieldS Tryd.prog S5 (Instr.loadAt 95 t1) fun t24 =>
  yieldS Tryd.prog S5 (Instr.indexAt 32 t12 (Value.int IntKind.i64 2)) fun t26 =>
  yieldS Tryd.prog S5 (Instr.loadAt 3 t26) fun t27 =>
  yieldS Tryd.prog S5 (Instr.indexAt 32 t12 (Value.int IntKind.i64 3)) fun t29 =>
  yieldS Tryd.prog S5 (Instr.loadAt 3 t29) fun t30 =>
  yieldS Tryd.prog S5 (Instr.indexAt 32 t12 (Value.int IntKind.i64 4)) fun t32 =>
  yieldS Tryd.prog S5 (Instr.loadAt 3 t32) fun t33 =>
  callD Tryd.prog 75 #[t13, t16, t19, t22] w7 fun t23 w8 =>
  S5 w8 ∧
  callD Tryd.prog 75 #[t24, t27, t30, t33] w8 fun t34 w9 =>
  S5 w9 ∧
  callD Tryd.prog 76 #[t23, t34] w9 fun t35 w10 =>
  S5 w10 ∧
  R (.tuple #[t35, (Value.int IntKind.i64 36864)]) w10)
theorem F41_eq (t0 : Value) (w : World) (R : Value → World → Prop) : F41_den t0 w R = vc Tryd.prog F41_ann (Tryd.f41.body.getD .skip) (retE Tryd.prog Tryd.f41.results.toList R) (argEnv [t0]) w := by kernel_rfl
theorem F41_wp {t0 : Value} {w : World} {R : Value → World → Prop} (h : F41_den t0 w R) : callD Tryd.prog 41 #[t0] w R :=
  callD.of_calls (fn := Tryd.f41) (c := Tryd.f41.body.getD .skip) Tryd.func41 (by kernel_rfl) (by kernel_rfl) (calls_of_vc (args := [t0]) F41_ann mixed Tryd.func41 (by kernel_rfl) (by kernel_rfl) (F41_eq t0 w R ▸ h))

/-- (taciturn/room.service).send -/
def F42_ann : Ann := (Ann.seq Ann.leaf (Ann.seq (Ann.draw [0, 1, 2, 4, 0, 16, 32, 64, 0, 256, 512, 1024, 15, 4351, 16383] [0, 1, 2, 4, 0, 16, 32, 64, 0, 256, 512, 1024, 8, 128, 2048] 0 15 32767 (.take 0 (.take 1 (.take 2 (.take 3 (.take 4 (.take 5 (.take 6 (.take 7 (.take 8 (.take 9 (.take 10 (.take 11 (.take 12 (.take 13 (.take 14 .done)))))))))))))))) (Ann.seq Ann.leaf (Ann.seq (Ann.seq Ann.leaf (Ann.seq Ann.leaf (Ann.cond (Ann.seq Ann.leaf Ann.leaf) Ann.leaf))) (Ann.seq Ann.leaf (Ann.join [8, 38, 39, 40, 41, 42, 43, 44] [8] (Ann.seq Ann.leaf (Ann.cond Ann.leaf Ann.leaf)) (Ann.seq (Ann.seq Ann.leaf (Ann.cond (Ann.seq Ann.leaf Ann.leaf) Ann.leaf)) (Ann.seq (Ann.draw [0, 0, 2, 4, 0, 0, 0, 0, 240, 264, 1023, 2047] [0, 0, 2, 4, 0, 0, 0, 0, 240, 264, 1, 1536] 0 11 2047 (.take 0 (.take 1 (.take 2 (.take 3 (.take 4 (.take 5 (.take 6 (.take 7 (.only 8 (.only 9 (.take 10 (.last 11))))))))))))) (Ann.seq Ann.leaf Ann.leaf)))))))))
def F42_den (t0 : Value) (w : World) (R : Value → World → Prop) : Prop :=
  V Tryd.prog (Instr.box 95 t0) w fun t1 w1 =>
  drawD w1 fun S1 w2 =>
  yieldS Tryd.prog S1 (Instr.fieldAt 95 t1 5) fun t9 =>
  yieldS Tryd.prog S1 (Instr.loadAt 32 t9) fun t10 =>
  yieldS Tryd.prog S1 (Instr.indexAt 32 t10 (Value.int IntKind.i64 0)) fun t11 =>
  yieldS Tryd.prog S1 (Instr.loadAt 3 t11) fun t12 =>
  yieldS Tryd.prog S1 (Instr.fieldAt 95 t1 5) fun t13 =>
  yieldS Tryd.prog S1 (Instr.loadAt 32 t13) fun t14 =>
  yieldS Tryd.prog S1 (Instr.indexAt 32 t14 (Value.int IntKind.i64 1)) fun t15 =>
  yieldS Tryd.prog S1 (Instr.loadAt 3 t15) fun t16 =>
  yieldS Tryd.prog S1 (Instr.fieldAt 95 t1 5) fun t17 =>
  yieldS Tryd.prog S1 (Instr.loadAt 32 t17) fun t18 =>
  yieldS Tryd.prog S1 (Instr.indexAt 32 t18 (Value.int IntKind.i64 2)) fun t19 =>
  yieldS Tryd.prog S1 (Instr.loadAt 3 t19) fun t20 =>
  V Tryd.prog (Instr.loadAt 95 t1) w2 fun t21 w3 =>
  callD Tryd.prog 69 #[t21, t12, t16, t20] w3 fun t25 w4 =>
  V Tryd.prog (Instr.loadAt 95 t1) w4 fun t26 w5 =>
  callD Tryd.prog 71 #[t26, t12, t16, t20] w5 fun t30 w6 =>
  V Tryd.prog (do eqGuard .neq 3 (Operand.tmp 31) (Operand.const (Value.int IntKind.i64 36864)) t30 (Value.int IntKind.i64 36864); binOp .neq 3 t30 (Value.int IntKind.i64 36864)) w6 fun t32 w7 =>
  ifD t32 (
  R (.tuple #[(Value.int IntKind.i32 0), t30]) w7) (
  V Tryd.prog (Instr.fieldAt 95 t1 0) w7 fun t34 w8 =>
  V Tryd.prog (Instr.loadAt 23 t34) w8 fun t35 w9 =>
  Go.Vc.Safe (t35) ∧
  V Tryd.prog (Instr.fieldAt 80 t35 3) w9 fun t37 w11 =>
  ∃ J1 : NP 1,
  (V Tryd.prog (Instr.fieldAt 95 t1 3) w11 fun t38 w12 =>
  V Tryd.prog (Instr.loadAt 3 t38) w12 fun t39 w13 =>
  V Tryd.prog (do eqGuard .neq 3 (Operand.tmp 39) (Operand.const (Value.int IntKind.i64 1)) t39 (Value.int IntKind.i64 1); binOp .neq 3 t39 (Value.int IntKind.i64 1)) w13 fun t40 w14 =>
  ifD t40 (
  V Tryd.prog (Instr.fieldAt 95 t1 0) w14 fun t41 w15 =>
  V Tryd.prog (Instr.loadAt 23 t41) w15 fun t42 w16 =>
  Go.Vc.Safe (t42) ∧
  V Tryd.prog (Instr.fieldAt 80 t42 4) w16 fun t44 w18 =>
  J1 t44 w18) (
  J1 t37 w14)) ∧
  ∀ (t8 : Value), ∀ w19 : World, J1 t8 w19 → ∀ _f : Env,
  Go.Vc.Safe (t8) ∧
  V Tryd.prog (Instr.loadAt 40 t8) w19 fun t47 w21 =>
  V Tryd.prog (Builtin.len_ #[40] 3 #[t47]) w21 fun t48 w22 =>
  V Tryd.prog (binOp .add 3 t48 t20) w22 fun t50 w23 =>
  V Tryd.prog (binOp .gtr 3 t50 (Value.int IntKind.i64 128)) w23 fun t51 w24 =>
  ifD t51 (
  R (.tuple #[(Value.int IntKind.i32 0), (Value.int IntKind.i64 28425)]) w24) (
  drawD w24 fun S11 w25 =>
  Go.Vc.Safe (t8) ∧
  yieldS Tryd.prog S11 (Instr.loadAt 40 t8) fun t55 =>
  yieldS Tryd.prog S11 (Instr.loadAt 95 t1) fun t56 =>
  callD Tryd.prog 75 #[t56, t12, t16, t20] w25 fun t60 w26 =>
  S11 w26 ∧
  V Tryd.prog (Builtin.append_ #[40, 40] 40 #[t55, t60]) w26 fun t61 w27 =>
  S11 w27 ∧
  Go.Vc.Safe (t8) ∧
  U Tryd.prog (Instr.storeAt 40 t8 t61) w27 fun _ w28 =>
  R (.tuple #[(Value.int IntKind.i32 0), (Value.int IntKind.i64 36864)]) w28))
theorem F42_eq (t0 : Value) (w : World) (R : Value → World → Prop) : F42_den t0 w R = vc Tryd.prog F42_ann (Tryd.f42.body.getD .skip) (retE Tryd.prog Tryd.f42.results.toList R) (argEnv [t0]) w := by kernel_rfl
theorem F42_wp {t0 : Value} {w : World} {R : Value → World → Prop} (h : F42_den t0 w R) : callD Tryd.prog 42 #[t0] w R :=
  callD.of_calls (fn := Tryd.f42) (c := Tryd.f42.body.getD .skip) Tryd.func42 (by kernel_rfl) (by kernel_rfl) (calls_of_vc (args := [t0]) F42_ann mixed Tryd.func42 (by kernel_rfl) (by kernel_rfl) (F42_eq t0 w R ▸ h))

/-- taciturn/taciturnref8.shows -/
def F43_ann : Ann := (Ann.seq Ann.leaf (Ann.seq (Ann.seq Ann.leaf (Ann.block (Ann.seq Ann.leaf (Ann.cond (Ann.seq Ann.leaf Ann.leaf) (Ann.seq Ann.leaf (Ann.cond (Ann.seq Ann.leaf Ann.leaf) (Ann.join [26, 27, 28] [26] (Ann.seq Ann.leaf (Ann.cond Ann.leaf Ann.leaf)) (Ann.cond (Ann.seq (Ann.draw [0, 1, 2, 0, 8, 16, 36, 64, 255] [0, 1, 2, 0, 8, 16, 36, 64, 128] 0 9 511 (.take 0 (.take 1 (.take 2 (.take 3 (.take 4 (.take 5 (.take 6 (.only 7 (.take 8 .done)))))))))) Ann.leaf) (Ann.join [37, 38, 39] [37] (Ann.seq Ann.leaf (Ann.cond Ann.leaf Ann.leaf)) (Ann.cond (Ann.seq (Ann.draw [0, 1, 2, 0, 8, 16, 0, 64, 128, 292, 0, 1024, 2048, 0, 8192, 16384, 0, 65536, 131072, 299008, 524800, 2097151] [0, 1, 2, 0, 8, 16, 0, 64, 128, 292, 0, 1024, 2048, 0, 8192, 16384, 0, 65536, 131072, 299008, 524800, 1048576] 0 22 4194303 (.take 0 (.take 1 (.take 2 (.take 3 (.take 4 (.take 5 (.take 6 (.take 7 (.take 8 (.take 9 (.take 10 (.take 11 (.take 12 (.take 13 (.take 14 (.take 15 (.take 16 (.take 17 (.take 18 (.take 19 (.only 20 (.take 21 .done))))))))))))))))))))))) Ann.leaf) (Ann.seq Ann.leaf (Ann.cond (Ann.seq (Ann.draw [0, 1, 2, 0, 8, 16, 0, 64, 128, 292, 512, 2047] [0, 1, 2, 0, 8, 16, 0, 64, 128, 292, 512, 1024] 0 12 4095 (.take 0 (.take 1 (.take 2 (.take 3 (.take 4 (.take 5 (.take 6 (.take 7 (.take 8 (.take 9 (.only 10 (.take 11 .done))))))))))))) Ann.leaf) Ann.leaf)))))))))))) (Ann.seq Ann.leaf Ann.leaf)))
def F43_den (t0 : Value) (t1 : Value) (t2 : Value) (t3 : Value) (w : World) (R : Value → World → Prop) : Prop :=
  V Tryd.prog (do eqGuard .eql 3 (Operand.tmp 9) (Operand.const (Value.int IntKind.i64 27)) t0 (Value.int IntKind.i64 27); binOp .eql 3 t0 (Value.int IntKind.i64 27)) w fun t11 w1 =>
  ifD t11 (
  V Tryd.prog (Instr.indexAt 32 t3 (Value.int IntKind.i64 0)) w1 fun t15 w2 =>
  V Tryd.prog (Instr.loadAt 3 t15) w2 fun t16 w3 =>
  V Tryd.prog (Instr.build 74 #[(0, (Value.int IntKind.i64 3)), (1, t1), (2, t2), (3, t16)]) w3 fun t17 w4 =>
  V Tryd.prog (Instr.buildSlice 55 1 #[(0, t17)]) w4 fun t18 w5 =>
  R t18 w5) (
  V Tryd.prog (do eqGuard .eql 3 (Operand.tmp 9) (Operand.const (Value.int IntKind.i64 28)) t0 (Value.int IntKind.i64 28); binOp .eql 3 t0 (Value.int IntKind.i64 28)) w1 fun t20 w6 =>
  ifD t20 (
  V Tryd.prog (Instr.indexAt 32 t3 (Value.int IntKind.i64 0)) w6 fun t22 w7 =>
  V Tryd.prog (Instr.loadAt 3 t22) w7 fun t23 w8 =>
  V Tryd.prog (Instr.build 74 #[(0, (Value.int IntKind.i64 2)), (1, t23)]) w8 fun t24 w9 =>
  V Tryd.prog (Instr.buildSlice 55 1 #[(0, t24)]) w9 fun t25 w10 =>
  R t25 w10) (
  ∃ J1 : NP 1,
  (V Tryd.prog (do eqGuard .eql 3 (Operand.tmp 9) (Operand.const (Value.int IntKind.i64 29)) t0 (Value.int IntKind.i64 29); binOp .eql 3 t0 (Value.int IntKind.i64 29)) w6 fun t27 w11 =>
  ifD t27 (
  J1 t27 w11) (
  V Tryd.prog (do eqGuard .eql 3 (Operand.tmp 9) (Operand.const (Value.int IntKind.i64 30)) t0 (Value.int IntKind.i64 30); binOp .eql 3 t0 (Value.int IntKind.i64 30)) w11 fun t28 w12 =>
  J1 t28 w12)) ∧
  ∀ (t26 : Value), ∀ w13 : World, J1 t26 w13 → ∀ _f : Env,
  ifD t26 (
  drawD w13 fun S8 w14 =>
  yieldS Tryd.prog S8 (Instr.indexAt 32 t3 (Value.int IntKind.i64 0)) fun t30 =>
  yieldS Tryd.prog S8 (Instr.loadAt 3 t30) fun t31 =>
  yieldS Tryd.prog S8 (Instr.indexAt 32 t3 (Value.int IntKind.i64 1)) fun t33 =>
  yieldS Tryd.prog S8 (Instr.loadAt 3 t33) fun t34 =>
  yieldS Tryd.prog S8 (Instr.build 74 #[(0, (Value.int IntKind.i64 2)), (1, t31), (2, t34), (3, (Value.int IntKind.i64 1))]) fun t35 =>
  V Tryd.prog (Instr.buildSlice 55 1 #[(0, t35)]) w14 fun t36 w15 =>
  S8 w15 ∧
  R t36 w15) (
  ∃ J2 : NP 1,
  (V Tryd.prog (do eqGuard .eql 3 (Operand.tmp 9) (Operand.const (Value.int IntKind.i64 31)) t0 (Value.int IntKind.i64 31); binOp .eql 3 t0 (Value.int IntKind.i64 31)) w13 fun t38 w16 =>
  ifD t38 (
  J2 t38 w16) (
  V Tryd.prog (do eqGuard .eql 3 (Operand.tmp 9) (Operand.const (Value.int IntKind.i64 32)) t0 (Value.int IntKind.i64 32); binOp .eql 3 t0 (Value.int IntKind.i64 32)) w16 fun t39 w17 =>
  J2 t39 w17)) ∧
  ∀ (t37 : Value), ∀ w18 : World, J2 t37 w18 → ∀ _f : Env,
  ifD t37 (
  drawD w18 fun S11 w19 =>
  yieldS Tryd.prog S11 (Instr.indexAt 32 t3 (Value.int IntKind.i64 0)) fun t41 =>
  yieldS Tryd.prog S11 (Instr.loadAt 3 t41) fun t42 =>
  yieldS Tryd.prog S11 (Instr.indexAt 32 t3 (Value.int IntKind.i64 1)) fun t44 =>
  yieldS Tryd.prog S11 (Instr.loadAt 3 t44) fun t45 =>
  yieldS Tryd.prog S11 (Instr.indexAt 32 t3 (Value.int IntKind.i64 4)) fun t47 =>
  yieldS Tryd.prog S11 (Instr.loadAt 3 t47) fun t48 =>
  yieldS Tryd.prog S11 (Instr.build 74 #[(0, (Value.int IntKind.i64 2)), (1, t42), (2, t45), (3, t48)]) fun t49 =>
  yieldS Tryd.prog S11 (Instr.indexAt 32 t3 (Value.int IntKind.i64 2)) fun t51 =>
  yieldS Tryd.prog S11 (Instr.loadAt 3 t51) fun t52 =>
  yieldS Tryd.prog S11 (Instr.indexAt 32 t3 (Value.int IntKind.i64 3)) fun t54 =>
  yieldS Tryd.prog S11 (Instr.loadAt 3 t54) fun t55 =>
  yieldS Tryd.prog S11 (Instr.indexAt 32 t3 (Value.int IntKind.i64 4)) fun t57 =>
  yieldS Tryd.prog S11 (Instr.loadAt 3 t57) fun t58 =>
  yieldS Tryd.prog S11 (Instr.build 74 #[(0, (Value.int IntKind.i64 2)), (1, t52), (2, t55), (3, t58)]) fun t59 =>
  V Tryd.prog (Instr.buildSlice 55 2 #[(0, t49), (1, t59)]) w19 fun t60 w20 =>
  S11 w20 ∧
  R t60 w20) (
  V Tryd.prog (do eqGuard .eql 3 (Operand.tmp 9) (Operand.const (Value.int IntKind.i64 36)) t0 (Value.int IntKind.i64 36); binOp .eql 3 t0 (Value.int IntKind.i64 36)) w18 fun t62 w21 =>
  ifD t62 (
  drawD w21 fun S13 w22 =>
  yieldS Tryd.prog S13 (Instr.indexAt 32 t3 (Value.int IntKind.i64 0)) fun t64 =>
  yieldS Tryd.prog S13 (Instr.loadAt 3 t64) fun t65 =>
  yieldS Tryd.prog S13 (Instr.indexAt 32 t3 (Value.int IntKind.i64 1)) fun t67 =>
  yieldS Tryd.prog S13 (Instr.loadAt 3 t67) fun t68 =>
  yieldS Tryd.prog S13 (Instr.indexAt 32 t3 (Value.int IntKind.i64 2)) fun t70 =>
  yieldS Tryd.prog S13 (Instr.loadAt 3 t70) fun t71 =>
  yieldS Tryd.prog S13 (Instr.build 74 #[(0, (Value.int IntKind.i64 2)), (1, t65), (2, t68), (3, t71)]) fun t72 =>
  V Tryd.prog (Instr.buildSlice 55 1 #[(0, t72)]) w22 fun t73 w23 =>
  S13 w23 ∧
  R t73 w23) (
  R (Value.slice none 0 0) w21)))))
theorem F43_eq (t0 : Value) (t1 : Value) (t2 : Value) (t3 : Value) (w : World) (R : Value → World → Prop) : F43_den t0 t1 t2 t3 w R = vc Tryd.prog F43_ann (Tryd.f43.body.getD .skip) (retE Tryd.prog Tryd.f43.results.toList R) (argEnv [t0, t1, t2, t3]) w := by kernel_rfl
theorem F43_wp {t0 : Value} {t1 : Value} {t2 : Value} {t3 : Value} {w : World} {R : Value → World → Prop} (h : F43_den t0 t1 t2 t3 w R) : callD Tryd.prog 43 #[t0, t1, t2, t3] w R :=
  callD.of_calls (fn := Tryd.f43) (c := Tryd.f43.body.getD .skip) Tryd.func43 (by kernel_rfl) (by kernel_rfl) (calls_of_vc (args := [t0, t1, t2, t3]) F43_ann mixed Tryd.func43 (by kernel_rfl) (by kernel_rfl) (F43_eq t0 t1 t2 t3 w R ▸ h))

/-- (*taciturn/taciturnref8.Trace).Add -/
def F44_ann : Ann := (Ann.seq Ann.leaf (Ann.seq Ann.leaf (Ann.cond (Ann.draw [0, 0, 2, 4, 8, 0, 32, 80, 255, 511, 767] [0, 0, 2, 4, 8, 0, 32, 80, 1, 256, 640] 0 10 1023 (.take 0 (.take 1 (.take 2 (.take 3 (.take 4 (.take 5 (.only 6 (.only 7 (.take 8 (.take 9 (.last 10)))))))))))) Ann.leaf)))
def F44_den (t0 : Value) (t1 : Value) (w : World) (R : Value → World → Prop) : Prop :=
  V Tryd.prog (Instr.box 74 t1) w fun t3 w1 =>
  V Tryd.prog (do eqGuard .neq 54 (Operand.tmp 4) (Operand.const (Value.pointer none)) t0 (Value.pointer none); binOp .neq 54 t0 (Value.pointer none)) w1 fun t5 w2 =>
  gd t5 true (fun K => K t0 w2) w2 fun t7 w3 =>
  gd t5 true (fun K => (Go.Vc.Safe (t7) ∧ K (t7) w3)) w3 fun t8 w4 =>
  gd t5 true (fun K => V Tryd.prog (Instr.fieldAt 57 t8 0) w4 K) w4 fun t9 w5 =>
  gd t5 true (fun K => V Tryd.prog (Instr.loadAt 55 t9) w5 K) w5 fun t10 w6 =>
  gd t5 true (fun K => V Tryd.prog (Builtin.len_ #[55] 3 #[t10]) w6 K) w6 fun t11 w7 =>
  gd t5 true (fun K => V Tryd.prog (binOp .lss 3 t11 (Value.int IntKind.i64 200000)) w7 K) w7 fun t12 w8 =>
  pickD t5 t12 (Value.bool false) fun t13 =>
  ifD t13 (
  drawD w8 fun S2 w10 =>
  Go.Vc.Safe (t0) ∧
  yieldS Tryd.prog S2 (Instr.fieldAt 57 t0 0) fun t17 =>
  yieldS Tryd.prog S2 (Instr.loadAt 55 t17) fun t18 =>
  yieldS Tryd.prog S2 (Instr.loadAt 74 t3) fun t19 =>
  V Tryd.prog (Instr.buildSlice 55 1 #[(0, t19)]) w10 fun t20 w11 =>
  S2 w11 ∧
  V Tryd.prog (Builtin.append_ #[55, 55] 55 #[t18, t20]) w11 fun t21 w12 =>
  S2 w12 ∧
  Go.Vc.Safe (t0) ∧
  yieldS Tryd.prog S2 (Instr.fieldAt 57 t0 0) fun t23 =>
  U Tryd.prog (Instr.storeAt 55 t23 t21) w12 fun _ w13 =>
  R (.tuple #[]) w13) (
  R (.tuple #[]) w8)
theorem F44_eq (t0 : Value) (t1 : Value) (w : World) (R : Value → World → Prop) : F44_den t0 t1 w R = vc Tryd.prog F44_ann (Tryd.f44.body.getD .skip) (retE Tryd.prog Tryd.f44.results.toList R) (argEnv [t0, t1]) w := by kernel_rfl
theorem F44_wp {t0 : Value} {t1 : Value} {w : World} {R : Value → World → Prop} (h : F44_den t0 t1 w R) : callD Tryd.prog 44 #[t0, t1] w R :=
  callD.of_calls (fn := Tryd.f44) (c := Tryd.f44.body.getD .skip) Tryd.func44 (by kernel_rfl) (by kernel_rfl) (calls_of_vc (args := [t0, t1]) F44_ann mixed Tryd.func44 (by kernel_rfl) (by kernel_rfl) (F44_eq t0 t1 w R ▸ h))

/-- taciturn/taciturnref1.Do -/
def F45_ann : Ann := (Ann.seq Ann.leaf (Ann.seq (Ann.seq Ann.leaf (Ann.block (Ann.seq Ann.leaf (Ann.cond (Ann.seq Ann.leaf Ann.leaf) (Ann.seq Ann.leaf (Ann.cond (Ann.seq Ann.leaf Ann.leaf) (Ann.seq Ann.leaf (Ann.cond (Ann.seq Ann.leaf Ann.leaf) (Ann.seq Ann.leaf (Ann.cond (Ann.seq Ann.leaf Ann.leaf) (Ann.seq Ann.leaf (Ann.cond (Ann.seq Ann.leaf Ann.leaf) (Ann.seq Ann.leaf (Ann.cond (Ann.seq Ann.leaf Ann.leaf) (Ann.seq Ann.leaf (Ann.cond (Ann.seq Ann.leaf Ann.leaf) (Ann.seq Ann.leaf (Ann.cond (Ann.seq Ann.leaf Ann.leaf) (Ann.seq Ann.leaf (Ann.cond (Ann.seq Ann.leaf Ann.leaf) (Ann.seq Ann.leaf (Ann.cond (Ann.seq Ann.leaf Ann.leaf) (Ann.seq Ann.leaf (Ann.cond (Ann.seq Ann.leaf Ann.leaf) (Ann.seq Ann.leaf (Ann.cond (Ann.seq Ann.leaf Ann.leaf) (Ann.seq Ann.leaf (Ann.cond (Ann.seq (Ann.seq Ann.leaf (Ann.cond (Ann.seq Ann.leaf Ann.leaf) Ann.leaf)) (Ann.seq Ann.leaf Ann.leaf)) (Ann.seq Ann.leaf (Ann.cond (Ann.seq (Ann.seq Ann.leaf (Ann.cond (Ann.seq Ann.leaf Ann.leaf) Ann.leaf)) (Ann.seq Ann.leaf Ann.leaf)) Ann.leaf)))))))))))))))))))))))))))))) (Ann.seq Ann.leaf Ann.leaf)))
def F45_den (t0 : Value) (t1 : Value) (t2 : Value) (w : World) (R : Value → World → Prop) : Prop :=
  V Tryd.prog (do eqGuard .eql 3 (Operand.tmp 7) (Operand.const (Value.int IntKind.i64 6)) t0 (Value.int IntKind.i64 6); binOp .eql 3 t0 (Value.int IntKind.i64 6)) w fun t9 w1 =>
  ifD t9 (
  V Tryd.prog (binOp .add 21 t1 t2) w1 fun t12 w2 =>
  R t12 w2) (
  V Tryd.prog (do eqGuard .eql 3 (Operand.tmp 7) (Operand.const (Value.int IntKind.i64 7)) t0 (Value.int IntKind.i64 7); binOp .eql 3 t0 (Value.int IntKind.i64 7)) w1 fun t14 w3 =>
  ifD t14 (
  V Tryd.prog (binOp .sub 21 t1 t2) w3 fun t17 w4 =>
  R t17 w4) (
  V Tryd.prog (do eqGuard .eql 3 (Operand.tmp 7) (Operand.const (Value.int IntKind.i64 8)) t0 (Value.int IntKind.i64 8); binOp .eql 3 t0 (Value.int IntKind.i64 8)) w3 fun t19 w5 =>
  ifD t19 (
  V Tryd.prog (binOp .mul 21 t1 t2) w5 fun t22 w6 =>
  R t22 w6) (
  V Tryd.prog (do eqGuard .eql 3 (Operand.tmp 7) (Operand.const (Value.int IntKind.i64 9)) t0 (Value.int IntKind.i64 9); binOp .eql 3 t0 (Value.int IntKind.i64 9)) w5 fun t24 w7 =>
  ifD t24 (
  V Tryd.prog (binOp .and 21 t1 t2) w7 fun t27 w8 =>
  R t27 w8) (
  V Tryd.prog (do eqGuard .eql 3 (Operand.tmp 7) (Operand.const (Value.int IntKind.i64 10)) t0 (Value.int IntKind.i64 10); binOp .eql 3 t0 (Value.int IntKind.i64 10)) w7 fun t29 w9 =>
  ifD t29 (
  V Tryd.prog (binOp .or 21 t1 t2) w9 fun t32 w10 =>
  R t32 w10) (
  V Tryd.prog (do eqGuard .eql 3 (Operand.tmp 7) (Operand.const (Value.int IntKind.i64 11)) t0 (Value.int IntKind.i64 11); binOp .eql 3 t0 (Value.int IntKind.i64 11)) w9 fun t34 w11 =>
  ifD t34 (
  V Tryd.prog (binOp .xor 21 t1 t2) w11 fun t37 w12 =>
  R t37 w12) (
  V Tryd.prog (do eqGuard .eql 3 (Operand.tmp 7) (Operand.const (Value.int IntKind.i64 12)) t0 (Value.int IntKind.i64 12); binOp .eql 3 t0 (Value.int IntKind.i64 12)) w11 fun t39 w13 =>
  ifD t39 (
  V Tryd.prog (binOp .and 21 t2 (Value.int IntKind.i32 31)) w13 fun t42 w14 =>
  V Tryd.prog (convert 21 148 t42) w14 fun t43 w15 =>
  V Tryd.prog (binOp .shl 21 t1 t43) w15 fun t44 w16 =>
  R t44 w16) (
  V Tryd.prog (do eqGuard .eql 3 (Operand.tmp 7) (Operand.const (Value.int IntKind.i64 13)) t0 (Value.int IntKind.i64 13); binOp .eql 3 t0 (Value.int IntKind.i64 13)) w13 fun t46 w17 =>
  ifD t46 (
  V Tryd.prog (convert 21 149 t1) w17 fun t48 w18 =>
  V Tryd.prog (binOp .and 21 t2 (Value.int IntKind.i32 31)) w18 fun t50 w19 =>
  V Tryd.prog (convert 21 148 t50) w19 fun t51 w20 =>
  V Tryd.prog (binOp .shr 149 t48 t51) w20 fun t52 w21 =>
  V Tryd.prog (convert 149 21 t52) w21 fun t53 w22 =>
  R t53 w22) (
  V Tryd.prog (do eqGuard .eql 3 (Operand.tmp 7) (Operand.const (Value.int IntKind.i64 14)) t0 (Value.int IntKind.i64 14); binOp .eql 3 t0 (Value.int IntKind.i64 14)) w17 fun t55 w23 =>
  ifD t55 (
  V Tryd.prog (binOp .and 21 t2 (Value.int IntKind.i32 31)) w23 fun t58 w24 =>
  V Tryd.prog (convert 21 148 t58) w24 fun t59 w25 =>
  V Tryd.prog (binOp .shr 21 t1 t59) w25 fun t60 w26 =>
  R t60 w26) (
  V Tryd.prog (do eqGuard .eql 3 (Operand.tmp 7) (Operand.const (Value.int IntKind.i64 19)) t0 (Value.int IntKind.i64 19); binOp .eql 3 t0 (Value.int IntKind.i64 19)) w23 fun t62 w27 =>
  ifD t62 (
  V Tryd.prog (do eqGuard .eql 21 (Operand.tmp 63) (Operand.tmp 64) t1 t2; binOp .eql 21 t1 t2) w27 fun t65 w28 =>
  callD Tryd.prog 77 #[t65] w28 fun t66 w29 =>
  R t66 w29) (
  V Tryd.prog (do eqGuard .eql 3 (Operand.tmp 7) (Operand.const (Value.int IntKind.i64 20)) t0 (Value.int IntKind.i64 20); binOp .eql 3 t0 (Value.int IntKind.i64 20)) w27 fun t68 w30 =>
  ifD t68 (
  V Tryd.prog (binOp .lss 21 t1 t2) w30 fun t71 w31 =>
  callD Tryd.prog 77 #[t71] w31 fun t72 w32 =>
  R t72 w32) (
  V Tryd.prog (do eqGuard .eql 3 (Operand.tmp 7) (Operand.const (Value.int IntKind.i64 21)) t0 (Value.int IntKind.i64 21); binOp .eql 3 t0 (Value.int IntKind.i64 21)) w30 fun t74 w33 =>
  ifD t74 (
  V Tryd.prog (convert 21 149 t1) w33 fun t76 w34 =>
  V Tryd.prog (convert 21 149 t2) w34 fun t78 w35 =>
  V Tryd.prog (binOp .lss 149 t76 t78) w35 fun t79 w36 =>
  callD Tryd.prog 77 #[t79] w36 fun t80 w37 =>
  R t80 w37) (
  V Tryd.prog (do eqGuard .eql 3 (Operand.tmp 7) (Operand.const (Value.int IntKind.i64 17)) t0 (Value.int IntKind.i64 17); binOp .eql 3 t0 (Value.int IntKind.i64 17)) w33 fun t82 w38 =>
  ifD t82 (
  V Tryd.prog (do eqGuard .eql 21 (Operand.tmp 83) (Operand.const (Value.int IntKind.i32 0)) t2 (Value.int IntKind.i32 0); binOp .eql 21 t2 (Value.int IntKind.i32 0)) w38 fun t84 w39 =>
  ifD t84 (
  R (Value.int IntKind.i32 0) w39) (
  V Tryd.prog (convert 21 2 t1) w39 fun t86 w40 =>
  V Tryd.prog (convert 21 2 t2) w40 fun t88 w41 =>
  V Tryd.prog (binOp .quo 2 t86 t88) w41 fun t89 w42 =>
  V Tryd.prog (convert 2 21 t89) w42 fun t90 w43 =>
  R t90 w43)) (
  V Tryd.prog (do eqGuard .eql 3 (Operand.tmp 7) (Operand.const (Value.int IntKind.i64 18)) t0 (Value.int IntKind.i64 18); binOp .eql 3 t0 (Value.int IntKind.i64 18)) w38 fun t92 w44 =>
  ifD t92 (
  V Tryd.prog (do eqGuard .eql 21 (Operand.tmp 93) (Operand.const (Value.int IntKind.i32 0)) t2 (Value.int IntKind.i32 0); binOp .eql 21 t2 (Value.int IntKind.i32 0)) w44 fun t94 w45 =>
  ifD t94 (
  R (Value.int IntKind.i32 0) w45) (
  V Tryd.prog (convert 21 2 t1) w45 fun t96 w46 =>
  V Tryd.prog (convert 21 2 t2) w46 fun t98 w47 =>
  V Tryd.prog (binOp .rem 2 t96 t98) w47 fun t99 w48 =>
  V Tryd.prog (convert 2 21 t99) w48 fun t100 w49 =>
  R t100 w49)) (
  R (Value.int IntKind.i32 0) w44))))))))))))))
theorem F45_eq (t0 : Value) (t1 : Value) (t2 : Value) (w : World) (R : Value → World → Prop) : F45_den t0 t1 t2 w R = vc Tryd.prog F45_ann (Tryd.f45.body.getD .skip) (retE Tryd.prog Tryd.f45.results.toList R) (argEnv [t0, t1, t2]) w := by kernel_rfl
theorem F45_wp {t0 : Value} {t1 : Value} {t2 : Value} {w : World} {R : Value → World → Prop} (h : F45_den t0 t1 t2 w R) : callD Tryd.prog 45 #[t0, t1, t2] w R :=
  callD.of_calls (fn := Tryd.f45) (c := Tryd.f45.body.getD .skip) Tryd.func45 (by kernel_rfl) (by kernel_rfl) (calls_of_vc (args := [t0, t1, t2]) F45_ann mixed Tryd.func45 (by kernel_rfl) (by kernel_rfl) (F45_eq t0 t1 t2 w R ▸ h))

/-- (*taciturn/taciturnref8.Heap).Alloc -/
def F46_ann : Ann := (Ann.seq Ann.leaf (Ann.seq (Ann.seq (Ann.draw [0, 1, 2, 4, 12, 20, 36, 64, 192, 320, 576, 1024, 3072, 5120, 9216, 16384, 49152, 81920, 147456, 262144, 786432, 1310720, 2359296, 4194304, 12582912, 4194304, 37748736, 71303168, 138412032, 4194304, 541065216, 1346371584, 2168455168, 4299161600] [0, 1, 2, 4, 12, 20, 32, 64, 192, 320, 512, 1024, 3072, 5120, 8192, 16384, 49152, 81920, 131072, 262144, 786432, 1310720, 2097152, 4194304, 12582912, 4194304, 37748736, 71303168, 138412032, 4194304, 541065216, 1346371584, 2168455168, 4299161600] 0 34 17179869183 (.take 0 (.take 1 (.take 2 (.take 3 (.take 4 (.take 5 (.take 6 (.take 7 (.take 8 (.take 9 (.take 10 (.take 11 (.take 12 (.take 13 (.take 14 (.take 15 (.take 16 (.take 17 (.take 18 (.take 19 (.take 20 (.take 21 (.take 22 (.take 23 (.take 24 (.take 25 (.take 26 (.take 27 (.take 28 (.take 29 (.only 30 (.take 31 (.take 32 (.take 33 .done))))))))))))))))))))))))))))))))))) (Ann.cond (Ann.seq Ann.leaf Ann.leaf) Ann.leaf)) (Ann.join [48, 49, 50, 51, 52, 53, 54, 55, 56, 57, 58, 59, 60, 61, 62, 63, 64, 65] [] (Ann.draw [0, 0, 0, 4, 8, 16, 34, 0, 0, 0, 0, 0, 2048, 6016, 8192, 16448, 65535, 131071, 196607] [0, 0, 0, 4, 8, 16, 34, 0, 0, 0, 0, 0, 2048, 6016, 8192, 16448, 1, 65536, 163840] 0 18 262143 (.take 0 (.take 2 (.take 3 (.take 4 (.take 5 (.take 7 (.take 8 (.take 9 (.take 10 (.take 11 (.two 1 12 (.two 6 12 (.only 12 (.take 13 (.only 14 (.only 15 (.take 16 (.take 17 (.last 18))))))) (.take 13 (.two 6 14 (.only 14 (.only 15 (.take 16 (.take 17 (.last 18))))) (.only 6 (.only 15 (.take 16 (.take 17 (.last 18)))))))) (.take 13 (.two 1 14 (.two 6 14 (.only 14 (.only 15 (.take 16 (.take 17 (.last 18))))) (.only 6 (.only 15 (.take 16 (.take 17 (.last 18)))))) (.only 1 (.only 6 (.only 15 (.take 16 (.take 17 (.last 18)))))))))))))))))))) (Ann.seq Ann.leaf Ann.leaf))))
def F46_den (t0 : Value) (t1 : Value) (t2 : Value) (t3 : Value) (t4 : Value) (t5 : Value) (w : World) (R : Value → World → Prop) : Prop :=
  drawD w fun S1 w1 =>
  yieldS Tryd.prog S1 (do eqGuard .neq 3 (Operand.tmp 14) (Operand.const (Value.int IntKind.i64 3)) t2 (Value.int IntKind.i64 3); binOp .neq 3 t2 (Value.int IntKind.i64 3)) fun t15 =>
  gdY t15 true (fun K => K t2) fun t17 =>
  gdY t15 true (fun K => yieldS Tryd.prog S1 (do eqGuard .neq 3 (Operand.tmp 17) (Operand.const (Value.int IntKind.i64 4)) t17 (Value.int IntKind.i64 4); binOp .neq 3 t17 (Value.int IntKind.i64 4)) K) fun t18 =>
  pickD t15 t18 (Value.bool false) fun t19 =>
  gdY t19 false (fun K => K t3) fun t21 =>
  gdY t19 false (fun K => yieldS Tryd.prog S1 (binOp .lss 3 t21 (Value.int IntKind.i64 0)) K) fun t22 =>
  pickD t19 (Value.bool true) t22 fun t23 =>
  gdY t23 false (fun K => K t3) fun t25 =>
  gdY t23 false (fun K => yieldS Tryd.prog S1 (binOp .gtr 3 t25 (Value.int IntKind.i64 2)) K) fun t26 =>
  pickD t23 (Value.bool true) t26 fun t27 =>
  gdY t27 false (fun K => K t5) fun t29 =>
  gdY t27 false (fun K => yieldS Tryd.prog S1 (binOp .lss 3 t29 (Value.int IntKind.i64 0)) K) fun t30 =>
  pickD t27 (Value.bool true) t30 fun t31 =>
  gdY t31 false (fun K => K t5) fun t33 =>
  gdY t31 false (fun K => yieldS Tryd.prog S1 (binOp .gtr 3 t33 (Value.int IntKind.i64 64)) K) fun t34 =>
  pickD t31 (Value.bool true) t34 fun t35 =>
  gdY t35 false (fun K => K t5) fun t37 =>
  gdY t35 false (fun K => yieldS Tryd.prog S1 (binOp .add 3 (Value.int IntKind.i64 8) t37) K) fun t38 =>
  gdY t35 false (fun K => K t0) fun t39 =>
  gdY t35 false (fun K => (Go.Vc.Safe (t39) ∧ K (t39))) fun t40 =>
  gdY t35 false (fun K => yieldS Tryd.prog S1 (Instr.fieldAt 116 t40 0) K) fun t41 =>
  gdY t35 false (fun K => yieldS Tryd.prog S1 (Instr.loadAt 3 t41) K) fun t42 =>
  gdY t35 false (fun K => K t0) fun t43 =>
  gd t35 false (fun K => callD Tryd.prog 78 #[t43] w1 K) w1 fun t44 w2 =>
  S1 w2 ∧
  gdY t35 false (fun K => yieldS Tryd.prog S1 (binOp .sub 3 t42 t44) K) fun t45 =>
  gdY t35 false (fun K => yieldS Tryd.prog S1 (binOp .gtr 3 t38 t45) K) fun t46 =>
  pickD t35 (Value.bool true) t46 fun t47 =>
  ifD t47 (
  R (.tuple #[(Value.int IntKind.i64 0), (Value.bool false)]) w2) (
  ∃ J1 : NP 0,
  (drawD w2 fun S3 w3 =>
  Go.Vc.Safe (t0) ∧
  yieldS Tryd.prog S3 (Instr.fieldAt 116 t0 1) fun t52 =>
  yieldS Tryd.prog S3 (Instr.loadAt 114 t52) fun t53 =>
  (V Tryd.prog (Instr.buildSlice 114 0 #[]) w3 fun t49 w4 =>
  S3 w4 ∧
  (V Tryd.prog (Builtin.append_ #[114, 114] 114 #[t49, t53]) w4 fun t54 w5 =>
  S3 w5 ∧
  V Tryd.prog (Instr.makeSlice 40 t5 t5) w5 fun t60 w6 =>
  S3 w6 ∧
  yieldS Tryd.prog S3 (Instr.build 105 #[(0, t1), (1, t2), (2, t3), (3, t4), (4, t60)]) fun t61 =>
  V Tryd.prog (Instr.buildSlice 114 1 #[(0, t61)]) w6 fun t62 w7 =>
  S3 w7 ∧
  V Tryd.prog (Builtin.append_ #[114, 114] 114 #[t54, t62]) w7 fun t63 w8 =>
  S3 w8 ∧
  Go.Vc.Safe (t0) ∧
  yieldS Tryd.prog S3 (Instr.fieldAt 116 t0 1) fun t65 =>
  U Tryd.prog (Instr.storeAt 114 t65 t63) w8 fun _ w9 =>
  J1 w9) ∧
  (V Tryd.prog (Instr.makeSlice 40 t5 t5) w4 fun t60_1 w10 =>
  S3 w10 ∧
  yieldS Tryd.prog S3 (Instr.build 105 #[(0, t1), (1, t2), (2, t3), (3, t4), (4, t60_1)]) fun t61_1 =>
  (V Tryd.prog (Builtin.append_ #[114, 114] 114 #[t49, t53]) w10 fun t54_1 w11 =>
  S3 w11 ∧
  V Tryd.prog (Instr.buildSlice 114 1 #[(0, t61_1)]) w11 fun t62_1 w12 =>
  S3 w12 ∧
  V Tryd.prog (Builtin.append_ #[114, 114] 114 #[t54_1, t62_1]) w12 fun t63_1 w13 =>
  S3 w13 ∧
  Go.Vc.Safe (t0) ∧
  yieldS Tryd.prog S3 (Instr.fieldAt 116 t0 1) fun t65_1 =>
  U Tryd.prog (Instr.storeAt 114 t65_1 t63_1) w13 fun _ w14 =>
  J1 w14) ∧
  (V Tryd.prog (Instr.buildSlice 114 1 #[(0, t61_1)]) w10 fun t62_2 w15 =>
  S3 w15 ∧
  V Tryd.prog (Builtin.append_ #[114, 114] 114 #[t49, t53]) w15 fun t54_2 w16 =>
  S3 w16 ∧
  V Tryd.prog (Builtin.append_ #[114, 114] 114 #[t54_2, t62_2]) w16 fun t63_2 w17 =>
  S3 w17 ∧
  Go.Vc.Safe (t0) ∧
  yieldS Tryd.prog S3 (Instr.fieldAt 116 t0 1) fun t65_2 =>
  U Tryd.prog (Instr.storeAt 114 t65_2 t63_2) w17 fun _ w18 =>
  J1 w18))) ∧
  (V Tryd.prog (Instr.makeSlice 40 t5 t5) w3 fun t60_2 w19 =>
  S3 w19 ∧
  yieldS Tryd.prog S3 (Instr.build 105 #[(0, t1), (1, t2), (2, t3), (3, t4), (4, t60_2)]) fun t61_2 =>
  (V Tryd.prog (Instr.buildSlice 114 0 #[]) w19 fun t49_1 w20 =>
  S3 w20 ∧
  (V Tryd.prog (Builtin.append_ #[114, 114] 114 #[t49_1, t53]) w20 fun t54_3 w21 =>
  S3 w21 ∧
  V Tryd.prog (Instr.buildSlice 114 1 #[(0, t61_2)]) w21 fun t62_3 w22 =>
  S3 w22 ∧
  V Tryd.prog (Builtin.append_ #[114, 114] 114 #[t54_3, t62_3]) w22 fun t63_3 w23 =>
  S3 w23 ∧
  Go.Vc.Safe (t0) ∧
  yieldS Tryd.prog S3 (Instr.fieldAt 116 t0 1) fun t65_3 =>
  U Tryd.prog (Instr.storeAt 114 t65_3 t63_3) w23 fun _ w24 =>
  J1 w24) ∧
  (V Tryd.prog (Instr.buildSlice 114 1 #[(0, t61_2)]) w20 fun t62_4 w25 =>
  S3 w25 ∧
  V Tryd.prog (Builtin.append_ #[114, 114] 114 #[t49_1, t53]) w25 fun t54_4 w26 =>
  S3 w26 ∧
  V Tryd.prog (Builtin.append_ #[114, 114] 114 #[t54_4, t62_4]) w26 fun t63_4 w27 =>
  S3 w27 ∧
  Go.Vc.Safe (t0) ∧
  yieldS Tryd.prog S3 (Instr.fieldAt 116 t0 1) fun t65_4 =>
  U Tryd.prog (Instr.storeAt 114 t65_4 t63_4) w27 fun _ w28 =>
  J1 w28)) ∧
  (V Tryd.prog (Instr.buildSlice 114 1 #[(0, t61_2)]) w19 fun t62_5 w29 =>
  S3 w29 ∧
  V Tryd.prog (Instr.buildSlice 114 0 #[]) w29 fun t49_2 w30 =>
  S3 w30 ∧
  V Tryd.prog (Builtin.append_ #[114, 114] 114 #[t49_2, t53]) w30 fun t54_5 w31 =>
  S3 w31 ∧
  V Tryd.prog (Builtin.append_ #[114, 114] 114 #[t54_5, t62_5]) w31 fun t63_5 w32 =>
  S3 w32 ∧
  Go.Vc.Safe (t0) ∧
  yieldS Tryd.prog S3 (Instr.fieldAt 116 t0 1) fun t65_5 =>
  U Tryd.prog (Instr.storeAt 114 t65_5 t63_5) w32 fun _ w33 =>
  J1 w33))) ∧
  ∀ w34 : World, J1 w34 → ∀ _f : Env,
  Go.Vc.Safe (t0) ∧
  V Tryd.prog (Instr.fieldAt 116 t0 1) w34 fun t68 w36 =>
  V Tryd.prog (Instr.loadAt 114 t68) w36 fun t69 w37 =>
  V Tryd.prog (Builtin.len_ #[114] 3 #[t69]) w37 fun t70 w38 =>
  R (.tuple #[t70, (Value.bool true)]) w38)
theorem F46_eq (t0 : Value) (t1 : Value) (t2 : Value) (t3 : Value) (t4 : Value) (t5 : Value) (w : World) (R : Value → World → Prop) : F46_den t0 t1 t2 t3 t4 t5 w R = vc Tryd.prog F46_ann (Tryd.f46.body.getD .skip) (retE Tryd.prog Tryd.f46.results.toList R) (argEnv [t0, t1, t2, t3, t4, t5]) w := by kernel_rfl
theorem F46_wp {t0 : Value} {t1 : Value} {t2 : Value} {t3 : Value} {t4 : Value} {t5 : Value} {w : World} {R : Value → World → Prop} (h : F46_den t0 t1 t2 t3 t4 t5 w R) : callD Tryd.prog 46 #[t0, t1, t2, t3, t4, t5] w R :=
  callD.of_calls (fn := Tryd.f46) (c := Tryd.f46.body.getD .skip) Tryd.func46 (by kernel_rfl) (by kernel_rfl) (calls_of_vc (args := [t0, t1, t2, t3, t4, t5]) F46_ann mixed Tryd.func46 (by kernel_rfl) (by kernel_rfl) (F46_eq t0 t1 t2 t3 t4 t5 w R ▸ h))

/-- taciturn/taciturnref8.Check -/
def F47_ann : Ann := (Ann.seq Ann.leaf (Ann.seq Ann.leaf (Ann.seq (Ann.block (Ann.seq Ann.leaf (Ann.cond (Ann.seq Ann.leaf Ann.leaf) (Ann.seq Ann.leaf (Ann.cond (Ann.seq Ann.leaf Ann.leaf) Ann.leaf))))) (Ann.seq Ann.leaf Ann.leaf))))
def F47_den (t0 : Value) (t1 : Value) (t2 : Value) (w : World) (R : Value → World → Prop) : Prop :=
  callD Tryd.prog 48 #[t0, t1] w fun t12 w1 =>
  V Tryd.prog (Instr.extract t12 0) w1 fun t13 w2 =>
  V Tryd.prog (Instr.extract t12 1) w2 fun t14 w3 =>
  V Tryd.prog (Instr.alloc 105 true (.tuple #[])) w3 fun t7 w4 =>
  U Tryd.prog (Instr.storeAt 105 t7 t13) w4 fun _ w5 =>
  V Tryd.prog (Op.unary UnOp.not t14) w5 fun t17 w6 =>
  ifD t17 (
  R (Value.int IntKind.i64 28417) w6) (
  V Tryd.prog (Instr.loadAt 105 t7) w6 fun t19 w7 =>
  callD Tryd.prog 79 #[t19, t2] w7 fun t21 w8 =>
  V Tryd.prog (Op.unary UnOp.not t21) w8 fun t22 w9 =>
  ifD t22 (
  R (Value.int IntKind.i64 28420) w9) (
  R (Value.int IntKind.i64 36864) w9))
theorem F47_eq (t0 : Value) (t1 : Value) (t2 : Value) (w : World) (R : Value → World → Prop) : F47_den t0 t1 t2 w R = vc Tryd.prog F47_ann (Tryd.f47.body.getD .skip) (retE Tryd.prog Tryd.f47.results.toList R) (argEnv [t0, t1, t2]) w := by kernel_rfl
theorem F47_wp {t0 : Value} {t1 : Value} {t2 : Value} {w : World} {R : Value → World → Prop} (h : F47_den t0 t1 t2 w R) : callD Tryd.prog 47 #[t0, t1, t2] w R :=
  callD.of_calls (fn := Tryd.f47) (c := Tryd.f47.body.getD .skip) Tryd.func47 (by kernel_rfl) (by kernel_rfl) (calls_of_vc (args := [t0, t1, t2]) F47_ann mixed Tryd.func47 (by kernel_rfl) (by kernel_rfl) (F47_eq t0 t1 t2 w R ▸ h))

/-- (*taciturn/taciturnref8.Heap).At -/
def F48_ann : Ann := (Ann.seq Ann.leaf (Ann.seq (Ann.seq Ann.leaf (Ann.cond (Ann.seq Ann.leaf Ann.leaf) Ann.leaf)) (Ann.seq Ann.leaf Ann.leaf)))
def F48_den (t0 : Value) (t1 : Value) (w : World) (R : Value → World → Prop) : Prop :=
  V Tryd.prog (Instr.alloc 105 true (.tuple #[])) w fun t4 w1 =>
  V Tryd.prog (binOp .lss 3 t1 (Value.int IntKind.i64 1)) w1 fun t7 w2 =>
  gd t7 false (fun K => K t1 w2) w2 fun t9 w3 =>
  gd t7 false (fun K => K t0 w3) w3 fun t10 w4 =>
  gd t7 false (fun K => (Go.Vc.Safe (t10) ∧ K (t10) w4)) w4 fun t11 w5 =>
  gd t7 false (fun K => V Tryd.prog (Instr.fieldAt 116 t11 1) w5 K) w5 fun t12 w6 =>
  gd t7 false (fun K => V Tryd.prog (Instr.loadAt 114 t12) w6 K) w6 fun t13 w7 =>
  gd t7 false (fun K => V Tryd.prog (Builtin.len_ #[114] 3 #[t13]) w7 K) w7 fun t14 w8 =>
  gd t7 false (fun K => V Tryd.prog (binOp .gtr 3 t9 t14) w8 K) w8 fun t15 w9 =>
  pickD t7 (Value.bool true) t15 fun t16 =>
  ifD t16 (
  V Tryd.prog (Instr.build 105 #[]) w9 fun t17 w11 =>
  U Tryd.prog (Instr.storeAt 105 t4 t17) w11 fun _ w12 =>
  ∃ r1, (loadVar 105 (match t4 with | .pointer (some p) => p | _ => ⟨0, 0, none⟩)).run Tryd.prog w12 = .ok r1 w12 ∧ (∃ p, t4 = Value.pointer (some p)) ∧ R (.tuple #[r1, (Value.bool false)]) w12) (
  Go.Vc.Safe (t0) ∧
  V Tryd.prog (Instr.fieldAt 116 t0 1) w9 fun t20 w14 =>
  V Tryd.prog (Instr.loadAt 114 t20) w14 fun t21 w15 =>
  V Tryd.prog (binOp .sub 3 t1 (Value.int IntKind.i64 1)) w15 fun t23 w16 =>
  V Tryd.prog (Instr.indexAt 114 t21 t23) w16 fun t24 w17 =>
  V Tryd.prog (Instr.loadAt 105 t24) w17 fun t25 w18 =>
  U Tryd.prog (Instr.storeAt 105 t4 t25) w18 fun _ w19 =>
  ∃ r1, (loadVar 105 (match t4 with | .pointer (some p) => p | _ => ⟨0, 0, none⟩)).run Tryd.prog w19 = .ok r1 w19 ∧ (∃ p, t4 = Value.pointer (some p)) ∧ R (.tuple #[r1, (Value.bool true)]) w19)
theorem F48_eq (t0 : Value) (t1 : Value) (w : World) (R : Value → World → Prop) : F48_den t0 t1 w R = vc Tryd.prog F48_ann (Tryd.f48.body.getD .skip) (retE Tryd.prog Tryd.f48.results.toList R) (argEnv [t0, t1]) w := by kernel_rfl
theorem F48_wp {t0 : Value} {t1 : Value} {w : World} {R : Value → World → Prop} (h : F48_den t0 t1 w R) : callD Tryd.prog 48 #[t0, t1] w R :=
  callD.of_calls (fn := Tryd.f48) (c := Tryd.f48.body.getD .skip) Tryd.func48 (by kernel_rfl) (by kernel_rfl) (calls_of_vc (args := [t0, t1]) F48_ann mixed Tryd.func48 (by kernel_rfl) (by kernel_rfl) (F48_eq t0 t1 w R ▸ h))

/-- taciturn/taciturnref8.Range -/
def F49_ann : Ann := (Ann.seq Ann.leaf (Ann.seq (Ann.seq Ann.leaf (Ann.seq Ann.leaf (Ann.cond (Ann.seq Ann.leaf Ann.leaf) Ann.leaf))) (Ann.seq Ann.leaf (Ann.seq (Ann.seq Ann.leaf (Ann.cond (Ann.seq Ann.leaf Ann.leaf) Ann.leaf)) (Ann.seq Ann.leaf Ann.leaf)))))
def F49_den (t0 : Value) (t1 : Value) (t2 : Value) (t3 : Value) (t4 : Value) (w : World) (R : Value → World → Prop) : Prop :=
  callD Tryd.prog 47 #[t0, t1, t4] w fun t17 w1 =>
  V Tryd.prog (do eqGuard .neq 3 (Operand.tmp 18) (Operand.const (Value.int IntKind.i64 36864)) t17 (Value.int IntKind.i64 36864); binOp .neq 3 t17 (Value.int IntKind.i64 36864)) w1 fun t19 w2 =>
  ifD t19 (
  R t17 w2) (
  callD Tryd.prog 48 #[t0, t1] w2 fun t24 w3 =>
  V Tryd.prog (Instr.extract t24 0) w3 fun t25 w4 =>
  V Tryd.prog (Instr.extract t24 1) w4 fun t26 w5 =>
  V Tryd.prog (Instr.alloc 105 true (.tuple #[])) w5 fun t12 w6 =>
  U Tryd.prog (Instr.storeAt 105 t12 t25) w6 fun _ w7 =>
  V Tryd.prog (binOp .lss 3 t2 (Value.int IntKind.i64 0)) w7 fun t28 w8 =>
  gd t28 false (fun K => K t3 w8) w8 fun t30 w9 =>
  gd t28 false (fun K => V Tryd.prog (binOp .lss 3 t30 (Value.int IntKind.i64 0)) w9 K) w9 fun t31 w10 =>
  pickD t28 (Value.bool true) t31 fun t32 =>
  gd t32 false (fun K => K t2 w10) w10 fun t34 w12 =>
  gd t32 false (fun K => V Tryd.prog (Instr.fieldAt 105 t12 4) w12 K) w12 fun t35 w13 =>
  gd t32 false (fun K => V Tryd.prog (Instr.loadAt 40 t35) w13 K) w13 fun t36 w14 =>
  gd t32 false (fun K => V Tryd.prog (Builtin.len_ #[40] 3 #[t36]) w14 K) w14 fun t37 w15 =>
  gd t32 false (fun K => V Tryd.prog (binOp .gtr 3 t34 t37) w15 K) w15 fun t38 w16 =>
  pickD t32 (Value.bool true) t38 fun t39 =>
  gd t39 false (fun K => K t3 w16) w16 fun t41 w18 =>
  gd t39 false (fun K => V Tryd.prog (Instr.fieldAt 105 t12 4) w18 K) w18 fun t42 w19 =>
  gd t39 false (fun K => V Tryd.prog (Instr.loadAt 40 t42) w19 K) w19 fun t43 w20 =>
  gd t39 false (fun K => V Tryd.prog (Builtin.len_ #[40] 3 #[t43]) w20 K) w20 fun t44 w21 =>
  gd t39 false (fun K => K t2 w21) w21 fun t45 w22 =>
  gd t39 false (fun K => V Tryd.prog (binOp .sub 3 t44 t45) w22 K) w22 fun t46 w23 =>
  gd t39 false (fun K => V Tryd.prog (binOp .gtr 3 t41 t46) w23 K) w23 fun t47 w24 =>
  pickD t39 (Value.bool true) t47 fun t48 =>
  ifD t48 (
  R (Value.int IntKind.i64 28418) w24) (
  R (Value.int IntKind.i64 36864) w24))
theorem F49_eq (t0 : Value) (t1 : Value) (t2 : Value) (t3 : Value) (t4 : Value) (w : World) (R : Value → World → Prop) : F49_den t0 t1 t2 t3 t4 w R = vc Tryd.prog F49_ann (Tryd.f49.body.getD .skip) (retE Tryd.prog Tryd.f49.results.toList R) (argEnv [t0, t1, t2, t3, t4]) w := by kernel_rfl
theorem F49_wp {t0 : Value} {t1 : Value} {t2 : Value} {t3 : Value} {t4 : Value} {w : World} {R : Value → World → Prop} (h : F49_den t0 t1 t2 t3 t4 w R) : callD Tryd.prog 49 #[t0, t1, t2, t3, t4] w R :=
  callD.of_calls (fn := Tryd.f49) (c := Tryd.f49.body.getD .skip) Tryd.func49 (by kernel_rfl) (by kernel_rfl) (calls_of_vc (args := [t0, t1, t2, t3, t4]) F49_ann mixed Tryd.func49 (by kernel_rfl) (by kernel_rfl) (F49_eq t0 t1 t2 t3 t4 w R ▸ h))

/-- (*taciturn/taciturnref8.Heap).Put -/
def F50_ann : Ann := (Ann.seq Ann.leaf (Ann.seq (Ann.seq Ann.leaf (Ann.block (Ann.loop [9, 22, 23, 24, 25, 26, 27, 28, 29, 30, 31, 32, 33, 34, 35, 36] [9] (Ann.seq (Ann.seq Ann.leaf (Ann.cond Ann.leaf Ann.leaf)) (Ann.seq (Ann.block Ann.leaf) Ann.leaf))))) (Ann.seq Ann.leaf (Ann.seq Ann.leaf Ann.leaf))))
def F50_den (t0 : Value) (t1 : Value) (t2 : Value) (t3 : Value) (w : World) (R : Value → World → Prop) : Prop :=
  V Tryd.prog (Instr.buildSlice 40 0 #[]) w fun t11 w1 =>
  Go.Vc.Safe (t0) ∧
  V Tryd.prog (Instr.fieldAt 116 t0 1) w1 fun t14 w3 =>
  V Tryd.prog (Instr.loadAt 114 t14) w3 fun t15 w4 =>
  V Tryd.prog (binOp .sub 3 t1 (Value.int IntKind.i64 1)) w4 fun t17 w5 =>
  V Tryd.prog (Instr.indexAt 114 t15 t17) w5 fun t18 w6 =>
  V Tryd.prog (Instr.fieldAt 105 t18 4) w6 fun t19 w7 =>
  V Tryd.prog (Instr.loadAt 40 t19) w7 fun t20 w8 =>
  V Tryd.prog (Builtin.append_ #[40, 40] 40 #[t11, t20]) w8 fun t21 w9 =>
  ∃ (I1 : NP 1) (μ1 : NF 1), I1 (Value.int IntKind.i64 0) w9 ∧
  ∀ (t9 : Value), ∀ w10 : World, I1 t9 w10 → ∀ _f : Env,
  V Tryd.prog (Builtin.len_ #[40] 3 #[t3]) w10 fun t24 w11 =>
  V Tryd.prog (binOp .lss 3 t9 t24) w11 fun t25 w12 =>
  ifD t25 (
  V Tryd.prog (binOp .add 3 t2 t9) w12 fun t31 w13 =>
  V Tryd.prog (Instr.indexAt 40 t3 t9) w13 fun t34 w14 =>
  V Tryd.prog (Instr.loadAt 5 t34) w14 fun t35 w15 =>
  V Tryd.prog (Instr.indexAt 40 t21 t31) w15 fun t36 w16 =>
  U Tryd.prog (Instr.storeAt 5 t36 t35) w16 fun _ w17 =>
  V Tryd.prog (binOp .add 3 t9 (Value.int IntKind.i64 1)) w17 fun t27 w18 =>
  I1 t27 w18 ∧ μ1 t27 w18 < μ1 t9 w10) (
  V Tryd.prog (Instr.buildSlice 114 0 #[]) w12 fun t37 w19 =>
  Go.Vc.Safe (t0) ∧
  V Tryd.prog (Instr.fieldAt 116 t0 1) w19 fun t40 w21 =>
  V Tryd.prog (Instr.loadAt 114 t40) w21 fun t41 w22 =>
  V Tryd.prog (Builtin.append_ #[114, 114] 114 #[t37, t41]) w22 fun t42 w23 =>
  V Tryd.prog (binOp .sub 3 t1 (Value.int IntKind.i64 1)) w23 fun t45 w24 =>
  V Tryd.prog (Instr.indexAt 114 t42 t45) w24 fun t47 w25 =>
  V Tryd.prog (Instr.fieldAt 105 t47 4) w25 fun t48 w26 =>
  U Tryd.prog (Instr.storeAt 40 t48 t21) w26 fun _ w27 =>
  Go.Vc.Safe (t0) ∧
  V Tryd.prog (Instr.fieldAt 116 t0 1) w27 fun t52 w29 =>
  U Tryd.prog (Instr.storeAt 114 t52 t42) w29 fun _ w30 =>
  R (.tuple #[]) w30)
theorem F50_eq (t0 : Value) (t1 : Value) (t2 : Value) (t3 : Value) (w : World) (R : Value → World → Prop) : F50_den t0 t1 t2 t3 w R = vc Tryd.prog F50_ann (Tryd.f50.body.getD .skip) (retE Tryd.prog Tryd.f50.results.toList R) (argEnv [t0, t1, t2, t3]) w := by kernel_rfl
theorem F50_wp {t0 : Value} {t1 : Value} {t2 : Value} {t3 : Value} {w : World} {R : Value → World → Prop} (h : F50_den t0 t1 t2 t3 w R) : callD Tryd.prog 50 #[t0, t1, t2, t3] w R :=
  callD.of_calls (fn := Tryd.f50) (c := Tryd.f50.body.getD .skip) Tryd.func50 (by kernel_rfl) (by kernel_rfl) (calls_of_vc (args := [t0, t1, t2, t3]) F50_ann mixed Tryd.func50 (by kernel_rfl) (by kernel_rfl) (F50_eq t0 t1 t2 t3 w R ▸ h))

/-- (*taciturn/room.Room).Told -/
def F51_ann : Ann := (Ann.seq Ann.leaf (Ann.seq (Ann.draw [0, 1, 2, 4, 8, 0, 32, 64, 128, 272, 543, 2047] [0, 1, 2, 4, 8, 0, 32, 64, 128, 256, 16, 512] 0 12 4095 (.take 0 (.take 1 (.take 2 (.take 3 (.take 5 (.take 6 (.take 7 (.take 8 (.only 4 (.only 9 (.take 10 (.take 11 .done))))))))))))) Ann.leaf))
def F51_den (t0 : Value) (w : World) (R : Value → World → Prop) : Prop :=
  drawD w fun S1 w1 =>
  Go.Vc.Safe (t0) ∧
  yieldS Tryd.prog S1 (Instr.fieldAt 80 t0 3) fun t6 =>
  yieldS Tryd.prog S1 (Instr.loadAt 40 t6) fun t7 =>
  Go.Vc.Safe (t0) ∧
  yieldS Tryd.prog S1 (Instr.fieldAt 80 t0 4) fun t11 =>
  yieldS Tryd.prog S1 (Instr.loadAt 40 t11) fun t12 =>
  callD Tryd.prog 65 #[t7] w1 fun t8 w2 =>
  S1 w2 ∧
  callD Tryd.prog 65 #[t12] w2 fun t13 w3 =>
  S1 w3 ∧
  R (.tuple #[t8, t13]) w3
theorem F51_eq (t0 : Value) (w : World) (R : Value → World → Prop) : F51_den t0 w R = vc Tryd.prog F51_ann (Tryd.f51.body.getD .skip) (retE Tryd.prog Tryd.f51.results.toList R) (argEnv [t0]) w := by kernel_rfl
theorem F51_wp {t0 : Value} {w : World} {R : Value → World → Prop} (h : F51_den t0 w R) : callD Tryd.prog 51 #[t0] w R :=
  callD.of_calls (fn := Tryd.f51) (c := Tryd.f51.body.getD .skip) Tryd.func51 (by kernel_rfl) (by kernel_rfl) (calls_of_vc (args := [t0]) F51_ann mixed Tryd.func51 (by kernel_rfl) (by kernel_rfl) (F51_eq t0 w R ▸ h))

/-- (*taciturn/room.Room).Heap -/
def F52_ann : Ann := (Ann.seq Ann.leaf (Ann.seq Ann.leaf Ann.leaf))
def F52_den (t0 : Value) (w : World) (R : Value → World → Prop) : Prop :=
  Go.Vc.Safe (t0) ∧
  V Tryd.prog (Instr.fieldAt 80 t0 0) w fun t5 w2 =>
  V Tryd.prog (Instr.loadAt 76 t5) w2 fun t6 w3 =>
  R t6 w3
theorem F52_eq (t0 : Value) (w : World) (R : Value → World → Prop) : F52_den t0 w R = vc Tryd.prog F52_ann (Tryd.f52.body.getD .skip) (retE Tryd.prog Tryd.f52.results.toList R) (argEnv [t0]) w := by kernel_rfl
theorem F52_wp {t0 : Value} {w : World} {R : Value → World → Prop} (h : F52_den t0 w R) : callD Tryd.prog 52 #[t0] w R :=
  callD.of_calls (fn := Tryd.f52) (c := Tryd.f52.body.getD .skip) Tryd.func52 (by kernel_rfl) (by kernel_rfl) (calls_of_vc (args := [t0]) F52_ann mixed Tryd.func52 (by kernel_rfl) (by kernel_rfl) (F52_eq t0 w R ▸ h))

/-- (*taciturn/leak.Trace).Len -/
def F53_ann : Ann := (Ann.seq Ann.leaf (Ann.seq (Ann.seq Ann.leaf (Ann.cond (Ann.seq Ann.leaf Ann.leaf) Ann.leaf)) (Ann.seq Ann.leaf Ann.leaf)))
def F53_den (t0 : Value) (w : World) (R : Value → World → Prop) : Prop :=
  V Tryd.prog (do eqGuard .eql 50 (Operand.tmp 3) (Operand.const (Value.pointer none)) t0 (Value.pointer none); binOp .eql 50 t0 (Value.pointer none)) w fun t4 w1 =>
  ifD t4 (
  R (Value.int IntKind.i64 0) w1) (
  Go.Vc.Safe (t0) ∧
  V Tryd.prog (Instr.fieldAt 91 t0 0) w1 fun t7 w3 =>
  V Tryd.prog (Instr.loadAt 55 t7) w3 fun t8 w4 =>
  V Tryd.prog (Builtin.len_ #[55] 3 #[t8]) w4 fun t9 w5 =>
  R t9 w5)
theorem F53_eq (t0 : Value) (w : World) (R : Value → World → Prop) : F53_den t0 w R = vc Tryd.prog F53_ann (Tryd.f53.body.getD .skip) (retE Tryd.prog Tryd.f53.results.toList R) (argEnv [t0]) w := by kernel_rfl
theorem F53_wp {t0 : Value} {w : World} {R : Value → World → Prop} (h : F53_den t0 w R) : callD Tryd.prog 53 #[t0] w R :=
  callD.of_calls (fn := Tryd.f53) (c := Tryd.f53.body.getD .skip) Tryd.func53 (by kernel_rfl) (by kernel_rfl) (calls_of_vc (args := [t0]) F53_ann mixed Tryd.func53 (by kernel_rfl) (by kernel_rfl) (F53_eq t0 w R ▸ h))

/-- (*taciturn/heap.Heap).Count -/
def F54_ann : Ann := (Ann.seq Ann.leaf (Ann.seq Ann.leaf Ann.leaf))
def F54_den (t0 : Value) (w : World) (R : Value → World → Prop) : Prop :=
  Go.Vc.Safe (t0) ∧
  V Tryd.prog (Instr.fieldAt 120 t0 1) w fun t5 w2 =>
  V Tryd.prog (Instr.loadAt 114 t5) w2 fun t6 w3 =>
  V Tryd.prog (Builtin.len_ #[114] 3 #[t6]) w3 fun t7 w4 =>
  R t7 w4
theorem F54_eq (t0 : Value) (w : World) (R : Value → World → Prop) : F54_den t0 w R = vc Tryd.prog F54_ann (Tryd.f54.body.getD .skip) (retE Tryd.prog Tryd.f54.results.toList R) (argEnv [t0]) w := by kernel_rfl
theorem F54_wp {t0 : Value} {w : World} {R : Value → World → Prop} (h : F54_den t0 w R) : callD Tryd.prog 54 #[t0] w R :=
  callD.of_calls (fn := Tryd.f54) (c := Tryd.f54.body.getD .skip) Tryd.func54 (by kernel_rfl) (by kernel_rfl) (calls_of_vc (args := [t0]) F54_ann mixed Tryd.func54 (by kernel_rfl) (by kernel_rfl) (F54_eq t0 w R ▸ h))

/-- (*taciturn/heap.Heap).Array -/
def F55_ann : Ann := (Ann.seq Ann.leaf (Ann.seq Ann.leaf (Ann.seq (Ann.seq Ann.leaf (Ann.cond (Ann.seq Ann.leaf Ann.leaf) Ann.leaf)) (Ann.seq Ann.leaf (Ann.seq Ann.leaf (Ann.seq Ann.leaf Ann.leaf))))))
def F55_den (t0 : Value) (t1 : Value) (w : World) (R : Value → World → Prop) : Prop :=
  V Tryd.prog (Instr.alloc 105 true (.tuple #[])) w fun t4 w1 =>
  callD Tryd.prog 66 #[t0, t1] w1 fun t10 w2 =>
  V Tryd.prog (do eqGuard .eql 138 (Operand.tmp 11) (Operand.const (Value.pointer none)) t10 (Value.pointer none); binOp .eql 138 t10 (Value.pointer none)) w2 fun t12 w3 =>
  ifD t12 (
  V Tryd.prog (Instr.build 105 #[]) w3 fun t13 w4 =>
  U Tryd.prog (Instr.storeAt 105 t4 t13) w4 fun _ w5 =>
  ∃ r1, (loadVar 105 (match t4 with | .pointer (some p) => p | _ => ⟨0, 0, none⟩)).run Tryd.prog w5 = .ok r1 w5 ∧ (∃ p, t4 = Value.pointer (some p)) ∧ R (.tuple #[r1, (Value.bool false)]) w5) (
  Go.Vc.Safe (t10) ∧
  V Tryd.prog (Instr.loadAt 105 t10) w3 fun t16 w7 =>
  V Tryd.prog (Instr.alloc 105 true (.tuple #[])) w7 fun t7 w8 =>
  U Tryd.prog (Instr.storeAt 105 t7 t16) w8 fun _ w9 =>
  Go.Vc.Safe (t10) ∧
  V Tryd.prog (Instr.fieldAt 105 t10 4) w9 fun t19 w11 =>
  V Tryd.prog (Instr.loadAt 40 t19) w11 fun t20 w12 =>
  callD Tryd.prog 65 #[t20] w12 fun t21 w13 =>
  V Tryd.prog (Instr.fieldAt 105 t7 4) w13 fun t22 w14 =>
  U Tryd.prog (Instr.storeAt 40 t22 t21) w14 fun _ w15 =>
  V Tryd.prog (Instr.loadAt 105 t7) w15 fun t23 w16 =>
  U Tryd.prog (Instr.storeAt 105 t4 t23) w16 fun _ w17 =>
  ∃ r1, (loadVar 105 (match t4 with | .pointer (some p) => p | _ => ⟨0, 0, none⟩)).run Tryd.prog w17 = .ok r1 w17 ∧ (∃ p, t4 = Value.pointer (some p)) ∧ R (.tuple #[r1, (Value.bool true)]) w17)
theorem F55_eq (t0 : Value) (t1 : Value) (w : World) (R : Value → World → Prop) : F55_den t0 t1 w R = vc Tryd.prog F55_ann (Tryd.f55.body.getD .skip) (retE Tryd.prog Tryd.f55.results.toList R) (argEnv [t0, t1]) w := by kernel_rfl
theorem F55_wp {t0 : Value} {t1 : Value} {w : World} {R : Value → World → Prop} (h : F55_den t0 t1 w R) : callD Tryd.prog 55 #[t0, t1] w R :=
  callD.of_calls (fn := Tryd.f55) (c := Tryd.f55.body.getD .skip) Tryd.func55 (by kernel_rfl) (by kernel_rfl) (calls_of_vc (args := [t0, t1]) F55_ann mixed Tryd.func55 (by kernel_rfl) (by kernel_rfl) (F55_eq t0 t1 w R ▸ h))

/-- taciturn/taciturnref8.SameArray -/
def F56_ann : Ann := (Ann.seq Ann.leaf (Ann.seq Ann.leaf Ann.leaf))
def F56_den (t0 : Value) (t1 : Value) (w : World) (R : Value → World → Prop) : Prop :=
  V Tryd.prog (Instr.box 105 t0) w fun t2 w1 =>
  V Tryd.prog (Instr.box 105 t1) w1 fun t3 w2 =>
  V Tryd.prog (Instr.fieldAt 105 t2 0) w2 fun t5 w3 =>
  V Tryd.prog (Instr.loadAt 3 t5) w3 fun t6 w4 =>
  V Tryd.prog (Instr.fieldAt 105 t3 0) w4 fun t7 w5 =>
  V Tryd.prog (Instr.loadAt 3 t7) w5 fun t8 w6 =>
  V Tryd.prog (do eqGuard .eql 3 (Operand.tmp 6) (Operand.tmp 8) t6 t8; binOp .eql 3 t6 t8) w6 fun t9 w7 =>
  gd t9 true (fun K => V Tryd.prog (Instr.fieldAt 105 t2 1) w7 K) w7 fun t11 w8 =>
  gd t9 true (fun K => V Tryd.prog (Instr.loadAt 3 t11) w8 K) w8 fun t12 w9 =>
  gd t9 true (fun K => V Tryd.prog (Instr.fieldAt 105 t3 1) w9 K) w9 fun t13 w10 =>
  gd t9 true (fun K => V Tryd.prog (Instr.loadAt 3 t13) w10 K) w10 fun t14 w11 =>
  gd t9 true (fun K => V Tryd.prog (do eqGuard .eql 3 (Operand.tmp 12) (Operand.tmp 14) t12 t14; binOp .eql 3 t12 t14) w11 K) w11 fun t15 w12 =>
  pickD t9 t15 (Value.bool false) fun t16 =>
  gd t16 true (fun K => V Tryd.prog (Instr.fieldAt 105 t2 2) w12 K) w12 fun t18 w14 =>
  gd t16 true (fun K => V Tryd.prog (Instr.loadAt 3 t18) w14 K) w14 fun t19 w15 =>
  gd t16 true (fun K => V Tryd.prog (Instr.fieldAt 105 t3 2) w15 K) w15 fun t20 w16 =>
  gd t16 true (fun K => V Tryd.prog (Instr.loadAt 3 t20) w16 K) w16 fun t21 w17 =>
  gd t16 true (fun K => V Tryd.prog (do eqGuard .eql 3 (Operand.tmp 19) (Operand.tmp 21) t19 t21; binOp .eql 3 t19 t21) w17 K) w17 fun t22 w18 =>
  pickD t16 t22 (Value.bool false) fun t23 =>
  gd t23 true (fun K => V Tryd.prog (Instr.fieldAt 105 t2 3) w18 K) w18 fun t25 w20 =>
  gd t23 true (fun K => V Tryd.prog (Instr.loadAt 4 t25) w20 K) w20 fun t26 w21 =>
  gd t23 true (fun K => V Tryd.prog (Instr.fieldAt 105 t3 3) w21 K) w21 fun t27 w22 =>
  gd t23 true (fun K => V Tryd.prog (Instr.loadAt 4 t27) w22 K) w22 fun t28 w23 =>
  gd t23 true (fun K => V Tryd.prog (do eqGuard .eql 4 (Operand.tmp 26) (Operand.tmp 28) t26 t28; binOp .eql 4 t26 t28) w23 K) w23 fun t29 w24 =>
  pickD t23 t29 (Value.bool false) fun t30 =>
  gd t30 true (fun K => V Tryd.prog (Instr.fieldAt 105 t2 4) w24 K) w24 fun t32 w26 =>
  gd t30 true (fun K => V Tryd.prog (Instr.loadAt 40 t32) w26 K) w26 fun t33 w27 =>
  gd t30 true (fun K => V Tryd.prog (convert 40 9 t33) w27 K) w27 fun t34 w28 =>
  gd t30 true (fun K => V Tryd.prog (Instr.fieldAt 105 t3 4) w28 K) w28 fun t35 w29 =>
  gd t30 true (fun K => V Tryd.prog (Instr.loadAt 40 t35) w29 K) w29 fun t36 w30 =>
  gd t30 true (fun K => V Tryd.prog (convert 40 9 t36) w30 K) w30 fun t37 w31 =>
  gd t30 true (fun K => V Tryd.prog (do eqGuard .eql 9 (Operand.tmp 34) (Operand.tmp 37) t34 t37; binOp .eql 9 t34 t37) w31 K) w31 fun t38 w32 =>
  pickD t30 t38 (Value.bool false) fun t39 =>
  R t39 w32
theorem F56_eq (t0 : Value) (t1 : Value) (w : World) (R : Value → World → Prop) : F56_den t0 t1 w R = vc Tryd.prog F56_ann (Tryd.f56.body.getD .skip) (retE Tryd.prog Tryd.f56.results.toList R) (argEnv [t0, t1]) w := by kernel_rfl
theorem F56_wp {t0 : Value} {t1 : Value} {w : World} {R : Value → World → Prop} (h : F56_den t0 t1 w R) : callD Tryd.prog 56 #[t0, t1] w R :=
  callD.of_calls (fn := Tryd.f56) (c := Tryd.f56.body.getD .skip) Tryd.func56 (by kernel_rfl) (by kernel_rfl) (calls_of_vc (args := [t0, t1]) F56_ann mixed Tryd.func56 (by kernel_rfl) (by kernel_rfl) (F56_eq t0 t1 w R ▸ h))

/-- slices.Clone[[]taciturn/api.Event,taciturn/api.Event] -/
def F57_ann : Ann := (Ann.seq Ann.leaf (Ann.seq (Ann.seq Ann.leaf (Ann.cond (Ann.seq Ann.leaf Ann.leaf) Ann.leaf)) (Ann.seq Ann.leaf Ann.leaf)))
def F57_den (t0 : Value) (w : World) (R : Value → World → Prop) : Prop :=
  V Tryd.prog (do eqGuard .eql 55 (Operand.tmp 3) (Operand.const (Value.slice none 0 0)) t0 (Value.slice none 0 0); binOp .eql 55 t0 (Value.slice none 0 0)) w fun t4 w1 =>
  ifD t4 (
  R (Value.slice none 0 0) w1) (
  V Tryd.prog (Instr.buildSlice 55 0 #[]) w1 fun t5 w2 =>
  V Tryd.prog (Builtin.append_ #[55, 55] 55 #[t5, t0]) w2 fun t7 w3 =>
  R t7 w3)
theorem F57_eq (t0 : Value) (w : World) (R : Value → World → Prop) : F57_den t0 w R = vc Tryd.prog F57_ann (Tryd.f57.body.getD .skip) (retE Tryd.prog Tryd.f57.results.toList R) (argEnv [t0]) w := by kernel_rfl
theorem F57_wp {t0 : Value} {w : World} {R : Value → World → Prop} (h : F57_den t0 w R) : callD Tryd.prog 57 #[t0] w R :=
  callD.of_calls (fn := Tryd.f57) (c := Tryd.f57.body.getD .skip) Tryd.func57 (by kernel_rfl) (by kernel_rfl) (calls_of_vc (args := [t0]) F57_ann mixed Tryd.func57 (by kernel_rfl) (by kernel_rfl) (F57_eq t0 w R ▸ h))

/-- slices.Clone[[]byte,byte] -/
def F65_ann : Ann := (Ann.seq Ann.leaf (Ann.seq (Ann.seq Ann.leaf (Ann.cond (Ann.seq Ann.leaf Ann.leaf) Ann.leaf)) (Ann.seq Ann.leaf Ann.leaf)))
def F65_den (t0 : Value) (w : World) (R : Value → World → Prop) : Prop :=
  V Tryd.prog (do eqGuard .eql 40 (Operand.tmp 3) (Operand.const (Value.slice none 0 0)) t0 (Value.slice none 0 0); binOp .eql 40 t0 (Value.slice none 0 0)) w fun t4 w1 =>
  ifD t4 (
  R (Value.slice none 0 0) w1) (
  V Tryd.prog (Instr.buildSlice 40 0 #[]) w1 fun t5 w2 =>
  V Tryd.prog (Builtin.append_ #[40, 40] 40 #[t5, t0]) w2 fun t7 w3 =>
  R t7 w3)
theorem F65_eq (t0 : Value) (w : World) (R : Value → World → Prop) : F65_den t0 w R = vc Tryd.prog F65_ann (Tryd.f65.body.getD .skip) (retE Tryd.prog Tryd.f65.results.toList R) (argEnv [t0]) w := by kernel_rfl
theorem F65_wp {t0 : Value} {w : World} {R : Value → World → Prop} (h : F65_den t0 w R) : callD Tryd.prog 65 #[t0] w R :=
  callD.of_calls (fn := Tryd.f65) (c := Tryd.f65.body.getD .skip) Tryd.func65 (by kernel_rfl) (by kernel_rfl) (calls_of_vc (args := [t0]) F65_ann mixed Tryd.func65 (by kernel_rfl) (by kernel_rfl) (F65_eq t0 w R ▸ h))

/-- (*taciturn/heap.Heap).at -/
def F66_ann : Ann := (Ann.seq Ann.leaf (Ann.seq (Ann.seq Ann.leaf (Ann.cond (Ann.seq Ann.leaf Ann.leaf) Ann.leaf)) (Ann.seq Ann.leaf Ann.leaf)))
def F66_den (t0 : Value) (t1 : Value) (w : World) (R : Value → World → Prop) : Prop :=
  V Tryd.prog (binOp .lss 3 t1 (Value.int IntKind.i64 1)) w fun t6 w1 =>
  gd t6 false (fun K => K t1 w1) w1 fun t8 w2 =>
  gd t6 false (fun K => K t0 w2) w2 fun t9 w3 =>
  gd t6 false (fun K => (Go.Vc.Safe (t9) ∧ K (t9) w3)) w3 fun t10 w4 =>
  gd t6 false (fun K => V Tryd.prog (Instr.fieldAt 120 t10 1) w4 K) w4 fun t11 w5 =>
  gd t6 false (fun K => V Tryd.prog (Instr.loadAt 114 t11) w5 K) w5 fun t12 w6 =>
  gd t6 false (fun K => V Tryd.prog (Builtin.len_ #[114] 3 #[t12]) w6 K) w6 fun t13 w7 =>
  gd t6 false (fun K => V Tryd.prog (binOp .gtr 3 t8 t13) w7 K) w7 fun t14 w8 =>
  pickD t6 (Value.bool true) t14 fun t15 =>
  ifD t15 (
  R (Value.pointer none) w8) (
  Go.Vc.Safe (t0) ∧
  V Tryd.prog (Instr.fieldAt 120 t0 1) w8 fun t18 w11 =>
  V Tryd.prog (Instr.loadAt 114 t18) w11 fun t19 w12 =>
  V Tryd.prog (binOp .sub 3 t1 (Value.int IntKind.i64 1)) w12 fun t21 w13 =>
  V Tryd.prog (Instr.indexAt 114 t19 t21) w13 fun t22 w14 =>
  R t22 w14)
theorem F66_eq (t0 : Value) (t1 : Value) (w : World) (R : Value → World → Prop) : F66_den t0 t1 w R = vc Tryd.prog F66_ann (Tryd.f66.body.getD .skip) (retE Tryd.prog Tryd.f66.results.toList R) (argEnv [t0, t1]) w := by kernel_rfl
theorem F66_wp {t0 : Value} {t1 : Value} {w : World} {R : Value → World → Prop} (h : F66_den t0 t1 w R) : callD Tryd.prog 66 #[t0, t1] w R :=
  callD.of_calls (fn := Tryd.f66) (c := Tryd.f66.body.getD .skip) Tryd.func66 (by kernel_rfl) (by kernel_rfl) (calls_of_vc (args := [t0, t1]) F66_ann mixed Tryd.func66 (by kernel_rfl) (by kernel_rfl) (F66_eq t0 t1 w R ▸ h))

/-- (taciturn/room.service).shows -/
def F67_ann : Ann := (Ann.seq Ann.leaf (Ann.seq Ann.leaf (Ann.cond Ann.leaf Ann.leaf)))
def F67_den (t0 : Value) (t1 : Value) (t2 : Value) (t3 : Value) (t4 : Value) (w : World) (R : Value → World → Prop) : Prop :=
  V Tryd.prog (Instr.box 95 t0) w fun t5 w1 =>
  V Tryd.prog (Instr.fieldAt 95 t5 1) w1 fun t10 w2 =>
  V Tryd.prog (Instr.loadAt 50 t10) w2 fun t11 w3 =>
  V Tryd.prog (do eqGuard .neq 50 (Operand.tmp 11) (Operand.const (Value.pointer none)) t11 (Value.pointer none); binOp .neq 50 t11 (Value.pointer none)) w3 fun t12 w4 =>
  ifD t12 (
  V Tryd.prog (Instr.fieldAt 95 t5 1) w4 fun t13 w5 =>
  V Tryd.prog (Instr.loadAt 50 t13) w5 fun t14 w6 =>
  callD Tryd.prog 84 #[t14, t1, t2, t3, t4] w6 fun t19 w7 =>
  R (.tuple #[]) w7) (
  R (.tuple #[]) w4)
theorem F67_eq (t0 : Value) (t1 : Value) (t2 : Value) (t3 : Value) (t4 : Value) (w : World) (R : Value → World → Prop) : F67_den t0 t1 t2 t3 t4 w R = vc Tryd.prog F67_ann (Tryd.f67.body.getD .skip) (retE Tryd.prog Tryd.f67.results.toList R) (argEnv [t0, t1, t2, t3, t4]) w := by kernel_rfl
theorem F67_wp {t0 : Value} {t1 : Value} {t2 : Value} {t3 : Value} {t4 : Value} {w : World} {R : Value → World → Prop} (h : F67_den t0 t1 t2 t3 t4 w R) : callD Tryd.prog 67 #[t0, t1, t2, t3, t4] w R :=
  callD.of_calls (fn := Tryd.f67) (c := Tryd.f67.body.getD .skip) Tryd.func67 (by kernel_rfl) (by kernel_rfl) (calls_of_vc (args := [t0, t1, t2, t3, t4]) F67_ann mixed Tryd.func67 (by kernel_rfl) (by kernel_rfl) (F67_eq t0 t1 t2 t3 t4 w R ▸ h))

/-- (*taciturn/heap.Heap).Alloc -/
def F68_ann : Ann := (Ann.seq Ann.leaf (Ann.seq (Ann.seq (Ann.draw [0, 1, 2, 4, 12, 20, 36, 64, 192, 320, 576, 1024, 3072, 5120, 9216, 16384, 49152, 81920, 147456, 262144, 786432, 1310720, 2359296, 4194304, 12582912, 4194304, 37748736, 71303168, 138412032, 4194304, 541065216, 1346371584, 2168455168, 4299161600] [0, 1, 2, 4, 12, 20, 32, 64, 192, 320, 512, 1024, 3072, 5120, 8192, 16384, 49152, 81920, 131072, 262144, 786432, 1310720, 2097152, 4194304, 12582912, 4194304, 37748736, 71303168, 138412032, 4194304, 541065216, 1346371584, 2168455168, 4299161600] 0 34 17179869183 (.take 0 (.take 1 (.take 2 (.take 3 (.take 4 (.take 5 (.take 6 (.take 7 (.take 8 (.take 9 (.take 10 (.take 11 (.take 12 (.take 13 (.take 14 (.take 15 (.take 16 (.take 17 (.take 18 (.take 19 (.take 20 (.take 21 (.take 22 (.take 23 (.take 24 (.take 25 (.take 26 (.take 27 (.take 28 (.take 29 (.only 30 (.take 31 (.take 32 (.take 33 .done))))))))))))))))))))))))))))))))))) (Ann.cond (Ann.seq Ann.leaf Ann.leaf) Ann.leaf)) (Ann.seq (Ann.draw [0, 0, 2, 4, 8, 0, 0, 0, 0, 0, 512, 1504, 2048, 4112, 16383, 32767, 49151] [0, 0, 2, 4, 8, 0, 0, 0, 0, 0, 512, 1504, 2048, 4112, 1, 16384, 40960] 0 16 65535 (.take 0 (.take 1 (.take 2 (.take 3 (.take 4 (.take 5 (.take 6 (.take 7 (.take 8 (.take 9 (.only 10 (.take 11 (.only 12 (.only 13 (.take 14 (.take 15 (.last 16)))))))))))))))))) (Ann.seq Ann.leaf Ann.leaf))))
def F68_den (t0 : Value) (t1 : Value) (t2 : Value) (t3 : Value) (t4 : Value) (t5 : Value) (w : World) (R : Value → World → Prop) : Prop :=
  drawD w fun S1 w1 =>
  yieldS Tryd.prog S1 (do eqGuard .neq 3 (Operand.tmp 14) (Operand.const (Value.int IntKind.i64 3)) t2 (Value.int IntKind.i64 3); binOp .neq 3 t2 (Value.int IntKind.i64 3)) fun t15 =>
  gdY t15 true (fun K => K t2) fun t17 =>
  gdY t15 true (fun K => yieldS Tryd.prog S1 (do eqGuard .neq 3 (Operand.tmp 17) (Operand.const (Value.int IntKind.i64 4)) t17 (Value.int IntKind.i64 4); binOp .neq 3 t17 (Value.int IntKind.i64 4)) K) fun t18 =>
  pickD t15 t18 (Value.bool false) fun t19 =>
  gdY t19 false (fun K => K t3) fun t21 =>
  gdY t19 false (fun K => yieldS Tryd.prog S1 (binOp .lss 3 t21 (Value.int IntKind.i64 0)) K) fun t22 =>
  pickD t19 (Value.bool true) t22 fun t23 =>
  gdY t23 false (fun K => K t3) fun t25 =>
  gdY t23 false (fun K => yieldS Tryd.prog S1 (binOp .gtr 3 t25 (Value.int IntKind.i64 2)) K) fun t26 =>
  pickD t23 (Value.bool true) t26 fun t27 =>
  gdY t27 false (fun K => K t5) fun t29 =>
  gdY t27 false (fun K => yieldS Tryd.prog S1 (binOp .lss 3 t29 (Value.int IntKind.i64 0)) K) fun t30 =>
  pickD t27 (Value.bool true) t30 fun t31 =>
  gdY t31 false (fun K => K t5) fun t33 =>
  gdY t31 false (fun K => yieldS Tryd.prog S1 (binOp .gtr 3 t33 (Value.int IntKind.i64 64)) K) fun t34 =>
  pickD t31 (Value.bool true) t34 fun t35 =>
  gdY t35 false (fun K => K t5) fun t37 =>
  gdY t35 false (fun K => yieldS Tryd.prog S1 (binOp .add 3 (Value.int IntKind.i64 8) t37) K) fun t38 =>
  gdY t35 false (fun K => K t0) fun t39 =>
  gdY t35 false (fun K => (Go.Vc.Safe (t39) ∧ K (t39))) fun t40 =>
  gdY t35 false (fun K => yieldS Tryd.prog S1 (Instr.fieldAt 120 t40 0) K) fun t41 =>
  gdY t35 false (fun K => yieldS Tryd.prog S1 (Instr.loadAt 3 t41) K) fun t42 =>
  gdY t35 false (fun K => K t0) fun t43 =>
  gd t35 false (fun K => callD Tryd.prog 85 #[t43] w1 K) w1 fun t44 w2 =>
  S1 w2 ∧
  gdY t35 false (fun K => yieldS Tryd.prog S1 (binOp .sub 3 t42 t44) K) fun t45 =>
  gdY t35 false (fun K => yieldS Tryd.prog S1 (binOp .gtr 3 t38 t45) K) fun t46 =>
  pickD t35 (Value.bool true) t46 fun t47 =>
  ifD t47 (
  R (.tuple #[(Value.int IntKind.i64 0), (Value.bool false)]) w2) (
  drawD w2 fun S3 w3 =>
  Go.Vc.Safe (t0) ∧
  yieldS Tryd.prog S3 (Instr.fieldAt 120 t0 1) fun t51 =>
  yieldS Tryd.prog S3 (Instr.loadAt 114 t51) fun t52 =>
  V Tryd.prog (Instr.makeSlice 40 t5 t5) w3 fun t58 w4 =>
  S3 w4 ∧
  yieldS Tryd.prog S3 (Instr.build 105 #[(0, t1), (1, t2), (2, t3), (3, t4), (4, t58)]) fun t59 =>
  V Tryd.prog (Instr.buildSlice 114 1 #[(0, t59)]) w4 fun t60 w5 =>
  S3 w5 ∧
  V Tryd.prog (Builtin.append_ #[114, 114] 114 #[t52, t60]) w5 fun t61 w6 =>
  S3 w6 ∧
  Go.Vc.Safe (t0) ∧
  yieldS Tryd.prog S3 (Instr.fieldAt 120 t0 1) fun t63 =>
  U Tryd.prog (Instr.storeAt 114 t63 t61) w6 fun _ w7 =>
  Go.Vc.Safe (t0) ∧
  V Tryd.prog (Instr.fieldAt 120 t0 1) w7 fun t66 w9 =>
  V Tryd.prog (Instr.loadAt 114 t66) w9 fun t67 w10 =>
  V Tryd.prog (Builtin.len_ #[114] 3 #[t67]) w10 fun t68 w11 =>
  R (.tuple #[t68, (Value.bool true)]) w11)
theorem F68_eq (t0 : Value) (t1 : Value) (t2 : Value) (t3 : Value) (t4 : Value) (t5 : Value) (w : World) (R : Value → World → Prop) : F68_den t0 t1 t2 t3 t4 t5 w R = vc Tryd.prog F68_ann (Tryd.f68.body.getD .skip) (retE Tryd.prog Tryd.f68.results.toList R) (argEnv [t0, t1, t2, t3, t4, t5]) w := by kernel_rfl
theorem F68_wp {t0 : Value} {t1 : Value} {t2 : Value} {t3 : Value} {t4 : Value} {t5 : Value} {w : World} {R : Value → World → Prop} (h : F68_den t0 t1 t2 t3 t4 t5 w R) : callD Tryd.prog 68 #[t0, t1, t2, t3, t4, t5] w R :=
  callD.of_calls (fn := Tryd.f68) (c := Tryd.f68.body.getD .skip) Tryd.func68 (by kernel_rfl) (by kernel_rfl) (calls_of_vc (args := [t0, t1, t2, t3, t4, t5]) F68_ann mixed Tryd.func68 (by kernel_rfl) (by kernel_rfl) (F68_eq t0 t1 t2 t3 t4 t5 w R ▸ h))

/-- (taciturn/room.service).touch -/
def F69_ann : Ann := (Ann.seq Ann.leaf Ann.leaf)
def F69_den (t0 : Value) (t1 : Value) (t2 : Value) (t3 : Value) (w : World) (R : Value → World → Prop) : Prop :=
  V Tryd.prog (Instr.box 95 t0) w fun t4 w1 =>
  V Tryd.prog (Instr.loadAt 95 t4) w1 fun t8 w2 =>
  callD Tryd.prog 67 #[t8, (Value.int IntKind.i64 2), t1, t2, t3] w2 fun t12 w3 =>
  R (.tuple #[]) w3
theorem F69_eq (t0 : Value) (t1 : Value) (t2 : Value) (t3 : Value) (w : World) (R : Value → World → Prop) : F69_den t0 t1 t2 t3 w R = vc Tryd.prog F69_ann (Tryd.f69.body.getD .skip) (retE Tryd.prog Tryd.f69.results.toList R) (argEnv [t0, t1, t2, t3]) w := by kernel_rfl
theorem F69_wp {t0 : Value} {t1 : Value} {t2 : Value} {t3 : Value} {w : World} {R : Value → World → Prop} (h : F69_den t0 t1 t2 t3 w R) : callD Tryd.prog 69 #[t0, t1, t2, t3] w R :=
  callD.of_calls (fn := Tryd.f69) (c := Tryd.f69.body.getD .skip) Tryd.func69 (by kernel_rfl) (by kernel_rfl) (calls_of_vc (args := [t0, t1, t2, t3]) F69_ann mixed Tryd.func69 (by kernel_rfl) (by kernel_rfl) (F69_eq t0 t1 t2 t3 w R ▸ h))

/-- taciturn/wall.Check -/
def F70_ann : Ann := (Ann.seq Ann.leaf (Ann.seq (Ann.seq Ann.leaf (Ann.cond (Ann.seq Ann.leaf Ann.leaf) Ann.leaf)) (Ann.seq Ann.leaf (Ann.seq (Ann.block (Ann.seq Ann.leaf (Ann.cond (Ann.seq Ann.leaf Ann.leaf) (Ann.seq Ann.leaf (Ann.cond (Ann.seq Ann.leaf Ann.leaf) Ann.leaf))))) (Ann.seq Ann.leaf Ann.leaf)))))
def F70_den (t0 : Value) (t1 : Value) (t2 : Value) (w : World) (R : Value → World → Prop) : Prop :=
  V Tryd.prog (do eqGuard .eql 76 (Operand.tmp 9) (Operand.const (Value.pointer none)) t0 (Value.pointer none); binOp .eql 76 t0 (Value.pointer none)) w fun t10 w1 =>
  ifD t10 (
  R (Value.int IntKind.i64 27013) w1) (
  callD Tryd.prog 55 #[t0, t1] w1 fun t14 w2 =>
  V Tryd.prog (Instr.extract t14 0) w2 fun t15 w3 =>
  V Tryd.prog (Instr.extract t14 1) w3 fun t16 w4 =>
  V Tryd.prog (Instr.alloc 105 true (.tuple #[])) w4 fun t7 w5 =>
  U Tryd.prog (Instr.storeAt 105 t7 t15) w5 fun _ w6 =>
  V Tryd.prog (Op.unary UnOp.not t16) w6 fun t19 w7 =>
  ifD t19 (
  R (Value.int IntKind.i64 28417) w7) (
  V Tryd.prog (Instr.loadAt 105 t7) w7 fun t21 w8 =>
  callD Tryd.prog 86 #[t21, t2] w8 fun t23 w9 =>
  V Tryd.prog (Op.unary UnOp.not t23) w9 fun t24 w10 =>
  ifD t24 (
  R (Value.int IntKind.i64 28420) w10) (
  R (Value.int IntKind.i64 36864) w10)))
theorem F70_eq (t0 : Value) (t1 : Value) (t2 : Value) (w : World) (R : Value → World → Prop) : F70_den t0 t1 t2 w R = vc Tryd.prog F70_ann (Tryd.f70.body.getD .skip) (retE Tryd.prog Tryd.f70.results.toList R) (argEnv [t0, t1, t2]) w := by kernel_rfl
theorem F70_wp {t0 : Value} {t1 : Value} {t2 : Value} {w : World} {R : Value → World → Prop} (h : F70_den t0 t1 t2 w R) : callD Tryd.prog 70 #[t0, t1, t2] w R :=
  callD.of_calls (fn := Tryd.f70) (c := Tryd.f70.body.getD .skip) Tryd.func70 (by kernel_rfl) (by kernel_rfl) (calls_of_vc (args := [t0, t1, t2]) F70_ann mixed Tryd.func70 (by kernel_rfl) (by kernel_rfl) (F70_eq t0 t1 t2 w R ▸ h))

/-- (taciturn/room.service).ranges -/
def F71_ann : Ann := (Ann.seq Ann.leaf (Ann.seq (Ann.draw [0, 1, 2, 4, 8, 0, 0, 0, 0, 256, 752, 2047] [0, 1, 2, 4, 8, 0, 0, 0, 0, 256, 752, 1024] 0 12 4095 (.take 0 (.take 1 (.take 2 (.take 3 (.take 4 (.take 5 (.take 6 (.take 7 (.take 8 (.take 9 (.only 10 (.take 11 .done))))))))))))) Ann.leaf))
def F71_den (t0 : Value) (t1 : Value) (t2 : Value) (t3 : Value) (w : World) (R : Value → World → Prop) : Prop :=
  V Tryd.prog (Instr.box 95 t0) w fun t4 w1 =>
  drawD w1 fun S1 w2 =>
  yieldS Tryd.prog S1 (Instr.fieldAt 95 t4 0) fun t9 =>
  yieldS Tryd.prog S1 (Instr.loadAt 23 t9) fun t10 =>
  Go.Vc.Safe (t10) ∧
  yieldS Tryd.prog S1 (Instr.fieldAt 80 t10 0) fun t12 =>
  yieldS Tryd.prog S1 (Instr.loadAt 76 t12) fun t13 =>
  yieldS Tryd.prog S1 (Instr.fieldAt 95 t4 2) fun t17 =>
  yieldS Tryd.prog S1 (Instr.loadAt 3 t17) fun t18 =>
  callD Tryd.prog 87 #[t13, t1, t2, t3, t18] w2 fun t19 w3 =>
  S1 w3 ∧
  R t19 w3
theorem F71_eq (t0 : Value) (t1 : Value) (t2 : Value) (t3 : Value) (w : World) (R : Value → World → Prop) : F71_den t0 t1 t2 t3 w R = vc Tryd.prog F71_ann (Tryd.f71.body.getD .skip) (retE Tryd.prog Tryd.f71.results.toList R) (argEnv [t0, t1, t2, t3]) w := by kernel_rfl
theorem F71_wp {t0 : Value} {t1 : Value} {t2 : Value} {t3 : Value} {w : World} {R : Value → World → Prop} (h : F71_den t0 t1 t2 t3 w R) : callD Tryd.prog 71 #[t0, t1, t2, t3] w R :=
  callD.of_calls (fn := Tryd.f71) (c := Tryd.f71.body.getD .skip) Tryd.func71 (by kernel_rfl) (by kernel_rfl) (calls_of_vc (args := [t0, t1, t2, t3]) F71_ann mixed Tryd.func71 (by kernel_rfl) (by kernel_rfl) (F71_eq t0 t1 t2 t3 w R ▸ h))

/-- (*taciturn/heap.Heap).Get -/
def F72_ann : Ann := (Ann.seq Ann.leaf (Ann.seq Ann.leaf (Ann.seq (Ann.seq Ann.leaf (Ann.cond (Ann.seq Ann.leaf Ann.leaf) Ann.leaf)) (Ann.seq Ann.leaf Ann.leaf))))
def F72_den (t0 : Value) (t1 : Value) (t2 : Value) (w : World) (R : Value → World → Prop) : Prop :=
  callD Tryd.prog 66 #[t0, t1] w fun t11 w1 =>
  V Tryd.prog (do eqGuard .eql 138 (Operand.tmp 12) (Operand.const (Value.pointer none)) t11 (Value.pointer none); binOp .eql 138 t11 (Value.pointer none)) w1 fun t13 w2 =>
  gd t13 false (fun K => K t2 w2) w2 fun t15 w3 =>
  gd t13 false (fun K => V Tryd.prog (binOp .lss 3 t15 (Value.int IntKind.i64 0)) w3 K) w3 fun t16 w4 =>
  pickD t13 (Value.bool true) t16 fun t17 =>
  gd t17 false (fun K => K t2 w4) w4 fun t19 w6 =>
  gd t17 false (fun K => K t11 w6) w6 fun t20 w7 =>
  gd t17 false (fun K => (Go.Vc.Safe (t20) ∧ K (t20) w7)) w7 fun t21 w8 =>
  gd t17 false (fun K => V Tryd.prog (Instr.fieldAt 105 t21 4) w8 K) w8 fun t22 w9 =>
  gd t17 false (fun K => V Tryd.prog (Instr.loadAt 40 t22) w9 K) w9 fun t23 w10 =>
  gd t17 false (fun K => V Tryd.prog (Builtin.len_ #[40] 3 #[t23]) w10 K) w10 fun t24 w11 =>
  gd t17 false (fun K => V Tryd.prog (binOp .geq 3 t19 t24) w11 K) w11 fun t25 w12 =>
  pickD t17 (Value.bool true) t25 fun t26 =>
  ifD t26 (
  R (.tuple #[(Value.int IntKind.u8 0), (Value.bool false)]) w12) (
  Go.Vc.Safe (t11) ∧
  V Tryd.prog (Instr.fieldAt 105 t11 4) w12 fun t29 w15 =>
  V Tryd.prog (Instr.loadAt 40 t29) w15 fun t30 w16 =>
  V Tryd.prog (Instr.indexAt 40 t30 t2) w16 fun t32 w17 =>
  V Tryd.prog (Instr.loadAt 5 t32) w17 fun t33 w18 =>
  R (.tuple #[t33, (Value.bool true)]) w18)
theorem F72_eq (t0 : Value) (t1 : Value) (t2 : Value) (w : World) (R : Value → World → Prop) : F72_den t0 t1 t2 w R = vc Tryd.prog F72_ann (Tryd.f72.body.getD .skip) (retE Tryd.prog Tryd.f72.results.toList R) (argEnv [t0, t1, t2]) w := by kernel_rfl
theorem F72_wp {t0 : Value} {t1 : Value} {t2 : Value} {w : World} {R : Value → World → Prop} (h : F72_den t0 t1 t2 w R) : callD Tryd.prog 72 #[t0, t1, t2] w R :=
  callD.of_calls (fn := Tryd.f72) (c := Tryd.f72.body.getD .skip) Tryd.func72 (by kernel_rfl) (by kernel_rfl) (calls_of_vc (args := [t0, t1, t2]) F72_ann mixed Tryd.func72 (by kernel_rfl) (by kernel_rfl) (F72_eq t0 t1 t2 w R ▸ h))

/-- (*taciturn/heap.Heap).Put -/
def F73_ann : Ann := (Ann.seq Ann.leaf (Ann.seq (Ann.seq Ann.leaf (Ann.seq Ann.leaf (Ann.cond (Ann.seq Ann.leaf Ann.leaf) Ann.leaf))) (Ann.seq Ann.leaf (Ann.seq Ann.leaf Ann.leaf))))
def F73_den (t0 : Value) (t1 : Value) (t2 : Value) (t3 : Value) (w : World) (R : Value → World → Prop) : Prop :=
  callD Tryd.prog 72 #[t0, t1, t2] w fun t15 w1 =>
  V Tryd.prog (Instr.extract t15 0) w1 fun t16 w2 =>
  V Tryd.prog (Instr.extract t15 1) w2 fun t17 w3 =>
  V Tryd.prog (Op.unary UnOp.not t17) w3 fun t19 w4 =>
  ifD t19 (
  R (Value.bool false) w4) (
  callD Tryd.prog 66 #[t0, t1] w4 fun t22 w5 =>
  Go.Vc.Safe (t22) ∧
  V Tryd.prog (Instr.fieldAt 105 t22 4) w5 fun t24 w7 =>
  V Tryd.prog (Instr.loadAt 40 t24) w7 fun t25 w8 =>
  V Tryd.prog (Instr.indexAt 40 t25 t2) w8 fun t28 w9 =>
  U Tryd.prog (Instr.storeAt 5 t28 t3) w9 fun _ w10 =>
  R (Value.bool true) w10)
theorem F73_eq (t0 : Value) (t1 : Value) (t2 : Value) (t3 : Value) (w : World) (R : Value → World → Prop) : F73_den t0 t1 t2 t3 w R = vc Tryd.prog F73_ann (Tryd.f73.body.getD .skip) (retE Tryd.prog Tryd.f73.results.toList R) (argEnv [t0, t1, t2, t3]) w := by kernel_rfl
theorem F73_wp {t0 : Value} {t1 : Value} {t2 : Value} {t3 : Value} {w : World} {R : Value → World → Prop} (h : F73_den t0 t1 t2 t3 w R) : callD Tryd.prog 73 #[t0, t1, t2, t3] w R :=
  callD.of_calls (fn := Tryd.f73) (c := Tryd.f73.body.getD .skip) Tryd.func73 (by kernel_rfl) (by kernel_rfl) (calls_of_vc (args := [t0, t1, t2, t3]) F73_ann mixed Tryd.func73 (by kernel_rfl) (by kernel_rfl) (F73_eq t0 t1 t2 t3 w R ▸ h))

/-- (taciturn/room.service).both -/
def F74_ann : Ann := (Ann.seq Ann.leaf (Ann.seq Ann.leaf (Ann.seq Ann.leaf (Ann.seq (Ann.draw [0, 0, 2, 4, 0, 16, 32, 0, 201] [0, 0, 2, 4, 0, 16, 32, 0, 201] 0 9 511 (.take 0 (.take 1 (.take 2 (.take 3 (.take 4 (.take 5 (.take 6 (.take 7 (.only 8 .done)))))))))) (Ann.seq (Ann.draw [0, 0, 2, 4, 0, 16, 32, 0, 201] [0, 0, 2, 4, 0, 16, 32, 0, 201] 0 9 511 (.take 0 (.take 1 (.take 2 (.take 3 (.take 4 (.take 5 (.take 6 (.take 7 (.only 8 .done)))))))))) (Ann.seq (Ann.seq (Ann.draw [0, 0, 2, 4, 0, 16, 32, 0, 201, 511] [0, 0, 2, 4, 0, 16, 32, 0, 201, 256] 0 10 1023 (.take 0 (.take 1 (.take 2 (.take 3 (.take 4 (.take 5 (.take 6 (.take 7 (.only 8 (.take 9 .done))))))))))) (Ann.seq Ann.leaf (Ann.cond (Ann.seq Ann.leaf Ann.leaf) Ann.leaf))) (Ann.seq (Ann.draw [0, 0, 2, 4, 0, 16, 32, 0, 201, 511] [0, 0, 2, 4, 0, 16, 32, 0, 201, 256] 0 10 1023 (.take 0 (.take 1 (.take 2 (.take 3 (.take 4 (.take 5 (.take 6 (.take 7 (.only 8 (.take 9 .done))))))))))) Ann.leaf)))))))
def F74_den (t0 : Value) (w : World) (R : Value → World → Prop) : Prop :=
  V Tryd.prog (Instr.box 95 t0) w fun t1 w1 =>
  V Tryd.prog (Instr.fieldAt 95 t1 5) w1 fun t6 w2 =>
  V Tryd.prog (Instr.loadAt 32 t6) w2 fun t7 w3 =>
  V Tryd.prog (Instr.indexAt 32 t7 (Value.int IntKind.i64 4)) w3 fun t9 w4 =>
  V Tryd.prog (Instr.loadAt 3 t9) w4 fun t10 w5 =>
  drawD w5 fun S3 w6 =>
  yieldS Tryd.prog S3 (Instr.loadAt 95 t1) fun t11 =>
  yieldS Tryd.prog S3 (Instr.indexAt 32 t7 (Value.int IntKind.i64 0)) fun t13 =>
  yieldS Tryd.prog S3 (Instr.loadAt 3 t13) fun t14 =>
  yieldS Tryd.prog S3 (Instr.indexAt 32 t7 (Value.int IntKind.i64 1)) fun t16 =>
  yieldS Tryd.prog S3 (Instr.loadAt 3 t16) fun t17 =>
  callD Tryd.prog 69 #[t11, t14, t17, t10] w6 fun t19 w7 =>
  S3 w7 ∧
  drawD w7 fun S4 w8 =>
  yieldS Tryd.prog S4 (Instr.loadAt 95 t1) fun t20 =>
  yieldS Tryd.prog S4 (Instr.indexAt 32 t7 (Value.int IntKind.i64 2)) fun t22 =>
  yieldS Tryd.prog S4 (Instr.loadAt 3 t22) fun t23 =>
  yieldS Tryd.prog S4 (Instr.indexAt 32 t7 (Value.int IntKind.i64 3)) fun t25 =>
  yieldS Tryd.prog S4 (Instr.loadAt 3 t25) fun t26 =>
  callD Tryd.prog 69 #[t20, t23, t26, t10] w8 fun t28 w9 =>
  S4 w9 ∧
  drawD w9 fun S5 w10 =>
  yieldS Tryd.prog S5 (Instr.loadAt 95 t1) fun t29 =>
  yieldS Tryd.prog S5 (Instr.indexAt 32 t7 (Value.int IntKind.i64 0)) fun t31 =>
  yieldS Tryd.prog S5 (Instr.loadAt 3 t31) fun t32 =>
  yieldS Tryd.prog S5 (Instr.indexAt 32 t7 (Value.int IntKind.i64 1)) fun t34 =>
  yieldS Tryd.prog S5 (Instr.loadAt 3 t34) fun t35 =>
  callD Tryd.prog 71 #[t29, t32, t35, t10] w10 fun t37 w11 =>
  S5 w11 ∧
  V Tryd.prog (do eqGuard .neq 3 (Operand.tmp 38) (Operand.const (Value.int IntKind.i64 36864)) t37 (Value.int IntKind.i64 36864); binOp .neq 3 t37 (Value.int IntKind.i64 36864)) w11 fun t39 w12 =>
  ifD t39 (
  R t37 w12) (
  drawD w12 fun S8 w13 =>
  yieldS Tryd.prog S8 (Instr.loadAt 95 t1) fun t41 =>
  yieldS Tryd.prog S8 (Instr.indexAt 32 t7 (Value.int IntKind.i64 2)) fun t43 =>
  yieldS Tryd.prog S8 (Instr.loadAt 3 t43) fun t44 =>
  yieldS Tryd.prog S8 (Instr.indexAt 32 t7 (Value.int IntKind.i64 3)) fun t46 =>
  yieldS Tryd.prog S8 (Instr.loadAt 3 t46) fun t47 =>
  callD Tryd.prog 71 #[t41, t44, t47, t10] w13 fun t49 w14 =>
  S8 w14 ∧
  R t49 w14)
theorem F74_eq (t0 : Value) (w : World) (R : Value → World → Prop) : F74_den t0 w R = vc Tryd.prog F74_ann (Tryd.f74.body.getD .skip) (retE Tryd.prog Tryd.f74.results.toList R) (argEnv [t0]) w := by kernel_rfl
theorem F74_wp {t0 : Value} {w : World} {R : Value → World → Prop} (h : F74_den t0 w R) : callD Tryd.prog 74 #[t0] w R :=
  callD.of_calls (fn := Tryd.f74) (c := Tryd.f74.body.getD .skip) Tryd.func74 (by kernel_rfl) (by kernel_rfl) (calls_of_vc (args := [t0]) F74_ann mixed Tryd.func74 (by kernel_rfl) (by kernel_rfl) (F74_eq t0 w R ▸ h))

/-- (taciturn/room.service).bytes -/
def F75_ann : Ann := (Ann.seq Ann.leaf (Ann.seq Ann.leaf (Ann.seq Ann.leaf Ann.leaf)))
def F75_den (t0 : Value) (t1 : Value) (t2 : Value) (t3 : Value) (w : World) (R : Value → World → Prop) : Prop :=
  V Tryd.prog (Instr.box 95 t0) w fun t4 w1 =>
  V Tryd.prog (Instr.fieldAt 95 t4 0) w1 fun t12 w2 =>
  V Tryd.prog (Instr.loadAt 23 t12) w2 fun t13 w3 =>
  Go.Vc.Safe (t13) ∧
  V Tryd.prog (Instr.fieldAt 80 t13 0) w3 fun t15 w5 =>
  V Tryd.prog (Instr.loadAt 76 t15) w5 fun t16 w6 =>
  callD Tryd.prog 55 #[t16, t1] w6 fun t18 w7 =>
  V Tryd.prog (Instr.extract t18 0) w7 fun t19 w8 =>
  V Tryd.prog (Instr.extract t18 1) w8 fun t20 w9 =>
  V Tryd.prog (Instr.alloc 105 true (.tuple #[])) w9 fun t9 w10 =>
  U Tryd.prog (Instr.storeAt 105 t9 t19) w10 fun _ w11 =>
  V Tryd.prog (Instr.fieldAt 105 t9 4) w11 fun t21 w12 =>
  V Tryd.prog (Instr.loadAt 40 t21) w12 fun t22 w13 =>
  V Tryd.prog (binOp .add 3 t2 t3) w13 fun t26 w14 =>
  V Tryd.prog (Instr.sliceAt 40 t22 (some t2) (some t26) none) w14 fun t27 w15 =>
  R t27 w15
theorem F75_eq (t0 : Value) (t1 : Value) (t2 : Value) (t3 : Value) (w : World) (R : Value → World → Prop) : F75_den t0 t1 t2 t3 w R = vc Tryd.prog F75_ann (Tryd.f75.body.getD .skip) (retE Tryd.prog Tryd.f75.results.toList R) (argEnv [t0, t1, t2, t3]) w := by kernel_rfl
theorem F75_wp {t0 : Value} {t1 : Value} {t2 : Value} {t3 : Value} {w : World} {R : Value → World → Prop} (h : F75_den t0 t1 t2 t3 w R) : callD Tryd.prog 75 #[t0, t1, t2, t3] w R :=
  callD.of_calls (fn := Tryd.f75) (c := Tryd.f75.body.getD .skip) Tryd.func75 (by kernel_rfl) (by kernel_rfl) (calls_of_vc (args := [t0, t1, t2, t3]) F75_ann mixed Tryd.func75 (by kernel_rfl) (by kernel_rfl) (F75_eq t0 t1 t2 t3 w R ▸ h))

/-- taciturn/word.SameBytes -/
def F76_ann : Ann := (Ann.seq Ann.leaf (Ann.seq (Ann.seq Ann.leaf (Ann.cond (Ann.seq Ann.leaf Ann.leaf) Ann.leaf)) (Ann.seq Ann.leaf (Ann.seq (Ann.seq Ann.leaf (Ann.block (Ann.loop [5, 6, 14, 15, 16, 17, 18, 19, 20, 21, 22, 23, 24, 25, 26, 27, 28] [5, 14] (Ann.seq Ann.leaf (Ann.seq (Ann.cond Ann.leaf Ann.leaf) (Ann.seq (Ann.block (Ann.seq Ann.leaf (Ann.draw [0, 0, 0, 6, 8, 0, 0, 96, 128, 272, 513, 2047] [0, 0, 0, 6, 8, 0, 0, 96, 128, 272, 513, 1025] 0 12 4095 (.take 0 (.take 1 (.take 2 (.take 3 (.take 4 (.take 5 (.take 6 (.take 7 (.take 8 (.take 9 (.take 10 (.take 11 .done))))))))))))))) Ann.leaf)))))) (Ann.seq Ann.leaf Ann.leaf)))))
def F76_den (t0 : Value) (t1 : Value) (w : World) (R : Value → World → Prop) : Prop :=
  V Tryd.prog (Builtin.len_ #[40] 3 #[t0]) w fun t8 w1 =>
  V Tryd.prog (Builtin.len_ #[40] 3 #[t1]) w1 fun t10 w2 =>
  V Tryd.prog (do eqGuard .neq 3 (Operand.tmp 8) (Operand.tmp 10) t8 t10; binOp .neq 3 t8 t10) w2 fun t11 w3 =>
  ifD t11 (
  R (Value.int IntKind.i32 0) w3) (
  V Tryd.prog (Builtin.len_ #[40] 3 #[t0]) w3 fun t13 w4 =>
  ∃ (I1 : NP 2) (μ1 : NF 2), I1 (Value.int IntKind.u8 0) (Value.int IntKind.i64 0) w4 ∧
  ∀ (t5 : Value) (t14 : Value), ∀ w5 : World, I1 t5 t14 w5 → ∀ _f : Env,
  V Tryd.prog (binOp .lss 3 t14 t13) w5 fun t15 w6 =>
  ifD t15 (
  drawD w6 fun S7 w7 =>
  yieldS Tryd.prog S7 (Instr.indexAt 40 t0 t14) fun t20 =>
  yieldS Tryd.prog S7 (Instr.loadAt 5 t20) fun t21 =>
  yieldS Tryd.prog S7 (Instr.indexAt 40 t1 t14) fun t24 =>
  yieldS Tryd.prog S7 (Instr.loadAt 5 t24) fun t25 =>
  yieldS Tryd.prog S7 (binOp .xor 5 t21 t25) fun t26 =>
  yieldS Tryd.prog S7 (binOp .or 5 t5 t26) fun t27 =>
  V Tryd.prog (binOp .add 3 t14 (Value.int IntKind.i64 1)) w7 fun t28 w8 =>
  I1 t27 t28 w8 ∧ μ1 t27 t28 w8 < μ1 t5 t14 w5) (
  V Tryd.prog (convert 5 21 t5) w6 fun t30 w9 =>
  callD Tryd.prog 88 #[t30] w9 fun t31 w10 =>
  V Tryd.prog (binOp .sub 21 (Value.int IntKind.i32 1) t31) w10 fun t32 w11 =>
  R t32 w11))
theorem F76_eq (t0 : Value) (t1 : Value) (w : World) (R : Value → World → Prop) : F76_den t0 t1 w R = vc Tryd.prog F76_ann (Tryd.f76.body.getD .skip) (retE Tryd.prog Tryd.f76.results.toList R) (argEnv [t0, t1]) w := by kernel_rfl
theorem F76_wp {t0 : Value} {t1 : Value} {w : World} {R : Value → World → Prop} (h : F76_den t0 t1 w R) : callD Tryd.prog 76 #[t0, t1] w R :=
  callD.of_calls (fn := Tryd.f76) (c := Tryd.f76.body.getD .skip) Tryd.func76 (by kernel_rfl) (by kernel_rfl) (calls_of_vc (args := [t0, t1]) F76_ann mixed Tryd.func76 (by kernel_rfl) (by kernel_rfl) (F76_eq t0 t1 w R ▸ h))

/-- taciturn/taciturnref1.yes -/
def F77_ann : Ann := (Ann.seq Ann.leaf (Ann.seq (Ann.seq Ann.leaf (Ann.cond (Ann.seq Ann.leaf Ann.leaf) Ann.leaf)) (Ann.seq Ann.leaf Ann.leaf)))
def F77_den (t0 : Value) (w : World) (R : Value → World → Prop) : Prop :=
  ifD t0 (
  R (Value.int IntKind.i32 1) w) (
  R (Value.int IntKind.i32 0) w)
theorem F77_eq (t0 : Value) (w : World) (R : Value → World → Prop) : F77_den t0 w R = vc Tryd.prog F77_ann (Tryd.f77.body.getD .skip) (retE Tryd.prog Tryd.f77.results.toList R) (argEnv [t0]) w := by kernel_rfl
theorem F77_wp {t0 : Value} {w : World} {R : Value → World → Prop} (h : F77_den t0 w R) : callD Tryd.prog 77 #[t0] w R :=
  callD.of_calls (fn := Tryd.f77) (c := Tryd.f77.body.getD .skip) Tryd.func77 (by kernel_rfl) (by kernel_rfl) (calls_of_vc (args := [t0]) F77_ann mixed Tryd.func77 (by kernel_rfl) (by kernel_rfl) (F77_eq t0 w R ▸ h))

/-- (*taciturn/taciturnref8.Heap).Used -/
def F78_ann : Ann := (Ann.seq Ann.leaf (Ann.seq Ann.leaf (Ann.seq (Ann.seq Ann.leaf (Ann.block (Ann.loop [3, 4, 5, 6, 7, 8, 9, 10, 11, 12, 13, 14, 15, 16, 17, 18, 19, 20, 21, 22, 23, 24, 25] [3, 4] (Ann.seq (Ann.seq Ann.leaf (Ann.cond Ann.leaf Ann.leaf)) (Ann.seq (Ann.block Ann.leaf) Ann.leaf))))) (Ann.seq Ann.leaf Ann.leaf))))
def F78_den (t0 : Value) (w : World) (R : Value → World → Prop) : Prop :=
  ∃ (I1 : NP 2) (μ1 : NF 2), I1 (Value.int IntKind.i64 0) (Value.int IntKind.i64 2) w ∧
  ∀ (t3 : Value) (t4 : Value), ∀ w1 : World, I1 t3 t4 w1 → ∀ _f : Env,
  Go.Vc.Safe (t0) ∧
  V Tryd.prog (Instr.fieldAt 116 t0 1) w1 fun t8 w3 =>
  V Tryd.prog (Instr.loadAt 114 t8) w3 fun t9 w4 =>
  V Tryd.prog (Builtin.len_ #[114] 3 #[t9]) w4 fun t10 w5 =>
  V Tryd.prog (binOp .lss 3 t4 t10) w5 fun t11 w6 =>
  ifD t11 (
  V Tryd.prog (binOp .add 3 t3 (Value.int IntKind.i64 8)) w6 fun t15 w7 =>
  Go.Vc.Safe (t0) ∧
  V Tryd.prog (Instr.fieldAt 116 t0 1) w7 fun t18 w9 =>
  V Tryd.prog (Instr.loadAt 114 t18) w9 fun t19 w10 =>
  V Tryd.prog (Instr.indexAt 114 t19 t4) w10 fun t21 w11 =>
  V Tryd.prog (Instr.fieldAt 105 t21 4) w11 fun t22 w12 =>
  V Tryd.prog (Instr.loadAt 40 t22) w12 fun t23 w13 =>
  V Tryd.prog (Builtin.len_ #[40] 3 #[t23]) w13 fun t24 w14 =>
  V Tryd.prog (binOp .add 3 t15 t24) w14 fun t25 w15 =>
  V Tryd.prog (binOp .add 3 t4 (Value.int IntKind.i64 1)) w15 fun t13 w16 =>
  I1 t25 t13 w16 ∧ μ1 t25 t13 w16 < μ1 t3 t4 w1) (
  R t3 w6)
theorem F78_eq (t0 : Value) (w : World) (R : Value → World → Prop) : F78_den t0 w R = vc Tryd.prog F78_ann (Tryd.f78.body.getD .skip) (retE Tryd.prog Tryd.f78.results.toList R) (argEnv [t0]) w := by kernel_rfl
theorem F78_wp {t0 : Value} {w : World} {R : Value → World → Prop} (h : F78_den t0 w R) : callD Tryd.prog 78 #[t0] w R :=
  callD.of_calls (fn := Tryd.f78) (c := Tryd.f78.body.getD .skip) Tryd.func78 (by kernel_rfl) (by kernel_rfl) (calls_of_vc (args := [t0]) F78_ann mixed Tryd.func78 (by kernel_rfl) (by kernel_rfl) (F78_eq t0 w R ▸ h))

/-- taciturn/taciturnref8.May -/
def F79_ann : Ann := (Ann.seq Ann.leaf (Ann.seq Ann.leaf Ann.leaf))
def F79_den (t0 : Value) (t1 : Value) (w : World) (R : Value → World → Prop) : Prop :=
  V Tryd.prog (Instr.box 105 t0) w fun t2 w1 =>
  V Tryd.prog (Instr.fieldAt 105 t2 0) w1 fun t5 w2 =>
  V Tryd.prog (Instr.loadAt 3 t5) w2 fun t6 w3 =>
  V Tryd.prog (do eqGuard .eql 3 (Operand.tmp 6) (Operand.const (Value.int IntKind.i64 (-1))) t6 (Value.int IntKind.i64 (-1)); binOp .eql 3 t6 (Value.int IntKind.i64 (-1))) w3 fun t7 w4 =>
  gd t7 false (fun K => V Tryd.prog (Instr.fieldAt 105 t2 0) w4 K) w4 fun t9 w5 =>
  gd t7 false (fun K => V Tryd.prog (Instr.loadAt 3 t9) w5 K) w5 fun t10 w6 =>
  gd t7 false (fun K => K t1 w6) w6 fun t11 w7 =>
  gd t7 false (fun K => V Tryd.prog (do eqGuard .eql 3 (Operand.tmp 10) (Operand.tmp 11) t10 t11; binOp .eql 3 t10 t11) w7 K) w7 fun t12 w8 =>
  pickD t7 (Value.bool true) t12 fun t13 =>
  gd t13 false (fun K => V Tryd.prog (Instr.fieldAt 105 t2 3) w8 K) w8 fun t15 w10 =>
  gd t13 false (fun K => V Tryd.prog (Instr.loadAt 4 t15) w10 K) w10 fun t16 w11 =>
  pickD t13 (Value.bool true) t16 fun t17 =>
  R t17 w11
theorem F79_eq (t0 : Value) (t1 : Value) (w : World) (R : Value → World → Prop) : F79_den t0 t1 w R = vc Tryd.prog F79_ann (Tryd.f79.body.getD .skip) (retE Tryd.prog Tryd.f79.results.toList R) (argEnv [t0, t1]) w := by kernel_rfl
theorem F79_wp {t0 : Value} {t1 : Value} {w : World} {R : Value → World → Prop} (h : F79_den t0 t1 w R) : callD Tryd.prog 79 #[t0, t1] w R :=
  callD.of_calls (fn := Tryd.f79) (c := Tryd.f79.body.getD .skip) Tryd.func79 (by kernel_rfl) (by kernel_rfl) (calls_of_vc (args := [t0, t1]) F79_ann mixed Tryd.func79 (by kernel_rfl) (by kernel_rfl) (F79_eq t0 t1 w R ▸ h))

/-- (*taciturn/leak.Trace).Add -/
def F84_ann : Ann := (Ann.seq Ann.leaf (Ann.seq (Ann.seq Ann.leaf (Ann.cond (Ann.seq Ann.leaf Ann.leaf) Ann.leaf)) (Ann.seq Ann.leaf (Ann.seq Ann.leaf Ann.leaf))))
def F84_den (t0 : Value) (t1 : Value) (t2 : Value) (t3 : Value) (t4 : Value) (w : World) (R : Value → World → Prop) : Prop :=
  Go.Vc.Safe (t0) ∧
  V Tryd.prog (Instr.fieldAt 91 t0 0) w fun t13 w2 =>
  V Tryd.prog (Instr.loadAt 55 t13) w2 fun t14 w3 =>
  V Tryd.prog (Builtin.len_ #[55] 3 #[t14]) w3 fun t15 w4 =>
  V Tryd.prog (binOp .geq 3 t15 (Value.int IntKind.i64 200000)) w4 fun t16 w5 =>
  ifD t16 (
  R (Value.bool false) w5) (
  Go.Vc.Safe (t0) ∧
  V Tryd.prog (Instr.fieldAt 91 t0 0) w5 fun t20 w7 =>
  V Tryd.prog (Instr.loadAt 55 t20) w7 fun t21 w8 =>
  V Tryd.prog (Instr.build 74 #[(0, t1), (1, t2), (2, t3), (3, t4)]) w8 fun t26 w9 =>
  V Tryd.prog (Instr.buildSlice 55 1 #[(0, t26)]) w9 fun t27 w10 =>
  V Tryd.prog (Builtin.append_ #[55, 55] 55 #[t21, t27]) w10 fun t28 w11 =>
  Go.Vc.Safe (t0) ∧
  V Tryd.prog (Instr.fieldAt 91 t0 0) w11 fun t30 w13 =>
  U Tryd.prog (Instr.storeAt 55 t30 t28) w13 fun _ w14 =>
  R (Value.bool true) w14)
theorem F84_eq (t0 : Value) (t1 : Value) (t2 : Value) (t3 : Value) (t4 : Value) (w : World) (R : Value → World → Prop) : F84_den t0 t1 t2 t3 t4 w R = vc Tryd.prog F84_ann (Tryd.f84.body.getD .skip) (retE Tryd.prog Tryd.f84.results.toList R) (argEnv [t0, t1, t2, t3, t4]) w := by kernel_rfl
theorem F84_wp {t0 : Value} {t1 : Value} {t2 : Value} {t3 : Value} {t4 : Value} {w : World} {R : Value → World → Prop} (h : F84_den t0 t1 t2 t3 t4 w R) : callD Tryd.prog 84 #[t0, t1, t2, t3, t4] w R :=
  callD.of_calls (fn := Tryd.f84) (c := Tryd.f84.body.getD .skip) Tryd.func84 (by kernel_rfl) (by kernel_rfl) (calls_of_vc (args := [t0, t1, t2, t3, t4]) F84_ann mixed Tryd.func84 (by kernel_rfl) (by kernel_rfl) (F84_eq t0 t1 t2 t3 t4 w R ▸ h))

/-- (*taciturn/heap.Heap).Used -/
def F85_ann : Ann := (Ann.seq Ann.leaf (Ann.seq Ann.leaf (Ann.seq (Ann.seq Ann.leaf (Ann.block (Ann.loop [3, 5, 12, 13, 14, 15, 16, 17, 18, 19, 20, 21, 22] [3, 12] (Ann.seq Ann.leaf (Ann.seq (Ann.cond Ann.leaf Ann.leaf) (Ann.seq (Ann.block (Ann.seq Ann.leaf Ann.leaf)) Ann.leaf)))))) (Ann.seq Ann.leaf Ann.leaf))))
def F85_den (t0 : Value) (w : World) (R : Value → World → Prop) : Prop :=
  Go.Vc.Safe (t0) ∧
  V Tryd.prog (Instr.fieldAt 120 t0 1) w fun t8 w2 =>
  V Tryd.prog (Instr.loadAt 114 t8) w2 fun t9 w3 =>
  V Tryd.prog (Instr.sliceAt 114 t9 (some (Value.int IntKind.i64 2)) none none) w3 fun t10 w4 =>
  V Tryd.prog (Builtin.len_ #[114] 3 #[t10]) w4 fun t11 w5 =>
  ∃ (I1 : NP 2) (μ1 : NF 2), I1 (Value.int IntKind.i64 0) (Value.int IntKind.i64 0) w5 ∧
  ∀ (t3 : Value) (t12 : Value), ∀ w6 : World, I1 t3 t12 w6 → ∀ _f : Env,
  V Tryd.prog (binOp .lss 3 t12 t11) w6 fun t13 w7 =>
  ifD t13 (
  V Tryd.prog (Instr.indexAt 114 t10 t12) w7 fun t14 w8 =>
  V Tryd.prog (Instr.loadAt 105 t14) w8 fun t15 w9 =>
  V Tryd.prog (Instr.alloc 105 true (.tuple #[])) w9 fun t5 w10 =>
  U Tryd.prog (Instr.storeAt 105 t5 t15) w10 fun _ w11 =>
  V Tryd.prog (Instr.fieldAt 105 t5 4) w11 fun t17 w12 =>
  V Tryd.prog (Instr.loadAt 40 t17) w12 fun t18 w13 =>
  V Tryd.prog (Builtin.len_ #[40] 3 #[t18]) w13 fun t19 w14 =>
  V Tryd.prog (binOp .add 3 (Value.int IntKind.i64 8) t19) w14 fun t20 w15 =>
  V Tryd.prog (binOp .add 3 t3 t20) w15 fun t21 w16 =>
  V Tryd.prog (binOp .add 3 t12 (Value.int IntKind.i64 1)) w16 fun t22 w17 =>
  I1 t21 t22 w17 ∧ μ1 t21 t22 w17 < μ1 t3 t12 w6) (
  R t3 w7)
theorem F85_eq (t0 : Value) (w : World) (R : Value → World → Prop) : F85_den t0 w R = vc Tryd.prog F85_ann (Tryd.f85.body.getD .skip) (retE Tryd.prog Tryd.f85.results.toList R) (argEnv [t0]) w := by kernel_rfl
theorem F85_wp {t0 : Value} {w : World} {R : Value → World → Prop} (h : F85_den t0 w R) : callD Tryd.prog 85 #[t0] w R :=
  callD.of_calls (fn := Tryd.f85) (c := Tryd.f85.body.getD .skip) Tryd.func85 (by kernel_rfl) (by kernel_rfl) (calls_of_vc (args := [t0]) F85_ann mixed Tryd.func85 (by kernel_rfl) (by kernel_rfl) (F85_eq t0 w R ▸ h))

/-- taciturn/wall.May -/
def F86_ann : Ann := (Ann.seq Ann.leaf (Ann.seq Ann.leaf Ann.leaf))
def F86_den (t0 : Value) (t1 : Value) (w : World) (R : Value → World → Prop) : Prop :=
  V Tryd.prog (Instr.box 105 t0) w fun t2 w1 =>
  V Tryd.prog (Instr.fieldAt 105 t2 0) w1 fun t5 w2 =>
  V Tryd.prog (Instr.loadAt 3 t5) w2 fun t6 w3 =>
  V Tryd.prog (do eqGuard .eql 3 (Operand.tmp 6) (Operand.const (Value.int IntKind.i64 (-1))) t6 (Value.int IntKind.i64 (-1)); binOp .eql 3 t6 (Value.int IntKind.i64 (-1))) w3 fun t7 w4 =>
  gd t7 false (fun K => V Tryd.prog (Instr.fieldAt 105 t2 0) w4 K) w4 fun t9 w5 =>
  gd t7 false (fun K => V Tryd.prog (Instr.loadAt 3 t9) w5 K) w5 fun t10 w6 =>
  gd t7 false (fun K => K t1 w6) w6 fun t11 w7 =>
  gd t7 false (fun K => V Tryd.prog (do eqGuard .eql 3 (Operand.tmp 10) (Operand.tmp 11) t10 t11; binOp .eql 3 t10 t11) w7 K) w7 fun t12 w8 =>
  pickD t7 (Value.bool true) t12 fun t13 =>
  gd t13 false (fun K => V Tryd.prog (Instr.fieldAt 105 t2 3) w8 K) w8 fun t15 w10 =>
  gd t13 false (fun K => V Tryd.prog (Instr.loadAt 4 t15) w10 K) w10 fun t16 w11 =>
  pickD t13 (Value.bool true) t16 fun t17 =>
  R t17 w11
theorem F86_eq (t0 : Value) (t1 : Value) (w : World) (R : Value → World → Prop) : F86_den t0 t1 w R = vc Tryd.prog F86_ann (Tryd.f86.body.getD .skip) (retE Tryd.prog Tryd.f86.results.toList R) (argEnv [t0, t1]) w := by kernel_rfl
theorem F86_wp {t0 : Value} {t1 : Value} {w : World} {R : Value → World → Prop} (h : F86_den t0 t1 w R) : callD Tryd.prog 86 #[t0, t1] w R :=
  callD.of_calls (fn := Tryd.f86) (c := Tryd.f86.body.getD .skip) Tryd.func86 (by kernel_rfl) (by kernel_rfl) (calls_of_vc (args := [t0, t1]) F86_ann mixed Tryd.func86 (by kernel_rfl) (by kernel_rfl) (F86_eq t0 t1 w R ▸ h))

/-- taciturn/wall.Range -/
def F87_ann : Ann := (Ann.seq Ann.leaf (Ann.seq (Ann.seq Ann.leaf (Ann.seq Ann.leaf (Ann.cond (Ann.seq Ann.leaf Ann.leaf) Ann.leaf))) (Ann.seq Ann.leaf (Ann.seq (Ann.seq Ann.leaf (Ann.cond (Ann.seq Ann.leaf Ann.leaf) Ann.leaf)) (Ann.seq Ann.leaf Ann.leaf)))))
def F87_den (t0 : Value) (t1 : Value) (t2 : Value) (t3 : Value) (t4 : Value) (w : World) (R : Value → World → Prop) : Prop :=
  callD Tryd.prog 70 #[t0, t1, t4] w fun t17 w1 =>
  V Tryd.prog (do eqGuard .neq 3 (Operand.tmp 18) (Operand.const (Value.int IntKind.i64 36864)) t17 (Value.int IntKind.i64 36864); binOp .neq 3 t17 (Value.int IntKind.i64 36864)) w1 fun t19 w2 =>
  ifD t19 (
  R t17 w2) (
  callD Tryd.prog 55 #[t0, t1] w2 fun t24 w3 =>
  V Tryd.prog (Instr.extract t24 0) w3 fun t25 w4 =>
  V Tryd.prog (Instr.extract t24 1) w4 fun t26 w5 =>
  V Tryd.prog (Instr.alloc 105 true (.tuple #[])) w5 fun t12 w6 =>
  U Tryd.prog (Instr.storeAt 105 t12 t25) w6 fun _ w7 =>
  V Tryd.prog (binOp .lss 3 t2 (Value.int IntKind.i64 0)) w7 fun t28 w8 =>
  gd t28 false (fun K => K t3 w8) w8 fun t30 w9 =>
  gd t28 false (fun K => V Tryd.prog (binOp .lss 3 t30 (Value.int IntKind.i64 0)) w9 K) w9 fun t31 w10 =>
  pickD t28 (Value.bool true) t31 fun t32 =>
  gd t32 false (fun K => K t2 w10) w10 fun t34 w12 =>
  gd t32 false (fun K => V Tryd.prog (Instr.fieldAt 105 t12 4) w12 K) w12 fun t35 w13 =>
  gd t32 false (fun K => V Tryd.prog (Instr.loadAt 40 t35) w13 K) w13 fun t36 w14 =>
  gd t32 false (fun K => V Tryd.prog (Builtin.len_ #[40] 3 #[t36]) w14 K) w14 fun t37 w15 =>
  gd t32 false (fun K => V Tryd.prog (binOp .gtr 3 t34 t37) w15 K) w15 fun t38 w16 =>
  pickD t32 (Value.bool true) t38 fun t39 =>
  gd t39 false (fun K => K t3 w16) w16 fun t41 w18 =>
  gd t39 false (fun K => V Tryd.prog (Instr.fieldAt 105 t12 4) w18 K) w18 fun t42 w19 =>
  gd t39 false (fun K => V Tryd.prog (Instr.loadAt 40 t42) w19 K) w19 fun t43 w20 =>
  gd t39 false (fun K => V Tryd.prog (Builtin.len_ #[40] 3 #[t43]) w20 K) w20 fun t44 w21 =>
  gd t39 false (fun K => K t2 w21) w21 fun t45 w22 =>
  gd t39 false (fun K => V Tryd.prog (binOp .sub 3 t44 t45) w22 K) w22 fun t46 w23 =>
  gd t39 false (fun K => V Tryd.prog (binOp .gtr 3 t41 t46) w23 K) w23 fun t47 w24 =>
  pickD t39 (Value.bool true) t47 fun t48 =>
  ifD t48 (
  R (Value.int IntKind.i64 28418) w24) (
  R (Value.int IntKind.i64 36864) w24))
theorem F87_eq (t0 : Value) (t1 : Value) (t2 : Value) (t3 : Value) (t4 : Value) (w : World) (R : Value → World → Prop) : F87_den t0 t1 t2 t3 t4 w R = vc Tryd.prog F87_ann (Tryd.f87.body.getD .skip) (retE Tryd.prog Tryd.f87.results.toList R) (argEnv [t0, t1, t2, t3, t4]) w := by kernel_rfl
theorem F87_wp {t0 : Value} {t1 : Value} {t2 : Value} {t3 : Value} {t4 : Value} {w : World} {R : Value → World → Prop} (h : F87_den t0 t1 t2 t3 t4 w R) : callD Tryd.prog 87 #[t0, t1, t2, t3, t4] w R :=
  callD.of_calls (fn := Tryd.f87) (c := Tryd.f87.body.getD .skip) Tryd.func87 (by kernel_rfl) (by kernel_rfl) (calls_of_vc (args := [t0, t1, t2, t3, t4]) F87_ann mixed Tryd.func87 (by kernel_rfl) (by kernel_rfl) (F87_eq t0 t1 t2 t3 t4 w R ▸ h))

/-- taciturn/word.some -/
def F88_ann : Ann := (Ann.seq Ann.leaf (Ann.seq Ann.leaf Ann.leaf))
def F88_den (t0 : Value) (w : World) (R : Value → World → Prop) : Prop :=
  V Tryd.prog (Op.unary UnOp.neg t0) w fun t5 w1 =>
  V Tryd.prog (binOp .or 21 t0 t5) w1 fun t6 w2 =>
  callD Tryd.prog 91 #[t6, (Value.int IntKind.i32 31)] w2 fun t7 w3 =>
  R t7 w3
theorem F88_eq (t0 : Value) (w : World) (R : Value → World → Prop) : F88_den t0 w R = vc Tryd.prog F88_ann (Tryd.f88.body.getD .skip) (retE Tryd.prog Tryd.f88.results.toList R) (argEnv [t0]) w := by kernel_rfl
theorem F88_wp {t0 : Value} {w : World} {R : Value → World → Prop} (h : F88_den t0 w R) : callD Tryd.prog 88 #[t0] w R :=
  callD.of_calls (fn := Tryd.f88) (c := Tryd.f88.body.getD .skip) Tryd.func88 (by kernel_rfl) (by kernel_rfl) (calls_of_vc (args := [t0]) F88_ann mixed Tryd.func88 (by kernel_rfl) (by kernel_rfl) (F88_eq t0 w R ▸ h))

/-- taciturn/word.Shr -/
def F91_ann : Ann := (Ann.seq Ann.leaf (Ann.seq Ann.leaf Ann.leaf))
def F91_den (t0 : Value) (t1 : Value) (w : World) (R : Value → World → Prop) : Prop :=
  V Tryd.prog (convert 21 149 t0) w fun t6 w1 =>
  V Tryd.prog (binOp .and 21 t1 (Value.int IntKind.i32 31)) w1 fun t8 w2 =>
  V Tryd.prog (binOp .shr 149 t6 t8) w2 fun t9 w3 =>
  V Tryd.prog (convert 149 21 t9) w3 fun t10 w4 =>
  R t10 w4
theorem F91_eq (t0 : Value) (t1 : Value) (w : World) (R : Value → World → Prop) : F91_den t0 t1 w R = vc Tryd.prog F91_ann (Tryd.f91.body.getD .skip) (retE Tryd.prog Tryd.f91.results.toList R) (argEnv [t0, t1]) w := by kernel_rfl
theorem F91_wp {t0 : Value} {t1 : Value} {w : World} {R : Value → World → Prop} (h : F91_den t0 t1 w R) : callD Tryd.prog 91 #[t0, t1] w R :=
  callD.of_calls (fn := Tryd.f91) (c := Tryd.f91.body.getD .skip) Tryd.func91 (by kernel_rfl) (by kernel_rfl) (calls_of_vc (args := [t0, t1]) F91_ann mixed Tryd.func91 (by kernel_rfl) (by kernel_rfl) (F91_eq t0 t1 w R ▸ h))

end Go.Proofs.YtgjmpnngheohbaaDoor
