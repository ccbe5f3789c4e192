/- RoomServes: what shows, by the document; its Serve, the first part. RoomServes: the document's Serve, number by number. RoomServes: both Serves answer the same. -/
import Derived.Test.YtgjmpnngheohbaaDoorJe
namespace Go.Proofs.YtgjmpnngheohbaaDoor
open Go.Vc
/-- What is left of the document's Serve behind what shows. -/
def restS (t0 t2 t3 t4 t5 t6 t16 : Value) (w16 : World) (R : Value → World → Prop) : Prop :=
  ∃ J3 : NP 1,
  (V Tryd.prog (do eqGuard .eql 3 (Operand.tmp 75) (Operand.const (Value.int IntKind.i64 17)) t3 (Value.int IntKind.i64 17); binOp .eql 3 t3 (Value.int IntKind.i64 17)) w16 fun t77 w21 =>
  ifD t77 (
  J3 t77 w21) (
  V Tryd.prog (do eqGuard .eql 3 (Operand.tmp 75) (Operand.const (Value.int IntKind.i64 18)) t3 (Value.int IntKind.i64 18); binOp .eql 3 t3 (Value.int IntKind.i64 18)) w21 fun t78 w22 =>
  J3 t78 w22)) ∧
  ∀ (t76 : Value), ∀ w23 : World, J3 t76 w23 → ∀ _f : Env,
  ifD t76 (
  V Tryd.prog (Instr.indexAt 32 t16 (Value.int IntKind.i64 1)) w23 fun t80 w24 =>
  V Tryd.prog (Instr.loadAt 3 t80) w24 fun t81 w25 =>
  V Tryd.prog (do eqGuard .eql 3 (Operand.tmp 81) (Operand.const (Value.int IntKind.i64 0)) t81 (Value.int IntKind.i64 0); binOp .eql 3 t81 (Value.int IntKind.i64 0)) w25 fun t82 w26 =>
  ifD t82 (
  R (.tuple #[(Value.int IntKind.i32 0), (Value.int IntKind.i64 28419)]) w26) (
  drawD w26 fun S18 w27 =>
  yieldS Tryd.prog S18 (Instr.indexAt 39 t6 (Value.int IntKind.i64 0)) fun t85 =>
  yieldS Tryd.prog S18 (Instr.loadAt 21 t85) fun t86 =>
  yieldS Tryd.prog S18 (Instr.indexAt 39 t6 (Value.int IntKind.i64 1)) fun t88 =>
  yieldS Tryd.prog S18 (Instr.loadAt 21 t88) fun t89 =>
  callD Tryd.prog 45 #[t3, t86, t89] w27 fun t90 w28 =>
  S18 w28 ∧
  R (.tuple #[t90, (Value.int IntKind.i64 36864)]) w28)) (
  V Tryd.prog (do eqGuard .eql 3 (Operand.tmp 75) (Operand.const (Value.int IntKind.i64 27)) t3 (Value.int IntKind.i64 27); binOp .eql 3 t3 (Value.int IntKind.i64 27)) w23 fun t92 w29 =>
  ifD t92 (
  V Tryd.prog (Instr.indexAt 32 t16 (Value.int IntKind.i64 0)) w29 fun t94 w30 =>
  V Tryd.prog (Instr.loadAt 3 t94) w30 fun t95 w31 =>
  V Tryd.prog (binOp .lss 3 t95 (Value.int IntKind.i64 0)) w31 fun t96 w32 =>
  gd t96 false (fun K => K t16 w32) w32 fun t98 w33 =>
  gd t96 false (fun K => V Tryd.prog (Instr.indexAt 32 t98 (Value.int IntKind.i64 0)) w33 K) w33 fun t99 w34 =>
  gd t96 false (fun K => V Tryd.prog (Instr.loadAt 3 t99) w34 K) w34 fun t100 w35 =>
  gd t96 false (fun K => V Tryd.prog (binOp .gtr 3 t100 (Value.int IntKind.i64 64)) w35 K) w35 fun t101 w36 =>
  pickD t96 (Value.bool true) t101 fun t102 =>
  ifD t102 (
  R (.tuple #[(Value.int IntKind.i32 0), (Value.int IntKind.i64 28425)]) w36) (
  drawD w36 fun S22 w38 =>
  Go.Vc.Safe (t0) ∧
  yieldS Tryd.prog S22 (Instr.fieldAt 63 t0 0) fun t106 =>
  yieldS Tryd.prog S22 (Instr.loadAt 59 t106) fun t107 =>
  yieldS Tryd.prog S22 (binOp .rem 3 t5 (Value.int IntKind.i64 4)) fun t111 =>
  yieldS Tryd.prog S22 (binOp .add 3 t111 (Value.int IntKind.i64 4)) fun t112 =>
  yieldS Tryd.prog S22 (binOp .rem 3 t112 (Value.int IntKind.i64 4)) fun t113 =>
  yieldS Tryd.prog S22 (binOp .geq 3 t5 (Value.int IntKind.i64 4)) fun t115 =>
  yieldS Tryd.prog S22 (Instr.indexAt 32 t16 (Value.int IntKind.i64 0)) fun t117 =>
  yieldS Tryd.prog S22 (Instr.loadAt 3 t117) fun t118 =>
  callD Tryd.prog 46 #[t107, t2, t4, t113, t115, t118] w38 fun t119 w39 =>
  S22 w39 ∧
  yieldS Tryd.prog S22 (Instr.extract t119 0) fun t120 =>
  yieldS Tryd.prog S22 (Instr.extract t119 1) fun t121 =>
  V Tryd.prog (Op.unary UnOp.not t121) w39 fun t123 w40 =>
  ifD t123 (
  R (.tuple #[(Value.int IntKind.i32 0), (Value.int IntKind.i64 28421)]) w40) (
  V Tryd.prog (convert 3 21 t120) w40 fun t125 w41 =>
  R (.tuple #[t125, (Value.int IntKind.i64 36864)]) w41))) (
  V Tryd.prog (do eqGuard .eql 3 (Operand.tmp 75) (Operand.const (Value.int IntKind.i64 28)) t3 (Value.int IntKind.i64 28); binOp .eql 3 t3 (Value.int IntKind.i64 28)) w29 fun t127 w42 =>
  ifD t127 (
  drawD w42 fun S27 w43 =>
  Go.Vc.Safe (t0) ∧
  yieldS Tryd.prog S27 (Instr.fieldAt 63 t0 0) fun t130 =>
  yieldS Tryd.prog S27 (Instr.loadAt 59 t130) fun t131 =>
  yieldS Tryd.prog S27 (Instr.indexAt 32 t16 (Value.int IntKind.i64 0)) fun t133 =>
  yieldS Tryd.prog S27 (Instr.loadAt 3 t133) fun t134 =>
  callD Tryd.prog 47 #[t131, t134, t2] w43 fun t136 w44 =>
  S27 w44 ∧
  V Tryd.prog (do eqGuard .neq 3 (Operand.tmp 137) (Operand.const (Value.int IntKind.i64 36864)) t136 (Value.int IntKind.i64 36864); binOp .neq 3 t136 (Value.int IntKind.i64 36864)) w44 fun t138 w45 =>
  ifD t138 (
  R (.tuple #[(Value.int IntKind.i32 0), t136]) w45) (
  ∃ J4 : NP 1,
  (drawD w45 fun S30 w46 =>
  Go.Vc.Safe (t0) ∧
  yieldS Tryd.prog S30 (Instr.fieldAt 63 t0 0) fun t143 =>
  yieldS Tryd.prog S30 (Instr.loadAt 59 t143) fun t144 =>
  yieldS Tryd.prog S30 (Instr.indexAt 32 t16 (Value.int IntKind.i64 0)) fun t146 =>
  yieldS Tryd.prog S30 (Instr.loadAt 3 t146) fun t147 =>
  (callD Tryd.prog 48 #[t144, t147] w46 fun t148 w47 =>
  S30 w47 ∧
  yieldS Tryd.prog S30 (Instr.extract t148 0) fun t149 =>
  yieldS Tryd.prog S30 (Instr.extract t148 1) fun t150 =>
  V Tryd.prog (Instr.alloc 105 true (.tuple #[])) w47 fun t23 w48 =>
  S30 w48 ∧
  U Tryd.prog (Instr.storeAt 105 t23 t149) w48 fun _ w49 =>
  S30 w49 ∧
  J4 t23 w49) ∧
  (V Tryd.prog (Instr.alloc 105 true (.tuple #[])) w46 fun t23_1 w50 =>
  S30 w50 ∧
  callD Tryd.prog 48 #[t144, t147] w50 fun t148_1 w51 =>
  S30 w51 ∧
  yieldS Tryd.prog S30 (Instr.extract t148_1 0) fun t149_1 =>
  yieldS Tryd.prog S30 (Instr.extract t148_1 1) fun t150_1 =>
  U Tryd.prog (Instr.storeAt 105 t23_1 t149_1) w51 fun _ w52 =>
  S30 w52 ∧
  J4 t23_1 w52)) ∧
  ∀ (t23_2 : Value), ∀ w53 : World, J4 t23_2 w53 → ∀ _f : Env,
  V Tryd.prog (Instr.fieldAt 105 t23_2 4) w53 fun t151 w54 =>
  V Tryd.prog (Instr.loadAt 40 t151) w54 fun t152 w55 =>
  V Tryd.prog (Builtin.len_ #[40] 3 #[t152]) w55 fun t153 w56 =>
  V Tryd.prog (convert 3 21 t153) w56 fun t154 w57 =>
  R (.tuple #[t154, (Value.int IntKind.i64 36864)]) w57)) (
  ∃ J5 : NP 1,
  (V Tryd.prog (do eqGuard .eql 3 (Operand.tmp 75) (Operand.const (Value.int IntKind.i64 29)) t3 (Value.int IntKind.i64 29); binOp .eql 3 t3 (Value.int IntKind.i64 29)) w42 fun t156 w58 =>
  ifD t156 (
  J5 t156 w58) (
  V Tryd.prog (do eqGuard .eql 3 (Operand.tmp 75) (Operand.const (Value.int IntKind.i64 30)) t3 (Value.int IntKind.i64 30); binOp .eql 3 t3 (Value.int IntKind.i64 30)) w58 fun t157 w59 =>
  J5 t157 w59)) ∧
  ∀ (t155 : Value), ∀ w60 : World, J5 t155 w60 → ∀ _f : Env,
  ifD t155 (
  drawD w60 fun S34 w61 =>
  Go.Vc.Safe (t0) ∧
  yieldS Tryd.prog S34 (Instr.fieldAt 63 t0 0) fun t160 =>
  yieldS Tryd.prog S34 (Instr.loadAt 59 t160) fun t161 =>
  yieldS Tryd.prog S34 (Instr.indexAt 32 t16 (Value.int IntKind.i64 0)) fun t163 =>
  yieldS Tryd.prog S34 (Instr.loadAt 3 t163) fun t164 =>
  yieldS Tryd.prog S34 (Instr.indexAt 32 t16 (Value.int IntKind.i64 1)) fun t166 =>
  yieldS Tryd.prog S34 (Instr.loadAt 3 t166) fun t167 =>
  callD Tryd.prog 49 #[t161, t164, t167, (Value.int IntKind.i64 1), t2] w61 fun t169 w62 =>
  S34 w62 ∧
  V Tryd.prog (do eqGuard .neq 3 (Operand.tmp 170) (Operand.const (Value.int IntKind.i64 36864)) t169 (Value.int IntKind.i64 36864); binOp .neq 3 t169 (Value.int IntKind.i64 36864)) w62 fun t171 w63 =>
  ifD t171 (
  R (.tuple #[(Value.int IntKind.i32 0), t169]) w63) (
  V Tryd.prog (do eqGuard .eql 3 (Operand.tmp 173) (Operand.const (Value.int IntKind.i64 30)) t3 (Value.int IntKind.i64 30); binOp .eql 3 t3 (Value.int IntKind.i64 30)) w63 fun t174 w64 =>
  ifD t174 (
  drawD w64 fun S38 w65 =>
  Go.Vc.Safe (t0) ∧
  yieldS Tryd.prog S38 (Instr.fieldAt 63 t0 0) fun t177 =>
  yieldS Tryd.prog S38 (Instr.loadAt 59 t177) fun t178 =>
  yieldS Tryd.prog S38 (Instr.indexAt 32 t16 (Value.int IntKind.i64 0)) fun t180 =>
  yieldS Tryd.prog S38 (Instr.loadAt 3 t180) fun t181 =>
  yieldS Tryd.prog S38 (Instr.indexAt 32 t16 (Value.int IntKind.i64 1)) fun t183 =>
  yieldS Tryd.prog S38 (Instr.loadAt 3 t183) fun t184 =>
  yieldS Tryd.prog S38 (Instr.indexAt 32 t16 (Value.int IntKind.i64 2)) fun t186 =>
  yieldS Tryd.prog S38 (Instr.loadAt 3 t186) fun t187 =>
  yieldS Tryd.prog S38 (convert 3 5 t187) fun t188 =>
  V Tryd.prog (Instr.buildSlice 40 1 #[(0, t188)]) w65 fun t189 w66 =>
  S38 w66 ∧
  callD Tryd.prog 50 #[t178, t181, t184, t189] w66 fun t190 w67 =>
  S38 w67 ∧
  R (.tuple #[(Value.int IntKind.i32 0), (Value.int IntKind.i64 36864)]) w67) (
  ∃ J6 : NP 1,
  (drawD w64 fun S40 w68 =>
  Go.Vc.Safe (t0) ∧
  yieldS Tryd.prog S40 (Instr.fieldAt 63 t0 0) fun t194 =>
  yieldS Tryd.prog S40 (Instr.loadAt 59 t194) fun t195 =>
  yieldS Tryd.prog S40 (Instr.indexAt 32 t16 (Value.int IntKind.i64 0)) fun t197 =>
  yieldS Tryd.prog S40 (Instr.loadAt 3 t197) fun t198 =>
  (callD Tryd.prog 48 #[t195, t198] w68 fun t199 w69 =>
  S40 w69 ∧
  yieldS Tryd.prog S40 (Instr.extract t199 0) fun t200 =>
  yieldS Tryd.prog S40 (Instr.extract t199 1) fun t201 =>
  V Tryd.prog (Instr.alloc 105 true (.tuple #[])) w69 fun t26 w70 =>
  S40 w70 ∧
  U Tryd.prog (Instr.storeAt 105 t26 t200) w70 fun _ w71 =>
  S40 w71 ∧
  J6 t26 w71) ∧
  (V Tryd.prog (Instr.alloc 105 true (.tuple #[])) w68 fun t26_1 w72 =>
  S40 w72 ∧
  callD Tryd.prog 48 #[t195, t198] w72 fun t199_1 w73 =>
  S40 w73 ∧
  yieldS Tryd.prog S40 (Instr.extract t199_1 0) fun t200_1 =>
  yieldS Tryd.prog S40 (Instr.extract t199_1 1) fun t201_1 =>
  U Tryd.prog (Instr.storeAt 105 t26_1 t200_1) w73 fun _ w74 =>
  S40 w74 ∧
  J6 t26_1 w74)) ∧
  ∀ (t26_2 : Value), ∀ w75 : World, J6 t26_2 w75 → ∀ _f : Env,
  drawD w75 fun S41 w76 =>
  yieldS Tryd.prog S41 (Instr.fieldAt 105 t26_2 4) fun t202 =>
  yieldS Tryd.prog S41 (Instr.loadAt 40 t202) fun t203 =>
  yieldS Tryd.prog S41 (Instr.indexAt 32 t16 (Value.int IntKind.i64 1)) fun t205 =>
  yieldS Tryd.prog S41 (Instr.loadAt 3 t205) fun t206 =>
  yieldS Tryd.prog S41 (Instr.indexAt 40 t203 t206) fun t207 =>
  yieldS Tryd.prog S41 (Instr.loadAt 5 t207) fun t208 =>
  yieldS Tryd.prog S41 (convert 5 21 t208) fun t209 =>
  R (.tuple #[t209, (Value.int IntKind.i64 36864)]) w76))) (
  ∃ J7 : NP 1,
  (V Tryd.prog (do eqGuard .eql 3 (Operand.tmp 75) (Operand.const (Value.int IntKind.i64 31)) t3 (Value.int IntKind.i64 31); binOp .eql 3 t3 (Value.int IntKind.i64 31)) w60 fun t211 w77 =>
  ifD t211 (
  J7 t211 w77) (
  V Tryd.prog (do eqGuard .eql 3 (Operand.tmp 75) (Operand.const (Value.int IntKind.i64 32)) t3 (Value.int IntKind.i64 32); binOp .eql 3 t3 (Value.int IntKind.i64 32)) w77 fun t212 w78 =>
  J7 t212 w78)) ∧
  ∀ (t210 : Value), ∀ w79 : World, J7 t210 w79 → ∀ _f : Env,
  ifD t210 (
  drawD w79 fun S44 w80 =>
  Go.Vc.Safe (t0) ∧
  yieldS Tryd.prog S44 (Instr.fieldAt 63 t0 0) fun t215 =>
  yieldS Tryd.prog S44 (Instr.loadAt 59 t215) fun t216 =>
  yieldS Tryd.prog S44 (Instr.indexAt 32 t16 (Value.int IntKind.i64 0)) fun t218 =>
  yieldS Tryd.prog S44 (Instr.loadAt 3 t218) fun t219 =>
  yieldS Tryd.prog S44 (Instr.indexAt 32 t16 (Value.int IntKind.i64 1)) fun t221 =>
  yieldS Tryd.prog S44 (Instr.loadAt 3 t221) fun t222 =>
  yieldS Tryd.prog S44 (Instr.indexAt 32 t16 (Value.int IntKind.i64 4)) fun t224 =>
  yieldS Tryd.prog S44 (Instr.loadAt 3 t224) fun t225 =>
  callD Tryd.prog 49 #[t216, t219, t222, t225, t2] w80 fun t227 w81 =>
  S44 w81 ∧
  V Tryd.prog (do eqGuard .neq 3 (Operand.tmp 228) (Operand.const (Value.int IntKind.i64 36864)) t227 (Value.int IntKind.i64 36864); binOp .neq 3 t227 (Value.int IntKind.i64 36864)) w81 fun t229 w82 =>
  ifD t229 (
  R (.tuple #[(Value.int IntKind.i32 0), t227]) w82) (
  drawD w82 fun S47 w83 =>
  Go.Vc.Safe (t0) ∧
  yieldS Tryd.prog S47 (Instr.fieldAt 63 t0 0) fun t233 =>
  yieldS Tryd.prog S47 (Instr.loadAt 59 t233) fun t234 =>
  yieldS Tryd.prog S47 (Instr.indexAt 32 t16 (Value.int IntKind.i64 2)) fun t236 =>
  yieldS Tryd.prog S47 (Instr.loadAt 3 t236) fun t237 =>
  yieldS Tryd.prog S47 (Instr.indexAt 32 t16 (Value.int IntKind.i64 3)) fun t239 =>
  yieldS Tryd.prog S47 (Instr.loadAt 3 t239) fun t240 =>
  yieldS Tryd.prog S47 (Instr.indexAt 32 t16 (Value.int IntKind.i64 4)) fun t242 =>
  yieldS Tryd.prog S47 (Instr.loadAt 3 t242) fun t243 =>
  callD Tryd.prog 49 #[t234, t237, t240, t243, t2] w83 fun t245 w84 =>
  S47 w84 ∧
  V Tryd.prog (do eqGuard .neq 3 (Operand.tmp 246) (Operand.const (Value.int IntKind.i64 36864)) t245 (Value.int IntKind.i64 36864); binOp .neq 3 t245 (Value.int IntKind.i64 36864)) w84 fun t247 w85 =>
  ifD t247 (
  R (.tuple #[(Value.int IntKind.i32 0), t245]) w85) (
  ∃ J8 : NP 1,
  (drawD w85 fun S50 w86 =>
  Go.Vc.Safe (t0) ∧
  yieldS Tryd.prog S50 (Instr.fieldAt 63 t0 0) fun t252 =>
  yieldS Tryd.prog S50 (Instr.loadAt 59 t252) fun t253 =>
  yieldS Tryd.prog S50 (Instr.indexAt 32 t16 (Value.int IntKind.i64 0)) fun t255 =>
  yieldS Tryd.prog S50 (Instr.loadAt 3 t255) fun t256 =>
  (callD Tryd.prog 48 #[t253, t256] w86 fun t257 w87 =>
  S50 w87 ∧
  yieldS Tryd.prog S50 (Instr.extract t257 0) fun t258 =>
  yieldS Tryd.prog S50 (Instr.extract t257 1) fun t259 =>
  V Tryd.prog (Instr.alloc 105 true (.tuple #[])) w87 fun t30 w88 =>
  S50 w88 ∧
  U Tryd.prog (Instr.storeAt 105 t30 t258) w88 fun _ w89 =>
  S50 w89 ∧
  J8 t30 w89) ∧
  (V Tryd.prog (Instr.alloc 105 true (.tuple #[])) w86 fun t30_1 w90 =>
  S50 w90 ∧
  callD Tryd.prog 48 #[t253, t256] w90 fun t257_1 w91 =>
  S50 w91 ∧
  yieldS Tryd.prog S50 (Instr.extract t257_1 0) fun t258_1 =>
  yieldS Tryd.prog S50 (Instr.extract t257_1 1) fun t259_1 =>
  U Tryd.prog (Instr.storeAt 105 t30_1 t258_1) w91 fun _ w92 =>
  S50 w92 ∧
  J8 t30_1 w92)) ∧
  ∀ (t30_2 : Value), ∀ w93 : World, J8 t30_2 w93 → ∀ _f : Env,
  ∃ J9 : NP 1,
  (drawD w93 fun S51 w94 =>
  Go.Vc.Safe (t0) ∧
  yieldS Tryd.prog S51 (Instr.fieldAt 63 t0 0) fun t263 =>
  yieldS Tryd.prog S51 (Instr.loadAt 59 t263) fun t264 =>
  yieldS Tryd.prog S51 (Instr.indexAt 32 t16 (Value.int IntKind.i64 2)) fun t266 =>
  yieldS Tryd.prog S51 (Instr.loadAt 3 t266) fun t267 =>
  (callD Tryd.prog 48 #[t264, t267] w94 fun t268 w95 =>
  S51 w95 ∧
  yieldS Tryd.prog S51 (Instr.extract t268 0) fun t269 =>
  yieldS Tryd.prog S51 (Instr.extract t268 1) fun t270 =>
  V Tryd.prog (Instr.alloc 105 true (.tuple #[])) w95 fun t32 w96 =>
  S51 w96 ∧
  U Tryd.prog (Instr.storeAt 105 t32 t269) w96 fun _ w97 =>
  S51 w97 ∧
  J9 t32 w97) ∧
  (V Tryd.prog (Instr.alloc 105 true (.tuple #[])) w94 fun t32_1 w98 =>
  S51 w98 ∧
  callD Tryd.prog 48 #[t264, t267] w98 fun t268_1 w99 =>
  S51 w99 ∧
  yieldS Tryd.prog S51 (Instr.extract t268_1 0) fun t269_1 =>
  yieldS Tryd.prog S51 (Instr.extract t268_1 1) fun t270_1 =>
  U Tryd.prog (Instr.storeAt 105 t32_1 t269_1) w99 fun _ w100 =>
  S51 w100 ∧
  J9 t32_1 w100)) ∧
  ∀ (t32_2 : Value), ∀ w101 : World, J9 t32_2 w101 → ∀ _f : Env,
  drawD w101 fun S52 w102 =>
  yieldS Tryd.prog S52 (Instr.fieldAt 105 t32_2 4) fun t271 =>
  yieldS Tryd.prog S52 (Instr.loadAt 40 t271) fun t272 =>
  yieldS Tryd.prog S52 (Instr.indexAt 32 t16 (Value.int IntKind.i64 3)) fun t274 =>
  yieldS Tryd.prog S52 (Instr.loadAt 3 t274) fun t275 =>
  yieldS Tryd.prog S52 (Instr.indexAt 32 t16 (Value.int IntKind.i64 3)) fun t277 =>
  yieldS Tryd.prog S52 (Instr.loadAt 3 t277) fun t278 =>
  yieldS Tryd.prog S52 (Instr.indexAt 32 t16 (Value.int IntKind.i64 4)) fun t280 =>
  yieldS Tryd.prog S52 (Instr.loadAt 3 t280) fun t281 =>
  yieldS Tryd.prog S52 (binOp .add 3 t278 t281) fun t282 =>
  yieldS Tryd.prog S52 (Instr.sliceAt 40 t272 (some t275) (some t282) none) fun t283 =>
  V Tryd.prog (do eqGuard .eql 3 (Operand.tmp 284) (Operand.const (Value.int IntKind.i64 31)) t3 (Value.int IntKind.i64 31); binOp .eql 3 t3 (Value.int IntKind.i64 31)) w102 fun t285 w103 =>
  ifD t285 (
  drawD w103 fun S54 w104 =>
  Go.Vc.Safe (t0) ∧
  yieldS Tryd.prog S54 (Instr.fieldAt 63 t0 0) fun t288 =>
  yieldS Tryd.prog S54 (Instr.loadAt 59 t288) fun t289 =>
  yieldS Tryd.prog S54 (Instr.indexAt 32 t16 (Value.int IntKind.i64 0)) fun t291 =>
  yieldS Tryd.prog S54 (Instr.loadAt 3 t291) fun t292 =>
  yieldS Tryd.prog S54 (Instr.indexAt 32 t16 (Value.int IntKind.i64 1)) fun t294 =>
  yieldS Tryd.prog S54 (Instr.loadAt 3 t294) fun t295 =>
  callD Tryd.prog 50 #[t289, t292, t295, t283] w104 fun t297 w105 =>
  S54 w105 ∧
  R (.tuple #[(Value.int IntKind.i32 0), (Value.int IntKind.i64 36864)]) w105) (
  drawD w103 fun S56 w106 =>
  yieldS Tryd.prog S56 (Instr.fieldAt 105 t30_2 4) fun t298 =>
  yieldS Tryd.prog S56 (Instr.loadAt 40 t298) fun t299 =>
  yieldS Tryd.prog S56 (Instr.indexAt 32 t16 (Value.int IntKind.i64 1)) fun t301 =>
  yieldS Tryd.prog S56 (Instr.loadAt 3 t301) fun t302 =>
  yieldS Tryd.prog S56 (Instr.indexAt 32 t16 (Value.int IntKind.i64 1)) fun t304 =>
  yieldS Tryd.prog S56 (Instr.loadAt 3 t304) fun t305 =>
  yieldS Tryd.prog S56 (Instr.indexAt 32 t16 (Value.int IntKind.i64 4)) fun t307 =>
  yieldS Tryd.prog S56 (Instr.loadAt 3 t307) fun t308 =>
  yieldS Tryd.prog S56 (binOp .add 3 t305 t308) fun t309 =>
  yieldS Tryd.prog S56 (Instr.sliceAt 40 t299 (some t302) (some t309) none) fun t310 =>
  yieldS Tryd.prog S56 (convert 40 9 t310) fun t311 =>
  yieldS Tryd.prog S56 (convert 40 9 t283) fun t313 =>
  yieldS Tryd.prog S56 (do eqGuard .eql 9 (Operand.tmp 311) (Operand.tmp 313) t311 t313; binOp .eql 9 t311 t313) fun t314 =>
  ifD t314 (
  R (.tuple #[(Value.int IntKind.i32 1), (Value.int IntKind.i64 36864)]) w106) (
  R (.tuple #[(Value.int IntKind.i32 0), (Value.int IntKind.i64 36864)]) w106))))) (
  drawD w79 fun S59 w107 =>
  Go.Vc.Safe (t0) ∧
  yieldS Tryd.prog S59 (Instr.fieldAt 63 t0 0) fun t317 =>
  yieldS Tryd.prog S59 (Instr.loadAt 59 t317) fun t318 =>
  yieldS Tryd.prog S59 (Instr.indexAt 32 t16 (Value.int IntKind.i64 0)) fun t320 =>
  yieldS Tryd.prog S59 (Instr.loadAt 3 t320) fun t321 =>
  yieldS Tryd.prog S59 (Instr.indexAt 32 t16 (Value.int IntKind.i64 1)) fun t323 =>
  yieldS Tryd.prog S59 (Instr.loadAt 3 t323) fun t324 =>
  yieldS Tryd.prog S59 (Instr.indexAt 32 t16 (Value.int IntKind.i64 2)) fun t326 =>
  yieldS Tryd.prog S59 (Instr.loadAt 3 t326) fun t327 =>
  callD Tryd.prog 49 #[t318, t321, t324, t327, t2] w107 fun t329 w108 =>
  S59 w108 ∧
  V Tryd.prog (do eqGuard .neq 3 (Operand.tmp 330) (Operand.const (Value.int IntKind.i64 36864)) t329 (Value.int IntKind.i64 36864); binOp .neq 3 t329 (Value.int IntKind.i64 36864)) w108 fun t331 w109 =>
  ifD t331 (
  R (.tuple #[(Value.int IntKind.i32 0), t329]) w109) (
  ∃ J10 : NP 1,
  (drawD w109 fun S62 w110 =>
  Go.Vc.Safe (t0) ∧
  yieldS Tryd.prog S62 (Instr.fieldAt 63 t0 0) fun t336 =>
  yieldS Tryd.prog S62 (Instr.loadAt 59 t336) fun t337 =>
  yieldS Tryd.prog S62 (Instr.indexAt 32 t16 (Value.int IntKind.i64 0)) fun t339 =>
  yieldS Tryd.prog S62 (Instr.loadAt 3 t339) fun t340 =>
  (callD Tryd.prog 48 #[t337, t340] w110 fun t341 w111 =>
  S62 w111 ∧
  yieldS Tryd.prog S62 (Instr.extract t341 0) fun t342 =>
  yieldS Tryd.prog S62 (Instr.extract t341 1) fun t343 =>
  V Tryd.prog (Instr.alloc 105 true (.tuple #[])) w111 fun t36 w112 =>
  S62 w112 ∧
  U Tryd.prog (Instr.storeAt 105 t36 t342) w112 fun _ w113 =>
  S62 w113 ∧
  J10 t36 w113) ∧
  (V Tryd.prog (Instr.alloc 105 true (.tuple #[])) w110 fun t36_1 w114 =>
  S62 w114 ∧
  callD Tryd.prog 48 #[t337, t340] w114 fun t341_1 w115 =>
  S62 w115 ∧
  yieldS Tryd.prog S62 (Instr.extract t341_1 0) fun t342_1 =>
  yieldS Tryd.prog S62 (Instr.extract t341_1 1) fun t343_1 =>
  U Tryd.prog (Instr.storeAt 105 t36_1 t342_1) w115 fun _ w116 =>
  S62 w116 ∧
  J10 t36_1 w116)) ∧
  ∀ (t36_2 : Value), ∀ w117 : World, J10 t36_2 w117 → ∀ _f : Env,
  Go.Vc.Safe (t0) ∧
  V Tryd.prog (Instr.fieldAt 63 t0 3) w117 fun t346 w119 =>
  ∃ J11 : NP 1,
  (V Tryd.prog (do eqGuard .neq 3 (Operand.tmp 347) (Operand.const (Value.int IntKind.i64 1)) t4 (Value.int IntKind.i64 1); binOp .neq 3 t4 (Value.int IntKind.i64 1)) w119 fun t348 w120 =>
  ifD t348 (
  Go.Vc.Safe (t0) ∧
  V Tryd.prog (Instr.fieldAt 63 t0 4) w120 fun t351 w122 =>
  J11 t351 w122) (
  J11 t346 w120)) ∧
  ∀ (t38 : Value), ∀ w123 : World, J11 t38 w123 → ∀ _f : Env,
  drawD w123 fun S66 w124 =>
  yieldS Tryd.prog S66 (Instr.indexAt 32 t16 (Value.int IntKind.i64 2)) fun t353 =>
  yieldS Tryd.prog S66 (Instr.loadAt 3 t353) fun t354 =>
  Go.Vc.Safe (t38) ∧
  yieldS Tryd.prog S66 (Instr.loadAt 40 t38) fun t357 =>
  yieldS Tryd.prog S66 (Builtin.len_ #[40] 3 #[t357]) fun t358 =>
  yieldS Tryd.prog S66 (binOp .sub 3 (Value.int IntKind.i64 128) t358) fun t359 =>
  yieldS Tryd.prog S66 (binOp .gtr 3 t354 t359) fun t360 =>
  ifD t360 (
  R (.tuple #[(Value.int IntKind.i32 0), (Value.int IntKind.i64 28425)]) w124) (
  drawD w124 fun S68 w125 =>
  Go.Vc.Safe (t38) ∧
  yieldS Tryd.prog S68 (Instr.loadAt 40 t38) fun t365 =>
  yieldS Tryd.prog S68 (Instr.fieldAt 105 t36_2 4) fun t367 =>
  yieldS Tryd.prog S68 (Instr.loadAt 40 t367) fun t368 =>
  yieldS Tryd.prog S68 (Instr.indexAt 32 t16 (Value.int IntKind.i64 1)) fun t370 =>
  yieldS Tryd.prog S68 (Instr.loadAt 3 t370) fun t371 =>
  yieldS Tryd.prog S68 (Instr.indexAt 32 t16 (Value.int IntKind.i64 1)) fun t373 =>
  yieldS Tryd.prog S68 (Instr.loadAt 3 t373) fun t374 =>
  yieldS Tryd.prog S68 (Instr.indexAt 32 t16 (Value.int IntKind.i64 2)) fun t376 =>
  yieldS Tryd.prog S68 (Instr.loadAt 3 t376) fun t377 =>
  yieldS Tryd.prog S68 (binOp .add 3 t374 t377) fun t378 =>
  yieldS Tryd.prog S68 (Instr.sliceAt 40 t368 (some t371) (some t378) none) fun t379 =>
  V Tryd.prog (Instr.buildSlice 40 0 #[]) w125 fun t362 w126 =>
  S68 w126 ∧
  V Tryd.prog (Builtin.append_ #[40, 40] 40 #[t362, t365]) w126 fun t366 w127 =>
  S68 w127 ∧
  V Tryd.prog (Builtin.append_ #[40, 40] 40 #[t366, t379]) w127 fun t380 w128 =>
  S68 w128 ∧
  Go.Vc.Safe (t38) ∧
  U Tryd.prog (Instr.storeAt 40 t38 t380) w128 fun _ w129 =>
  R (.tuple #[(Value.int IntKind.i32 0), (Value.int IntKind.i64 36864)]) w129)))))))
theorem trC_get : ∀ {l : List Evt} {k : Nat} {e : Evt} {j : Nat}, l[k]? = some e → j < 4 → (trC l)[k * 4 + j]? = e.cells[j]?
  | [], k, e, j, h, _ => by simp at h
  | b :: l, 0, e, j, h, hj => by
    simp at h
    subst h
    show (b.cells ++ trC l)[0 * 4 + j]? = _
    rw [List.getElem?_append_left (by simp [Evt.cells]; omega)]
    simp
  | b :: l, k + 1, e, j, h, hj => by
    have h' : l[k]? = some e := by simpa using h
    show (b.cells ++ trC l)[(k + 1) * 4 + j]? = _
    rw [List.getElem?_append_right (by simp [Evt.cells]; omega), ← trC_get h' hj]
    congr 1
    simp [Evt.cells]
    omega
section
variable {w w' : World}
theorem bsEv {t : TypeId} {w : World} {K : Value → World → Prop} {n : Nat} {parts : Array (Nat × Value)} {cs : List Value} (hr : (Instr.buildSlice t n parts).run Tryd.prog w = .ok (.slice (some ⟨w.heap.size, 0, none⟩) n n) (w.alloc (.cells cs.toArray 74))) (hn : cs.length = n * 4) (hm : n ≤ maxLen) (hk : ∀ w', w'.ownsRow w.heap.size 74 4 (.slice (some ⟨w.heap.size, 0, none⟩) n n) n cs → Ext w w' → K (.slice (some ⟨w.heap.size, 0, none⟩) n n) w') : V Tryd.prog (Instr.buildSlice t n parts) w K := by
  refine V.ok hr ?_
  have hb1 : Blk (w.alloc (.cells cs.toArray 74)) w.heap.size cs 74 := by unfold Blk; rw [heap_alloc_new]
  exact hk _ (own_blk hb1 hn (Nat.le_refl _) hm) ((Ext.refl _).alloc _)
theorem SliceIs.ldxE {t x : TypeId} {w : World} {v : Value} {n : Nat} {l : List Evt} {i : Nat} {e : Evt} {K : Value → World → Prop} (hx : XA Tryd.prog t 4) (ht : ∃ d z by_, Tryd.prog.underlying x = some d ∧ aggB d = true ∧ Inf Tryd.prog x z 4 by_) (hs : SliceIs w v 4 n (trC l)) (hi : i < n) (he : l[i]? = some e) (hk : K (.agg e.cells.toArray) w) :
    V Tryd.prog (Instr.indexAt t v (.int .i64 (i : Int))) w fun p w1 => V Tryd.prog (Instr.loadAt x p) w1 K := by
  obtain ⟨e', z, b', hte, hinf⟩ := hx
  obtain ⟨d, z2, by2, hd, ha, hi2⟩ := ht
  obtain ⟨b, off, cap, rfl, hc⟩ := hs.there (by omega)
  refine V.ok (r_index hte hinf (by omega) (by omega)) (V.ok (r_loadAgg hd ha hi2 (cs := e.cells) rfl fun j hj => ?_) hk)
  have hj4 : j < 4 := hj
  obtain ⟨u, hu⟩ := ex_get (l := e.cells) (j := j) hj
  have := hc (i * 4 + j) u (by rw [trC_get he hj4]; exact hu)
  rw [hu, Int.toNat_natCast, Nat.add_assoc]
  exact this
end
set_option maxHeartbeats 1600000 in
theorem shows17_ok {w : World} {sa sb x0 x1 : Int} {ov : Value} (ho : SliceIs w ov 1 2 [i64 x0, i64 x1]) : callD Tryd.prog 43 #[i64 17, i64 sa, i64 sb, ov] w fun r w' => (w'.ownsRow w.heap.size 74 4 r 0 (trC [])) ∧ Ext w w' := by
  apply F43_wp
  have key : ∀ {R : Value → World → Prop}, (∀ r w', w'.ownsRow w.heap.size 74 4 r 0 (trC []) → Ext w w' → R r w') → F43_den (i64 17) (i64 sa) (i64 sb) ov w R := by
    intro R hR
    unfold F43_den
    simp only [V_eqlI, Int.reduceEq, decide_false, ifD_false]
    refine ⟨fun v w' => v = .bool false ∧ w' = w, (by first | exact ⟨rfl, rfl⟩ | (simp only [V_eqlI, Int.reduceEq, decide_false, decide_true, ifD_false, ifD_true]; exact ⟨trivial, trivial⟩) | (simp only [V_eqlI, Int.reduceEq, decide_false, decide_true, ifD_false, ifD_true]; exact ⟨rfl, rfl⟩)), ?_⟩
    rintro _ w' ⟨rfl, hw⟩ _
    have hw := hw.symm; subst hw
    refine ifD_false.2 ?_
    refine ⟨fun v w' => v = .bool false ∧ w' = w, (by first | exact ⟨rfl, rfl⟩ | (simp only [V_eqlI, Int.reduceEq, decide_false, decide_true, ifD_false, ifD_true]; exact ⟨trivial, trivial⟩) | (simp only [V_eqlI, Int.reduceEq, decide_false, decide_true, ifD_false, ifD_true]; exact ⟨rfl, rfl⟩)), ?_⟩
    rintro _ w' ⟨rfl, hw⟩ _
    have hw := hw.symm; subst hw
    refine ifD_false.2 ?_
    try simp only [V_eqlI, Int.reduceEq, decide_false, decide_true, ifD_false, ifD_true]
    exact hR _ _ (World.ownsRow_nil _ _ _ _) (Ext.refl _)
  exact key fun r w' h1 h2 => ⟨h1, h2⟩
set_option maxHeartbeats 1600000 in
theorem shows18_ok {w : World} {sa sb x0 x1 : Int} {ov : Value} (ho : SliceIs w ov 1 2 [i64 x0, i64 x1]) : callD Tryd.prog 43 #[i64 18, i64 sa, i64 sb, ov] w fun r w' => (w'.ownsRow w.heap.size 74 4 r 0 (trC [])) ∧ Ext w w' := by
  apply F43_wp
  have key : ∀ {R : Value → World → Prop}, (∀ r w', w'.ownsRow w.heap.size 74 4 r 0 (trC []) → Ext w w' → R r w') → F43_den (i64 18) (i64 sa) (i64 sb) ov w R := by
    intro R hR
    unfold F43_den
    simp only [V_eqlI, Int.reduceEq, decide_false, ifD_false]
    refine ⟨fun v w' => v = .bool false ∧ w' = w, (by first | exact ⟨rfl, rfl⟩ | (simp only [V_eqlI, Int.reduceEq, decide_false, decide_true, ifD_false, ifD_true]; exact ⟨trivial, trivial⟩) | (simp only [V_eqlI, Int.reduceEq, decide_false, decide_true, ifD_false, ifD_true]; exact ⟨rfl, rfl⟩)), ?_⟩
    rintro _ w' ⟨rfl, hw⟩ _
    have hw := hw.symm; subst hw
    refine ifD_false.2 ?_
    refine ⟨fun v w' => v = .bool false ∧ w' = w, (by first | exact ⟨rfl, rfl⟩ | (simp only [V_eqlI, Int.reduceEq, decide_false, decide_true, ifD_false, ifD_true]; exact ⟨trivial, trivial⟩) | (simp only [V_eqlI, Int.reduceEq, decide_false, decide_true, ifD_false, ifD_true]; exact ⟨rfl, rfl⟩)), ?_⟩
    rintro _ w' ⟨rfl, hw⟩ _
    have hw := hw.symm; subst hw
    refine ifD_false.2 ?_
    try simp only [V_eqlI, Int.reduceEq, decide_false, decide_true, ifD_false, ifD_true]
    exact hR _ _ (World.ownsRow_nil _ _ _ _) (Ext.refl _)
  exact key fun r w' h1 h2 => ⟨h1, h2⟩
set_option maxHeartbeats 1600000 in
theorem shows27_ok {w : World} {sa sb x0 : Int} {ov : Value} (ho : SliceIs w ov 1 1 [i64 x0]) : callD Tryd.prog 43 #[i64 27, i64 sa, i64 sb, ov] w fun r w' => (w'.ownsRow w.heap.size 74 4 r 1 (trC [⟨3, sa, sb, x0⟩])) ∧ Ext w w' := by
  apply F43_wp
  have key : ∀ {R : Value → World → Prop}, (∀ r w', w'.ownsRow w.heap.size 74 4 r 1 (trC [⟨3, sa, sb, x0⟩]) → Ext w w' → R r w') → F43_den (i64 27) (i64 sa) (i64 sb) ov w R := by
    intro R hR
    unfold F43_den
    simp only [V_eqlI, Int.reduceEq, decide_false, decide_true, ifD_false, ifD_true]
    refine ldx xa_32 l1_3 ho (by omega) (by omega) (rfl : ([i64 x0] : List Value)[(0 : Int).toNat]? = _) ?_
    refine bld bd_74 [(0, i64 3), (1, i64 sa), (2, i64 sb), (3, i64 x0)] rfl rfl ?_
    refine bsEv (cs := trC [⟨3, sa, sb, x0⟩]) (by kernel_rfl) rfl (by unfold maxLen; omega) fun w2 ho2 x2 => ?_
    exact hR _ _ ho2 x2
  exact key fun r w' h1 h2 => ⟨h1, h2⟩
set_option maxHeartbeats 1600000 in
theorem shows28_ok {w : World} {sa sb x0 : Int} {ov : Value} (ho : SliceIs w ov 1 1 [i64 x0]) : callD Tryd.prog 43 #[i64 28, i64 sa, i64 sb, ov] w fun r w' => (w'.ownsRow w.heap.size 74 4 r 1 (trC [⟨2, x0, 0, 0⟩])) ∧ Ext w w' := by
  apply F43_wp
  have key : ∀ {R : Value → World → Prop}, (∀ r w', w'.ownsRow w.heap.size 74 4 r 1 (trC [⟨2, x0, 0, 0⟩]) → Ext w w' → R r w') → F43_den (i64 28) (i64 sa) (i64 sb) ov w R := by
    intro R hR
    unfold F43_den
    simp only [V_eqlI, Int.reduceEq, decide_false, decide_true, ifD_false, ifD_true]
    refine ldx xa_32 l1_3 ho (by omega) (by omega) (rfl : ([i64 x0] : List Value)[(0 : Int).toNat]? = _) ?_
    refine bld bd_74 [(0, i64 2), (1, i64 x0)] rfl rfl ?_
    refine bsEv (cs := trC [⟨2, x0, 0, 0⟩]) (by kernel_rfl) rfl (by unfold maxLen; omega) fun w2 ho2 x2 => ?_
    exact hR _ _ ho2 x2
  exact key fun r w' h1 h2 => ⟨h1, h2⟩
set_option maxHeartbeats 1600000 in
theorem shows29_ok {w : World} {sa sb x0 x1 : Int} {ov : Value} (ho : SliceIs w ov 1 2 [i64 x0, i64 x1]) : callD Tryd.prog 43 #[i64 29, i64 sa, i64 sb, ov] w fun r w' => (w'.ownsRow w.heap.size 74 4 r 1 (trC [⟨2, x0, x1, 1⟩])) ∧ Ext w w' := by
  apply F43_wp
  have key : ∀ {R : Value → World → Prop}, (∀ r w', w'.ownsRow w.heap.size 74 4 r 1 (trC [⟨2, x0, x1, 1⟩]) → Ext w w' → R r w') → F43_den (i64 29) (i64 sa) (i64 sb) ov w R := by
    intro R hR
    unfold F43_den
    simp only [V_eqlI, Int.reduceEq, decide_false, decide_true, ifD_false, ifD_true]
    refine ⟨fun v w' => v = .bool true ∧ w' = w, (by first | exact ⟨rfl, rfl⟩ | (simp only [V_eqlI, Int.reduceEq, decide_false, decide_true, ifD_false, ifD_true]; exact ⟨trivial, trivial⟩) | (simp only [V_eqlI, Int.reduceEq, decide_false, decide_true, ifD_false, ifD_true]; exact ⟨rfl, rfl⟩)), ?_⟩
    rintro _ w' ⟨rfl, hw⟩ _
    have hw := hw.symm; subst hw
    refine ifD_true.2 ?_
    have D : Ext w w.drew := (Ext.refl _).drew
    refine drawD.mk' (fun w' => Ext w w') D ?_
    refine ySl xa_32 l1_3 ho (fun w' hw => hw) (by omega) (by omega) (rfl : ([i64 x0, i64 x1] : List Value)[(0 : Int).toNat]? = _) ?_
    refine ySl xa_32 l1_3 ho (fun w' hw => hw) (by omega) (by omega) (rfl : ([i64 x0, i64 x1] : List Value)[(1 : Int).toNat]? = _) ?_
    refine yBld bd_74 [(0, i64 2), (1, i64 x0), (2, i64 x1), (3, i64 1)] rfl rfl ?_
    refine bsEv (cs := trC [⟨2, x0, x1, 1⟩]) (by kernel_rfl) rfl (by unfold maxLen; omega) fun w2 ho2 x2 => ?_
    exact ⟨D.trans x2, hR _ _ (own_mono ho2 D.size) (D.trans x2)⟩
  exact key fun r w' h1 h2 => ⟨h1, h2⟩
set_option maxHeartbeats 1600000 in
theorem shows30_ok {w : World} {sa sb x0 x1 x2 : Int} {ov : Value} (ho : SliceIs w ov 1 3 [i64 x0, i64 x1, i64 x2]) : callD Tryd.prog 43 #[i64 30, i64 sa, i64 sb, ov] w fun r w' => (w'.ownsRow w.heap.size 74 4 r 1 (trC [⟨2, x0, x1, 1⟩])) ∧ Ext w w' := by
  apply F43_wp
  have key : ∀ {R : Value → World → Prop}, (∀ r w', w'.ownsRow w.heap.size 74 4 r 1 (trC [⟨2, x0, x1, 1⟩]) → Ext w w' → R r w') → F43_den (i64 30) (i64 sa) (i64 sb) ov w R := by
    intro R hR
    unfold F43_den
    simp only [V_eqlI, Int.reduceEq, decide_false, decide_true, ifD_false]
    refine ⟨fun v w' => v = .bool true ∧ w' = w, (by first | exact ⟨rfl, rfl⟩ | (simp only [V_eqlI, Int.reduceEq, decide_false, decide_true, ifD_false, ifD_true]; exact ⟨trivial, trivial⟩) | (simp only [V_eqlI, Int.reduceEq, decide_false, decide_true, ifD_false, ifD_true]; exact ⟨rfl, rfl⟩)), ?_⟩
    rintro _ w' ⟨rfl, hw⟩ _
    have hw := hw.symm; subst hw
    refine ifD_true.2 ?_
    have D : Ext w w.drew := (Ext.refl _).drew
    refine drawD.mk' (fun w' => Ext w w') D ?_
    refine ySl xa_32 l1_3 ho (fun w' hw => hw) (by omega) (by omega) (rfl : ([i64 x0, i64 x1, i64 x2] : List Value)[(0 : Int).toNat]? = _) ?_
    refine ySl xa_32 l1_3 ho (fun w' hw => hw) (by omega) (by omega) (rfl : ([i64 x0, i64 x1, i64 x2] : List Value)[(1 : Int).toNat]? = _) ?_
    refine yBld bd_74 [(0, i64 2), (1, i64 x0), (2, i64 x1), (3, i64 1)] rfl rfl ?_
    refine bsEv (cs := trC [⟨2, x0, x1, 1⟩]) (by kernel_rfl) rfl (by unfold maxLen; omega) fun w2 ho2 x2 => ?_
    exact ⟨D.trans x2, hR _ _ (own_mono ho2 D.size) (D.trans x2)⟩
  exact key fun r w' h1 h2 => ⟨h1, h2⟩
set_option maxHeartbeats 1600000 in
theorem shows31_ok {w : World} {sa sb x0 x1 x2 x3 x4 : Int} {ov : Value} (ho : SliceIs w ov 1 5 [i64 x0, i64 x1, i64 x2, i64 x3, i64 x4]) : callD Tryd.prog 43 #[i64 31, i64 sa, i64 sb, ov] w fun r w' => (w'.ownsRow w.heap.size 74 4 r 2 (trC [⟨2, x0, x1, x4⟩, ⟨2, x2, x3, x4⟩])) ∧ Ext w w' := by
  apply F43_wp
  have key : ∀ {R : Value → World → Prop}, (∀ r w', w'.ownsRow w.heap.size 74 4 r 2 (trC [⟨2, x0, x1, x4⟩, ⟨2, x2, x3, x4⟩]) → Ext w w' → R r w') → F43_den (i64 31) (i64 sa) (i64 sb) ov w R := by
    intro R hR
    unfold F43_den
    simp only [V_eqlI, Int.reduceEq, decide_false, decide_true, ifD_false, ifD_true]
    refine ⟨fun v w' => v = .bool false ∧ w' = w, (by first | exact ⟨rfl, rfl⟩ | (simp only [V_eqlI, Int.reduceEq, decide_false, decide_true, ifD_false, ifD_true]; exact ⟨trivial, trivial⟩) | (simp only [V_eqlI, Int.reduceEq, decide_false, decide_true, ifD_false, ifD_true]; exact ⟨rfl, rfl⟩)), ?_⟩
    rintro _ w' ⟨rfl, hw⟩ _
    have hw := hw.symm; subst hw
    refine ifD_false.2 ?_
    refine ⟨fun v w' => v = .bool true ∧ w' = w, (by first | exact ⟨rfl, rfl⟩ | (simp only [V_eqlI, Int.reduceEq, decide_false, decide_true, ifD_false, ifD_true]; exact ⟨trivial, trivial⟩) | (simp only [V_eqlI, Int.reduceEq, decide_false, decide_true, ifD_false, ifD_true]; exact ⟨rfl, rfl⟩)), ?_⟩
    rintro _ w' ⟨rfl, hw⟩ _
    have hw := hw.symm; subst hw
    refine ifD_true.2 ?_
    have D : Ext w w.drew := (Ext.refl _).drew
    refine drawD.mk' (fun w' => Ext w w') D ?_
    refine ySl xa_32 l1_3 ho (fun w' hw => hw) (by omega) (by omega) (rfl : ([i64 x0, i64 x1, i64 x2, i64 x3, i64 x4] : List Value)[(0 : Int).toNat]? = _) ?_
    refine ySl xa_32 l1_3 ho (fun w' hw => hw) (by omega) (by omega) (rfl : ([i64 x0, i64 x1, i64 x2, i64 x3, i64 x4] : List Value)[(1 : Int).toNat]? = _) ?_
    refine ySl xa_32 l1_3 ho (fun w' hw => hw) (by omega) (by omega) (rfl : ([i64 x0, i64 x1, i64 x2, i64 x3, i64 x4] : List Value)[(4 : Int).toNat]? = _) ?_
    refine yBld bd_74 [(0, i64 2), (1, i64 x0), (2, i64 x1), (3, i64 x4)] rfl rfl ?_
    refine ySl xa_32 l1_3 ho (fun w' hw => hw) (by omega) (by omega) (rfl : ([i64 x0, i64 x1, i64 x2, i64 x3, i64 x4] : List Value)[(2 : Int).toNat]? = _) ?_
    refine ySl xa_32 l1_3 ho (fun w' hw => hw) (by omega) (by omega) (rfl : ([i64 x0, i64 x1, i64 x2, i64 x3, i64 x4] : List Value)[(3 : Int).toNat]? = _) ?_
    refine ySl xa_32 l1_3 ho (fun w' hw => hw) (by omega) (by omega) (rfl : ([i64 x0, i64 x1, i64 x2, i64 x3, i64 x4] : List Value)[(4 : Int).toNat]? = _) ?_
    refine yBld bd_74 [(0, i64 2), (1, i64 x2), (2, i64 x3), (3, i64 x4)] rfl rfl ?_
    refine bsEv (cs := trC [⟨2, x0, x1, x4⟩, ⟨2, x2, x3, x4⟩]) (by kernel_rfl) rfl (by unfold maxLen; omega) fun w2 ho2 x2 => ?_
    exact ⟨D.trans x2, hR _ _ (own_mono ho2 D.size) (D.trans x2)⟩
  exact key fun r w' h1 h2 => ⟨h1, h2⟩
set_option maxHeartbeats 1600000 in
theorem shows32_ok {w : World} {sa sb x0 x1 x2 x3 x4 : Int} {ov : Value} (ho : SliceIs w ov 1 5 [i64 x0, i64 x1, i64 x2, i64 x3, i64 x4]) : callD Tryd.prog 43 #[i64 32, i64 sa, i64 sb, ov] w fun r w' => (w'.ownsRow w.heap.size 74 4 r 2 (trC [⟨2, x0, x1, x4⟩, ⟨2, x2, x3, x4⟩])) ∧ Ext w w' := by
  apply F43_wp
  have key : ∀ {R : Value → World → Prop}, (∀ r w', w'.ownsRow w.heap.size 74 4 r 2 (trC [⟨2, x0, x1, x4⟩, ⟨2, x2, x3, x4⟩]) → Ext w w' → R r w') → F43_den (i64 32) (i64 sa) (i64 sb) ov w R := by
    intro R hR
    unfold F43_den
    simp only [V_eqlI, Int.reduceEq, decide_false, decide_true, ifD_false]
    refine ⟨fun v w' => v = .bool false ∧ w' = w, (by first | exact ⟨rfl, rfl⟩ | (simp only [V_eqlI, Int.reduceEq, decide_false, decide_true, ifD_false, ifD_true]; exact ⟨trivial, trivial⟩) | (simp only [V_eqlI, Int.reduceEq, decide_false, decide_true, ifD_false, ifD_true]; exact ⟨rfl, rfl⟩)), ?_⟩
    rintro _ w' ⟨rfl, hw⟩ _
    have hw := hw.symm; subst hw
    refine ifD_false.2 ?_
    refine ⟨fun v w' => v = .bool true ∧ w' = w, (by first | exact ⟨rfl, rfl⟩ | (simp only [V_eqlI, Int.reduceEq, decide_false, decide_true, ifD_false, ifD_true]; exact ⟨trivial, trivial⟩) | (simp only [V_eqlI, Int.reduceEq, decide_false, decide_true, ifD_false, ifD_true]; exact ⟨rfl, rfl⟩)), ?_⟩
    rintro _ w' ⟨rfl, hw⟩ _
    have hw := hw.symm; subst hw
    refine ifD_true.2 ?_
    have D : Ext w w.drew := (Ext.refl _).drew
    refine drawD.mk' (fun w' => Ext w w') D ?_
    refine ySl xa_32 l1_3 ho (fun w' hw => hw) (by omega) (by omega) (rfl : ([i64 x0, i64 x1, i64 x2, i64 x3, i64 x4] : List Value)[(0 : Int).toNat]? = _) ?_
    refine ySl xa_32 l1_3 ho (fun w' hw => hw) (by omega) (by omega) (rfl : ([i64 x0, i64 x1, i64 x2, i64 x3, i64 x4] : List Value)[(1 : Int).toNat]? = _) ?_
    refine ySl xa_32 l1_3 ho (fun w' hw => hw) (by omega) (by omega) (rfl : ([i64 x0, i64 x1, i64 x2, i64 x3, i64 x4] : List Value)[(4 : Int).toNat]? = _) ?_
    refine yBld bd_74 [(0, i64 2), (1, i64 x0), (2, i64 x1), (3, i64 x4)] rfl rfl ?_
    refine ySl xa_32 l1_3 ho (fun w' hw => hw) (by omega) (by omega) (rfl : ([i64 x0, i64 x1, i64 x2, i64 x3, i64 x4] : List Value)[(2 : Int).toNat]? = _) ?_
    refine ySl xa_32 l1_3 ho (fun w' hw => hw) (by omega) (by omega) (rfl : ([i64 x0, i64 x1, i64 x2, i64 x3, i64 x4] : List Value)[(3 : Int).toNat]? = _) ?_
    refine ySl xa_32 l1_3 ho (fun w' hw => hw) (by omega) (by omega) (rfl : ([i64 x0, i64 x1, i64 x2, i64 x3, i64 x4] : List Value)[(4 : Int).toNat]? = _) ?_
    refine yBld bd_74 [(0, i64 2), (1, i64 x2), (2, i64 x3), (3, i64 x4)] rfl rfl ?_
    refine bsEv (cs := trC [⟨2, x0, x1, x4⟩, ⟨2, x2, x3, x4⟩]) (by kernel_rfl) rfl (by unfold maxLen; omega) fun w2 ho2 x2 => ?_
    exact ⟨D.trans x2, hR _ _ (own_mono ho2 D.size) (D.trans x2)⟩
  exact key fun r w' h1 h2 => ⟨h1, h2⟩
set_option maxHeartbeats 1600000 in
theorem shows36_ok {w : World} {sa sb x0 x1 x2 : Int} {ov : Value} (ho : SliceIs w ov 1 3 [i64 x0, i64 x1, i64 x2]) : callD Tryd.prog 43 #[i64 36, i64 sa, i64 sb, ov] w fun r w' => (w'.ownsRow w.heap.size 74 4 r 1 (trC [⟨2, x0, x1, x2⟩])) ∧ Ext w w' := by
  apply F43_wp
  have key : ∀ {R : Value → World → Prop}, (∀ r w', w'.ownsRow w.heap.size 74 4 r 1 (trC [⟨2, x0, x1, x2⟩]) → Ext w w' → R r w') → F43_den (i64 36) (i64 sa) (i64 sb) ov w R := by
    intro R hR
    unfold F43_den
    simp only [V_eqlI, Int.reduceEq, decide_false, decide_true, ifD_false, ifD_true]
    refine ⟨fun v w' => v = .bool false ∧ w' = w, (by first | exact ⟨rfl, rfl⟩ | (simp only [V_eqlI, Int.reduceEq, decide_false, decide_true, ifD_false, ifD_true]; exact ⟨trivial, trivial⟩) | (simp only [V_eqlI, Int.reduceEq, decide_false, decide_true, ifD_false, ifD_true]; exact ⟨rfl, rfl⟩)), ?_⟩
    rintro _ w' ⟨rfl, hw⟩ _
    have hw := hw.symm; subst hw
    refine ifD_false.2 ?_
    refine ⟨fun v w' => v = .bool false ∧ w' = w, (by first | exact ⟨rfl, rfl⟩ | (simp only [V_eqlI, Int.reduceEq, decide_false, decide_true, ifD_false, ifD_true]; exact ⟨trivial, trivial⟩) | (simp only [V_eqlI, Int.reduceEq, decide_false, decide_true, ifD_false, ifD_true]; exact ⟨rfl, rfl⟩)), ?_⟩
    rintro _ w' ⟨rfl, hw⟩ _
    have hw := hw.symm; subst hw
    refine ifD_false.2 ?_
    try simp only [V_eqlI, Int.reduceEq, decide_false, decide_true, ifD_false, ifD_true]
    have D : Ext w w.drew := (Ext.refl _).drew
    refine drawD.mk' (fun w' => Ext w w') D ?_
    refine ySl xa_32 l1_3 ho (fun w' hw => hw) (by omega) (by omega) (rfl : ([i64 x0, i64 x1, i64 x2] : List Value)[(0 : Int).toNat]? = _) ?_
    refine ySl xa_32 l1_3 ho (fun w' hw => hw) (by omega) (by omega) (rfl : ([i64 x0, i64 x1, i64 x2] : List Value)[(1 : Int).toNat]? = _) ?_
    refine ySl xa_32 l1_3 ho (fun w' hw => hw) (by omega) (by omega) (rfl : ([i64 x0, i64 x1, i64 x2] : List Value)[(2 : Int).toNat]? = _) ?_
    refine yBld bd_74 [(0, i64 2), (1, i64 x0), (2, i64 x1), (3, i64 x2)] rfl rfl ?_
    refine bsEv (cs := trC [⟨2, x0, x1, x2⟩]) (by kernel_rfl) rfl (by unfold maxLen; omega) fun w2 ho2 x2 => ?_
    exact ⟨D.trans x2, hR _ _ (own_mono ho2 D.size) (D.trans x2)⟩
  exact key fun r w' h1 h2 => ⟨h1, h2⟩
theorem do17_ok {w : World} {a b : Int} (ha : -2147483648 ≤ a ∧ a ≤ 2147483647) (hb : -2147483648 ≤ b ∧ b ≤ 2147483647) (h0 : b ≠ 0) : callD Tryd.prog 45 #[i64 17, i32 a, i32 b] w fun r w' => r = i32 (IntKind.i32.wrap (IntKind.i64.wrap (a.tdiv b))) ∧ w' = w := by
  apply F45_wp
  have key : ∀ {R : Value → World → Prop}, R (i32 (IntKind.i32.wrap (IntKind.i64.wrap (a.tdiv b)))) w → F45_den (i64 17) (i32 a) (i32 b) w R := by
    intro R hR
    unfold F45_den
    simp only [V_eqlI, Int.reduceEq, decide_false, decide_true, ifD_false, ifD_true]
    simp only [h0, ifD_false, decide_false]
    refine V.ok (r_convI Tryd.underlying21 Tryd.underlying2) ?_
    refine V.ok (r_convI Tryd.underlying21 Tryd.underlying2) ?_
    rw [wrap64 ha, wrap64 hb]
    exact V.ok (r_quo h0) (V.ok (r_convI Tryd.underlying2 Tryd.underlying21) hR)
  exact key ⟨rfl, rfl⟩
theorem do18_ok {w : World} {a b : Int} (ha : -2147483648 ≤ a ∧ a ≤ 2147483647) (hb : -2147483648 ≤ b ∧ b ≤ 2147483647) (h0 : b ≠ 0) : callD Tryd.prog 45 #[i64 18, i32 a, i32 b] w fun r w' => r = i32 (IntKind.i32.wrap (a.tmod b)) ∧ w' = w := by
  apply F45_wp
  have key : ∀ {R : Value → World → Prop}, R (i32 (IntKind.i32.wrap (a.tmod b))) w → F45_den (i64 18) (i32 a) (i32 b) w R := by
    intro R hR
    unfold F45_den
    simp only [V_eqlI, Int.reduceEq, decide_false, decide_true, ifD_false, ifD_true]
    simp only [h0, ifD_false, decide_false]
    refine V.ok (r_convI Tryd.underlying21 Tryd.underlying2) ?_
    refine V.ok (r_convI Tryd.underlying21 Tryd.underlying2) ?_
    rw [wrap64 ha, wrap64 hb]
    exact V.ok (r_remI h0) (V.ok (r_convI Tryd.underlying2 Tryd.underlying21) hR)
  exact key ⟨rfl, rfl⟩
/-- The first part: the args as numbers, and what shows. -/
theorem preR {op : Int} {nn m : Nat} {q : QP} {w : World} {who sa sb : Int} {av : Value} {xs : List Int} {evs : List Evt} {R : Value → World → Prop} (h : RefT q w) (hl : q.tr.length ≤ 99000) (hnn : nn ≤ 5) (hev : evs.length ≤ 2)
    (hsv : ∀ {w : World}, callD Tryd.prog 20 #[i64 op] w fun r w' => r = i64 (nn : Int) ∧ w' = w)
    (hsh : ∀ {w : World} {ov : Value}, SliceIs w ov 1 nn (xs.map i64) → callD Tryd.prog 43 #[i64 op, i64 sa, i64 sb, ov] w fun r w' => (w'.ownsRow w.heap.size 74 4 r evs.length (trC evs)) ∧ Ext w w')
    (hxl : xs.length = nn) (hxs : SliceIs w av 1 nn (xs.map i32)) (hsm : in32 xs)
    (hk : ∀ w' ov uv', RefT { q with uv := uv', tr := q.tr ++ evs } w' → StpQ q { q with uv := uv', tr := q.tr ++ evs } w w' → (∀ w2, Fr (RMu { q with uv := uv', tr := q.tr ++ evs }) w' w2 → SliceIs w2 ov 1 nn (xs.map i64)) → restS (xbT q) (i64 who) (i64 op) (i64 sa) (i64 sb) av ov w' R) :
    F22_den (xbT q) (ubT q) (i64 who) (i64 op) (i64 sa) (i64 sb) av w R := by
  unfold F22_den
  refine hsv.mono fun r w' ⟨hr, hw⟩ => ?_
  subst hr; have hw := hw.symm; subst hw
  refine lnx (by first | exact xa_114 | exact xa_22 | exact xa_32 | exact xa_39 | exact xa_40 | exact xa_55 | exact xa_61) hxs (V_neqI.2 (ifD_dec (fun hn => absurd rfl hn) fun _ => ?_))
  refine ⟨fun v v' w' => ∃ i : Nat, v' = i64 i ∧ i ≤ nn ∧ Ext w w' ∧ w'.ownsRow w.heap.size 3 1 v i ((xs.take i).map i64), fun _ v _ => nn - (RowKit.intOf v).toNat, ⟨0, rfl, Nat.zero_le _, Ext.refl _, by rw [List.take_zero]; exact World.ownsRow_nil _ _ _ _⟩, ?_⟩
  rintro ov _ w2 ⟨i, rfl, hi, x2, ho2⟩ _
  refine lnx (by first | exact xa_114 | exact xa_22 | exact xa_32 | exact xa_39 | exact xa_40 | exact xa_55 | exact xa_61) (hxs.ext x2) ?_
  refine V_lss.2 (ifD_dec (fun hlt => ?_) fun hge => ?_)
  · obtain ⟨z, hz⟩ := ex_get (l := xs) (j := i) (by omega)
    have hzb : -2147483648 ≤ z ∧ z ≤ 2147483647 := hsm z (List.mem_of_getElem? hz)
    refine ldx xa_39 l1_21 (hxs.ext x2) (by omega) (by omega) (by simp [hz] : (xs.map i32)[((i : Nat) : Int).toNat]? = some (i32 z)) ?_
    refine V.ok (r_convI Tryd.underlying21 Tryd.underlying3) ?_
    rw [wrap_id (by omega) (by omega)]
    refine bsl (by first | exact xe_32 | exact xe_39 | exact xe_40) [i64 z] rfl rfl (by simp) rfl fun v3 w3 ho3 x3 => ?_
    have X3 := x2.trans x3
    refine apS xe_32 (x3.own ho2) (SliceIs.of_own ho3) (by simp [oneC]) (by omega) (by unfold maxLen; omega) X3.size fun v4 w4 ho4 hg4 _ => ?_
    refine V_add.2 ?_
    rw [wrap_id (by omega) (by omega), i64_succ]
    refine ⟨⟨i + 1, rfl, by omega, X3.grown hg4 fun j hj => (ho2.lt j hj).1, ?_⟩, by simp only [intOf_i64]; omega⟩
    rw [List.take_add_one, hz]
    simpa using ho4
  have hin : i = nn := by omega
  subst hin
  rw [List.take_of_length_le (by omega)] at ho2
  refine (hsh (SliceIs.of_own ho2)).mono fun ev w3 ⟨he3, x3⟩ => ?_
  have X3 := x2.trans x3
  have ho3 := x3.own ho2
  have h3 := h.ext X3
  have s2 := x2.size
  have s3 := x3.size
  have hlow : ∀ j, RMu q j → j < w.heap.size := fun j hj => h.hi j (.inl hj)
  refine ⟨fun v w' => ∃ (i : Nat) (uv' : Value), v = i64 i ∧ i ≤ evs.length ∧ RefT { q with uv := uv', tr := q.tr ++ evs.take i } w' ∧ StpQ q { q with uv := uv', tr := q.tr ++ evs.take i } w3 w', fun v _ => evs.length - (RowKit.intOf v).toNat, ⟨0, q.uv, rfl, Nat.zero_le _, by rw [List.take_zero, List.append_nil]; exact h3, by rw [List.take_zero, List.append_nil]; exact StpQ.of_ext (Ext.refl _)⟩, ?_⟩
  rintro _ w4 ⟨i, uv', rfl, hi, h4, s4⟩ _
  have he4 := s4.fr.own he3 fun j hj hm => by have := (he3.lt j hj).1; have := hlow j hm; omega
  refine lnx xa_55 (SliceIs.of_own he4) ?_
  refine V_lss.2 (ifD_dec (fun hlt => ?_) fun hge => ?_)
  · obtain ⟨e, hee⟩ := ex_get (l := evs) (j := i) (by omega)
    refine SliceIs.ldxE xa_55 la_74 (SliceIs.of_own he4) (by omega) hee ?_
    refine (taddR_ok h4 (by show (q.tr ++ evs.take i).length ≤ 100000; rw [List.length_append]; have : (evs.take i).length ≤ evs.length := by simp [List.length_take]; omega
                            omega) (e := e)).mono fun _ w5 ⟨uv5, h5, s5⟩ => ?_
    refine V_add.2 ?_
    rw [wrap_id (by omega) (by omega), i64_succ]
    have hte : q.tr ++ evs.take (i + 1) = (q.tr ++ evs.take i) ++ [e] := by rw [List.take_add_one, hee]; simp
    exact ⟨⟨i + 1, uv5, rfl, by omega, by rw [hte]; exact h5, by rw [hte]; exact s4.trans s5⟩, by simp only [intOf_i64]; omega⟩
  have hin : i = evs.length := by omega
  subst hin
  rw [List.take_of_length_le (Nat.le_refl _)] at h4 s4
  refine hk w4 ov uv' h4 ((StpQ.of_ext X3).trans s4) fun w5 f5 => ?_
  have ho4 := s4.fr.own ho3 fun j hj hm => by have := (ho3.lt j hj).1; have := hlow j hm; omega
  refine SliceIs.of_own (f5.own ho4 fun j hj hm => ?_)
  have hj3 := (ho3.lt j hj)
  rcases s4.mm j hm with hm | hm
  · have := hlow j hm; omega
  · omega
end Go.Proofs.YtgjmpnngheohbaaDoor
namespace Go.Proofs.YtgjmpnngheohbaaDoor
open Go.Vc
def RvR (q : QP) (w : World) (x : Res) (r : Value) (w' : World) : Prop := ∃ q', r = .tuple #[i32 x.1, i64 x.2.1] ∧ q'.ps = x.2.2 ∧ RefT q' w' ∧ StpQ q q' w w'
section
variable {q : QP} {w w' : World} {av ov : Value} {R : Value → World → Prop} {s : PS}
theorem rvEnd (h : RefT q w) (hx : Ext w w') {x : Res} {r : Value} (hr : r = .tuple #[i32 x.1, i64 x.2.1]) (hp : q.ps = x.2.2) : RvR q w x r w' := ⟨q, hr, hp, h.ext hx, StpQ.of_ext hx⟩
theorem atJ_ok (h : RefT q w) {k : Nat} {x : Arr} (hk : q.ar[k]? = some x) {nn : Nat} {cs : List Value} {idx r : Int} (hr : r = (k : Int) + 1) (hov : SliceIs w ov 1 nn cs) (h0 : 0 ≤ idx) (h1 : idx < nn) (hget : cs[idx.toNat]? = some (i64 r)) :
    drawD w fun S w46 => Go.Vc.Safe (xbT q) ∧ yieldS Tryd.prog S (Instr.fieldAt 63 (xbT q) 0) fun t143 => yieldS Tryd.prog S (Instr.loadAt 59 t143) fun t144 => yieldS Tryd.prog S (Instr.indexAt 32 ov (.int .i64 idx)) fun t146 => yieldS Tryd.prog S (Instr.loadAt 3 t146) fun t147 =>
      (callD Tryd.prog 48 #[t144, t147] w46 fun t148 w47 => S w47 ∧ yieldS Tryd.prog S (Instr.extract t148 0) fun t149 => yieldS Tryd.prog S (Instr.extract t148 1) fun _ => V Tryd.prog (Instr.alloc 105 true (.tuple #[])) w47 fun t23 w48 => S w48 ∧ U Tryd.prog (Instr.storeAt 105 t23 t149) w48 fun _ w49 => S w49 ∧ (∃ b, t23 = .pointer (some ⟨b, 0, none⟩) ∧ Boxed w49 b x.cells ∧ Ext w w49)) ∧
      (V Tryd.prog (Instr.alloc 105 true (.tuple #[])) w46 fun t23 w50 => S w50 ∧ callD Tryd.prog 48 #[t144, t147] w50 fun t148 w51 => S w51 ∧ yieldS Tryd.prog S (Instr.extract t148 0) fun t149 => yieldS Tryd.prog S (Instr.extract t148 1) fun _ => U Tryd.prog (Instr.storeAt 105 t23 t149) w51 fun _ w52 => S w52 ∧ (∃ b, t23 = .pointer (some ⟨b, 0, none⟩) ∧ Boxed w52 b x.cells ∧ Ext w w52)) := by
  have D : Ext w w.drew := (Ext.refl _).drew
  refine drawD.mk' (fun w' => Ext w w') D ⟨.inl ⟨_, rfl⟩, ?_⟩
  refine yfB (fun w' hw => (h.xbox.ext hw).boxed) (by first | exact fa_105_0 | exact fa_105_1 | exact fa_105_2 | exact fa_105_3 | exact fa_105_4 | exact fa_116_0 | exact fa_116_1 | exact fa_120_0 | exact fa_120_1 | exact fa_42_0 | exact fa_42_1 | exact fa_42_2 | exact fa_42_3 | exact fa_42_4 | exact fa_42_5 | exact fa_42_6 | exact fa_57_0 | exact fa_63_0 | exact fa_63_2 | exact fa_63_3 | exact fa_63_4 | exact fa_80_0 | exact fa_80_2 | exact fa_80_3 | exact fa_80_4 | exact fa_91_0 | exact fa_95_0 | exact fa_95_1 | exact fa_95_2 | exact fa_95_3 | exact fa_95_4 | exact fa_95_5) (by first | exact l1_114 | exact l1_21 | exact l1_23 | exact l1_3 | exact l1_32 | exact l1_39 | exact l1_4 | exact l1_40 | exact l1_5 | exact l1_50 | exact l1_55 | exact l1_59 | exact l1_61 | exact l1_76) rfl ?_
  refine ySl xa_32 l1_3 hov (fun w' hw => hw) h0 h1 hget ?_
  refine ⟨?_, ?_⟩
  · refine (atR_ok (h.ext D) hk hr).mono fun v w1 ⟨hv, x1⟩ => ?_
    subst hv
    have X1 := D.trans x1
    refine ⟨X1, ?_⟩
    refine yieldS.ok (fun w' _ => r_ext0) ?_
    refine yieldS.ok (fun w' _ => r_ext1) ?_
    refine alK inf105 fun w2 hb x2 => ?_
    have X2 := X1.trans x2
    refine ⟨X2, ?_⟩
    refine stA inf105 hb (l := x.cells) rfl rfl rfl (cells_one (h.one hk)) fun w3 hb3 hch => ?_
    have X3 := hch.ext w X2 X1.size
    exact ⟨X3, _, rfl, hb3.boxed, X3⟩
  · refine alK inf105 fun w2 hb x2 => ?_
    have X2 := D.trans x2
    refine ⟨X2, ?_⟩
    refine (atR_ok (h.ext X2) hk hr).mono fun v w3 ⟨hv, x3⟩ => ?_
    subst hv
    have X3 := X2.trans x3
    refine ⟨X3, ?_⟩
    refine yieldS.ok (fun w' _ => r_ext0) ?_
    refine yieldS.ok (fun w' _ => r_ext1) ?_
    refine stA inf105 (hb.ext x3) (l := x.cells) rfl rfl rfl (cells_one (h.one hk)) fun w4 hb4 hch => ?_
    have X4 := hch.ext w X3 D.size
    exact ⟨X4, _, rfl, hb4.boxed, X4⟩
theorem fr_xb (h : RefT q w) {w2 : World} (f : Fr (fun i => i = q.yb) w w2) : Boxed w2 q.xb [.pointer (some ⟨q.yb, 0, none⟩), q.iv, q.fv, q.pub, q.sec] := (f.seg h.xbox h.xy).boxed
theorem fr_mu {w2 : World} (f : Fr (fun i => i = q.yb) w w2) : Fr (RMu q) w w2 := f.mono fun i hi => .inr (.inl hi)
theorem ext_mu {w2 : World} (x : Ext w w2) : Fr (RMu q) w w2 := Fr.of_ext x
theorem okB_dat {l : List PA} {r : Int} (h : ∀ x ∈ l, okB x.data) : okB (datP l r) := by
  unfold datP
  cases hg : l[r.toNat - 1]? with
  | none => exact fun b hb => by cases hb
  | some x => exact h x (List.mem_of_getElem? hg)
theorem strOf_inj : ∀ {a b : List Int}, okB a → okB b → (strOfNums a).toList = (strOfNums b).toList → a = b := by
  intro a b ha hb h
  have h2 : (a.map fun n => UInt8.ofNat n.toNat) = b.map fun n => UInt8.ofNat n.toNat := by
    rw [ByteArray.toList_eq, ByteArray.toList_eq] at h
    exact h
  clear h
  induction a generalizing b with
  | nil => cases b with
    | nil => rfl
    | cons y b => simp at h2
  | cons x a ih => cases b with
    | nil => simp at h2
    | cons y b =>
      simp only [List.map_cons, List.cons.injEq] at h2
      have hx := ha x (by simp)
      have hy := hb y (by simp)
      have : x.toNat % 256 = y.toNat % 256 := by
        have := congrArg UInt8.toNat h2.1
        simpa [UInt8.toNat_ofNat] using this
      have hxy : x = y := by omega
      rw [hxy, ih (fun z hz => ha z (by simp [hz])) (fun z hz => hb z (by simp [hz])) h2.2]
theorem rest17 (h : RefT q w) {who sa sb a b : Int} (hov : ∀ w2, Fr (RMu q) w w2 → SliceIs w2 ov 1 2 [i64 a, i64 b]) (hav : SliceIs w av 1 2 [i32 a, i32 b]) (ha : -2147483648 ≤ a ∧ a ≤ 2147483647) (hb : -2147483648 ≤ b ∧ b ≤ 2147483647) (hps : q.ps = s) (hk : ∀ r w', RvR q w (sDiv s a b) r w' → R r w') :
    restS (xbT q) (i64 who) (i64 17) (i64 sa) (i64 sb) av ov w R := by
  unfold restS
  refine ⟨fun v w' => v = .bool true ∧ w' = w, (by first | exact ⟨rfl, rfl⟩ | (try simp only [V_eqlI, Int.reduceEq, decide_false, decide_true, ifD_true]; exact ⟨trivial, trivial⟩) | (try simp only [V_eqlI, Int.reduceEq, decide_false, decide_true, ifD_false, ifD_true]; exact ⟨rfl, rfl⟩)), ?_⟩
  rintro _ w' ⟨rfl, hw⟩ _
  have hw := hw.symm; subst hw
  refine ifD_true.2 ?_
  refine ldx xa_32 l1_3 (hov w (Fr.refl _ _)) (by omega) (by omega) (rfl : ([i64 a, i64 b] : List Value)[(1 : Int).toNat]? = _) ?_
  refine V_eqlI.2 (ifD_dec (fun h0 => hk _ _ (rvEnd h (Ext.refl _) ?_ ?_)) fun h0 => ?_)
  · unfold sDiv; rw [if_pos h0]
  · unfold sDiv; rw [if_pos h0]; exact hps
  have D : Ext w w.drew := (Ext.refl _).drew
  refine drawD.mk' (fun w' => Ext w w') D ?_
  refine ySl xa_39 l1_21 hav (fun w' hw => hw) (by omega) (by omega) (rfl : ([i32 a, i32 b] : List Value)[(0 : Int).toNat]? = _) ?_
  refine ySl xa_39 l1_21 hav (fun w' hw => hw) (by omega) (by omega) (rfl : ([i32 a, i32 b] : List Value)[(1 : Int).toNat]? = _) ?_
  refine (do17_ok ha hb h0).mono fun r w1 ⟨hr, hw⟩ => ?_
  subst hr; have hw := hw.symm; subst hw
  refine ⟨D, hk _ _ (rvEnd h D ?_ ?_)⟩
  · unfold sDiv; rw [if_neg h0]
  · unfold sDiv; rw [if_neg h0]; exact hps
theorem rest18 (h : RefT q w) {who sa sb a b : Int} (hov : ∀ w2, Fr (RMu q) w w2 → SliceIs w2 ov 1 2 [i64 a, i64 b]) (hav : SliceIs w av 1 2 [i32 a, i32 b]) (ha : -2147483648 ≤ a ∧ a ≤ 2147483647) (hb : -2147483648 ≤ b ∧ b ≤ 2147483647) (hps : q.ps = s) (hk : ∀ r w', RvR q w (sRem s a b) r w' → R r w') :
    restS (xbT q) (i64 who) (i64 18) (i64 sa) (i64 sb) av ov w R := by
  unfold restS
  refine ⟨fun v w' => v = .bool true ∧ w' = w, (by first | exact ⟨rfl, rfl⟩ | (try simp only [V_eqlI, Int.reduceEq, decide_false, decide_true, ifD_false]; exact ⟨trivial, trivial⟩) | (try simp only [V_eqlI, Int.reduceEq, decide_false, decide_true, ifD_false, ifD_true]; exact ⟨rfl, rfl⟩)), ?_⟩
  rintro _ w' ⟨rfl, hw⟩ _
  have hw := hw.symm; subst hw
  refine ifD_true.2 ?_
  refine ldx xa_32 l1_3 (hov w (Fr.refl _ _)) (by omega) (by omega) (rfl : ([i64 a, i64 b] : List Value)[(1 : Int).toNat]? = _) ?_
  refine V_eqlI.2 (ifD_dec (fun h0 => hk _ _ (rvEnd h (Ext.refl _) ?_ ?_)) fun h0 => ?_)
  · unfold sRem; rw [if_pos h0]
  · unfold sRem; rw [if_pos h0]; exact hps
  have D : Ext w w.drew := (Ext.refl _).drew
  refine drawD.mk' (fun w' => Ext w w') D ?_
  refine ySl xa_39 l1_21 hav (fun w' hw => hw) (by omega) (by omega) (rfl : ([i32 a, i32 b] : List Value)[(0 : Int).toNat]? = _) ?_
  refine ySl xa_39 l1_21 hav (fun w' hw => hw) (by omega) (by omega) (rfl : ([i32 a, i32 b] : List Value)[(1 : Int).toNat]? = _) ?_
  refine (do18_ok ha hb h0).mono fun r w1 ⟨hr, hw⟩ => ?_
  subst hr; have hw := hw.symm; subst hw
  refine ⟨D, hk _ _ (rvEnd h D ?_ ?_)⟩
  · unfold sRem; rw [if_neg h0]
  · unfold sRem; rw [if_neg h0]; exact hps
set_option maxHeartbeats 3200000 in
theorem rest27_3 (h : RefT q w) {who sb n : Int} (hsb : 0 ≤ sb ∧ sb < 7) (hov : ∀ w2, Fr (RMu q) w w2 → SliceIs w2 ov 1 1 [i64 n]) (hps : q.ps = s.ev [⟨3, 3, sb, n⟩]) (hk : ∀ r w', RvR q w (sMake s who 3 sb n) r w' → R r w') :
    restS (xbT q) (i64 who) (i64 27) (i64 3) (i64 sb) av ov w R := by
  have har : q.ar.map pa = s.ar := congrArg PS.ar hps
  have hsz : q.size = s.size := congrArg PS.size hps
  have hlen : q.ar.length = s.ar.length := by rw [← har, List.length_map]
  have g0 : ([i64 n] : List Value)[(0 : Int).toNat]? = some (i64 n) := rfl
  have hov0 := hov w (Fr.refl _ _)
  unfold restS
  refine ⟨fun v w' => v = .bool false ∧ w' = w, (by first | exact ⟨rfl, rfl⟩ | (try simp only [V_eqlI, Int.reduceEq, decide_false, ifD_false]; exact ⟨trivial, trivial⟩) | (try simp only [V_eqlI, Int.reduceEq, decide_false, decide_true, ifD_false, ifD_true]; exact ⟨rfl, rfl⟩)), ?_⟩
  rintro _ w' ⟨rfl, hw⟩ _
  have hw := hw.symm; subst hw
  refine ifD_false.2 ?_
  try simp only [V_eqlI, Int.reduceEq, decide_false, decide_true, ifD_false, ifD_true]
  refine ldx xa_32 l1_3 hov0 (by omega) (by omega) g0 ?_
  refine V_lss.2 ?_
  by_cases hn0 : n < 0
  · simp only [hn0, gd_tf, pickD_iff, ifD_true, reduceIte, decide_true]
    refine hk _ _ (rvEnd h (Ext.refl _) ?_ ?_) <;> unfold sMake <;> rw [if_pos (.inl hn0)]
    exact hps
  simp only [hn0, gd_f, pickD_iff, reduceIte, Bool.false_eq_true, decide_false]
  refine ldx xa_32 l1_3 hov0 (by omega) (by omega) g0 ?_
  refine V_gtr.2 ?_
  by_cases hn1 : n > 64
  · simp only [hn1, ifD_true, decide_true]
    refine hk _ _ (rvEnd h (Ext.refl _) ?_ ?_) <;> unfold sMake <;> rw [if_pos (.inr hn1)]
    exact hps
  simp only [hn1, ifD_false, decide_false]
  have hnn : ¬ (n < 0 ∨ n > 64) := by omega
  obtain ⟨n, rfl⟩ : ∃ m : Nat, n = m := ⟨n.toNat, by omega⟩
  have D : Ext w w.drew := (Ext.refl _).drew
  have hlf : (IntKind.i64.wrap (sb.tmod 4 + 4)).tmod 4 = lifeF sb := by
    have h7 : sb = 0 ∨ sb = 1 ∨ sb = 2 ∨ sb = 3 ∨ sb = 4 ∨ sb = 5 ∨ sb = 6 := by omega
    rcases h7 with rfl | rfl | rfl | rfl | rfl | rfl | rfl <;> decide
  have hlife : 0 ≤ lifeF sb ∧ lifeF sb ≤ 3 := by
    have h7 : sb = 0 ∨ sb = 1 ∨ sb = 2 ∨ sb = 3 ∨ sb = 4 ∨ sb = 5 ∨ sb = 6 := by omega
    rcases h7 with rfl | rfl | rfl | rfl | rfl | rfl | rfl <;> decide
  refine drawD.mk' (fun w' => Fr (fun i => i = q.yb) w w') (Fr.of_ext D) ⟨.inl ⟨_, rfl⟩, ?_⟩
  refine yfB (fun w' hw => fr_xb h hw) (by first | exact fa_105_0 | exact fa_105_1 | exact fa_105_2 | exact fa_105_3 | exact fa_105_4 | exact fa_116_0 | exact fa_116_1 | exact fa_120_0 | exact fa_120_1 | exact fa_42_0 | exact fa_42_1 | exact fa_42_2 | exact fa_42_3 | exact fa_42_4 | exact fa_42_5 | exact fa_42_6 | exact fa_57_0 | exact fa_63_0 | exact fa_63_2 | exact fa_63_3 | exact fa_63_4 | exact fa_80_0 | exact fa_80_2 | exact fa_80_3 | exact fa_80_4 | exact fa_91_0 | exact fa_95_0 | exact fa_95_1 | exact fa_95_2 | exact fa_95_3 | exact fa_95_4 | exact fa_95_5) (by first | exact l1_114 | exact l1_21 | exact l1_23 | exact l1_3 | exact l1_32 | exact l1_39 | exact l1_4 | exact l1_40 | exact l1_5 | exact l1_50 | exact l1_55 | exact l1_59 | exact l1_61 | exact l1_76) rfl ?_
  refine yieldS.ok (fun w' _ => r_remI (by decide)) ?_
  refine yieldS.ok (fun w' _ => r_add) ?_
  refine yieldS.ok (fun w' _ => r_remI (by decide)) ?_
  rw [hlf]
  refine yieldS.ok (fun w' _ => r_geq) ?_
  refine ySlF xa_32 l1_3 hov0 (fun w' hw => hov w' (fr_mu hw)) (by omega) (by omega) g0 ?_
  refine (allocR3_ok (h.ext D) hlife (n := n) (by omega)).mono fun v w4 hq => ?_
  rw [har] at hq
  rcases hq with ⟨hfull, rfl, x4⟩ | ⟨hroom, rfl, g', cap', dv, h5, s5, f5⟩
  · refine ⟨Fr.of_ext (D.trans x4), ?_⟩
    refine yieldS.ok (fun w' _ => r_ext0) ?_
    refine yieldS.ok (fun w' _ => r_ext1) ?_
    refine V_not.2 (ifD_true.2 ?_)
    refine hk _ _ (rvEnd h (D.trans x4) ?_ ?_) <;> unfold sMake <;> rw [if_neg hnn, if_pos (show lifeF sb > 2 ∨ 8 + (n : Int) > s.size - usedP s.ar from hsz ▸ hfull)]
    exact hps
  · refine ⟨(Fr.of_ext (S := fun i => i = q.yb) D).trans f5 fun _ _ h => h, ?_⟩
    refine yieldS.ok (fun w' _ => r_ext0) ?_
    refine yieldS.ok (fun w' _ => r_ext1) ?_
    refine V_not.2 (ifD_false.2 ?_)
    refine V.ok (r_convI Tryd.underlying3 Tryd.underlying21) ?_
    have hroom' : ¬ (lifeF sb > 2 ∨ 8 + (n : Int) > s.size - usedP s.ar) := hsz ▸ hroom
    refine hk _ _ ⟨_, ?_, ?_, h5, (StpQ.of_ext D).trans s5⟩
    · unfold sMake; rw [if_neg hnn, if_neg hroom', hlen]
    · unfold sMake; rw [if_neg hnn, if_neg hroom']
      show (⟨q.size, (q.ar ++ [_]).map pa, q.tp, q.ts, q.tr⟩ : PS) = _
      rw [List.map_append, har]
      have e := hps
      have e1 : q.tp = s.tp := congrArg PS.tp e
      have e2 : q.ts = s.ts := congrArg PS.ts e
      have e3 : q.tr = s.tr ++ [⟨3, 3, sb, n⟩] := congrArg PS.tr e
      rw [e1, e2, e3, hsz]
      simp only [Int.toNat_natCast]
      rfl
set_option maxHeartbeats 3200000 in
theorem rest27_4 (h : RefT q w) {who sb n : Int} (hsb : 0 ≤ sb ∧ sb < 7) (hov : ∀ w2, Fr (RMu q) w w2 → SliceIs w2 ov 1 1 [i64 n]) (hps : q.ps = s.ev [⟨3, 4, sb, n⟩]) (hk : ∀ r w', RvR q w (sMake s who 4 sb n) r w' → R r w') :
    restS (xbT q) (i64 who) (i64 27) (i64 4) (i64 sb) av ov w R := by
  have har : q.ar.map pa = s.ar := congrArg PS.ar hps
  have hsz : q.size = s.size := congrArg PS.size hps
  have hlen : q.ar.length = s.ar.length := by rw [← har, List.length_map]
  have g0 : ([i64 n] : List Value)[(0 : Int).toNat]? = some (i64 n) := rfl
  have hov0 := hov w (Fr.refl _ _)
  unfold restS
  refine ⟨fun v w' => v = .bool false ∧ w' = w, (by first | exact ⟨rfl, rfl⟩ | (try simp only [V_eqlI, Int.reduceEq, decide_false, ifD_false]; exact ⟨trivial, trivial⟩) | (try simp only [V_eqlI, Int.reduceEq, decide_false, decide_true, ifD_false, ifD_true]; exact ⟨rfl, rfl⟩)), ?_⟩
  rintro _ w' ⟨rfl, hw⟩ _
  have hw := hw.symm; subst hw
  refine ifD_false.2 ?_
  try simp only [V_eqlI, Int.reduceEq, decide_false, decide_true, ifD_false, ifD_true]
  refine ldx xa_32 l1_3 hov0 (by omega) (by omega) g0 ?_
  refine V_lss.2 ?_
  by_cases hn0 : n < 0
  · simp only [hn0, gd_tf, pickD_iff, ifD_true, reduceIte, decide_true]
    refine hk _ _ (rvEnd h (Ext.refl _) ?_ ?_) <;> unfold sMake <;> rw [if_pos (.inl hn0)]
    exact hps
  simp only [hn0, gd_f, pickD_iff, reduceIte, Bool.false_eq_true, decide_false]
  refine ldx xa_32 l1_3 hov0 (by omega) (by omega) g0 ?_
  refine V_gtr.2 ?_
  by_cases hn1 : n > 64
  · simp only [hn1, ifD_true, decide_true]
    refine hk _ _ (rvEnd h (Ext.refl _) ?_ ?_) <;> unfold sMake <;> rw [if_pos (.inr hn1)]
    exact hps
  simp only [hn1, ifD_false, decide_false]
  have hnn : ¬ (n < 0 ∨ n > 64) := by omega
  obtain ⟨n, rfl⟩ : ∃ m : Nat, n = m := ⟨n.toNat, by omega⟩
  have D : Ext w w.drew := (Ext.refl _).drew
  have hlf : (IntKind.i64.wrap (sb.tmod 4 + 4)).tmod 4 = lifeF sb := by
    have h7 : sb = 0 ∨ sb = 1 ∨ sb = 2 ∨ sb = 3 ∨ sb = 4 ∨ sb = 5 ∨ sb = 6 := by omega
    rcases h7 with rfl | rfl | rfl | rfl | rfl | rfl | rfl <;> decide
  have hlife : 0 ≤ lifeF sb ∧ lifeF sb ≤ 3 := by
    have h7 : sb = 0 ∨ sb = 1 ∨ sb = 2 ∨ sb = 3 ∨ sb = 4 ∨ sb = 5 ∨ sb = 6 := by omega
    rcases h7 with rfl | rfl | rfl | rfl | rfl | rfl | rfl <;> decide
  refine drawD.mk' (fun w' => Fr (fun i => i = q.yb) w w') (Fr.of_ext D) ⟨.inl ⟨_, rfl⟩, ?_⟩
  refine yfB (fun w' hw => fr_xb h hw) (by first | exact fa_105_0 | exact fa_105_1 | exact fa_105_2 | exact fa_105_3 | exact fa_105_4 | exact fa_116_0 | exact fa_116_1 | exact fa_120_0 | exact fa_120_1 | exact fa_42_0 | exact fa_42_1 | exact fa_42_2 | exact fa_42_3 | exact fa_42_4 | exact fa_42_5 | exact fa_42_6 | exact fa_57_0 | exact fa_63_0 | exact fa_63_2 | exact fa_63_3 | exact fa_63_4 | exact fa_80_0 | exact fa_80_2 | exact fa_80_3 | exact fa_80_4 | exact fa_91_0 | exact fa_95_0 | exact fa_95_1 | exact fa_95_2 | exact fa_95_3 | exact fa_95_4 | exact fa_95_5) (by first | exact l1_114 | exact l1_21 | exact l1_23 | exact l1_3 | exact l1_32 | exact l1_39 | exact l1_4 | exact l1_40 | exact l1_5 | exact l1_50 | exact l1_55 | exact l1_59 | exact l1_61 | exact l1_76) rfl ?_
  refine yieldS.ok (fun w' _ => r_remI (by decide)) ?_
  refine yieldS.ok (fun w' _ => r_add) ?_
  refine yieldS.ok (fun w' _ => r_remI (by decide)) ?_
  rw [hlf]
  refine yieldS.ok (fun w' _ => r_geq) ?_
  refine ySlF xa_32 l1_3 hov0 (fun w' hw => hov w' (fr_mu hw)) (by omega) (by omega) g0 ?_
  refine (allocR4_ok (h.ext D) hlife (n := n) (by omega)).mono fun v w4 hq => ?_
  rw [har] at hq
  rcases hq with ⟨hfull, rfl, x4⟩ | ⟨hroom, rfl, g', cap', dv, h5, s5, f5⟩
  · refine ⟨Fr.of_ext (D.trans x4), ?_⟩
    refine yieldS.ok (fun w' _ => r_ext0) ?_
    refine yieldS.ok (fun w' _ => r_ext1) ?_
    refine V_not.2 (ifD_true.2 ?_)
    refine hk _ _ (rvEnd h (D.trans x4) ?_ ?_) <;> unfold sMake <;> rw [if_neg hnn, if_pos (show lifeF sb > 2 ∨ 8 + (n : Int) > s.size - usedP s.ar from hsz ▸ hfull)]
    exact hps
  · refine ⟨(Fr.of_ext (S := fun i => i = q.yb) D).trans f5 fun _ _ h => h, ?_⟩
    refine yieldS.ok (fun w' _ => r_ext0) ?_
    refine yieldS.ok (fun w' _ => r_ext1) ?_
    refine V_not.2 (ifD_false.2 ?_)
    refine V.ok (r_convI Tryd.underlying3 Tryd.underlying21) ?_
    have hroom' : ¬ (lifeF sb > 2 ∨ 8 + (n : Int) > s.size - usedP s.ar) := hsz ▸ hroom
    refine hk _ _ ⟨_, ?_, ?_, h5, (StpQ.of_ext D).trans s5⟩
    · unfold sMake; rw [if_neg hnn, if_neg hroom', hlen]
    · unfold sMake; rw [if_neg hnn, if_neg hroom']
      show (⟨q.size, (q.ar ++ [_]).map pa, q.tp, q.ts, q.tr⟩ : PS) = _
      rw [List.map_append, har]
      have e := hps
      have e1 : q.tp = s.tp := congrArg PS.tp e
      have e2 : q.ts = s.ts := congrArg PS.ts e
      have e3 : q.tr = s.tr ++ [⟨3, 4, sb, n⟩] := congrArg PS.tr e
      rw [e1, e2, e3, hsz]
      simp only [Int.toNat_natCast]
      rfl
set_option maxHeartbeats 3200000 in
theorem rest28 (h : RefT q w) {who sa sb r : Int} (hov : ∀ w2, Fr (RMu q) w w2 → SliceIs w2 ov 1 1 [i64 r]) (hps : q.ps = s.ev [⟨2, r, 0, 0⟩]) (hk : ∀ u w', RvR q w (sLen s who r) u w' → R u w') :
    restS (xbT q) (i64 who) (i64 28) (i64 sa) (i64 sb) av ov w R := by
  have har : q.ar.map pa = s.ar := congrArg PS.ar hps
  have hov0 := hov w (Fr.refl _ _)
  have g0 : ([i64 r] : List Value)[(0 : Int).toNat]? = some (i64 r) := rfl
  have D : Ext w w.drew := (Ext.refl _).drew
  unfold restS
  refine ⟨fun v w' => v = .bool false ∧ w' = w, (by first | exact ⟨rfl, rfl⟩ | (try simp only [V_eqlI, Int.reduceEq, decide_false, ifD_false]; exact ⟨trivial, trivial⟩) | (try simp only [V_eqlI, Int.reduceEq, decide_false, decide_true, ifD_false, ifD_true]; exact ⟨rfl, rfl⟩)), ?_⟩
  rintro _ w' ⟨rfl, hw⟩ _
  have hw := hw.symm; subst hw
  refine ifD_false.2 ?_
  try simp only [V_eqlI, Int.reduceEq, decide_false, decide_true, ifD_false, ifD_true]
  have hce : chk q.ar r who = chkP s.ar r who := by rw [chk_pa, har]
  refine drawD.mk' (fun w' => Ext w w') D ⟨.inl ⟨_, rfl⟩, ?_⟩
  refine yfB (fun w' hw => (h.xbox.ext hw).boxed) (by first | exact fa_105_0 | exact fa_105_1 | exact fa_105_2 | exact fa_105_3 | exact fa_105_4 | exact fa_116_0 | exact fa_116_1 | exact fa_120_0 | exact fa_120_1 | exact fa_42_0 | exact fa_42_1 | exact fa_42_2 | exact fa_42_3 | exact fa_42_4 | exact fa_42_5 | exact fa_42_6 | exact fa_57_0 | exact fa_63_0 | exact fa_63_2 | exact fa_63_3 | exact fa_63_4 | exact fa_80_0 | exact fa_80_2 | exact fa_80_3 | exact fa_80_4 | exact fa_91_0 | exact fa_95_0 | exact fa_95_1 | exact fa_95_2 | exact fa_95_3 | exact fa_95_4 | exact fa_95_5) (by first | exact l1_114 | exact l1_21 | exact l1_23 | exact l1_3 | exact l1_32 | exact l1_39 | exact l1_4 | exact l1_40 | exact l1_5 | exact l1_50 | exact l1_55 | exact l1_59 | exact l1_61 | exact l1_76) rfl ?_
  refine ySlF xa_32 l1_3 hov0 (fun w' hw => hov w' (ext_mu hw)) (by omega) (by omega) g0 ?_
  refine (checkR_ok (h.ext D)).mono fun v w1 ⟨hv, x1⟩ => ?_
  subst hv
  have X1 := D.trans x1
  refine ⟨X1, V_neqI.2 (ifD_dec (fun hne => ?_) fun hfine => ?_)⟩
  · refine hk _ _ (rvEnd h X1 ?_ ?_) <;> unfold sLen <;> rw [if_neg (by rw [← hce]; exact hne)]
    · rw [← hce]
    · exact hps
  have hf : chk q.ar r who = 36864 := Classical.not_not.1 hfine
  obtain ⟨k, x, hk2, hr, hm⟩ := chk_fine hf
  refine ⟨_, atJ_ok (h.ext X1) hk2 hr (hov w1 (ext_mu X1)) (by omega) (by omega) g0, ?_⟩
  rintro _ w2 ⟨b, rfl, hbx, x2⟩ _
  refine ldB hbx (by first | exact fa_105_0 | exact fa_105_1 | exact fa_105_2 | exact fa_105_3 | exact fa_105_4 | exact fa_116_0 | exact fa_116_1 | exact fa_120_0 | exact fa_120_1 | exact fa_42_0 | exact fa_42_1 | exact fa_42_2 | exact fa_42_3 | exact fa_42_4 | exact fa_42_5 | exact fa_42_6 | exact fa_57_0 | exact fa_63_0 | exact fa_63_2 | exact fa_63_3 | exact fa_63_4 | exact fa_80_0 | exact fa_80_2 | exact fa_80_3 | exact fa_80_4 | exact fa_91_0 | exact fa_95_0 | exact fa_95_1 | exact fa_95_2 | exact fa_95_3 | exact fa_95_4 | exact fa_95_5) (by first | exact l1_114 | exact l1_21 | exact l1_23 | exact l1_3 | exact l1_32 | exact l1_39 | exact l1_4 | exact l1_40 | exact l1_5 | exact l1_50 | exact l1_55 | exact l1_59 | exact l1_61 | exact l1_76) rfl (lnx (by first | exact xa_114 | exact xa_22 | exact xa_32 | exact xa_39 | exact xa_40 | exact xa_55 | exact xa_61) (SliceIs.of_own ((X1.trans x2).own (h.data x (List.mem_of_getElem? hk2)))) ?_)
  refine V.ok (r_convI Tryd.underlying3 Tryd.underlying21) (hk _ _ (rvEnd h (X1.trans x2) ?_ ?_)) <;> unfold sLen <;> rw [if_pos (by rw [← hce]; exact hf)]
  · rw [← har, show datP (q.ar.map pa) r = x.data from dat_pa hk2 hr]
  · exact hps
set_option maxHeartbeats 3200000 in
theorem rest29 (h : RefT q w) {who sa sb r a : Int} (hov : ∀ w2, Fr (RMu q) w w2 → SliceIs w2 ov 1 2 [i64 r, i64 a]) (hps : q.ps = s.ev [⟨2, r, a, 1⟩]) (hk : ∀ u w', RvR q w (sGet s who r a) u w' → R u w') :
    restS (xbT q) (i64 who) (i64 29) (i64 sa) (i64 sb) av ov w R := by
  have har : q.ar.map pa = s.ar := congrArg PS.ar hps
  have hov0 := hov w (Fr.refl _ _)
  have g0 : ([i64 r, i64 a] : List Value)[(0 : Int).toNat]? = some (i64 r) := rfl
  have g1 : ([i64 r, i64 a] : List Value)[(1 : Int).toNat]? = some (i64 a) := rfl
  have D : Ext w w.drew := (Ext.refl _).drew
  unfold restS
  refine ⟨fun v w' => v = .bool false ∧ w' = w, (by first | exact ⟨rfl, rfl⟩ | (try simp only [V_eqlI, Int.reduceEq, decide_false, ifD_false]; exact ⟨trivial, trivial⟩) | (try simp only [V_eqlI, Int.reduceEq, decide_false, decide_true, ifD_false, ifD_true]; exact ⟨rfl, rfl⟩)), ?_⟩
  rintro _ w' ⟨rfl, hw⟩ _
  have hw := hw.symm; subst hw
  refine ifD_false.2 ?_
  try simp only [V_eqlI, Int.reduceEq, decide_false, decide_true, ifD_false, ifD_true]
  refine ⟨fun v w' => v = .bool true ∧ w' = w, (by first | exact ⟨rfl, rfl⟩ | (try simp only [V_eqlI, Int.reduceEq, decide_false, decide_true, ifD_false, ifD_true]; exact ⟨trivial, trivial⟩) | (try simp only [V_eqlI, Int.reduceEq, decide_false, decide_true, ifD_false, ifD_true]; exact ⟨rfl, rfl⟩)), ?_⟩
  rintro _ w' ⟨rfl, hw⟩ _
  have hw := hw.symm; subst hw
  refine ifD_true.2 ?_
  refine drawD.mk' (fun w' => Ext w w') D ⟨.inl ⟨_, rfl⟩, ?_⟩
  refine yfB (fun w' hw => (h.xbox.ext hw).boxed) (by first | exact fa_105_0 | exact fa_105_1 | exact fa_105_2 | exact fa_105_3 | exact fa_105_4 | exact fa_116_0 | exact fa_116_1 | exact fa_120_0 | exact fa_120_1 | exact fa_42_0 | exact fa_42_1 | exact fa_42_2 | exact fa_42_3 | exact fa_42_4 | exact fa_42_5 | exact fa_42_6 | exact fa_57_0 | exact fa_63_0 | exact fa_63_2 | exact fa_63_3 | exact fa_63_4 | exact fa_80_0 | exact fa_80_2 | exact fa_80_3 | exact fa_80_4 | exact fa_91_0 | exact fa_95_0 | exact fa_95_1 | exact fa_95_2 | exact fa_95_3 | exact fa_95_4 | exact fa_95_5) (by first | exact l1_114 | exact l1_21 | exact l1_23 | exact l1_3 | exact l1_32 | exact l1_39 | exact l1_4 | exact l1_40 | exact l1_5 | exact l1_50 | exact l1_55 | exact l1_59 | exact l1_61 | exact l1_76) rfl ?_
  refine ySlF xa_32 l1_3 hov0 (fun w' hw => hov w' (ext_mu hw)) (by omega) (by omega) g0 ?_
  refine ySlF xa_32 l1_3 hov0 (fun w' hw => hov w' (ext_mu hw)) (by omega) (by omega) g1 ?_
  refine (rangeR_ok (h.ext D)).mono fun v w1 ⟨hv, x1⟩ => ?_
  subst hv
  have X1 := D.trans x1
  rw [har]
  refine ⟨X1, V_neqI.2 (ifD_dec (fun hne => ?_) fun hfine => ?_)⟩
  · refine hk _ _ (rvEnd h X1 ?_ ?_) <;> unfold sGet <;> rw [if_neg hne]
    exact hps
  have hf : rngP s.ar r a 1 who = 36864 := Classical.not_not.1 hfine
  obtain ⟨k, x, hk2, hr, hm, ha0, _, han⟩ := rng_fine ((rng_pa q.ar r a 1 who).trans (by rw [har]; exact hf))
  obtain ⟨a, rfl⟩ : ∃ n : Nat, a = n := ⟨a.toNat, by omega⟩
  try simp only [V_eqlI, Int.reduceEq, decide_false, decide_true, ifD_false, ifD_true]
  refine ⟨_, atJ_ok (h.ext X1) hk2 hr (hov w1 (ext_mu X1)) (by omega) (by omega) g0, ?_⟩
  rintro _ w2 ⟨b, rfl, hbx, x2⟩ _
  have X2 := X1.trans x2
  have D2 : Ext w2 w2.drew := (Ext.refl _).drew
  refine drawD.mk' (fun w' => Ext w2 w') D2 ?_
  refine yfB (fun w' hw => hbx.ext hw) (by first | exact fa_105_0 | exact fa_105_1 | exact fa_105_2 | exact fa_105_3 | exact fa_105_4 | exact fa_116_0 | exact fa_116_1 | exact fa_120_0 | exact fa_120_1 | exact fa_42_0 | exact fa_42_1 | exact fa_42_2 | exact fa_42_3 | exact fa_42_4 | exact fa_42_5 | exact fa_42_6 | exact fa_57_0 | exact fa_63_0 | exact fa_63_2 | exact fa_63_3 | exact fa_63_4 | exact fa_80_0 | exact fa_80_2 | exact fa_80_3 | exact fa_80_4 | exact fa_91_0 | exact fa_95_0 | exact fa_95_1 | exact fa_95_2 | exact fa_95_3 | exact fa_95_4 | exact fa_95_5) (by first | exact l1_114 | exact l1_21 | exact l1_23 | exact l1_3 | exact l1_32 | exact l1_39 | exact l1_4 | exact l1_40 | exact l1_5 | exact l1_50 | exact l1_55 | exact l1_59 | exact l1_61 | exact l1_76) rfl ?_
  refine ySl xa_32 l1_3 (hov w2 (ext_mu X2)) (fun w' hw => hw) (by omega) (by omega) g1 ?_
  refine ySl xa_40 l1_5 (SliceIs.of_own (X2.own (h.data x (List.mem_of_getElem? hk2)))) (fun w' hw => hw) (by omega) (by omega) (getD_u8 (by omega)) ?_
  refine yieldS.ok (fun w' _ => r_convI Tryd.underlying5 Tryd.underlying21) ?_
  refine hk _ _ (rvEnd h (X2.trans D2) ?_ ?_) <;> unfold sGet <;> rw [if_pos hf]
  · rw [← har, show datP (q.ar.map pa) r = x.data from dat_pa hk2 hr, Int.toNat_natCast]
  · exact hps
set_option maxHeartbeats 3200000 in
theorem rest30 (h : RefT q w) {who sa sb r a z : Int} (hov : ∀ w2, Fr (RMu q) w w2 → SliceIs w2 ov 1 3 [i64 r, i64 a, i64 z]) (hps : q.ps = s.ev [⟨2, r, a, 1⟩]) (hk : ∀ u w', RvR q w (sPut s who r a z) u w' → R u w') :
    restS (xbT q) (i64 who) (i64 30) (i64 sa) (i64 sb) av ov w R := by
  have har : q.ar.map pa = s.ar := congrArg PS.ar hps
  have hov0 := hov w (Fr.refl _ _)
  have g0 : ([i64 r, i64 a, i64 z] : List Value)[(0 : Int).toNat]? = some (i64 r) := rfl
  have g1 : ([i64 r, i64 a, i64 z] : List Value)[(1 : Int).toNat]? = some (i64 a) := rfl
  have g2 : ([i64 r, i64 a, i64 z] : List Value)[(2 : Int).toNat]? = some (i64 z) := rfl
  have D : Ext w w.drew := (Ext.refl _).drew
  unfold restS
  refine ⟨fun v w' => v = .bool false ∧ w' = w, (by first | exact ⟨rfl, rfl⟩ | (try simp only [V_eqlI, Int.reduceEq, decide_false, ifD_false]; exact ⟨trivial, trivial⟩) | (try simp only [V_eqlI, Int.reduceEq, decide_false, decide_true, ifD_false, ifD_true]; exact ⟨rfl, rfl⟩)), ?_⟩
  rintro _ w' ⟨rfl, hw⟩ _
  have hw := hw.symm; subst hw
  refine ifD_false.2 ?_
  try simp only [V_eqlI, Int.reduceEq, decide_false, decide_true, ifD_false, ifD_true]
  refine ⟨fun v w' => v = .bool true ∧ w' = w, (by first | exact ⟨rfl, rfl⟩ | (try simp only [V_eqlI, Int.reduceEq, decide_false, decide_true, ifD_false, ifD_true]; exact ⟨trivial, trivial⟩) | (try simp only [V_eqlI, Int.reduceEq, decide_false, decide_true, ifD_false, ifD_true]; exact ⟨rfl, rfl⟩)), ?_⟩
  rintro _ w' ⟨rfl, hw⟩ _
  have hw := hw.symm; subst hw
  refine ifD_true.2 ?_
  refine drawD.mk' (fun w' => Ext w w') D ⟨.inl ⟨_, rfl⟩, ?_⟩
  refine yfB (fun w' hw => (h.xbox.ext hw).boxed) (by first | exact fa_105_0 | exact fa_105_1 | exact fa_105_2 | exact fa_105_3 | exact fa_105_4 | exact fa_116_0 | exact fa_116_1 | exact fa_120_0 | exact fa_120_1 | exact fa_42_0 | exact fa_42_1 | exact fa_42_2 | exact fa_42_3 | exact fa_42_4 | exact fa_42_5 | exact fa_42_6 | exact fa_57_0 | exact fa_63_0 | exact fa_63_2 | exact fa_63_3 | exact fa_63_4 | exact fa_80_0 | exact fa_80_2 | exact fa_80_3 | exact fa_80_4 | exact fa_91_0 | exact fa_95_0 | exact fa_95_1 | exact fa_95_2 | exact fa_95_3 | exact fa_95_4 | exact fa_95_5) (by first | exact l1_114 | exact l1_21 | exact l1_23 | exact l1_3 | exact l1_32 | exact l1_39 | exact l1_4 | exact l1_40 | exact l1_5 | exact l1_50 | exact l1_55 | exact l1_59 | exact l1_61 | exact l1_76) rfl ?_
  refine ySlF xa_32 l1_3 hov0 (fun w' hw => hov w' (ext_mu hw)) (by omega) (by omega) g0 ?_
  refine ySlF xa_32 l1_3 hov0 (fun w' hw => hov w' (ext_mu hw)) (by omega) (by omega) g1 ?_
  refine (rangeR_ok (h.ext D)).mono fun v w1 ⟨hv, x1⟩ => ?_
  subst hv
  have X1 := D.trans x1
  rw [har]
  refine ⟨X1, V_neqI.2 (ifD_dec (fun hne => ?_) fun hfine => ?_)⟩
  · refine hk _ _ (rvEnd h X1 ?_ ?_) <;> unfold sPut <;> rw [if_neg hne]
    exact hps
  have hf : rngP s.ar r a 1 who = 36864 := Classical.not_not.1 hfine
  obtain ⟨k, x, hk2, hr, hm, ha0, _, han⟩ := rng_fine ((rng_pa q.ar r a 1 who).trans (by rw [har]; exact hf))
  obtain ⟨a, rfl⟩ : ∃ n : Nat, a = n := ⟨a.toNat, by omega⟩
  try simp only [V_eqlI, Int.reduceEq, decide_false, decide_true, ifD_false, ifD_true]
  have D1 : Ext w1 w1.drew := (Ext.refl _).drew
  have X2 := X1.trans D1
  refine drawD.mk' (fun w' => Fr (fun i => i = q.yb) w w') (Fr.of_ext X2) ⟨.inl ⟨_, rfl⟩, ?_⟩
  refine yfB (fun w' hw => fr_xb h hw) (by first | exact fa_105_0 | exact fa_105_1 | exact fa_105_2 | exact fa_105_3 | exact fa_105_4 | exact fa_116_0 | exact fa_116_1 | exact fa_120_0 | exact fa_120_1 | exact fa_42_0 | exact fa_42_1 | exact fa_42_2 | exact fa_42_3 | exact fa_42_4 | exact fa_42_5 | exact fa_42_6 | exact fa_57_0 | exact fa_63_0 | exact fa_63_2 | exact fa_63_3 | exact fa_63_4 | exact fa_80_0 | exact fa_80_2 | exact fa_80_3 | exact fa_80_4 | exact fa_91_0 | exact fa_95_0 | exact fa_95_1 | exact fa_95_2 | exact fa_95_3 | exact fa_95_4 | exact fa_95_5) (by first | exact l1_114 | exact l1_21 | exact l1_23 | exact l1_3 | exact l1_32 | exact l1_39 | exact l1_4 | exact l1_40 | exact l1_5 | exact l1_50 | exact l1_55 | exact l1_59 | exact l1_61 | exact l1_76) rfl ?_
  refine ySlF xa_32 l1_3 hov0 (fun w' hw => hov w' (fr_mu hw)) (by omega) (by omega) g0 ?_
  refine ySlF xa_32 l1_3 hov0 (fun w' hw => hov w' (fr_mu hw)) (by omega) (by omega) g1 ?_
  refine ySlF xa_32 l1_3 hov0 (fun w' hw => hov w' (fr_mu hw)) (by omega) (by omega) g2 ?_
  refine yieldS.ok (fun w' _ => r_convI Tryd.underlying3 Tryd.underlying5) ?_
  refine bsl xe_40 [u8 (IntKind.u8.wrap z)] rfl rfl (by simp) rfl fun sv w3 ho3 x3 => ?_
  have X3 := X2.trans x3
  refine ⟨Fr.of_ext X3, ?_⟩
  refine (putR_ok (h.ext X3) hk2 hr (a := a) (S := [IntKind.u8.wrap z]) (SliceIs.of_own ho3) (by simp; omega)).mono fun _ w4 ⟨g', cap', dv, h5, s5, f5⟩ => ?_
  refine ⟨(Fr.of_ext (S := fun i => i = q.yb) X3).trans f5 fun _ _ h => h, hk _ _ ⟨_, ?_, ?_, h5, (StpQ.of_ext X3).trans s5⟩⟩ <;> unfold sPut <;> rw [if_pos hf]
  · rw [← har, show datP (q.ar.map pa) r = x.data from dat_pa hk2 hr, Int.toNat_natCast]
    have hset : x.data.take a ++ [IntKind.u8.wrap z] ++ x.data.drop (a + [IntKind.u8.wrap z].length) = x.data.set a (IntKind.u8.wrap z) := by
      rw [List.set_eq_take_append_cons_drop, if_pos (by omega)]
      simp
    rw [hset]
    show (⟨q.size, (q.ar.set k { x with dv := dv, data := x.data.set a (IntKind.u8.wrap z) }).map pa, q.tp, q.ts, q.tr⟩ : PS) = _
    rw [set_dv hk2 hr]
    have e1 : q.tp = s.tp := congrArg PS.tp hps
    have e2 : q.ts = s.ts := congrArg PS.ts hps
    have e3 : q.tr = s.tr ++ [⟨2, r, (a : Int), 1⟩] := congrArg PS.tr hps
    have e4 : q.size = s.size := congrArg PS.size hps
    rw [e1, e2, e3, e4]
    rfl
set_option maxHeartbeats 3200000 in
theorem rest31 (h : RefT q w) {who sa sb r1 a1 r2 a2 n : Int} (hby : ∀ x ∈ s.ar, okB x.data) (hov : ∀ w2, Fr (RMu q) w w2 → SliceIs w2 ov 1 5 [i64 r1, i64 a1, i64 r2, i64 a2, i64 n]) (hps : q.ps = s.ev2 r1 a1 r2 a2 n) (hk : ∀ u w', RvR q w (sCopy s who r1 a1 r2 a2 n) u w' → R u w') :
    restS (xbT q) (i64 who) (i64 31) (i64 sa) (i64 sb) av ov w R := by
  have har : q.ar.map pa = s.ar := congrArg PS.ar hps
  have hov0 := hov w (Fr.refl _ _)
  have g0 : ([i64 r1, i64 a1, i64 r2, i64 a2, i64 n] : List Value)[(0 : Int).toNat]? = some (i64 r1) := rfl
  have g1 : ([i64 r1, i64 a1, i64 r2, i64 a2, i64 n] : List Value)[(1 : Int).toNat]? = some (i64 a1) := rfl
  have g2 : ([i64 r1, i64 a1, i64 r2, i64 a2, i64 n] : List Value)[(2 : Int).toNat]? = some (i64 r2) := rfl
  have g3 : ([i64 r1, i64 a1, i64 r2, i64 a2, i64 n] : List Value)[(3 : Int).toNat]? = some (i64 a2) := rfl
  have g4 : ([i64 r1, i64 a1, i64 r2, i64 a2, i64 n] : List Value)[(4 : Int).toNat]? = some (i64 n) := rfl
  have D : Ext w w.drew := (Ext.refl _).drew
  unfold restS
  refine ⟨fun v w' => v = .bool false ∧ w' = w, (by first | exact ⟨rfl, rfl⟩ | (try simp only [V_eqlI, Int.reduceEq, decide_false, ifD_false]; exact ⟨trivial, trivial⟩) | (try simp only [V_eqlI, Int.reduceEq, decide_false, decide_true, ifD_false, ifD_true]; exact ⟨rfl, rfl⟩)), ?_⟩
  rintro _ w' ⟨rfl, hw⟩ _
  have hw := hw.symm; subst hw
  refine ifD_false.2 ?_
  try simp only [V_eqlI, Int.reduceEq, decide_false, decide_true, ifD_false, ifD_true]
  refine ⟨fun v w' => v = .bool false ∧ w' = w, (by first | exact ⟨rfl, rfl⟩ | (try simp only [V_eqlI, Int.reduceEq, decide_false, decide_true, ifD_false, ifD_true]; exact ⟨trivial, trivial⟩) | (try simp only [V_eqlI, Int.reduceEq, decide_false, decide_true, ifD_false, ifD_true]; exact ⟨rfl, rfl⟩)), ?_⟩
  rintro _ w' ⟨rfl, hw⟩ _
  have hw := hw.symm; subst hw
  refine ifD_false.2 ?_
  refine ⟨fun v w' => v = .bool true ∧ w' = w, (by first | exact ⟨rfl, rfl⟩ | (try simp only [V_eqlI, Int.reduceEq, decide_false, decide_true, ifD_false, ifD_true]; exact ⟨trivial, trivial⟩) | (try simp only [V_eqlI, Int.reduceEq, decide_false, decide_true, ifD_false, ifD_true]; exact ⟨rfl, rfl⟩)), ?_⟩
  rintro _ w' ⟨rfl, hw⟩ _
  have hw := hw.symm; subst hw
  refine ifD_true.2 ?_
  refine drawD.mk' (fun w' => Ext w w') D ⟨.inl ⟨_, rfl⟩, ?_⟩
  refine yfB (fun w' hw => (h.xbox.ext hw).boxed) (by first | exact fa_105_0 | exact fa_105_1 | exact fa_105_2 | exact fa_105_3 | exact fa_105_4 | exact fa_116_0 | exact fa_116_1 | exact fa_120_0 | exact fa_120_1 | exact fa_42_0 | exact fa_42_1 | exact fa_42_2 | exact fa_42_3 | exact fa_42_4 | exact fa_42_5 | exact fa_42_6 | exact fa_57_0 | exact fa_63_0 | exact fa_63_2 | exact fa_63_3 | exact fa_63_4 | exact fa_80_0 | exact fa_80_2 | exact fa_80_3 | exact fa_80_4 | exact fa_91_0 | exact fa_95_0 | exact fa_95_1 | exact fa_95_2 | exact fa_95_3 | exact fa_95_4 | exact fa_95_5) (by first | exact l1_114 | exact l1_21 | exact l1_23 | exact l1_3 | exact l1_32 | exact l1_39 | exact l1_4 | exact l1_40 | exact l1_5 | exact l1_50 | exact l1_55 | exact l1_59 | exact l1_61 | exact l1_76) rfl ?_
  refine ySlF xa_32 l1_3 hov0 (fun w' hw => hov w' (ext_mu hw)) (by omega) (by omega) g0 ?_
  refine ySlF xa_32 l1_3 hov0 (fun w' hw => hov w' (ext_mu hw)) (by omega) (by omega) g1 ?_
  refine ySlF xa_32 l1_3 hov0 (fun w' hw => hov w' (ext_mu hw)) (by omega) (by omega) g4 ?_
  refine (rangeR_ok (h.ext D)).mono fun v w1 ⟨hv, x1⟩ => ?_
  subst hv
  have X1 := D.trans x1
  rw [har]
  refine ⟨X1, V_neqI.2 (ifD_dec (fun hne => ?_) fun hf1 => ?_)⟩
  · have hb : sBoth s who r1 a1 r2 a2 n = rngP s.ar r1 a1 n who := by unfold sBoth; rw [if_neg hne]
    refine hk _ _ (rvEnd h X1 ?_ ?_) <;> unfold sCopy <;> rw [if_neg (by rw [hb]; exact hne)]
    · rw [hb]
    · exact hps
  have hf1 : rngP s.ar r1 a1 n who = 36864 := Classical.not_not.1 hf1
  have D1 : Ext w1 w1.drew := (Ext.refl _).drew
  have X1d := X1.trans D1
  refine drawD.mk' (fun w' => Ext w w') X1d ⟨.inl ⟨_, rfl⟩, ?_⟩
  refine yfB (fun w' hw => (h.xbox.ext hw).boxed) (by first | exact fa_105_0 | exact fa_105_1 | exact fa_105_2 | exact fa_105_3 | exact fa_105_4 | exact fa_116_0 | exact fa_116_1 | exact fa_120_0 | exact fa_120_1 | exact fa_42_0 | exact fa_42_1 | exact fa_42_2 | exact fa_42_3 | exact fa_42_4 | exact fa_42_5 | exact fa_42_6 | exact fa_57_0 | exact fa_63_0 | exact fa_63_2 | exact fa_63_3 | exact fa_63_4 | exact fa_80_0 | exact fa_80_2 | exact fa_80_3 | exact fa_80_4 | exact fa_91_0 | exact fa_95_0 | exact fa_95_1 | exact fa_95_2 | exact fa_95_3 | exact fa_95_4 | exact fa_95_5) (by first | exact l1_114 | exact l1_21 | exact l1_23 | exact l1_3 | exact l1_32 | exact l1_39 | exact l1_4 | exact l1_40 | exact l1_5 | exact l1_50 | exact l1_55 | exact l1_59 | exact l1_61 | exact l1_76) rfl ?_
  refine ySlF xa_32 l1_3 hov0 (fun w' hw => hov w' (ext_mu hw)) (by omega) (by omega) g2 ?_
  refine ySlF xa_32 l1_3 hov0 (fun w' hw => hov w' (ext_mu hw)) (by omega) (by omega) g3 ?_
  refine ySlF xa_32 l1_3 hov0 (fun w' hw => hov w' (ext_mu hw)) (by omega) (by omega) g4 ?_
  refine (rangeR_ok (h.ext X1d)).mono fun v w2 ⟨hv, x2⟩ => ?_
  subst hv
  have X2 := X1d.trans x2
  rw [har]
  have hb : sBoth s who r1 a1 r2 a2 n = rngP s.ar r2 a2 n who := by unfold sBoth; rw [if_pos hf1]
  refine ⟨X2, V_neqI.2 (ifD_dec (fun hne => ?_) fun hf2 => ?_)⟩
  · refine hk _ _ (rvEnd h X2 ?_ ?_) <;> unfold sCopy <;> rw [if_neg (by rw [hb]; exact hne)]
    · rw [hb]
    · exact hps
  have hf2 : rngP s.ar r2 a2 n who = 36864 := Classical.not_not.1 hf2
  have hfine : sBoth s who r1 a1 r2 a2 n = 36864 := hb.trans hf2
  obtain ⟨k1, y1, hk1, hr1, hm1, ha1, hn0, hn1⟩ := rng_fine ((rng_pa q.ar r1 a1 n who).trans (by rw [har]; exact hf1))
  obtain ⟨k2, y2, hk2, hr2, hm2, ha2, _, hn2⟩ := rng_fine ((rng_pa q.ar r2 a2 n who).trans (by rw [har]; exact hf2))
  obtain ⟨n, rfl⟩ : ∃ m : Nat, n = m := ⟨n.toNat, by omega⟩
  obtain ⟨a, rfl⟩ : ∃ m : Nat, a1 = m := ⟨a1.toNat, by omega⟩
  obtain ⟨c, rfl⟩ : ∃ m : Nat, a2 = m := ⟨a2.toNat, by omega⟩
  have hym1 := List.mem_of_getElem? hk1
  have hym2 := List.mem_of_getElem? hk2
  have hl1 := h.len y1 hym1
  have hl2 := h.len y2 hym2
  have d1 : datP s.ar r1 = y1.data := by rw [← har]; exact dat_pa hk1 hr1
  have d2 : datP s.ar r2 = y2.data := by rw [← har]; exact dat_pa hk2 hr2
  refine ⟨_, atJ_ok (h.ext X2) hk1 hr1 (hov w2 (ext_mu X2)) (by omega) (by omega) g0, ?_⟩
  rintro _ w3 ⟨b1, rfl, hbx1, x3⟩ _
  have X3 := X2.trans x3
  refine ⟨_, atJ_ok (h.ext X3) hk2 hr2 (hov w3 (ext_mu X3)) (by omega) (by omega) g2, ?_⟩
  rintro _ w4 ⟨b2, rfl, hbx2, x4⟩ _
  have X4 := X3.trans x4
  have D4 : Ext w4 w4.drew := (Ext.refl _).drew
  have X5 := X4.trans D4
  have hs2 : ∀ {w'}, Ext w w' → SliceIs w' y2.dv 1 y2.data.length (y2.data.map u8) := fun hx => SliceIs.of_own (hx.own (h.data y2 hym2))
  have hs1 : ∀ {w'}, Ext w w' → SliceIs w' y1.dv 1 y1.data.length (y1.data.map u8) := fun hx => SliceIs.of_own (hx.own (h.data y1 hym1))
  refine drawD.mk' (fun w' => Ext w4 w') D4 ?_
  refine yfB (fun w' hw => hbx2.ext hw) (by first | exact fa_105_0 | exact fa_105_1 | exact fa_105_2 | exact fa_105_3 | exact fa_105_4 | exact fa_116_0 | exact fa_116_1 | exact fa_120_0 | exact fa_120_1 | exact fa_42_0 | exact fa_42_1 | exact fa_42_2 | exact fa_42_3 | exact fa_42_4 | exact fa_42_5 | exact fa_42_6 | exact fa_57_0 | exact fa_63_0 | exact fa_63_2 | exact fa_63_3 | exact fa_63_4 | exact fa_80_0 | exact fa_80_2 | exact fa_80_3 | exact fa_80_4 | exact fa_91_0 | exact fa_95_0 | exact fa_95_1 | exact fa_95_2 | exact fa_95_3 | exact fa_95_4 | exact fa_95_5) (by first | exact l1_114 | exact l1_21 | exact l1_23 | exact l1_3 | exact l1_32 | exact l1_39 | exact l1_4 | exact l1_40 | exact l1_5 | exact l1_50 | exact l1_55 | exact l1_59 | exact l1_61 | exact l1_76) rfl ?_
  refine ySlF xa_32 l1_3 hov0 (fun w' hw => hov w' (ext_mu (X4.trans hw))) (by omega) (by omega) g3 ?_
  refine ySlF xa_32 l1_3 hov0 (fun w' hw => hov w' (ext_mu (X4.trans hw))) (by omega) (by omega) g3 ?_
  refine ySlF xa_32 l1_3 hov0 (fun w' hw => hov w' (ext_mu (X4.trans hw))) (by omega) (by omega) g4 ?_
  refine yieldS.ok (fun w' _ => r_add) ?_
  rw [show IntKind.i64.wrap ((c : Int) + (n : Int)) = ((c + n : Nat) : Int) from by rw [wrap_id (by omega) (by omega)]; omega]
  obtain ⟨fv, hfr, hfs⟩ := r_sl (P := Tryd.prog) Tryd.underlying40 inf5 (hs2 X5) (lo := some (i64 (c : Int))) (hi' := some (i64 ((c + n : Nat) : Int))) (a := c) (b := c + n) (.inr rfl) (.inr rfl) (by omega) (by omega)
  refine yieldS.ok (fun w' _ => hfr w') ?_
  have e2 : ((y2.data.drop c).take n).length = n := by simp; omega
  have hfB : ∀ {w'}, Ext w w' → BytesAre w' fv ((y2.data.drop c).take n) := fun hx => by
    have := hfs _ (hs2 hx)
    unfold BytesAre
    rw [e2]
    simpa using this
  try simp only [V_eqlI, Int.reduceEq, decide_false, decide_true, ifD_false, ifD_true]
  have D5 : Ext w4.drew w4.drew.drew := (Ext.refl _).drew
  have X6 := X5.trans D5
  refine drawD.mk' (fun w' => Fr (fun i => i = q.yb) w w') (Fr.of_ext X6) ⟨.inl ⟨_, rfl⟩, ?_⟩
  refine yfB (fun w' hw => fr_xb h hw) (by first | exact fa_105_0 | exact fa_105_1 | exact fa_105_2 | exact fa_105_3 | exact fa_105_4 | exact fa_116_0 | exact fa_116_1 | exact fa_120_0 | exact fa_120_1 | exact fa_42_0 | exact fa_42_1 | exact fa_42_2 | exact fa_42_3 | exact fa_42_4 | exact fa_42_5 | exact fa_42_6 | exact fa_57_0 | exact fa_63_0 | exact fa_63_2 | exact fa_63_3 | exact fa_63_4 | exact fa_80_0 | exact fa_80_2 | exact fa_80_3 | exact fa_80_4 | exact fa_91_0 | exact fa_95_0 | exact fa_95_1 | exact fa_95_2 | exact fa_95_3 | exact fa_95_4 | exact fa_95_5) (by first | exact l1_114 | exact l1_21 | exact l1_23 | exact l1_3 | exact l1_32 | exact l1_39 | exact l1_4 | exact l1_40 | exact l1_5 | exact l1_50 | exact l1_55 | exact l1_59 | exact l1_61 | exact l1_76) rfl ?_
  refine ySlF xa_32 l1_3 hov0 (fun w' hw => hov w' (fr_mu hw)) (by omega) (by omega) g0 ?_
  refine ySlF xa_32 l1_3 hov0 (fun w' hw => hov w' (fr_mu hw)) (by omega) (by omega) g1 ?_
  refine (putR_ok (h.ext X6) hk1 hr1 (a := a) (hfB X6) (by rw [e2]; omega)).mono fun _ w7 ⟨g', cap', dv, h7, s7, f7⟩ => ?_
  refine ⟨(Fr.of_ext (S := fun i => i = q.yb) X6).trans f7 fun _ _ h => h, hk _ _ ⟨_, ?_, ?_, h7, (StpQ.of_ext X6).trans s7⟩⟩ <;> unfold sCopy <;> rw [if_pos hfine]
  · have ec : cpyP s.ar r1 (a : Int) r2 (c : Int) (n : Int) = y1.data.take a ++ (y2.data.drop c).take n ++ y1.data.drop (a + ((y2.data.drop c).take n).length) := by
      unfold cpyP
      rw [d1, d2, e2]
      simp only [Int.toNat_natCast]
    rw [ec, ← har]
    show (⟨q.size, (q.ar.set k1 { y1 with dv := dv, data := y1.data.take a ++ (y2.data.drop c).take n ++ y1.data.drop (a + ((y2.data.drop c).take n).length) }).map pa, q.tp, q.ts, q.tr⟩ : PS) = _
    rw [set_dv hk1 hr1]
    have e1 : q.tp = s.tp := congrArg PS.tp hps
    have e2 : q.ts = s.ts := congrArg PS.ts hps
    have e3 : q.tr = (s.tr ++ [⟨2, r1, (a : Int), (n : Int)⟩]) ++ [⟨2, r2, (c : Int), (n : Int)⟩] := congrArg PS.tr hps
    have e4 : q.size = s.size := congrArg PS.size hps
    rw [e1, e2, e3, e4]
    rfl
set_option maxHeartbeats 3200000 in
theorem rest32 (h : RefT q w) {who sa sb r1 a1 r2 a2 n : Int} (hby : ∀ x ∈ s.ar, okB x.data) (hov : ∀ w2, Fr (RMu q) w w2 → SliceIs w2 ov 1 5 [i64 r1, i64 a1, i64 r2, i64 a2, i64 n]) (hps : q.ps = s.ev2 r1 a1 r2 a2 n) (hk : ∀ u w', RvR q w (sSame s who r1 a1 r2 a2 n) u w' → R u w') :
    restS (xbT q) (i64 who) (i64 32) (i64 sa) (i64 sb) av ov w R := by
  have har : q.ar.map pa = s.ar := congrArg PS.ar hps
  have hov0 := hov w (Fr.refl _ _)
  have g0 : ([i64 r1, i64 a1, i64 r2, i64 a2, i64 n] : List Value)[(0 : Int).toNat]? = some (i64 r1) := rfl
  have g1 : ([i64 r1, i64 a1, i64 r2, i64 a2, i64 n] : List Value)[(1 : Int).toNat]? = some (i64 a1) := rfl
  have g2 : ([i64 r1, i64 a1, i64 r2, i64 a2, i64 n] : List Value)[(2 : Int).toNat]? = some (i64 r2) := rfl
  have g3 : ([i64 r1, i64 a1, i64 r2, i64 a2, i64 n] : List Value)[(3 : Int).toNat]? = some (i64 a2) := rfl
  have g4 : ([i64 r1, i64 a1, i64 r2, i64 a2, i64 n] : List Value)[(4 : Int).toNat]? = some (i64 n) := rfl
  have D : Ext w w.drew := (Ext.refl _).drew
  unfold restS
  refine ⟨fun v w' => v = .bool false ∧ w' = w, (by first | exact ⟨rfl, rfl⟩ | (try simp only [V_eqlI, Int.reduceEq, decide_false, ifD_false]; exact ⟨trivial, trivial⟩) | (try simp only [V_eqlI, Int.reduceEq, decide_false, decide_true, ifD_false, ifD_true]; exact ⟨rfl, rfl⟩)), ?_⟩
  rintro _ w' ⟨rfl, hw⟩ _
  have hw := hw.symm; subst hw
  refine ifD_false.2 ?_
  try simp only [V_eqlI, Int.reduceEq, decide_false, decide_true, ifD_false]
  refine ⟨fun v w' => v = .bool false ∧ w' = w, (by first | exact ⟨rfl, rfl⟩ | (try simp only [V_eqlI, Int.reduceEq, decide_false, decide_true, ifD_false, ifD_true]; exact ⟨trivial, trivial⟩) | (try simp only [V_eqlI, Int.reduceEq, decide_false, decide_true, ifD_false, ifD_true]; exact ⟨rfl, rfl⟩)), ?_⟩
  rintro _ w' ⟨rfl, hw⟩ _
  have hw := hw.symm; subst hw
  refine ifD_false.2 ?_
  refine ⟨fun v w' => v = .bool true ∧ w' = w, (by first | exact ⟨rfl, rfl⟩ | (try simp only [V_eqlI, Int.reduceEq, decide_false, decide_true, ifD_false, ifD_true]; exact ⟨trivial, trivial⟩) | (try simp only [V_eqlI, Int.reduceEq, decide_false, decide_true, ifD_false, ifD_true]; exact ⟨rfl, rfl⟩)), ?_⟩
  rintro _ w' ⟨rfl, hw⟩ _
  have hw := hw.symm; subst hw
  refine ifD_true.2 ?_
  refine drawD.mk' (fun w' => Ext w w') D ⟨.inl ⟨_, rfl⟩, ?_⟩
  refine yfB (fun w' hw => (h.xbox.ext hw).boxed) (by first | exact fa_105_0 | exact fa_105_1 | exact fa_105_2 | exact fa_105_3 | exact fa_105_4 | exact fa_116_0 | exact fa_116_1 | exact fa_120_0 | exact fa_120_1 | exact fa_42_0 | exact fa_42_1 | exact fa_42_2 | exact fa_42_3 | exact fa_42_4 | exact fa_42_5 | exact fa_42_6 | exact fa_57_0 | exact fa_63_0 | exact fa_63_2 | exact fa_63_3 | exact fa_63_4 | exact fa_80_0 | exact fa_80_2 | exact fa_80_3 | exact fa_80_4 | exact fa_91_0 | exact fa_95_0 | exact fa_95_1 | exact fa_95_2 | exact fa_95_3 | exact fa_95_4 | exact fa_95_5) (by first | exact l1_114 | exact l1_21 | exact l1_23 | exact l1_3 | exact l1_32 | exact l1_39 | exact l1_4 | exact l1_40 | exact l1_5 | exact l1_50 | exact l1_55 | exact l1_59 | exact l1_61 | exact l1_76) rfl ?_
  refine ySlF xa_32 l1_3 hov0 (fun w' hw => hov w' (ext_mu hw)) (by omega) (by omega) g0 ?_
  refine ySlF xa_32 l1_3 hov0 (fun w' hw => hov w' (ext_mu hw)) (by omega) (by omega) g1 ?_
  refine ySlF xa_32 l1_3 hov0 (fun w' hw => hov w' (ext_mu hw)) (by omega) (by omega) g4 ?_
  refine (rangeR_ok (h.ext D)).mono fun v w1 ⟨hv, x1⟩ => ?_
  subst hv
  have X1 := D.trans x1
  rw [har]
  refine ⟨X1, V_neqI.2 (ifD_dec (fun hne => ?_) fun hf1 => ?_)⟩
  · have hb : sBoth s who r1 a1 r2 a2 n = rngP s.ar r1 a1 n who := by unfold sBoth; rw [if_neg hne]
    refine hk _ _ (rvEnd h X1 ?_ ?_) <;> unfold sSame <;> rw [if_neg (by rw [hb]; exact hne)]
    · rw [hb]
    · exact hps
  have hf1 : rngP s.ar r1 a1 n who = 36864 := Classical.not_not.1 hf1
  have D1 : Ext w1 w1.drew := (Ext.refl _).drew
  have X1d := X1.trans D1
  refine drawD.mk' (fun w' => Ext w w') X1d ⟨.inl ⟨_, rfl⟩, ?_⟩
  refine yfB (fun w' hw => (h.xbox.ext hw).boxed) (by first | exact fa_105_0 | exact fa_105_1 | exact fa_105_2 | exact fa_105_3 | exact fa_105_4 | exact fa_116_0 | exact fa_116_1 | exact fa_120_0 | exact fa_120_1 | exact fa_42_0 | exact fa_42_1 | exact fa_42_2 | exact fa_42_3 | exact fa_42_4 | exact fa_42_5 | exact fa_42_6 | exact fa_57_0 | exact fa_63_0 | exact fa_63_2 | exact fa_63_3 | exact fa_63_4 | exact fa_80_0 | exact fa_80_2 | exact fa_80_3 | exact fa_80_4 | exact fa_91_0 | exact fa_95_0 | exact fa_95_1 | exact fa_95_2 | exact fa_95_3 | exact fa_95_4 | exact fa_95_5) (by first | exact l1_114 | exact l1_21 | exact l1_23 | exact l1_3 | exact l1_32 | exact l1_39 | exact l1_4 | exact l1_40 | exact l1_5 | exact l1_50 | exact l1_55 | exact l1_59 | exact l1_61 | exact l1_76) rfl ?_
  refine ySlF xa_32 l1_3 hov0 (fun w' hw => hov w' (ext_mu hw)) (by omega) (by omega) g2 ?_
  refine ySlF xa_32 l1_3 hov0 (fun w' hw => hov w' (ext_mu hw)) (by omega) (by omega) g3 ?_
  refine ySlF xa_32 l1_3 hov0 (fun w' hw => hov w' (ext_mu hw)) (by omega) (by omega) g4 ?_
  refine (rangeR_ok (h.ext X1d)).mono fun v w2 ⟨hv, x2⟩ => ?_
  subst hv
  have X2 := X1d.trans x2
  rw [har]
  have hb : sBoth s who r1 a1 r2 a2 n = rngP s.ar r2 a2 n who := by unfold sBoth; rw [if_pos hf1]
  refine ⟨X2, V_neqI.2 (ifD_dec (fun hne => ?_) fun hf2 => ?_)⟩
  · refine hk _ _ (rvEnd h X2 ?_ ?_) <;> unfold sSame <;> rw [if_neg (by rw [hb]; exact hne)]
    · rw [hb]
    · exact hps
  have hf2 : rngP s.ar r2 a2 n who = 36864 := Classical.not_not.1 hf2
  have hfine : sBoth s who r1 a1 r2 a2 n = 36864 := hb.trans hf2
  obtain ⟨k1, y1, hk1, hr1, hm1, ha1, hn0, hn1⟩ := rng_fine ((rng_pa q.ar r1 a1 n who).trans (by rw [har]; exact hf1))
  obtain ⟨k2, y2, hk2, hr2, hm2, ha2, _, hn2⟩ := rng_fine ((rng_pa q.ar r2 a2 n who).trans (by rw [har]; exact hf2))
  obtain ⟨n, rfl⟩ : ∃ m : Nat, n = m := ⟨n.toNat, by omega⟩
  obtain ⟨a, rfl⟩ : ∃ m : Nat, a1 = m := ⟨a1.toNat, by omega⟩
  obtain ⟨c, rfl⟩ : ∃ m : Nat, a2 = m := ⟨a2.toNat, by omega⟩
  have hym1 := List.mem_of_getElem? hk1
  have hym2 := List.mem_of_getElem? hk2
  have hl1 := h.len y1 hym1
  have hl2 := h.len y2 hym2
  have d1 : datP s.ar r1 = y1.data := by rw [← har]; exact dat_pa hk1 hr1
  have d2 : datP s.ar r2 = y2.data := by rw [← har]; exact dat_pa hk2 hr2
  refine ⟨_, atJ_ok (h.ext X2) hk1 hr1 (hov w2 (ext_mu X2)) (by omega) (by omega) g0, ?_⟩
  rintro _ w3 ⟨b1, rfl, hbx1, x3⟩ _
  have X3 := X2.trans x3
  refine ⟨_, atJ_ok (h.ext X3) hk2 hr2 (hov w3 (ext_mu X3)) (by omega) (by omega) g2, ?_⟩
  rintro _ w4 ⟨b2, rfl, hbx2, x4⟩ _
  have X4 := X3.trans x4
  have D4 : Ext w4 w4.drew := (Ext.refl _).drew
  have X5 := X4.trans D4
  have hs2 : ∀ {w'}, Ext w w' → SliceIs w' y2.dv 1 y2.data.length (y2.data.map u8) := fun hx => SliceIs.of_own (hx.own (h.data y2 hym2))
  have hs1 : ∀ {w'}, Ext w w' → SliceIs w' y1.dv 1 y1.data.length (y1.data.map u8) := fun hx => SliceIs.of_own (hx.own (h.data y1 hym1))
  refine drawD.mk' (fun w' => Ext w4 w') D4 ?_
  refine yfB (fun w' hw => hbx2.ext hw) (by first | exact fa_105_0 | exact fa_105_1 | exact fa_105_2 | exact fa_105_3 | exact fa_105_4 | exact fa_116_0 | exact fa_116_1 | exact fa_120_0 | exact fa_120_1 | exact fa_42_0 | exact fa_42_1 | exact fa_42_2 | exact fa_42_3 | exact fa_42_4 | exact fa_42_5 | exact fa_42_6 | exact fa_57_0 | exact fa_63_0 | exact fa_63_2 | exact fa_63_3 | exact fa_63_4 | exact fa_80_0 | exact fa_80_2 | exact fa_80_3 | exact fa_80_4 | exact fa_91_0 | exact fa_95_0 | exact fa_95_1 | exact fa_95_2 | exact fa_95_3 | exact fa_95_4 | exact fa_95_5) (by first | exact l1_114 | exact l1_21 | exact l1_23 | exact l1_3 | exact l1_32 | exact l1_39 | exact l1_4 | exact l1_40 | exact l1_5 | exact l1_50 | exact l1_55 | exact l1_59 | exact l1_61 | exact l1_76) rfl ?_
  refine ySlF xa_32 l1_3 hov0 (fun w' hw => hov w' (ext_mu (X4.trans hw))) (by omega) (by omega) g3 ?_
  refine ySlF xa_32 l1_3 hov0 (fun w' hw => hov w' (ext_mu (X4.trans hw))) (by omega) (by omega) g3 ?_
  refine ySlF xa_32 l1_3 hov0 (fun w' hw => hov w' (ext_mu (X4.trans hw))) (by omega) (by omega) g4 ?_
  refine yieldS.ok (fun w' _ => r_add) ?_
  rw [show IntKind.i64.wrap ((c : Int) + (n : Int)) = ((c + n : Nat) : Int) from by rw [wrap_id (by omega) (by omega)]; omega]
  obtain ⟨fv, hfr, hfs⟩ := r_sl (P := Tryd.prog) Tryd.underlying40 inf5 (hs2 X5) (lo := some (i64 (c : Int))) (hi' := some (i64 ((c + n : Nat) : Int))) (a := c) (b := c + n) (.inr rfl) (.inr rfl) (by omega) (by omega)
  refine yieldS.ok (fun w' _ => hfr w') ?_
  have e2 : ((y2.data.drop c).take n).length = n := by simp; omega
  have hfB : ∀ {w'}, Ext w w' → BytesAre w' fv ((y2.data.drop c).take n) := fun hx => by
    have := hfs _ (hs2 hx)
    unfold BytesAre
    rw [e2]
    simpa using this
  try simp only [V_eqlI, Int.reduceEq, decide_false, decide_true, ifD_false, ifD_true]
  have D5 : Ext w4.drew w4.drew.drew := (Ext.refl _).drew
  have X6 := X5.trans D5
  refine drawD.mk' (fun w' => Ext w4 w') (D4.trans D5) ?_
  refine yfB (fun w' hw => (hbx1.ext x4).ext hw) (by first | exact fa_105_0 | exact fa_105_1 | exact fa_105_2 | exact fa_105_3 | exact fa_105_4 | exact fa_116_0 | exact fa_116_1 | exact fa_120_0 | exact fa_120_1 | exact fa_42_0 | exact fa_42_1 | exact fa_42_2 | exact fa_42_3 | exact fa_42_4 | exact fa_42_5 | exact fa_42_6 | exact fa_57_0 | exact fa_63_0 | exact fa_63_2 | exact fa_63_3 | exact fa_63_4 | exact fa_80_0 | exact fa_80_2 | exact fa_80_3 | exact fa_80_4 | exact fa_91_0 | exact fa_95_0 | exact fa_95_1 | exact fa_95_2 | exact fa_95_3 | exact fa_95_4 | exact fa_95_5) (by first | exact l1_114 | exact l1_21 | exact l1_23 | exact l1_3 | exact l1_32 | exact l1_39 | exact l1_4 | exact l1_40 | exact l1_5 | exact l1_50 | exact l1_55 | exact l1_59 | exact l1_61 | exact l1_76) rfl ?_
  refine ySlF xa_32 l1_3 hov0 (fun w' hw => hov w' (ext_mu (X4.trans hw))) (by omega) (by omega) g1 ?_
  refine ySlF xa_32 l1_3 hov0 (fun w' hw => hov w' (ext_mu (X4.trans hw))) (by omega) (by omega) g1 ?_
  refine ySlF xa_32 l1_3 hov0 (fun w' hw => hov w' (ext_mu (X4.trans hw))) (by omega) (by omega) g4 ?_
  refine yieldS.ok (fun w' _ => r_add) ?_
  rw [show IntKind.i64.wrap ((a : Int) + (n : Int)) = ((a + n : Nat) : Int) from by rw [wrap_id (by omega) (by omega)]; omega]
  obtain ⟨tv, htr, hts⟩ := r_sl (P := Tryd.prog) Tryd.underlying40 inf5 (hs1 X5) (lo := some (i64 (a : Int))) (hi' := some (i64 ((a + n : Nat) : Int))) (a := a) (b := a + n) (.inr rfl) (.inr rfl) (by omega) (by omega)
  refine yieldS.ok (fun w' _ => htr w') ?_
  have e1 : ((y1.data.drop a).take n).length = n := by simp; omega
  have htB : ∀ {w'}, Ext w w' → BytesAre w' tv ((y1.data.drop a).take n) := fun hx => by
    have := hts _ (hs1 hx)
    unfold BytesAre
    rw [e1]
    simpa using this
  refine yieldS.ok (fun w' hw => r_str Tryd.underlying40 Tryd.underlying5 Tryd.underlying9 (htB (X4.trans hw))) ?_
  refine yieldS.ok (fun w' hw => r_str Tryd.underlying40 Tryd.underlying5 Tryd.underlying9 (hfB (X4.trans hw))) ?_
  refine yieldS.ok (fun w' _ => r_eqStr) ?_
  have o1 : okB ((y1.data.drop a).take n) := okB_take (okB_drop (by rw [← d1]; exact okB_dat hby) a) n
  have o2 : okB ((y2.data.drop c).take n) := okB_take (okB_drop (by rw [← d2]; exact okB_dat hby) c) n
  have hpar1 : parP s.ar r1 (a : Int) (n : Int) = (y1.data.drop a).take n := by unfold parP; rw [d1]; simp only [Int.toNat_natCast]
  have hpar2 : parP s.ar r2 (c : Int) (n : Int) = (y2.data.drop c).take n := by unfold parP; rw [d2]; simp only [Int.toNat_natCast]
  by_cases he : (y1.data.drop a).take n = (y2.data.drop c).take n
  · rw [show ((strOfNums ((y1.data.drop a).take n)).toList == (strOfNums ((y2.data.drop c).take n)).toList) = true by rw [he]; simp]
    refine ifD_true.2 (hk _ _ (rvEnd h X6 ?_ ?_)) <;> unfold sSame <;> rw [if_pos hfine]
    · rw [hpar1, hpar2, if_pos he]
    · exact hps
  · rw [show ((strOfNums ((y1.data.drop a).take n)).toList == (strOfNums ((y2.data.drop c).take n)).toList) = false by
      rw [beq_eq_false_iff_ne]; exact fun e => he (strOf_inj o1 o2 e)]
    refine ifD_false.2 (hk _ _ (rvEnd h X6 ?_ ?_)) <;> unfold sSame <;> rw [if_pos hfine]
    · rw [hpar1, hpar2, if_neg he]
    · exact hps
theorem RefT.tellS (h : RefT q w) {v5 : Value} {news : List Int} {B : Nat} (ho : w.ownsRow B 5 1 v5 (q.ts ++ news).length ((q.ts ++ news).map u8)) (hB : ∀ i, B ≤ i → ¬ RMu q i ∧ ¬ RCo q i) (hle : (q.ts ++ news).length ≤ 128) :
    RefT { q with sec := v5, ts := q.ts ++ news } (w.setCell ⟨q.xb, 0 + 4, none⟩ v5) ∧ Fr (fun i => i = q.xb) w (w.setCell ⟨q.xb, 0 + 4, none⟩ v5) := by
  have r1 := h.xbox.set (j := 4) (by simp) v5
  have f : Fr (fun i => i = q.xb) w (w.setCell ⟨q.xb, 0 + 4, none⟩ v5) := Fr.of_set rfl
  have hM : RMu q q.xb := .inl rfl
  have hv : ∀ i, v5.ownBlock = some i → ¬ RMu q i := fun i hi => (hB i (ho.lt i hi).1).1
  refine ⟨⟨r1, f.blk h.ybox fun e => h.xy e.symm, f.blk h.ubox fun e => h.xu e.symm, f.own h.list fun i hi e => h.dj i (e ▸ hM) (.inl (by simpa [Value.ownBlock] using hi.symm)), fun a ha => f.own (h.data a ha) fun i hi e => h.dj i (e ▸ hM) (.inr (.inl ⟨a, ha, hi⟩)), h.len, f.own h.qp fun i hi e => h.dj i (e ▸ hM) (.inr (.inr (.inl hi))), f.own (own_mono ho (Nat.zero_le _)) fun i hi e => hv i hi (e ▸ hM), h.lp, hle, f.own h.trow fun i hi e => (h.une i hi).1 e, h.xy, h.xu, h.yu, h.une, fun i hi hr => ?_, h.two, h.cnt, h.sz⟩, f⟩
  rcases hr with hr | hr | hr | hr
  · exact h.dj i hi (.inl hr)
  · exact h.dj i hi (.inr (.inl hr))
  · exact h.dj i hi (.inr (.inr (.inl hr)))
  · exact hv i hr hi
theorem RefT.tellP (h : RefT q w) {v5 : Value} {news : List Int} {B : Nat} (ho : w.ownsRow B 5 1 v5 (q.tp ++ news).length ((q.tp ++ news).map u8)) (hB : ∀ i, B ≤ i → ¬ RMu q i ∧ ¬ RCo q i) (hle : (q.tp ++ news).length ≤ 128) :
    RefT { q with pub := v5, tp := q.tp ++ news } (w.setCell ⟨q.xb, 0 + 3, none⟩ v5) ∧ Fr (fun i => i = q.xb) w (w.setCell ⟨q.xb, 0 + 3, none⟩ v5) := by
  have r1 := h.xbox.set (j := 3) (by simp) v5
  have f : Fr (fun i => i = q.xb) w (w.setCell ⟨q.xb, 0 + 3, none⟩ v5) := Fr.of_set rfl
  have hM : RMu q q.xb := .inl rfl
  have hv : ∀ i, v5.ownBlock = some i → ¬ RMu q i := fun i hi => (hB i (ho.lt i hi).1).1
  refine ⟨⟨r1, f.blk h.ybox fun e => h.xy e.symm, f.blk h.ubox fun e => h.xu e.symm, f.own h.list fun i hi e => h.dj i (e ▸ hM) (.inl (by simpa [Value.ownBlock] using hi.symm)), fun a ha => f.own (h.data a ha) fun i hi e => h.dj i (e ▸ hM) (.inr (.inl ⟨a, ha, hi⟩)), h.len, f.own (own_mono ho (Nat.zero_le _)) fun i hi e => hv i hi (e ▸ hM), f.own h.qs fun i hi e => h.dj i (e ▸ hM) (.inr (.inr (.inr hi))), hle, h.ls, f.own h.trow fun i hi e => (h.une i hi).1 e, h.xy, h.xu, h.yu, h.une, fun i hi hr => ?_, h.two, h.cnt, h.sz⟩, f⟩
  rcases hr with hr | hr | hr | hr
  · exact h.dj i hi (.inl hr)
  · exact h.dj i hi (.inr (.inl hr))
  · exact hv i hr hi
  · exact h.dj i hi (.inr (.inr (.inr hr)))
set_option maxHeartbeats 3200000 in
theorem rest36_S (h : RefT q w) {who sa sb r a n : Int} (hsa : sa ≠ 1) (hov : ∀ w2, Fr (RMu q) w w2 → SliceIs w2 ov 1 3 [i64 r, i64 a, i64 n]) (hps : q.ps = s.ev [⟨2, r, a, n⟩]) (hk : ∀ u w', RvR q w (sSend s who sa r a n) u w' → R u w') :
    restS (xbT q) (i64 who) (i64 36) (i64 sa) (i64 sb) av ov w R := by
  have har : q.ar.map pa = s.ar := congrArg PS.ar hps
  have hov0 := hov w (Fr.refl _ _)
  have g0 : ([i64 r, i64 a, i64 n] : List Value)[(0 : Int).toNat]? = some (i64 r) := rfl
  have g1 : ([i64 r, i64 a, i64 n] : List Value)[(1 : Int).toNat]? = some (i64 a) := rfl
  have g2 : ([i64 r, i64 a, i64 n] : List Value)[(2 : Int).toNat]? = some (i64 n) := rfl
  have D : Ext w w.drew := (Ext.refl _).drew
  unfold restS
  refine ⟨fun v w' => v = .bool false ∧ w' = w, (by first | exact ⟨rfl, rfl⟩ | (try simp only [V_eqlI, Int.reduceEq, decide_false, ifD_false]; exact ⟨trivial, trivial⟩) | (try simp only [V_eqlI, Int.reduceEq, decide_false, decide_true, ifD_false, ifD_true]; exact ⟨rfl, rfl⟩)), ?_⟩
  rintro _ w' ⟨rfl, hw⟩ _
  have hw := hw.symm; subst hw
  refine ifD_false.2 ?_
  try simp only [V_eqlI, Int.reduceEq, decide_false, ifD_false]
  refine ⟨fun v w' => v = .bool false ∧ w' = w, (by first | exact ⟨rfl, rfl⟩ | (try simp only [V_eqlI, Int.reduceEq, decide_false, decide_true, ifD_false, ifD_true]; exact ⟨trivial, trivial⟩) | (try simp only [V_eqlI, Int.reduceEq, decide_false, decide_true, ifD_false, ifD_true]; exact ⟨rfl, rfl⟩)), ?_⟩
  rintro _ w' ⟨rfl, hw⟩ _
  have hw := hw.symm; subst hw
  refine ifD_false.2 ?_
  refine ⟨fun v w' => v = .bool false ∧ w' = w, (by first | exact ⟨rfl, rfl⟩ | (try simp only [V_eqlI, Int.reduceEq, decide_false, decide_true, ifD_false, ifD_true]; exact ⟨trivial, trivial⟩) | (try simp only [V_eqlI, Int.reduceEq, decide_false, decide_true, ifD_false, ifD_true]; exact ⟨rfl, rfl⟩)), ?_⟩
  rintro _ w' ⟨rfl, hw⟩ _
  have hw := hw.symm; subst hw
  refine ifD_false.2 ?_
  refine drawD.mk' (fun w' => Ext w w') D ⟨.inl ⟨_, rfl⟩, ?_⟩
  refine yfB (fun w' hw => (h.xbox.ext hw).boxed) (by first | exact fa_105_0 | exact fa_105_1 | exact fa_105_2 | exact fa_105_3 | exact fa_105_4 | exact fa_116_0 | exact fa_116_1 | exact fa_120_0 | exact fa_120_1 | exact fa_42_0 | exact fa_42_1 | exact fa_42_2 | exact fa_42_3 | exact fa_42_4 | exact fa_42_5 | exact fa_42_6 | exact fa_57_0 | exact fa_63_0 | exact fa_63_2 | exact fa_63_3 | exact fa_63_4 | exact fa_80_0 | exact fa_80_2 | exact fa_80_3 | exact fa_80_4 | exact fa_91_0 | exact fa_95_0 | exact fa_95_1 | exact fa_95_2 | exact fa_95_3 | exact fa_95_4 | exact fa_95_5) (by first | exact l1_114 | exact l1_21 | exact l1_23 | exact l1_3 | exact l1_32 | exact l1_39 | exact l1_4 | exact l1_40 | exact l1_5 | exact l1_50 | exact l1_55 | exact l1_59 | exact l1_61 | exact l1_76) rfl ?_
  refine ySlF xa_32 l1_3 hov0 (fun w' hw => hov w' (ext_mu hw)) (by omega) (by omega) g0 ?_
  refine ySlF xa_32 l1_3 hov0 (fun w' hw => hov w' (ext_mu hw)) (by omega) (by omega) g1 ?_
  refine ySlF xa_32 l1_3 hov0 (fun w' hw => hov w' (ext_mu hw)) (by omega) (by omega) g2 ?_
  refine (rangeR_ok (h.ext D)).mono fun v w1 ⟨hv, x1⟩ => ?_
  subst hv
  have X1 := D.trans x1
  rw [har]
  refine ⟨X1, V_neqI.2 (ifD_dec (fun hne => ?_) fun hfine => ?_)⟩
  · refine hk _ _ (rvEnd h X1 ?_ ?_) <;> unfold sSend <;> rw [if_neg hne]
    exact hps
  have hf : rngP s.ar r a n who = 36864 := Classical.not_not.1 hfine
  obtain ⟨k, x, hk2, hr, hm, ha0, hn0, han⟩ := rng_fine ((rng_pa q.ar r a n who).trans (by rw [har]; exact hf))
  obtain ⟨a, rfl⟩ : ∃ m : Nat, a = m := ⟨a.toNat, by omega⟩
  obtain ⟨n, rfl⟩ : ∃ m : Nat, n = m := ⟨n.toNat, by omega⟩
  have hxm := List.mem_of_getElem? hk2
  have hxl := h.len x hxm
  have m1 := h.ls
  have e1 : q.tp = s.tp := congrArg PS.tp hps
  have e2 : q.ts = s.ts := congrArg PS.ts hps
  have e3 : q.tr = s.tr ++ [⟨2, r, (a : Int), (n : Int)⟩] := congrArg PS.tr hps
  have e4 : q.size = s.size := congrArg PS.size hps
  refine ⟨_, atJ_ok (h.ext X1) hk2 hr (hov w1 (ext_mu X1)) (by omega) (by omega) g0, ?_⟩
  rintro _ w2 ⟨b, rfl, hbx, x2⟩ _
  have X2 := X1.trans x2
  refine ⟨.inl ⟨_, rfl⟩, ?_⟩
  refine V.ok r_fd_63_3 ?_
  refine ⟨fun v w' => v = .pointer (some ⟨q.xb, 0 + 4, none⟩) ∧ w' = w2, ?_, ?_⟩
  · refine V_neqI.2 ?_
    simp only [show decide (sa ≠ 1) = true by simpa using hsa, ifD_true]
    refine ⟨.inl ⟨_, rfl⟩, ?_⟩
    exact V.ok r_fd_63_4 ⟨by first | rfl | trivial, by first | rfl | trivial⟩
  rintro _ w' ⟨rfl, hw⟩ _
  have hw := hw.symm; subst hw
  have D2 : Ext w2 w2.drew := (Ext.refl _).drew
  have X3 := X2.trans D2
  refine drawD.mk' (fun w' => Ext w w') X3 ?_
  refine ySlF xa_32 l1_3 hov0 (fun w' hw => hov w' (ext_mu hw)) (by omega) (by omega) g2 ?_
  refine ⟨.inl ⟨_, rfl⟩, ?_⟩
  refine yieldS.ok (fun w' hw => r_ld_40 ((h.xbox.ext hw).cell (j := 4) rfl)) ?_
  refine yLen (by first | exact xa_114 | exact xa_22 | exact xa_32 | exact xa_39 | exact xa_40 | exact xa_55 | exact xa_61) (SliceIs.of_own h.qs) ?_
  refine yieldS.ok (fun w' _ => r_sub) ?_
  rw [wrap_id (by omega) (by omega)]
  refine yieldS.ok (fun w' _ => r_gtr) ?_
  refine ifD_dec (fun hfull => ?_) fun hroom => ?_
  · refine hk _ _ (rvEnd h X3 ?_ ?_) <;> unfold sSend <;> rw [if_pos hf, if_neg hsa, if_pos (show s.ts.length + ((n : Nat) : Int).toNat > 128 by rw [← e2, Int.toNat_natCast]; omega)]
    exact hps
  have D3 : Ext w2.drew w2.drew.drew := (Ext.refl _).drew
  have X4 := X3.trans D3
  have hs1 : ∀ {w'}, Ext w w' → SliceIs w' x.dv 1 x.data.length (x.data.map u8) := fun hx => SliceIs.of_own (hx.own (h.data x hxm))
  have sz4 := X4.size
  refine drawD.mk' (fun w' => Ext w2 w') (D2.trans D3) ⟨.inl ⟨_, rfl⟩, ?_⟩
  refine yieldS.ok (fun w' hw => r_ld_40 ((h.xbox.ext (X2.trans hw)).cell (j := 4) rfl)) ?_
  refine yfB (fun w' hw => hbx.ext hw) (by first | exact fa_105_0 | exact fa_105_1 | exact fa_105_2 | exact fa_105_3 | exact fa_105_4 | exact fa_116_0 | exact fa_116_1 | exact fa_120_0 | exact fa_120_1 | exact fa_42_0 | exact fa_42_1 | exact fa_42_2 | exact fa_42_3 | exact fa_42_4 | exact fa_42_5 | exact fa_42_6 | exact fa_57_0 | exact fa_63_0 | exact fa_63_2 | exact fa_63_3 | exact fa_63_4 | exact fa_80_0 | exact fa_80_2 | exact fa_80_3 | exact fa_80_4 | exact fa_91_0 | exact fa_95_0 | exact fa_95_1 | exact fa_95_2 | exact fa_95_3 | exact fa_95_4 | exact fa_95_5) (by first | exact l1_114 | exact l1_21 | exact l1_23 | exact l1_3 | exact l1_32 | exact l1_39 | exact l1_4 | exact l1_40 | exact l1_5 | exact l1_50 | exact l1_55 | exact l1_59 | exact l1_61 | exact l1_76) rfl ?_
  refine ySlF xa_32 l1_3 hov0 (fun w' hw => hov w' (ext_mu (X2.trans hw))) (by omega) (by omega) g1 ?_
  refine ySlF xa_32 l1_3 hov0 (fun w' hw => hov w' (ext_mu (X2.trans hw))) (by omega) (by omega) g1 ?_
  refine ySlF xa_32 l1_3 hov0 (fun w' hw => hov w' (ext_mu (X2.trans hw))) (by omega) (by omega) g2 ?_
  refine yieldS.ok (fun w' _ => r_add) ?_
  rw [show IntKind.i64.wrap ((a : Int) + (n : Int)) = ((a + n : Nat) : Int) from by rw [wrap_id (by omega) (by omega)]; omega]
  obtain ⟨fv, hfr, hfs⟩ := r_sl (P := Tryd.prog) Tryd.underlying40 inf5 (hs1 X4) (lo := some (i64 (a : Int))) (hi' := some (i64 ((a + n : Nat) : Int))) (a := a) (b := a + n) (.inr rfl) (.inr rfl) (by omega) (by omega)
  refine yieldS.ok (fun w' _ => hfr w') ?_
  have el : ((x.data.drop a).take n).length = n := by simp; omega
  refine bsl xe_40 [] rfl rfl (by simp) rfl fun v5 w5 ho5 x5 => ?_
  have X5 := X4.trans x5
  have sz5 := x5.size
  refine ⟨(D2.trans D3).trans x5, ?_⟩
  refine apS xe_40 ho5 (SliceIs.of_own (X5.own h.qs)) (all_u8 _) (by omega) (by unfold maxLen; omega) sz5 fun v6 w6 ho6 hg6 hl6 => ?_
  rw [Nat.zero_add, List.nil_append] at ho6
  have x6 : Ext w2 w6 := ((D2.trans D3).trans x5).grown hg6 fun i hi => by have := (ho5.lt i hi).1; have := (D2.trans D3).size; omega
  have X6 := X2.trans x6
  refine ⟨x6, ?_⟩
  have hfB : SliceIs w6 fv 1 n (((x.data.drop a).take n).map u8) := by
    have := hfs _ (hs1 X6)
    simpa [List.map_take, List.map_drop] using this
  refine apS xe_40 ho6 hfB (all_u8 _) (by omega) (by unfold maxLen; omega) (by have := x6.size; have := X6.size; have := hg6.size; omega) fun v7 w7 ho7 hg7 hl7 => ?_
  have x7 : Ext w2 w7 := x6.grown hg7 fun i hi => by have := (ho6.lt i hi).1; have := (D2.trans D3).size; omega
  have X7 := X2.trans x7
  refine ⟨x7, .inl ⟨_, rfl⟩, ?_⟩
  have ho7' : w7.ownsRow w2.drew.drew.heap.size 5 1 v7 (q.ts ++ (x.data.drop a).take n).length ((q.ts ++ (x.data.drop a).take n).map u8) := by
    rw [List.length_append, List.map_append, el]; exact ho7
  refine stFS inf40 (h.xbox.ext X7) rfl (by simp) (own_one ho7) ?_
  obtain ⟨h8, f8⟩ := (h.ext X7).tellS ho7' (fun i hi => h.above i (by omega)) (by rw [List.length_append, el]; omega)
  refine hk _ _ ⟨_, ?_, ?_, h8, ⟨rfl, rfl, rfl, rfl, rfl, rfl, fun i hi => ?_, fun i hi => .inl hi, (Fr.of_ext (S := RMu q) X7).trans (f8.mono fun i hi => .inl hi) fun _ _ h => h⟩⟩
  · unfold sSend; rw [if_pos hf, if_neg hsa, if_neg (show ¬ s.ts.length + ((n : Nat) : Int).toNat > 128 by rw [← e2, Int.toNat_natCast]; omega)]
  · unfold sSend; rw [if_pos hf, if_neg hsa, if_neg (show ¬ s.ts.length + ((n : Nat) : Int).toNat > 128 by rw [← e2, Int.toNat_natCast]; omega)]
    unfold parP
    rw [← har, show datP (q.ar.map pa) r = x.data from dat_pa hk2 hr]
    show (⟨q.size, q.ar.map pa, q.tp, q.ts ++ (x.data.drop a).take n, q.tr⟩ : PS) = _
    rw [e1, e2, e3, e4, har]
    rfl
  · rcases hi with hi | hi | hi | hi | hi
    · exact .inl hi
    · exact .inr (.inl (.inl hi))
    · exact .inr (.inl (.inr (.inl hi)))
    · exact .inr (.inl (.inr (.inr (.inl hi))))
    · exact .inr (.inr (by have := (ho7'.lt i hi).1; omega))
set_option maxHeartbeats 3200000 in
theorem rest36_P (h : RefT q w) {who sa sb r a n : Int} (hsa : sa = 1) (hov : ∀ w2, Fr (RMu q) w w2 → SliceIs w2 ov 1 3 [i64 r, i64 a, i64 n]) (hps : q.ps = s.ev [⟨2, r, a, n⟩]) (hk : ∀ u w', RvR q w (sSend s who sa r a n) u w' → R u w') :
    restS (xbT q) (i64 who) (i64 36) (i64 sa) (i64 sb) av ov w R := by
  have har : q.ar.map pa = s.ar := congrArg PS.ar hps
  have hov0 := hov w (Fr.refl _ _)
  have g0 : ([i64 r, i64 a, i64 n] : List Value)[(0 : Int).toNat]? = some (i64 r) := rfl
  have g1 : ([i64 r, i64 a, i64 n] : List Value)[(1 : Int).toNat]? = some (i64 a) := rfl
  have g2 : ([i64 r, i64 a, i64 n] : List Value)[(2 : Int).toNat]? = some (i64 n) := rfl
  have D : Ext w w.drew := (Ext.refl _).drew
  unfold restS
  refine ⟨fun v w' => v = .bool false ∧ w' = w, (by first | exact ⟨rfl, rfl⟩ | (try simp only [V_eqlI, Int.reduceEq, decide_false, ifD_false]; exact ⟨trivial, trivial⟩) | (try simp only [V_eqlI, Int.reduceEq, decide_false, decide_true, ifD_false, ifD_true]; exact ⟨rfl, rfl⟩)), ?_⟩
  rintro _ w' ⟨rfl, hw⟩ _
  have hw := hw.symm; subst hw
  refine ifD_false.2 ?_
  try simp only [V_eqlI, Int.reduceEq, decide_false, ifD_false]
  refine ⟨fun v w' => v = .bool false ∧ w' = w, (by first | exact ⟨rfl, rfl⟩ | (try simp only [V_eqlI, Int.reduceEq, decide_false, decide_true, ifD_false, ifD_true]; exact ⟨trivial, trivial⟩) | (try simp only [V_eqlI, Int.reduceEq, decide_false, decide_true, ifD_false, ifD_true]; exact ⟨rfl, rfl⟩)), ?_⟩
  rintro _ w' ⟨rfl, hw⟩ _
  have hw := hw.symm; subst hw
  refine ifD_false.2 ?_
  refine ⟨fun v w' => v = .bool false ∧ w' = w, (by first | exact ⟨rfl, rfl⟩ | (try simp only [V_eqlI, Int.reduceEq, decide_false, decide_true, ifD_false, ifD_true]; exact ⟨trivial, trivial⟩) | (try simp only [V_eqlI, Int.reduceEq, decide_false, decide_true, ifD_false, ifD_true]; exact ⟨rfl, rfl⟩)), ?_⟩
  rintro _ w' ⟨rfl, hw⟩ _
  have hw := hw.symm; subst hw
  refine ifD_false.2 ?_
  refine drawD.mk' (fun w' => Ext w w') D ⟨.inl ⟨_, rfl⟩, ?_⟩
  refine yfB (fun w' hw => (h.xbox.ext hw).boxed) (by first | exact fa_105_0 | exact fa_105_1 | exact fa_105_2 | exact fa_105_3 | exact fa_105_4 | exact fa_116_0 | exact fa_116_1 | exact fa_120_0 | exact fa_120_1 | exact fa_42_0 | exact fa_42_1 | exact fa_42_2 | exact fa_42_3 | exact fa_42_4 | exact fa_42_5 | exact fa_42_6 | exact fa_57_0 | exact fa_63_0 | exact fa_63_2 | exact fa_63_3 | exact fa_63_4 | exact fa_80_0 | exact fa_80_2 | exact fa_80_3 | exact fa_80_4 | exact fa_91_0 | exact fa_95_0 | exact fa_95_1 | exact fa_95_2 | exact fa_95_3 | exact fa_95_4 | exact fa_95_5) (by first | exact l1_114 | exact l1_21 | exact l1_23 | exact l1_3 | exact l1_32 | exact l1_39 | exact l1_4 | exact l1_40 | exact l1_5 | exact l1_50 | exact l1_55 | exact l1_59 | exact l1_61 | exact l1_76) rfl ?_
  refine ySlF xa_32 l1_3 hov0 (fun w' hw => hov w' (ext_mu hw)) (by omega) (by omega) g0 ?_
  refine ySlF xa_32 l1_3 hov0 (fun w' hw => hov w' (ext_mu hw)) (by omega) (by omega) g1 ?_
  refine ySlF xa_32 l1_3 hov0 (fun w' hw => hov w' (ext_mu hw)) (by omega) (by omega) g2 ?_
  refine (rangeR_ok (h.ext D)).mono fun v w1 ⟨hv, x1⟩ => ?_
  subst hv
  have X1 := D.trans x1
  rw [har]
  refine ⟨X1, V_neqI.2 (ifD_dec (fun hne => ?_) fun hfine => ?_)⟩
  · refine hk _ _ (rvEnd h X1 ?_ ?_) <;> unfold sSend <;> rw [if_neg hne]
    exact hps
  have hf : rngP s.ar r a n who = 36864 := Classical.not_not.1 hfine
  obtain ⟨k, x, hk2, hr, hm, ha0, hn0, han⟩ := rng_fine ((rng_pa q.ar r a n who).trans (by rw [har]; exact hf))
  obtain ⟨a, rfl⟩ : ∃ m : Nat, a = m := ⟨a.toNat, by omega⟩
  obtain ⟨n, rfl⟩ : ∃ m : Nat, n = m := ⟨n.toNat, by omega⟩
  have hxm := List.mem_of_getElem? hk2
  have hxl := h.len x hxm
  have m1 := h.lp
  have e1 : q.tp = s.tp := congrArg PS.tp hps
  have e2 : q.ts = s.ts := congrArg PS.ts hps
  have e3 : q.tr = s.tr ++ [⟨2, r, (a : Int), (n : Int)⟩] := congrArg PS.tr hps
  have e4 : q.size = s.size := congrArg PS.size hps
  refine ⟨_, atJ_ok (h.ext X1) hk2 hr (hov w1 (ext_mu X1)) (by omega) (by omega) g0, ?_⟩
  rintro _ w2 ⟨b, rfl, hbx, x2⟩ _
  have X2 := X1.trans x2
  refine ⟨.inl ⟨_, rfl⟩, ?_⟩
  refine V.ok r_fd_63_3 ?_
  refine ⟨fun v w' => v = .pointer (some ⟨q.xb, 0 + 3, none⟩) ∧ w' = w2, ?_, ?_⟩
  · refine V_neqI.2 ?_
    simp only [show decide (sa ≠ 1) = false by simpa using hsa, ifD_false]
    exact ⟨by first | rfl | trivial, by first | rfl | trivial⟩
  rintro _ w' ⟨rfl, hw⟩ _
  have hw := hw.symm; subst hw
  have D2 : Ext w2 w2.drew := (Ext.refl _).drew
  have X3 := X2.trans D2
  refine drawD.mk' (fun w' => Ext w w') X3 ?_
  refine ySlF xa_32 l1_3 hov0 (fun w' hw => hov w' (ext_mu hw)) (by omega) (by omega) g2 ?_
  refine ⟨.inl ⟨_, rfl⟩, ?_⟩
  refine yieldS.ok (fun w' hw => r_ld_40 ((h.xbox.ext hw).cell (j := 3) rfl)) ?_
  refine yLen (by first | exact xa_114 | exact xa_22 | exact xa_32 | exact xa_39 | exact xa_40 | exact xa_55 | exact xa_61) (SliceIs.of_own h.qp) ?_
  refine yieldS.ok (fun w' _ => r_sub) ?_
  rw [wrap_id (by omega) (by omega)]
  refine yieldS.ok (fun w' _ => r_gtr) ?_
  refine ifD_dec (fun hfull => ?_) fun hroom => ?_
  · refine hk _ _ (rvEnd h X3 ?_ ?_) <;> unfold sSend <;> rw [if_pos hf, if_pos hsa, if_pos (show s.tp.length + ((n : Nat) : Int).toNat > 128 by rw [← e1, Int.toNat_natCast]; omega)]
    exact hps
  have D3 : Ext w2.drew w2.drew.drew := (Ext.refl _).drew
  have X4 := X3.trans D3
  have hs1 : ∀ {w'}, Ext w w' → SliceIs w' x.dv 1 x.data.length (x.data.map u8) := fun hx => SliceIs.of_own (hx.own (h.data x hxm))
  have sz4 := X4.size
  refine drawD.mk' (fun w' => Ext w2 w') (D2.trans D3) ⟨.inl ⟨_, rfl⟩, ?_⟩
  refine yieldS.ok (fun w' hw => r_ld_40 ((h.xbox.ext (X2.trans hw)).cell (j := 3) rfl)) ?_
  refine yfB (fun w' hw => hbx.ext hw) (by first | exact fa_105_0 | exact fa_105_1 | exact fa_105_2 | exact fa_105_3 | exact fa_105_4 | exact fa_116_0 | exact fa_116_1 | exact fa_120_0 | exact fa_120_1 | exact fa_42_0 | exact fa_42_1 | exact fa_42_2 | exact fa_42_3 | exact fa_42_4 | exact fa_42_5 | exact fa_42_6 | exact fa_57_0 | exact fa_63_0 | exact fa_63_2 | exact fa_63_3 | exact fa_63_4 | exact fa_80_0 | exact fa_80_2 | exact fa_80_3 | exact fa_80_4 | exact fa_91_0 | exact fa_95_0 | exact fa_95_1 | exact fa_95_2 | exact fa_95_3 | exact fa_95_4 | exact fa_95_5) (by first | exact l1_114 | exact l1_21 | exact l1_23 | exact l1_3 | exact l1_32 | exact l1_39 | exact l1_4 | exact l1_40 | exact l1_5 | exact l1_50 | exact l1_55 | exact l1_59 | exact l1_61 | exact l1_76) rfl ?_
  refine ySlF xa_32 l1_3 hov0 (fun w' hw => hov w' (ext_mu (X2.trans hw))) (by omega) (by omega) g1 ?_
  refine ySlF xa_32 l1_3 hov0 (fun w' hw => hov w' (ext_mu (X2.trans hw))) (by omega) (by omega) g1 ?_
  refine ySlF xa_32 l1_3 hov0 (fun w' hw => hov w' (ext_mu (X2.trans hw))) (by omega) (by omega) g2 ?_
  refine yieldS.ok (fun w' _ => r_add) ?_
  rw [show IntKind.i64.wrap ((a : Int) + (n : Int)) = ((a + n : Nat) : Int) from by rw [wrap_id (by omega) (by omega)]; omega]
  obtain ⟨fv, hfr, hfs⟩ := r_sl (P := Tryd.prog) Tryd.underlying40 inf5 (hs1 X4) (lo := some (i64 (a : Int))) (hi' := some (i64 ((a + n : Nat) : Int))) (a := a) (b := a + n) (.inr rfl) (.inr rfl) (by omega) (by omega)
  refine yieldS.ok (fun w' _ => hfr w') ?_
  have el : ((x.data.drop a).take n).length = n := by simp; omega
  refine bsl xe_40 [] rfl rfl (by simp) rfl fun v5 w5 ho5 x5 => ?_
  have X5 := X4.trans x5
  have sz5 := x5.size
  refine ⟨(D2.trans D3).trans x5, ?_⟩
  refine apS xe_40 ho5 (SliceIs.of_own (X5.own h.qp)) (all_u8 _) (by omega) (by unfold maxLen; omega) sz5 fun v6 w6 ho6 hg6 hl6 => ?_
  rw [Nat.zero_add, List.nil_append] at ho6
  have x6 : Ext w2 w6 := ((D2.trans D3).trans x5).grown hg6 fun i hi => by have := (ho5.lt i hi).1; have := (D2.trans D3).size; omega
  have X6 := X2.trans x6
  refine ⟨x6, ?_⟩
  have hfB : SliceIs w6 fv 1 n (((x.data.drop a).take n).map u8) := by
    have := hfs _ (hs1 X6)
    simpa [List.map_take, List.map_drop] using this
  refine apS xe_40 ho6 hfB (all_u8 _) (by omega) (by unfold maxLen; omega) (by have := x6.size; have := X6.size; have := hg6.size; omega) fun v7 w7 ho7 hg7 hl7 => ?_
  have x7 : Ext w2 w7 := x6.grown hg7 fun i hi => by have := (ho6.lt i hi).1; have := (D2.trans D3).size; omega
  have X7 := X2.trans x7
  refine ⟨x7, .inl ⟨_, rfl⟩, ?_⟩
  have ho7' : w7.ownsRow w2.drew.drew.heap.size 5 1 v7 (q.tp ++ (x.data.drop a).take n).length ((q.tp ++ (x.data.drop a).take n).map u8) := by
    rw [List.length_append, List.map_append, el]; exact ho7
  refine stFS inf40 (h.xbox.ext X7) rfl (by simp) (own_one ho7) ?_
  obtain ⟨h8, f8⟩ := (h.ext X7).tellP ho7' (fun i hi => h.above i (by omega)) (by rw [List.length_append, el]; omega)
  refine hk _ _ ⟨_, ?_, ?_, h8, ⟨rfl, rfl, rfl, rfl, rfl, rfl, fun i hi => ?_, fun i hi => .inl hi, (Fr.of_ext (S := RMu q) X7).trans (f8.mono fun i hi => .inl hi) fun _ _ h => h⟩⟩
  · unfold sSend; rw [if_pos hf, if_pos hsa, if_neg (show ¬ s.tp.length + ((n : Nat) : Int).toNat > 128 by rw [← e1, Int.toNat_natCast]; omega)]
  · unfold sSend; rw [if_pos hf, if_pos hsa, if_neg (show ¬ s.tp.length + ((n : Nat) : Int).toNat > 128 by rw [← e1, Int.toNat_natCast]; omega)]
    unfold parP
    rw [← har, show datP (q.ar.map pa) r = x.data from dat_pa hk2 hr]
    show (⟨q.size, q.ar.map pa, q.tp ++ (x.data.drop a).take n, q.ts, q.tr⟩ : PS) = _
    rw [e1, e2, e3, e4, har]
    rfl
  · rcases hi with hi | hi | hi | hi | hi
    · exact .inl hi
    · exact .inr (.inl (.inl hi))
    · exact .inr (.inl (.inr (.inl hi)))
    · exact .inr (.inr (by have := (ho7'.lt i hi).1; omega))
    · exact .inr (.inl (.inr (.inr (.inr hi))))
end
end Go.Proofs.YtgjmpnngheohbaaDoor
namespace Go.Proofs.YtgjmpnngheohbaaDoor
open Go.Vc
/-- The same answer, and the same state behind it. -/
structure Agree (op who sa sb : Int) (n : Nat) (ns : List Int) (X : PS → Res) : Prop where
  prog : ∀ {p : RP} {w : World} {av : Value}, RoomT p w → p.tr.length ≤ 99000 → SliceIs w av 1 n (ns.map i32) → callD Tryd.prog 21 #[rmT p, tbT p, i64 who, i64 op, i64 sa, i64 sb, av] w fun r w' => SvR p w (X p.ps) r w'
  ref : ∀ {q : QP} {w : World} {av : Value}, RefT q w → q.tr.length ≤ 99000 → (∀ x ∈ q.ps.ar, okB x.data) → (∀ w', Fr (RMu q) w w' → SliceIs w' av 1 n (ns.map i32)) → callD Tryd.prog 22 #[xbT q, ubT q, i64 who, i64 op, i64 sa, i64 sb, av] w fun r w' => RvR q w (X q.ps) r w'
  len : ∀ s, (X s).2.2.tr.length ≤ s.tr.length + 2
theorem serveRNo_ok {q : QP} {w : World} {who op sa sb k : Int} {av : Value} {m : Nat} {cs : List Value} (h : RefT q w) (hxs : SliceIs w av 1 m cs) (hsv : ∀ {w : World}, callD Tryd.prog 20 #[i64 op] w fun r w' => r = i64 k ∧ w' = w) (hk : (m : Int) ≠ k) :
    callD Tryd.prog 22 #[xbT q, ubT q, i64 who, i64 op, i64 sa, i64 sb, av] w fun r w' => RvR q w (0, 27013, q.ps) r w' := by
  apply F22_wp
  unfold F22_den
  refine hsv.mono fun r w' ⟨hr, hw⟩ => ?_
  subst hr; have hw := hw.symm; subst hw
  refine lnx (by first | exact xa_114 | exact xa_22 | exact xa_32 | exact xa_39 | exact xa_40 | exact xa_55 | exact xa_61) hxs (V_neqI.2 (ifD_dec (fun _ => ⟨q, rfl, rfl, h, StpQ.of_ext (Ext.refl _)⟩) fun hn => absurd (Ne.symm hk) hn))
theorem agreeNo {op who sa sb k : Int} {n : Nat} {ns : List Int} (hn : ns.length = n) (h1 : ∀ {w : World}, callD Tryd.prog 32 #[i64 op] w fun r w' => r = i64 k ∧ w' = w) (h2 : ∀ {w : World}, callD Tryd.prog 20 #[i64 op] w fun r w' => r = i64 k ∧ w' = w) (hk : (n : Int) ≠ k) : Agree op who sa sb n ns fun s => (0, 27013, s) :=
  ⟨fun h _ hx => serveNo_ok h hx h1 hk, fun h _ _ hx => serveRNo_ok h (hx _ (Fr.refl _ _)) h2 hk, fun s => by simp⟩

theorem agree17 {who sa sb x0 x1 : Int} (hsm : in32 [x0, x1]) : Agree 17 who sa sb 2 [x0, x1] fun s => sDiv s x0 x1 := by
  refine ⟨fun {p w av} h hl hx => ?_, fun {q w av} h hl hby hva => ?_, fun s => ?_⟩
  · exact serve17_ok h hx hsm
  · refine F22_wp (preR (nn := 2) (m := 0) (xs := [x0, x1]) (evs := []) h hl (by omega) (by simp) rv17_ok (fun ho => shows17_ok ho) rfl (hva _ (Fr.refl _ _)) hsm fun w1 ov uv1 h1 s1 hov => ?_)
    exact rest17 h1 hov (hva _ s1.fr) (hsm _ (by simp)) (hsm _ (by simp)) (s := q.ps) (by show (⟨q.size, q.ar.map pa, q.tp, q.ts, q.tr ++ []⟩ : PS) = _; rw [List.append_nil]; rfl) (fun u w2 ⟨q2, e1, e2, e3, e4⟩ => ⟨q2, e1, e2, e3, s1.trans e4⟩)
  · show (sDiv s x0 x1).2.2.tr.length ≤ _
    unfold sDiv
    repeat' split
    all_goals simp []
theorem agree18 {who sa sb x0 x1 : Int} (hsm : in32 [x0, x1]) : Agree 18 who sa sb 2 [x0, x1] fun s => sRem s x0 x1 := by
  refine ⟨fun {p w av} h hl hx => ?_, fun {q w av} h hl hby hva => ?_, fun s => ?_⟩
  · exact serve18_ok h hx hsm
  · refine F22_wp (preR (nn := 2) (m := 0) (xs := [x0, x1]) (evs := []) h hl (by omega) (by simp) rv18_ok (fun ho => shows18_ok ho) rfl (hva _ (Fr.refl _ _)) hsm fun w1 ov uv1 h1 s1 hov => ?_)
    exact rest18 h1 hov (hva _ s1.fr) (hsm _ (by simp)) (hsm _ (by simp)) (s := q.ps) (by show (⟨q.size, q.ar.map pa, q.tp, q.ts, q.tr ++ []⟩ : PS) = _; rw [List.append_nil]; rfl) (fun u w2 ⟨q2, e1, e2, e3, e4⟩ => ⟨q2, e1, e2, e3, s1.trans e4⟩)
  · show (sRem s x0 x1).2.2.tr.length ≤ _
    unfold sRem
    repeat' split
    all_goals simp []
theorem agree27 {who sa sb x0 : Int} (hsm : in32 [x0]) (hsa : sa = 3 ∨ sa = 4) (hsb : 0 ≤ sb ∧ sb < 7) : Agree 27 who sa sb 1 [x0] fun s => sMake s who sa sb x0 := by
  refine ⟨fun {p w av} h hl hx => ?_, fun {q w av} h hl hby hva => ?_, fun s => ?_⟩
  · refine serveG_ok (nn := 1) (f := 36) (by omega) sv27_ok (by decide) (xs := [x0]) hx rfl hsm (Rr := fun r w' => SvR p w (sMake p.ps who sa sb x0) r w') fun w1 av1 ex1 ho1 => ?_
    have hva : ∀ w', Fr (fun i => MuP p i ∨ TbP p i) w1 w' → SliceIs w' av1 1 1 ([x0].map i64) := fun w' hf => SliceIs.of_own (hf.own ho1 fun i hi hm => by have := (ho1.lt i hi).1; have := h.hi i hm; omega)
    rcases hsa with rfl | rfl
    · refine (make3_ok (h.ext ex1) (by omega) hsb (hva _ (Fr.refl _ _))).mono fun r w' hr => ?_
      obtain ⟨p2, e1, e2, e3, e4⟩ := hr
      subst e1
      exact ⟨_, _, rfl, ⟨p2, rfl, e2, e3, (Stp.of_ext ex1).trans e4⟩⟩
    · refine (make4_ok (h.ext ex1) (by omega) hsb (hva _ (Fr.refl _ _))).mono fun r w' hr => ?_
      obtain ⟨p2, e1, e2, e3, e4⟩ := hr
      subst e1
      exact ⟨_, _, rfl, ⟨p2, rfl, e2, e3, (Stp.of_ext ex1).trans e4⟩⟩
  · refine F22_wp (preR (nn := 1) (m := 0) (xs := [x0]) (evs := [⟨3, sa, sb, x0⟩]) h hl (by omega) (by simp) rv27_ok (fun ho => shows27_ok ho) rfl (hva _ (Fr.refl _ _)) hsm fun w1 ov uv1 h1 s1 hov => ?_)
    rcases hsa with rfl | rfl
    · exact rest27_3 h1 hsb hov (s := q.ps) rfl (fun u w2 ⟨q2, e1, e2, e3, e4⟩ => ⟨q2, e1, e2, e3, s1.trans e4⟩)
    · exact rest27_4 h1 hsb hov (s := q.ps) rfl (fun u w2 ⟨q2, e1, e2, e3, e4⟩ => ⟨q2, e1, e2, e3, s1.trans e4⟩)
  · show (sMake s who sa sb x0).2.2.tr.length ≤ _
    unfold sMake
    repeat' split
    all_goals simp [PS.ev]
theorem agree28 {who sa sb x0 : Int} (hsm : in32 [x0]) : Agree 28 who sa sb 1 [x0] fun s => sLen s who x0 := by
  refine ⟨fun {p w av} h hl hx => ?_, fun {q w av} h hl hby hva => ?_, fun s => ?_⟩
  · refine serveG_ok (nn := 1) (f := 37) (by omega) sv28_ok (by decide) (xs := [x0]) hx rfl hsm (Rr := fun r w' => SvR p w (sLen p.ps who x0) r w') fun w1 av1 ex1 ho1 => ?_
    have hva : ∀ w', Fr (fun i => MuP p i ∨ TbP p i) w1 w' → SliceIs w' av1 1 1 ([x0].map i64) := fun w' hf => SliceIs.of_own (hf.own ho1 fun i hi hm => by have := (ho1.lt i hi).1; have := h.hi i hm; omega)
    refine (lengthT_ok (h.ext ex1) (by omega) (hva _ (Fr.refl _ _))).mono fun r w' hr => ?_
    obtain ⟨p2, e1, e2, e3, e4⟩ := hr
    subst e1
    exact ⟨_, _, rfl, ⟨p2, rfl, e2, e3, (Stp.of_ext ex1).trans e4⟩⟩
  · refine F22_wp (preR (nn := 1) (m := 0) (xs := [x0]) (evs := [⟨2, x0, 0, 0⟩]) h hl (by omega) (by simp) rv28_ok (fun ho => shows28_ok ho) rfl (hva _ (Fr.refl _ _)) hsm fun w1 ov uv1 h1 s1 hov => ?_)
    exact rest28 h1 hov (s := q.ps) rfl (fun u w2 ⟨q2, e1, e2, e3, e4⟩ => ⟨q2, e1, e2, e3, s1.trans e4⟩)
  · show (sLen s who x0).2.2.tr.length ≤ _
    unfold sLen
    repeat' split
    all_goals simp [PS.ev]
theorem agree29 {who sa sb x0 x1 : Int} (hsm : in32 [x0, x1]) : Agree 29 who sa sb 2 [x0, x1] fun s => sGet s who x0 x1 := by
  refine ⟨fun {p w av} h hl hx => ?_, fun {q w av} h hl hby hva => ?_, fun s => ?_⟩
  · refine serveG_ok (nn := 2) (f := 38) (by omega) sv29_ok (by decide) (xs := [x0, x1]) hx rfl hsm (Rr := fun r w' => SvR p w (sGet p.ps who x0 x1) r w') fun w1 av1 ex1 ho1 => ?_
    have hva : ∀ w', Fr (fun i => MuP p i ∨ TbP p i) w1 w' → SliceIs w' av1 1 2 ([x0, x1].map i64) := fun w' hf => SliceIs.of_own (hf.own ho1 fun i hi hm => by have := (ho1.lt i hi).1; have := h.hi i hm; omega)
    refine (getT_ok (h.ext ex1) (by omega) (hva _ (Fr.refl _ _))).mono fun r w' hr => ?_
    obtain ⟨p2, e1, e2, e3, e4⟩ := hr
    subst e1
    exact ⟨_, _, rfl, ⟨p2, rfl, e2, e3, (Stp.of_ext ex1).trans e4⟩⟩
  · refine F22_wp (preR (nn := 2) (m := 0) (xs := [x0, x1]) (evs := [⟨2, x0, x1, 1⟩]) h hl (by omega) (by simp) rv29_ok (fun ho => shows29_ok ho) rfl (hva _ (Fr.refl _ _)) hsm fun w1 ov uv1 h1 s1 hov => ?_)
    exact rest29 h1 hov (s := q.ps) rfl (fun u w2 ⟨q2, e1, e2, e3, e4⟩ => ⟨q2, e1, e2, e3, s1.trans e4⟩)
  · show (sGet s who x0 x1).2.2.tr.length ≤ _
    unfold sGet
    repeat' split
    all_goals simp [PS.ev]
theorem agree30 {who sa sb x0 x1 x2 : Int} (hsm : in32 [x0, x1, x2]) : Agree 30 who sa sb 3 [x0, x1, x2] fun s => sPut s who x0 x1 x2 := by
  refine ⟨fun {p w av} h hl hx => ?_, fun {q w av} h hl hby hva => ?_, fun s => ?_⟩
  · refine serveG_ok (nn := 3) (f := 39) (by omega) sv30_ok (by decide) (xs := [x0, x1, x2]) hx rfl hsm (Rr := fun r w' => SvR p w (sPut p.ps who x0 x1 x2) r w') fun w1 av1 ex1 ho1 => ?_
    have hva : ∀ w', Fr (fun i => MuP p i ∨ TbP p i) w1 w' → SliceIs w' av1 1 3 ([x0, x1, x2].map i64) := fun w' hf => SliceIs.of_own (hf.own ho1 fun i hi hm => by have := (ho1.lt i hi).1; have := h.hi i hm; omega)
    refine (putT_ok (h.ext ex1) (by omega) hva).mono fun r w' hr => ?_
    obtain ⟨p2, e1, e2, e3, e4⟩ := hr
    subst e1
    exact ⟨_, _, rfl, ⟨p2, rfl, e2, e3, (Stp.of_ext ex1).trans e4⟩⟩
  · refine F22_wp (preR (nn := 3) (m := 0) (xs := [x0, x1, x2]) (evs := [⟨2, x0, x1, 1⟩]) h hl (by omega) (by simp) rv30_ok (fun ho => shows30_ok ho) rfl (hva _ (Fr.refl _ _)) hsm fun w1 ov uv1 h1 s1 hov => ?_)
    exact rest30 h1 hov (s := q.ps) rfl (fun u w2 ⟨q2, e1, e2, e3, e4⟩ => ⟨q2, e1, e2, e3, s1.trans e4⟩)
  · show (sPut s who x0 x1 x2).2.2.tr.length ≤ _
    unfold sPut
    repeat' split
    all_goals simp [PS.ev]
theorem agree31 {who sa sb x0 x1 x2 x3 x4 : Int} (hsm : in32 [x0, x1, x2, x3, x4]) : Agree 31 who sa sb 5 [x0, x1, x2, x3, x4] fun s => sCopy s who x0 x1 x2 x3 x4 := by
  refine ⟨fun {p w av} h hl hx => ?_, fun {q w av} h hl hby hva => ?_, fun s => ?_⟩
  · refine serveG_ok (nn := 5) (f := 40) (by omega) sv31_ok (by decide) (xs := [x0, x1, x2, x3, x4]) hx rfl hsm (Rr := fun r w' => SvR p w (sCopy p.ps who x0 x1 x2 x3 x4) r w') fun w1 av1 ex1 ho1 => ?_
    have hva : ∀ w', Fr (fun i => MuP p i ∨ TbP p i) w1 w' → SliceIs w' av1 1 5 ([x0, x1, x2, x3, x4].map i64) := fun w' hf => SliceIs.of_own (hf.own ho1 fun i hi hm => by have := (ho1.lt i hi).1; have := h.hi i hm; omega)
    refine (copyT_ok (h.ext ex1) hl hva).mono fun r w' hr => ?_
    obtain ⟨p2, e1, e2, e3, e4⟩ := hr
    subst e1
    exact ⟨_, _, rfl, ⟨p2, rfl, e2, e3, (Stp.of_ext ex1).trans e4⟩⟩
  · refine F22_wp (preR (nn := 5) (m := 0) (xs := [x0, x1, x2, x3, x4]) (evs := [⟨2, x0, x1, x4⟩, ⟨2, x2, x3, x4⟩]) h hl (by omega) (by simp) rv31_ok (fun ho => shows31_ok ho) rfl (hva _ (Fr.refl _ _)) hsm fun w1 ov uv1 h1 s1 hov => ?_)
    exact rest31 h1 hby hov (s := q.ps) (by show (⟨q.size, q.ar.map pa, q.tp, q.ts, q.tr ++ [_, _]⟩ : PS) = ⟨q.size, q.ar.map pa, q.tp, q.ts, (q.tr ++ [_]) ++ [_]⟩; rw [List.append_assoc]; rfl) (fun u w2 ⟨q2, e1, e2, e3, e4⟩ => ⟨q2, e1, e2, e3, s1.trans e4⟩)
  · show (sCopy s who x0 x1 x2 x3 x4).2.2.tr.length ≤ _
    unfold sCopy
    repeat' split
    all_goals simp [PS.ev, PS.ev2]
theorem agree32 {who sa sb x0 x1 x2 x3 x4 : Int} (hsm : in32 [x0, x1, x2, x3, x4]) : Agree 32 who sa sb 5 [x0, x1, x2, x3, x4] fun s => sSame s who x0 x1 x2 x3 x4 := by
  refine ⟨fun {p w av} h hl hx => ?_, fun {q w av} h hl hby hva => ?_, fun s => ?_⟩
  · refine serveG_ok (nn := 5) (f := 41) (by omega) sv32_ok (by decide) (xs := [x0, x1, x2, x3, x4]) hx rfl hsm (Rr := fun r w' => SvR p w (sSame p.ps who x0 x1 x2 x3 x4) r w') fun w1 av1 ex1 ho1 => ?_
    have hva : ∀ w', Fr (fun i => MuP p i ∨ TbP p i) w1 w' → SliceIs w' av1 1 5 ([x0, x1, x2, x3, x4].map i64) := fun w' hf => SliceIs.of_own (hf.own ho1 fun i hi hm => by have := (ho1.lt i hi).1; have := h.hi i hm; omega)
    refine (sameT_ok (h.ext ex1) hl hva).mono fun r w' hr => ?_
    obtain ⟨p2, e1, e2, e3, e4⟩ := hr
    subst e1
    exact ⟨_, _, rfl, ⟨p2, rfl, e2, e3, (Stp.of_ext ex1).trans e4⟩⟩
  · refine F22_wp (preR (nn := 5) (m := 0) (xs := [x0, x1, x2, x3, x4]) (evs := [⟨2, x0, x1, x4⟩, ⟨2, x2, x3, x4⟩]) h hl (by omega) (by simp) rv32_ok (fun ho => shows32_ok ho) rfl (hva _ (Fr.refl _ _)) hsm fun w1 ov uv1 h1 s1 hov => ?_)
    exact rest32 h1 hby hov (s := q.ps) (by show (⟨q.size, q.ar.map pa, q.tp, q.ts, q.tr ++ [_, _]⟩ : PS) = ⟨q.size, q.ar.map pa, q.tp, q.ts, (q.tr ++ [_]) ++ [_]⟩; rw [List.append_assoc]; rfl) (fun u w2 ⟨q2, e1, e2, e3, e4⟩ => ⟨q2, e1, e2, e3, s1.trans e4⟩)
  · show (sSame s who x0 x1 x2 x3 x4).2.2.tr.length ≤ _
    unfold sSame
    repeat' split
    all_goals simp [PS.ev, PS.ev2]
theorem agree36 {who sa sb x0 x1 x2 : Int} (hsm : in32 [x0, x1, x2]) : Agree 36 who sa sb 3 [x0, x1, x2] fun s => sSend s who sa x0 x1 x2 := by
  refine ⟨fun {p w av} h hl hx => ?_, fun {q w av} h hl hby hva => ?_, fun s => ?_⟩
  · refine serveG_ok (nn := 3) (f := 42) (by omega) sv36_ok (by decide) (xs := [x0, x1, x2]) hx rfl hsm (Rr := fun r w' => SvR p w (sSend p.ps who sa x0 x1 x2) r w') fun w1 av1 ex1 ho1 => ?_
    have hva : ∀ w', Fr (fun i => MuP p i ∨ TbP p i) w1 w' → SliceIs w' av1 1 3 ([x0, x1, x2].map i64) := fun w' hf => SliceIs.of_own (hf.own ho1 fun i hi hm => by have := (ho1.lt i hi).1; have := h.hi i hm; omega)
    refine (sendT_ok (h.ext ex1) (by omega) (hva _ (Fr.refl _ _))).mono fun r w' hr => ?_
    obtain ⟨p2, e1, e2, e3, e4⟩ := hr
    subst e1
    exact ⟨_, _, rfl, ⟨p2, rfl, e2, e3, (Stp.of_ext ex1).trans e4⟩⟩
  · refine F22_wp (preR (nn := 3) (m := 0) (xs := [x0, x1, x2]) (evs := [⟨2, x0, x1, x2⟩]) h hl (by omega) (by simp) rv36_ok (fun ho => shows36_ok ho) rfl (hva _ (Fr.refl _ _)) hsm fun w1 ov uv1 h1 s1 hov => ?_)
    by_cases hsa : sa = 1
    · exact rest36_P h1 hsa hov (s := q.ps) rfl (fun u w2 ⟨q2, e1, e2, e3, e4⟩ => ⟨q2, e1, e2, e3, s1.trans e4⟩)
    · exact rest36_S h1 hsa hov (s := q.ps) rfl (fun u w2 ⟨q2, e1, e2, e3, e4⟩ => ⟨q2, e1, e2, e3, s1.trans e4⟩)
  · show (sSend s who sa x0 x1 x2).2.2.tr.length ≤ _
    unfold sSend
    repeat' split
    all_goals simp [PS.ev]
end Go.Proofs.YtgjmpnngheohbaaDoor
