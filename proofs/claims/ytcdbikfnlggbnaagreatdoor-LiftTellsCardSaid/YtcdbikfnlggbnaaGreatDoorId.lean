/- Each function's body, opened into a plain condition by program (vcgen.py); the kernel holds the one against the other. General laws of operations (from the other texts of this seed). The nodes of package ir as plain data; how values read as them. What may run, as plain data: images, kinds, what an instruction takes and gives, and the walk over a method's code. The walk over a method's code: what holds throughout, and that it ends. Kinds: the small functions of both packages that only compare. Kinds: Join, into, does, shows; which instruction may be. Images in memory; which may be (the reference's text). -/
import Derived.Test.YtcdbikfnlggbnaaGreatDoorIb
import Derived.Test.YtcdbikfnlggbnaaGreatDoorIc
import Derived.Test.YtcdbikfnlggbnaaGreatDoorProg
import Derived.KernelRfl
import Derived.Deep.AppendLies
import Derived.Laws.CopyRow
import Derived.Laws.BytesArg
namespace Go.Proofs.YtcdbikfnlggbnaaGreatDoor
open Tryz Instr
open Go.Vc
def F87_ann : Ann := (q (.seq (.block (.loop [0, 2, 3, 4, 5, 6, 7, 8, 9, 10, 11, 12, 13, 14, 15, 16, 17, 18, 19, 20, 21, 22, 23, 24, 25, 26, 27, 28, 29, 30, 31, 32, 33, 34, 35, 36, 37, 38, 39, 40, 41, 42, 43, 44, 45, 46, 47, 48, 49, 50, 51, 52, 53, 54, 55, 56, 57, 58, 59, 60, 61, 62, 63, 64, 65, 66, 67, 68, 69, 70, 71, 72, 73, 74, 75, 76, 77, 78, 79, 80, 81, 82, 83, 84, 85, 86, 87, 88, 89, 90, 91, 92, 93, 94, 95, 96, 97, 98, 99, 100, 101, 102, 103, 104, 105, 106, 107, 108, 109, 110, 111, 112, 113, 114, 115, 116, 117, 118, 119, 120, 121, 122, 123, 124, 125, 126, 127, 128, 129, 130, 131, 132, 133, 134, 135, 136, 137, 138, 139, 140, 141, 142, 143, 144, 145, 146, 147, 148, 149, 150, 151, 152, 153, 154, 155, 156, 157, 158, 159, 160, 161, 162, 163, 164, 165, 166, 167, 168] [0] (.seq (q (.cond .leaf .leaf)) (.block (q (.seq (q (.cond (q (.join [0, 16, 17, 18, 19, 20, 21, 22, 23, 24, 25, 26, 27, 28, 29, 30, 31, 32, 33, 34, 35, 36, 37, 38, 39, 40, 41, 42, 43, 44, 45, 46, 47, 48, 49, 50, 51, 52, 53, 54, 55, 56, 57, 58, 59, 60, 61, 62, 63, 64] [0] (q (.cond (q (.seq (.draw [0, 1, 2, 4, 8, 24, 8, 72, 168, 296, 520, 1032, 2056] [0, 1, 2, 4, 8, 24, 8, 72, 136, 296, 520, 1032, 2056] 0 13 8191 (.take 0 (.take 1 (.take 2 (.take 3 (.take 4 (.take 6 (.take 7 (.only 5 (.only 8 (.take 9 (.take 10 (.take 11 (.take 12 .done)))))))))))))) (.cond (q (.block (.loop [0, 42, 43, 44, 45, 46, 47, 48, 49, 50, 51, 52, 53, 54, 55, 56, 57, 58, 59, 60, 61, 62, 63, 64] [0] (.seq (.seq (.draw [0, 1, 2, 4, 8, 24, 8, 72, 168, 296, 8, 1032, 2312, 8, 8200, 20488, 36872, 66056, 131080, 262152, 524296] [0, 1, 2, 4, 8, 24, 8, 72, 136, 296, 8, 1032, 2056, 8, 8200, 16392, 36872, 66056, 131080, 262152, 524296] 0 21 2097151 (.take 0 (.take 1 (.take 2 (.take 3 (.take 4 (.take 6 (.take 7 (.take 10 (.take 11 (.take 13 (.take 14 (.only 5 (.only 8 (.take 9 (.only 12 (.only 15 (.take 16 (.take 17 (.take 18 (.take 19 (.take 20 .done)))))))))))))))))))))) (.cond .leaf .leaf)) (.block .leaf))))) .leaf))) .leaf)) .leaf)) .leaf)) (q (q (q (q (.block (q (.cond (.seq (.seq (.draw [0, 1, 2, 4, 8, 24, 8, 72, 168, 264, 520, 1024, 3072, 1024, 9216, 21504, 33792] [0, 1, 2, 4, 8, 24, 8, 72, 168, 264, 512, 1024, 3072, 1024, 9216, 21504, 33792] 0 17 131071 (.take 0 (.take 1 (.take 2 (.take 3 (.take 4 (.take 5 (.take 6 (.take 7 (.take 8 (.take 9 (.take 10 (.take 11 (.take 12 (.take 13 (.take 14 (.take 15 (.take 16 .done)))))))))))))))))) (.cond (q .leaf) .leaf)) .leaf) (q (.cond (.seq (.seq (.draw [0, 1, 2, 4, 8, 24, 8, 72, 168, 264, 520, 1024, 3072, 1024, 9216, 21504, 33792, 66560, 131072, 393216, 655360, 1179648, 2228224, 4194304, 12582912, 20971520, 37748736] [0, 1, 2, 4, 8, 24, 8, 72, 168, 264, 512, 1024, 3072, 1024, 9216, 21504, 33792, 65536, 131072, 393216, 655360, 1179648, 2097152, 4194304, 12582912, 20971520, 37748736] 0 27 134217727 (.take 0 (.take 1 (.take 2 (.take 3 (.take 4 (.take 5 (.take 6 (.take 7 (.take 8 (.take 9 (.take 10 (.take 11 (.take 12 (.take 13 (.take 14 (.take 15 (.take 16 (.take 17 (.take 18 (.take 19 (.take 20 (.take 21 (.take 22 (.take 23 (.take 24 (.take 25 (.take 26 .done)))))))))))))))))))))))))))) (.cond (q .leaf) .leaf)) .leaf) (q (.cond (.seq (.seq (.draw [0, 1, 2, 4, 8, 24, 8, 72, 168, 264, 520, 1024, 3072, 1024, 9216, 21504, 33792, 66560, 131072, 393216, 655360, 1179648, 2228224, 4194304, 12582912, 20971520, 37748736, 71303168, 134217728, 402653184, 671088640, 1207959552, 2281701376, 4294967296, 12884901888, 21474836480, 38654705664] [0, 1, 2, 4, 8, 24, 8, 72, 168, 264, 512, 1024, 3072, 1024, 9216, 21504, 33792, 65536, 131072, 393216, 655360, 1179648, 2097152, 4194304, 12582912, 20971520, 37748736, 67108864, 134217728, 402653184, 671088640, 1207959552, 2147483648, 4294967296, 12884901888, 21474836480, 38654705664] 0 37 137438953471 (.take 0 (.take 1 (.take 2 (.take 3 (.take 4 (.take 5 (.take 6 (.take 7 (.take 8 (.take 9 (.take 10 (.take 11 (.take 12 (.take 13 (.take 14 (.take 15 (.take 16 (.take 17 (.take 18 (.take 19 (.take 20 (.take 21 (.take 22 (.take 23 (.take 24 (.take 25 (.take 26 (.take 27 (.take 28 (.take 29 (.take 30 (.take 31 (.take 32 (.take 33 (.take 34 (.take 35 (.take 36 .done)))))))))))))))))))))))))))))))))))))) (.cond (q .leaf) .leaf)) .leaf) (q .leaf)))))))))))))))))) (q .leaf)))
def F87_den (t0 : Value) (w : World) (R : Value → World → Prop) : Prop :=
 ∃ (I1 : NP 1) (μ1 : NF 1), I1 t0 w ∧
 ∀ (t0_1 : Value), ∀ w1 : World, I1 t0_1 w1 → ∀ _f : Env,
 V prog (Builtin.len_ #[9] 3 #[t0_1]) w1 fun t8 w =>
 V prog (binOp .gtr 3 t8 (i64 0)) w fun t9 w3 =>
 ifD t9 (
 V prog (index 9 t0_1 (i64 0)) w3 fun t11 w =>
 V prog (binOp .lss 5 t11 (Value.int IntKind.u8 128)) w fun t13 w5 =>
 ifD t13 (
 V prog (sliceAt 9 t0_1 (some (i64 1)) none none) w5 fun t15 w =>
 ∃ J2 : NP 1,
 (V prog (Builtin.len_ #[9] 3 #[t15]) w fun t17 w =>
 V prog (binOp .gtr 3 t17 (i64 8)) w fun t18 w =>
 gd t18 true (fun K => K t15 w) w fun t20 w =>
 gd t18 true (fun K => callD prog 114 #[t20] w K) w fun t21 w =>
 gd t18 true (fun K => V prog (binOp .and 12 t21 (Value.int IntKind.u64 9259542123273814144)) w K) w fun t22 w =>
 gd t18 true (fun K => V prog (do eqGuard .eql 12 (.tmp 22) (.const (Value.int IntKind.u64 0)) t22 (Value.int IntKind.u64 0); binOp .eql 12 t22 (Value.int IntKind.u64 0)) w K) w fun t23 w12 =>
 pickD t18 t23 (.bool false) fun t24 =>
 ifD t24 (
 V prog (sliceAt 9 t15 (some (i64 8)) none none) w12 fun t26 w =>
 drawD w fun S7 w =>
 yieldS prog S7 (Builtin.len_ #[9] 3 #[t26]) fun t28 =>
 yieldS prog S7 (binOp .gtr 3 t28 (i64 16)) fun t29 =>
 gdY t29 true (fun K => K t26) fun t31 =>
 gdY t29 true (fun K => K t26) fun t33 =>
 gdY t29 true (fun K => yieldS prog S7 (sliceAt 9 t33 (some (i64 8)) none none) K) fun t34 =>
 gd t29 true (fun K => callD prog 114 #[t31] w K) w fun t32 w =>
 S7 w ∧
 gd t29 true (fun K => callD prog 114 #[t34] w K) w fun t35 w17 =>
 S7 w17 ∧
 gdY t29 true (fun K => yieldS prog S7 (binOp .or 12 t32 t35) K) fun t36 =>
 gdY t29 true (fun K => yieldS prog S7 (binOp .and 12 t36 (Value.int IntKind.u64 9259542123273814144)) K) fun t37 =>
 gdY t29 true (fun K => yieldS prog S7 (do eqGuard .eql 12 (.tmp 37) (.const (Value.int IntKind.u64 0)) t37 (Value.int IntKind.u64 0); binOp .eql 12 t37 (Value.int IntKind.u64 0)) K) fun t38 =>
 pickD t29 t38 (.bool false) fun t39 =>
 ifD t39 (
 V prog (sliceAt 9 t26 (some (i64 16)) none none) w17 fun t41 w =>
 ∃ (I3 : NP 1) (μ3 : NF 1), I3 t41 w ∧
 ∀ (t0_2 : Value), ∀ w19 : World, I3 t0_2 w19 → ∀ _f : Env,
 drawD w19 fun S9 w =>
 yieldS prog S9 (Builtin.len_ #[9] 3 #[t0_2]) fun t43 =>
 yieldS prog S9 (binOp .gtr 3 t43 (i64 32)) fun t44 =>
 gdY t44 true (fun K => K t0_2) fun t46 =>
 gdY t44 true (fun K => K t0_2) fun t48 =>
 gdY t44 true (fun K => yieldS prog S9 (sliceAt 9 t48 (some (i64 8)) none none) K) fun t49 =>
 gdY t44 true (fun K => K t0_2) fun t52 =>
 gdY t44 true (fun K => yieldS prog S9 (sliceAt 9 t52 (some (i64 16)) none none) K) fun t53 =>
 gdY t44 true (fun K => K t0_2) fun t55 =>
 gdY t44 true (fun K => yieldS prog S9 (sliceAt 9 t55 (some (i64 24)) none none) K) fun t56 =>
 gd t44 true (fun K => callD prog 114 #[t46] w K) w fun t47 w =>
 S9 w ∧
 gd t44 true (fun K => callD prog 114 #[t49] w K) w fun t50 w =>
 S9 w ∧
 gdY t44 true (fun K => yieldS prog S9 (binOp .or 12 t47 t50) K) fun t51 =>
 gd t44 true (fun K => callD prog 114 #[t53] w K) w fun t54 w =>
 S9 w ∧
 gd t44 true (fun K => callD prog 114 #[t56] w K) w fun t57 w24 =>
 S9 w24 ∧
 gdY t44 true (fun K => yieldS prog S9 (binOp .or 12 t54 t57) K) fun t58 =>
 gdY t44 true (fun K => yieldS prog S9 (binOp .or 12 t51 t58) K) fun t59 =>
 gdY t44 true (fun K => yieldS prog S9 (binOp .and 12 t59 (Value.int IntKind.u64 9259542123273814144)) K) fun t60 =>
 gdY t44 true (fun K => yieldS prog S9 (do eqGuard .eql 12 (.tmp 60) (.const (Value.int IntKind.u64 0)) t60 (Value.int IntKind.u64 0); binOp .eql 12 t60 (Value.int IntKind.u64 0)) K) fun t61 =>
 pickD t44 t61 (.bool false) fun t62 =>
 ifD t62 (
 V prog (sliceAt 9 t0_2 (some (i64 32)) none none) w24 fun t64 w =>
 I3 t64 w ∧ μ3 t64 w < μ3 t0_2 w19) (
 J2 t0_2 w24)) (
 J2 t26 w17)) (
 J2 t15 w12)) ∧
 ∀ (t0_3 : Value), ∀ w : World, J2 t0_3 w → ∀ _f : Env,
 I1 t0_3 w ∧ μ1 t0_3 w < μ1 t0_1 w1) (
 V prog (indexAt 197 (Value.pointer (some ⟨1, 0, none⟩)) t11) w5 fun t66 w =>
 V prog (loadAt 5 t66) w fun t67 w =>
 V prog (binOp .and 5 t67 (Value.int IntKind.u8 7)) w fun t69 w =>
 V prog (convert 5 3 t69) w fun t70 w =>
 V prog (binOp .shr 5 t67 (Value.int IntKind.u64 4)) w fun t72 w =>
 V prog (indexAt 200 (Value.pointer (some ⟨2, 0, none⟩)) t72) w fun t73 w =>
 V prog (loadAt 199 t73) w fun t74 w =>
 V prog (alloc 199 true (.tuple #[])) w fun t6 w =>
 U prog (storeAt 199 t6 t74) w fun _ w =>
 V prog (do eqGuard .eql 3 (.tmp 75) (.const (i64 2)) t70 (i64 2); binOp .eql 3 t70 (i64 2)) w fun t77 w36 =>
 ifD t77 (
 drawD w36 fun S17 w =>
 yieldS prog S17 (Builtin.len_ #[9] 3 #[t0_1]) fun t79 =>
 yieldS prog S17 (binOp .lss 3 t79 (i64 2)) fun t80 =>
 gdY t80 false (fun K => K t0_1) fun t82 =>
 gdY t80 false (fun K => yieldS prog S17 (index 9 t82 (i64 1)) K) fun t83 =>
 gdY t80 false (fun K => yieldS prog S17 (fieldAt 199 t6 0) K) fun t84 =>
 gdY t80 false (fun K => yieldS prog S17 (loadAt 5 t84) K) fun t85 =>
 gdY t80 false (fun K => yieldS prog S17 (binOp .lss 5 t83 t85) K) fun t86 =>
 pickD t80 (.bool true) t86 fun t87 =>
 gdY t87 false (fun K => yieldS prog S17 (fieldAt 199 t6 1) K) fun t89 =>
 gdY t87 false (fun K => yieldS prog S17 (loadAt 5 t89) K) fun t90 =>
 gdY t87 false (fun K => K t0_1) fun t91 =>
 gdY t87 false (fun K => yieldS prog S17 (index 9 t91 (i64 1)) K) fun t92 =>
 gdY t87 false (fun K => yieldS prog S17 (binOp .lss 5 t90 t92) K) fun t93 =>
 pickD t87 (.bool true) t93 fun t94 =>
 ifD t94 (
 R (.bool false) w) (
 V prog (sliceAt 9 t0_1 (some (i64 2)) none none) w fun t96 w =>
 I1 t96 w ∧ μ1 t96 w < μ1 t0_1 w1)) (
 V prog (do eqGuard .eql 3 (.tmp 75) (.const (i64 3)) t70 (i64 3); binOp .eql 3 t70 (i64 3)) w36 fun t98 w39 =>
 ifD t98 (
 drawD w39 fun S21 w =>
 yieldS prog S21 (Builtin.len_ #[9] 3 #[t0_1]) fun t100 =>
 yieldS prog S21 (binOp .lss 3 t100 (i64 3)) fun t101 =>
 gdY t101 false (fun K => K t0_1) fun t103 =>
 gdY t101 false (fun K => yieldS prog S21 (index 9 t103 (i64 1)) K) fun t104 =>
 gdY t101 false (fun K => yieldS prog S21 (fieldAt 199 t6 0) K) fun t105 =>
 gdY t101 false (fun K => yieldS prog S21 (loadAt 5 t105) K) fun t106 =>
 gdY t101 false (fun K => yieldS prog S21 (binOp .lss 5 t104 t106) K) fun t107 =>
 pickD t101 (.bool true) t107 fun t108 =>
 gdY t108 false (fun K => yieldS prog S21 (fieldAt 199 t6 1) K) fun t110 =>
 gdY t108 false (fun K => yieldS prog S21 (loadAt 5 t110) K) fun t111 =>
 gdY t108 false (fun K => K t0_1) fun t112 =>
 gdY t108 false (fun K => yieldS prog S21 (index 9 t112 (i64 1)) K) fun t113 =>
 gdY t108 false (fun K => yieldS prog S21 (binOp .lss 5 t111 t113) K) fun t114 =>
 pickD t108 (.bool true) t114 fun t115 =>
 gdY t115 false (fun K => K t0_1) fun t117 =>
 gdY t115 false (fun K => yieldS prog S21 (index 9 t117 (i64 2)) K) fun t118 =>
 gdY t115 false (fun K => yieldS prog S21 (binOp .lss 5 t118 (Value.int IntKind.u8 128)) K) fun t119 =>
 pickD t115 (.bool true) t119 fun t120 =>
 gdY t120 false (fun K => K t0_1) fun t122 =>
 gdY t120 false (fun K => yieldS prog S21 (index 9 t122 (i64 2)) K) fun t123 =>
 gdY t120 false (fun K => yieldS prog S21 (binOp .lss 5 (Value.int IntKind.u8 191) t123) K) fun t124 =>
 pickD t120 (.bool true) t124 fun t125 =>
 ifD t125 (
 R (.bool false) w) (
 V prog (sliceAt 9 t0_1 (some (i64 3)) none none) w fun t127 w =>
 I1 t127 w ∧ μ1 t127 w < μ1 t0_1 w1)) (
 V prog (do eqGuard .eql 3 (.tmp 75) (.const (i64 4)) t70 (i64 4); binOp .eql 3 t70 (i64 4)) w39 fun t129 w42 =>
 ifD t129 (
 drawD w42 fun S25 w =>
 yieldS prog S25 (Builtin.len_ #[9] 3 #[t0_1]) fun t131 =>
 yieldS prog S25 (binOp .lss 3 t131 (i64 4)) fun t132 =>
 gdY t132 false (fun K => K t0_1) fun t134 =>
 gdY t132 false (fun K => yieldS prog S25 (index 9 t134 (i64 1)) K) fun t135 =>
 gdY t132 false (fun K => yieldS prog S25 (fieldAt 199 t6 0) K) fun t136 =>
 gdY t132 false (fun K => yieldS prog S25 (loadAt 5 t136) K) fun t137 =>
 gdY t132 false (fun K => yieldS prog S25 (binOp .lss 5 t135 t137) K) fun t138 =>
 pickD t132 (.bool true) t138 fun t139 =>
 gdY t139 false (fun K => yieldS prog S25 (fieldAt 199 t6 1) K) fun t141 =>
 gdY t139 false (fun K => yieldS prog S25 (loadAt 5 t141) K) fun t142 =>
 gdY t139 false (fun K => K t0_1) fun t143 =>
 gdY t139 false (fun K => yieldS prog S25 (index 9 t143 (i64 1)) K) fun t144 =>
 gdY t139 false (fun K => yieldS prog S25 (binOp .lss 5 t142 t144) K) fun t145 =>
 pickD t139 (.bool true) t145 fun t146 =>
 gdY t146 false (fun K => K t0_1) fun t148 =>
 gdY t146 false (fun K => yieldS prog S25 (index 9 t148 (i64 2)) K) fun t149 =>
 gdY t146 false (fun K => yieldS prog S25 (binOp .lss 5 t149 (Value.int IntKind.u8 128)) K) fun t150 =>
 pickD t146 (.bool true) t150 fun t151 =>
 gdY t151 false (fun K => K t0_1) fun t153 =>
 gdY t151 false (fun K => yieldS prog S25 (index 9 t153 (i64 2)) K) fun t154 =>
 gdY t151 false (fun K => yieldS prog S25 (binOp .lss 5 (Value.int IntKind.u8 191) t154) K) fun t155 =>
 pickD t151 (.bool true) t155 fun t156 =>
 gdY t156 false (fun K => K t0_1) fun t158 =>
 gdY t156 false (fun K => yieldS prog S25 (index 9 t158 (i64 3)) K) fun t159 =>
 gdY t156 false (fun K => yieldS prog S25 (binOp .lss 5 t159 (Value.int IntKind.u8 128)) K) fun t160 =>
 pickD t156 (.bool true) t160 fun t161 =>
 gdY t161 false (fun K => K t0_1) fun t163 =>
 gdY t161 false (fun K => yieldS prog S25 (index 9 t163 (i64 3)) K) fun t164 =>
 gdY t161 false (fun K => yieldS prog S25 (binOp .lss 5 (Value.int IntKind.u8 191) t164) K) fun t165 =>
 pickD t161 (.bool true) t165 fun t166 =>
 ifD t166 (
 R (.bool false) w) (
 V prog (sliceAt 9 t0_1 (some (i64 4)) none none) w fun t168 w =>
 I1 t168 w ∧ μ1 t168 w < μ1 t0_1 w1)) (
 R (.bool false) w42))))) (
 R (.bool true) w3)
theorem F87_wp {t0 : Value} {w : World} {R : Value → World → Prop} (h : F87_den t0 w R) : callD prog 87 #[t0] w R :=
  den_wp mixed F87_ann func87 (by kernel_rfl) (by kernel_rfl) h

def F88_ann : Ann := (q (q (.seq (q (.cond (q .leaf) .leaf)) (q .leaf))))
def F88_den (t0 : Value) (w : World) (R : Value → World → Prop) : Prop :=
 callD prog 115 #[] w fun t4 w =>
 V prog (binOp .lss 3 t0 (i64 1)) w fun t6 w =>
 gd t6 false (fun K => K t0 w) w fun t8 w =>
 gd t6 false (fun K => K t4 w) w fun t9 w =>
 gd t6 false (fun K => V prog (Builtin.len_ #[202] 3 #[t9]) w K) w fun t10 w =>
 gd t6 false (fun K => V prog (binOp .geq 3 t8 t10) w K) w fun t11 w =>
 pickD t6 (.bool true) t11 fun t12 =>
 ifD t12 (
 R (Value.string { data := #[] }) w) (
 V prog (indexAt 202 t4 t0) w fun t15 w =>
 V prog (loadAt 9 t15) w fun t16 w =>
 R t16 w)
theorem F88_wp {t0 : Value} {w : World} {R : Value → World → Prop} (h : F88_den t0 w R) : callD prog 88 #[t0] w R :=
  den_wp mixed F88_ann func88 (by kernel_rfl) (by kernel_rfl) h

def F89_ann : Ann := (q (.seq (q (.block (q (.cond (q .leaf) (.seq (q (.cond .leaf (q (.cond .leaf (q (.cond .leaf (q (.cond .leaf (q (.cond .leaf (q (.cond .leaf (q (.cond .leaf (q (.cond .leaf (q (.cond .leaf (q (.cond .leaf (q (.cond .leaf .leaf)))))))))))))))))))))) (.cond (q .leaf) .leaf)))))) (q .leaf)))
def F89_den (t0 : Value) (w : World) (R : Value → World → Prop) : Prop :=
 V prog (do eqGuard .eql 3 (.tmp 3) (.const (i64 27)) t0 (i64 27); binOp .eql 3 t0 (i64 27)) w fun t5 w =>
 ifD t5 (
 R (i64 2) w) (
 V prog (do eqGuard .eql 3 (.tmp 3) (.const (i64 1)) t0 (i64 1); binOp .eql 3 t0 (i64 1)) w fun t7 w =>
 ifD t7 (
 ifD t7 (
 R (i64 1) w) (
 R (i64 0) w)) (
 V prog (do eqGuard .eql 3 (.tmp 3) (.const (i64 2)) t0 (i64 2); binOp .eql 3 t0 (i64 2)) w fun t8 w =>
 ifD t8 (
 ifD t8 (
 R (i64 1) w) (
 R (i64 0) w)) (
 V prog (do eqGuard .eql 3 (.tmp 3) (.const (i64 3)) t0 (i64 3); binOp .eql 3 t0 (i64 3)) w fun t9 w =>
 ifD t9 (
 ifD t9 (
 R (i64 1) w) (
 R (i64 0) w)) (
 V prog (do eqGuard .eql 3 (.tmp 3) (.const (i64 23)) t0 (i64 23); binOp .eql 3 t0 (i64 23)) w fun t10 w =>
 ifD t10 (
 ifD t10 (
 R (i64 1) w) (
 R (i64 0) w)) (
 V prog (do eqGuard .eql 3 (.tmp 3) (.const (i64 24)) t0 (i64 24); binOp .eql 3 t0 (i64 24)) w fun t11 w =>
 ifD t11 (
 ifD t11 (
 R (i64 1) w) (
 R (i64 0) w)) (
 V prog (do eqGuard .eql 3 (.tmp 3) (.const (i64 25)) t0 (i64 25); binOp .eql 3 t0 (i64 25)) w fun t12 w =>
 ifD t12 (
 ifD t12 (
 R (i64 1) w) (
 R (i64 0) w)) (
 V prog (do eqGuard .eql 3 (.tmp 3) (.const (i64 33)) t0 (i64 33); binOp .eql 3 t0 (i64 33)) w fun t13 w =>
 ifD t13 (
 ifD t13 (
 R (i64 1) w) (
 R (i64 0) w)) (
 V prog (do eqGuard .eql 3 (.tmp 3) (.const (i64 34)) t0 (i64 34); binOp .eql 3 t0 (i64 34)) w fun t14 w =>
 ifD t14 (
 ifD t14 (
 R (i64 1) w) (
 R (i64 0) w)) (
 V prog (do eqGuard .eql 3 (.tmp 3) (.const (i64 35)) t0 (i64 35); binOp .eql 3 t0 (i64 35)) w fun t15 w =>
 ifD t15 (
 ifD t15 (
 R (i64 1) w) (
 R (i64 0) w)) (
 V prog (do eqGuard .eql 3 (.tmp 3) (.const (i64 36)) t0 (i64 36); binOp .eql 3 t0 (i64 36)) w fun t16 w =>
 ifD t16 (
 ifD t16 (
 R (i64 1) w) (
 R (i64 0) w)) (
 V prog (do eqGuard .eql 3 (.tmp 3) (.const (i64 37)) t0 (i64 37); binOp .eql 3 t0 (i64 37)) w fun t17 w =>
 ifD t17 (
 ifD t17 (
 R (i64 1) w) (
 R (i64 0) w)) (
 V prog (do eqGuard .eql 3 (.tmp 3) (.const (i64 38)) t0 (i64 38); binOp .eql 3 t0 (i64 38)) w fun t18 w =>
 ifD t18 (
 R (i64 1) w) (
 R (i64 0) w)))))))))))))
theorem F89_wp {t0 : Value} {w : World} {R : Value → World → Prop} (h : F89_den t0 w R) : callD prog 89 #[t0] w R :=
  den_wp mixed F89_ann func89 (by kernel_rfl) (by kernel_rfl) h

def F90_ann : Ann := (q (q .leaf))
def F90_den (t0 : Value) (t1 : Value) (t2 : Value) (w : World) (R : Value → World → Prop) : Prop :=
 V prog (binOp .geq 3 t0 t1) w fun t9 w =>
 gd t9 true (fun K => K t0 w) w fun t11 w =>
 gd t9 true (fun K => K t2 w) w fun t12 w =>
 gd t9 true (fun K => V prog (binOp .leq 3 t11 t12) w K) w fun t13 w =>
 pickD t9 t13 (.bool false) fun t14 =>
 R t14 w
theorem F90_wp {t0 : Value} {t1 : Value} {t2 : Value} {w : World} {R : Value → World → Prop} (h : F90_den t0 t1 t2 w R) : callD prog 90 #[t0, t1, t2] w R :=
  den_wp mixed F90_ann func90 (by kernel_rfl) (by kernel_rfl) h

def F91_ann : Ann := (q (.seq (q (.cond (q .leaf) .leaf)) (.seq (q (.cond (q .leaf) .leaf)) (q .leaf))))
def F91_den (t0 : Value) (t1 : Value) (w : World) (R : Value → World → Prop) : Prop :=
 V prog (box 47 t0) w fun t2 w =>
 V prog (fieldAt 47 t2 0) w fun t7 w =>
 V prog (loadAt 23 t7) w fun t8 w =>
 V prog (Builtin.len_ #[23] 3 #[t8]) w fun t9 w =>
 V prog (binOp .lss 3 t1 t9) w fun t10 w5 =>
 ifD t10 (
 V prog (fieldAt 47 t2 0) w5 fun t11 w =>
 V prog (loadAt 23 t11) w fun t12 w =>
 V prog (indexAt 23 t12 t1) w fun t14 w =>
 V prog (loadAt 3 t14) w fun t15 w =>
 R (.tuple #[t15, (.bool true)]) w) (
 V prog (fieldAt 47 t2 0) w5 fun t17 w =>
 V prog (loadAt 23 t17) w fun t18 w =>
 V prog (Builtin.len_ #[23] 3 #[t18]) w fun t19 w =>
 V prog (fieldAt 47 t2 2) w fun t20 w =>
 V prog (loadAt 23 t20) w fun t21 w =>
 V prog (Builtin.len_ #[23] 3 #[t21]) w fun t22 w =>
 V prog (binOp .add 3 t19 t22) w fun t23 w =>
 V prog (binOp .lss 3 t1 t23) w fun t24 w17 =>
 ifD t24 (
 V prog (fieldAt 47 t2 2) w17 fun t25 w =>
 V prog (loadAt 23 t25) w fun t26 w =>
 V prog (fieldAt 47 t2 0) w fun t28 w =>
 V prog (loadAt 23 t28) w fun t29 w =>
 V prog (Builtin.len_ #[23] 3 #[t29]) w fun t30 w =>
 V prog (binOp .sub 3 t1 t30) w fun t31 w =>
 V prog (indexAt 23 t26 t31) w fun t32 w =>
 V prog (loadAt 3 t32) w fun t33 w =>
 R (.tuple #[t33, (.bool true)]) w) (
 R (.tuple #[(i64 0), (.bool false)]) w17))
theorem F91_wp {t0 : Value} {t1 : Value} {w : World} {R : Value → World → Prop} (h : F91_den t0 t1 w R) : callD prog 91 #[t0, t1] w R :=
  den_wp mixed F91_ann func91 (by kernel_rfl) (by kernel_rfl) h

def F92_ann : Ann := (q (.seq (q (.block (.join [9, 10, 11, 12, 13] [9] (q (.cond .leaf (q (.cond .leaf (q (.cond .leaf .leaf)))))) (.cond (q .leaf) (q (.cond (q .leaf) (q (.cond (q .leaf) (q (.cond (q .leaf) (q (.cond (.seq (q (.cond (q .leaf) .leaf)) (q .leaf)) .leaf)))))))))))) (q .leaf)))
def F92_den (t0 : Value) (t1 : Value) (t2 : Value) (w : World) (R : Value → World → Prop) : Prop :=
 V prog (box 27 t0) w fun t3 w =>
 V prog (box 47 t1) w fun t4 w =>
 V prog (box 71 t2) w fun t5 w =>
 V prog (fieldAt 71 t5 0) w fun t7 w =>
 V prog (loadAt 3 t7) w fun t8 w =>
 ∃ J1 : NP 1,
 (V prog (do eqGuard .eql 3 (.tmp 8) (.const (i64 3)) t8 (i64 3); binOp .eql 3 t8 (i64 3)) w fun t10 w =>
 ifD t10 (
 J1 t10 w) (
 V prog (do eqGuard .eql 3 (.tmp 8) (.const (i64 4)) t8 (i64 4); binOp .eql 3 t8 (i64 4)) w fun t11 w =>
 ifD t11 (
 J1 t11 w) (
 V prog (do eqGuard .eql 3 (.tmp 8) (.const (i64 5)) t8 (i64 5); binOp .eql 3 t8 (i64 5)) w fun t12 w =>
 ifD t12 (
 J1 t12 w) (
 V prog (do eqGuard .eql 3 (.tmp 8) (.const (i64 34)) t8 (i64 34); binOp .eql 3 t8 (i64 34)) w fun t13 w =>
 J1 t13 w)))) ∧
 ∀ (t9 : Value), ∀ w : World, J1 t9 w → ∀ _f : Env,
 ifD t9 (
 R (i64 1) w) (
 V prog (do eqGuard .eql 3 (.tmp 8) (.const (i64 22)) t8 (i64 22); binOp .eql 3 t8 (i64 22)) w fun t15 w =>
 ifD t15 (
 R (i64 3) w) (
 V prog (do eqGuard .eql 3 (.tmp 8) (.const (i64 37)) t8 (i64 37); binOp .eql 3 t8 (i64 37)) w fun t17 w12 =>
 ifD t17 (
 V prog (fieldAt 27 t3 3) w12 fun t18 w =>
 V prog (loadAt 25 t18) w fun t19 w =>
 V prog (fieldAt 71 t5 1) w fun t20 w =>
 V prog (loadAt 3 t20) w fun t21 w =>
 V prog (indexAt 25 t19 t21) w fun t22 w =>
 V prog (fieldAt 47 t22 0) w fun t23 w =>
 V prog (loadAt 23 t23) w fun t24 w =>
 V prog (Builtin.len_ #[23] 3 #[t24]) w fun t25 w =>
 R t25 w) (
 V prog (do eqGuard .eql 3 (.tmp 8) (.const (i64 38)) t8 (i64 38); binOp .eql 3 t8 (i64 38)) w12 fun t27 w21 =>
 ifD t27 (
 V prog (fieldAt 27 t3 2) w21 fun t28 w =>
 V prog (loadAt 24 t28) w fun t29 w =>
 V prog (fieldAt 71 t5 1) w fun t30 w =>
 V prog (loadAt 3 t30) w fun t31 w =>
 V prog (indexAt 24 t29 t31) w fun t32 w =>
 V prog (fieldAt 74 t32 2) w fun t33 w =>
 V prog (loadAt 23 t33) w fun t34 w =>
 V prog (Builtin.len_ #[23] 3 #[t34]) w fun t35 w =>
 R t35 w) (
 V prog (do eqGuard .eql 3 (.tmp 8) (.const (i64 39)) t8 (i64 39); binOp .eql 3 t8 (i64 39)) w21 fun t37 w30 =>
 ifD t37 (
 V prog (fieldAt 47 t4 1) w30 fun t38 w =>
 V prog (loadAt 3 t38) w fun t39 w =>
 V prog (do eqGuard .neq 3 (.tmp 39) (.const (i64 0)) t39 (i64 0); binOp .neq 3 t39 (i64 0)) w fun t40 w =>
 ifD t40 (
 R (i64 1) w) (
 R (i64 0) w)) (
 V prog (fieldAt 71 t5 0) w30 fun t41 w =>
 V prog (loadAt 3 t41) w fun t42 w =>
 callD prog 94 #[t42] w fun t43 w =>
 V prog (Builtin.len_ #[9] 3 #[t43]) w fun t44 w =>
 R t44 w)))))
theorem F92_wp {t0 : Value} {t1 : Value} {t2 : Value} {w : World} {R : Value → World → Prop} (h : F92_den t0 t1 t2 w R) : callD prog 92 #[t0, t1, t2] w R :=
  den_wp mixed F92_ann func92 (by kernel_rfl) (by kernel_rfl) h

def F93_ann : Ann := (q (.seq (q (.block (q (.cond (q .leaf) (.join [9, 10, 11, 12, 13, 14, 15, 16, 17, 18] [9] (q (.cond .leaf (q (.cond .leaf (q (.cond .leaf (q (.cond .leaf (q (.cond .leaf (q (.cond .leaf (q (.cond .leaf (q (.cond .leaf .leaf)))))))))))))))) (.cond (q .leaf) (q (.cond (q .leaf) (q (.cond (q .leaf) .leaf)))))))))) (q .leaf)))
def F93_den (t0 : Value) (t1 : Value) (w : World) (R : Value → World → Prop) : Prop :=
 V prog (box 27 t0) w fun t2 w =>
 V prog (box 71 t1) w fun t3 w =>
 V prog (fieldAt 71 t3 0) w fun t5 w =>
 V prog (loadAt 3 t5) w fun t6 w =>
 V prog (do eqGuard .eql 3 (.tmp 6) (.const (i64 5)) t6 (i64 5); binOp .eql 3 t6 (i64 5)) w fun t8 w =>
 ifD t8 (
 R (i64 2) w) (
 ∃ J1 : NP 1,
 (V prog (do eqGuard .eql 3 (.tmp 6) (.const (i64 3)) t6 (i64 3); binOp .eql 3 t6 (i64 3)) w fun t10 w =>
 ifD t10 (
 J1 t10 w) (
 V prog (do eqGuard .eql 3 (.tmp 6) (.const (i64 4)) t6 (i64 4); binOp .eql 3 t6 (i64 4)) w fun t11 w =>
 ifD t11 (
 J1 t11 w) (
 V prog (do eqGuard .eql 3 (.tmp 6) (.const (i64 23)) t6 (i64 23); binOp .eql 3 t6 (i64 23)) w fun t12 w =>
 ifD t12 (
 J1 t12 w) (
 V prog (do eqGuard .eql 3 (.tmp 6) (.const (i64 24)) t6 (i64 24); binOp .eql 3 t6 (i64 24)) w fun t13 w =>
 ifD t13 (
 J1 t13 w) (
 V prog (do eqGuard .eql 3 (.tmp 6) (.const (i64 30)) t6 (i64 30); binOp .eql 3 t6 (i64 30)) w fun t14 w =>
 ifD t14 (
 J1 t14 w) (
 V prog (do eqGuard .eql 3 (.tmp 6) (.const (i64 31)) t6 (i64 31); binOp .eql 3 t6 (i64 31)) w fun t15 w =>
 ifD t15 (
 J1 t15 w) (
 V prog (do eqGuard .eql 3 (.tmp 6) (.const (i64 34)) t6 (i64 34); binOp .eql 3 t6 (i64 34)) w fun t16 w =>
 ifD t16 (
 J1 t16 w) (
 V prog (do eqGuard .eql 3 (.tmp 6) (.const (i64 36)) t6 (i64 36); binOp .eql 3 t6 (i64 36)) w fun t17 w =>
 ifD t17 (
 J1 t17 w) (
 V prog (do eqGuard .eql 3 (.tmp 6) (.const (i64 39)) t6 (i64 39); binOp .eql 3 t6 (i64 39)) w fun t18 w =>
 J1 t18 w))))))))) ∧
 ∀ (t9 : Value), ∀ w : World, J1 t9 w → ∀ _f : Env,
 ifD t9 (
 R (i64 0) w) (
 V prog (do eqGuard .eql 3 (.tmp 6) (.const (i64 37)) t6 (i64 37); binOp .eql 3 t6 (i64 37)) w fun t20 w16 =>
 ifD t20 (
 V prog (fieldAt 27 t2 3) w16 fun t21 w =>
 V prog (loadAt 25 t21) w fun t22 w =>
 V prog (fieldAt 71 t3 1) w fun t23 w =>
 V prog (loadAt 3 t23) w fun t24 w =>
 V prog (indexAt 25 t22 t24) w fun t25 w =>
 V prog (fieldAt 47 t25 1) w fun t26 w =>
 V prog (loadAt 3 t26) w fun t27 w =>
 V prog (Builtin.min_ #[3, 3] 3 #[(i64 1), t27]) w fun t28 w =>
 R t28 w) (
 V prog (do eqGuard .eql 3 (.tmp 6) (.const (i64 38)) t6 (i64 38); binOp .eql 3 t6 (i64 38)) w16 fun t30 w25 =>
 ifD t30 (
 V prog (fieldAt 27 t2 2) w25 fun t31 w =>
 V prog (loadAt 24 t31) w fun t32 w =>
 V prog (fieldAt 71 t3 1) w fun t33 w =>
 V prog (loadAt 3 t33) w fun t34 w =>
 V prog (indexAt 24 t32 t34) w fun t35 w =>
 V prog (fieldAt 74 t35 3) w fun t36 w =>
 V prog (loadAt 3 t36) w fun t37 w =>
 V prog (Builtin.min_ #[3, 3] 3 #[(i64 1), t37]) w fun t38 w =>
 R t38 w) (
 R (i64 1) w25))))
theorem F93_wp {t0 : Value} {t1 : Value} {w : World} {R : Value → World → Prop} (h : F93_den t0 t1 w R) : callD prog 93 #[t0, t1] w R :=
  den_wp mixed F93_ann func93 (by kernel_rfl) (by kernel_rfl) h

def F94_ann : Ann := (q (.seq (q (.block (.join [4, 5, 6, 7, 8, 9, 10, 11, 12, 13, 14, 15, 16] [4] (q (.cond .leaf (q (.cond .leaf (q (.cond .leaf (q (.cond .leaf (q (.cond .leaf (q (.cond .leaf (q (.cond .leaf (q (.cond .leaf (q (.cond .leaf (q (.cond .leaf (q (.cond .leaf .leaf)))))))))))))))))))))) (.cond (q .leaf) (.join [17, 18, 19] [17] (q (.cond .leaf .leaf)) (.cond (q .leaf) (.join [20, 21, 22] [20] (q (.cond .leaf .leaf)) (.cond (q .leaf) (.join [23, 24, 25] [23] (q (.cond .leaf .leaf)) (.cond (q .leaf) (.join [26, 27, 28] [26] (q (.cond .leaf .leaf)) (.cond (q .leaf) (q (.cond (q .leaf) (q (.cond (q .leaf) (.seq (q (.cond .leaf .leaf)) (.cond (q .leaf) (q (.cond (q .leaf) .leaf)))))))))))))))))))) (q .leaf)))
def F94_den (t0 : Value) (w : World) (R : Value → World → Prop) : Prop :=
 ∃ J1 : NP 1,
 (V prog (do eqGuard .eql 3 (.tmp 3) (.const (i64 6)) t0 (i64 6); binOp .eql 3 t0 (i64 6)) w fun t5 w =>
 ifD t5 (
 J1 t5 w) (
 V prog (do eqGuard .eql 3 (.tmp 3) (.const (i64 7)) t0 (i64 7); binOp .eql 3 t0 (i64 7)) w fun t6 w =>
 ifD t6 (
 J1 t6 w) (
 V prog (do eqGuard .eql 3 (.tmp 3) (.const (i64 8)) t0 (i64 8); binOp .eql 3 t0 (i64 8)) w fun t7 w =>
 ifD t7 (
 J1 t7 w) (
 V prog (do eqGuard .eql 3 (.tmp 3) (.const (i64 9)) t0 (i64 9); binOp .eql 3 t0 (i64 9)) w fun t8 w =>
 ifD t8 (
 J1 t8 w) (
 V prog (do eqGuard .eql 3 (.tmp 3) (.const (i64 10)) t0 (i64 10); binOp .eql 3 t0 (i64 10)) w fun t9 w =>
 ifD t9 (
 J1 t9 w) (
 V prog (do eqGuard .eql 3 (.tmp 3) (.const (i64 11)) t0 (i64 11); binOp .eql 3 t0 (i64 11)) w fun t10 w =>
 ifD t10 (
 J1 t10 w) (
 V prog (do eqGuard .eql 3 (.tmp 3) (.const (i64 12)) t0 (i64 12); binOp .eql 3 t0 (i64 12)) w fun t11 w =>
 ifD t11 (
 J1 t11 w) (
 V prog (do eqGuard .eql 3 (.tmp 3) (.const (i64 13)) t0 (i64 13); binOp .eql 3 t0 (i64 13)) w fun t12 w =>
 ifD t12 (
 J1 t12 w) (
 V prog (do eqGuard .eql 3 (.tmp 3) (.const (i64 14)) t0 (i64 14); binOp .eql 3 t0 (i64 14)) w fun t13 w =>
 ifD t13 (
 J1 t13 w) (
 V prog (do eqGuard .eql 3 (.tmp 3) (.const (i64 19)) t0 (i64 19); binOp .eql 3 t0 (i64 19)) w fun t14 w =>
 ifD t14 (
 J1 t14 w) (
 V prog (do eqGuard .eql 3 (.tmp 3) (.const (i64 20)) t0 (i64 20); binOp .eql 3 t0 (i64 20)) w fun t15 w =>
 ifD t15 (
 J1 t15 w) (
 V prog (do eqGuard .eql 3 (.tmp 3) (.const (i64 21)) t0 (i64 21); binOp .eql 3 t0 (i64 21)) w fun t16 w =>
 J1 t16 w)))))))))))) ∧
 ∀ (t4 : Value), ∀ w : World, J1 t4 w → ∀ _f : Env,
 ifD t4 (
 R (Value.string { data := #[105, 105] }) w) (
 ∃ J2 : NP 1,
 (V prog (do eqGuard .eql 3 (.tmp 3) (.const (i64 15)) t0 (i64 15); binOp .eql 3 t0 (i64 15)) w fun t18 w =>
 ifD t18 (
 J2 t18 w) (
 V prog (do eqGuard .eql 3 (.tmp 3) (.const (i64 16)) t0 (i64 16); binOp .eql 3 t0 (i64 16)) w fun t19 w =>
 J2 t19 w)) ∧
 ∀ (t17 : Value), ∀ w : World, J2 t17 w → ∀ _f : Env,
 ifD t17 (
 R (Value.string { data := #[105] }) w) (
 ∃ J3 : NP 1,
 (V prog (do eqGuard .eql 3 (.tmp 3) (.const (i64 17)) t0 (i64 17); binOp .eql 3 t0 (i64 17)) w fun t21 w =>
 ifD t21 (
 J3 t21 w) (
 V prog (do eqGuard .eql 3 (.tmp 3) (.const (i64 18)) t0 (i64 18); binOp .eql 3 t0 (i64 18)) w fun t22 w =>
 J3 t22 w)) ∧
 ∀ (t20 : Value), ∀ w : World, J3 t20 w → ∀ _f : Env,
 ifD t20 (
 R (Value.string { data := #[112, 112] }) w) (
 ∃ J4 : NP 1,
 (V prog (do eqGuard .eql 3 (.tmp 3) (.const (i64 24)) t0 (i64 24); binOp .eql 3 t0 (i64 24)) w fun t24 w =>
 ifD t24 (
 J4 t24 w) (
 V prog (do eqGuard .eql 3 (.tmp 3) (.const (i64 27)) t0 (i64 27); binOp .eql 3 t0 (i64 27)) w fun t25 w =>
 J4 t25 w)) ∧
 ∀ (t23 : Value), ∀ w : World, J4 t23 w → ∀ _f : Env,
 ifD t23 (
 R (Value.string { data := #[112] }) w) (
 ∃ J5 : NP 1,
 (V prog (do eqGuard .eql 3 (.tmp 3) (.const (i64 26)) t0 (i64 26); binOp .eql 3 t0 (i64 26)) w fun t27 w =>
 ifD t27 (
 J5 t27 w) (
 V prog (do eqGuard .eql 3 (.tmp 3) (.const (i64 28)) t0 (i64 28); binOp .eql 3 t0 (i64 28)) w fun t28 w =>
 J5 t28 w)) ∧
 ∀ (t26 : Value), ∀ w : World, J5 t26 w → ∀ _f : Env,
 ifD t26 (
 R (Value.string { data := #[97] }) w) (
 V prog (do eqGuard .eql 3 (.tmp 3) (.const (i64 29)) t0 (i64 29); binOp .eql 3 t0 (i64 29)) w fun t30 w =>
 ifD t30 (
 R (Value.string { data := #[97, 112] }) w) (
 V prog (do eqGuard .eql 3 (.tmp 3) (.const (i64 30)) t0 (i64 30); binOp .eql 3 t0 (i64 30)) w fun t32 w =>
 ifD t32 (
 R (Value.string { data := #[97, 112, 105] }) w) (
 V prog (do eqGuard .eql 3 (.tmp 3) (.const (i64 31)) t0 (i64 31); binOp .eql 3 t0 (i64 31)) w fun t34 w28 =>
 ifD t34 (
 ifD t34 (
 R (Value.string { data := #[97, 112, 97, 112, 112] }) w28) (
 V prog (do eqGuard .eql 3 (.tmp 3) (.const (i64 36)) t0 (i64 36); binOp .eql 3 t0 (i64 36)) w28 fun t37 w =>
 ifD t37 (
 R (Value.string { data := #[97, 112, 112] }) w) (
 R (Value.string { data := #[] }) w))) (
 V prog (do eqGuard .eql 3 (.tmp 3) (.const (i64 32)) t0 (i64 32); binOp .eql 3 t0 (i64 32)) w28 fun t35 w =>
 ifD t35 (
 R (Value.string { data := #[97, 112, 97, 112, 112] }) w) (
 V prog (do eqGuard .eql 3 (.tmp 3) (.const (i64 36)) t0 (i64 36); binOp .eql 3 t0 (i64 36)) w fun t37_1 w =>
 ifD t37_1 (
 R (Value.string { data := #[97, 112, 112] }) w) (
 R (Value.string { data := #[] }) w))))))))))
theorem F94_wp {t0 : Value} {w : World} {R : Value → World → Prop} (h : F94_den t0 w R) : callD prog 94 #[t0] w R :=
  den_wp mixed F94_ann func94 (by kernel_rfl) (by kernel_rfl) h

def F95_ann : Ann := (q (q .leaf))
def F95_den (t0 : Value) (w : World) (R : Value → World → Prop) : Prop :=
 V prog (do eqGuard .eql 3 (.tmp 3) (.const (i64 3)) t0 (i64 3); binOp .eql 3 t0 (i64 3)) w fun t4 w =>
 gd t4 false (fun K => K t0 w) w fun t6 w =>
 gd t4 false (fun K => V prog (do eqGuard .eql 3 (.tmp 6) (.const (i64 4)) t6 (i64 4); binOp .eql 3 t6 (i64 4)) w K) w fun t7 w =>
 pickD t4 (.bool true) t7 fun t8 =>
 R t8 w
theorem F95_wp {t0 : Value} {w : World} {R : Value → World → Prop} (h : F95_den t0 w R) : callD prog 95 #[t0] w R :=
  den_wp mixed F95_ann func95 (by kernel_rfl) (by kernel_rfl) h

def F96_ann : Ann := (q (q .leaf))
def F96_den (t0 : Value) (w : World) (R : Value → World → Prop) : Prop :=
 V prog (do eqGuard .eql 3 (.tmp 3) (.const (i64 1)) t0 (i64 1); binOp .eql 3 t0 (i64 1)) w fun t4 w =>
 gd t4 false (fun K => K t0 w) w fun t6 w =>
 gd t4 false (fun K => V prog (do eqGuard .eql 3 (.tmp 6) (.const (i64 2)) t6 (i64 2); binOp .eql 3 t6 (i64 2)) w K) w fun t7 w =>
 pickD t4 (.bool true) t7 fun t8 =>
 R t8 w
theorem F96_wp {t0 : Value} {w : World} {R : Value → World → Prop} (h : F96_den t0 w R) : callD prog 96 #[t0] w R :=
  den_wp mixed F96_ann func96 (by kernel_rfl) (by kernel_rfl) h

def F97_ann : Ann := (q (q .leaf))
def F97_den (t0 : Value) (w : World) (R : Value → World → Prop) : Prop :=
 V prog (do eqGuard .eql 3 (.tmp 3) (.const (i64 2)) t0 (i64 2); binOp .eql 3 t0 (i64 2)) w fun t4 w =>
 gd t4 false (fun K => K t0 w) w fun t6 w =>
 gd t4 false (fun K => V prog (do eqGuard .eql 3 (.tmp 6) (.const (i64 4)) t6 (i64 4); binOp .eql 3 t6 (i64 4)) w K) w fun t7 w =>
 pickD t4 (.bool true) t7 fun t8 =>
 R t8 w
theorem F97_wp {t0 : Value} {w : World} {R : Value → World → Prop} (h : F97_den t0 w R) : callD prog 97 #[t0] w R :=
  den_wp mixed F97_ann func97 (by kernel_rfl) (by kernel_rfl) h

def F98_ann : Ann := (q .leaf)
def F98_den (t0 : Value) (t1 : Value) (w : World) (R : Value → World → Prop) : Prop :=
 Go.Vc.Safe (t0) ∧
 V prog (fieldAt 178 t0 0) w fun t7 w =>
 V prog (loadAt 4 t7) w fun t8 w =>
 gd t8 false (fun K => K t1 w) w fun t10 w =>
 gd t8 false (fun K => V prog (do eqGuard .eql 33 (.tmp 10) (.const (i64 11)) t10 (i64 11); binOp .eql 33 t10 (i64 11)) w K) w fun t11 w =>
 pickD t8 (.bool true) t11 fun t12 =>
 Go.Vc.Safe (t0) ∧
 V prog (fieldAt 178 t0 0) w fun t14 w =>
 U prog (storeAt 4 t14 t12) w fun _ w =>
 Go.Vc.Safe (t0) ∧
 V prog (fieldAt 178 t0 1) w fun t18 w =>
 V prog (loadAt 4 t18) w fun t19 w =>
 gd t19 false (fun K => K t1 w) w fun t21 w =>
 gd t19 false (fun K => V prog (do eqGuard .eql 33 (.tmp 21) (.const (i64 12)) t21 (i64 12); binOp .eql 33 t21 (i64 12)) w K) w fun t22 w =>
 pickD t19 (.bool true) t22 fun t23 =>
 Go.Vc.Safe (t0) ∧
 V prog (fieldAt 178 t0 1) w fun t25 w =>
 U prog (storeAt 4 t25 t23) w fun _ w =>
 R (.tuple #[]) w
theorem F98_wp {t0 : Value} {t1 : Value} {w : World} {R : Value → World → Prop} (h : F98_den t0 t1 w R) : callD prog 98 #[t0, t1] w R :=
  den_wp mixed F98_ann func98 (by kernel_rfl) (by kernel_rfl) h

def F99_ann : Ann := (q (.seq (.block (q (.cond (q .leaf) (q (.cond (q .leaf) .leaf))))) (q .leaf)))
def F99_den (t0 : Value) (t1 : Value) (w : World) (R : Value → World → Prop) : Prop :=
 callD prog 96 #[t0] w fun t7 w =>
 callD prog 96 #[t1] w fun t9 w =>
 V prog (do eqGuard .neq 4 (.tmp 7) (.tmp 9) t7 t9; binOp .neq 4 t7 t9) w fun t10 w =>
 gd t10 false (fun K => K t0 w) w fun t12 w =>
 gd t10 false (fun K => callD prog 95 #[t12] w K) w fun t13 w =>
 gd t10 false (fun K => K t13 w) w fun t14 w =>
 gd t14 true (fun K => K t0 w) w fun t15 w =>
 gd t14 true (fun K => K t1 w) w fun t16 w =>
 gd t14 true (fun K => V prog (do eqGuard .neq 3 (.tmp 15) (.tmp 16) t15 t16; binOp .neq 3 t15 t16) w K) w fun t17 w =>
 gd t10 false (fun K => pickD t14 t17 (.bool false) fun v => K v w) w fun t18 w =>
 pickD t10 (.bool true) t18 fun t19 =>
 ifD t19 (
 R (i64 11) w) (
 callD prog 116 #[t0, t1] w fun t23 w =>
 V prog (Op.unary UnOp.not t23) w fun t24 w =>
 ifD t24 (
 R (i64 12) w) (
 R (i64 0) w))
theorem F99_wp {t0 : Value} {t1 : Value} {w : World} {R : Value → World → Prop} (h : F99_den t0 t1 w R) : callD prog 99 #[t0, t1] w R :=
  den_wp mixed F99_ann func99 (by kernel_rfl) (by kernel_rfl) h

def F100_ann : Ann := (q (.seq (q (.block (.join [15, 16, 17, 18, 19, 20] [15] (q (.cond .leaf (q (.cond .leaf (q (.cond .leaf (q (.cond .leaf .leaf)))))))) (.cond (q .leaf) (q (.cond (q (q .leaf)) (q (.cond (.seq (.draw [0, 1, 2, 0, 8, 16, 36, 127] [0, 1, 2, 0, 8, 16, 36, 64] 0 8 255 (.take 0 (.take 1 (.take 2 (.take 3 (.take 4 (.take 5 (.only 6 (.take 7 .done))))))))) .leaf) (.join [42, 43, 44, 45, 46, 47, 48, 49, 50, 51, 52, 53, 54] [42] (q (.cond .leaf (q (.cond .leaf (q (.cond .leaf (q (.cond .leaf (q (.cond .leaf (q (.cond .leaf (q (.cond .leaf (q (.cond .leaf (q (.cond .leaf (q (.cond .leaf (q (.cond .leaf .leaf)))))))))))))))))))))) (.cond (.seq (.draw [0, 1, 2, 0, 8, 16, 36, 64, 255] [0, 1, 2, 0, 8, 16, 36, 64, 128] 0 9 511 (.take 0 (.take 1 (.take 2 (.take 3 (.take 4 (.take 5 (.only 6 (.only 7 (.take 8 .done)))))))))) .leaf) (.join [63, 64, 65] [63] (q (.cond .leaf .leaf)) (.cond (q .leaf) (q (.cond (.seq (q (.cond (q .leaf) .leaf)) (.seq (.draw [0, 1, 2, 0, 8, 16, 0, 64, 128, 288, 516, 1024, 4095] [0, 1, 2, 0, 8, 16, 0, 64, 128, 288, 516, 1024, 2048] 0 13 8191 (.take 0 (.take 1 (.take 2 (.take 3 (.take 4 (.take 5 (.take 6 (.take 7 (.take 8 (.only 9 (.only 10 (.only 11 (.take 12 .done)))))))))))))) .leaf)) (.join [92, 93, 94] [92] (q (.cond .leaf .leaf)) (.cond (q .leaf) (q (.cond (q .leaf) (q (.cond (.seq (q (.cond (q .leaf) .leaf)) (q .leaf)) (q (.cond (q .leaf) (q (.cond (q .leaf) (q (.cond (q (q (.cond (q .leaf) .leaf))) (q (.cond (q (q (.cond (q .leaf) .leaf))) .leaf)))))))))))))))))))))))))))) (q .leaf)))
def F100_den (t0 : Value) (t1 : Value) (t2 : Value) (t3 : Value) (w : World) (R : Value → World → Prop) : Prop :=
 V prog (box 27 t0) w fun t4 w =>
 V prog (box 47 t1) w fun t5 w =>
 V prog (box 71 t2) w fun t6 w =>
 V prog (fieldAt 71 t6 0) w fun t13 w =>
 V prog (loadAt 3 t13) w fun t14 w =>
 ∃ J1 : NP 1,
 (V prog (do eqGuard .eql 3 (.tmp 14) (.const (i64 1)) t14 (i64 1); binOp .eql 3 t14 (i64 1)) w fun t16 w =>
 ifD t16 (
 J1 t16 w) (
 V prog (do eqGuard .eql 3 (.tmp 14) (.const (i64 17)) t14 (i64 17); binOp .eql 3 t14 (i64 17)) w fun t17 w =>
 ifD t17 (
 J1 t17 w) (
 V prog (do eqGuard .eql 3 (.tmp 14) (.const (i64 18)) t14 (i64 18); binOp .eql 3 t14 (i64 18)) w fun t18 w =>
 ifD t18 (
 J1 t18 w) (
 V prog (do eqGuard .eql 3 (.tmp 14) (.const (i64 26)) t14 (i64 26); binOp .eql 3 t14 (i64 26)) w fun t19 w =>
 ifD t19 (
 J1 t19 w) (
 V prog (do eqGuard .eql 3 (.tmp 14) (.const (i64 28)) t14 (i64 28); binOp .eql 3 t14 (i64 28)) w fun t20 w =>
 J1 t20 w))))) ∧
 ∀ (t15 : Value), ∀ w11 : World, J1 t15 w11 → ∀ _f : Env,
 ifD t15 (
 V prog (buildSlice 23 1 #[(0, (i64 1))]) w11 fun t21 w =>
 R t21 w) (
 V prog (do eqGuard .eql 3 (.tmp 14) (.const (i64 2)) t14 (i64 2); binOp .eql 3 t14 (i64 2)) w11 fun t23 w13 =>
 ifD t23 (
 V prog (loadAt 47 t5) w13 fun t25 w =>
 V prog (fieldAt 71 t6 1) w fun t26 w =>
 V prog (loadAt 3 t26) w fun t27 w =>
 callD prog 91 #[t25, t27] w fun t28 w =>
 V prog (extract t28 0) w fun t29 w =>
 V prog (extract t28 1) w fun _ w =>
 V prog (buildSlice 23 1 #[(0, t29)]) w fun t32 w =>
 R t32 w) (
 V prog (do eqGuard .eql 3 (.tmp 14) (.const (i64 5)) t14 (i64 5); binOp .eql 3 t14 (i64 5)) w13 fun t34 w21 =>
 ifD t34 (
 drawD w21 fun S12 w =>
 yieldS prog S12 (indexAt 23 t3 (i64 0)) fun t36 =>
 yieldS prog S12 (loadAt 3 t36) fun t37 =>
 yieldS prog S12 (indexAt 23 t3 (i64 0)) fun t39 =>
 yieldS prog S12 (loadAt 3 t39) fun t40 =>
 V prog (buildSlice 23 2 #[(0, t37), (1, t40)]) w fun t41 w =>
 S12 w ∧
 R t41 w) (
 ∃ J2 : NP 1,
 (V prog (do eqGuard .eql 3 (.tmp 14) (.const (i64 6)) t14 (i64 6); binOp .eql 3 t14 (i64 6)) w21 fun t43 w =>
 ifD t43 (
 J2 t43 w) (
 V prog (do eqGuard .eql 3 (.tmp 14) (.const (i64 7)) t14 (i64 7); binOp .eql 3 t14 (i64 7)) w fun t44 w =>
 ifD t44 (
 J2 t44 w) (
 V prog (do eqGuard .eql 3 (.tmp 14) (.const (i64 8)) t14 (i64 8); binOp .eql 3 t14 (i64 8)) w fun t45 w =>
 ifD t45 (
 J2 t45 w) (
 V prog (do eqGuard .eql 3 (.tmp 14) (.const (i64 9)) t14 (i64 9); binOp .eql 3 t14 (i64 9)) w fun t46 w =>
 ifD t46 (
 J2 t46 w) (
 V prog (do eqGuard .eql 3 (.tmp 14) (.const (i64 10)) t14 (i64 10); binOp .eql 3 t14 (i64 10)) w fun t47 w =>
 ifD t47 (
 J2 t47 w) (
 V prog (do eqGuard .eql 3 (.tmp 14) (.const (i64 11)) t14 (i64 11); binOp .eql 3 t14 (i64 11)) w fun t48 w =>
 ifD t48 (
 J2 t48 w) (
 V prog (do eqGuard .eql 3 (.tmp 14) (.const (i64 12)) t14 (i64 12); binOp .eql 3 t14 (i64 12)) w fun t49 w =>
 ifD t49 (
 J2 t49 w) (
 V prog (do eqGuard .eql 3 (.tmp 14) (.const (i64 13)) t14 (i64 13); binOp .eql 3 t14 (i64 13)) w fun t50 w =>
 ifD t50 (
 J2 t50 w) (
 V prog (do eqGuard .eql 3 (.tmp 14) (.const (i64 14)) t14 (i64 14); binOp .eql 3 t14 (i64 14)) w fun t51 w =>
 ifD t51 (
 J2 t51 w) (
 V prog (do eqGuard .eql 3 (.tmp 14) (.const (i64 19)) t14 (i64 19); binOp .eql 3 t14 (i64 19)) w fun t52 w =>
 ifD t52 (
 J2 t52 w) (
 V prog (do eqGuard .eql 3 (.tmp 14) (.const (i64 20)) t14 (i64 20); binOp .eql 3 t14 (i64 20)) w fun t53 w =>
 ifD t53 (
 J2 t53 w) (
 V prog (do eqGuard .eql 3 (.tmp 14) (.const (i64 21)) t14 (i64 21); binOp .eql 3 t14 (i64 21)) w fun t54 w =>
 J2 t54 w)))))))))))) ∧
 ∀ (t42 : Value), ∀ w36 : World, J2 t42 w36 → ∀ _f : Env,
 ifD t42 (
 drawD w36 fun S25 w =>
 yieldS prog S25 (indexAt 23 t3 (i64 0)) fun t56 =>
 yieldS prog S25 (loadAt 3 t56) fun t57 =>
 yieldS prog S25 (indexAt 23 t3 (i64 1)) fun t59 =>
 yieldS prog S25 (loadAt 3 t59) fun t60 =>
 callD prog 117 #[t57, t60] w fun t61 w =>
 S25 w ∧
 V prog (buildSlice 23 1 #[(0, t61)]) w fun t62 w =>
 S25 w ∧
 R t62 w) (
 ∃ J3 : NP 1,
 (V prog (do eqGuard .eql 3 (.tmp 14) (.const (i64 15)) t14 (i64 15); binOp .eql 3 t14 (i64 15)) w36 fun t64 w =>
 ifD t64 (
 J3 t64 w) (
 V prog (do eqGuard .eql 3 (.tmp 14) (.const (i64 16)) t14 (i64 16); binOp .eql 3 t14 (i64 16)) w fun t65 w =>
 J3 t65 w)) ∧
 ∀ (t63 : Value), ∀ w42 : World, J3 t63 w42 → ∀ _f : Env,
 ifD t63 (
 V prog (indexAt 23 t3 (i64 0)) w42 fun t67 w =>
 V prog (loadAt 3 t67) w fun t68 w =>
 V prog (buildSlice 23 1 #[(0, t68)]) w fun t69 w =>
 R t69 w) (
 V prog (do eqGuard .eql 3 (.tmp 14) (.const (i64 22)) t14 (i64 22); binOp .eql 3 t14 (i64 22)) w42 fun t71 w46 =>
 ifD t71 (
 V prog (indexAt 23 t3 (i64 1)) w46 fun t73 w =>
 V prog (loadAt 3 t73) w fun t74 w =>
 callD prog 95 #[t74] w fun t75 w49 =>
 ifD t75 (
 V prog (indexAt 23 t3 (i64 1)) w49 fun t77 w =>
 V prog (loadAt 3 t77) w fun t78 w =>
 V prog (buildSlice 23 1 #[(0, t78)]) w fun t79 w =>
 R t79 w) (
 drawD w49 fun S32 w =>
 yieldS prog S32 (indexAt 23 t3 (i64 0)) fun t81 =>
 yieldS prog S32 (loadAt 3 t81) fun t82 =>
 yieldS prog S32 (indexAt 23 t3 (i64 1)) fun t84 =>
 yieldS prog S32 (loadAt 3 t84) fun t85 =>
 yieldS prog S32 (indexAt 23 t3 (i64 2)) fun t87 =>
 yieldS prog S32 (loadAt 3 t87) fun t88 =>
 callD prog 117 #[t85, t88] w fun t89 w =>
 S32 w ∧
 callD prog 117 #[t82, t89] w fun t90 w =>
 S32 w ∧
 V prog (buildSlice 23 1 #[(0, t90)]) w fun t91 w =>
 S32 w ∧
 R t91 w)) (
 ∃ J4 : NP 1,
 (V prog (do eqGuard .eql 3 (.tmp 14) (.const (i64 25)) t14 (i64 25); binOp .eql 3 t14 (i64 25)) w46 fun t93 w =>
 ifD t93 (
 J4 t93 w) (
 V prog (do eqGuard .eql 3 (.tmp 14) (.const (i64 27)) t14 (i64 27); binOp .eql 3 t14 (i64 27)) w fun t94 w =>
 J4 t94 w)) ∧
 ∀ (t92 : Value), ∀ w59 : World, J4 t92 w59 → ∀ _f : Env,
 ifD t92 (
 V prog (fieldAt 71 t6 1) w59 fun t95 w =>
 V prog (loadAt 3 t95) w fun t96 w =>
 V prog (buildSlice 23 1 #[(0, t96)]) w fun t97 w =>
 R t97 w) (
 V prog (do eqGuard .eql 3 (.tmp 14) (.const (i64 29)) t14 (i64 29); binOp .eql 3 t14 (i64 29)) w59 fun t99 w63 =>
 ifD t99 (
 V prog (indexAt 23 t3 (i64 0)) w63 fun t101 w =>
 V prog (loadAt 3 t101) w fun t102 w =>
 callD prog 118 #[t102] w fun t103 w =>
 V prog (buildSlice 23 1 #[(0, t103)]) w fun t104 w =>
 R t104 w) (
 V prog (do eqGuard .eql 3 (.tmp 14) (.const (i64 32)) t14 (i64 32); binOp .eql 3 t14 (i64 32)) w63 fun t106 w68 =>
 ifD t106 (
 V prog (indexAt 23 t3 (i64 0)) w68 fun t108 w =>
 V prog (loadAt 3 t108) w fun t109 w =>
 V prog (do eqGuard .eql 3 (.tmp 109) (.const (i64 4)) t109 (i64 4); binOp .eql 3 t109 (i64 4)) w fun t110 w =>
 gd t110 false (fun K => K t3 w) w fun t112 w =>
 gd t110 false (fun K => V prog (indexAt 23 t112 (i64 2)) w K) w fun t113 w =>
 gd t110 false (fun K => V prog (loadAt 3 t113) w K) w fun t114 w =>
 gd t110 false (fun K => V prog (do eqGuard .eql 3 (.tmp 114) (.const (i64 4)) t114 (i64 4); binOp .eql 3 t114 (i64 4)) w K) w fun t115 w75 =>
 pickD t110 (.bool true) t115 fun t116 =>
 ifD t116 (
 V prog (buildSlice 23 1 #[(0, (i64 2))]) w75 fun t117 w =>
 R t117 w) (
 V prog (buildSlice 23 1 #[(0, (i64 1))]) w75 fun t118 w =>
 R t118 w)) (
 V prog (do eqGuard .eql 3 (.tmp 14) (.const (i64 33)) t14 (i64 33); binOp .eql 3 t14 (i64 33)) w68 fun t120 w79 =>
 ifD t120 (
 V prog (fieldAt 27 t4 1) w79 fun t121 w =>
 V prog (loadAt 23 t121) w fun t122 w =>
 V prog (fieldAt 71 t6 1) w fun t123 w =>
 V prog (loadAt 3 t123) w fun t124 w =>
 V prog (indexAt 23 t122 t124) w fun t125 w =>
 V prog (loadAt 3 t125) w fun t126 w =>
 V prog (buildSlice 23 1 #[(0, t126)]) w fun t127 w =>
 R t127 w) (
 V prog (do eqGuard .eql 3 (.tmp 14) (.const (i64 35)) t14 (i64 35); binOp .eql 3 t14 (i64 35)) w79 fun t129 w87 =>
 ifD t129 (
 V prog (fieldAt 71 t6 1) w87 fun t130 w =>
 V prog (loadAt 3 t130) w fun t131 w =>
 V prog (binOp .add 3 (i64 3) t131) w fun t132 w =>
 V prog (binOp .sub 3 t132 (i64 1)) w fun t133 w =>
 V prog (buildSlice 23 1 #[(0, t133)]) w fun t134 w =>
 R t134 w) (
 V prog (do eqGuard .eql 3 (.tmp 14) (.const (i64 37)) t14 (i64 37); binOp .eql 3 t14 (i64 37)) w87 fun t136 w93 =>
 ifD t136 (
 V prog (fieldAt 27 t4 3) w93 fun t137 w =>
 V prog (loadAt 25 t137) w fun t138 w =>
 V prog (fieldAt 71 t6 1) w fun t139 w =>
 V prog (loadAt 3 t139) w fun t140 w =>
 V prog (indexAt 25 t138 t140) w fun t141 w =>
 V prog (fieldAt 47 t141 1) w fun t142 w =>
 V prog (loadAt 3 t142) w fun t143 w =>
 V prog (do eqGuard .neq 3 (.tmp 144) (.const (i64 0)) t143 (i64 0); binOp .neq 3 t143 (i64 0)) w fun t145 w101 =>
 ifD t145 (
 V prog (buildSlice 23 1 #[(0, t143)]) w101 fun t147 w =>
 R t147 w) (
 R nilS w101)) (
 V prog (do eqGuard .eql 3 (.tmp 14) (.const (i64 38)) t14 (i64 38); binOp .eql 3 t14 (i64 38)) w93 fun t149 w103 =>
 ifD t149 (
 V prog (fieldAt 27 t4 2) w103 fun t150 w =>
 V prog (loadAt 24 t150) w fun t151 w =>
 V prog (fieldAt 71 t6 1) w fun t152 w =>
 V prog (loadAt 3 t152) w fun t153 w =>
 V prog (indexAt 24 t151 t153) w fun t154 w =>
 V prog (fieldAt 74 t154 3) w fun t155 w =>
 V prog (loadAt 3 t155) w fun t156 w =>
 V prog (do eqGuard .neq 3 (.tmp 157) (.const (i64 0)) t156 (i64 0); binOp .neq 3 t156 (i64 0)) w fun t158 w111 =>
 ifD t158 (
 V prog (buildSlice 23 1 #[(0, t156)]) w111 fun t160 w =>
 R t160 w) (
 R nilS w111)) (
 R nilS w103)))))))))))))
theorem F100_wp {t0 : Value} {t1 : Value} {t2 : Value} {t3 : Value} {w : World} {R : Value → World → Prop} (h : F100_den t0 t1 t2 t3 w R) : callD prog 100 #[t0, t1, t2, t3] w R :=
  den_wp mixed F100_ann func100 (by kernel_rfl) (by kernel_rfl) h

def F101_ann : Ann := (q (.seq (.block (q (.cond (q .leaf) (q (.cond (q .leaf) .leaf))))) (q .leaf)))
def F101_den (t0 : Value) (t1 : Value) (w : World) (R : Value → World → Prop) : Prop :=
 V prog (do eqGuard .eql 3 (.tmp 7) (.tmp 8) t0 t1; binOp .eql 3 t0 t1) w fun t9 w =>
 gd t9 true (fun K => K t0 w) w fun t11 w =>
 gd t9 true (fun K => callD prog 96 #[t11] w K) w fun t12 w =>
 gd t9 true (fun K => K t12 w) w fun t13 w =>
 gd t13 false (fun K => K t0 w) w fun t14 w =>
 gd t13 false (fun K => callD prog 95 #[t14] w K) w fun t15 w =>
 gd t9 true (fun K => pickD t13 (.bool true) t15 fun v => K v w) w fun t16 w =>
 pickD t9 t16 (.bool false) fun t17 =>
 ifD t17 (
 R (.tuple #[t0, (.bool true)]) w) (
 callD prog 96 #[t0] w fun t21 w =>
 gd t21 true (fun K => K t1 w) w fun t23 w =>
 gd t21 true (fun K => callD prog 96 #[t23] w K) w fun t24 w =>
 pickD t21 t24 (.bool false) fun t25 =>
 ifD t25 (
 R (.tuple #[(i64 2), (.bool true)]) w) (
 R (.tuple #[(i64 0), (.bool false)]) w))
theorem F101_wp {t0 : Value} {t1 : Value} {w : World} {R : Value → World → Prop} (h : F101_den t0 t1 w R) : callD prog 101 #[t0, t1] w R :=
  den_wp mixed F101_ann func101 (by kernel_rfl) (by kernel_rfl) h

def F102_ann : Ann := (q (.seq (q (.cond (q .leaf) .leaf)) (.seq (q (.block (.loop [3, 4, 5, 6, 14, 15, 16, 17, 18, 19, 20, 21, 22, 23, 24, 25, 26, 27, 28, 29, 30] [14] (q (.seq (.cond .leaf .leaf) (.seq (.block (q (q (q (.cond (q .leaf) .leaf))))) .leaf)))))) (q .leaf))))
def F102_den (t0 : Value) (w : World) (R : Value → World → Prop) : Prop :=
 V prog (box 27 t0) w fun t1 w =>
 V prog (alloc 32 true (.tuple #[])) w fun t2 w =>
 V prog (loadAt 27 t1) w fun t7 w =>
 callD prog 119 #[t7] w fun t8 w =>
 V prog (Op.unary UnOp.not t8) w fun t9 w5 =>
 ifD t9 (
 V prog (build 32 #[]) w5 fun t10 w =>
 U prog (storeAt 32 t2 t10) w fun _ w =>
 ∃ r1, (loadVar 32 (match t2 with | .pointer (some p) => p | _ => ⟨0, 0, none⟩)).run prog w = .ok r1 w ∧ (∃ p, t2 = Value.pointer (some p)) ∧ R (.tuple #[r1, (i64 1)]) w) (
 V prog (fieldAt 27 t1 3) w5 fun t11 w =>
 V prog (loadAt 25 t11) w fun t12 w =>
 V prog (Builtin.len_ #[25] 3 #[t12]) w fun t13 w =>
 ∃ (I1 : NP 1) (μ1 : NF 1), I1 (i64 0) w ∧
 ∀ (t14 : Value), ∀ w11 : World, I1 t14 w11 → ∀ _f : Env,
 V prog (binOp .lss 3 t14 t13) w11 fun t15 w12 =>
 ifD t15 (
 V prog (loadAt 27 t1) w12 fun t18 w =>
 callD prog 103 #[t18, t14] w fun t20 w =>
 callD prog 104 #[t20] w fun t21 w =>
 V prog (extract t21 0) w fun t22 w =>
 V prog (extract t21 1) w fun t23 w =>
 V prog (do eqGuard .neq 33 (.tmp 24) (.const (i64 0)) t23 (i64 0); binOp .neq 33 t23 (i64 0)) w fun t25 w18 =>
 ifD t25 (
 V prog (build 32 #[(0, t14), (1, t22)]) w18 fun t28 w =>
 U prog (storeAt 32 t2 t28) w fun _ w =>
 ∃ r1, (loadVar 32 (match t2 with | .pointer (some p) => p | _ => ⟨0, 0, none⟩)).run prog w = .ok r1 w ∧ (∃ p, t2 = Value.pointer (some p)) ∧ R (.tuple #[r1, t23]) w) (
 V prog (binOp .add 3 t14 (i64 1)) w18 fun t30 w =>
 I1 t30 w ∧ μ1 t30 w < μ1 t14 w11)) (
 V prog (build 32 #[]) w12 fun t31 w =>
 U prog (storeAt 32 t2 t31) w fun _ w =>
 ∃ r1, (loadVar 32 (match t2 with | .pointer (some p) => p | _ => ⟨0, 0, none⟩)).run prog w = .ok r1 w ∧ (∃ p, t2 = Value.pointer (some p)) ∧ R (.tuple #[r1, (i64 0)]) w))
theorem F102_wp {t0 : Value} {w : World} {R : Value → World → Prop} (h : F102_den t0 w R) : callD prog 102 #[t0] w R :=
  den_wp mixed F102_ann func102 (by kernel_rfl) (by kernel_rfl) h

def F103_ann : Ann := (q (q (q (.seq (.draw [0, 0, 0, 4, 0, 16, 40, 64, 0, 256, 0, 1024, 0, 4096, 10883, 16384, 65535] [0, 0, 0, 4, 0, 16, 40, 64, 0, 256, 0, 1024, 0, 4096, 10883, 16384, 32768] 0 17 131071 (.take 0 (.take 1 (.take 2 (.take 3 (.take 4 (.take 5 (.take 8 (.take 10 (.take 12 (.par [(6, []), (7, [6]), (9, []), (11, []), (13, []), (14, [7, 9, 11, 13]), (15, [14])] (.take 16 .done)))))))))))) .leaf))))
def F103_den (t0 : Value) (t1 : Value) (w : World) (R : Value → World → Prop) : Prop :=
 V prog (box 27 t0) w fun t2 w =>
 V prog (fieldAt 27 t2 3) w fun t7 w =>
 V prog (loadAt 25 t7) w fun t8 w =>
 V prog (indexAt 25 t8 t1) w fun t10 w =>
 V prog (loadAt 47 t10) w fun t11 w =>
 V prog (alloc 47 true (.tuple #[])) w fun t5 w =>
 U prog (storeAt 47 t5 t11) w fun _ w =>
 V prog (fieldAt 47 t5 3) w fun t12 w =>
 V prog (loadAt 45 t12) w fun t13 w =>
 V prog (Builtin.len_ #[45] 3 #[t13]) w fun t14 w =>
 drawD w fun S3 w11 =>
 yieldS prog S3 (loadAt 27 t2) fun t15 =>
 yieldS prog S3 (loadAt 47 t5) fun t16 =>
 yieldS prog S3 (fieldAt 47 t5 0) fun t17 =>
 yieldS prog S3 (loadAt 23 t17) fun t18 =>
 yieldS prog S3 (fieldAt 47 t5 2) fun t19 =>
 yieldS prog S3 (loadAt 23 t19) fun t20 =>
 ∃ (Q1 : Nat → Value → World → Prop) (l1 : Nat → Value → Option Nat), parS Q1 S3 w11 ∧
 (∀ w12 : World, gB w11 w12 none → parA l1 [] → ∀ _f : Env,
 V prog (buildSlice 77 2 #[(0, t18), (1, t20)]) w12 fun t21 w =>
 gB w12 w none ∧ Q1 6 t21 w ∧ parN l1 6 t21 w12 w) ∧
 (∀ (t21_1 : Value), ∀ w14 : World, gB w11 w14 none → Q1 6 t21_1 w14 → parA l1 [(6, t21_1)] → ∀ _f : Env,
 callD prog 120 #[t21_1] w14 fun t22 w =>
 gB w14 w none ∧ Q1 7 t22 w ∧ parN l1 7 t22 w14 w) ∧
 (∀ w16 : World, gB w11 w16 none → parA l1 [] → ∀ _f : Env,
 V prog (makeSlice 77 t14 t14) w16 fun t24 w =>
 gB w16 w none ∧ Q1 9 t24 w ∧ parN l1 9 t24 w16 w) ∧
 (∀ w18 : World, gB w11 w18 none → parA l1 [] → ∀ _f : Env,
 V prog (makeSlice 78 t14 t14) w18 fun t26 w =>
 gB w18 w none ∧ Q1 11 t26 w ∧ parN l1 11 t26 w18 w) ∧
 (∀ w20 : World, gB w11 w20 none → parA l1 [] → ∀ _f : Env,
 V prog (makeSlice 78 t14 t14) w20 fun t28 w =>
 gB w20 w none ∧ Q1 13 t28 w ∧ parN l1 13 t28 w20 w) ∧
 (∀ (t22_1 : Value) (t24_1 : Value) (t26_1 : Value) (t28_1 : Value), ∀ w22 : World, gB w11 w22 none → Q1 7 t22_1 w22 → Q1 9 t24_1 w22 → Q1 11 t26_1 w22 → Q1 13 t28_1 w22 → parA l1 [(7, t22_1), (9, t24_1), (11, t26_1), (13, t28_1)] → ∀ _f : Env,
 V prog (build 137 #[(0, t15), (1, t16), (2, t22_1), (3, t24_1), (4, t26_1), (5, t28_1)]) w22 fun t29 w =>
 gB w22 w none ∧ Q1 14 t29 w ∧ parN l1 14 t29 w22 w) ∧
 (∀ (t29_1 : Value), ∀ w24 : World, gB w11 w24 none → Q1 14 t29_1 w24 → parA l1 [(14, t29_1)] → ∀ _f : Env,
 V prog (box 137 t29_1) w24 fun t30 w =>
 gB w24 w none ∧ Q1 15 t30 w ∧ parN l1 15 t30 w24 w) ∧
 (∀ (t21_2 : Value) (t22_2 : Value) (t24_2 : Value) (t26_2 : Value) (t28_2 : Value) (t29_2 : Value) (t30_1 : Value), ∀ w : World, gB w11 w none → Q1 6 t21_2 w → Q1 7 t22_2 w → Q1 9 t24_2 w → Q1 11 t26_2 w → Q1 13 t28_2 w → Q1 14 t29_2 w → Q1 15 t30_1 w → parA l1 [(6, t21_2), (7, t22_2), (9, t24_2), (11, t26_2), (13, t28_2), (14, t29_2), (15, t30_1)] → ∀ _f : Env,
 R t30_1 w)
theorem F103_wp {t0 : Value} {t1 : Value} {w : World} {R : Value → World → Prop} (h : F103_den t0 t1 w R) : callD prog 103 #[t0, t1] w R :=
  den_wp mixed F103_ann func103 (by kernel_rfl) (by kernel_rfl) h

def F104_ann : Ann := (q (.seq (q (.block (.loop [2, 3, 4, 5, 18, 19, 20, 21, 22, 23, 24, 25, 26, 27, 28] [18] (q (.seq (.cond .leaf .leaf) (.seq (.block (q (q (.cond (q .leaf) .leaf)))) .leaf)))))) (q (.block (.loop [2, 3, 6, 7, 8, 9, 11, 31, 32, 33, 34, 35, 36, 37, 38, 39, 40, 41, 42, 43, 44, 45, 46, 47, 48, 49, 50, 51, 52, 53, 54, 55, 56, 57, 58, 59, 60, 61, 62, 63, 64, 65, 66, 67, 68, 69, 70, 71, 72, 73, 74, 75, 76, 77, 78, 79, 80, 81, 82, 83] [] (.block (q (.seq (q (.cond (q .leaf) .leaf)) (q (q (.seq (.draw [0, 0, 0, 4, 8, 16, 0, 96, 128, 259, 512, 1024, 1024, 4095, 16383] [0, 0, 0, 4, 8, 16, 0, 96, 128, 259, 512, 1024, 1024, 2048, 4096] 0 15 32767 (.take 0 (.take 1 (.take 2 (.take 3 (.take 4 (.take 5 (.take 6 (.take 7 (.take 8 (.only 9 (.take 10 (.take 11 (.take 12 (.take 13 (.take 14 .done)))))))))))))))) (.seq (q (.block (.loop [9, 11, 69, 70, 71, 72, 73, 74, 75, 76, 77, 78, 79] [9, 69] (q (.seq (.cond .leaf .leaf) (.seq (.block (q (q (.cond .leaf .leaf)))) .leaf)))))) (q (.cond (q .leaf) .leaf))))))))))))))
def F104_den (t0 : Value) (w : World) (R : Value → World → Prop) : Prop :=
 Go.Vc.Safe (t0) ∧
 V prog (fieldAt 137 t0 1) w fun t14 w =>
 V prog (fieldAt 47 t14 3) w fun t15 w =>
 V prog (loadAt 45 t15) w fun t16 w =>
 V prog (Builtin.len_ #[45] 3 #[t16]) w fun t17 w =>
 ∃ (I1 : NP 1) (μ1 : NF 1), I1 (i64 0) w ∧
 ∀ (t18 : Value), ∀ w6 : World, I1 t18 w6 → ∀ _f : Env,
 V prog (binOp .lss 3 t18 t17) w6 fun t19 w7 =>
 ifD t19 (
 V prog (indexAt 45 t16 t18) w7 fun t21 w =>
 V prog (loadAt 71 t21) w fun t22 w =>
 V prog (alloc 71 true (.tuple #[])) w fun t5 w =>
 U prog (storeAt 71 t5 t22) w fun _ w =>
 V prog (loadAt 71 t5) w fun t24 w =>
 callD prog 121 #[t0, t24] w fun t25 w =>
 V prog (Op.unary UnOp.not t25) w fun t26 w =>
 ifD t26 (
 R (.tuple #[t18, (i64 9)]) w) (
 V prog (binOp .add 3 t18 (i64 1)) w fun t28 w =>
 I1 t28 w ∧ μ1 t28 w < μ1 t18 w6)) (
 callD prog 122 #[t0, (i64 0), nilS] w7 fun _ w =>
 ∃ (I2 : NP 0) (μ2 : NF 0), I2 w ∧
 ∀ w17 : World, I2 w17 → ∀ _f : Env,
 Go.Vc.Safe (t0) ∧
 V prog (fieldAt 137 t0 5) w17 fun t33 w =>
 V prog (loadAt 78 t33) w fun t34 w =>
 callD prog 123 #[t34, (.bool true)] w fun t35 w =>
 V prog (binOp .lss 3 t35 (i64 0)) w fun t37 w =>
 ifD t37 (
 R (.tuple #[(i64 0), (i64 0)]) w) (
 Go.Vc.Safe (t0) ∧
 V prog (fieldAt 137 t0 5) w fun t40 w =>
 V prog (loadAt 78 t40) w fun t41 w =>
 V prog (indexAt 78 t41 t35) w fun t43 w =>
 U prog (storeAt 4 t43 (.bool false)) w fun _ w =>
 Go.Vc.Safe (t0) ∧
 V prog (fieldAt 137 t0 1) w fun t46 w =>
 V prog (fieldAt 47 t46 3) w fun t47 w =>
 V prog (loadAt 45 t47) w fun t48 w =>
 V prog (indexAt 45 t48 t35) w fun t50 w =>
 V prog (loadAt 71 t50) w fun t51 w =>
 V prog (alloc 71 true (.tuple #[])) w fun t7 w =>
 U prog (storeAt 71 t7 t51) w fun _ w =>
 drawD w fun S13 w =>
 yieldS prog S13 (loadAt 71 t7) fun t54 =>
 Go.Vc.Safe (t0) ∧
 yieldS prog S13 (fieldAt 137 t0 3) fun t57 =>
 yieldS prog S13 (loadAt 77 t57) fun t58 =>
 yieldS prog S13 (indexAt 77 t58 t35) fun t60 =>
 yieldS prog S13 (loadAt 23 t60) fun t61 =>
 callD prog 124 #[t0, t54, t61] w fun t62 w =>
 S13 w ∧
 yieldS prog S13 (extract t62 0) fun t63 =>
 yieldS prog S13 (extract t62 1) fun t64 =>
 V prog (loadAt 71 t7) w fun t65 w =>
 callD prog 125 #[t65, t35] w fun t67 w =>
 V prog (Builtin.len_ #[23] 3 #[t67]) w fun t68 w =>
 ∃ (I3 : NP 2) (μ3 : NF 2), I3 t64 (i64 0) w ∧
 ∀ (t9 : Value) (t69 : Value), ∀ w41 : World, I3 t9 t69 w41 → ∀ _f : Env,
 V prog (binOp .lss 3 t69 t68) w41 fun t70 w42 =>
 ifD t70 (
 V prog (indexAt 23 t67 t69) w42 fun t71 w =>
 V prog (loadAt 3 t71) w fun t72 w =>
 V prog (do eqGuard .eql 33 (.tmp 73) (.const (i64 0)) t9 (i64 0); binOp .eql 33 t9 (i64 0)) w fun t74 w45 =>
 ifD t74 (
 callD prog 122 #[t0, t72, t63] w45 fun t78 w =>
 V prog (binOp .add 3 t69 (i64 1)) w fun t79 w =>
 I3 t78 t79 w ∧ μ3 t78 t79 w < μ3 t9 t69 w41) (
 V prog (binOp .add 3 t69 (i64 1)) w45 fun t79_1 w =>
 I3 t9 t79_1 w ∧ μ3 t9 t79_1 w < μ3 t9 t69 w41)) (
 V prog (do eqGuard .neq 33 (.tmp 80) (.const (i64 0)) t9 (i64 0); binOp .neq 33 t9 (i64 0)) w42 fun t81 w =>
 ifD t81 (
 R (.tuple #[t35, t9]) w) (
 I2 w ∧ μ2 w < μ2 w17))))
theorem F104_wp {t0 : Value} {w : World} {R : Value → World → Prop} (h : F104_den t0 w R) : callD prog 104 #[t0] w R :=
  den_wp mixed F104_ann func104 (by kernel_rfl) (by kernel_rfl) h

def F105_ann : Ann := (q (.seq (q (.block (.join [5, 6, 7] [5] (q (.cond .leaf .leaf)) (.cond (q .leaf) (.join [8, 9, 10, 11] [8] (q (.cond .leaf (q (.cond .leaf .leaf)))) (.cond (q .leaf) (.join [12, 13, 14] [12] (q (.cond .leaf .leaf)) (.cond (q .leaf) (q (.cond (q .leaf) (q (.cond (q .leaf) .leaf)))))))))))) (q .leaf)))
def F105_den (t0 : Value) (w : World) (R : Value → World → Prop) : Prop :=
 ∃ J1 : NP 1,
 (V prog (do eqGuard .eql 3 (.tmp 4) (.const (i64 27)) t0 (i64 27); binOp .eql 3 t0 (i64 27)) w fun t6 w =>
 ifD t6 (
 J1 t6 w) (
 V prog (do eqGuard .eql 3 (.tmp 4) (.const (i64 28)) t0 (i64 28); binOp .eql 3 t0 (i64 28)) w fun t7 w =>
 J1 t7 w)) ∧
 ∀ (t5 : Value), ∀ w : World, J1 t5 w → ∀ _f : Env,
 ifD t5 (
 R (.tuple #[(i64 1), (.bool true)]) w) (
 ∃ J2 : NP 1,
 (V prog (do eqGuard .eql 3 (.tmp 4) (.const (i64 17)) t0 (i64 17); binOp .eql 3 t0 (i64 17)) w fun t9 w =>
 ifD t9 (
 J2 t9 w) (
 V prog (do eqGuard .eql 3 (.tmp 4) (.const (i64 18)) t0 (i64 18); binOp .eql 3 t0 (i64 18)) w fun t10 w =>
 ifD t10 (
 J2 t10 w) (
 V prog (do eqGuard .eql 3 (.tmp 4) (.const (i64 29)) t0 (i64 29); binOp .eql 3 t0 (i64 29)) w fun t11 w =>
 J2 t11 w))) ∧
 ∀ (t8 : Value), ∀ w : World, J2 t8 w → ∀ _f : Env,
 ifD t8 (
 R (.tuple #[(i64 2), (.bool true)]) w) (
 ∃ J3 : NP 1,
 (V prog (do eqGuard .eql 3 (.tmp 4) (.const (i64 30)) t0 (i64 30); binOp .eql 3 t0 (i64 30)) w fun t13 w =>
 ifD t13 (
 J3 t13 w) (
 V prog (do eqGuard .eql 3 (.tmp 4) (.const (i64 36)) t0 (i64 36); binOp .eql 3 t0 (i64 36)) w fun t14 w =>
 J3 t14 w)) ∧
 ∀ (t12 : Value), ∀ w : World, J3 t12 w → ∀ _f : Env,
 ifD t12 (
 R (.tuple #[(i64 3), (.bool false)]) w) (
 V prog (do eqGuard .eql 3 (.tmp 4) (.const (i64 31)) t0 (i64 31); binOp .eql 3 t0 (i64 31)) w fun t16 w =>
 ifD t16 (
 R (.tuple #[(i64 5), (.bool false)]) w) (
 V prog (do eqGuard .eql 3 (.tmp 4) (.const (i64 32)) t0 (i64 32); binOp .eql 3 t0 (i64 32)) w fun t18 w =>
 ifD t18 (
 R (.tuple #[(i64 5), (.bool true)]) w) (
 R (.tuple #[(i64 0), (.bool false)]) w)))))
theorem F105_wp {t0 : Value} {w : World} {R : Value → World → Prop} (h : F105_den t0 w R) : callD prog 105 #[t0] w R :=
  den_wp mixed F105_ann func105 (by kernel_rfl) (by kernel_rfl) h

def F106_ann : Ann := (q (q .leaf))
def F106_den (t0 : Value) (w : World) (R : Value → World → Prop) : Prop :=
 V prog (binOp .geq 3 t0 (i64 6)) w fun t4 w =>
 gd t4 true (fun K => K t0 w) w fun t6 w =>
 gd t4 true (fun K => V prog (binOp .leq 3 t6 (i64 14)) w K) w fun t7 w =>
 pickD t4 t7 (.bool false) fun t8 =>
 gd t8 false (fun K => K t0 w) w fun t10 w =>
 gd t8 false (fun K => V prog (binOp .geq 3 t10 (i64 19)) w K) w fun t11 w =>
 gd t8 false (fun K => K t11 w) w fun t12 w =>
 gd t12 true (fun K => K t0 w) w fun t13 w =>
 gd t12 true (fun K => V prog (binOp .leq 3 t13 (i64 21)) w K) w fun t14 w =>
 gd t8 false (fun K => pickD t12 t14 (.bool false) fun v => K v w) w fun t15 w =>
 pickD t8 (.bool true) t15 fun t16 =>
 R t16 w
theorem F106_wp {t0 : Value} {w : World} {R : Value → World → Prop} (h : F106_den t0 w R) : callD prog 106 #[t0] w R :=
  den_wp mixed F106_ann func106 (by kernel_rfl) (by kernel_rfl) h

def F107_ann : Ann := (q (q .leaf))
def F107_den (t0 : Value) (w : World) (R : Value → World → Prop) : Prop :=
 V prog (do eqGuard .eql 3 (.tmp 3) (.const (i64 15)) t0 (i64 15); binOp .eql 3 t0 (i64 15)) w fun t4 w =>
 gd t4 false (fun K => K t0 w) w fun t6 w =>
 gd t4 false (fun K => V prog (do eqGuard .eql 3 (.tmp 6) (.const (i64 16)) t6 (i64 16); binOp .eql 3 t6 (i64 16)) w K) w fun t7 w =>
 pickD t4 (.bool true) t7 fun t8 =>
 gd t8 false (fun K => K t0 w) w fun t10 w =>
 gd t8 false (fun K => V prog (do eqGuard .eql 3 (.tmp 10) (.const (i64 26)) t10 (i64 26); binOp .eql 3 t10 (i64 26)) w K) w fun t11 w =>
 pickD t8 (.bool true) t11 fun t12 =>
 R t12 w
theorem F107_wp {t0 : Value} {w : World} {R : Value → World → Prop} (h : F107_den t0 w R) : callD prog 107 #[t0] w R :=
  den_wp mixed F107_ann func107 (by kernel_rfl) (by kernel_rfl) h

def F108_ann : Ann := (q (.seq (q (.block (.join [4, 5, 6] [4] (q (.cond .leaf .leaf)) (.cond (q .leaf) (.join [7, 8, 9, 10] [7] (q (.cond .leaf (q (.cond .leaf .leaf)))) (.cond (q .leaf) (.join [11, 12, 13] [11] (q (.cond .leaf .leaf)) (.cond (q .leaf) (.seq (q (.cond .leaf .leaf)) (.cond (q .leaf) .leaf)))))))))) (q .leaf)))
def F108_den (t0 : Value) (w : World) (R : Value → World → Prop) : Prop :=
 ∃ J1 : NP 1,
 (V prog (do eqGuard .eql 3 (.tmp 3) (.const (i64 27)) t0 (i64 27); binOp .eql 3 t0 (i64 27)) w fun t5 w =>
 ifD t5 (
 J1 t5 w) (
 V prog (do eqGuard .eql 3 (.tmp 3) (.const (i64 28)) t0 (i64 28); binOp .eql 3 t0 (i64 28)) w fun t6 w =>
 J1 t6 w)) ∧
 ∀ (t4 : Value), ∀ w : World, J1 t4 w → ∀ _f : Env,
 ifD t4 (
 R (i64 1) w) (
 ∃ J2 : NP 1,
 (V prog (do eqGuard .eql 3 (.tmp 3) (.const (i64 17)) t0 (i64 17); binOp .eql 3 t0 (i64 17)) w fun t8 w =>
 ifD t8 (
 J2 t8 w) (
 V prog (do eqGuard .eql 3 (.tmp 3) (.const (i64 18)) t0 (i64 18); binOp .eql 3 t0 (i64 18)) w fun t9 w =>
 ifD t9 (
 J2 t9 w) (
 V prog (do eqGuard .eql 3 (.tmp 3) (.const (i64 29)) t0 (i64 29); binOp .eql 3 t0 (i64 29)) w fun t10 w =>
 J2 t10 w))) ∧
 ∀ (t7 : Value), ∀ w : World, J2 t7 w → ∀ _f : Env,
 ifD t7 (
 R (i64 2) w) (
 ∃ J3 : NP 1,
 (V prog (do eqGuard .eql 3 (.tmp 3) (.const (i64 30)) t0 (i64 30); binOp .eql 3 t0 (i64 30)) w fun t12 w =>
 ifD t12 (
 J3 t12 w) (
 V prog (do eqGuard .eql 3 (.tmp 3) (.const (i64 36)) t0 (i64 36); binOp .eql 3 t0 (i64 36)) w fun t13 w =>
 J3 t13 w)) ∧
 ∀ (t11 : Value), ∀ w : World, J3 t11 w → ∀ _f : Env,
 ifD t11 (
 R (i64 3) w) (
 V prog (do eqGuard .eql 3 (.tmp 3) (.const (i64 31)) t0 (i64 31); binOp .eql 3 t0 (i64 31)) w fun t15 w =>
 ifD t15 (
 ifD t15 (
 R (i64 5) w) (
 R (i64 (-1)) w)) (
 V prog (do eqGuard .eql 3 (.tmp 3) (.const (i64 32)) t0 (i64 32); binOp .eql 3 t0 (i64 32)) w fun t16 w =>
 ifD t16 (
 R (i64 5) w) (
 R (i64 (-1)) w)))))
theorem F108_wp {t0 : Value} {w : World} {R : Value → World → Prop} (h : F108_den t0 w R) : callD prog 108 #[t0] w R :=
  den_wp mixed F108_ann func108 (by kernel_rfl) (by kernel_rfl) h

def F109_ann : Ann := (q (.seq (q (.cond (q .leaf) .leaf)) (q .leaf)))
def F109_den (t0 : Value) (w : World) (R : Value → World → Prop) : Prop :=
 V prog (do eqGuard .eql 23 (.tmp 3) (.const nilS) t0 nilS; binOp .eql 23 t0 nilS) w fun t4 w =>
 ifD t4 (
 R nilS w) (
 V prog (buildSlice 23 0 #[]) w fun t5 w =>
 V prog (Builtin.append_ #[23, 23] 23 #[t5, t0]) w fun t7 w =>
 R t7 w)
theorem F109_wp {t0 : Value} {w : World} {R : Value → World → Prop} (h : F109_den t0 w R) : callD prog 109 #[t0] w R :=
  den_wp mixed F109_ann func109 (by kernel_rfl) (by kernel_rfl) h

def F112_ann : Ann := (q (.seq (q (.cond (q .leaf) .leaf)) (q (.seq (.draw [0, 1, 2, 4, 0, 16, 32, 64, 0, 256, 512, 1024, 2048, 4224, 8200, 16384, 0, 65536, 131072, 262144, 0, 1048576, 2097152, 4194304, 8388608, 17301504, 33587200, 134217727] [0, 1, 2, 4, 0, 16, 32, 64, 0, 256, 512, 1024, 2048, 4224, 8200, 16384, 0, 65536, 131072, 262144, 0, 1048576, 2097152, 4194304, 8388608, 17301504, 33587200, 67108864] 0 28 268435455 (.take 0 (.take 1 (.take 2 (.take 3 (.take 4 (.take 5 (.take 6 (.take 7 (.take 8 (.take 9 (.take 10 (.take 11 (.take 12 (.take 13 (.take 14 (.take 15 (.take 16 (.take 17 (.take 18 (.take 19 (.take 20 (.take 21 (.take 22 (.take 23 (.take 24 (.take 25 (.take 26 (.take 27 .done))))))))))))))))))))))))))))) .leaf))))
def F112_den (t0 : Value) (w : World) (R : Value → World → Prop) : Prop :=
 Go.Vc.Safe (t0) ∧
 V prog (fieldAt 118 t0 1) w fun t5 w =>
 V prog (loadAt 23 t5) w fun t6 w =>
 V prog (Builtin.len_ #[23] 3 #[t6]) w fun t7 w =>
 V prog (do eqGuard .eql 3 (.tmp 7) (.const (i64 0)) t7 (i64 0); binOp .eql 3 t7 (i64 0)) w fun t8 w =>
 ifD t8 (
 R (i64 0) w) (
 Go.Vc.Safe (t0) ∧
 V prog (fieldAt 118 t0 2) w fun t11 w =>
 V prog (loadAt 3 t11) w fun t12 w =>
 V prog (binOp .add 3 t12 (i64 1)) w fun t13 w =>
 Go.Vc.Safe (t0) ∧
 V prog (fieldAt 118 t0 2) w fun t15 w =>
 U prog (storeAt 3 t15 t13) w fun _ w =>
 drawD w fun S4 w =>
 Go.Vc.Safe (t0) ∧
 yieldS prog S4 (fieldAt 118 t0 1) fun t18 =>
 yieldS prog S4 (loadAt 23 t18) fun t19 =>
 Go.Vc.Safe (t0) ∧
 yieldS prog S4 (fieldAt 118 t0 2) fun t22 =>
 yieldS prog S4 (loadAt 3 t22) fun t23 =>
 Go.Vc.Safe (t0) ∧
 yieldS prog S4 (fieldAt 118 t0 1) fun t26 =>
 yieldS prog S4 (loadAt 23 t26) fun t27 =>
 yieldS prog S4 (Builtin.len_ #[23] 3 #[t27]) fun t28 =>
 yieldS prog S4 (binOp .rem 3 t23 t28) fun t29 =>
 yieldS prog S4 (indexAt 23 t19 t29) fun t30 =>
 yieldS prog S4 (loadAt 3 t30) fun t31 =>
 Go.Vc.Safe (t0) ∧
 yieldS prog S4 (fieldAt 118 t0 2) fun t34 =>
 yieldS prog S4 (loadAt 3 t34) fun t35 =>
 Go.Vc.Safe (t0) ∧
 yieldS prog S4 (fieldAt 118 t0 1) fun t38 =>
 yieldS prog S4 (loadAt 23 t38) fun t39 =>
 yieldS prog S4 (Builtin.len_ #[23] 3 #[t39]) fun t40 =>
 yieldS prog S4 (binOp .quo 3 t35 t40) fun t41 =>
 yieldS prog S4 (binOp .add 3 t31 t41) fun t42 =>
 R t42 w)
theorem F112_wp {t0 : Value} {w : World} {R : Value → World → Prop} (h : F112_den t0 w R) : callD prog 112 #[t0] w R :=
  den_wp mixed F112_ann func112 (by kernel_rfl) (by kernel_rfl) h

def F113_ann : Ann := (q (q (.seq (q (.block (.loop [6, 7, 8, 9, 10, 11, 12, 13, 14, 15, 16, 17, 18, 19, 20, 21, 22, 23, 24, 25, 26, 27, 28, 29] [6, 7] (.seq (q (.cond .leaf .leaf)) (.seq (.block (q (.cond .leaf .leaf))) .leaf))))) (.seq (q (.cond (q .leaf) .leaf)) (q .leaf)))))
def F113_den (t0 : Value) (t1 : Value) (w : World) (R : Value → World → Prop) : Prop :=
 ∃ (I1 : NP 2) (μ1 : NF 2), I1 nilS (i64 0) w ∧
 ∀ (t6 : Value) (t7 : Value), ∀ w1 : World, I1 t6 t7 w1 → ∀ _f : Env,
 Go.Vc.Safe (t0) ∧
 V prog (fieldAt 118 t0 3) w1 fun t11 w =>
 V prog (loadAt 23 t11) w fun t12 w =>
 V prog (Builtin.len_ #[23] 3 #[t12]) w fun t13 w =>
 V prog (binOp .lss 3 t7 t13) w fun t14 w6 =>
 ifD t14 (
 Go.Vc.Safe (t0) ∧
 V prog (fieldAt 118 t0 3) w6 fun t19 w =>
 V prog (loadAt 23 t19) w fun t20 w =>
 V prog (indexAt 23 t20 t7) w fun t22 w =>
 V prog (loadAt 3 t22) w fun t23 w =>
 V prog (do eqGuard .eql 3 (.tmp 23) (.tmp 24) t23 t1; binOp .eql 3 t23 t1) w fun t25 w12 =>
 ifD t25 (
 V prog (buildSlice 23 1 #[(0, t7)]) w12 fun t28 w =>
 V prog (Builtin.append_ #[23, 23] 23 #[t6, t28]) w fun t29 w =>
 V prog (binOp .add 3 t7 (i64 1)) w fun t16 w =>
 I1 t29 t16 w ∧ μ1 t29 t16 w < μ1 t6 t7 w1) (
 V prog (binOp .add 3 t7 (i64 1)) w12 fun t16_1 w =>
 I1 t6 t16_1 w ∧ μ1 t6 t16_1 w < μ1 t6 t7 w1)) (
 V prog (Builtin.len_ #[23] 3 #[t6]) w6 fun t31 w =>
 V prog (do eqGuard .eql 3 (.tmp 31) (.const (i64 0)) t31 (i64 0); binOp .eql 3 t31 (i64 0)) w fun t32 w =>
 ifD t32 (
 R (.tuple #[(i64 0), (.bool false)]) w) (
 callD prog 112 #[t0] w fun t35 w =>
 V prog (Builtin.len_ #[23] 3 #[t6]) w fun t37 w =>
 callD prog 10 #[t35, t37] w fun t38 w =>
 V prog (indexAt 23 t6 t38) w fun t39 w =>
 V prog (loadAt 3 t39) w fun t40 w =>
 R (.tuple #[t40, (.bool true)]) w))
theorem F113_wp {t0 : Value} {t1 : Value} {w : World} {R : Value → World → Prop} (h : F113_den t0 t1 w R) : callD prog 113 #[t0, t1] w R :=
  den_wp mixed F113_ann func113 (by kernel_rfl) (by kernel_rfl) h

def F115_ann : Ann := (q (q .leaf))
def F115_den (w : World) (R : Value → World → Prop) : Prop :=
 V prog (buildSlice 202 40 #[(0, (Value.string { data := #[] })), (1, (Value.string { data := #[112, 117, 115, 104] })), (2, (Value.string { data := #[108, 111, 97, 100] })), (3, (Value.string { data := #[115, 116, 111, 114, 101] })), (4, (Value.string { data := #[112, 111, 112] })), (5, (Value.string { data := #[100, 117, 112] })), (6, (Value.string { data := #[97, 100, 100] })), (7, (Value.string { data := #[115, 117, 98] })), (8, (Value.string { data := #[109, 117, 108] })), (9, (Value.string { data := #[97, 110, 100] })), (10, (Value.string { data := #[111, 114] })), (11, (Value.string { data := #[120, 111, 114] })), (12, (Value.string { data := #[115, 104, 108] })), (13, (Value.string { data := #[115, 104, 114] })), (14, (Value.string { data := #[115, 97, 114] })), (15, (Value.string { data := #[110, 101, 103] })), (16, (Value.string { data := #[110, 111, 116] })), (17, (Value.string { data := #[100, 105, 118] })), (18, (Value.string { data := #[114, 101, 109] })), (19, (Value.string { data := #[101, 113] })), (20, (Value.string { data := #[108, 116] })), (21, (Value.string { data := #[98, 101, 108, 111, 119] })), (22, (Value.string { data := #[112, 105, 99, 107] })), (23, (Value.string { data := #[106, 117, 109, 112] })), (24, (Value.string { data := #[106, 117, 109, 112, 105, 102] })), (25, (Value.string { data := #[110, 117, 108, 108] })), (26, (Value.string { data := #[105, 115, 110, 117, 108, 108] })), (27, (Value.string { data := #[110, 101, 119] })), (28, (Value.string { data := #[108, 101, 110] })), (29, (Value.string { data := #[103, 101, 116] })), (30, (Value.string { data := #[112, 117, 116] })), (31, (Value.string { data := #[99, 111, 112, 121] })), (32, (Value.string { data := #[115, 97, 109, 101] })), (33, (Value.string { data := #[103, 101, 116, 102] })), (34, (Value.string { data := #[112, 117, 116, 102] })), (35, (Value.string { data := #[98, 117, 102] })), (36, (Value.string { data := #[115, 101, 110, 100] })), (37, (Value.string { data := #[99, 97, 108, 108] })), (38, (Value.string { data := #[99, 97, 108, 108, 120] })), (39, (Value.string { data := #[114, 101, 116] }))]) w fun t1 w =>
 R t1 w
theorem F115_wp {w : World} {R : Value → World → Prop} (h : F115_den w R) : callD prog 115 #[] w R :=
  den_wp mixed F115_ann func115 (by kernel_rfl) (by kernel_rfl) h

def F116_ann : Ann := (q (q .leaf))
def F116_den (t0 : Value) (t1 : Value) (w : World) (R : Value → World → Prop) : Prop :=
 V prog (do eqGuard .eql 3 (.tmp 5) (.tmp 6) t0 t1; binOp .eql 3 t0 t1) w fun t7 w =>
 gd t7 true (fun K => K t0 w) w fun t9 w =>
 gd t7 true (fun K => callD prog 96 #[t9] w K) w fun t10 w =>
 gd t7 true (fun K => K t10 w) w fun t11 w =>
 gd t11 false (fun K => K t0 w) w fun t12 w =>
 gd t11 false (fun K => callD prog 95 #[t12] w K) w fun t13 w =>
 gd t7 true (fun K => pickD t11 (.bool true) t13 fun v => K v w) w fun t14 w =>
 pickD t7 t14 (.bool false) fun t15 =>
 gd t15 false (fun K => K t0 w) w fun t17 w =>
 gd t15 false (fun K => V prog (do eqGuard .eql 3 (.tmp 17) (.const (i64 1)) t17 (i64 1); binOp .eql 3 t17 (i64 1)) w K) w fun t18 w =>
 gd t15 false (fun K => K t18 w) w fun t19 w =>
 gd t19 true (fun K => K t1 w) w fun t20 w =>
 gd t19 true (fun K => V prog (do eqGuard .eql 3 (.tmp 20) (.const (i64 2)) t20 (i64 2); binOp .eql 3 t20 (i64 2)) w K) w fun t21 w =>
 gd t15 false (fun K => pickD t19 t21 (.bool false) fun v => K v w) w fun t22 w =>
 pickD t15 (.bool true) t22 fun t23 =>
 R t23 w
theorem F116_wp {t0 : Value} {t1 : Value} {w : World} {R : Value → World → Prop} (h : F116_den t0 t1 w R) : callD prog 116 #[t0, t1] w R :=
  den_wp mixed F116_ann func116 (by kernel_rfl) (by kernel_rfl) h

def F117_ann : Ann := (q (.seq (q (.cond (q .leaf) .leaf)) (q .leaf)))
def F117_den (t0 : Value) (t1 : Value) (w : World) (R : Value → World → Prop) : Prop :=
 V prog (do eqGuard .eql 3 (.tmp 5) (.const (i64 2)) t0 (i64 2); binOp .eql 3 t0 (i64 2)) w fun t6 w =>
 gd t6 false (fun K => K t1 w) w fun t8 w =>
 gd t6 false (fun K => V prog (do eqGuard .eql 3 (.tmp 8) (.const (i64 2)) t8 (i64 2); binOp .eql 3 t8 (i64 2)) w K) w fun t9 w =>
 pickD t6 (.bool true) t9 fun t10 =>
 ifD t10 (
 R (i64 2) w) (
 R (i64 1) w)
theorem F117_wp {t0 : Value} {t1 : Value} {w : World} {R : Value → World → Prop} (h : F117_den t0 t1 w R) : callD prog 117 #[t0, t1] w R :=
  den_wp mixed F117_ann func117 (by kernel_rfl) (by kernel_rfl) h

def F118_ann : Ann := (q (.seq (q (.block (q (.cond (q .leaf) (q (.cond (q .leaf) .leaf)))))) (q .leaf)))
def F118_den (t0 : Value) (w : World) (R : Value → World → Prop) : Prop :=
 V prog (do eqGuard .eql 3 (.tmp 3) (.const (i64 3)) t0 (i64 3); binOp .eql 3 t0 (i64 3)) w fun t5 w =>
 ifD t5 (
 R (i64 1) w) (
 V prog (do eqGuard .eql 3 (.tmp 3) (.const (i64 4)) t0 (i64 4); binOp .eql 3 t0 (i64 4)) w fun t7 w =>
 ifD t7 (
 R (i64 2) w) (
 R (i64 0) w))
theorem F118_wp {t0 : Value} {w : World} {R : Value → World → Prop} (h : F118_den t0 w R) : callD prog 118 #[t0] w R :=
  den_wp mixed F118_ann func118 (by kernel_rfl) (by kernel_rfl) h

def F119_ann : Ann := (q (.seq (q (.cond (q .leaf) .leaf)) (.seq (q (.cond (q .leaf) .leaf)) (q .leaf))))
def F119_den (t0 : Value) (w : World) (R : Value → World → Prop) : Prop :=
 V prog (box 27 t0) w fun t1 w =>
 V prog (fieldAt 27 t1 0) w fun t3 w =>
 V prog (loadAt 9 t3) w fun t4 w =>
 callD prog 126 #[t4] w fun t5 w =>
 V prog (Op.unary UnOp.not t5) w fun t6 w =>
 gd t6 false (fun K => V prog (fieldAt 27 t1 1) w K) w fun t8 w =>
 gd t6 false (fun K => V prog (loadAt 23 t8) w K) w fun t9 w =>
 gd t6 false (fun K => callD prog 127 #[t9, (i64 8)] w K) w fun t10 w =>
 gd t6 false (fun K => V prog (Op.unary UnOp.not t10) w K) w fun t11 w =>
 pickD t6 (.bool true) t11 fun t12 =>
 gd t12 false (fun K => V prog (fieldAt 27 t1 2) w K) w fun t14 w =>
 gd t12 false (fun K => V prog (loadAt 24 t14) w K) w fun t15 w =>
 gd t12 false (fun K => V prog (Builtin.len_ #[24] 3 #[t15]) w K) w fun t16 w =>
 gd t12 false (fun K => V prog (binOp .gtr 3 t16 (i64 4)) w K) w fun t17 w =>
 pickD t12 (.bool true) t17 fun t18 =>
 gd t18 false (fun K => V prog (fieldAt 27 t1 2) w K) w fun t20 w =>
 gd t18 false (fun K => V prog (loadAt 24 t20) w K) w fun t21 w =>
 gd t18 false (fun K => callD prog 128 #[t21, (Value.func (.func 129) #[] #[])] w K) w fun t22 w =>
 gd t18 false (fun K => V prog (Op.unary UnOp.not t22) w K) w fun t23 w =>
 pickD t18 (.bool true) t23 fun t24 =>
 ifD t24 (
 R (.bool false) w) (
 V prog (fieldAt 27 t1 3) w fun t25 w =>
 V prog (loadAt 25 t25) w fun t26 w =>
 V prog (Builtin.len_ #[25] 3 #[t26]) w fun t27 w =>
 V prog (binOp .lss 3 t27 (i64 1)) w fun t28 w =>
 gd t28 false (fun K => V prog (fieldAt 27 t1 3) w K) w fun t30 w =>
 gd t28 false (fun K => V prog (loadAt 25 t30) w K) w fun t31 w =>
 gd t28 false (fun K => V prog (Builtin.len_ #[25] 3 #[t31]) w K) w fun t32 w =>
 gd t28 false (fun K => V prog (binOp .gtr 3 t32 (i64 8)) w K) w fun t33 w =>
 pickD t28 (.bool true) t33 fun t34 =>
 gd t34 false (fun K => V prog (fieldAt 27 t1 3) w K) w fun t36 w =>
 gd t34 false (fun K => V prog (loadAt 25 t36) w K) w fun t37 w =>
 gd t34 false (fun K => callD prog 130 #[t37, (Value.func (.func 131) #[] #[])] w K) w fun t38 w =>
 gd t34 false (fun K => V prog (Op.unary UnOp.not t38) w K) w fun t39 w =>
 pickD t34 (.bool true) t39 fun t40 =>
 gd t40 false (fun K => V prog (fieldAt 27 t1 3) w K) w fun t42 w =>
 gd t40 false (fun K => V prog (loadAt 25 t42) w K) w fun t43 w =>
 gd t40 false (fun K => V prog (indexAt 25 t43 (i64 0)) w K) w fun t44 w =>
 gd t40 false (fun K => V prog (fieldAt 47 t44 0) w K) w fun t45 w =>
 gd t40 false (fun K => V prog (loadAt 23 t45) w K) w fun t46 w =>
 gd t40 false (fun K => V prog (Builtin.len_ #[23] 3 #[t46]) w K) w fun t47 w =>
 gd t40 false (fun K => V prog (binOp .gtr 3 t47 (i64 0)) w K) w fun t48 w =>
 pickD t40 (.bool true) t48 fun t49 =>
 gd t49 false (fun K => V prog (fieldAt 27 t1 3) w K) w fun t51 w =>
 gd t49 false (fun K => V prog (loadAt 25 t51) w K) w fun t52 w =>
 gd t49 false (fun K => V prog (indexAt 25 t52 (i64 0)) w K) w fun t53 w =>
 gd t49 false (fun K => V prog (fieldAt 47 t53 1) w K) w fun t54 w =>
 gd t49 false (fun K => V prog (loadAt 3 t54) w K) w fun t55 w =>
 gd t49 false (fun K => V prog (do eqGuard .neq 3 (.tmp 55) (.const (i64 0)) t55 (i64 0); binOp .neq 3 t55 (i64 0)) w K) w fun t56 w =>
 pickD t49 (.bool true) t56 fun t57 =>
 ifD t57 (
 R (.bool false) w) (
 V prog (fieldAt 27 t1 4) w fun t58 w =>
 V prog (loadAt 23 t58) w fun t59 w =>
 V prog (Builtin.len_ #[23] 3 #[t59]) w fun t60 w =>
 V prog (binOp .leq 3 t60 (i64 4)) w fun t61 w =>
 gd t61 true (fun K => V prog (fieldAt 27 t1 4) w K) w fun t63 w =>
 gd t61 true (fun K => V prog (loadAt 23 t63) w K) w fun t64 w =>
 gd t61 true (fun K => V prog (makeFunc (Fn.func 133) #[] #[t1]) w K) w fun t65 w =>
 gd t61 true (fun K => callD prog 132 #[t64, t65] w K) w fun t66 w =>
 pickD t61 t66 (.bool false) fun t67 =>
 R t67 w))
theorem F119_wp {t0 : Value} {w : World} {R : Value → World → Prop} (h : F119_den t0 w R) : callD prog 119 #[t0] w R :=
  den_wp mixed F119_ann func119 (by kernel_rfl) (by kernel_rfl) h

def F120_ann : Ann := (q (q (.seq (q (.block (.loop [3, 5, 11, 12, 13, 14, 15, 16, 17, 18, 19, 20, 21, 22] [3, 11] (q (.seq (.cond .leaf .leaf) (.seq (.block (q (q (q (.cond .leaf .leaf))))) .leaf)))))) (q (.seq (q (.block (.loop [6, 8, 27, 28, 29, 30, 31, 32, 33, 34] [6, 27] (q (.seq (.cond .leaf .leaf) (.seq (.block (q .leaf)) .leaf)))))) (q .leaf))))))
def F120_den (t0 : Value) (w : World) (R : Value → World → Prop) : Prop :=
 V prog (Builtin.len_ #[77] 3 #[t0]) w fun t10 w =>
 ∃ (I1 : NP 2) (μ1 : NF 2), I1 (i64 0) (i64 0) w ∧
 ∀ (t3 : Value) (t11 : Value), ∀ w2 : World, I1 t3 t11 w2 → ∀ _f : Env,
 V prog (binOp .lss 3 t11 t10) w2 fun t12 w3 =>
 ifD t12 (
 V prog (indexAt 77 t0 t11) w3 fun t13 w =>
 V prog (loadAt 23 t13) w fun t14 w =>
 V prog (Builtin.len_ #[23] 3 #[t14]) w fun t17 w =>
 V prog (binOp .add 3 t3 t17) w fun t18 w =>
 V prog (binOp .lss 3 t18 (i64 0)) w fun t20 w8 =>
 ifD t20 (
 V prog (makeInterface 9 (Value.string { data := #[108, 101, 110, 32, 111, 117, 116, 32, 111, 102, 32, 114, 97, 110, 103, 101] })) w8 fun _ _ =>
 False) (
 V prog (binOp .add 3 t11 (i64 1)) w8 fun t22 w =>
 I1 t18 t22 w ∧ μ1 t18 t22 w < μ1 t3 t11 w2)) (
 callD prog 134 #[nilS, t3] w3 fun t24 w =>
 V prog (Builtin.len_ #[77] 3 #[t0]) w fun t26 w =>
 ∃ (I2 : NP 2) (μ2 : NF 2), I2 t24 (i64 0) w ∧
 ∀ (t6 : Value) (t27 : Value), ∀ w13 : World, I2 t6 t27 w13 → ∀ _f : Env,
 V prog (binOp .lss 3 t27 t26) w13 fun t28 w14 =>
 ifD t28 (
 V prog (indexAt 77 t0 t27) w14 fun t29 w =>
 V prog (loadAt 23 t29) w fun t30 w =>
 V prog (Builtin.append_ #[23, 23] 23 #[t6, t30]) w fun t33 w =>
 V prog (binOp .add 3 t27 (i64 1)) w fun t34 w =>
 I2 t33 t34 w ∧ μ2 t33 t34 w < μ2 t6 t27 w13) (
 R t6 w14))
theorem F120_wp {t0 : Value} {w : World} {R : Value → World → Prop} (h : F120_den t0 w R) : callD prog 120 #[t0] w R :=
  den_wp mixed F120_ann func120 (by kernel_rfl) (by kernel_rfl) h

def F121_ann : Ann := (q (.seq (q (.block (.join [7, 8, 9] [7] (q (.cond .leaf .leaf)) (.cond (.seq (.draw [0, 1, 0, 4, 8, 16, 32, 66, 255] [0, 1, 0, 4, 8, 16, 32, 66, 128] 0 9 511 (.take 0 (.take 1 (.take 2 (.take 3 (.take 4 (.take 5 (.take 6 (.take 7 (.take 8 .done)))))))))) .leaf) (.join [18, 19, 20] [18] (q (.cond .leaf .leaf)) (.cond (.seq (.draw [0, 1, 0, 4, 8, 16, 32, 64, 130, 511] [0, 1, 0, 4, 8, 16, 32, 64, 130, 256] 0 10 1023 (.take 0 (.take 1 (.take 2 (.take 3 (.take 4 (.take 5 (.take 6 (.take 7 (.take 8 (.take 9 .done))))))))))) .leaf) (q (.cond (.seq (.draw [0, 1, 0, 4, 8, 16, 32, 64, 130, 511] [0, 1, 0, 4, 8, 16, 32, 64, 130, 256] 0 10 1023 (.take 0 (.take 1 (.take 2 (.take 3 (.take 4 (.take 5 (.take 6 (.take 7 (.take 8 (.take 9 .done))))))))))) .leaf) (q (.cond (.seq (.draw [0, 1, 0, 4, 8, 16, 32, 64, 130, 511] [0, 1, 0, 4, 8, 16, 32, 64, 130, 256] 0 10 1023 (.take 0 (.take 1 (.take 2 (.take 3 (.take 4 (.take 5 (.take 6 (.take 7 (.take 8 (.take 9 .done))))))))))) .leaf) (.join [52, 53, 54] [52] (q (.cond .leaf .leaf)) (.cond (.seq (.draw [0, 1, 0, 4, 8, 16, 32, 64, 130, 511] [0, 1, 0, 4, 8, 16, 32, 64, 130, 256] 0 10 1023 (.take 0 (.take 1 (.take 2 (.take 3 (.take 4 (.take 5 (.take 6 (.take 7 (.take 8 (.take 9 .done))))))))))) .leaf) .leaf)))))))))))) (q .leaf)))
def F121_den (t0 : Value) (t1 : Value) (w : World) (R : Value → World → Prop) : Prop :=
 V prog (box 71 t1) w fun t3 w =>
 V prog (fieldAt 71 t3 0) w fun t5 w =>
 V prog (loadAt 3 t5) w fun t6 w =>
 ∃ J1 : NP 1,
 (V prog (do eqGuard .eql 3 (.tmp 6) (.const (i64 2)) t6 (i64 2); binOp .eql 3 t6 (i64 2)) w fun t8 w =>
 ifD t8 (
 J1 t8 w) (
 V prog (do eqGuard .eql 3 (.tmp 6) (.const (i64 3)) t6 (i64 3); binOp .eql 3 t6 (i64 3)) w fun t9 w =>
 J1 t9 w)) ∧
 ∀ (t7 : Value), ∀ w6 : World, J1 t7 w6 → ∀ _f : Env,
 ifD t7 (
 drawD w6 fun S4 w =>
 yieldS prog S4 (fieldAt 71 t3 1) fun t10 =>
 yieldS prog S4 (loadAt 3 t10) fun t11 =>
 Go.Vc.Safe (t0) ∧
 yieldS prog S4 (fieldAt 137 t0 2) fun t14 =>
 yieldS prog S4 (loadAt 23 t14) fun t15 =>
 yieldS prog S4 (Builtin.len_ #[23] 3 #[t15]) fun t16 =>
 yieldS prog S4 (binOp .lss 3 t11 t16) fun t17 =>
 R t17 w) (
 ∃ J2 : NP 1,
 (V prog (do eqGuard .eql 3 (.tmp 6) (.const (i64 33)) t6 (i64 33); binOp .eql 3 t6 (i64 33)) w6 fun t19 w =>
 ifD t19 (
 J2 t19 w) (
 V prog (do eqGuard .eql 3 (.tmp 6) (.const (i64 34)) t6 (i64 34); binOp .eql 3 t6 (i64 34)) w fun t20 w =>
 J2 t20 w)) ∧
 ∀ (t18 : Value), ∀ w10 : World, J2 t18 w10 → ∀ _f : Env,
 ifD t18 (
 drawD w10 fun S7 w =>
 yieldS prog S7 (fieldAt 71 t3 1) fun t21 =>
 yieldS prog S7 (loadAt 3 t21) fun t22 =>
 Go.Vc.Safe (t0) ∧
 yieldS prog S7 (fieldAt 137 t0 0) fun t25 =>
 yieldS prog S7 (fieldAt 27 t25 1) fun t26 =>
 yieldS prog S7 (loadAt 23 t26) fun t27 =>
 yieldS prog S7 (Builtin.len_ #[23] 3 #[t27]) fun t28 =>
 yieldS prog S7 (binOp .lss 3 t22 t28) fun t29 =>
 R t29 w) (
 V prog (do eqGuard .eql 3 (.tmp 6) (.const (i64 37)) t6 (i64 37); binOp .eql 3 t6 (i64 37)) w10 fun t31 w12 =>
 ifD t31 (
 drawD w12 fun S9 w =>
 yieldS prog S9 (fieldAt 71 t3 1) fun t32 =>
 yieldS prog S9 (loadAt 3 t32) fun t33 =>
 Go.Vc.Safe (t0) ∧
 yieldS prog S9 (fieldAt 137 t0 0) fun t36 =>
 yieldS prog S9 (fieldAt 27 t36 3) fun t37 =>
 yieldS prog S9 (loadAt 25 t37) fun t38 =>
 yieldS prog S9 (Builtin.len_ #[25] 3 #[t38]) fun t39 =>
 yieldS prog S9 (binOp .lss 3 t33 t39) fun t40 =>
 R t40 w) (
 V prog (do eqGuard .eql 3 (.tmp 6) (.const (i64 38)) t6 (i64 38); binOp .eql 3 t6 (i64 38)) w12 fun t42 w14 =>
 ifD t42 (
 drawD w14 fun S11 w =>
 yieldS prog S11 (fieldAt 71 t3 1) fun t43 =>
 yieldS prog S11 (loadAt 3 t43) fun t44 =>
 Go.Vc.Safe (t0) ∧
 yieldS prog S11 (fieldAt 137 t0 0) fun t47 =>
 yieldS prog S11 (fieldAt 27 t47 2) fun t48 =>
 yieldS prog S11 (loadAt 24 t48) fun t49 =>
 yieldS prog S11 (Builtin.len_ #[24] 3 #[t49]) fun t50 =>
 yieldS prog S11 (binOp .lss 3 t44 t50) fun t51 =>
 R t51 w) (
 ∃ J3 : NP 1,
 (V prog (do eqGuard .eql 3 (.tmp 6) (.const (i64 23)) t6 (i64 23); binOp .eql 3 t6 (i64 23)) w14 fun t53 w =>
 ifD t53 (
 J3 t53 w) (
 V prog (do eqGuard .eql 3 (.tmp 6) (.const (i64 24)) t6 (i64 24); binOp .eql 3 t6 (i64 24)) w fun t54 w =>
 J3 t54 w)) ∧
 ∀ (t52 : Value), ∀ w18 : World, J3 t52 w18 → ∀ _f : Env,
 ifD t52 (
 drawD w18 fun S14 w =>
 yieldS prog S14 (fieldAt 71 t3 1) fun t55 =>
 yieldS prog S14 (loadAt 3 t55) fun t56 =>
 Go.Vc.Safe (t0) ∧
 yieldS prog S14 (fieldAt 137 t0 1) fun t59 =>
 yieldS prog S14 (fieldAt 47 t59 3) fun t60 =>
 yieldS prog S14 (loadAt 45 t60) fun t61 =>
 yieldS prog S14 (Builtin.len_ #[45] 3 #[t61]) fun t62 =>
 yieldS prog S14 (binOp .lss 3 t56 t62) fun t63 =>
 R t63 w) (
 R (.bool true) w18)))))
theorem F121_wp {t0 : Value} {t1 : Value} {w : World} {R : Value → World → Prop} (h : F121_den t0 t1 w R) : callD prog 121 #[t0, t1] w R :=
  den_wp mixed F121_ann func121 (by kernel_rfl) (by kernel_rfl) h

def F122_ann : Ann := (q (.seq (.block (q (.cond (q .leaf) (q (.cond (.seq (.draw [0, 1, 2, 4, 0, 0, 32, 64, 128, 0, 0, 1024, 2048, 4096, 0, 0, 32768, 106783, 237855, 500735, 1025023, 2097151, 4194303] [0, 1, 2, 4, 0, 0, 32, 64, 128, 0, 0, 1024, 2048, 4096, 0, 0, 32768, 24, 196608, 768, 524288, 24576, 2097152] 0 22 4194303 (.take 0 (.take 1 (.take 2 (.take 3 (.take 4 (.take 5 (.take 6 (.take 7 (.take 8 (.take 9 (.take 10 (.take 11 (.take 12 (.take 13 (.take 14 (.take 15 (.only 16 (.take 17 (.only 18 (.take 19 (.only 20 (.take 21 (.last 22)))))))))))))))))))))))) (q .leaf)) .leaf))))) (q (.seq (q (.cond (q .leaf) .leaf)) (.seq (q (.cond (.draw [0, 1, 2, 4, 0, 0, 32, 64, 128, 0, 0, 1311, 3359, 8191, 16383] [0, 1, 2, 4, 0, 0, 32, 64, 128, 0, 0, 24, 3072, 768, 8192] 0 14 16383 (.take 0 (.take 1 (.take 2 (.take 3 (.take 4 (.take 5 (.take 6 (.take 7 (.take 8 (.take 9 (.take 10 (.take 11 (.only 12 (.take 13 (.last 14)))))))))))))))) .leaf)) (q .leaf))))))
def F122_den (t0 : Value) (t1 : Value) (t2 : Value) (w : World) (R : Value → World → Prop) : Prop :=
 Go.Vc.Safe (t0) ∧
 V prog (fieldAt 137 t0 1) w fun t13 w =>
 V prog (fieldAt 47 t13 3) w fun t14 w =>
 V prog (loadAt 45 t14) w fun t15 w =>
 V prog (Builtin.len_ #[45] 3 #[t15]) w fun t16 w =>
 V prog (binOp .geq 3 t1 t16) w fun t17 w =>
 ifD t17 (
 R (i64 13) w) (
 Go.Vc.Safe (t0) ∧
 V prog (fieldAt 137 t0 4) w fun t21 w =>
 V prog (loadAt 78 t21) w fun t22 w =>
 V prog (indexAt 78 t22 t1) w fun t24 w =>
 V prog (loadAt 4 t24) w fun t25 w =>
 V prog (Op.unary UnOp.not t25) w fun t26 w12 =>
 ifD t26 (
 drawD w12 fun S4 w =>
 Go.Vc.Safe (t0) ∧
 yieldS prog S4 (fieldAt 137 t0 3) fun t29 =>
 yieldS prog S4 (loadAt 77 t29) fun t30 =>
 Go.Vc.Safe (t0) ∧
 yieldS prog S4 (fieldAt 137 t0 4) fun t34 =>
 yieldS prog S4 (loadAt 78 t34) fun t35 =>
 Go.Vc.Safe (t0) ∧
 yieldS prog S4 (fieldAt 137 t0 5) fun t39 =>
 yieldS prog S4 (loadAt 78 t39) fun t40 =>
 callD prog 109 #[t2] w fun t43 w =>
 S4 w ∧
 yieldS prog S4 (indexAt 77 t30 t1) fun t44 =>
 U prog (storeAt 23 t44 t43) w fun _ w =>
 S4 w ∧
 yieldS prog S4 (indexAt 78 t35 t1) fun t45 =>
 U prog (storeAt 4 t45 (.bool true)) w fun _ w =>
 S4 w ∧
 yieldS prog S4 (indexAt 78 t40 t1) fun t46 =>
 U prog (storeAt 4 t46 (.bool true)) w fun _ w =>
 R (i64 0) w) (
 Go.Vc.Safe (t0) ∧
 V prog (fieldAt 137 t0 3) w12 fun t50 w =>
 V prog (loadAt 77 t50) w fun t51 w =>
 V prog (indexAt 77 t51 t1) w fun t53 w =>
 V prog (loadAt 23 t53) w fun t54 w =>
 callD prog 135 #[t54, t2] w fun t56 w =>
 V prog (extract t56 0) w fun t57 w =>
 V prog (extract t56 1) w fun t58 w =>
 V prog (Op.unary UnOp.not t58) w fun t60 w =>
 ifD t60 (
 R (i64 14) w) (
 Go.Vc.Safe (t0) ∧
 V prog (fieldAt 137 t0 3) w fun t64 w =>
 V prog (loadAt 77 t64) w fun t65 w =>
 V prog (indexAt 77 t65 t1) w fun t67 w =>
 V prog (loadAt 23 t67) w fun t68 w =>
 callD prog 136 #[t57, t68] w fun t69 w =>
 V prog (Op.unary UnOp.not t69) w fun t70 w33 =>
 ifD t70 (
 drawD w33 fun S10 w =>
 Go.Vc.Safe (t0) ∧
 yieldS prog S10 (fieldAt 137 t0 3) fun t73 =>
 yieldS prog S10 (loadAt 77 t73) fun t74 =>
 Go.Vc.Safe (t0) ∧
 yieldS prog S10 (fieldAt 137 t0 5) fun t78 =>
 yieldS prog S10 (loadAt 78 t78) fun t79 =>
 yieldS prog S10 (indexAt 77 t74 t1) fun t82 =>
 U prog (storeAt 23 t82 t57) w fun _ w =>
 S10 w ∧
 yieldS prog S10 (indexAt 78 t79 t1) fun t83 =>
 U prog (storeAt 4 t83 (.bool true)) w fun _ w =>
 R (i64 0) w) (
 R (i64 0) w33))))
theorem F122_wp {t0 : Value} {t1 : Value} {t2 : Value} {w : World} {R : Value → World → Prop} (h : F122_den t0 t1 t2 w R) : callD prog 122 #[t0, t1, t2] w R :=
  den_wp mixed F122_ann func122 (by kernel_rfl) (by kernel_rfl) h

def F123_ann : Ann := (q (.seq (q (.block (.loop [4, 5, 8, 9, 10, 11, 12, 13, 14, 15, 16, 17, 18] [8] (q (.seq (.cond .leaf .leaf) (.seq (.block (q (q (.cond (q .leaf) .leaf)))) .leaf)))))) (q .leaf)))
def F123_den (t0 : Value) (t1 : Value) (w : World) (R : Value → World → Prop) : Prop :=
 V prog (Builtin.len_ #[78] 3 #[t0]) w fun t7 w =>
 ∃ (I1 : NP 1) (μ1 : NF 1), I1 (i64 0) w ∧
 ∀ (t8 : Value), ∀ w2 : World, I1 t8 w2 → ∀ _f : Env,
 V prog (binOp .lss 3 t8 t7) w2 fun t9 w3 =>
 ifD t9 (
 V prog (indexAt 78 t0 t8) w3 fun t14 w =>
 V prog (loadAt 4 t14) w fun t15 w =>
 V prog (do eqGuard .eql 4 (.tmp 11) (.tmp 15) t1 t15; binOp .eql 4 t1 t15) w fun t16 w =>
 ifD t16 (
 R t8 w) (
 V prog (binOp .add 3 t8 (i64 1)) w fun t18 w =>
 I1 t18 w ∧ μ1 t18 w < μ1 t8 w2)) (
 R (i64 (-1)) w3)
theorem F123_wp {t0 : Value} {t1 : Value} {w : World} {R : Value → World → Prop} (h : F123_den t0 t1 w R) : callD prog 123 #[t0, t1] w R :=
  den_wp mixed F123_ann func123 (by kernel_rfl) (by kernel_rfl) h

def F124_ann : Ann := (q (q (.seq (q (.cond (q .leaf) .leaf)) (q (.seq (q (q (.cond (q .leaf) .leaf))) (.seq (q (q (.cond (q .leaf) .leaf))) (.seq (.draw [0, 0, 3, 4, 0, 0, 0, 120, 136, 511, 1023] [0, 0, 3, 4, 0, 0, 0, 112, 136, 256, 0] 0 11 2047 (.take 0 (.take 1 (.take 2 (.take 4 (.take 5 (.take 6 (.only 3 (.only 7 (.only 8 (.take 9 (.take 10 .done)))))))))))) .leaf)))))))
def F124_den (t0 : Value) (t1 : Value) (t2 : Value) (w : World) (R : Value → World → Prop) : Prop :=
 V prog (box 71 t1) w fun t4 w =>
 V prog (Builtin.len_ #[23] 3 #[t2]) w fun t13 w =>
 V prog (loadAt 71 t4) w fun t15 w =>
 callD prog 137 #[t0, t15] w fun t16 w =>
 V prog (Builtin.len_ #[23] 3 #[t16]) w fun t17 w =>
 V prog (binOp .sub 3 t13 t17) w fun t18 w =>
 V prog (binOp .lss 3 t18 (i64 0)) w fun t20 w =>
 gd t20 false (fun K => K t18 w) w fun t22 w =>
 gd t20 false (fun K => K t0 w) w fun t23 w =>
 gd t20 false (fun K => V prog (loadAt 71 t4) w K) w fun t24 w =>
 gd t20 false (fun K => callD prog 138 #[t23, t24] w K) w fun t25 w =>
 gd t20 false (fun K => V prog (binOp .add 3 t22 t25) w K) w fun t26 w =>
 gd t20 false (fun K => V prog (binOp .gtr 3 t26 (i64 8)) w K) w fun t27 w =>
 pickD t20 (.bool true) t27 fun t28 =>
 ifD t28 (
 R (.tuple #[nilS, (i64 10)]) w) (
 V prog (sliceAt 23 t2 (some t18) none none) w fun t31 w =>
 V prog (loadAt 71 t4) w fun t33 w =>
 callD prog 139 #[t0, t33, t31] w fun t35 w =>
 V prog (do eqGuard .neq 33 (.tmp 36) (.const (i64 0)) t35 (i64 0); binOp .neq 33 t35 (i64 0)) w fun t37 w =>
 ifD t37 (
 R (.tuple #[nilS, t35]) w) (
 V prog (loadAt 71 t4) w fun t40 w =>
 callD prog 140 #[t0, t40, t31] w fun t42 w =>
 V prog (do eqGuard .neq 33 (.tmp 43) (.const (i64 0)) t42 (i64 0); binOp .neq 33 t42 (i64 0)) w fun t44 w =>
 ifD t44 (
 R (.tuple #[nilS, t42]) w) (
 drawD w fun S11 w =>
 yieldS prog S11 (sliceAt 23 t2 none (some t18) none) fun t48 =>
 yieldS prog S11 (loadAt 71 t4) fun t51 =>
 callD prog 109 #[t48] w fun t49 w =>
 S11 w ∧
 callD prog 141 #[t0, t51, t31] w fun t53 w =>
 S11 w ∧
 V prog (Builtin.append_ #[23, 23] 23 #[t49, t53]) w fun t54 w =>
 S11 w ∧
 R (.tuple #[t54, (i64 0)]) w)))
theorem F124_wp {t0 : Value} {t1 : Value} {t2 : Value} {w : World} {R : Value → World → Prop} (h : F124_den t0 t1 t2 w R) : callD prog 124 #[t0, t1, t2] w R :=
  den_wp mixed F124_ann func124 (by kernel_rfl) (by kernel_rfl) h

def F125_ann : Ann := (q (.seq (q (.block (q (.cond (q .leaf) (q (.cond (q .leaf) (q (.cond (q .leaf) .leaf)))))))) (q .leaf)))
def F125_den (t0 : Value) (t1 : Value) (w : World) (R : Value → World → Prop) : Prop :=
 V prog (box 71 t0) w fun t2 w =>
 V prog (fieldAt 71 t2 0) w fun t5 w =>
 V prog (loadAt 3 t5) w fun t6 w =>
 V prog (do eqGuard .eql 3 (.tmp 6) (.const (i64 23)) t6 (i64 23); binOp .eql 3 t6 (i64 23)) w fun t8 w4 =>
 ifD t8 (
 V prog (fieldAt 71 t2 1) w4 fun t9 w =>
 V prog (loadAt 3 t9) w fun t10 w =>
 V prog (buildSlice 23 1 #[(0, t10)]) w fun t11 w =>
 R t11 w) (
 V prog (do eqGuard .eql 3 (.tmp 6) (.const (i64 24)) t6 (i64 24); binOp .eql 3 t6 (i64 24)) w4 fun t13 w8 =>
 ifD t13 (
 V prog (binOp .add 3 t1 (i64 1)) w8 fun t15 w =>
 V prog (fieldAt 71 t2 1) w fun t16 w =>
 V prog (loadAt 3 t16) w fun t17 w =>
 V prog (buildSlice 23 2 #[(0, t15), (1, t17)]) w fun t18 w =>
 R t18 w) (
 V prog (do eqGuard .eql 3 (.tmp 6) (.const (i64 39)) t6 (i64 39); binOp .eql 3 t6 (i64 39)) w8 fun t20 w =>
 ifD t20 (
 R nilS w) (
 V prog (binOp .add 3 t1 (i64 1)) w fun t22 w =>
 V prog (buildSlice 23 1 #[(0, t22)]) w fun t23 w =>
 R t23 w)))
theorem F125_wp {t0 : Value} {t1 : Value} {w : World} {R : Value → World → Prop} (h : F125_den t0 t1 w R) : callD prog 125 #[t0, t1] w R :=
  den_wp mixed F125_ann func125 (by kernel_rfl) (by kernel_rfl) h

def F126_ann : Ann := (q (.seq (q (.cond (q .leaf) .leaf)) (.seq (q (.block (.loop [2, 4, 19, 20, 21, 22, 23, 24] [] (q (.seq (.cond .leaf .leaf) (.block (q (q (.cond (q .leaf) .leaf))))))))) (q .leaf))))
def F126_den (t0 : Value) (w : World) (R : Value → World → Prop) : Prop :=
 V prog (do eqGuard .eql 9 (.tmp 5) (.const (Value.string { data := #[] })) t0 (Value.string { data := #[] }); binOp .eql 9 t0 (Value.string { data := #[] })) w fun t6 w =>
 gd t6 false (fun K => K t0 w) w fun t8 w =>
 gd t6 false (fun K => V prog (Builtin.len_ #[9] 3 #[t8]) w K) w fun t9 w =>
 gd t6 false (fun K => V prog (binOp .gtr 3 t9 (i64 16)) w K) w fun t10 w =>
 pickD t6 (.bool true) t10 fun t11 =>
 gd t11 false (fun K => K t0 w) w fun t13 w =>
 gd t11 false (fun K => callD prog 87 #[t13] w K) w fun t14 w =>
 gd t11 false (fun K => V prog (Op.unary UnOp.not t14) w K) w fun t15 w =>
 pickD t11 (.bool true) t15 fun t16 =>
 ifD t16 (
 R (.bool false) w) (
 V prog (range 9 t0) w fun t18 w =>
 ∃ (I1 : NP 0) (μ1 : NF 0), I1 w ∧
 ∀ w11 : World, I1 w11 → ∀ _f : Env,
 V prog (next t18 true 0) w11 fun t19 w =>
 V prog (extract t19 0) w fun t20 w13 =>
 ifD t20 (
 V prog (extract t19 2) w13 fun t21 w =>
 callD prog 142 #[t21] w fun t23 w =>
 V prog (Op.unary UnOp.not t23) w fun t24 w =>
 ifD t24 (
 R (.bool false) w) (
 I1 w ∧ μ1 w < μ1 w11)) (
 R (.bool true) w13))
theorem F126_wp {t0 : Value} {w : World} {R : Value → World → Prop} (h : F126_den t0 w R) : callD prog 126 #[t0] w R :=
  den_wp mixed F126_ann func126 (by kernel_rfl) (by kernel_rfl) h

def F127_ann : Ann := (q (q .leaf))
def F127_den (t0 : Value) (t1 : Value) (w : World) (R : Value → World → Prop) : Prop :=
 V prog (Builtin.len_ #[23] 3 #[t0]) w fun t6 w =>
 V prog (binOp .leq 3 t6 t1) w fun t8 w =>
 gd t8 true (fun K => K t0 w) w fun t10 w =>
 gd t8 true (fun K => callD prog 143 #[t10, (Value.func (.func 144) #[] #[])] w K) w fun t11 w =>
 gd t8 true (fun K => V prog (Op.unary UnOp.not t11) w K) w fun t12 w =>
 pickD t8 t12 (.bool false) fun t13 =>
 R t13 w
theorem F127_wp {t0 : Value} {t1 : Value} {w : World} {R : Value → World → Prop} (h : F127_den t0 t1 w R) : callD prog 127 #[t0, t1] w R :=
  den_wp mixed F127_ann func127 (by kernel_rfl) (by kernel_rfl) h

def F128_ann : Ann := (q (q .leaf))
def F128_den (t0 : Value) (t1 : Value) (w : World) (R : Value → World → Prop) : Prop :=
 V prog (box 210 t1) w fun t3 w =>
 V prog (makeFunc (Fn.func 147) #[] #[t3]) w fun t6 w =>
 callD prog 146 #[t0, t6] w fun t7 w =>
 V prog (Op.unary UnOp.not t7) w fun t8 w =>
 R t8 w
theorem F128_wp {t0 : Value} {t1 : Value} {w : World} {R : Value → World → Prop} (h : F128_den t0 t1 w R) : callD prog 128 #[t0, t1] w R :=
  den_wp mixed F128_ann func128 (by kernel_rfl) (by kernel_rfl) h

def F129_ann : Ann := (q (q .leaf))
def F129_den (t0 : Value) (w : World) (R : Value → World → Prop) : Prop :=
 V prog (box 74 t0) w fun t1 w =>
 V prog (fieldAt 74 t1 0) w fun t3 w =>
 V prog (loadAt 9 t3) w fun t4 w =>
 callD prog 126 #[t4] w fun t5 w =>
 gd t5 true (fun K => V prog (fieldAt 74 t1 1) w K) w fun t7 w =>
 gd t5 true (fun K => V prog (loadAt 3 t7) w K) w fun t8 w =>
 gd t5 true (fun K => V prog (binOp .geq 3 t8 (i64 0)) w K) w fun t9 w =>
 pickD t5 t9 (.bool false) fun t10 =>
 gd t10 true (fun K => V prog (fieldAt 74 t1 1) w K) w fun t12 w =>
 gd t10 true (fun K => V prog (loadAt 3 t12) w K) w fun t13 w =>
 gd t10 true (fun K => V prog (binOp .lss 3 t13 (i64 4)) w K) w fun t14 w =>
 pickD t10 t14 (.bool false) fun t15 =>
 gd t15 true (fun K => V prog (fieldAt 74 t1 2) w K) w fun t17 w =>
 gd t15 true (fun K => V prog (loadAt 23 t17) w K) w fun t18 w =>
 gd t15 true (fun K => callD prog 127 #[t18, (i64 4)] w K) w fun t19 w =>
 pickD t15 t19 (.bool false) fun t20 =>
 gd t20 true (fun K => V prog (fieldAt 74 t1 3) w K) w fun t22 w =>
 gd t20 true (fun K => V prog (loadAt 3 t22) w K) w fun t23 w =>
 gd t20 true (fun K => callD prog 148 #[t23] w K) w fun t24 w =>
 pickD t20 t24 (.bool false) fun t25 =>
 R t25 w
theorem F129_wp {t0 : Value} {w : World} {R : Value → World → Prop} (h : F129_den t0 w R) : callD prog 129 #[t0] w R :=
  den_wp mixed F129_ann func129 (by kernel_rfl) (by kernel_rfl) h

def F130_ann : Ann := (q (q .leaf))
def F130_den (t0 : Value) (t1 : Value) (w : World) (R : Value → World → Prop) : Prop :=
 V prog (box 212 t1) w fun t3 w =>
 V prog (makeFunc (Fn.func 150) #[] #[t3]) w fun t6 w =>
 callD prog 149 #[t0, t6] w fun t7 w =>
 V prog (Op.unary UnOp.not t7) w fun t8 w =>
 R t8 w
theorem F130_wp {t0 : Value} {t1 : Value} {w : World} {R : Value → World → Prop} (h : F130_den t0 t1 w R) : callD prog 130 #[t0, t1] w R :=
  den_wp mixed F130_ann func130 (by kernel_rfl) (by kernel_rfl) h

def F131_ann : Ann := (q (q .leaf))
def F131_den (t0 : Value) (w : World) (R : Value → World → Prop) : Prop :=
 V prog (box 47 t0) w fun t1 w =>
 V prog (fieldAt 47 t1 0) w fun t3 w =>
 V prog (loadAt 23 t3) w fun t4 w =>
 callD prog 127 #[t4, (i64 4)] w fun t5 w =>
 gd t5 true (fun K => V prog (fieldAt 47 t1 1) w K) w fun t7 w =>
 gd t5 true (fun K => V prog (loadAt 3 t7) w K) w fun t8 w =>
 gd t5 true (fun K => callD prog 148 #[t8] w K) w fun t9 w =>
 pickD t5 t9 (.bool false) fun t10 =>
 gd t10 true (fun K => V prog (fieldAt 47 t1 2) w K) w fun t12 w =>
 gd t10 true (fun K => V prog (loadAt 23 t12) w K) w fun t13 w =>
 gd t10 true (fun K => V prog (fieldAt 47 t1 0) w K) w fun t14 w =>
 gd t10 true (fun K => V prog (loadAt 23 t14) w K) w fun t15 w =>
 gd t10 true (fun K => V prog (Builtin.len_ #[23] 3 #[t15]) w K) w fun t16 w =>
 gd t10 true (fun K => V prog (binOp .sub 3 (i64 10) t16) w K) w fun t17 w =>
 gd t10 true (fun K => callD prog 127 #[t13, t17] w K) w fun t18 w =>
 pickD t10 t18 (.bool false) fun t19 =>
 gd t19 true (fun K => V prog (fieldAt 47 t1 3) w K) w fun t21 w =>
 gd t19 true (fun K => V prog (loadAt 45 t21) w K) w fun t22 w =>
 gd t19 true (fun K => V prog (Builtin.len_ #[45] 3 #[t22]) w K) w fun t23 w =>
 gd t19 true (fun K => V prog (binOp .geq 3 t23 (i64 1)) w K) w fun t24 w =>
 pickD t19 t24 (.bool false) fun t25 =>
 gd t25 true (fun K => V prog (fieldAt 47 t1 3) w K) w fun t27 w =>
 gd t25 true (fun K => V prog (loadAt 45 t27) w K) w fun t28 w =>
 gd t25 true (fun K => V prog (Builtin.len_ #[45] 3 #[t28]) w K) w fun t29 w =>
 gd t25 true (fun K => V prog (binOp .leq 3 t29 (i64 120)) w K) w fun t30 w =>
 pickD t25 t30 (.bool false) fun t31 =>
 gd t31 true (fun K => V prog (fieldAt 47 t1 3) w K) w fun t33 w =>
 gd t31 true (fun K => V prog (loadAt 45 t33) w K) w fun t34 w =>
 gd t31 true (fun K => callD prog 151 #[t34, (Value.func (.func 152) #[] #[])] w K) w fun t35 w =>
 pickD t31 t35 (.bool false) fun t36 =>
 R t36 w
theorem F131_wp {t0 : Value} {w : World} {R : Value → World → Prop} (h : F131_den t0 w R) : callD prog 131 #[t0] w R :=
  den_wp mixed F131_ann func131 (by kernel_rfl) (by kernel_rfl) h

def F132_ann : Ann := (q (q .leaf))
def F132_den (t0 : Value) (t1 : Value) (w : World) (R : Value → World → Prop) : Prop :=
 V prog (box 179 t1) w fun t3 w =>
 V prog (makeFunc (Fn.func 153) #[] #[t3]) w fun t6 w =>
 callD prog 143 #[t0, t6] w fun t7 w =>
 V prog (Op.unary UnOp.not t7) w fun t8 w =>
 R t8 w
theorem F132_wp {t0 : Value} {t1 : Value} {w : World} {R : Value → World → Prop} (h : F132_den t0 t1 w R) : callD prog 132 #[t0, t1] w R :=
  den_wp mixed F132_ann func132 (by kernel_rfl) (by kernel_rfl) h

def F133_ann : Ann := (q (q .leaf))
def F133_den (t0 : Value) (t1 : Value) (w : World) (R : Value → World → Prop) : Prop :=
 V prog (binOp .geq 3 t0 (i64 0)) w fun t5 w =>
 gd t5 true (fun K => K t0 w) w fun t7 w =>
 gd t5 true (fun K => V prog (fieldAt 27 t1 3) w K) w fun t8 w =>
 gd t5 true (fun K => V prog (loadAt 25 t8) w K) w fun t9 w =>
 gd t5 true (fun K => V prog (Builtin.len_ #[25] 3 #[t9]) w K) w fun t10 w =>
 gd t5 true (fun K => V prog (binOp .lss 3 t7 t10) w K) w fun t11 w =>
 pickD t5 t11 (.bool false) fun t12 =>
 R t12 w
theorem F133_wp {t0 : Value} {t1 : Value} {w : World} {R : Value → World → Prop} (h : F133_den t0 t1 w R) : callD prog 133 #[t0, t1] w R :=
  den_wp mixed F133_ann func133 (by kernel_rfl) (by kernel_rfl) h

def F134_ann : Ann := (q (.join [5, 6, 7] [] (q (.cond .leaf .leaf)) (.seq (q (q (.cond .leaf .leaf))) (q .leaf))))
def F134_den (t0 : Value) (t1 : Value) (w : World) (R : Value → World → Prop) : Prop :=
 ∃ J1 : NP 0,
 (V prog (binOp .lss 3 t1 (i64 0)) w fun t6 w1 =>
 ifD t6 (
 V prog (makeInterface 9 (Value.string { data := #[99, 97, 110, 110, 111, 116, 32, 98, 101, 32, 110, 101, 103, 97, 116, 105, 118, 101] })) w1 fun _ _ =>
 False) (
 J1 w1)) ∧
 ∀ w : World, J1 w → ∀ _f : Env,
 V prog (Builtin.cap_ #[23] 3 #[t0]) w fun t10 w =>
 V prog (Builtin.len_ #[23] 3 #[t0]) w fun t12 w =>
 V prog (binOp .sub 3 t10 t12) w fun t13 w =>
 V prog (binOp .sub 3 t1 t13) w fun t14 w =>
 V prog (binOp .gtr 3 t14 (i64 0)) w fun t16 w8 =>
 ifD t16 (
 V prog (Builtin.cap_ #[23] 3 #[t0]) w8 fun t19 w =>
 V prog (sliceAt 23 t0 none (some t19) none) w fun t20 w =>
 V prog (Builtin.append_ #[23, 3] 23 #[t20, t14]) w fun t22 w =>
 V prog (Builtin.len_ #[23] 3 #[t0]) w fun t24 w =>
 V prog (sliceAt 23 t22 none (some t24) none) w fun t25 w =>
 R t25 w) (
 R t0 w8)
theorem F134_wp {t0 : Value} {t1 : Value} {w : World} {R : Value → World → Prop} (h : F134_den t0 t1 w R) : callD prog 134 #[t0, t1] w R :=
  den_wp mixed F134_ann func134 (by kernel_rfl) (by kernel_rfl) h

def F135_ann : Ann := (q (.seq (q (.cond (q .leaf) .leaf)) (q (.seq (q (.block (.loop [4, 5, 6, 7, 8, 9, 17, 18, 19, 20, 21, 22, 23, 24, 25, 26, 27, 28, 29, 30, 31, 32, 33, 34, 35, 36, 37, 38] [6, 17] (q (.seq (.cond .leaf .leaf) (.seq (.block (q (.seq (.draw [0, 0, 3, 4, 0, 0, 48, 64, 136, 256, 512, 512, 2047, 8191] [0, 0, 3, 4, 0, 0, 48, 64, 136, 256, 512, 512, 1024, 2048] 0 14 16383 (.take 0 (.take 1 (.take 2 (.take 3 (.take 4 (.take 5 (.take 6 (.take 7 (.only 8 (.take 9 (.take 10 (.take 11 (.take 12 (.take 13 .done))))))))))))))) (.seq (q (.cond (q .leaf) .leaf)) .leaf)))) .leaf)))))) (q .leaf)))))
def F135_den (t0 : Value) (t1 : Value) (w : World) (R : Value → World → Prop) : Prop :=
 V prog (Builtin.len_ #[23] 3 #[t0]) w fun t11 w =>
 V prog (Builtin.len_ #[23] 3 #[t1]) w fun t13 w =>
 V prog (do eqGuard .neq 3 (.tmp 11) (.tmp 13) t11 t13; binOp .neq 3 t11 t13) w fun t14 w =>
 ifD t14 (
 R (.tuple #[nilS, (.bool false)]) w) (
 V prog (Builtin.len_ #[23] 3 #[t0]) w fun t16 w =>
 ∃ (I1 : NP 2) (μ1 : NF 2), I1 nilS (i64 0) w ∧
 ∀ (t6 : Value) (t17 : Value), ∀ w5 : World, I1 t6 t17 w5 → ∀ _f : Env,
 V prog (binOp .lss 3 t17 t16) w5 fun t18 w6 =>
 ifD t18 (
 drawD w6 fun S7 w =>
 yieldS prog S7 (indexAt 23 t0 t17) fun t23 =>
 yieldS prog S7 (loadAt 3 t23) fun t24 =>
 yieldS prog S7 (indexAt 23 t1 t17) fun t27 =>
 yieldS prog S7 (loadAt 3 t27) fun t28 =>
 callD prog 154 #[t24, t28] w fun t29 w =>
 S7 w ∧
 yieldS prog S7 (extract t29 0) fun t30 =>
 yieldS prog S7 (extract t29 1) fun t31 =>
 V prog (Op.unary UnOp.not t31) w fun t33 w =>
 ifD t33 (
 R (.tuple #[nilS, (.bool false)]) w) (
 V prog (buildSlice 23 1 #[(0, t30)]) w fun t36 w =>
 V prog (Builtin.append_ #[23, 23] 23 #[t6, t36]) w fun t37 w =>
 V prog (binOp .add 3 t17 (i64 1)) w fun t38 w =>
 I1 t37 t38 w ∧ μ1 t37 t38 w < μ1 t6 t17 w5)) (
 R (.tuple #[t6, (.bool true)]) w6))
theorem F135_wp {t0 : Value} {t1 : Value} {w : World} {R : Value → World → Prop} (h : F135_den t0 t1 w R) : callD prog 135 #[t0, t1] w R :=
  den_wp mixed F135_ann func135 (by kernel_rfl) (by kernel_rfl) h

def F136_ann : Ann := (q (.seq (q (.cond (q .leaf) .leaf)) (.seq (q (.block (.loop [4, 5, 13, 14, 15, 16, 17, 18, 19, 20, 21, 22, 23, 24, 25] [13] (q (.seq (.cond .leaf .leaf) (.seq (.block (q (.seq (.draw [0, 0, 3, 4, 0, 0, 48, 64, 136] [0, 0, 3, 4, 0, 0, 48, 64, 136] 0 9 511 (.take 0 (.take 1 (.take 2 (.take 3 (.take 4 (.take 5 (.take 6 (.take 7 (.take 8 .done)))))))))) (.cond (q .leaf) .leaf)))) .leaf)))))) (q .leaf))))
def F136_den (t0 : Value) (t1 : Value) (w : World) (R : Value → World → Prop) : Prop :=
 V prog (Builtin.len_ #[23] 3 #[t0]) w fun t7 w =>
 V prog (Builtin.len_ #[23] 3 #[t1]) w fun t9 w =>
 V prog (do eqGuard .neq 3 (.tmp 7) (.tmp 9) t7 t9; binOp .neq 3 t7 t9) w fun t10 w =>
 ifD t10 (
 R (.bool false) w) (
 V prog (Builtin.len_ #[23] 3 #[t0]) w fun t12 w =>
 ∃ (I1 : NP 1) (μ1 : NF 1), I1 (i64 0) w ∧
 ∀ (t13 : Value), ∀ w5 : World, I1 t13 w5 → ∀ _f : Env,
 V prog (binOp .lss 3 t13 t12) w5 fun t14 w6 =>
 ifD t14 (
 drawD w6 fun S6 w =>
 yieldS prog S6 (indexAt 23 t0 t13) fun t18 =>
 yieldS prog S6 (loadAt 3 t18) fun t19 =>
 yieldS prog S6 (indexAt 23 t1 t13) fun t22 =>
 yieldS prog S6 (loadAt 3 t22) fun t23 =>
 yieldS prog S6 (do eqGuard .neq 3 (.tmp 19) (.tmp 23) t19 t23; binOp .neq 3 t19 t23) fun t24 =>
 ifD t24 (
 R (.bool false) w) (
 V prog (binOp .add 3 t13 (i64 1)) w fun t25 w =>
 I1 t25 w ∧ μ1 t25 w < μ1 t13 w5)) (
 R (.bool true) w6))
theorem F136_wp {t0 : Value} {t1 : Value} {w : World} {R : Value → World → Prop} (h : F136_den t0 t1 w R) : callD prog 136 #[t0, t1] w R :=
  den_wp mixed F136_ann func136 (by kernel_rfl) (by kernel_rfl) h

def F137_ann : Ann := (q (.seq (q (.block (q (.cond (.seq (.draw [0, 1, 2, 4, 0, 16, 40, 64, 128, 256, 1023] [0, 1, 2, 4, 0, 16, 40, 64, 128, 256, 512] 0 11 2047 (.take 0 (.take 1 (.take 2 (.take 3 (.take 4 (.take 5 (.take 6 (.take 7 (.only 8 (.only 9 (.take 10 .done)))))))))))) .leaf) (q (.cond (.seq (.draw [0, 1, 2, 4, 8, 0, 32, 80, 128, 256, 512, 2047] [0, 1, 2, 4, 8, 0, 32, 80, 128, 256, 512, 1024] 0 12 4095 (.take 0 (.take 1 (.take 2 (.take 3 (.take 4 (.take 5 (.take 6 (.take 7 (.take 8 (.only 9 (.only 10 (.take 11 .done))))))))))))) .leaf) (.join [32, 33, 34] [32] (q (.cond .leaf .leaf)) (.cond (q .leaf) (.join [37, 38, 39] [37] (q (.cond .leaf .leaf)) (.cond (q .leaf) (.join [42, 43, 44, 45, 46, 47, 48, 49, 50, 51, 52, 53, 54] [42] (q (.cond .leaf (q (.cond .leaf (q (.cond .leaf (q (.cond .leaf (q (.cond .leaf (q (.cond .leaf (q (.cond .leaf (q (.cond .leaf (q (.cond .leaf (q (.cond .leaf (q (.cond .leaf .leaf)))))))))))))))))))))) (.cond (q .leaf) (.join [57, 58, 59] [57] (q (.cond .leaf .leaf)) (.cond (q .leaf) (q (.cond (q .leaf) (.join [66, 67, 68] [66] (q (.cond .leaf .leaf)) (.cond (q .leaf) (.join [71, 72, 73] [71] (q (.cond .leaf .leaf)) (.cond (q .leaf) (q (.cond (q .leaf) (q (.cond (q .leaf) (.join [84, 85, 86] [84] (q (.cond .leaf .leaf)) (.cond (q .leaf) (q (.cond (q .leaf) (q (.cond (.seq (.draw [0, 1, 2, 4, 8, 0, 32, 80, 128, 256, 1023] [0, 1, 2, 4, 8, 0, 32, 80, 128, 256, 512] 0 11 2047 (.take 0 (.take 1 (.take 2 (.take 3 (.take 4 (.take 5 (.take 6 (.take 7 (.take 8 (.take 9 (.take 10 .done)))))))))))) .leaf) (q (.cond (.seq (.draw [0, 1, 2, 4, 8, 0, 32, 80, 128, 256, 1023] [0, 1, 2, 4, 8, 0, 32, 80, 128, 256, 512] 0 11 2047 (.take 0 (.take 1 (.take 2 (.take 3 (.take 4 (.take 5 (.take 6 (.take 7 (.take 8 (.take 9 (.take 10 .done)))))))))))) .leaf) (q (.cond (q .leaf) .leaf)))))))))))))))))))))))))))))))))) (q .leaf)))
def F137_den (t0 : Value) (t1 : Value) (w : World) (R : Value → World → Prop) : Prop :=
 V prog (box 71 t1) w fun t3 w =>
 V prog (fieldAt 71 t3 0) w fun t5 w =>
 V prog (loadAt 3 t5) w fun t6 w =>
 V prog (do eqGuard .eql 3 (.tmp 6) (.const (i64 3)) t6 (i64 3); binOp .eql 3 t6 (i64 3)) w fun t8 w4 =>
 ifD t8 (
 drawD w4 fun S3 w =>
 Go.Vc.Safe (t0) ∧
 yieldS prog S3 (fieldAt 137 t0 2) fun t11 =>
 yieldS prog S3 (loadAt 23 t11) fun t12 =>
 yieldS prog S3 (fieldAt 71 t3 1) fun t13 =>
 yieldS prog S3 (loadAt 3 t13) fun t14 =>
 yieldS prog S3 (indexAt 23 t12 t14) fun t15 =>
 yieldS prog S3 (loadAt 3 t15) fun t16 =>
 V prog (buildSlice 23 1 #[(0, t16)]) w fun t17 w =>
 S3 w ∧
 callD prog 155 #[t17] w fun t18 w =>
 S3 w ∧
 R t18 w) (
 V prog (do eqGuard .eql 3 (.tmp 6) (.const (i64 34)) t6 (i64 34); binOp .eql 3 t6 (i64 34)) w4 fun t20 w8 =>
 ifD t20 (
 drawD w8 fun S5 w =>
 Go.Vc.Safe (t0) ∧
 yieldS prog S5 (fieldAt 137 t0 0) fun t23 =>
 yieldS prog S5 (fieldAt 27 t23 1) fun t24 =>
 yieldS prog S5 (loadAt 23 t24) fun t25 =>
 yieldS prog S5 (fieldAt 71 t3 1) fun t26 =>
 yieldS prog S5 (loadAt 3 t26) fun t27 =>
 yieldS prog S5 (indexAt 23 t25 t27) fun t28 =>
 yieldS prog S5 (loadAt 3 t28) fun t29 =>
 V prog (buildSlice 23 1 #[(0, t29)]) w fun t30 w =>
 S5 w ∧
 callD prog 155 #[t30] w fun t31 w =>
 S5 w ∧
 R t31 w) (
 ∃ J1 : NP 1,
 (V prog (do eqGuard .eql 3 (.tmp 6) (.const (i64 4)) t6 (i64 4); binOp .eql 3 t6 (i64 4)) w8 fun t33 w =>
 ifD t33 (
 J1 t33 w) (
 V prog (do eqGuard .eql 3 (.tmp 6) (.const (i64 5)) t6 (i64 5); binOp .eql 3 t6 (i64 5)) w fun t34 w =>
 J1 t34 w)) ∧
 ∀ (t32 : Value), ∀ w14 : World, J1 t32 w14 → ∀ _f : Env,
 ifD t32 (
 V prog (buildSlice 23 1 #[(0, (i64 (-1)))]) w14 fun t35 w =>
 callD prog 155 #[t35] w fun t36 w =>
 R t36 w) (
 ∃ J2 : NP 1,
 (V prog (do eqGuard .eql 3 (.tmp 6) (.const (i64 15)) t6 (i64 15); binOp .eql 3 t6 (i64 15)) w14 fun t38 w =>
 ifD t38 (
 J2 t38 w) (
 V prog (do eqGuard .eql 3 (.tmp 6) (.const (i64 16)) t6 (i64 16); binOp .eql 3 t6 (i64 16)) w fun t39 w =>
 J2 t39 w)) ∧
 ∀ (t37 : Value), ∀ w19 : World, J2 t37 w19 → ∀ _f : Env,
 ifD t37 (
 V prog (buildSlice 23 1 #[(0, (i64 (-2)))]) w19 fun t40 w =>
 callD prog 155 #[t40] w fun t41 w =>
 R t41 w) (
 ∃ J3 : NP 1,
 (V prog (do eqGuard .eql 3 (.tmp 6) (.const (i64 6)) t6 (i64 6); binOp .eql 3 t6 (i64 6)) w19 fun t43 w =>
 ifD t43 (
 J3 t43 w) (
 V prog (do eqGuard .eql 3 (.tmp 6) (.const (i64 7)) t6 (i64 7); binOp .eql 3 t6 (i64 7)) w fun t44 w =>
 ifD t44 (
 J3 t44 w) (
 V prog (do eqGuard .eql 3 (.tmp 6) (.const (i64 8)) t6 (i64 8); binOp .eql 3 t6 (i64 8)) w fun t45 w =>
 ifD t45 (
 J3 t45 w) (
 V prog (do eqGuard .eql 3 (.tmp 6) (.const (i64 9)) t6 (i64 9); binOp .eql 3 t6 (i64 9)) w fun t46 w =>
 ifD t46 (
 J3 t46 w) (
 V prog (do eqGuard .eql 3 (.tmp 6) (.const (i64 10)) t6 (i64 10); binOp .eql 3 t6 (i64 10)) w fun t47 w =>
 ifD t47 (
 J3 t47 w) (
 V prog (do eqGuard .eql 3 (.tmp 6) (.const (i64 11)) t6 (i64 11); binOp .eql 3 t6 (i64 11)) w fun t48 w =>
 ifD t48 (
 J3 t48 w) (
 V prog (do eqGuard .eql 3 (.tmp 6) (.const (i64 12)) t6 (i64 12); binOp .eql 3 t6 (i64 12)) w fun t49 w =>
 ifD t49 (
 J3 t49 w) (
 V prog (do eqGuard .eql 3 (.tmp 6) (.const (i64 13)) t6 (i64 13); binOp .eql 3 t6 (i64 13)) w fun t50 w =>
 ifD t50 (
 J3 t50 w) (
 V prog (do eqGuard .eql 3 (.tmp 6) (.const (i64 14)) t6 (i64 14); binOp .eql 3 t6 (i64 14)) w fun t51 w =>
 ifD t51 (
 J3 t51 w) (
 V prog (do eqGuard .eql 3 (.tmp 6) (.const (i64 19)) t6 (i64 19); binOp .eql 3 t6 (i64 19)) w fun t52 w =>
 ifD t52 (
 J3 t52 w) (
 V prog (do eqGuard .eql 3 (.tmp 6) (.const (i64 20)) t6 (i64 20); binOp .eql 3 t6 (i64 20)) w fun t53 w =>
 ifD t53 (
 J3 t53 w) (
 V prog (do eqGuard .eql 3 (.tmp 6) (.const (i64 21)) t6 (i64 21); binOp .eql 3 t6 (i64 21)) w fun t54 w =>
 J3 t54 w)))))))))))) ∧
 ∀ (t42 : Value), ∀ w34 : World, J3 t42 w34 → ∀ _f : Env,
 ifD t42 (
 V prog (buildSlice 23 2 #[(0, (i64 (-2))), (1, (i64 (-2)))]) w34 fun t55 w =>
 callD prog 155 #[t55] w fun t56 w =>
 R t56 w) (
 ∃ J4 : NP 1,
 (V prog (do eqGuard .eql 3 (.tmp 6) (.const (i64 17)) t6 (i64 17); binOp .eql 3 t6 (i64 17)) w34 fun t58 w =>
 ifD t58 (
 J4 t58 w) (
 V prog (do eqGuard .eql 3 (.tmp 6) (.const (i64 18)) t6 (i64 18); binOp .eql 3 t6 (i64 18)) w fun t59 w =>
 J4 t59 w)) ∧
 ∀ (t57 : Value), ∀ w39 : World, J4 t57 w39 → ∀ _f : Env,
 ifD t57 (
 V prog (buildSlice 23 2 #[(0, (i64 (-3))), (1, (i64 (-3)))]) w39 fun t60 w =>
 callD prog 155 #[t60] w fun t61 w =>
 R t61 w) (
 V prog (do eqGuard .eql 3 (.tmp 6) (.const (i64 22)) t6 (i64 22); binOp .eql 3 t6 (i64 22)) w39 fun t63 w42 =>
 ifD t63 (
 V prog (buildSlice 23 3 #[(0, (i64 (-2))), (1, (i64 (-1))), (2, (i64 (-1)))]) w42 fun t64 w =>
 callD prog 155 #[t64] w fun t65 w =>
 R t65 w) (
 ∃ J5 : NP 1,
 (V prog (do eqGuard .eql 3 (.tmp 6) (.const (i64 24)) t6 (i64 24); binOp .eql 3 t6 (i64 24)) w42 fun t67 w =>
 ifD t67 (
 J5 t67 w) (
 V prog (do eqGuard .eql 3 (.tmp 6) (.const (i64 27)) t6 (i64 27); binOp .eql 3 t6 (i64 27)) w fun t68 w =>
 J5 t68 w)) ∧
 ∀ (t66 : Value), ∀ w47 : World, J5 t66 w47 → ∀ _f : Env,
 ifD t66 (
 V prog (buildSlice 23 1 #[(0, (i64 (-3)))]) w47 fun t69 w =>
 callD prog 155 #[t69] w fun t70 w =>
 R t70 w) (
 ∃ J6 : NP 1,
 (V prog (do eqGuard .eql 3 (.tmp 6) (.const (i64 26)) t6 (i64 26); binOp .eql 3 t6 (i64 26)) w47 fun t72 w =>
 ifD t72 (
 J6 t72 w) (
 V prog (do eqGuard .eql 3 (.tmp 6) (.const (i64 28)) t6 (i64 28); binOp .eql 3 t6 (i64 28)) w fun t73 w =>
 J6 t73 w)) ∧
 ∀ (t71 : Value), ∀ w52 : World, J6 t71 w52 → ∀ _f : Env,
 ifD t71 (
 V prog (buildSlice 23 1 #[(0, (i64 (-4)))]) w52 fun t74 w =>
 callD prog 155 #[t74] w fun t75 w =>
 R t75 w) (
 V prog (do eqGuard .eql 3 (.tmp 6) (.const (i64 29)) t6 (i64 29); binOp .eql 3 t6 (i64 29)) w52 fun t77 w55 =>
 ifD t77 (
 V prog (buildSlice 23 2 #[(0, (i64 (-4))), (1, (i64 (-3)))]) w55 fun t78 w =>
 callD prog 155 #[t78] w fun t79 w =>
 R t79 w) (
 V prog (do eqGuard .eql 3 (.tmp 6) (.const (i64 30)) t6 (i64 30); binOp .eql 3 t6 (i64 30)) w55 fun t81 w58 =>
 ifD t81 (
 V prog (buildSlice 23 3 #[(0, (i64 (-4))), (1, (i64 (-3))), (2, (i64 (-2)))]) w58 fun t82 w =>
 callD prog 155 #[t82] w fun t83 w =>
 R t83 w) (
 ∃ J7 : NP 1,
 (V prog (do eqGuard .eql 3 (.tmp 6) (.const (i64 31)) t6 (i64 31); binOp .eql 3 t6 (i64 31)) w58 fun t85 w =>
 ifD t85 (
 J7 t85 w) (
 V prog (do eqGuard .eql 3 (.tmp 6) (.const (i64 32)) t6 (i64 32); binOp .eql 3 t6 (i64 32)) w fun t86 w =>
 J7 t86 w)) ∧
 ∀ (t84 : Value), ∀ w63 : World, J7 t84 w63 → ∀ _f : Env,
 ifD t84 (
 V prog (buildSlice 23 5 #[(0, (i64 (-4))), (1, (i64 (-3))), (2, (i64 (-4))), (3, (i64 (-3))), (4, (i64 (-3)))]) w63 fun t87 w =>
 callD prog 155 #[t87] w fun t88 w =>
 R t88 w) (
 V prog (do eqGuard .eql 3 (.tmp 6) (.const (i64 36)) t6 (i64 36); binOp .eql 3 t6 (i64 36)) w63 fun t90 w66 =>
 ifD t90 (
 V prog (buildSlice 23 3 #[(0, (i64 (-4))), (1, (i64 (-3))), (2, (i64 (-3)))]) w66 fun t91 w =>
 callD prog 155 #[t91] w fun t92 w =>
 R t92 w) (
 V prog (do eqGuard .eql 3 (.tmp 6) (.const (i64 37)) t6 (i64 37); binOp .eql 3 t6 (i64 37)) w66 fun t94 w69 =>
 ifD t94 (
 drawD w69 fun S46 w =>
 Go.Vc.Safe (t0) ∧
 yieldS prog S46 (fieldAt 137 t0 0) fun t97 =>
 yieldS prog S46 (fieldAt 27 t97 3) fun t98 =>
 yieldS prog S46 (loadAt 25 t98) fun t99 =>
 yieldS prog S46 (fieldAt 71 t3 1) fun t100 =>
 yieldS prog S46 (loadAt 3 t100) fun t101 =>
 yieldS prog S46 (indexAt 25 t99 t101) fun t102 =>
 yieldS prog S46 (fieldAt 47 t102 0) fun t103 =>
 yieldS prog S46 (loadAt 23 t103) fun t104 =>
 R t104 w) (
 V prog (do eqGuard .eql 3 (.tmp 6) (.const (i64 38)) t6 (i64 38); binOp .eql 3 t6 (i64 38)) w69 fun t106 w71 =>
 ifD t106 (
 drawD w71 fun S48 w =>
 Go.Vc.Safe (t0) ∧
 yieldS prog S48 (fieldAt 137 t0 0) fun t109 =>
 yieldS prog S48 (fieldAt 27 t109 2) fun t110 =>
 yieldS prog S48 (loadAt 24 t110) fun t111 =>
 yieldS prog S48 (fieldAt 71 t3 1) fun t112 =>
 yieldS prog S48 (loadAt 3 t112) fun t113 =>
 yieldS prog S48 (indexAt 24 t111 t113) fun t114 =>
 yieldS prog S48 (fieldAt 74 t114 2) fun t115 =>
 yieldS prog S48 (loadAt 23 t115) fun t116 =>
 R t116 w) (
 V prog (do eqGuard .eql 3 (.tmp 6) (.const (i64 39)) t6 (i64 39); binOp .eql 3 t6 (i64 39)) w71 fun t118 w73 =>
 ifD t118 (
 Go.Vc.Safe (t0) ∧
 V prog (fieldAt 137 t0 1) w73 fun t121 w =>
 V prog (fieldAt 47 t121 1) w fun t122 w =>
 V prog (loadAt 3 t122) w fun t123 w =>
 callD prog 156 #[t123] w fun t124 w =>
 R t124 w) (
 R nilS w73))))))))))))))))
theorem F137_wp {t0 : Value} {t1 : Value} {w : World} {R : Value → World → Prop} (h : F137_den t0 t1 w R) : callD prog 137 #[t0, t1] w R :=
  den_wp mixed F137_ann func137 (by kernel_rfl) (by kernel_rfl) h

def F138_ann : Ann := (q (q (q .leaf)))
def F138_den (t0 : Value) (t1 : Value) (w : World) (R : Value → World → Prop) : Prop :=
 V prog (box 71 t1) w fun t3 w =>
 V prog (makeSlice 23 (i64 8) (i64 8)) w fun t6 w =>
 V prog (loadAt 71 t3) w fun t8 w =>
 callD prog 141 #[t0, t8, t6] w fun t10 w =>
 V prog (Builtin.len_ #[23] 3 #[t10]) w fun t11 w =>
 R t11 w
theorem F138_wp {t0 : Value} {t1 : Value} {w : World} {R : Value → World → Prop} (h : F138_den t0 t1 w R) : callD prog 138 #[t0, t1] w R :=
  den_wp mixed F138_ann func138 (by kernel_rfl) (by kernel_rfl) h

def F139_ann : Ann := (q (.seq (q (.block (.loop [6, 7, 8, 13, 14, 15, 16, 17, 18, 19, 20, 21, 22, 23, 24, 25] [13] (q (.seq (.cond .leaf .leaf) (.seq (.block (q (q (.cond (q .leaf) .leaf)))) .leaf)))))) (.seq (.seq (.draw [0, 1, 2, 4, 8, 24, 40, 72, 136, 256, 768, 1280, 2304, 4360, 8200, 16392, 36864, 65536, 196608, 327680, 589824, 1114112, 2097152, 6291456, 10485760, 2097152, 35651584, 69206016, 153092096, 270598144, 536936448, 1073807360] [0, 1, 2, 4, 8, 24, 40, 72, 136, 256, 768, 1280, 2304, 4360, 8200, 16392, 32768, 65536, 196608, 327680, 589824, 1114112, 2097152, 6291456, 10485760, 2097152, 35651584, 69206016, 153092096, 270598144, 536936448, 1073807360] 0 32 4294967295 (.take 0 (.take 1 (.take 2 (.take 3 (.take 4 (.take 5 (.take 6 (.only 7 (.take 8 (.take 9 (.take 10 (.take 11 (.only 12 (.take 13 (.take 14 (.take 15 (.take 16 (.take 17 (.take 18 (.take 19 (.only 20 (.take 21 (.take 22 (.take 23 (.take 24 (.take 25 (.take 26 (.take 27 (.take 28 (.take 29 (.take 30 (.take 31 .done))))))))))))))))))))))))))))))))) (.cond (q .leaf) .leaf)) (q .leaf))))
def F139_den (t0 : Value) (t1 : Value) (t2 : Value) (w : World) (R : Value → World → Prop) : Prop :=
 V prog (box 71 t1) w fun t4 w =>
 V prog (loadAt 71 t4) w fun t10 w =>
 callD prog 137 #[t0, t10] w fun t11 w =>
 V prog (Builtin.len_ #[23] 3 #[t11]) w fun t12 w =>
 ∃ (I1 : NP 1) (μ1 : NF 1), I1 (i64 0) w ∧
 ∀ (t13 : Value), ∀ w5 : World, I1 t13 w5 → ∀ _f : Env,
 V prog (binOp .lss 3 t13 t12) w5 fun t14 w6 =>
 ifD t14 (
 V prog (indexAt 23 t11 t13) w6 fun t16 w =>
 V prog (loadAt 3 t16) w fun t17 w =>
 V prog (indexAt 23 t2 t13) w fun t20 w =>
 V prog (loadAt 3 t20) w fun t21 w =>
 callD prog 157 #[t21, t17] w fun t23 w =>
 V prog (Op.unary UnOp.not t23) w fun t24 w =>
 ifD t24 (
 R (i64 11) w) (
 V prog (binOp .add 3 t13 (i64 1)) w fun t25 w =>
 I1 t25 w ∧ μ1 t25 w < μ1 t13 w5)) (
 drawD w6 fun S7 w =>
 yieldS prog S7 (fieldAt 71 t4 0) fun t26 =>
 yieldS prog S7 (loadAt 3 t26) fun t27 =>
 yieldS prog S7 (do eqGuard .eql 3 (.tmp 27) (.const (i64 22)) t27 (i64 22); binOp .eql 3 t27 (i64 22)) fun t28 =>
 gdY t28 true (fun K => K t2) fun t30 =>
 gdY t28 true (fun K => yieldS prog S7 (indexAt 23 t30 (i64 1)) K) fun t31 =>
 gdY t28 true (fun K => yieldS prog S7 (loadAt 3 t31) K) fun t32 =>
 gd t28 true (fun K => callD prog 158 #[t32] w K) w fun t33 w =>
 S7 w ∧
 gdY t28 true (fun K => K t33) fun t34 =>
 gdY t34 true (fun K => K t2) fun t35 =>
 gdY t34 true (fun K => yieldS prog S7 (indexAt 23 t35 (i64 2)) K) fun t36 =>
 gdY t34 true (fun K => yieldS prog S7 (loadAt 3 t36) K) fun t37 =>
 gd t34 true (fun K => callD prog 158 #[t37] w K) w fun t38 w =>
 S7 w ∧
 gdY t28 true (fun K => pickD t34 t38 (.bool false) K) fun t39 =>
 gdY t28 true (fun K => yieldS prog S7 (Op.unary UnOp.not t39) K) fun t40 =>
 pickD t28 t40 (.bool false) fun t41 =>
 gdY t41 true (fun K => K t2) fun t43 =>
 gdY t41 true (fun K => yieldS prog S7 (indexAt 23 t43 (i64 1)) K) fun t44 =>
 gdY t41 true (fun K => yieldS prog S7 (loadAt 3 t44) K) fun t45 =>
 gd t41 true (fun K => callD prog 159 #[t45] w K) w fun t46 w =>
 S7 w ∧
 gdY t41 true (fun K => K t46) fun t47 =>
 gdY t47 true (fun K => K t2) fun t48 =>
 gdY t47 true (fun K => yieldS prog S7 (indexAt 23 t48 (i64 1)) K) fun t49 =>
 gdY t47 true (fun K => yieldS prog S7 (loadAt 3 t49) K) fun t50 =>
 gdY t47 true (fun K => K t2) fun t51 =>
 gdY t47 true (fun K => yieldS prog S7 (indexAt 23 t51 (i64 2)) K) fun t52 =>
 gdY t47 true (fun K => yieldS prog S7 (loadAt 3 t52) K) fun t53 =>
 gdY t47 true (fun K => yieldS prog S7 (do eqGuard .eql 3 (.tmp 50) (.tmp 53) t50 t53; binOp .eql 3 t50 t53) K) fun t54 =>
 gdY t41 true (fun K => pickD t47 t54 (.bool false) K) fun t55 =>
 gdY t41 true (fun K => yieldS prog S7 (Op.unary UnOp.not t55) K) fun t56 =>
 pickD t41 t56 (.bool false) fun t57 =>
 ifD t57 (
 R (i64 11) w) (
 R (i64 0) w))
theorem F139_wp {t0 : Value} {t1 : Value} {t2 : Value} {w : World} {R : Value → World → Prop} (h : F139_den t0 t1 t2 w R) : callD prog 139 #[t0, t1, t2] w R :=
  den_wp mixed F139_ann func139 (by kernel_rfl) (by kernel_rfl) h

def F140_ann : Ann := (q (q (.seq (q (.block (.loop [7, 8, 9, 14, 15, 16, 17, 18, 19, 20, 21, 22, 23, 24, 25, 26, 27, 28] [7, 14] (q (.seq (.cond .leaf .leaf) (.seq (.block (q .leaf)) .leaf)))))) (.seq (q (.block (q (.cond .leaf (q (.cond .leaf (q (.cond .leaf (q (.cond .leaf .leaf)))))))))) (.seq (q (.cond (q .leaf) .leaf)) (q .leaf))))))
def F140_den (t0 : Value) (t1 : Value) (t2 : Value) (w : World) (R : Value → World → Prop) : Prop :=
 V prog (box 71 t1) w fun t4 w =>
 V prog (loadAt 71 t4) w fun t11 w =>
 callD prog 137 #[t0, t11] w fun t12 w =>
 V prog (Builtin.len_ #[23] 3 #[t12]) w fun t13 w =>
 ∃ (I1 : NP 2) (μ1 : NF 2), I1 (.bool false) (i64 0) w ∧
 ∀ (t7 : Value) (t14 : Value), ∀ w5 : World, I1 t7 t14 w5 → ∀ _f : Env,
 V prog (binOp .lss 3 t14 t13) w5 fun t15 w6 =>
 ifD t15 (
 V prog (indexAt 23 t12 t14) w6 fun t17 w =>
 V prog (loadAt 3 t17) w fun t18 w =>
 gd t7 false (fun K => K t2 w) w fun t21 w =>
 gd t7 false (fun K => K t14 w) w fun t22 w =>
 gd t7 false (fun K => V prog (indexAt 23 t21 t22) w K) w fun t23 w =>
 gd t7 false (fun K => V prog (loadAt 3 t23) w K) w fun t24 w =>
 gd t7 false (fun K => K t18 w) w fun t25 w =>
 gd t7 false (fun K => callD prog 160 #[t24, t25] w K) w fun t26 w =>
 pickD t7 (.bool true) t26 fun t27 =>
 V prog (binOp .add 3 t14 (i64 1)) w fun t28 w =>
 I1 t27 t28 w ∧ μ1 t27 t28 w < μ1 t7 t14 w5) (
 V prog (fieldAt 71 t4 0) w6 fun t29 w =>
 V prog (loadAt 3 t29) w fun t30 w =>
 V prog (do eqGuard .eql 3 (.tmp 30) (.const (i64 22)) t30 (i64 22); binOp .eql 3 t30 (i64 22)) w fun t32 w19 =>
 ifD t32 (
 V prog (indexAt 23 t2 (i64 1)) w19 fun t34 w =>
 V prog (loadAt 3 t34) w fun t35 w =>
 callD prog 159 #[t35] w fun t36 w =>
 gd t36 true (fun K => K t2 w) w fun t38 w =>
 gd t36 true (fun K => V prog (indexAt 23 t38 (i64 0)) w K) w fun t39 w =>
 gd t36 true (fun K => V prog (loadAt 3 t39) w K) w fun t40 w =>
 gd t36 true (fun K => V prog (do eqGuard .eql 3 (.tmp 40) (.const (i64 2)) t40 (i64 2); binOp .eql 3 t40 (i64 2)) w K) w fun t41 w =>
 pickD t36 t41 (.bool false) fun t42 =>
 ifD t42 (
 R (i64 12) w) (
 R (i64 0) w)) (
 V prog (do eqGuard .eql 3 (.tmp 30) (.const (i64 30)) t30 (i64 30); binOp .eql 3 t30 (i64 30)) w19 fun t44 w28 =>
 ifD t44 (
 gd t7 false (fun K => K t2 w28) w28 fun t47 w =>
 gd t7 false (fun K => V prog (indexAt 23 t47 (i64 0)) w K) w fun t48 w =>
 gd t7 false (fun K => V prog (loadAt 3 t48) w K) w fun t49 w =>
 gd t7 false (fun K => V prog (do eqGuard .eql 3 (.tmp 49) (.const (i64 3)) t49 (i64 3); binOp .eql 3 t49 (i64 3)) w K) w fun t50 w =>
 gd t7 false (fun K => K t50 w) w fun t51 w =>
 gd t51 true (fun K => K t2 w) w fun t52 w =>
 gd t51 true (fun K => V prog (indexAt 23 t52 (i64 2)) w K) w fun t53 w =>
 gd t51 true (fun K => V prog (loadAt 3 t53) w K) w fun t54 w =>
 gd t51 true (fun K => V prog (do eqGuard .eql 3 (.tmp 54) (.const (i64 2)) t54 (i64 2); binOp .eql 3 t54 (i64 2)) w K) w fun t55 w =>
 gd t7 false (fun K => pickD t51 t55 (.bool false) fun v => K v w) w fun t56 w =>
 pickD t7 (.bool true) t56 fun t57 =>
 ifD t57 (
 R (i64 12) w) (
 R (i64 0) w)) (
 V prog (do eqGuard .eql 3 (.tmp 30) (.const (i64 31)) t30 (i64 31); binOp .eql 3 t30 (i64 31)) w28 fun t59 w40 =>
 ifD t59 (
 gd t7 false (fun K => K t2 w40) w40 fun t62 w =>
 gd t7 false (fun K => V prog (indexAt 23 t62 (i64 0)) w K) w fun t63 w =>
 gd t7 false (fun K => V prog (loadAt 3 t63) w K) w fun t64 w =>
 gd t7 false (fun K => V prog (do eqGuard .eql 3 (.tmp 64) (.const (i64 3)) t64 (i64 3); binOp .eql 3 t64 (i64 3)) w K) w fun t65 w =>
 gd t7 false (fun K => K t65 w) w fun t66 w =>
 gd t66 true (fun K => K t2 w) w fun t67 w =>
 gd t66 true (fun K => V prog (indexAt 23 t67 (i64 2)) w K) w fun t68 w =>
 gd t66 true (fun K => V prog (loadAt 3 t68) w K) w fun t69 w =>
 gd t66 true (fun K => V prog (do eqGuard .eql 3 (.tmp 69) (.const (i64 4)) t69 (i64 4); binOp .eql 3 t69 (i64 4)) w K) w fun t70 w =>
 gd t7 false (fun K => pickD t66 t70 (.bool false) fun v => K v w) w fun t71 w =>
 pickD t7 (.bool true) t71 fun t72 =>
 ifD t72 (
 R (i64 12) w) (
 R (i64 0) w)) (
 V prog (do eqGuard .eql 3 (.tmp 30) (.const (i64 36)) t30 (i64 36); binOp .eql 3 t30 (i64 36)) w40 fun t74 w52 =>
 ifD t74 (
 gd t7 false (fun K => V prog (fieldAt 71 t4 1) w52 K) w52 fun t77 w =>
 gd t7 false (fun K => V prog (loadAt 3 t77) w K) w fun t78 w =>
 gd t7 false (fun K => V prog (do eqGuard .eql 3 (.tmp 78) (.const (i64 1)) t78 (i64 1); binOp .eql 3 t78 (i64 1)) w K) w fun t79 w =>
 gd t7 false (fun K => K t79 w) w fun t80 w =>
 gd t80 true (fun K => K t2 w) w fun t81 w =>
 gd t80 true (fun K => V prog (indexAt 23 t81 (i64 0)) w K) w fun t82 w =>
 gd t80 true (fun K => V prog (loadAt 3 t82) w K) w fun t83 w =>
 gd t80 true (fun K => V prog (do eqGuard .eql 3 (.tmp 83) (.const (i64 4)) t83 (i64 4); binOp .eql 3 t83 (i64 4)) w K) w fun t84 w =>
 gd t7 false (fun K => pickD t80 t84 (.bool false) fun v => K v w) w fun t85 w =>
 pickD t7 (.bool true) t85 fun t86 =>
 ifD t86 (
 R (i64 12) w) (
 R (i64 0) w)) (
 ifD t7 (
 R (i64 12) w52) (
 R (i64 0) w52))))))
theorem F140_wp {t0 : Value} {t1 : Value} {t2 : Value} {w : World} {R : Value → World → Prop} (h : F140_den t0 t1 t2 w R) : callD prog 140 #[t0, t1, t2] w R :=
  den_wp mixed F140_ann func140 (by kernel_rfl) (by kernel_rfl) h

def F141_ann : Ann := (q (.seq (q (.block (.join [9, 10, 11, 12, 13, 14] [9] (q (.cond .leaf (q (.cond .leaf (q (.cond .leaf (q (.cond .leaf .leaf)))))))) (.cond (q .leaf) (q (.cond (.seq (.draw [0, 1, 2, 4, 0, 16, 40, 64, 128, 256, 1023] [0, 1, 2, 4, 0, 16, 40, 64, 128, 256, 512] 0 11 2047 (.take 0 (.take 1 (.take 2 (.take 3 (.take 4 (.take 5 (.take 6 (.take 7 (.only 8 (.only 9 (.take 10 .done)))))))))))) .leaf) (q (.cond (.seq (.draw [0, 1, 2, 4, 8, 0, 32, 80, 128, 256, 512, 2047] [0, 1, 2, 4, 8, 0, 32, 80, 128, 256, 512, 1024] 0 12 4095 (.take 0 (.take 1 (.take 2 (.take 3 (.take 4 (.take 5 (.take 6 (.take 7 (.take 8 (.only 9 (.only 10 (.take 11 .done))))))))))))) .leaf) (q (.cond (.seq (.draw [0, 1, 2, 0, 8, 16, 36, 64, 255] [0, 1, 2, 0, 8, 16, 36, 64, 128] 0 9 511 (.take 0 (.take 1 (.take 2 (.take 3 (.take 4 (.take 5 (.only 6 (.only 7 (.take 8 .done)))))))))) .leaf) (.join [52, 53, 54, 55, 56, 57, 58, 59, 60, 61, 62, 63, 64] [52] (q (.cond .leaf (q (.cond .leaf (q (.cond .leaf (q (.cond .leaf (q (.cond .leaf (q (.cond .leaf (q (.cond .leaf (q (.cond .leaf (q (.cond .leaf (q (.cond .leaf (q (.cond .leaf .leaf)))))))))))))))))))))) (.cond (.seq (.draw [0, 1, 2, 0, 8, 16, 36, 64, 192, 511] [0, 1, 2, 0, 8, 16, 36, 64, 128, 256] 0 10 1023 (.take 0 (.take 1 (.take 2 (.take 3 (.take 4 (.take 5 (.only 6 (.only 7 (.only 8 (.take 9 .done))))))))))) .leaf) (.join [74, 75, 76] [74] (q (.cond .leaf .leaf)) (.cond (q .leaf) (q (.cond (q .leaf) (.join [88, 89, 90] [88] (q (.cond .leaf .leaf)) (.cond (q .leaf) (q (.cond (q .leaf) (q (.cond (.seq (q (.cond (q .leaf) .leaf)) (q .leaf)) (q (.cond (q .leaf) (q (.cond (.seq (.draw [0, 1, 2, 4, 8, 0, 32, 80, 128, 256, 512, 2047] [0, 1, 2, 4, 8, 0, 32, 80, 128, 256, 512, 1024] 0 12 4095 (.take 0 (.take 1 (.take 2 (.take 3 (.take 4 (.take 5 (.take 6 (.take 7 (.take 8 (.take 9 (.only 10 (.take 11 .done))))))))))))) .leaf) (q (.cond (.seq (.draw [0, 1, 2, 4, 8, 0, 32, 80, 128, 256, 512, 2047] [0, 1, 2, 4, 8, 0, 32, 80, 128, 256, 512, 1024] 0 12 4095 (.take 0 (.take 1 (.take 2 (.take 3 (.take 4 (.take 5 (.take 6 (.take 7 (.take 8 (.take 9 (.only 10 (.take 11 .done))))))))))))) .leaf) .leaf)))))))))))))))))))))))))))) (q .leaf)))
def F141_den (t0 : Value) (t1 : Value) (t2 : Value) (w : World) (R : Value → World → Prop) : Prop :=
 V prog (box 71 t1) w fun t4 w =>
 V prog (fieldAt 71 t4 0) w fun t7 w =>
 V prog (loadAt 3 t7) w fun t8 w =>
 ∃ J1 : NP 1,
 (V prog (do eqGuard .eql 3 (.tmp 8) (.const (i64 1)) t8 (i64 1); binOp .eql 3 t8 (i64 1)) w fun t10 w =>
 ifD t10 (
 J1 t10 w) (
 V prog (do eqGuard .eql 3 (.tmp 8) (.const (i64 17)) t8 (i64 17); binOp .eql 3 t8 (i64 17)) w fun t11 w =>
 ifD t11 (
 J1 t11 w) (
 V prog (do eqGuard .eql 3 (.tmp 8) (.const (i64 18)) t8 (i64 18); binOp .eql 3 t8 (i64 18)) w fun t12 w =>
 ifD t12 (
 J1 t12 w) (
 V prog (do eqGuard .eql 3 (.tmp 8) (.const (i64 26)) t8 (i64 26); binOp .eql 3 t8 (i64 26)) w fun t13 w =>
 ifD t13 (
 J1 t13 w) (
 V prog (do eqGuard .eql 3 (.tmp 8) (.const (i64 28)) t8 (i64 28); binOp .eql 3 t8 (i64 28)) w fun t14 w =>
 J1 t14 w))))) ∧
 ∀ (t9 : Value), ∀ w9 : World, J1 t9 w9 → ∀ _f : Env,
 ifD t9 (
 V prog (buildSlice 23 1 #[(0, (i64 1))]) w9 fun t15 w =>
 callD prog 155 #[t15] w fun t16 w =>
 R t16 w) (
 V prog (do eqGuard .eql 3 (.tmp 8) (.const (i64 2)) t8 (i64 2); binOp .eql 3 t8 (i64 2)) w9 fun t18 w12 =>
 ifD t18 (
 drawD w12 fun S9 w =>
 Go.Vc.Safe (t0) ∧
 yieldS prog S9 (fieldAt 137 t0 2) fun t21 =>
 yieldS prog S9 (loadAt 23 t21) fun t22 =>
 yieldS prog S9 (fieldAt 71 t4 1) fun t23 =>
 yieldS prog S9 (loadAt 3 t23) fun t24 =>
 yieldS prog S9 (indexAt 23 t22 t24) fun t25 =>
 yieldS prog S9 (loadAt 3 t25) fun t26 =>
 V prog (buildSlice 23 1 #[(0, t26)]) w fun t27 w =>
 S9 w ∧
 callD prog 155 #[t27] w fun t28 w =>
 S9 w ∧
 R t28 w) (
 V prog (do eqGuard .eql 3 (.tmp 8) (.const (i64 33)) t8 (i64 33); binOp .eql 3 t8 (i64 33)) w12 fun t30 w16 =>
 ifD t30 (
 drawD w16 fun S11 w =>
 Go.Vc.Safe (t0) ∧
 yieldS prog S11 (fieldAt 137 t0 0) fun t33 =>
 yieldS prog S11 (fieldAt 27 t33 1) fun t34 =>
 yieldS prog S11 (loadAt 23 t34) fun t35 =>
 yieldS prog S11 (fieldAt 71 t4 1) fun t36 =>
 yieldS prog S11 (loadAt 3 t36) fun t37 =>
 yieldS prog S11 (indexAt 23 t35 t37) fun t38 =>
 yieldS prog S11 (loadAt 3 t38) fun t39 =>
 V prog (buildSlice 23 1 #[(0, t39)]) w fun t40 w =>
 S11 w ∧
 callD prog 155 #[t40] w fun t41 w =>
 S11 w ∧
 R t41 w) (
 V prog (do eqGuard .eql 3 (.tmp 8) (.const (i64 5)) t8 (i64 5); binOp .eql 3 t8 (i64 5)) w16 fun t43 w20 =>
 ifD t43 (
 drawD w20 fun S13 w =>
 yieldS prog S13 (indexAt 23 t2 (i64 0)) fun t45 =>
 yieldS prog S13 (loadAt 3 t45) fun t46 =>
 yieldS prog S13 (indexAt 23 t2 (i64 0)) fun t48 =>
 yieldS prog S13 (loadAt 3 t48) fun t49 =>
 V prog (buildSlice 23 2 #[(0, t46), (1, t49)]) w fun t50 w =>
 S13 w ∧
 callD prog 155 #[t50] w fun t51 w =>
 S13 w ∧
 R t51 w) (
 ∃ J2 : NP 1,
 (V prog (do eqGuard .eql 3 (.tmp 8) (.const (i64 6)) t8 (i64 6); binOp .eql 3 t8 (i64 6)) w20 fun t53 w =>
 ifD t53 (
 J2 t53 w) (
 V prog (do eqGuard .eql 3 (.tmp 8) (.const (i64 7)) t8 (i64 7); binOp .eql 3 t8 (i64 7)) w fun t54 w =>
 ifD t54 (
 J2 t54 w) (
 V prog (do eqGuard .eql 3 (.tmp 8) (.const (i64 8)) t8 (i64 8); binOp .eql 3 t8 (i64 8)) w fun t55 w =>
 ifD t55 (
 J2 t55 w) (
 V prog (do eqGuard .eql 3 (.tmp 8) (.const (i64 9)) t8 (i64 9); binOp .eql 3 t8 (i64 9)) w fun t56 w =>
 ifD t56 (
 J2 t56 w) (
 V prog (do eqGuard .eql 3 (.tmp 8) (.const (i64 10)) t8 (i64 10); binOp .eql 3 t8 (i64 10)) w fun t57 w =>
 ifD t57 (
 J2 t57 w) (
 V prog (do eqGuard .eql 3 (.tmp 8) (.const (i64 11)) t8 (i64 11); binOp .eql 3 t8 (i64 11)) w fun t58 w =>
 ifD t58 (
 J2 t58 w) (
 V prog (do eqGuard .eql 3 (.tmp 8) (.const (i64 12)) t8 (i64 12); binOp .eql 3 t8 (i64 12)) w fun t59 w =>
 ifD t59 (
 J2 t59 w) (
 V prog (do eqGuard .eql 3 (.tmp 8) (.const (i64 13)) t8 (i64 13); binOp .eql 3 t8 (i64 13)) w fun t60 w =>
 ifD t60 (
 J2 t60 w) (
 V prog (do eqGuard .eql 3 (.tmp 8) (.const (i64 14)) t8 (i64 14); binOp .eql 3 t8 (i64 14)) w fun t61 w =>
 ifD t61 (
 J2 t61 w) (
 V prog (do eqGuard .eql 3 (.tmp 8) (.const (i64 19)) t8 (i64 19); binOp .eql 3 t8 (i64 19)) w fun t62 w =>
 ifD t62 (
 J2 t62 w) (
 V prog (do eqGuard .eql 3 (.tmp 8) (.const (i64 20)) t8 (i64 20); binOp .eql 3 t8 (i64 20)) w fun t63 w =>
 ifD t63 (
 J2 t63 w) (
 V prog (do eqGuard .eql 3 (.tmp 8) (.const (i64 21)) t8 (i64 21); binOp .eql 3 t8 (i64 21)) w fun t64 w =>
 J2 t64 w)))))))))))) ∧
 ∀ (t52 : Value), ∀ w36 : World, J2 t52 w36 → ∀ _f : Env,
 ifD t52 (
 drawD w36 fun S26 w =>
 yieldS prog S26 (indexAt 23 t2 (i64 0)) fun t66 =>
 yieldS prog S26 (loadAt 3 t66) fun t67 =>
 yieldS prog S26 (indexAt 23 t2 (i64 1)) fun t69 =>
 yieldS prog S26 (loadAt 3 t69) fun t70 =>
 callD prog 161 #[t67, t70] w fun t71 w =>
 S26 w ∧
 V prog (buildSlice 23 1 #[(0, t71)]) w fun t72 w =>
 S26 w ∧
 callD prog 155 #[t72] w fun t73 w =>
 S26 w ∧
 R t73 w) (
 ∃ J3 : NP 1,
 (V prog (do eqGuard .eql 3 (.tmp 8) (.const (i64 15)) t8 (i64 15); binOp .eql 3 t8 (i64 15)) w36 fun t75 w =>
 ifD t75 (
 J3 t75 w) (
 V prog (do eqGuard .eql 3 (.tmp 8) (.const (i64 16)) t8 (i64 16); binOp .eql 3 t8 (i64 16)) w fun t76 w =>
 J3 t76 w)) ∧
 ∀ (t74 : Value), ∀ w43 : World, J3 t74 w43 → ∀ _f : Env,
 ifD t74 (
 V prog (indexAt 23 t2 (i64 0)) w43 fun t78 w =>
 V prog (loadAt 3 t78) w fun t79 w =>
 V prog (buildSlice 23 1 #[(0, t79)]) w fun t80 w =>
 callD prog 155 #[t80] w fun t81 w =>
 R t81 w) (
 V prog (do eqGuard .eql 3 (.tmp 8) (.const (i64 22)) t8 (i64 22); binOp .eql 3 t8 (i64 22)) w43 fun t83 w48 =>
 ifD t83 (
 callD prog 162 #[t2] w48 fun t85 w =>
 V prog (buildSlice 23 1 #[(0, t85)]) w fun t86 w =>
 callD prog 155 #[t86] w fun t87 w =>
 R t87 w) (
 ∃ J4 : NP 1,
 (V prog (do eqGuard .eql 3 (.tmp 8) (.const (i64 25)) t8 (i64 25); binOp .eql 3 t8 (i64 25)) w48 fun t89 w =>
 ifD t89 (
 J4 t89 w) (
 V prog (do eqGuard .eql 3 (.tmp 8) (.const (i64 27)) t8 (i64 27); binOp .eql 3 t8 (i64 27)) w fun t90 w =>
 J4 t90 w)) ∧
 ∀ (t88 : Value), ∀ w54 : World, J4 t88 w54 → ∀ _f : Env,
 ifD t88 (
 V prog (fieldAt 71 t4 1) w54 fun t91 w =>
 V prog (loadAt 3 t91) w fun t92 w =>
 V prog (buildSlice 23 1 #[(0, t92)]) w fun t93 w =>
 callD prog 155 #[t93] w fun t94 w =>
 R t94 w) (
 V prog (do eqGuard .eql 3 (.tmp 8) (.const (i64 29)) t8 (i64 29); binOp .eql 3 t8 (i64 29)) w54 fun t96 w59 =>
 ifD t96 (
 V prog (indexAt 23 t2 (i64 0)) w59 fun t98 w =>
 V prog (loadAt 3 t98) w fun t99 w =>
 callD prog 163 #[t99] w fun t100 w =>
 V prog (buildSlice 23 1 #[(0, t100)]) w fun t101 w =>
 callD prog 155 #[t101] w fun t102 w =>
 R t102 w) (
 V prog (do eqGuard .eql 3 (.tmp 8) (.const (i64 32)) t8 (i64 32); binOp .eql 3 t8 (i64 32)) w59 fun t104 w65 =>
 ifD t104 (
 V prog (indexAt 23 t2 (i64 0)) w65 fun t106 w =>
 V prog (loadAt 3 t106) w fun t107 w =>
 V prog (do eqGuard .eql 3 (.tmp 107) (.const (i64 4)) t107 (i64 4); binOp .eql 3 t107 (i64 4)) w fun t108 w =>
 gd t108 false (fun K => K t2 w) w fun t110 w =>
 gd t108 false (fun K => V prog (indexAt 23 t110 (i64 2)) w K) w fun t111 w =>
 gd t108 false (fun K => V prog (loadAt 3 t111) w K) w fun t112 w =>
 gd t108 false (fun K => V prog (do eqGuard .eql 3 (.tmp 112) (.const (i64 4)) t112 (i64 4); binOp .eql 3 t112 (i64 4)) w K) w fun t113 w72 =>
 pickD t108 (.bool true) t113 fun t114 =>
 ifD t114 (
 V prog (buildSlice 23 1 #[(0, (i64 2))]) w72 fun t115 w =>
 callD prog 155 #[t115] w fun t116 w =>
 R t116 w) (
 V prog (buildSlice 23 1 #[(0, (i64 1))]) w72 fun t117 w =>
 callD prog 155 #[t117] w fun t118 w =>
 R t118 w)) (
 V prog (do eqGuard .eql 3 (.tmp 8) (.const (i64 35)) t8 (i64 35); binOp .eql 3 t8 (i64 35)) w65 fun t120 w78 =>
 ifD t120 (
 V prog (fieldAt 71 t4 1) w78 fun t121 w =>
 V prog (loadAt 3 t121) w fun t122 w =>
 V prog (binOp .add 3 (i64 3) t122) w fun t123 w =>
 V prog (binOp .sub 3 t123 (i64 1)) w fun t124 w =>
 V prog (buildSlice 23 1 #[(0, t124)]) w fun t125 w =>
 callD prog 155 #[t125] w fun t126 w =>
 R t126 w) (
 V prog (do eqGuard .eql 3 (.tmp 8) (.const (i64 37)) t8 (i64 37); binOp .eql 3 t8 (i64 37)) w78 fun t128 w85 =>
 ifD t128 (
 drawD w85 fun S44 w =>
 Go.Vc.Safe (t0) ∧
 yieldS prog S44 (fieldAt 137 t0 0) fun t131 =>
 yieldS prog S44 (fieldAt 27 t131 3) fun t132 =>
 yieldS prog S44 (loadAt 25 t132) fun t133 =>
 yieldS prog S44 (fieldAt 71 t4 1) fun t134 =>
 yieldS prog S44 (loadAt 3 t134) fun t135 =>
 yieldS prog S44 (indexAt 25 t133 t135) fun t136 =>
 yieldS prog S44 (fieldAt 47 t136 1) fun t137 =>
 yieldS prog S44 (loadAt 3 t137) fun t138 =>
 callD prog 156 #[t138] w fun t139 w =>
 S44 w ∧
 R t139 w) (
 V prog (do eqGuard .eql 3 (.tmp 8) (.const (i64 38)) t8 (i64 38); binOp .eql 3 t8 (i64 38)) w85 fun t141 w88 =>
 ifD t141 (
 drawD w88 fun S46 w =>
 Go.Vc.Safe (t0) ∧
 yieldS prog S46 (fieldAt 137 t0 0) fun t144 =>
 yieldS prog S46 (fieldAt 27 t144 2) fun t145 =>
 yieldS prog S46 (loadAt 24 t145) fun t146 =>
 yieldS prog S46 (fieldAt 71 t4 1) fun t147 =>
 yieldS prog S46 (loadAt 3 t147) fun t148 =>
 yieldS prog S46 (indexAt 24 t146 t148) fun t149 =>
 yieldS prog S46 (fieldAt 74 t149 3) fun t150 =>
 yieldS prog S46 (loadAt 3 t150) fun t151 =>
 callD prog 156 #[t151] w fun t152 w =>
 S46 w ∧
 R t152 w) (
 R nilS w88)))))))))))))
theorem F141_wp {t0 : Value} {t1 : Value} {t2 : Value} {w : World} {R : Value → World → Prop} (h : F141_den t0 t1 t2 w R) : callD prog 141 #[t0, t1, t2] w R :=
  den_wp mixed F141_ann func141 (by kernel_rfl) (by kernel_rfl) h

def F142_ann : Ann := (q (q .leaf))
def F142_den (t0 : Value) (w : World) (R : Value → World → Prop) : Prop :=
 V prog (binOp .geq 21 t0 (Value.int IntKind.i32 97)) w fun t4 w =>
 gd t4 true (fun K => K t0 w) w fun t6 w =>
 gd t4 true (fun K => V prog (binOp .leq 21 t6 (Value.int IntKind.i32 122)) w K) w fun t7 w =>
 pickD t4 t7 (.bool false) fun t8 =>
 gd t8 false (fun K => K t0 w) w fun t10 w =>
 gd t8 false (fun K => V prog (binOp .geq 21 t10 (Value.int IntKind.i32 48)) w K) w fun t11 w =>
 gd t8 false (fun K => K t11 w) w fun t12 w =>
 gd t12 true (fun K => K t0 w) w fun t13 w =>
 gd t12 true (fun K => V prog (binOp .leq 21 t13 (Value.int IntKind.i32 57)) w K) w fun t14 w =>
 gd t8 false (fun K => pickD t12 t14 (.bool false) fun v => K v w) w fun t15 w =>
 pickD t8 (.bool true) t15 fun t16 =>
 gd t16 false (fun K => K t0 w) w fun t18 w =>
 gd t16 false (fun K => V prog (do eqGuard .eql 21 (.tmp 18) (.const (Value.int IntKind.i32 45)) t18 (Value.int IntKind.i32 45); binOp .eql 21 t18 (Value.int IntKind.i32 45)) w K) w fun t19 w =>
 pickD t16 (.bool true) t19 fun t20 =>
 gd t20 false (fun K => K t0 w) w fun t22 w =>
 gd t20 false (fun K => V prog (do eqGuard .eql 21 (.tmp 22) (.const (Value.int IntKind.i32 46)) t22 (Value.int IntKind.i32 46); binOp .eql 21 t22 (Value.int IntKind.i32 46)) w K) w fun t23 w =>
 pickD t20 (.bool true) t23 fun t24 =>
 gd t24 false (fun K => K t0 w) w fun t26 w =>
 gd t24 false (fun K => V prog (binOp .geq 21 t26 (Value.int IntKind.i32 224)) w K) w fun t27 w =>
 gd t24 false (fun K => K t27 w) w fun t28 w =>
 gd t28 true (fun K => K t0 w) w fun t29 w =>
 gd t28 true (fun K => V prog (binOp .leq 21 t29 (Value.int IntKind.i32 255)) w K) w fun t30 w =>
 gd t24 false (fun K => pickD t28 t30 (.bool false) fun v => K v w) w fun t31 w =>
 pickD t24 (.bool true) t31 fun t32 =>
 R t32 w
theorem F142_wp {t0 : Value} {w : World} {R : Value → World → Prop} (h : F142_den t0 w R) : callD prog 142 #[t0] w R :=
  den_wp mixed F142_ann func142 (by kernel_rfl) (by kernel_rfl) h

def F143_ann : Ann := (q (q .leaf))
def F143_den (t0 : Value) (t1 : Value) (w : World) (R : Value → World → Prop) : Prop :=
 callD prog 164 #[t0, t1] w fun t7 w =>
 V prog (binOp .geq 3 t7 (i64 0)) w fun t8 w =>
 R t8 w
theorem F143_wp {t0 : Value} {t1 : Value} {w : World} {R : Value → World → Prop} (h : F143_den t0 t1 w R) : callD prog 143 #[t0, t1] w R :=
  den_wp mixed F143_ann func143 (by kernel_rfl) (by kernel_rfl) h

def F144_ann : Ann := (q (q .leaf))
def F144_den (t0 : Value) (w : World) (R : Value → World → Prop) : Prop :=
 callD prog 145 #[t0] w fun t4 w =>
 V prog (Op.unary UnOp.not t4) w fun t5 w =>
 R t5 w
theorem F144_wp {t0 : Value} {w : World} {R : Value → World → Prop} (h : F144_den t0 w R) : callD prog 144 #[t0] w R :=
  den_wp mixed F144_ann func144 (by kernel_rfl) (by kernel_rfl) h

def F145_ann : Ann := (q (q .leaf))
def F145_den (t0 : Value) (w : World) (R : Value → World → Prop) : Prop :=
 V prog (binOp .geq 3 t0 (i64 1)) w fun t4 w =>
 gd t4 true (fun K => K t0 w) w fun t6 w =>
 gd t4 true (fun K => V prog (binOp .leq 3 t6 (i64 4)) w K) w fun t7 w =>
 pickD t4 t7 (.bool false) fun t8 =>
 R t8 w
theorem F145_wp {t0 : Value} {w : World} {R : Value → World → Prop} (h : F145_den t0 w R) : callD prog 145 #[t0] w R :=
  den_wp mixed F145_ann func145 (by kernel_rfl) (by kernel_rfl) h

def F146_ann : Ann := (q (q .leaf))
def F146_den (t0 : Value) (t1 : Value) (w : World) (R : Value → World → Prop) : Prop :=
 callD prog 165 #[t0, t1] w fun t7 w =>
 V prog (binOp .geq 3 t7 (i64 0)) w fun t8 w =>
 R t8 w
theorem F146_wp {t0 : Value} {t1 : Value} {w : World} {R : Value → World → Prop} (h : F146_den t0 t1 w R) : callD prog 146 #[t0, t1] w R :=
  den_wp mixed F146_ann func146 (by kernel_rfl) (by kernel_rfl) h

def F147_ann : Ann := (q (q .leaf))
def F147_den (t0 : Value) (t1 : Value) (w : World) (R : Value → World → Prop) : Prop :=
 V prog (box 74 t0) w fun t2 w =>
 V prog (loadAt 210 t1) w fun t4 w =>
 V prog (loadAt 74 t2) w fun t5 w =>
 dynD prog t4 #[t5] w fun t6 w =>
 V prog (Op.unary UnOp.not t6) w fun t7 w =>
 R t7 w
theorem F147_wp {t0 : Value} {t1 : Value} {w : World} {R : Value → World → Prop} (h : F147_den t0 t1 w R) : callD prog 147 #[t0, t1] w R :=
  den_wp mixed F147_ann func147 (by kernel_rfl) (by kernel_rfl) h

def F148_ann : Ann := (q (q .leaf))
def F148_den (t0 : Value) (w : World) (R : Value → World → Prop) : Prop :=
 V prog (do eqGuard .eql 3 (.tmp 3) (.const (i64 0)) t0 (i64 0); binOp .eql 3 t0 (i64 0)) w fun t4 w =>
 gd t4 false (fun K => K t0 w) w fun t6 w =>
 gd t4 false (fun K => callD prog 145 #[t6] w K) w fun t7 w =>
 pickD t4 (.bool true) t7 fun t8 =>
 R t8 w
theorem F148_wp {t0 : Value} {w : World} {R : Value → World → Prop} (h : F148_den t0 w R) : callD prog 148 #[t0] w R :=
  den_wp mixed F148_ann func148 (by kernel_rfl) (by kernel_rfl) h

def F149_ann : Ann := (q (q .leaf))
def F149_den (t0 : Value) (t1 : Value) (w : World) (R : Value → World → Prop) : Prop :=
 callD prog 166 #[t0, t1] w fun t7 w =>
 V prog (binOp .geq 3 t7 (i64 0)) w fun t8 w =>
 R t8 w
theorem F149_wp {t0 : Value} {t1 : Value} {w : World} {R : Value → World → Prop} (h : F149_den t0 t1 w R) : callD prog 149 #[t0, t1] w R :=
  den_wp mixed F149_ann func149 (by kernel_rfl) (by kernel_rfl) h

def F150_ann : Ann := (q (q .leaf))
def F150_den (t0 : Value) (t1 : Value) (w : World) (R : Value → World → Prop) : Prop :=
 V prog (box 47 t0) w fun t2 w =>
 V prog (loadAt 212 t1) w fun t4 w =>
 V prog (loadAt 47 t2) w fun t5 w =>
 dynD prog t4 #[t5] w fun t6 w =>
 V prog (Op.unary UnOp.not t6) w fun t7 w =>
 R t7 w
theorem F150_wp {t0 : Value} {t1 : Value} {w : World} {R : Value → World → Prop} (h : F150_den t0 t1 w R) : callD prog 150 #[t0, t1] w R :=
  den_wp mixed F150_ann func150 (by kernel_rfl) (by kernel_rfl) h

def F151_ann : Ann := (q (q .leaf))
def F151_den (t0 : Value) (t1 : Value) (w : World) (R : Value → World → Prop) : Prop :=
 V prog (box 126 t1) w fun t3 w =>
 V prog (makeFunc (Fn.func 168) #[] #[t3]) w fun t6 w =>
 callD prog 167 #[t0, t6] w fun t7 w =>
 V prog (Op.unary UnOp.not t7) w fun t8 w =>
 R t8 w
theorem F151_wp {t0 : Value} {t1 : Value} {w : World} {R : Value → World → Prop} (h : F151_den t0 t1 w R) : callD prog 151 #[t0, t1] w R :=
  den_wp mixed F151_ann func151 (by kernel_rfl) (by kernel_rfl) h

def F152_ann : Ann := (q (q (.seq (q (.cond (q .leaf) .leaf)) (.seq (q (.cond (q .leaf) .leaf)) (q .leaf)))))
def F152_den (t0 : Value) (w : World) (R : Value → World → Prop) : Prop :=
 V prog (box 71 t0) w fun t1 w =>
 V prog (fieldAt 71 t1 0) w fun t6 w =>
 V prog (loadAt 3 t6) w fun t7 w =>
 callD prog 169 #[t7] w fun t8 w =>
 V prog (extract t8 0) w fun t9 w =>
 V prog (extract t8 1) w fun t10 w =>
 V prog (fieldAt 71 t1 0) w fun t11 w =>
 V prog (loadAt 3 t11) w fun t12 w =>
 V prog (binOp .lss 3 t12 (i64 1)) w fun t13 w =>
 gd t13 false (fun K => V prog (fieldAt 71 t1 0) w K) w fun t15 w =>
 gd t13 false (fun K => V prog (loadAt 3 t15) w K) w fun t16 w =>
 gd t13 false (fun K => V prog (binOp .gtr 3 t16 (i64 39)) w K) w fun t17 w =>
 pickD t13 (.bool true) t17 fun t18 =>
 gd t18 false (fun K => V prog (fieldAt 71 t1 1) w K) w fun t20 w =>
 gd t18 false (fun K => V prog (loadAt 3 t20) w K) w fun t21 w =>
 gd t18 false (fun K => K t9 w) w fun t22 w =>
 gd t18 false (fun K => V prog (binOp .lss 3 t21 t22) w K) w fun t23 w =>
 pickD t18 (.bool true) t23 fun t24 =>
 gd t24 false (fun K => V prog (fieldAt 71 t1 1) w K) w fun t26 w =>
 gd t24 false (fun K => V prog (loadAt 3 t26) w K) w fun t27 w =>
 gd t24 false (fun K => K t10 w) w fun t28 w =>
 gd t24 false (fun K => V prog (binOp .gtr 3 t27 t28) w K) w fun t29 w =>
 pickD t24 (.bool true) t29 fun t30 =>
 ifD t30 (
 R (.bool false) w) (
 V prog (fieldAt 71 t1 0) w fun t31 w =>
 V prog (loadAt 3 t31) w fun t32 w =>
 V prog (do eqGuard .eql 3 (.tmp 32) (.const (i64 27)) t32 (i64 27); binOp .eql 3 t32 (i64 27)) w fun t33 w26 =>
 ifD t33 (
 V prog (fieldAt 71 t1 2) w26 fun t34 w =>
 V prog (loadAt 3 t34) w fun t35 w =>
 V prog (binOp .geq 3 t35 (i64 0)) w fun t36 w =>
 gd t36 true (fun K => V prog (fieldAt 71 t1 2) w K) w fun t38 w =>
 gd t36 true (fun K => V prog (loadAt 3 t38) w K) w fun t39 w =>
 gd t36 true (fun K => V prog (binOp .andNot 3 t39 (i64 4)) w K) w fun t40 w =>
 gd t36 true (fun K => V prog (binOp .leq 3 t40 (i64 2)) w K) w fun t41 w =>
 pickD t36 t41 (.bool false) fun t42 =>
 R t42 w) (
 V prog (fieldAt 71 t1 2) w26 fun t43 w =>
 V prog (loadAt 3 t43) w fun t44 w =>
 V prog (do eqGuard .eql 3 (.tmp 44) (.const (i64 0)) t44 (i64 0); binOp .eql 3 t44 (i64 0)) w fun t45 w =>
 R t45 w))
theorem F152_wp {t0 : Value} {w : World} {R : Value → World → Prop} (h : F152_den t0 w R) : callD prog 152 #[t0] w R :=
  den_wp mixed F152_ann func152 (by kernel_rfl) (by kernel_rfl) h

def F153_ann : Ann := (q (q .leaf))
def F153_den (t0 : Value) (t1 : Value) (w : World) (R : Value → World → Prop) : Prop :=
 V prog (loadAt 179 t1) w fun t4 w =>
 dynD prog t4 #[t0] w fun t6 w =>
 V prog (Op.unary UnOp.not t6) w fun t7 w =>
 R t7 w
theorem F153_wp {t0 : Value} {t1 : Value} {w : World} {R : Value → World → Prop} (h : F153_den t0 t1 w R) : callD prog 153 #[t0, t1] w R :=
  den_wp mixed F153_ann func153 (by kernel_rfl) (by kernel_rfl) h

def F154_ann : Ann := (q (.seq (.block (q (.cond (q .leaf) (q (.cond (q .leaf) .leaf))))) (q .leaf)))
def F154_den (t0 : Value) (t1 : Value) (w : World) (R : Value → World → Prop) : Prop :=
 callD prog 158 #[t0] w fun t8 w =>
 gd t8 true (fun K => K t1 w) w fun t10 w =>
 gd t8 true (fun K => callD prog 158 #[t10] w K) w fun t11 w3 =>
 pickD t8 t11 (.bool false) fun t12 =>
 ifD t12 (
 callD prog 161 #[t0, t1] w3 fun t15 w =>
 R (.tuple #[t15, (.bool true)]) w) (
 callD prog 159 #[t0] w3 fun t18 w =>
 gd t18 true (fun K => K t0 w) w fun t20 w =>
 gd t18 true (fun K => K t1 w) w fun t21 w =>
 gd t18 true (fun K => V prog (do eqGuard .eql 3 (.tmp 20) (.tmp 21) t20 t21; binOp .eql 3 t20 t21) w K) w fun t22 w =>
 pickD t18 t22 (.bool false) fun t23 =>
 ifD t23 (
 R (.tuple #[t0, (.bool true)]) w) (
 R (.tuple #[(i64 0), (.bool false)]) w))
theorem F154_wp {t0 : Value} {t1 : Value} {w : World} {R : Value → World → Prop} (h : F154_den t0 t1 w R) : callD prog 154 #[t0, t1] w R :=
  den_wp mixed F154_ann func154 (by kernel_rfl) (by kernel_rfl) h

def F155_ann : Ann := (q (q .leaf))
def F155_den (t0 : Value) (w : World) (R : Value → World → Prop) : Prop :=
 R t0 w
theorem F155_wp {t0 : Value} {w : World} {R : Value → World → Prop} (h : F155_den t0 w R) : callD prog 155 #[t0] w R :=
  den_wp mixed F155_ann func155 (by kernel_rfl) (by kernel_rfl) h

def F156_ann : Ann := (q (.seq (q (.cond (q .leaf) .leaf)) (q .leaf)))
def F156_den (t0 : Value) (w : World) (R : Value → World → Prop) : Prop :=
 V prog (do eqGuard .eql 3 (.tmp 3) (.const (i64 0)) t0 (i64 0); binOp .eql 3 t0 (i64 0)) w fun t4 w =>
 ifD t4 (
 R nilS w) (
 V prog (buildSlice 23 1 #[(0, t0)]) w fun t6 w =>
 callD prog 155 #[t6] w fun t7 w =>
 R t7 w)
theorem F156_wp {t0 : Value} {w : World} {R : Value → World → Prop} (h : F156_den t0 w R) : callD prog 156 #[t0] w R :=
  den_wp mixed F156_ann func156 (by kernel_rfl) (by kernel_rfl) h

def F157_ann : Ann := (q (.seq (q (.block (q (.cond (q .leaf) (.join [8, 9, 10] [8] (q (.cond .leaf .leaf)) (.cond (q .leaf) (q (.cond (q .leaf) .leaf)))))))) (q .leaf)))
def F157_den (t0 : Value) (t1 : Value) (w : World) (R : Value → World → Prop) : Prop :=
 V prog (do eqGuard .eql 3 (.tmp 5) (.const (i64 (-1))) t1 (i64 (-1)); binOp .eql 3 t1 (i64 (-1))) w fun t7 w =>
 ifD t7 (
 R (.bool true) w) (
 ∃ J1 : NP 1,
 (V prog (do eqGuard .eql 3 (.tmp 5) (.const (i64 (-2))) t1 (i64 (-2)); binOp .eql 3 t1 (i64 (-2))) w fun t9 w =>
 ifD t9 (
 J1 t9 w) (
 V prog (do eqGuard .eql 3 (.tmp 5) (.const (i64 (-3))) t1 (i64 (-3)); binOp .eql 3 t1 (i64 (-3))) w fun t10 w =>
 J1 t10 w)) ∧
 ∀ (t8 : Value), ∀ w4 : World, J1 t8 w4 → ∀ _f : Env,
 ifD t8 (
 callD prog 158 #[t0] w4 fun t12 w =>
 R t12 w) (
 V prog (do eqGuard .eql 3 (.tmp 5) (.const (i64 (-4))) t1 (i64 (-4)); binOp .eql 3 t1 (i64 (-4))) w4 fun t14 w6 =>
 ifD t14 (
 callD prog 159 #[t0] w6 fun t16 w =>
 R t16 w) (
 callD prog 158 #[t0] w6 fun t18 w =>
 gd t18 true (fun K => K t1 w) w fun t20 w =>
 gd t18 true (fun K => callD prog 158 #[t20] w K) w fun t21 w =>
 pickD t18 t21 (.bool false) fun t22 =>
 gd t22 false (fun K => K t0 w) w fun t24 w =>
 gd t22 false (fun K => K t1 w) w fun t25 w =>
 gd t22 false (fun K => V prog (do eqGuard .eql 3 (.tmp 24) (.tmp 25) t24 t25; binOp .eql 3 t24 t25) w K) w fun t26 w =>
 pickD t22 (.bool true) t26 fun t27 =>
 R t27 w)))
theorem F157_wp {t0 : Value} {t1 : Value} {w : World} {R : Value → World → Prop} (h : F157_den t0 t1 w R) : callD prog 157 #[t0, t1] w R :=
  den_wp mixed F157_ann func157 (by kernel_rfl) (by kernel_rfl) h

def F158_ann : Ann := (q (q .leaf))
def F158_den (t0 : Value) (w : World) (R : Value → World → Prop) : Prop :=
 V prog (do eqGuard .eql 3 (.tmp 3) (.const (i64 1)) t0 (i64 1); binOp .eql 3 t0 (i64 1)) w fun t4 w =>
 gd t4 false (fun K => K t0 w) w fun t6 w =>
 gd t4 false (fun K => V prog (do eqGuard .eql 3 (.tmp 6) (.const (i64 2)) t6 (i64 2); binOp .eql 3 t6 (i64 2)) w K) w fun t7 w =>
 pickD t4 (.bool true) t7 fun t8 =>
 R t8 w
theorem F158_wp {t0 : Value} {w : World} {R : Value → World → Prop} (h : F158_den t0 w R) : callD prog 158 #[t0] w R :=
  den_wp mixed F158_ann func158 (by kernel_rfl) (by kernel_rfl) h

def F159_ann : Ann := (q (q .leaf))
def F159_den (t0 : Value) (w : World) (R : Value → World → Prop) : Prop :=
 V prog (do eqGuard .eql 3 (.tmp 3) (.const (i64 3)) t0 (i64 3); binOp .eql 3 t0 (i64 3)) w fun t4 w =>
 gd t4 false (fun K => K t0 w) w fun t6 w =>
 gd t4 false (fun K => V prog (do eqGuard .eql 3 (.tmp 6) (.const (i64 4)) t6 (i64 4); binOp .eql 3 t6 (i64 4)) w K) w fun t7 w =>
 pickD t4 (.bool true) t7 fun t8 =>
 R t8 w
theorem F159_wp {t0 : Value} {w : World} {R : Value → World → Prop} (h : F159_den t0 w R) : callD prog 159 #[t0] w R :=
  den_wp mixed F159_ann func159 (by kernel_rfl) (by kernel_rfl) h

def F160_ann : Ann := (q (q .leaf))
def F160_den (t0 : Value) (t1 : Value) (w : World) (R : Value → World → Prop) : Prop :=
 V prog (do eqGuard .eql 3 (.tmp 5) (.const (i64 (-3))) t1 (i64 (-3)); binOp .eql 3 t1 (i64 (-3))) w fun t6 w =>
 gd t6 false (fun K => K t1 w) w fun t8 w =>
 gd t6 false (fun K => V prog (do eqGuard .eql 3 (.tmp 8) (.const (i64 1)) t8 (i64 1); binOp .eql 3 t8 (i64 1)) w K) w fun t9 w =>
 pickD t6 (.bool true) t9 fun t10 =>
 gd t10 true (fun K => K t0 w) w fun t12 w =>
 gd t10 true (fun K => V prog (do eqGuard .eql 3 (.tmp 12) (.const (i64 2)) t12 (i64 2); binOp .eql 3 t12 (i64 2)) w K) w fun t13 w =>
 pickD t10 t13 (.bool false) fun t14 =>
 R t14 w
theorem F160_wp {t0 : Value} {t1 : Value} {w : World} {R : Value → World → Prop} (h : F160_den t0 t1 w R) : callD prog 160 #[t0, t1] w R :=
  den_wp mixed F160_ann func160 (by kernel_rfl) (by kernel_rfl) h

def F161_ann : Ann := (q (.seq (q (.cond (q .leaf) .leaf)) (q .leaf)))
def F161_den (t0 : Value) (t1 : Value) (w : World) (R : Value → World → Prop) : Prop :=
 V prog (do eqGuard .eql 3 (.tmp 5) (.const (i64 2)) t0 (i64 2); binOp .eql 3 t0 (i64 2)) w fun t6 w =>
 gd t6 false (fun K => K t1 w) w fun t8 w =>
 gd t6 false (fun K => V prog (do eqGuard .eql 3 (.tmp 8) (.const (i64 2)) t8 (i64 2); binOp .eql 3 t8 (i64 2)) w K) w fun t9 w =>
 pickD t6 (.bool true) t9 fun t10 =>
 ifD t10 (
 R (i64 2) w) (
 R (i64 1) w)
theorem F161_wp {t0 : Value} {t1 : Value} {w : World} {R : Value → World → Prop} (h : F161_den t0 t1 w R) : callD prog 161 #[t0, t1] w R :=
  den_wp mixed F161_ann func161 (by kernel_rfl) (by kernel_rfl) h

def F162_ann : Ann := (q (.seq (q (.cond (q .leaf) .leaf)) (.seq (.draw [0, 1, 2, 0, 8, 16, 0, 64, 128, 288, 516, 2047] [0, 1, 2, 0, 8, 16, 0, 64, 128, 288, 516, 1024] 0 12 4095 (.take 0 (.take 1 (.take 2 (.take 3 (.take 4 (.take 5 (.take 6 (.take 7 (.take 8 (.only 9 (.only 10 (.take 11 .done))))))))))))) .leaf)))
def F162_den (t0 : Value) (w : World) (R : Value → World → Prop) : Prop :=
 V prog (indexAt 23 t0 (i64 1)) w fun t4 w =>
 V prog (loadAt 3 t4) w fun t5 w =>
 callD prog 159 #[t5] w fun t6 w3 =>
 ifD t6 (
 V prog (indexAt 23 t0 (i64 1)) w3 fun t8 w =>
 V prog (loadAt 3 t8) w fun t9 w =>
 R t9 w) (
 drawD w3 fun S3 w =>
 yieldS prog S3 (indexAt 23 t0 (i64 0)) fun t11 =>
 yieldS prog S3 (loadAt 3 t11) fun t12 =>
 yieldS prog S3 (indexAt 23 t0 (i64 1)) fun t14 =>
 yieldS prog S3 (loadAt 3 t14) fun t15 =>
 yieldS prog S3 (indexAt 23 t0 (i64 2)) fun t17 =>
 yieldS prog S3 (loadAt 3 t17) fun t18 =>
 callD prog 161 #[t15, t18] w fun t19 w =>
 S3 w ∧
 callD prog 161 #[t12, t19] w fun t20 w =>
 S3 w ∧
 R t20 w)
theorem F162_wp {t0 : Value} {w : World} {R : Value → World → Prop} (h : F162_den t0 w R) : callD prog 162 #[t0] w R :=
  den_wp mixed F162_ann func162 (by kernel_rfl) (by kernel_rfl) h

def F163_ann : Ann := (q (.seq (q (.block (q (.cond (q .leaf) (q (.cond (q .leaf) .leaf)))))) (q .leaf)))
def F163_den (t0 : Value) (w : World) (R : Value → World → Prop) : Prop :=
 V prog (do eqGuard .eql 3 (.tmp 3) (.const (i64 3)) t0 (i64 3); binOp .eql 3 t0 (i64 3)) w fun t5 w =>
 ifD t5 (
 R (i64 1) w) (
 V prog (do eqGuard .eql 3 (.tmp 3) (.const (i64 4)) t0 (i64 4); binOp .eql 3 t0 (i64 4)) w fun t7 w =>
 ifD t7 (
 R (i64 2) w) (
 R (i64 0) w))
theorem F163_wp {t0 : Value} {w : World} {R : Value → World → Prop} (h : F163_den t0 w R) : callD prog 163 #[t0] w R :=
  den_wp mixed F163_ann func163 (by kernel_rfl) (by kernel_rfl) h

def F164_ann : Ann := (q (.seq (q (.block (.loop [4, 5, 8, 9, 10, 11, 12, 13, 14, 15, 16, 17, 18] [8] (q (.seq (.cond .leaf .leaf) (.seq (.block (q (q (.cond (q .leaf) .leaf)))) .leaf)))))) (q .leaf)))
def F164_den (t0 : Value) (t1 : Value) (w : World) (R : Value → World → Prop) : Prop :=
 V prog (Builtin.len_ #[23] 3 #[t0]) w fun t7 w =>
 ∃ (I1 : NP 1) (μ1 : NF 1), I1 (i64 0) w ∧
 ∀ (t8 : Value), ∀ w2 : World, I1 t8 w2 → ∀ _f : Env,
 V prog (binOp .lss 3 t8 t7) w2 fun t9 w3 =>
 ifD t9 (
 V prog (indexAt 23 t0 t8) w3 fun t14 w =>
 V prog (loadAt 3 t14) w fun t15 w =>
 dynD prog t1 #[t15] w fun t16 w =>
 ifD t16 (
 R t8 w) (
 V prog (binOp .add 3 t8 (i64 1)) w fun t18 w =>
 I1 t18 w ∧ μ1 t18 w < μ1 t8 w2)) (
 R (i64 (-1)) w3)
theorem F164_wp {t0 : Value} {t1 : Value} {w : World} {R : Value → World → Prop} (h : F164_den t0 t1 w R) : callD prog 164 #[t0, t1] w R :=
  den_wp mixed F164_ann func164 (by kernel_rfl) (by kernel_rfl) h

def F165_ann : Ann := (q (.seq (q (.block (.loop [4, 5, 8, 9, 10, 11, 12, 13, 14, 15, 16, 17, 18] [8] (q (.seq (.cond .leaf .leaf) (.seq (.block (q (q (.cond (q .leaf) .leaf)))) .leaf)))))) (q .leaf)))
def F165_den (t0 : Value) (t1 : Value) (w : World) (R : Value → World → Prop) : Prop :=
 V prog (Builtin.len_ #[24] 3 #[t0]) w fun t7 w =>
 ∃ (I1 : NP 1) (μ1 : NF 1), I1 (i64 0) w ∧
 ∀ (t8 : Value), ∀ w2 : World, I1 t8 w2 → ∀ _f : Env,
 V prog (binOp .lss 3 t8 t7) w2 fun t9 w3 =>
 ifD t9 (
 V prog (indexAt 24 t0 t8) w3 fun t14 w =>
 V prog (loadAt 74 t14) w fun t15 w =>
 dynD prog t1 #[t15] w fun t16 w =>
 ifD t16 (
 R t8 w) (
 V prog (binOp .add 3 t8 (i64 1)) w fun t18 w =>
 I1 t18 w ∧ μ1 t18 w < μ1 t8 w2)) (
 R (i64 (-1)) w3)
theorem F165_wp {t0 : Value} {t1 : Value} {w : World} {R : Value → World → Prop} (h : F165_den t0 t1 w R) : callD prog 165 #[t0, t1] w R :=
  den_wp mixed F165_ann func165 (by kernel_rfl) (by kernel_rfl) h

def F166_ann : Ann := (q (.seq (q (.block (.loop [4, 5, 8, 9, 10, 11, 12, 13, 14, 15, 16, 17, 18] [8] (q (.seq (.cond .leaf .leaf) (.seq (.block (q (q (.cond (q .leaf) .leaf)))) .leaf)))))) (q .leaf)))
def F166_den (t0 : Value) (t1 : Value) (w : World) (R : Value → World → Prop) : Prop :=
 V prog (Builtin.len_ #[25] 3 #[t0]) w fun t7 w =>
 ∃ (I1 : NP 1) (μ1 : NF 1), I1 (i64 0) w ∧
 ∀ (t8 : Value), ∀ w2 : World, I1 t8 w2 → ∀ _f : Env,
 V prog (binOp .lss 3 t8 t7) w2 fun t9 w3 =>
 ifD t9 (
 V prog (indexAt 25 t0 t8) w3 fun t14 w =>
 V prog (loadAt 47 t14) w fun t15 w =>
 dynD prog t1 #[t15] w fun t16 w =>
 ifD t16 (
 R t8 w) (
 V prog (binOp .add 3 t8 (i64 1)) w fun t18 w =>
 I1 t18 w ∧ μ1 t18 w < μ1 t8 w2)) (
 R (i64 (-1)) w3)
theorem F166_wp {t0 : Value} {t1 : Value} {w : World} {R : Value → World → Prop} (h : F166_den t0 t1 w R) : callD prog 166 #[t0, t1] w R :=
  den_wp mixed F166_ann func166 (by kernel_rfl) (by kernel_rfl) h

def F167_ann : Ann := (q (q .leaf))
def F167_den (t0 : Value) (t1 : Value) (w : World) (R : Value → World → Prop) : Prop :=
 callD prog 170 #[t0, t1] w fun t7 w =>
 V prog (binOp .geq 3 t7 (i64 0)) w fun t8 w =>
 R t8 w
theorem F167_wp {t0 : Value} {t1 : Value} {w : World} {R : Value → World → Prop} (h : F167_den t0 t1 w R) : callD prog 167 #[t0, t1] w R :=
  den_wp mixed F167_ann func167 (by kernel_rfl) (by kernel_rfl) h

def F168_ann : Ann := (q (q .leaf))
def F168_den (t0 : Value) (t1 : Value) (w : World) (R : Value → World → Prop) : Prop :=
 V prog (box 71 t0) w fun t2 w =>
 V prog (loadAt 126 t1) w fun t4 w =>
 V prog (loadAt 71 t2) w fun t5 w =>
 dynD prog t4 #[t5] w fun t6 w =>
 V prog (Op.unary UnOp.not t6) w fun t7 w =>
 R t7 w
theorem F168_wp {t0 : Value} {t1 : Value} {w : World} {R : Value → World → Prop} (h : F168_den t0 t1 w R) : callD prog 168 #[t0, t1] w R :=
  den_wp mixed F168_ann func168 (by kernel_rfl) (by kernel_rfl) h

def F169_ann : Ann := (q (.seq (q (.block (q (.cond (q .leaf) (.join [7, 8, 9] [7] (q (.cond .leaf .leaf)) (.cond (q .leaf) (.join [10, 11, 12] [10] (q (.cond .leaf .leaf)) (.cond (q .leaf) (.join [13, 14, 15] [13] (q (.cond .leaf .leaf)) (.cond (q .leaf) (.join [16, 17, 18] [16] (q (.cond .leaf .leaf)) (.cond (q .leaf) (.join [19, 20, 21] [19] (q (.cond .leaf .leaf)) (.cond (q .leaf) (q (.cond (q .leaf) (q (.cond (q .leaf) .leaf)))))))))))))))))) (q .leaf)))
def F169_den (t0 : Value) (w : World) (R : Value → World → Prop) : Prop :=
 V prog (do eqGuard .eql 3 (.tmp 4) (.const (i64 1)) t0 (i64 1); binOp .eql 3 t0 (i64 1)) w fun t6 w =>
 ifD t6 (
 R (.tuple #[(i64 (-2147483648)), (i64 2147483647)]) w) (
 ∃ J1 : NP 1,
 (V prog (do eqGuard .eql 3 (.tmp 4) (.const (i64 2)) t0 (i64 2); binOp .eql 3 t0 (i64 2)) w fun t8 w =>
 ifD t8 (
 J1 t8 w) (
 V prog (do eqGuard .eql 3 (.tmp 4) (.const (i64 3)) t0 (i64 3); binOp .eql 3 t0 (i64 3)) w fun t9 w =>
 J1 t9 w)) ∧
 ∀ (t7 : Value), ∀ w : World, J1 t7 w → ∀ _f : Env,
 ifD t7 (
 R (.tuple #[(i64 0), (i64 9)]) w) (
 ∃ J2 : NP 1,
 (V prog (do eqGuard .eql 3 (.tmp 4) (.const (i64 23)) t0 (i64 23); binOp .eql 3 t0 (i64 23)) w fun t11 w =>
 ifD t11 (
 J2 t11 w) (
 V prog (do eqGuard .eql 3 (.tmp 4) (.const (i64 24)) t0 (i64 24); binOp .eql 3 t0 (i64 24)) w fun t12 w =>
 J2 t12 w)) ∧
 ∀ (t10 : Value), ∀ w : World, J2 t10 w → ∀ _f : Env,
 ifD t10 (
 R (.tuple #[(i64 0), (i64 119)]) w) (
 ∃ J3 : NP 1,
 (V prog (do eqGuard .eql 3 (.tmp 4) (.const (i64 25)) t0 (i64 25); binOp .eql 3 t0 (i64 25)) w fun t14 w =>
 ifD t14 (
 J3 t14 w) (
 V prog (do eqGuard .eql 3 (.tmp 4) (.const (i64 27)) t0 (i64 27); binOp .eql 3 t0 (i64 27)) w fun t15 w =>
 J3 t15 w)) ∧
 ∀ (t13 : Value), ∀ w : World, J3 t13 w → ∀ _f : Env,
 ifD t13 (
 R (.tuple #[(i64 3), (i64 4)]) w) (
 ∃ J4 : NP 1,
 (V prog (do eqGuard .eql 3 (.tmp 4) (.const (i64 33)) t0 (i64 33); binOp .eql 3 t0 (i64 33)) w fun t17 w =>
 ifD t17 (
 J4 t17 w) (
 V prog (do eqGuard .eql 3 (.tmp 4) (.const (i64 34)) t0 (i64 34); binOp .eql 3 t0 (i64 34)) w fun t18 w =>
 J4 t18 w)) ∧
 ∀ (t16 : Value), ∀ w : World, J4 t16 w → ∀ _f : Env,
 ifD t16 (
 R (.tuple #[(i64 0), (i64 7)]) w) (
 ∃ J5 : NP 1,
 (V prog (do eqGuard .eql 3 (.tmp 4) (.const (i64 35)) t0 (i64 35); binOp .eql 3 t0 (i64 35)) w fun t20 w =>
 ifD t20 (
 J5 t20 w) (
 V prog (do eqGuard .eql 3 (.tmp 4) (.const (i64 36)) t0 (i64 36); binOp .eql 3 t0 (i64 36)) w fun t21 w =>
 J5 t21 w)) ∧
 ∀ (t19 : Value), ∀ w : World, J5 t19 w → ∀ _f : Env,
 ifD t19 (
 R (.tuple #[(i64 1), (i64 2)]) w) (
 V prog (do eqGuard .eql 3 (.tmp 4) (.const (i64 37)) t0 (i64 37); binOp .eql 3 t0 (i64 37)) w fun t23 w =>
 ifD t23 (
 R (.tuple #[(i64 0), (i64 7)]) w) (
 V prog (do eqGuard .eql 3 (.tmp 4) (.const (i64 38)) t0 (i64 38); binOp .eql 3 t0 (i64 38)) w fun t25 w =>
 ifD t25 (
 R (.tuple #[(i64 0), (i64 3)]) w) (
 R (.tuple #[(i64 0), (i64 0)]) w))))))))
theorem F169_wp {t0 : Value} {w : World} {R : Value → World → Prop} (h : F169_den t0 w R) : callD prog 169 #[t0] w R :=
  den_wp mixed F169_ann func169 (by kernel_rfl) (by kernel_rfl) h

def F170_ann : Ann := (q (.seq (q (.block (.loop [4, 5, 8, 9, 10, 11, 12, 13, 14, 15, 16, 17, 18] [8] (q (.seq (.cond .leaf .leaf) (.seq (.block (q (q (.cond (q .leaf) .leaf)))) .leaf)))))) (q .leaf)))
def F170_den (t0 : Value) (t1 : Value) (w : World) (R : Value → World → Prop) : Prop :=
 V prog (Builtin.len_ #[45] 3 #[t0]) w fun t7 w =>
 ∃ (I1 : NP 1) (μ1 : NF 1), I1 (i64 0) w ∧
 ∀ (t8 : Value), ∀ w2 : World, I1 t8 w2 → ∀ _f : Env,
 V prog (binOp .lss 3 t8 t7) w2 fun t9 w3 =>
 ifD t9 (
 V prog (indexAt 45 t0 t8) w3 fun t14 w =>
 V prog (loadAt 71 t14) w fun t15 w =>
 dynD prog t1 #[t15] w fun t16 w =>
 ifD t16 (
 R t8 w) (
 V prog (binOp .add 3 t8 (i64 1)) w fun t18 w =>
 I1 t18 w ∧ μ1 t18 w < μ1 t8 w2)) (
 R (i64 (-1)) w3)
theorem F170_wp {t0 : Value} {t1 : Value} {w : World} {R : Value → World → Prop} (h : F170_den t0 t1 w R) : callD prog 170 #[t0, t1] w R :=
  den_wp mixed F170_ann func170 (by kernel_rfl) (by kernel_rfl) h

end Go.Proofs.YtcdbikfnlggbnaaGreatDoor
namespace Go.Vc
section
variable {P : Program} {w : World} {K : Value → World → Prop}
/-- A store into a whole block. -/
theorem stB {t x : TypeId} {z : Value} {by_ : Nat} (h : XA P t 1) (hx : Inf P x z 1 by_) {g n c e : Nat} {cs : List Value} (hb : Blk w g cs e) (hn : cs.length = n) {k : IntKind} {i : Int} (h0 : 0 ≤ i) (h1 : i < n) {u : Value} (hu : oneC u = true) {K' : World → Prop}
    (hk : K' (w.setCell ⟨g, i.toNat, none⟩ u)) :
    V P (Instr.indexAt t (.slice (some ⟨g, 0, none⟩) n c) (.int k i)) w fun p w1 => U P (Instr.storeAt x p u) w1 fun _ w2 => K' w2 := by
  obtain ⟨e', z', b', ht, hi⟩ := h
  refine V.ok (r_index ht hi h0 h1) ?_
  have hlt : i.toNat < cs.length := by omega
  have hc := hb.cell i.toNat
  rw [List.getElem?_eq_getElem hlt] at hc
  simp only [Nat.zero_add, Nat.mul_one]
  exact U.ok (r_store hx hu hc (hb.frozen _)) hk
end
end Go.Vc
namespace Go.Vc
section
variable {P : Program} {w : World} {K : Value → World → Prop} {S : World → Prop} {L : Value → Prop}
/-- The steps under S. -/
theorem yfB {s f o ft b : Nat} {cs : List Value} {u : Value} (hb : ∀ w', S w' → Boxed w' b cs) (h : FA P s f o) (hl : L1 P ft) (hc : cs[o]? = some u) (hk : L u) :
    yieldS P S (Instr.fieldAt s (.pointer (some ⟨b, 0, none⟩)) f) fun q => yieldS P S (Instr.loadAt ft q) L := by
  obtain ⟨d, hd, ha⟩ := hl
  exact yieldS.ok (fun w' _ => h.ex w' b 0) (yieldS.ok (fun w' hw => r_load hd ha (hb w' hw o u hc)) hk)
theorem ySl {t x : TypeId} {v : Value} {n : Nat} {cs : List Value} {k : IntKind} {i : Int} {u : Value} (h : XA P t 1) (hl : L1 P x) (hs0 : SliceIs w v 1 n cs) (hx : ∀ w', S w' → Ext w w') (h0 : 0 ≤ i) (h1 : i < n) (hu : cs[i.toNat]? = some u) (hk : L u) :
    yieldS P S (Instr.indexAt t v (.int k i)) fun p => yieldS P S (Instr.loadAt x p) L := by
  obtain ⟨e, z, b', ht, hi⟩ := h
  obtain ⟨d, hd, ha⟩ := hl
  obtain ⟨b, off, cap, rfl, hc⟩ := hs0.there (by omega)
  refine yieldS.ok (fun w' _ => r_index ht hi h0 h1) (yieldS.ok (fun w' hw => r_load hd ha ((hx w' hw).cell ?_)) hk)
  simpa using hc _ _ hu
theorem yLen {t ty n : Nat} {m : Nat} {v : Value} {size : Nat} {cs : List Value} (h : XA P t n) (hs : SliceIs w v size m cs) (hk : L (i64 m)) : yieldS P S (Builtin.len_ #[t] ty #[v]) L := by
  obtain ⟨e, z, b, ht, hi⟩ := h
  obtain ⟨a, c, rfl⟩ := hs.shape
  exact yieldS.ok (fun w' _ => r_len ht) hk
end
end Go.Vc
namespace Go.Vc
end Go.Vc
namespace Go.Vc
section
variable {P : Program} {w : World} {S : World → Prop} {L : Value → Prop}
theorem yA {t n b : Nat} {cs : List Value} (hb : ∀ w', S w' → Boxed w' b cs) (ht : ∃ d z by_, P.underlying t = some d ∧ aggB d = true ∧ Inf P t z n by_) (hl : cs.length = n) (hk : L (.agg cs.toArray)) : yieldS P S (Instr.loadAt t (.pointer (some ⟨b, 0, none⟩))) L := by
  obtain ⟨d, z, by_, h1, h2, h3⟩ := ht
  exact yieldS.ok (fun w' hw => r_loadAgg h1 h2 h3 hl fun j hj => by
    obtain ⟨u, hu⟩ : ∃ u, cs[j]? = some u := ⟨_, List.getElem?_eq_getElem hj⟩
    rw [hu]; exact hb w' hw j u hu) hk
variable {K : Value → World → Prop}
theorem pickT {x y : Value} (h : L x) : pickD (.bool true) x y L := pickD_mk (by simpa using h)
theorem pickF {x y : Value} (h : L y) : pickD (.bool false) x y L := pickD_mk (by simpa using h)
end
end Go.Vc
namespace Go.Vc
open Go.Proofs
section
variable {P : Program} {w : World} {K : Value → World → Prop}
/-- A new block. -/
theorem alK {t : TypeId} {z : Value} {n by_ : Nat} (hi : Inf P t z n by_) (hk : ∀ w1, Blk w1 w.heap.size z.cells.toList t → Ext w w1 → K (.pointer (some ⟨w.heap.size, 0, none⟩)) w1) : V P (Instr.alloc t true (.tuple #[])) w K :=
  V.ok (r_alloc hi) (hk _ (by unfold Blk; rw [heap_alloc_new]) ((Ext.refl w).alloc _))
theorem bxK {t : TypeId} {v : Value} (hk : ∀ w1, Blk w1 w.heap.size v.cells.toList t → Ext w w1 → K (.pointer (some ⟨w.heap.size, 0, none⟩)) w1) : V P (Instr.box t v) w K :=
  V.ok r_box (hk _ (by unfold Blk; rw [heap_alloc_new]) ((Ext.refl w).alloc _))
theorem asK {t n : TypeId} {v : Value} {K' : Value → World → Prop} (h : SA P t n) (hn : v.cells.size = n) (h1 : v.cells.toList.all oneC = true) (hk : ∀ w1, Blk w1 w.heap.size v.cells.toList t → Ext w w1 → K' (.pointer (some ⟨w.heap.size, 0, none⟩)) w1) :
    V P (Instr.alloc t true (.tuple #[])) w (fun p w1 => U P (Instr.storeAt t p v) w1 fun _ w2 => K' p w2) :=
  as_ h hn h1 (hk _ (by unfold Blk; rw [heap_alloc_new]) ((Ext.refl w).alloc _))
/-- An append onto what the call owns, of elements of any size. -/
theorem apA {t e by_ ty sz : Nat} {z : Value} (ht : P.underlying t = some (.slice e)) (hi : Inf P e z sz by_) (hz : (z.cells.size == sz) = true) (hsz : 0 < sz) {B : Nat} {v : Value} {n : Nat} {xs : List Value} (ho : w.ownsRow B e sz v n xs) {x : Value} {m : Nat} {news : List Value} (hs : SliceIs w x sz m news) (h1 : news.all oneC = true)
    (hb : (n + m) * by_ ≤ 140737488355328) (h63 : n + m ≤ maxLen) (hB : B ≤ w.heap.size) (hk : ∀ v' w', w'.ownsRow B e sz v' (n + m) (xs ++ news) → w.grownBy w' v.ownBlock → K v' w') :
    V P (Builtin.append_ #[t, t] ty #[v, x]) w K := by
  obtain ⟨i, hi', hz', hn, hby⟩ := info_parts hi
  rcases hs.2 with ⟨rfl, rfl⟩ | ⟨b, off, cap, rfl, _, _, hc⟩
  · have hnews : news = [] := by have := hs.1; simpa using this
    subst hnews
    refine V.ok (run_append_owned_none w B t ty e i sz ht hi' v n xs ho) (hk _ _ (by simpa using ho) ⟨rfl, rfl, rfl, Nat.le_refl _, fun _ _ _ => rfl⟩)
  · obtain ⟨v', w', hr, h2, h3, _⟩ := run_append_own (P := P) w B t ty e i z sz by_ ht hi' hz' hn hby (by simpa using hz) hsz v n xs ho ⟨b, off, none⟩ m cap news hs.1
      (fun j u hj => by rw [add_mk]; exact hc j u hj) (fun u hu => by rw [oneC_eq]; exact List.all_eq_true.1 h1 u hu) h63 hb hB
    exact V.ok hr (hk _ _ h2 h3)
theorem Blk.boxed {g : Nat} {cs : List Value} {e : TypeId} (h : Blk w g cs e) : Boxed w g cs := fun j u hj => by rw [Nat.zero_add, h.cell]; exact hj
/-- Only block g has changed. -/
structure Chg (w : World) (g : Nat) (w' : World) : Prop where
  ext : ∀ a, Ext a w → a.heap.size ≤ g → Ext a w'
  same : ∀ i, i ≠ g → w'.heap[i]? = w.heap[i]?
  size : w'.heap.size = w.heap.size
  grown : w.grownBy w' (some g)
theorem Chg.ownRow {w w' : World} {g B e sz n : Nat} {v : Value} {xs : List Value} (h : Chg w g w') (ho : w.ownsRow B e sz v n xs) (hB : g < B) : w'.ownsRow B e sz v n xs :=
  ho.kept h.grown (own_ne ho fun k hk => by cases hk; exact hB)
theorem run_storeB {g : Nat} {e : TypeId} : ∀ (l done old : List Value) (w : World), l.length = old.length → (∀ u ∈ l, oneC u = true) → Blk w g (done ++ old) e →
    ∃ w', (storeCells ⟨g, 0, none⟩ l done.length).run P w = .ok () w' ∧ Blk w' g (done ++ l) e ∧ Chg w g w'
  | [], done, [], w, _, _, hb => ⟨w, by simp [storeCells], hb, ⟨fun _ h _ => h, fun _ _ => rfl, rfl, ⟨rfl, rfl, rfl, Nat.le_refl _, fun _ _ _ => rfl⟩⟩⟩
  | v :: l, done, u :: old, w, hl, h1, hb => by
    have hc := hb.cell done.length
    simp only [List.getElem?_append_right (Nat.le_refl _), Nat.sub_self, List.getElem?_cons_zero] at hc
    have hs := run_store1 (P := P) (h1 v (by simp)) hc (hb.frozen done.length)
    have hb1 : Blk (w.setCell ⟨g, done.length, none⟩ v) g ((done ++ [v]) ++ old) e := by
      have := hb.set done.length v
      rw [List.set_append_right _ _ (Nat.le_refl _)] at this
      simpa using this
    obtain ⟨w', h2, h3, h4⟩ := run_storeB l (done ++ [v]) old _ (by simpa using hl) (fun u hu => h1 u (by simp [hu])) hb1
    refine ⟨w', ?_, by simpa using h3, ⟨fun a ha hg => h4.ext a (ha.setCell hg v) hg, fun i hi => (h4.same i hi).trans (heap_setCell_other _ _ _ _ (fun he => hi he)), h4.size.trans (by simp), ⟨h4.grown.os, h4.grown.tape, h4.grown.output, by have := h4.grown.size; simpa using this, fun k hk hne => (h4.grown.block k (by simpa using hk) hne).trans (heap_setCell_other _ _ _ _ (fun he => hne (by simp [he])))⟩⟩⟩
    simp only [storeCells, add_mk, Nat.zero_add, Sem.run_bind]
    rw [hs, Result.andThen_ok]
    simpa using h2
theorem stA {t : TypeId} {z v : Value} {n by_ g : Nat} {old l : List Value} {e : TypeId} {K' : Value → World → Prop} (hi : Inf P t z n by_) (hb : Blk w g old e) (hv : v.cells = l.toArray) (hl : l.length = n) (ho : old.length = n) (h1 : l.all oneC = true)
    (hk : ∀ w', Blk w' g l e → Chg w g w' → K' undef w') : U P (Instr.storeAt t (.pointer (some ⟨g, 0, none⟩)) v) w K' := by
  obtain ⟨w', h2, h3, h4⟩ := run_storeB (P := P) l [] old w (by omega) (fun u hu => List.all_eq_true.1 h1 u hu) hb
  refine U.ok ?_ (hk w' (by simpa using h3) h4)
  simp only [List.length_nil] at h2
  simp [Instr.storeAt, Instr.sureAddr, storeVar, run_size hi, hv, hl, h2]
/-- What a block holds, as one value. -/
theorem r_var {t : TypeId} {d : TypeDesc} {z : Value} {n by_ g : Nat} {l : List Value} {e : TypeId} (ht : P.underlying t = some d) (hd : aggB d = true) (hi : Inf P t z n by_) (hb : Blk w g l e) (hl : l.length = n) :
    (loadVar t ⟨g, 0, none⟩).run P w = .ok (.agg l.toArray) w := by
  have := r_loadAgg (P := P) (w := w) (b := g) (off := 0) ht hd hi hl fun j hj => by
    obtain ⟨u, hu⟩ : ∃ u, l[j]? = some u := ⟨_, List.getElem?_eq_getElem hj⟩
    rw [hu, Nat.zero_add, hb.cell]; exact hu
  simpa [Instr.loadAt, Instr.sureAddr] using this
end
end Go.Vc
namespace Go.Vc
section
variable {P : Program} {w : World} {K : Value → World → Prop} {S : World → Prop} {L : Value → Prop}
/-- l[i], of structs. -/
theorem ldxA {t x : TypeId} {v : Value} {n sz : Nat} {cs l : List Value} {k : IntKind} {i : Int} (h : XA P t sz) (ht : ∃ d z by_, P.underlying x = some d ∧ aggB d = true ∧ Inf P x z sz by_) (hs : SliceIs w v sz n cs) (h0 : 0 ≤ i) (h1 : i < n)
    (hc : (cs.drop (i.toNat * sz)).take sz = l) (hl : l.length = sz) (hk : K (.agg l.toArray) w) :
    V P (Instr.indexAt t v (.int k i)) w fun p w1 => V P (Instr.loadAt x p) w1 K := by
  obtain ⟨e, z, b', hte, hi⟩ := h
  obtain ⟨d, z', by_, h2, h3, h4⟩ := ht
  obtain ⟨b, off, cap, rfl, hcell⟩ := hs.there (by omega)
  refine V.ok (r_index hte hi h0 h1) (V.ok (r_loadAgg h2 h3 h4 hl fun j hj => ?_) hk)
  obtain ⟨u, hu⟩ : ∃ u, l[j]? = some u := ⟨_, List.getElem?_eq_getElem hj⟩
  rw [hu, Nat.add_assoc]
  refine hcell _ u ?_
  rw [← hc, List.getElem?_take, List.getElem?_drop] at hu
  split at hu
  · exact hu
  · cases hu
theorem yLss {t : TypeId} {a b : Int} (hk : L (.bool (decide (a < b)))) : yieldS P S (binOp .lss t (.int .i64 a) (.int .i64 b)) L := yieldS.ok (fun _ _ => r_lss) hk
theorem yGeq {t : TypeId} {a b : Int} (hk : L (.bool (decide (a ≥ b)))) : yieldS P S (binOp .geq t (.int .i64 a) (.int .i64 b)) L := yieldS.ok (fun _ _ => r_geq) hk
end
end Go.Vc
namespace Go.Vc
open Go.Proofs
section
variable {P : Program} {w : World} {K : Value → World → Prop} {S : World → Prop} {L : Value → Prop}
theorem yBld {t : TypeId} {zs : List Value} (h : BD P t zs) {parts : Array (Nat × Value)} (l : List (Nat × Value)) (hp : parts = l.toArray) (h1 : (l.all fun x => decide (x.1 < zs.length) && oneC x.2) = true)
    (hk : L (.agg (l.foldl (fun cs x => cs.set x.1 x.2) zs).toArray)) : yieldS P S (Instr.build t parts) L := by
  subst hp
  obtain ⟨fs, b, hu, hi, hm⟩ := h
  refine yieldS.ok (fun w _ => ?_) hk
  simp only [Instr.build, Sem.run_bind, run_zero hi, Result.andThen_ok, run_underlying hu, hm, Value.cells]
  rw [fillB l zs rfl h1]
  simp
theorem yMki {t : TypeId} (h : MI P t) {v : Value} (hk : L (.iface t v)) : yieldS P S (Instr.makeInterface t v) L := by
  obtain ⟨d, hu, hd⟩ := h
  refine yieldS.ok (fun w _ => ?_) hk
  cases d <;> first | (simp [Instr.makeInterface, run_underlying hu]; done) | cases hd
theorem r_max2 {t : TypeId} {ts : Array TypeId} {a b : Int} : (Builtin.max_ ts t #[.int .i64 a, .int .i64 b]).run P w = .ok (.int .i64 (if a < b then b else a)) w ∨ (Builtin.max_ ts t #[.int .i64 a, .int .i64 b]).run P w = .ok (.int .i64 (if b < a then a else b)) w := by
  simp [Builtin.max_, Builtin.max2]
theorem mx2 {t : TypeId} {ts : Array TypeId} {a b : Int} (hk : ∀ c, (c = a ∨ c = b) → a ≤ c → b ≤ c → K (.int .i64 c) w) : V P (Builtin.max_ ts t #[.int .i64 a, .int .i64 b]) w K := by
  rcases r_max2 (P := P) (w := w) (t := t) (ts := ts) (a := a) (b := b) with h | h
  · exact V.ok h (hk _ (by split <;> simp) (by split <;> omega) (by split <;> omega))
  · exact V.ok h (hk _ (by split <;> simp) (by split <;> omega) (by split <;> omega))
theorem r_min2 {t : TypeId} {ts : Array TypeId} {a b : Int} : (Builtin.min_ ts t #[.int .i64 a, .int .i64 b]).run P w = .ok (.int .i64 (if a < b then a else b)) w ∨ (Builtin.min_ ts t #[.int .i64 a, .int .i64 b]).run P w = .ok (.int .i64 (if b < a then b else a)) w := by
  simp [Builtin.min_, Builtin.min2]
theorem mn2 {t : TypeId} {ts : Array TypeId} {a b : Int} (hk : ∀ c, (c = a ∨ c = b) → c ≤ a → c ≤ b → K (.int .i64 c) w) : V P (Builtin.min_ ts t #[.int .i64 a, .int .i64 b]) w K := by
  rcases r_min2 (P := P) (w := w) (t := t) (ts := ts) (a := a) (b := b) with h | h
  · exact V.ok h (hk _ (by split <;> simp) (by split <;> omega) (by split <;> omega))
  · exact V.ok h (hk _ (by split <;> simp) (by split <;> omega) (by split <;> omega))
theorem rm {t : TypeId} {a b : Int} (hb : 0 < b) (hk : ∀ c, c = a.tmod b → -b < c → c < b → K (.int .i64 c) w) : V P (binOp .rem t (.int .i64 a) (.int .i64 b)) w K := by
  have hne : b ≠ 0 := by omega
  have hr : (binOp .rem t (.int .i64 a) (.int .i64 b)).run P w = .ok (.int .i64 (a.tmod b)) w := by simp [binOp, Op.intDiv, hne]
  exact V.ok hr (hk _ rfl (by have := Int.lt_tmod_of_pos a hb; simpa using this) (Int.tmod_lt_of_pos a hb))
/-- a[i], of an array of whole numbers that lies at an address. -/
theorem r_arr {t e n : TypeId} {z : Value} {by_ : Nat} (ht : P.underlying t = some (.array n e)) (hi : Inf P e z 1 by_) {b off : Nat} {i : Int} (h0 : 0 ≤ i) (h1 : i < n) :
    (Instr.indexAt t (.pointer (some ⟨b, off, none⟩)) (.int .i64 i)).run P w = .ok (.pointer (some ⟨b, off + i.toNat, none⟩)) w := by
  simp [Instr.indexAt, asIntOf, run_underlying ht, Instr.sureAddr, run_size hi, h0, h1, add_mk]
theorem r_idx {t e n : TypeId} {z : Value} {by_ : Nat} (ht : P.underlying t = some (.array n e)) (hi : Inf P e z 1 by_) (hd : ∃ k, P.underlying e = some (.int k)) {cs : Array Value} {i : Int} {u : Value} (h0 : 0 ≤ i) (h1 : i < n) (hu : cs[i.toNat]? = some u) (_ : oneC u = true) :
    (Instr.index t (.agg cs) (.int .i64 i)).run P w = .ok u w := by
  obtain ⟨k, hd⟩ := hd
  simp [Instr.index, asIntOf, run_underlying ht, run_size hi, h0, h1, part, run_isAgg hd, aggB, hu]
end
end Go.Vc
namespace Go.Vc
section
variable {P : Program} {w : World}
end
end Go.Vc
namespace Go.Vc
/-- All but some blocks stay. -/
structure Fr (S : Nat → Prop) (w w' : World) : Prop where
  os : w'.os = w.os
  tape : w'.tape = w.tape
  output : w'.output = w.output
  size : w.heap.size ≤ w'.heap.size
  block : ∀ i, i < w.heap.size → ¬ S i → w'.heap[i]? = w.heap[i]?
theorem Fr.refl (S : Nat → Prop) (w : World) : Fr S w w := ⟨rfl, rfl, rfl, Nat.le_refl _, fun _ _ _ => rfl⟩
theorem Fr.trans {S T : Nat → Prop} {a b c : World} (h : Fr S a b) (k : Fr T b c) (hT : ∀ i, i < a.heap.size → T i → S i) : Fr S a c :=
  ⟨k.os.trans h.os, k.tape.trans h.tape, k.output.trans h.output, Nat.le_trans h.size k.size, fun i hi hn => (k.block i (Nat.lt_of_lt_of_le hi h.size) fun ht => hn (hT i hi ht)).trans (h.block i hi hn)⟩
theorem Fr.mono {S T : Nat → Prop} {a b : World} (h : Fr S a b) (hT : ∀ i, S i → T i) : Fr T a b := ⟨h.os, h.tape, h.output, h.size, fun i hi hn => h.block i hi fun hs => hn (hT i hs)⟩
theorem Fr.of_ext {S : Nat → Prop} {w w' : World} (h : Ext w w') : Fr S w w' := ⟨h.os, h.tape, h.output, h.size, fun i hi _ => h.block i hi (by simp)⟩
theorem Fr.of_grown {S : Nat → Prop} {w w' : World} {row : Option Nat} (h : w.grownBy w' row) (hr : ∀ k, row = some k → S k) : Fr S w w' := ⟨h.os, h.tape, h.output, h.size, fun i hi hn => h.block i hi fun he => hn (hr i he.symm)⟩
theorem Fr.of_set {S : Nat → Prop} {w : World} {b o : Nat} {v : Value} (hb : S b) : Fr S w (w.setCell ⟨b, o, none⟩ v) := ⟨rfl, rfl, rfl, by simp, fun i _ hn => heap_setCell_other _ _ _ _ (fun he => hn (by simp [he]; exact hb))⟩
theorem Fr.set {S : Nat → Prop} {w w' : World} (h : Fr S w w') {b o : Nat} {v : Value} (hb : S b) : Fr S w (w'.setCell ⟨b, o, none⟩ v) := h.trans (Fr.of_set (S := S) hb) fun _ _ h => h
theorem Fr.ext {S : Nat → Prop} {w0 w w' : World} (h : Fr S w w') (hx : Ext w0 w) (hS : ∀ i, S i → w0.heap.size ≤ i) : Ext w0 w' :=
  ⟨h.os.trans hx.os, h.tape.trans hx.tape, h.output.trans hx.output, Nat.le_trans hx.size h.size, fun i hi hn => (h.block i (Nat.lt_of_lt_of_le hi hx.size) fun hs => by have := hS i hs; omega).trans (hx.block i hi hn)⟩
theorem Fr.blk {S : Nat → Prop} {w w' : World} {g : Nat} {cs : List Value} {e : TypeId} (h : Fr S w w') (hb : Blk w g cs e) (hn : ¬ S g) : Blk w' g cs e := by
  unfold Blk
  rw [h.block g hb.lt hn]; exact hb
theorem Fr.own {S : Nat → Prop} {w w' : World} {B e sz n : Nat} {v : Value} {xs : List Value} (h : Fr S w w') (ho : w.ownsRow B e sz v n xs) (hn : ∀ k, v.ownBlock = some k → ¬ S k) : w'.ownsRow B e sz v n xs := by
  refine ⟨ho.1, ?_⟩
  rcases ho.2 with h1 | ⟨g, cap, cur, rfl, hb, hg, rest⟩
  · exact .inl h1
  · refine .inr ⟨g, cap, cur, rfl, hb, ?_, rest⟩
    rw [h.block g (Array.getElem?_eq_some_iff.1 hg).1 (hn g rfl)]
    exact hg
end Go.Vc
namespace Go.Vc
theorem fnK {P : Program} {w : World} {K : Value → World → Prop} {f : Fn} {a c : Array Value} (h : K (.func f a c) w) : V P (Instr.makeFunc f a c) w K := V.ok (by simp [Instr.makeFunc]) h
/-- A field of a block is stored. -/
theorem stF {P : Program} {w : World} {K : World → Prop} {s f o ft b n by_ : Nat} {z u : Value} {cs : List Value} {e : TypeId} (hf : FA P s f o) (hi : Inf P ft z 1 by_) (hb : Blk w b cs e) (hn : cs.length = n) (ho : o < n) (hu : oneC u = true) (hk : K (w.setCell ⟨b, o, none⟩ u)) :
    V P (Instr.fieldAt s (.pointer (some ⟨b, 0, none⟩)) f) w fun q w1 => U P (Instr.storeAt ft q u) w1 fun _ w2 => K w2 := by
  refine V.ok (hf.ex w b 0) ?_
  have hc := hb.cell o
  rw [List.getElem?_eq_getElem (by omega)] at hc
  rw [Nat.zero_add]
  exact U.ok (r_store hi hu hc (hb.frozen _)) hk
end Go.Vc
namespace Go.Vc
/-- A store into a whole block, at an address that is known. -/
theorem stBY {P : Program} {w : World} {x : TypeId} {z : Value} {by_ : Nat} (hx : Inf P x z 1 by_) {g e i : Nat} {cs : List Value} (hb : Blk w g cs e) (h1 : i < cs.length) {u : Value} (hu : oneC u = true) {K' : World → Prop}
    (hk : K' (w.setCell ⟨g, i, none⟩ u)) : U P (Instr.storeAt x (.pointer (some ⟨g, 0 + i * 1, none⟩)) u) w fun _ w2 => K' w2 := by
  have hc := hb.cell i
  rw [List.getElem?_eq_getElem h1] at hc
  simp only [Nat.zero_add, Nat.mul_one]
  exact U.ok (r_store hx hu hc (hb.frozen _)) hk
theorem dynD.mono {P : Program} {w : World} {f : Value} {args : Array Value} {R K : Value → World → Prop} (h : dynD P f args w R) (hk : ∀ v w', R v w' → K v w') : dynD P f args w K := by
  obtain ⟨g, cap, h1, h2⟩ := h
  exact ⟨g, cap, h1, h2.mono hk⟩
end Go.Vc
namespace Go.Vc
/-- A cell of a block is stored, at an address that is known. -/
theorem stFU {P : Program} {w : World} {K : World → Prop} {ft b o n by_ : Nat} {z u : Value} {cs : List Value} {e : TypeId} (hi : Inf P ft z 1 by_) (hb : Blk w b cs e) (hn : cs.length = n) (ho : o < n) (hu : oneC u = true) (hk : K (w.setCell ⟨b, o, none⟩ u)) :
    U P (Instr.storeAt ft (.pointer (some ⟨b, 0 + o, none⟩)) u) w fun _ w2 => K w2 := by
  have hc := hb.cell o
  rw [List.getElem?_eq_getElem (by omega)] at hc
  rw [Nat.zero_add]
  exact U.ok (r_store hi hu hc (hb.frozen _)) hk
end Go.Vc
namespace Go.Vc
section
variable {P : Program} {w : World}
/-- A store into a row that the call owns, at an address that is known. -/
theorem stY {x : TypeId} {z : Value} {by_ : Nat} (hx : Inf P x z 1 by_) {B e n g c : Nat} {xs : List Value} (ho : w.ownsRow B e 1 (.slice (some ⟨g, 0, none⟩) n c) n xs) {i : Nat} (h1 : i < n) {u : Value} (hu : oneC u = true) {K' : World → Prop}
    (hk : ∀ w', w'.ownsRow B e 1 (.slice (some ⟨g, 0, none⟩) n c) n (xs.set i u) → w.grownBy w' (some g) → K' w') :
    U P (Instr.storeAt x (.pointer (some ⟨g, 0 + i * 1, none⟩)) u) w fun _ w2 => K' w2 := by
  obtain ⟨s1, s2⟩ := ho.stored i u
  have hc := ho.cellAt i (by omega)
  have hlt : i < xs.length := by have := ho.1; omega
  rw [List.getElem?_eq_getElem hlt] at hc
  simp only [Nat.zero_add, Nat.mul_one]
  exact U.ok (r_store hx hu hc (ho.frozenAt _)) (hk _ s1 s2)
end
end Go.Vc
namespace Go.Vc
end Go.Vc
namespace Go.Vc
end Go.Vc
namespace Go.Vc
open Go.Proofs
abbrev u8 (b : Int) : Value := .int .u8 b
section
variable {P : Program} {w : World} {K : Value → World → Prop} {S : World → Prop} {L : Value → Prop}
/-- l, as bytes that lie in a slice. -/
def BytesAre (w : World) (v : Value) (l : List Int) : Prop := SliceIs w v 1 l.length (l.map u8)
/-- l[lo:hi] -/
theorem r_sl {t e : TypeId} {z : Value} {by_ : Nat} (ht : P.underlying t = some (.slice e)) (hi : Inf P e z 1 by_) {v : Value} {n : Nat} {cs : List Value} (h : SliceIs w v 1 n cs) {lo hi' : Option Value} {a b : Nat} (ha : (lo = none ∧ a = 0) ∨ lo = some (.int .i64 a)) (hb : (hi' = none ∧ b = n) ∨ hi' = some (.int .i64 b)) (hab : a ≤ b) (hbn : b ≤ n) :
    ∃ v', (∀ w', (Instr.sliceAt t v lo hi' none).run P w' = .ok v' w') ∧ ∀ w2, SliceIs w2 v 1 n cs → SliceIs w2 v' 1 (b - a) ((cs.drop a).take (b - a)) := by
  have hcl : cs.length = n := by have := h.1; omega
  rcases h.2 with ⟨rfl, h0⟩ | ⟨g, off, cap, rfl, h1, h2, _⟩
  · have ea : a = 0 := by omega
    have eb : b = 0 := by omega
    subst ea eb
    refine ⟨.slice none 0 0, fun w' => ?_, fun w2 _ => ?_⟩
    · rcases ha with ⟨rfl, _⟩ | rfl <;> rcases hb with ⟨rfl, _⟩ | rfl <;> simp [Instr.sliceAt, Instr.slice, run_underlying ht, run_size hi, Instr.sliceBounds, Instr.sliceBound, asIntOf]
    · simp
      exact SliceIs.nil w2 1
  · have hb1 : (0 : Int) ≤ b ∧ (b : Int) ≤ cap := ⟨by omega, by omega⟩
    have ha1 : (0 : Int) ≤ a ∧ (a : Int) ≤ b := ⟨by omega, by omega⟩
    have hbc : b ≤ cap := by omega
    refine ⟨.slice (if cap = a then some ⟨g, off, none⟩ else (some (⟨g, off, none⟩ : Addr)).map (·.add (a * 1))) (b - a) (cap - a), fun w' => ?_, fun w2 hw2 => ?_⟩
    · rcases ha with ⟨rfl, rfl⟩ | rfl <;> rcases hb with ⟨rfl, rfl⟩ | rfl <;> simp [Instr.sliceAt, Instr.slice, run_underlying ht, run_size hi, Instr.sliceBounds, Instr.sliceBound, asIntOf, hab, hbc]
    · refine ⟨by simp; omega, .inr ?_⟩
      by_cases hca : cap = a
      · rw [if_pos hca]
        exact ⟨g, off, cap - a, rfl, by omega, by omega, fun j u hj => by
          have := (List.getElem?_eq_some_iff.1 hj).1
          simp at this
          omega⟩
      · rw [if_neg hca]
        rcases hw2.2 with ⟨he, _⟩ | ⟨g', off', cap', he, _, _, h3⟩
        · cases he
        · cases he
          refine ⟨g, off + a, cap - a, by simp [add_mk], by omega, by omega, fun j u hj => ?_⟩
          rw [List.getElem?_take] at hj
          split at hj
          · rw [List.getElem?_drop] at hj
            have := h3 _ _ hj
            rw [Nat.add_assoc]; exact this
          · cases hj
theorem r_eqStr {s : TypeId} {x y : Operand} {a b : ByteArray} :
    (do eqGuard .eql s x y (.string a) (.string b); binOp .eql s (.string a) (.string b)).run P w = .ok (.bool (a.toList == b.toList)) w := by
  simp [eqGuard, binOp, Op.stringOp]
end
end Go.Vc
namespace Go.Proofs.YtcdbikfnlggbnaaGreatDoor
open Go.Vc

/-- A node. -/
inductive GNode where
  | const (dst n : Int)
  | move (dst src : Int)
  | bin (op dst a b : Int)
  | un (op dst a : Int)
  | choose (dst c a b : Int)
  | tick
  | goto (to : Int)
  | branch (cond to : Int)
  | getField (dst f : Int)
  | putField (f src : Int)
  | serve (op a b dst : Int) (args : List Int)
  | call (m dst : Int) (args : List Int)
  | callX (i dst : Int) (args : List Int)
  | ret (src : Int)

/-- The value of a node; 'sv' is the slice of its arguments, where it has one. -/
def GNode.val (sv : Value) : GNode → Value
  | .const d n => .iface 84 (.agg #[i64 d, i32 n])
  | .move d s => .iface 140 (.agg #[i64 d, i64 s])
  | .bin op d a b => .iface 113 (.agg #[i64 op, i64 d, i64 a, i64 b])
  | .un op d a => .iface 142 (.agg #[i64 op, i64 d, i64 a])
  | .choose d c a b => .iface 144 (.agg #[i64 d, i64 c, i64 a, i64 b])
  | .tick => .iface 49 (.agg #[])
  | .goto t => .iface 146 (.agg #[i64 t])
  | .branch c t => .iface 148 (.agg #[i64 c, i64 t])
  | .getField d f => .iface 150 (.agg #[i64 d, i64 f])
  | .putField f s => .iface 152 (.agg #[i64 f, i64 s])
  | .serve op a b d _ => .iface 162 (.agg #[i64 op, i64 a, i64 b, i64 d, sv])
  | .call m d _ => .iface 155 (.agg #[i64 m, i64 d, sv])
  | .callX i d _ => .iface 157 (.agg #[i64 i, i64 d, sv])
  | .ret s => .iface 105 (.agg #[i64 s])
def GNode.args : GNode → List Int
  | .serve _ _ _ _ l | .call _ _ l | .callX _ _ l => l
  | _ => []
def GNode.df : GNode → Int
  | .const d _ | .move d _ | .bin _ d _ _ | .un _ d _ | .choose d _ _ _ | .getField d _ | .serve _ _ _ d _ | .call _ d _ | .callX _ d _ => d
  | _ => -1
def GNode.us : GNode → List Int
  | .move _ s => [s]
  | .bin _ _ a b => [a, b]
  | .un _ _ a => [a]
  | .choose _ c a b => [c, a, b]
  | .branch c _ => [c]
  | .putField _ s => [s]
  | .serve _ _ _ _ l | .call _ _ l | .callX _ _ l => l
  | .ret s => if s = -1 then [] else [s]
  | _ => []
def GNode.nx (n : GNode) (k : Int) : List Int :=
  match n with
  | .goto t => [t]
  | .branch _ t => if t = k + 1 then [k + 1] else [k + 1, t]
  | .ret _ => []
  | _ => [k + 1]
def IntsAre (w : World) (v : Value) (l : List Int) : Prop := SliceIs w v 1 l.length (l.map i64)
def BoolsAre (w : World) (v : Value) (l : List Bool) : Prop := SliceIs w v 1 l.length (l.map .bool)
/-- A value is a node. -/
def NodeIs (w : World) (v : Value) (n : GNode) : Prop := ∃ sv, v = n.val sv ∧ IntsAre w sv n.args
theorem NodeIs.ext {w w' : World} {v : Value} {n : GNode} (h : NodeIs w v n) (hx : Ext w w') : NodeIs w' v n := by
  obtain ⟨sv, h1, h2⟩ := h
  exact ⟨sv, h1, h2.ext hx⟩

/-- A program of nodes. -/
structure GProg where
  params : Int
  regs : Int
  nodes : List GNode
/-- A list of nodes, as the cells of a slice. -/
def NodesAre (w : World) (v : Value) (l : List GNode) : Prop := ∃ vs, SliceIs w v 1 l.length vs ∧ ∀ (i : Nat) n, l[i]? = some n → ∃ u, vs[i]? = some u ∧ NodeIs w u n
theorem NodesAre.ext {w w' : World} {v : Value} {l : List GNode} (h : NodesAre w v l) (hx : Ext w w') : NodesAre w' v l := by
  obtain ⟨vs, h1, h2⟩ := h
  refine ⟨vs, h1.ext hx, fun i n hi => ?_⟩
  obtain ⟨u, h3, h4⟩ := h2 i n hi
  exact ⟨u, h3, h4.ext hx⟩
def ProgIs (w : World) (v : Value) (p : GProg) : Prop := ∃ ns, v = .agg #[i64 p.params, i64 p.regs, ns] ∧ NodesAre w ns p.nodes ∧ ∀ n ∈ p.nodes, n.args.length ≤ 4294967296
theorem ProgIs.ext {w w' : World} {v : Value} {p : GProg} (h : ProgIs w v p) (hx : Ext w w') : ProgIs w' v p := by
  obtain ⟨ns, h1, h2, h3⟩ := h
  exact ⟨ns, h1, h2.ext hx, h3⟩
theorem us_len (n : GNode) : n.us.length ≤ n.args.length + 3 := by
  cases n <;> simp [GNode.us, GNode.args]
  split <;> simp
theorem nx_len (n : GNode) (k : Int) : (n.nx k).length ≤ 2 := by
  cases n <;> simp [GNode.nx]
  split <;> simp
theorem IntsAre.ext {w w' : World} {v : Value} {l : List Int} (h : IntsAre w v l) (hx : Ext w w') : IntsAre w' v l := SliceIs.ext h hx
theorem BoolsAre.ext {w w' : World} {v : Value} {l : List Bool} (h : BoolsAre w v l) (hx : Ext w w') : BoolsAre w' v l := SliceIs.ext h hx
theorem getI {l : List Int} {j : Nat} {u : Int} (h : l[j]? = some u) : (l.map i64)[(j : Int).toNat]? = some (i64 u) := by simp [h]
theorem ex_get {α : Type} {l : List α} {j : Nat} (h : j < l.length) : ∃ u, l[j]? = some u := ⟨_, List.getElem?_eq_getElem h⟩
theorem i64_succ (j : Nat) : Value.int .i64 ((j : Int) + 1) = i64 ((j + 1 : Nat) : Int) := by simp
theorem intOf_i64 (n : Int) : RowKit.intOf (i64 n) = n := rfl

end Go.Proofs.YtcdbikfnlggbnaaGreatDoor
namespace Go.Tc

/-- An instruction. -/
structure Ins where
  op : Int
  a : Int
  b : Int
/-- A method. -/
structure Mth where
  params : List Int
  result : Int
  locals : List Int
  code : List Ins
/-- An import. -/
structure Imp where
  name : ByteArray
  exp : Int
  params : List Int
  result : Int
/-- An applet. -/
structure Img where
  name : ByteArray
  fields : List Int
  imports : List Imp
  methods : List Mth
  exports : List Int

def Mth.none : Mth := ⟨[], 0, [], []⟩
def Imp.none : Imp := ⟨ByteArray.empty, 0, [], 0⟩
def Ins.none : Ins := ⟨0, 0, 0⟩
def Mth.locs (m : Mth) : List Int := m.params ++ m.locals
def Img.meth (i : Img) (k : Int) : Mth := i.methods.getD k.toNat Mth.none
def Img.imp (i : Img) (k : Int) : Imp := i.imports.getD k.toNat Imp.none
def Mth.ins (m : Mth) (pc : Nat) : Ins := m.code.getD pc Ins.none

/-! ### Kinds -/
def isInt (k : Int) : Bool := k == 1 || k == 2
def isArr (k : Int) : Bool := k == 3 || k == 4
def both (a b : Int) : Int := if a = 2 ∨ b = 2 then 2 else 1
def ofK (a : Int) : Int := if a = 3 then 1 else if a = 4 then 2 else 0
def joinK (a b : Int) : Option Int := if isInt a && isInt b then some (both a b) else if isArr a && a == b then some a else none
def joinL : List Int → List Int → Option (List Int)
  | [], [] => some []
  | a :: l, b :: m => (joinK a b).bind fun k => (joinL l m).map (k :: ·)
  | _, _ => none
/-- A kind of a value. -/
def Kd (k : Int) : Prop := 1 ≤ k ∧ k ≤ 4
instance (k : Int) : Decidable (Kd k) := by unfold Kd; exact inferInstance
def Kds (l : List Int) : Prop := ∀ k ∈ l, Kd k

/-! ### Which may be -/
def lim (op : Int) : Int × Int :=
  if op = 1 then (-2147483648, 2147483647) else if op = 2 ∨ op = 3 then (0, 9) else if op = 23 ∨ op = 24 then (0, 119)
  else if op = 25 ∨ op = 27 then (3, 4) else if op = 33 ∨ op = 34 then (0, 7) else if op = 35 ∨ op = 36 then (1, 2)
  else if op = 37 then (0, 7) else if op = 38 then (0, 3) else (0, 0)
def Ins.right (x : Ins) : Prop := (1 ≤ x.op ∧ x.op ≤ 39) ∧ (lim x.op).1 ≤ x.a ∧ x.a ≤ (lim x.op).2 ∧ (if x.op = 27 then (0 ≤ x.b ∧ x.b ≤ 2) ∨ (4 ≤ x.b ∧ x.b ≤ 6) else x.b = 0)
def kindsR (l : List Int) (most : Int) : Prop := Kds l ∧ (l.length : Int) ≤ most
def Imp.right (x : Imp) : Prop := (0 ≤ x.exp ∧ x.exp < 4) ∧ kindsR x.params 4 ∧ (0 ≤ x.result ∧ x.result ≤ 4)
def Mth.right (m : Mth) : Prop := kindsR m.params 4 ∧ (0 ≤ m.result ∧ m.result ≤ 4) ∧ kindsR m.locals (10 - m.params.length) ∧ (1 ≤ m.code.length ∧ m.code.length ≤ 120) ∧ ∀ x ∈ m.code, x.right
/-- Names left aside. -/
def Img.right (i : Img) : Prop := kindsR i.fields 8 ∧ (i.imports.length ≤ 4 ∧ ∀ x ∈ i.imports, x.right) ∧ ((1 ≤ i.methods.length ∧ i.methods.length ≤ 8) ∧ (∀ m ∈ i.methods, m.right) ∧ (i.meth 0).params = [] ∧ (i.meth 0).result = 0) ∧
  i.exports.length ≤ 4 ∧ ∀ n ∈ i.exports, 0 ≤ n ∧ n < (i.methods.length : Int)

/-! ### An instruction -/
def namesS (i : Img) (m : Mth) (x : Ins) : Prop :=
  if x.op = 2 ∨ x.op = 3 then x.a < (m.locs.length : Int) else if x.op = 33 ∨ x.op = 34 then x.a < (i.fields.length : Int)
  else if x.op = 37 then x.a < (i.methods.length : Int) else if x.op = 38 then x.a < (i.imports.length : Int)
  else if x.op = 23 ∨ x.op = 24 then x.a < (m.code.length : Int) else True
def isBin (op : Int) : Prop := (6 ≤ op ∧ op ≤ 14) ∨ (19 ≤ op ∧ op ≤ 21)
instance (op : Int) : Decidable (isBin op) := by unfold isBin; exact inferInstance
def resL (r : Int) : List Int := if r = 0 then [] else [r]
/-- What is asked for: -1 any, -2 an int, -3 an int that is public, -4 an array, else what fits. -/
def asked (i : Img) (m : Mth) (x : Ins) : List Int :=
  if x.op = 3 then [m.locs.getD x.a.toNat 0]
  else if x.op = 34 then [i.fields.getD x.a.toNat 0]
  else if x.op = 4 ∨ x.op = 5 then [-1]
  else if x.op = 15 ∨ x.op = 16 then [-2]
  else if isBin x.op then [-2, -2]
  else if x.op = 17 ∨ x.op = 18 then [-3, -3]
  else if x.op = 22 then [-2, -1, -1]
  else if x.op = 24 ∨ x.op = 27 then [-3]
  else if x.op = 26 ∨ x.op = 28 then [-4]
  else if x.op = 29 then [-4, -3]
  else if x.op = 30 then [-4, -3, -2]
  else if x.op = 31 ∨ x.op = 32 then [-4, -3, -4, -3, -3]
  else if x.op = 36 then [-4, -3, -3]
  else if x.op = 37 then (i.meth x.a).params
  else if x.op = 38 then (i.imp x.a).params
  else if x.op = 39 then resL m.result
  else []
def doesK (k a : Int) : Bool := if a = -1 then true else if a = -2 ∨ a = -3 then isInt k else if a = -4 then isArr k else isInt k && isInt a || k == a
def showsK (k a : Int) : Bool := (a == -3 || a == 1) && k == 2
def doesL : List Int → List Int → Bool
  | a :: t, k :: l => doesK k a && doesL t l
  | _, _ => true
def showsL : List Int → List Int → Bool
  | a :: t, k :: l => showsK k a || showsL t l
  | _, _ => false
def nth (l : List Int) (n : Nat) : Int := l.getD n 0
def kindsB (x : Ins) (t l : List Int) : Bool :=
  doesL t l && (if x.op = 22 then isInt (nth l 1) && isInt (nth l 2) || isArr (nth l 1) && nth l 1 == nth l 2 else true)
def leaksB (x : Ins) (t l : List Int) : Bool :=
  if x.op = 22 then isArr (nth l 1) && nth l 0 == 2
  else if x.op = 30 then showsL t l || (nth l 0 == 3 && nth l 2 == 2)
  else if x.op = 31 then showsL t l || (nth l 0 == 3 && nth l 2 == 4)
  else if x.op = 36 then showsL t l || (x.a == 1 && nth l 0 == 4)
  else showsL t l
def pickS (l : List Int) : Int := if isArr (nth l 1) then nth l 1 else both (nth l 0) (both (nth l 1) (nth l 2))
def givesS (i : Img) (m : Mth) (x : Ins) (l : List Int) : List Int :=
  if x.op = 1 ∨ x.op = 17 ∨ x.op = 18 ∨ x.op = 26 ∨ x.op = 28 then [1]
  else if x.op = 2 then [m.locs.getD x.a.toNat 0]
  else if x.op = 33 then [i.fields.getD x.a.toNat 0]
  else if x.op = 5 then [nth l 0, nth l 0]
  else if isBin x.op then [both (nth l 0) (nth l 1)]
  else if x.op = 15 ∨ x.op = 16 then [nth l 0]
  else if x.op = 22 then [pickS l]
  else if x.op = 25 ∨ x.op = 27 then [x.a]
  else if x.op = 29 then [ofK (nth l 0)]
  else if x.op = 32 then (if nth l 0 = 4 ∨ nth l 2 = 4 then [2] else [1])
  else if x.op = 35 then [3 + x.a - 1]
  else if x.op = 37 then resL (i.meth x.a).result
  else if x.op = 38 then resL (i.imp x.a).result
  else []
/-- How many it gives. -/
def hgt (i : Img) (m : Mth) (x : Ins) : Nat := (givesS i m x (List.replicate 8 0)).length
theorem hgt_eq (i : Img) (m : Mth) (x : Ins) (l : List Int) : (givesS i m x l).length = hgt i m x := by
  unfold hgt givesS
  simp only [apply_ite List.length, List.length_cons, List.length_nil, ite_self]
def doS (i : Img) (m : Mth) (x : Ins) (s : List Int) : Option (List Int) :=
  let t := asked i m x
  if s.length < t.length ∨ 8 < s.length - t.length + hgt i m x then none
  else
    let l := s.drop (s.length - t.length)
    if kindsB x t l = true ∧ leaksB x t l = false then some (s.take (s.length - t.length) ++ givesS i m x l) else none
def nextS (x : Ins) (pc : Nat) : List Int :=
  if x.op = 23 then [x.a] else if x.op = 24 then [(pc : Int) + 1, x.a] else if x.op = 39 then [] else [(pc : Int) + 1]

/-! ### The walk -/
structure St where
  st : List (List Int)
  has : List Bool
  todo : List Bool
def St.ini (n : Nat) : St := ⟨List.replicate n [], List.replicate n false, List.replicate n false⟩
def St.h (s : St) (k : Nat) : Bool := s.has.getD k false
def St.t (s : St) (k : Nat) : Bool := s.todo.getD k false
def St.s (s : St) (k : Nat) : List Int := s.st.getD k []
def goesS (n : Nat) (s : St) (to : Int) (stack : List Int) : Option St :=
  if (n : Int) ≤ to then none
  else if s.h to.toNat then
    (joinL (s.s to.toNat) stack).bind fun j => if j = s.s to.toNat then some s else some { s with st := s.st.set to.toNat j, todo := s.todo.set to.toNat true }
  else some ⟨s.st.set to.toNat stack, s.has.set to.toNat true, s.todo.set to.toNat true⟩
def goesL (n : Nat) (stack : List Int) : List Int → St → Option St
  | [], s => some s
  | to :: l, s => (goesS n s to stack).bind (goesL n stack l)
def stepS (i : Img) (m : Mth) (s : St) (pc : Nat) : Option St :=
  (doS i m (m.ins pc) (s.s pc)).bind fun stack => goesL m.code.length stack (nextS (m.ins pc) pc) { s with todo := s.todo.set pc false }
/-- The first that is to be done. -/
def firstT : List Bool → Option Nat
  | [] => none
  | true :: _ => some 0
  | false :: l => (firstT l).map (· + 1)
inductive Runs (i : Img) (m : Mth) : St → Option St → Prop
  | done {s : St} : firstT s.todo = none → Runs i m s (some s)
  | fail {s : St} {pc : Nat} : firstT s.todo = some pc → stepS i m s pc = none → Runs i m s none
  | go {s s' : St} {pc : Nat} {r : Option St} : firstT s.todo = some pc → stepS i m s pc = some s' → Runs i m s' r → Runs i m s r
theorem Runs.det {i : Img} {m : Mth} {s : St} {r r' : Option St} (h : Runs i m s r) (h' : Runs i m s r') : r = r' := by
  induction h generalizing r' with
  | done h1 => cases h' with
    | done _ => rfl
    | fail h2 _ => rw [h1] at h2; cases h2
    | go h2 _ _ => rw [h1] at h2; cases h2
  | fail h1 h2 => cases h' with
    | done h3 => rw [h1] at h3; cases h3
    | fail _ _ => rfl
    | go h3 h4 _ => rw [h1] at h3; cases h3; rw [h2] at h4; cases h4
  | go h1 h2 _ ih => cases h' with
    | done h3 => rw [h1] at h3; cases h3
    | fail h3 h4 => rw [h1] at h3; cases h3; rw [h2] at h4; cases h4
    | go h3 h4 h5 => rw [h1] at h3; cases h3; rw [h2] at h4; cases h4; exact ih h5
/-- A method begins with its first pc. -/
def St.first (n : Nat) : St := ⟨(List.replicate n []).set 0 [], (List.replicate n false).set 0 true, (List.replicate n false).set 0 true⟩
/-- A method's walk. -/
def Walk (i : Img) (m : Mth) (r : Option St) : Prop := ((∃ x ∈ m.code, ¬ namesS i m x) ∧ r = none) ∨ ((∀ x ∈ m.code, namesS i m x) ∧ Runs i m (St.first m.code.length) r)
theorem Walk.det {i : Img} {m : Mth} {r r' : Option St} (h : Walk i m r) (h' : Walk i m r') : r = r' := by
  rcases h with ⟨⟨x, h1, h2⟩, rfl⟩ | ⟨h1, h2⟩
  · rcases h' with ⟨_, rfl⟩ | ⟨h3, _⟩
    · rfl
    · exact absurd (h3 x h1) h2
  · rcases h' with ⟨⟨x, h3, h4⟩, rfl⟩ | ⟨_, h4⟩
    · exact absurd (h1 x h3) h4
    · exact h2.det h4
/-- The image may run. -/
def Taken (i : Img) : Prop := i.right ∧ ∀ m ∈ i.methods, ∃ s, Walk i m (some s)
end Go.Tc
namespace Go.Tc
/-! ### Lists -/
theorem getD_set {α : Type} (l : List α) (k j : Nat) (v d : α) : (l.set k v).getD j d = if j = k ∧ k < l.length then v else l.getD j d := by
  simp only [List.getD_eq_getElem?_getD, List.getElem?_set]
  by_cases h : k = j
  · subst h
    by_cases hk : k < l.length
    · simp [hk]
    · simp [hk]
  · have : ¬ j = k := fun e => h e.symm
    simp [h, this]
theorem getD_lt {l : List Bool} {k : Nat} (h : l.getD k false = true) : k < l.length := by
  by_cases hk : k < l.length
  · exact hk
  · rw [List.getD_eq_getElem?_getD, List.getElem?_eq_none (by omega)] at h; cases h
theorem firstT_some : ∀ {l : List Bool} {k : Nat}, firstT l = some k → l.getD k false = true ∧ ∀ j, j < k → l.getD j false = false
  | [], _, h => by cases h
  | true :: _, k, h => by cases h; exact ⟨rfl, fun j hj => absurd hj (Nat.not_lt_zero _)⟩
  | false :: l, k, h => by
    simp only [firstT, Option.map_eq_some_iff] at h
    obtain ⟨q, hq, rfl⟩ := h
    obtain ⟨h1, h2⟩ := firstT_some hq
    refine ⟨h1, fun j hj => ?_⟩
    cases j with
    | zero => rfl
    | succ j => exact h2 j (by omega)
theorem firstT_none : ∀ {l : List Bool}, firstT l = none → ∀ j, l.getD j false = false
  | [], _, j => rfl
  | true :: _, h, _ => by cases h
  | false :: l, h, j => by
    simp only [firstT, Option.map_eq_none_iff] at h
    cases j with
    | zero => rfl
    | succ j => exact firstT_none h j
theorem firstT_of : ∀ {l : List Bool} {k : Nat}, l.getD k false = true → (∀ j, j < k → l.getD j false = false) → firstT l = some k
  | [], k, h, _ => by cases h
  | true :: l, k, h, h2 => by
    cases k with
    | zero => rfl
    | succ k => have := h2 0 (by omega); cases this
  | false :: l, k, h, h2 => by
    cases k with
    | zero => cases h
    | succ k =>
      have := firstT_of (l := l) (k := k) h fun j hj => h2 (j + 1) (by omega)
      simp [firstT, this]
theorem firstT_not : ∀ {l : List Bool}, (∀ j, j < l.length → l.getD j false = false) → firstT l = none
  | [], _ => rfl
  | true :: l, h => by have := h 0 (by simp); cases this
  | false :: l, h => by
    have := firstT_not (l := l) fun j hj => h (j + 1) (by simpa using hj)
    simp [firstT, this]

/-! ### Kinds -/
theorem joinK_kd {a b k : Int} (ha : Kd a) (hb : Kd b) (h : joinK a b = some k) : Kd k ∧ (k = a ∨ (a = 1 ∧ k = 2)) := by
  obtain ⟨a1, a2⟩ := ha
  obtain ⟨b1, b2⟩ := hb
  have ea : a = 1 ∨ a = 2 ∨ a = 3 ∨ a = 4 := by omega
  have eb : b = 1 ∨ b = 2 ∨ b = 3 ∨ b = 4 := by omega
  unfold Kd
  rcases ea with rfl | rfl | rfl | rfl <;> rcases eb with rfl | rfl | rfl | rfl <;> simp [joinK, isInt, isArr, both] at h <;> subst h <;> simp
/-- How many are public numbers. -/
def pubs (l : List Int) : Nat := l.countP (· == 1)
theorem pubs_le (l : List Int) : pubs l ≤ l.length := List.countP_le_length
theorem joinL_ok : ∀ {a b j : List Int}, Kds a → Kds b → joinL a b = some j → Kds j ∧ j.length = a.length ∧ (j = a ∨ pubs j < pubs a) ∧ pubs j ≤ pubs a
  | [], [], j, _, _, h => by cases h; exact ⟨fun _ h => (List.not_mem_nil h).elim, rfl, .inl rfl, Nat.le_refl _⟩
  | [], _ :: _, _, _, _, h => by cases h
  | _ :: _, [], _, _, _, h => by cases h
  | x :: a, y :: b, j, ha, hb, h => by
    simp only [joinL, Option.bind_eq_some_iff, Option.map_eq_some_iff] at h
    obtain ⟨k, hk, l, hl, rfl⟩ := h
    obtain ⟨h1, h2⟩ := joinK_kd (ha x (by simp)) (hb y (by simp)) hk
    obtain ⟨h3, h4, h5, h6⟩ := joinL_ok (fun q hq => ha q (by simp [hq])) (fun q hq => hb q (by simp [hq])) hl
    refine ⟨fun q hq => ?_, by simp [h4], ?_, ?_⟩
    · rcases List.mem_cons.1 hq with rfl | hq
      · exact h1
      · exact h3 q hq
    · rcases h2 with rfl | ⟨rfl, rfl⟩
      · rcases h5 with rfl | h5
        · exact .inl rfl
        · right; simp only [pubs, List.countP_cons] at h5 ⊢; omega
      · right; simp only [pubs, List.countP_cons] at h6 ⊢; simp; omega
    · rcases h2 with rfl | ⟨rfl, rfl⟩
      · simp only [pubs, List.countP_cons] at h6 ⊢; omega
      · simp only [pubs, List.countP_cons] at h6 ⊢; simp; omega
theorem joinL_len : ∀ {a b j : List Int}, joinL a b = some j → j.length = a.length ∧ j.length = b.length
  | [], [], j, h => by cases h; exact ⟨rfl, rfl⟩
  | [], _ :: _, _, h => by cases h
  | _ :: _, [], _, h => by cases h
  | x :: a, y :: b, j, h => by
    simp only [joinL, Option.bind_eq_some_iff, Option.map_eq_some_iff] at h
    obtain ⟨k, hk, l, hl, rfl⟩ := h
    obtain ⟨h1, h2⟩ := joinL_len hl
    simp only [List.length_cons]; omega

/-! ### What may be -/
theorem kd_getD {l : List Int} (h : Kds l) {k : Nat} (hk : k < l.length) : Kd (l.getD k 0) := by
  rw [List.getD_eq_getElem?_getD, List.getElem?_eq_getElem hk]; exact h _ (List.getElem_mem hk)
theorem mth_kds {m : Mth} (h : m.right) : Kds m.locs := fun k hk => by
  rcases List.mem_append.1 hk with h1 | h1
  · exact h.1.1 k h1
  · exact h.2.2.1.1 k h1
theorem Img.meth_mem {i : Img} {k : Int} (h0 : 0 ≤ k) (hk : k < i.methods.length) : i.meth k ∈ i.methods := by
  unfold Img.meth
  rw [List.getD_eq_getElem?_getD, List.getElem?_eq_getElem (by omega)]; exact List.getElem_mem _
theorem Img.imp_mem {i : Img} {k : Int} (h0 : 0 ≤ k) (hk : k < i.imports.length) : i.imp k ∈ i.imports := by
  unfold Img.imp
  rw [List.getD_eq_getElem?_getD, List.getElem?_eq_getElem (by omega)]; exact List.getElem_mem _
theorem resL_kds {r : Int} (h : 0 ≤ r ∧ r ≤ 4) : Kds (resL r) := fun k hk => by
  unfold resL at hk
  split at hk
  · exact (List.not_mem_nil hk).elim
  · rw [List.mem_singleton] at hk; subst hk; unfold Kd; omega
theorem resL_len (r : Int) : (resL r).length ≤ 1 := by unfold resL; split <;> simp
/-- Of a right image an instruction that names what is there. -/
structure Okx (i : Img) (m : Mth) (x : Ins) : Prop where
  ir : i.right
  mr : m.right
  xr : x.right
  nm : namesS i m x
theorem both_kd {a b : Int} : Kd (both a b) := by unfold both Kd; split <;> omega
theorem mem_doesL : ∀ {t l : List Int} {n : Nat}, n < t.length → n < l.length → doesL t l = true → doesK (nth l n) (nth t n) = true
  | [], _, _, h, _, _ => by simp at h
  | _ :: _, [], _, _, h, _ => by simp at h
  | a :: t, k :: l, 0, _, _, h => by simp only [doesL, Bool.and_eq_true] at h; exact h.1
  | a :: t, k :: l, n + 1, h1, h2, h => by
    simp only [doesL, Bool.and_eq_true] at h
    exact mem_doesL (n := n) (by simpa using h1) (by simpa using h2) h.2
theorem nth_kd {l : List Int} (h : Kds l) {n : Nat} (hn : n < l.length) : Kd (nth l n) := kd_getD h hn
theorem isArr_iff {k : Int} : isArr k = true ↔ k = 3 ∨ k = 4 := by simp [isArr]
/-- What is given are kinds. -/
theorem gives_kds {i : Img} {m : Mth} {x : Ins} {l : List Int} (h : Okx i m x) (hl : Kds l) (hn : l.length = (asked i m x).length) (hk : kindsB x (asked i m x) l = true) : Kds (givesS i m x l) := by
  obtain ⟨hi, hm, hx, hs⟩ := h
  obtain ⟨op, a, b⟩ := x
  obtain ⟨⟨o1, o2⟩, a1, a2, _⟩ := hx
  dsimp only at o1 o2 a1 a2
  have hop : op = 1 ∨ op = 2 ∨ op = 3 ∨ op = 4 ∨ op = 5 ∨ isBin op ∨ op = 15 ∨ op = 16 ∨ op = 17 ∨ op = 18 ∨ op = 22 ∨ op = 23 ∨ op = 24 ∨ op = 25 ∨ op = 26 ∨ op = 27 ∨ op = 28 ∨ op = 29 ∨ op = 30 ∨ op = 31 ∨ op = 32 ∨ op = 33 ∨ op = 34 ∨ op = 35 ∨ op = 36 ∨ op = 37 ∨ op = 38 ∨ op = 39 := by
    unfold isBin; omega
  have one : ∀ {k : Int}, Kd k → Kds [k] := fun hk q hq => by rw [List.mem_singleton] at hq; subst hq; exact hk
  have nil : Kds [] := fun _ h => (List.not_mem_nil h).elim
  have mi : Kds m.locs := mth_kds hm
  rcases hop with rfl | rfl | rfl | rfl | rfl | hb | rfl | rfl | rfl | rfl | rfl | rfl | rfl | rfl | rfl | rfl | rfl | rfl | rfl | rfl | rfl | rfl | rfl | rfl | rfl | rfl | rfl | rfl
  case _ => exact one (by unfold Kd; omega)
  case _ =>
    have hs : a < (m.locs.length : Int) := hs
    have a1 : 0 ≤ a := a1
    exact one (kd_getD mi (by dsimp only; omega))
  case _ => exact nil
  case _ => exact nil
  case _ =>
    have hn : l.length = 1 := hn
    have h0 : Kd (nth l 0) := nth_kd hl (by omega)
    intro q hq
    simp [givesS] at hq
    subst hq; exact h0
  case _ =>
    have e : givesS i m ⟨op, a, b⟩ l = [both (nth l 0) (nth l 1)] := by
      unfold isBin at hb
      simp only [givesS]
      rw [if_neg (by omega), if_neg (by omega), if_neg (by omega), if_neg (by omega), if_pos (by unfold isBin; omega)]
    rw [e]; exact one both_kd
  case _ => have hn : l.length = 1 := hn; exact one (nth_kd hl (by omega))
  case _ => have hn : l.length = 1 := hn; exact one (nth_kd hl (by omega))
  case _ => exact one (by unfold Kd; omega)
  case _ => exact one (by unfold Kd; omega)
  case _ =>
    have e : givesS i m ⟨22, a, b⟩ l = [pickS l] := rfl
    have hn : l.length = 3 := hn
    rw [e]
    refine one ?_
    unfold pickS
    split
    · exact nth_kd hl (by omega)
    · exact both_kd
  case _ => exact nil
  case _ => exact nil
  case _ => have a1 : 3 ≤ a := a1; have a2 : a ≤ 4 := a2; exact one (by unfold Kd; dsimp only; omega)
  case _ => exact one (by unfold Kd; omega)
  case _ => have a1 : 3 ≤ a := a1; have a2 : a ≤ 4 := a2; exact one (by unfold Kd; dsimp only; omega)
  case _ => exact one (by unfold Kd; omega)
  case _ =>
    have e : givesS i m ⟨29, a, b⟩ l = [ofK (nth l 0)] := rfl
    rw [e]
    simp only [kindsB, Bool.and_eq_true] at hk
    have hn : l.length = 2 := hn
    have := mem_doesL (t := [-4, -3]) (l := l) (n := 0) (show 0 < 2 by decide) (by omega) hk.1
    have h2 : isArr (nth l 0) = true := this
    rw [isArr_iff] at h2
    refine one ?_
    rcases h2 with h2 | h2 <;> rw [h2] <;> (unfold Kd ofK; simp)
  case _ => exact nil
  case _ => exact nil
  case _ =>
    have e : givesS i m ⟨32, a, b⟩ l = if nth l 0 = 4 ∨ nth l 2 = 4 then [2] else [1] := rfl
    rw [e]
    split <;> exact one (by unfold Kd; omega)
  case _ =>
    have hs : a < (i.fields.length : Int) := hs
    have a1 : 0 ≤ a := a1
    exact one (kd_getD hi.1.1 (by dsimp only; omega))
  case _ => exact nil
  case _ => have a1 : 1 ≤ a := a1; have a2 : a ≤ 2 := a2; exact one (by unfold Kd; dsimp only; omega)
  case _ => exact nil
  case _ =>
    exact resL_kds (hi.2.2.1.2.1 _ (Img.meth_mem a1 hs)).2.1
  case _ =>
    exact resL_kds (hi.2.1.2 _ (Img.imp_mem a1 hs)).2.2
  case _ => exact nil
theorem doS_ok {i : Img} {m : Mth} {x : Ins} {s out : List Int} (h : Okx i m x) (hs : Kds s) (ho : doS i m x s = some out) : Kds out ∧ out.length ≤ 8 ∧ (asked i m x).length ≤ s.length ∧ out.length = s.length - (asked i m x).length + hgt i m x := by
  simp only [doS] at ho
  split at ho
  · cases ho
  rename_i hn
  split at ho
  · rename_i hk
    cases ho
    have hsub : Kds (s.drop (s.length - (asked i m x).length)) := fun k hk => hs k (List.mem_of_mem_drop hk)
    have hlen : (s.drop (s.length - (asked i m x).length)).length = (asked i m x).length := by rw [List.length_drop]; omega
    refine ⟨fun k hk' => ?_, ?_, by omega, ?_⟩
    · rcases List.mem_append.1 hk' with h1 | h1
      · exact hs k (List.mem_of_mem_take h1)
      · exact gives_kds h hsub hlen hk.1 k h1
    · rw [List.length_append, List.length_take, hgt_eq]; omega
    · rw [List.length_append, List.length_take, hgt_eq]; omega
  · cases ho

/-! ### The walk -/
/-- What holds throughout. -/
structure WF (m : Mth) (s : St) : Prop where
  l1 : s.st.length = m.code.length
  l2 : s.has.length = m.code.length
  l3 : s.todo.length = m.code.length
  kd : ∀ k, s.h k = true → Kds (s.s k) ∧ (s.s k).length ≤ 8
  no : ∀ k, s.h k = false → s.s k = [] ∧ s.t k = false
def wt (s : St) (k : Nat) : Nat := (if s.t k then 1 else 0) + (if s.h k then 2 * pubs (s.s k) else 20)
def msr (n : Nat) (s : St) : Nat := ((List.range n).map (wt s)).sum
theorem sum_le {l : List Nat} {f g : Nat → Nat} (h : ∀ k ∈ l, f k ≤ g k) : (l.map f).sum ≤ (l.map g).sum := by
  induction l with
  | nil => exact Nat.le_refl _
  | cons a l ih =>
    simp only [List.map_cons, List.sum_cons]
    have := ih fun k hk => h k (List.mem_cons_of_mem _ hk)
    have := h a List.mem_cons_self
    omega
theorem sum_lt {l : List Nat} {f g : Nat → Nat} (h : ∀ k ∈ l, f k ≤ g k) {a : Nat} (ha : a ∈ l) (hl : f a < g a) : (l.map f).sum < (l.map g).sum := by
  induction l with
  | nil => exact (List.not_mem_nil ha).elim
  | cons b l ih =>
    simp only [List.map_cons, List.sum_cons]
    have h1 := h b List.mem_cons_self
    have h2 := sum_le fun k hk => h k (List.mem_cons_of_mem _ hk)
    rcases List.mem_cons.1 ha with rfl | ha
    · omega
    · have := ih (fun k hk => h k (List.mem_cons_of_mem _ hk)) ha
      omega
/-- One state is as far as another, or further. -/
structure Fur (m : Mth) (s s' : St) : Prop where
  has : ∀ k, s.h k = true → s'.h k = true
  len : ∀ k, s.h k = true → (s'.s k).length = (s.s k).length
  same : ∀ k, s'.t k = false → s.h k = true → s'.s k = s.s k
  new : ∀ k, s'.t k = false → s'.h k = true → s.h k = true
  wt : ∀ k, k < m.code.length → wt s' k ≤ wt s k
  todo : ∀ k, s.t k = true → s'.t k = true
theorem Fur.refl (m : Mth) (s : St) : Fur m s s := ⟨fun _ h => h, fun _ _ => rfl, fun _ _ _ => rfl, fun _ _ h => h, fun _ _ => Nat.le_refl _, fun _ h => h⟩
theorem Fur.trans {m : Mth} {a b c : St} (h : Fur m a b) (k : Fur m b c) : Fur m a c where
  has q hq := k.has q (h.has q hq)
  len q hq := (k.len q (h.has q hq)).trans (h.len q hq)
  same q h1 h2 := by
    have hb : b.t q = false := by cases hb : b.t q with
      | false => rfl
      | true => rw [k.todo q hb] at h1; cases h1
    exact (k.same q h1 (h.has q h2)).trans (h.same q hb h2)
  new q h1 h2 := by
    have hb : b.t q = false := by cases hb : b.t q with
      | false => rfl
      | true => rw [k.todo q hb] at h1; cases h1
    exact h.new q hb (k.new q h1 h2)
  wt q hq := Nat.le_trans (k.wt q hq) (h.wt q hq)
  todo q hq := k.todo q (h.todo q hq)
theorem goes_ok {m : Mth} {s s' : St} {to : Int} {stack : List Int} (hw : WF m s) (h0 : 0 ≤ to) (hs : Kds stack) (hl : stack.length ≤ 8) (h : goesS m.code.length s to stack = some s') :
    WF m s' ∧ Fur m s s' ∧ to < m.code.length ∧ s'.h to.toNat = true ∧ (s'.s to.toNat).length = stack.length := by
  unfold goesS at h
  split at h
  · cases h
  rename_i hto
  obtain ⟨k, rfl⟩ : ∃ k : Nat, to = k := ⟨to.toNat, by omega⟩
  simp only [Int.toNat_natCast] at h ⊢
  have hk : k < m.code.length := by omega
  obtain ⟨w1, w2, w3, w4, w5⟩ := hw
  split at h
  · rename_i hh
    obtain ⟨j, hj, h⟩ := Option.bind_eq_some_iff.1 h
    obtain ⟨c1, c2⟩ := w4 k hh
    obtain ⟨j1, j2, j3, j4⟩ := joinL_ok c1 hs hj
    have j5 := (joinL_len hj).2
    split at h
    · rename_i he
      cases h
      exact ⟨⟨w1, w2, w3, w4, w5⟩, Fur.refl _ _, by omega, hh, by rw [← he]; exact j5⟩
    · rename_i hne
      cases h
      have j3 : pubs j < pubs (s.s k) := j3.resolve_left hne
      have eS : ∀ q, St.s { s with st := s.st.set k j, todo := s.todo.set k true } q = if q = k then j else s.s q := fun q => by
        simp only [St.s, getD_set]
        by_cases hq : q = k
        · rw [if_pos ⟨hq, by omega⟩, if_pos hq]
        · rw [if_neg (fun h => hq h.1), if_neg hq]
      have eT : ∀ q, St.t { s with st := s.st.set k j, todo := s.todo.set k true } q = if q = k then true else s.t q := fun q => by
        simp only [St.t, getD_set]
        by_cases hq : q = k
        · rw [if_pos ⟨hq, by omega⟩, if_pos hq]
        · rw [if_neg (fun h => hq h.1), if_neg hq]
      have eH : ∀ q, St.h { s with st := s.st.set k j, todo := s.todo.set k true } q = s.h q := fun q => rfl
      refine ⟨⟨by simpa using w1, w2, by simpa using w3, fun q hq => ?_, fun q hq => ?_⟩, ⟨fun q hq => hq, fun q hq => ?_, fun q h1 h2 => ?_, fun q _ h2 => h2, fun q hq => ?_, fun q hq => ?_⟩, by omega, hh, ?_⟩
      · rw [eS]
        by_cases hqk : q = k
        · rw [if_pos hqk]; exact ⟨j1, by omega⟩
        · rw [if_neg hqk]; exact w4 q hq
      · have hqk : q ≠ k := fun e => by subst e; rw [eH] at hq; rw [hh] at hq; cases hq
        rw [eS, eT, if_neg hqk, if_neg hqk]
        exact w5 q hq
      · rw [eS]
        by_cases hqk : q = k
        · rw [if_pos hqk, hqk]; exact j2
        · rw [if_neg hqk]
      · rw [eT] at h1
        by_cases hqk : q = k
        · rw [if_pos hqk] at h1; cases h1
        · rw [eS, if_neg hqk]
      · unfold wt
        rw [eS, eT, eH]
        by_cases hqk : q = k
        · subst hqk
          rw [if_pos rfl, if_pos rfl]
          simp only [hh, if_true]
          split <;> omega
        · rw [if_neg hqk, if_neg hqk]; exact Nat.le_refl _
      · rw [eT]
        by_cases hqk : q = k
        · rw [if_pos hqk]
        · rw [if_neg hqk]; exact hq
      · rw [eS, if_pos rfl]; exact j5
  · rename_i hh
    have hh : s.h k = false := by simpa using hh
    cases h
    have eS : ∀ q, St.s ⟨s.st.set k stack, s.has.set k true, s.todo.set k true⟩ q = if q = k then stack else s.s q := fun q => by
      simp only [St.s, getD_set]
      by_cases hq : q = k
      · rw [if_pos ⟨hq, by omega⟩, if_pos hq]
      · rw [if_neg (fun h => hq h.1), if_neg hq]
    have eT : ∀ q, St.t ⟨s.st.set k stack, s.has.set k true, s.todo.set k true⟩ q = if q = k then true else s.t q := fun q => by
      simp only [St.t, getD_set]
      by_cases hq : q = k
      · rw [if_pos ⟨hq, by omega⟩, if_pos hq]
      · rw [if_neg (fun h => hq h.1), if_neg hq]
    have eH : ∀ q, St.h ⟨s.st.set k stack, s.has.set k true, s.todo.set k true⟩ q = if q = k then true else s.h q := fun q => by
      simp only [St.h, getD_set]
      by_cases hq : q = k
      · rw [if_pos ⟨hq, by omega⟩, if_pos hq]
      · rw [if_neg (fun h => hq h.1), if_neg hq]
    refine ⟨⟨by simpa using w1, by simpa using w2, by simpa using w3, fun q hq => ?_, fun q hq => ?_⟩, ⟨fun q hq => ?_, fun q hq => ?_, fun q h1 h2 => ?_, fun q h1 h2 => ?_, fun q hq => ?_, fun q hq => ?_⟩, by omega, ?_, ?_⟩
    · rw [eS]
      by_cases hqk : q = k
      · rw [if_pos hqk]; exact ⟨hs, hl⟩
      · rw [if_neg hqk]; rw [eH, if_neg hqk] at hq; exact w4 q hq
    · rw [eH] at hq
      by_cases hqk : q = k
      · rw [if_pos hqk] at hq; cases hq
      · rw [if_neg hqk] at hq
        rw [eS, eT, if_neg hqk, if_neg hqk]
        exact w5 q hq
    · rw [eH]; split
      · rfl
      · exact hq
    · have hqk : q ≠ k := fun e => by subst e; rw [hh] at hq; cases hq
      rw [eS, if_neg hqk]
    · have hqk : q ≠ k := fun e => by subst e; rw [hh] at h2; cases h2
      rw [eS, if_neg hqk]
    · have hqk : q ≠ k := fun e => by rw [eT, if_pos e] at h1; cases h1
      rw [eH, if_neg hqk] at h2; exact h2
    · unfold wt
      rw [eS, eT, eH]
      by_cases hqk : q = k
      · subst hqk
        rw [if_pos rfl, if_pos rfl, if_pos rfl]
        have := pubs_le stack
        simp only [hh, if_true, Bool.false_eq_true, if_false]
        omega
      · rw [if_neg hqk, if_neg hqk, if_neg hqk]; exact Nat.le_refl _
    · rw [eT]; split
      · rfl
      · exact hq
    · rw [eH, if_pos rfl]
    · rw [eS, if_pos rfl]
theorem goesL_ok {m : Mth} {stack : List Int} (hs : Kds stack) (hl : stack.length ≤ 8) : ∀ {l : List Int} {s s' : St}, WF m s → (∀ to ∈ l, 0 ≤ to) → goesL m.code.length stack l s = some s' →
    WF m s' ∧ Fur m s s' ∧ ∀ to ∈ l, to < m.code.length ∧ s'.h to.toNat = true ∧ (s'.s to.toNat).length = stack.length
  | [], s, s', hw, _, h => by cases h; exact ⟨hw, Fur.refl _ _, fun _ h => (List.not_mem_nil h).elim⟩
  | to :: l, s, s', hw, h0, h => by
    simp only [goesL, Option.bind_eq_some_iff] at h
    obtain ⟨s1, h1, h2⟩ := h
    obtain ⟨a1, a2, a3, a4, a5⟩ := goes_ok hw (h0 to (by simp)) hs hl h1
    obtain ⟨b1, b2, b3⟩ := goesL_ok hs hl a1 (fun q hq => h0 q (by simp [hq])) h2
    refine ⟨b1, a2.trans b2, fun q hq => ?_⟩
    rcases List.mem_cons.1 hq with rfl | hq
    · exact ⟨a3, b2.has _ a4, (b2.len _ a4).trans a5⟩
    · exact b3 q hq
/-- What an instruction that is done says of what comes next. -/
def Led (i : Img) (m : Mth) (s : St) (k : Nat) : Prop := ∃ out, doS i m (m.ins k) (s.s k) = some out ∧ ∀ to ∈ nextS (m.ins k) k, 0 ≤ to ∧ to < m.code.length ∧ s.h to.toNat = true ∧ (s.s to.toNat).length = out.length
def Inv (i : Img) (m : Mth) (s : St) : Prop := s.h 0 = true ∧ s.s 0 = [] ∧ ∀ k, s.h k = true → s.t k = false → Led i m s k
theorem next0 {i : Img} {m : Mth} {x : Ins} (h : Okx i m x) {pc : Nat} : ∀ to ∈ nextS x pc, 0 ≤ to := by
  obtain ⟨_, _, hx, _⟩ := h
  obtain ⟨op, a, b⟩ := x
  intro to ht
  unfold nextS at ht
  dsimp only at ht
  have h1 : (lim op).1 ≤ a := hx.2.1
  split at ht
  · rename_i e; subst e; rw [List.mem_singleton] at ht; subst ht; exact h1
  split at ht
  · rename_i e; subst e
    rcases List.mem_cons.1 ht with rfl | ht
    · omega
    · rw [List.mem_singleton] at ht; subst ht; exact h1
  split at ht
  · exact (List.not_mem_nil ht).elim
  · rw [List.mem_singleton] at ht; subst ht; omega
theorem ins_mem {m : Mth} {k : Nat} (h : k < m.code.length) : m.ins k ∈ m.code := by
  unfold Mth.ins
  rw [List.getD_eq_getElem?_getD, List.getElem?_eq_getElem h]; exact List.getElem_mem h
theorem step_ok {i : Img} {m : Mth} {s s' : St} {pc : Nat} (hx : ∀ x ∈ m.code, Okx i m x) (hw : WF m s) (hi : Inv i m s) (hf : firstT s.todo = some pc) (h : stepS i m s pc = some s') :
    WF m s' ∧ Inv i m s' ∧ msr m.code.length s' < msr m.code.length s := by
  obtain ⟨f1, _⟩ := firstT_some hf
  have hpc : pc < m.code.length := by have := getD_lt f1; have := hw.l3; omega
  have hh : s.h pc = true := by
    cases e : s.h pc with
    | true => rfl
    | false => have := (hw.no pc e).2; rw [St.t, f1] at this; cases this
  simp only [stepS, Option.bind_eq_some_iff] at h
  obtain ⟨stack, hd, hg⟩ := h
  have ox := hx _ (ins_mem hpc)
  obtain ⟨d1, d2, _, _⟩ := doS_ok ox (hw.kd pc hh).1 hd
  have eT : ∀ q, St.t { s with todo := s.todo.set pc false } q = if q = pc then false else s.t q := fun q => by
    simp only [St.t, getD_set]
    by_cases hq : q = pc
    · rw [if_pos ⟨hq, by have := hw.l3; omega⟩, if_pos hq]
    · rw [if_neg (fun h => hq h.1), if_neg hq]
  have hw1 : WF m { s with todo := s.todo.set pc false } := ⟨hw.l1, hw.l2, by simpa using hw.l3, hw.kd, fun q hq => ⟨(hw.no q hq).1, by rw [eT]; split; rfl; exact (hw.no q hq).2⟩⟩
  obtain ⟨g1, g2, g3⟩ := goesL_ok d1 d2 hw1 (next0 ox) hg
  refine ⟨g1, ⟨g2.has 0 hi.1, ?_, fun k h1 h2 => ?_⟩, ?_⟩
  · have := g2.len 0 hi.1
    have e0 : St.s { s with todo := s.todo.set pc false } 0 = [] := hi.2.1
    rw [e0] at this
    exact List.eq_nil_of_length_eq_zero this
  · have h3 : s.h k = true := g2.new k h2 h1
    have h4 : s'.s k = s.s k := g2.same k h2 h3
    by_cases hk : k = pc
    · subst hk
      exact ⟨stack, by rw [h4]; exact hd, fun to ht => ⟨next0 ox to ht, g3 to ht⟩⟩
    · have h5 : s.t k = false := by
        cases e : s.t k with
        | false => rfl
        | true => have := g2.todo k (by rw [eT, if_neg hk]; exact e); rw [this] at h2; cases h2
      obtain ⟨out, o1, o2⟩ := hi.2.2 k h3 h5
      refine ⟨out, by rw [h4]; exact o1, fun to ht => ?_⟩
      obtain ⟨p1, p2, p3, p4⟩ := o2 to ht
      exact ⟨p1, p2, g2.has _ p3, (g2.len _ p3).trans p4⟩
  · refine Nat.lt_of_le_of_lt (sum_le (g := wt { s with todo := s.todo.set pc false }) fun k hk => g2.wt k (List.mem_range.1 hk)) ?_
    refine sum_lt (fun k _ => ?_) (List.mem_range.2 hpc) ?_
    · unfold wt
      rw [eT]
      by_cases hk : k = pc
      · rw [if_pos hk]; exact Nat.add_le_add (by simp) (Nat.le_refl _)
      · rw [if_neg hk]; exact Nat.le_refl _
    · unfold wt
      rw [eT, if_pos rfl]
      have e : s.t pc = true := f1
      rw [e]
      exact Nat.add_lt_add_of_lt_of_le (by simp) (Nat.le_refl _)
theorem first_ok {i : Img} {m : Mth} (h : 1 ≤ m.code.length) : WF m (St.first m.code.length) ∧ Inv i m (St.first m.code.length) := by
  have eH : ∀ q, (St.first m.code.length).h q = decide (q = 0) := fun q => by
    simp only [St.first, St.h, getD_set]
    by_cases hq : q = 0
    · rw [if_pos ⟨hq, by simp; omega⟩]; simp [hq]
    · rw [if_neg (fun h => hq h.1)]
      simp only [hq, decide_false, List.getD_eq_getElem?_getD, List.getElem?_replicate]
      split <;> rfl
  have eT : ∀ q, (St.first m.code.length).t q = decide (q = 0) := eH
  have eS : ∀ q, (St.first m.code.length).s q = [] := fun q => by
    simp only [St.first, St.s, getD_set]
    split
    · rfl
    · simp only [List.getD_eq_getElem?_getD, List.getElem?_replicate]
      split <;> rfl
  refine ⟨⟨by simp [St.first], by simp [St.first], by simp [St.first], fun k _ => ?_, fun k hk => ?_⟩, by rw [eH]; rfl, eS 0, fun k h1 h2 => ?_⟩
  · rw [eS]; exact ⟨fun _ h => (List.not_mem_nil h).elim, by simp⟩
  · refine ⟨eS k, ?_⟩
    rw [eT, ← eH k]; exact hk
  · rw [eT] at h2; rw [eH] at h1; rw [h1] at h2; cases h2
theorem Runs.ok {i : Img} {m : Mth} (hx : ∀ x ∈ m.code, Okx i m x) {s : St} {r : Option St} (h : Runs i m s r) : ∀ s', r = some s' → WF m s → Inv i m s → WF m s' ∧ Inv i m s' ∧ ∀ k, s'.t k = false := by
  induction h with
  | done h1 => intro s' he hw hi; cases he; exact ⟨hw, hi, firstT_none h1⟩
  | fail _ _ => intro s' he; cases he
  | go h1 h2 _ ih =>
    intro s' he hw hi
    obtain ⟨a, b, _⟩ := step_ok hx hw hi h1 h2
    exact ih s' he a b
/-- Where a walk has ended, each pc that is reached leads on to such as are reached. -/
theorem Walk.led {i : Img} {m : Mth} {s : St} (hi : i.right) (hm : m.right) (h : Walk i m (some s)) : (∀ x ∈ m.code, Okx i m x) ∧ WF m s ∧ s.h 0 = true ∧ s.s 0 = [] ∧ ∀ k, s.h k = true → Led i m s k := by
  rcases h with ⟨_, h⟩ | ⟨h1, h2⟩
  · cases h
  have hx : ∀ x ∈ m.code, Okx i m x := fun x hx => ⟨hi, hm, hm.2.2.2.2 x hx, h1 x hx⟩
  obtain ⟨a, b⟩ := first_ok (i := i) hm.2.2.2.1.1
  obtain ⟨c, d, e⟩ := h2.ok hx s rfl a b
  exact ⟨hx, c, d.1, d.2.1, fun k hk => d.2.2 k hk (e k)⟩
end Go.Tc
namespace Go.Vc
/-- Where the ways that meet have one end, they go on from it. -/
theorem exJ0 {w : World} {C : World → Prop} : (∃ J : NP 0, J w ∧ ∀ w' : World, J w' → ∀ _f : Env, C w') ↔ C w :=
  ⟨fun ⟨_, h, k⟩ => k w h fun _ => undef, fun h => ⟨fun w' => w' = w, rfl, fun _ e _ => e ▸ h⟩⟩
theorem exJ1 {a : Value} {w : World} {C : Value → World → Prop} : (∃ J : NP 1, J a w ∧ ∀ (t : Value) (w' : World), J t w' → ∀ _f : Env, C t w') ↔ C a w :=
  ⟨fun ⟨_, h, k⟩ => k a w h fun _ => undef, fun h => ⟨fun t w' => t = a ∧ w' = w, ⟨rfl, rfl⟩, fun _ _ e _ => e.1 ▸ e.2 ▸ h⟩⟩
theorem exJ2 {a b : Value} {w : World} {C : Value → Value → World → Prop} : (∃ J : NP 2, J a b w ∧ ∀ (t u : Value) (w' : World), J t u w' → ∀ _f : Env, C t u w') ↔ C a b w :=
  ⟨fun ⟨_, h, k⟩ => k a b w h fun _ => undef, fun h => ⟨fun t u w' => t = a ∧ u = b ∧ w' = w, ⟨rfl, rfl, rfl⟩, fun _ _ _ e _ => e.1 ▸ e.2.1 ▸ e.2.2 ▸ h⟩⟩
/-- A field of an element is read. -/
theorem ldxF {P : Program} {w : World} {K : Value → World → Prop} {t s f o ft sz : Nat} {v : Value} {n : Nat} {cs : List Value} {k : IntKind} {i : Int} {u : Value} (h : XA P t sz) (hf : FA P s f o) (hl : L1 P ft) (hs : SliceIs w v sz n cs) (h0 : 0 ≤ i) (h1 : i < n)
    (hu : cs[i.toNat * sz + o]? = some u) (hk : K u w) :
    V P (Instr.indexAt t v (.int k i)) w fun p w1 => V P (Instr.fieldAt s p f) w1 fun q w2 => V P (Instr.loadAt ft q) w2 K := by
  obtain ⟨e, z, b', hte, hi⟩ := h
  obtain ⟨d, hd, ha⟩ := hl
  obtain ⟨b, off, cap, rfl, hcell⟩ := hs.there (by omega)
  refine V.ok (r_index hte hi h0 h1) (V.ok (hf.ex w b _) (V.ok (r_load hd ha ?_) hk))
  have := hcell _ _ hu
  rw [← Nat.add_assoc] at this
  exact this
theorem evL : (∀ {P : Program} {w : World} {K : Value → World → Prop} {k : IntKind} {t : TypeId} {a b : Int}, V P (binOp BinOp.lss t (Value.int k a) (Value.int k b)) w K ↔ K (Value.bool (decide (a < b))) w) ∧ (∀ {P : Program} {w : World} {K : Value → World → Prop} {k : IntKind} {t : TypeId} {a b : Int}, V P (binOp BinOp.leq t (Value.int k a) (Value.int k b)) w K ↔ K (Value.bool (decide (a ≤ b))) w) ∧ (∀ {P : Program} {w : World} {K : Value → World → Prop} {k : IntKind} {t : TypeId} {a b : Int}, V P (binOp BinOp.gtr t (Value.int k a) (Value.int k b)) w K ↔ K (Value.bool (decide (a > b))) w) ∧ (∀ {P : Program} {w : World} {K : Value → World → Prop} {k : IntKind} {t : TypeId} {a b : Int}, V P (binOp BinOp.geq t (Value.int k a) (Value.int k b)) w K ↔ K (Value.bool (decide (a ≥ b))) w) ∧ (∀ {P : Program} {w : World} {K : Value → World → Prop} {k : IntKind} {t : TypeId} {x y : Operand} {a b : Int}, V P (do eqGuard BinOp.eql t x y (Value.int k a) (Value.int k b); binOp BinOp.eql t (Value.int k a) (Value.int k b)) w K ↔ K (Value.bool (decide (a = b))) w) ∧ (∀ {P : Program} {w : World} {K : Value → World → Prop} {k : IntKind} {t : TypeId} {x y : Operand} {a b : Int}, V P (do eqGuard BinOp.neq t x y (Value.int k a) (Value.int k b); binOp BinOp.neq t (Value.int k a) (Value.int k b)) w K ↔ K (Value.bool (decide (a ≠ b))) w) ∧ (∀ {P : Program} {w : World} {K : Value → World → Prop} {b : Bool}, V P (Op.unary UnOp.not (Value.bool b)) w K ↔ K (Value.bool !b) w) ∧ (∀ {w : World} {K : Value → World → Prop} {step : (Value → World → Prop) → Prop}, gd (Value.bool true) true step w K ↔ step K) ∧ (∀ {w : World} {K : Value → World → Prop} {step : (Value → World → Prop) → Prop}, gd (Value.bool false) false step w K ↔ step K) ∧ (∀ {w : World} {K : Value → World → Prop} {step : (Value → World → Prop) → Prop}, gd (Value.bool true) false step w K ↔ K undef w) ∧ (∀ {w : World} {K : Value → World → Prop} {step : (Value → World → Prop) → Prop}, gd (Value.bool false) true step w K ↔ K undef w) ∧ (∀ {w : World} {K : Value → World → Prop} {want : Bool} {step : (Value → World → Prop) → Prop}, gd undef want step w K ↔ K undef w) ∧ (∀ {step : (Value → Prop) → Prop} {L : Value → Prop}, gdY (Value.bool true) true step L ↔ step L) ∧ (∀ {step : (Value → Prop) → Prop} {L : Value → Prop}, gdY (Value.bool false) false step L ↔ step L) ∧ (∀ {step : (Value → Prop) → Prop} {L : Value → Prop}, gdY (Value.bool true) false step L ↔ L undef) ∧ (∀ {step : (Value → Prop) → Prop} {L : Value → Prop}, gdY (Value.bool false) true step L ↔ L undef) ∧ (∀ {want : Bool} {step : (Value → Prop) → Prop} {L : Value → Prop}, gdY undef want step L ↔ L undef) ∧ (∀ {b : Bool} {x y : Value} {L : Value → Prop}, pickD (Value.bool b) x y L ↔ L (if b = true then x else y)) ∧ (∀ {x y : Prop}, ifD (Value.bool true) x y ↔ x) ∧ (∀ {x y : Prop}, ifD (Value.bool false) x y ↔ y) ∧ (∀ {w : World} {C : World → Prop}, (∃ J : NP 0, J w ∧ ∀ (w' : World), J w' → ∀ (_f : Env), C w') ↔ C w) ∧ (∀ {a : Value} {w : World} {C : Value → World → Prop}, (∃ J : NP 1, J a w ∧ ∀ (t : Value) (w' : World), J t w' → ∀ (_f : Env), C t w') ↔ C a w) ∧ ∀ {a b : Value} {w : World} {C : Value → Value → World → Prop}, (∃ J : NP 2, J a b w ∧ ∀ (t u : Value) (w' : World), J t u w' → ∀ (_f : Env), C t u w') ↔ C a b w :=
  And.intro @V_lss <| And.intro @V_leq <| And.intro @V_gtr <| And.intro @V_geq <| And.intro @V_eqlI <| And.intro @V_neqI <| And.intro @V_not <| And.intro @gd_t <| And.intro @gd_f <| And.intro @gd_tf <| And.intro @gd_ft <| And.intro @gd_undef <| And.intro @gdY_t <| And.intro @gdY_f <| And.intro @gdY_tf <| And.intro @gdY_ft <| And.intro @gdY_undef <| And.intro @pickD_iff <| And.intro @ifD_true <| And.intro @ifD_false <| And.intro @exJ0 <| And.intro @exJ1 @exJ2
end Go.Vc
namespace Go.Proofs.YtcdbikfnlggbnaaGreatDoor
open Go.Vc Go.Tc
variable {w : World} {K : Value → World → Prop}
theorem isArr95 {k : Int} (h : K (.bool (isArr k)) w) : callD Tryz.prog 95 #[i64 k] w K := by
  apply F95_wp
  unfold F95_den
  by_cases h1 : k = 3
  · subst h1; simp only [evL, reduceIte, decide_true]; exact h
  · by_cases h2 : k = 4
    · subst h2; simp only [evL, Int.reduceEq, reduceIte, Bool.false_eq_true, decide_true, decide_false]; exact h
    · simp only [h1, h2, evL, reduceIte, Bool.false_eq_true, decide_false]; rwa [show isArr k = false by simp [isArr, h1, h2]] at h
theorem isInt96 {k : Int} (h : K (.bool (isInt k)) w) : callD Tryz.prog 96 #[i64 k] w K := by
  apply F96_wp
  unfold F96_den
  by_cases h1 : k = 1
  · subst h1; simp only [evL, reduceIte, decide_true]; exact h
  · by_cases h2 : k = 2
    · subst h2; simp only [evL, Int.reduceEq, reduceIte, Bool.false_eq_true, decide_true, decide_false]; exact h
    · simp only [h1, h2, evL, reduceIte, Bool.false_eq_true, decide_false]; rwa [show isInt k = false by simp [isInt, h1, h2]] at h
/-- A secret kind. -/
def isSec (k : Int) : Bool := k == 2 || k == 4
theorem isSec97 {k : Int} (h : K (.bool (isSec k)) w) : callD Tryz.prog 97 #[i64 k] w K := by
  apply F97_wp
  unfold F97_den
  by_cases h1 : k = 2
  · subst h1; simp only [evL, reduceIte, decide_true]; exact h
  · by_cases h2 : k = 4
    · subst h2; simp only [evL, Int.reduceEq, reduceIte, Bool.false_eq_true, decide_true, decide_false]; exact h
    · simp only [h1, h2, evL, reduceIte, Bool.false_eq_true, decide_false]; rwa [show isSec k = false by simp [isSec, h1, h2]] at h
theorem isArr159 {k : Int} (h : K (.bool (isArr k)) w) : callD Tryz.prog 159 #[i64 k] w K := by
  apply F159_wp
  unfold F159_den
  by_cases h1 : k = 3
  · subst h1; simp only [evL, reduceIte, decide_true]; exact h
  · by_cases h2 : k = 4
    · subst h2; simp only [evL, Int.reduceEq, reduceIte, Bool.false_eq_true, decide_true, decide_false]; exact h
    · simp only [h1, h2, evL, reduceIte, Bool.false_eq_true, decide_false]; rwa [show isArr k = false by simp [isArr, h1, h2]] at h
theorem isInt158 {k : Int} (h : K (.bool (isInt k)) w) : callD Tryz.prog 158 #[i64 k] w K := by
  apply F158_wp
  unfold F158_den
  by_cases h1 : k = 1
  · subst h1; simp only [evL, reduceIte, decide_true]; exact h
  · by_cases h2 : k = 2
    · subst h2; simp only [evL, Int.reduceEq, reduceIte, Bool.false_eq_true, decide_true, decide_false]; exact h
    · simp only [h1, h2, evL, reduceIte, Bool.false_eq_true, decide_false]; rwa [show isInt k = false by simp [isInt, h1, h2]] at h
theorem kd4 {k : Int} (h : Kd k) : k = 1 ∨ k = 2 ∨ k = 3 ∨ k = 4 := by obtain ⟨h1, h2⟩ := h; omega
theorem both117 {a b : Int} (h : K (i64 (both a b)) w) : callD Tryz.prog 117 #[i64 a, i64 b] w K := by
  apply F117_wp
  unfold F117_den
  by_cases h1 : a = 2
  · subst h1; simp only [evL, reduceIte, decide_true]; simpa [both] using h
  · by_cases h2 : b = 2
    · subst h2; simp only [h1, evL, reduceIte, Bool.false_eq_true, decide_true, decide_false]; simpa [both] using h
    · simp only [h1, h2, evL, reduceIte, Bool.false_eq_true, decide_false]; simpa [both, h1, h2] using h
theorem both161 {a b : Int} (h : K (i64 (both a b)) w) : callD Tryz.prog 161 #[i64 a, i64 b] w K := by
  apply F161_wp
  unfold F161_den
  by_cases h1 : a = 2
  · subst h1; simp only [evL, reduceIte, decide_true]; simpa [both] using h
  · by_cases h2 : b = 2
    · subst h2; simp only [h1, evL, reduceIte, Bool.false_eq_true, decide_true, decide_false]; simpa [both] using h
    · simp only [h1, h2, evL, reduceIte, Bool.false_eq_true, decide_false]; simpa [both, h1, h2] using h
theorem of118 {a : Int} (h : K (i64 (ofK a)) w) : callD Tryz.prog 118 #[i64 a] w K := by
  apply F118_wp
  unfold F118_den
  by_cases h1 : a = 3
  · subst h1; simp only [evL, Int.reduceEq, decide_true, decide_false]; exact h
  · by_cases h2 : a = 4
    · subst h2; simp only [evL, Int.reduceEq, decide_true, decide_false]; exact h
    · simp only [h1, h2, evL, decide_false]; simpa [ofK, h1, h2] using h
theorem of163 {a : Int} (h : K (i64 (ofK a)) w) : callD Tryz.prog 163 #[i64 a] w K := by
  apply F163_wp
  unfold F163_den
  by_cases h1 : a = 3
  · subst h1; simp only [evL, Int.reduceEq, decide_true, decide_false]; exact h
  · by_cases h2 : a = 4
    · subst h2; simp only [evL, Int.reduceEq, decide_true, decide_false]; exact h
    · simp only [h1, h2, evL, decide_false]; simpa [ofK, h1, h2] using h
/-- The kinds' calls are done, one by one. -/
def fits (f t : Int) : Bool := f == t || (f == 1 && t == 2)
theorem fits116 {a b : Int} (ha : Kd a) (hb : Kd b) (h : K (.bool (fits a b)) w) : callD Tryz.prog 116 #[i64 a, i64 b] w K := by
  apply F116_wp
  unfold F116_den
  rcases kd4 ha with rfl | rfl | rfl | rfl <;> rcases kd4 hb with rfl | rfl | rfl | rfl <;>
    (repeat (first | simp only [evL, Int.reduceEq, reduceIte, Bool.false_eq_true, decide_true, decide_false] | (refine isInt96 ?_; simp only [isInt, Int.reduceBEq, Bool.or_false, Bool.or_true]) | (refine isArr95 ?_; simp only [isArr, Int.reduceBEq, Bool.or_false, Bool.or_true]) | exact h))
end Go.Proofs.YtcdbikfnlggbnaaGreatDoor
namespace Go.Proofs.YtcdbikfnlggbnaaGreatDoor
open Go.Vc Go.Tc
variable {w : World} {K : Value → World → Prop}
/-- What Join answers. -/
def joinV (a b : Int) : Value := match joinK a b with
  | some k => .tuple #[i64 k, .bool true]
  | none => .tuple #[i64 0, .bool false]
theorem join101 {a b : Int} (ha : Kd a) (hb : Kd b) (h : K (joinV a b) w) : callD Tryz.prog 101 #[i64 a, i64 b] w K := by
  apply F101_wp
  unfold F101_den
  rcases kd4 ha with rfl | rfl | rfl | rfl <;> rcases kd4 hb with rfl | rfl | rfl | rfl <;>
    (repeat (first | simp only [evL, Int.reduceEq, reduceIte, Bool.false_eq_true, decide_true, decide_false] | (refine isInt96 ?_; simp only [isInt, Int.reduceBEq, Bool.or_false, Bool.or_true]) | (refine isArr95 ?_; simp only [isArr, Int.reduceBEq, Bool.or_false, Bool.or_true]) | exact h))
theorem join154 {a b : Int} (ha : Kd a) (hb : Kd b) (h : K (joinV a b) w) : callD Tryz.prog 154 #[i64 a, i64 b] w K := by
  apply F154_wp
  unfold F154_den
  rcases kd4 ha with rfl | rfl | rfl | rfl <;> rcases kd4 hb with rfl | rfl | rfl | rfl <;>
    (repeat (first | simp only [evL, Int.reduceEq, reduceIte, Bool.false_eq_true, decide_true, decide_false] | (refine isInt158 ?_; simp only [isInt, Int.reduceBEq, Bool.or_false, Bool.or_true]) | (refine isArr159 ?_; simp only [isArr, Int.reduceBEq, Bool.or_false, Bool.or_true]) | (refine both161 ?_; simp only [both, Int.reduceEq, or_self, or_true, or_false, reduceIte]) | exact h))
/-- What into answers. -/
def intoS (a b : Int) : Int := if isInt a ≠ isInt b ∨ (isArr a = true ∧ a ≠ b) then 11 else if fits a b then 0 else 12
theorem into99 {a b : Int} (ha : Kd a) (hb : Kd b) (h : K (i64 (intoS a b)) w) : callD Tryz.prog 99 #[i64 a, i64 b] w K := by
  apply F99_wp
  unfold F99_den
  rcases kd4 ha with rfl | rfl | rfl | rfl <;> rcases kd4 hb with rfl | rfl | rfl | rfl <;>
    (repeat (first | simp only [V_neqb_4, evL, Int.reduceEq, not_true_eq_false, not_false_eq_true, ne_eq, reduceIte, Bool.false_eq_true, Bool.not_true, Bool.not_false, decide_true, decide_false, bne_self_eq_false, Bool.bne_false, Bool.bne_true] | (refine isInt96 ?_; simp only [isInt, Int.reduceBEq, Bool.or_false, Bool.or_true]) | (refine isArr95 ?_; simp only [isArr, Int.reduceBEq, Bool.or_false, Bool.or_true]) | (refine fits116 ha hb ?_; simp only [fits, Int.reduceBEq, Bool.or_false, Bool.or_true, Bool.and_true, Bool.and_false]) | exact h))
/-- What is asked for. -/
def Ask (a : Int) : Prop := a = -1 ∨ a = -2 ∨ a = -3 ∨ a = -4 ∨ Kd a
theorem does157 {k a : Int} (hk : Kd k) (ha : Ask a) (h : K (.bool (doesK k a)) w) : callD Tryz.prog 157 #[i64 k, i64 a] w K := by
  apply F157_wp
  unfold F157_den
  have ha : a = -1 ∨ a = -2 ∨ a = -3 ∨ a = -4 ∨ a = 1 ∨ a = 2 ∨ a = 3 ∨ a = 4 := by
    rcases ha with h | h | h | h | h
    · omega
    · omega
    · omega
    · omega
    · have := kd4 h; omega
  rcases kd4 hk with rfl | rfl | rfl | rfl <;> rcases ha with rfl | rfl | rfl | rfl | rfl | rfl | rfl | rfl <;>
    (repeat (first | simp only [evL, Int.reduceEq, Int.reduceNeg, reduceIte, Bool.false_eq_true, decide_true, decide_false] | (refine isInt158 ?_; simp only [isInt, Int.reduceBEq, Bool.or_false, Bool.or_true]) | (refine isArr159 ?_; simp only [isArr, Int.reduceBEq, Bool.or_false, Bool.or_true]) | exact h))
theorem shows160 {k a : Int} (hk : Kd k) (ha : Ask a) (h : K (.bool (showsK k a)) w) : callD Tryz.prog 160 #[i64 k, i64 a] w K := by
  apply F160_wp
  unfold F160_den
  have ha : a = -1 ∨ a = -2 ∨ a = -3 ∨ a = -4 ∨ a = 1 ∨ a = 2 ∨ a = 3 ∨ a = 4 := by
    rcases ha with h | h | h | h | h
    · omega
    · omega
    · omega
    · omega
    · have := kd4 h; omega
  rcases kd4 hk with rfl | rfl | rfl | rfl <;> rcases ha with rfl | rfl | rfl | rfl | rfl | rfl | rfl | rfl <;> (repeat (first | simp only [evL, Int.reduceEq, Int.reduceNeg, reduceIte, Bool.false_eq_true, decide_true, decide_false] | exact h))
/-! ### Which instruction may be -/
theorem within90 {n lo hi : Int} (h : K (.bool (decide (lo ≤ n ∧ n ≤ hi))) w) : callD Tryz.prog 90 #[i64 n, i64 lo, i64 hi] w K := by
  apply F90_wp
  unfold F90_den
  simp only [V_geq, ge_iff_le]
  by_cases h1 : lo ≤ n
  · simp only [h1, true_and, evL, reduceIte, decide_true] at h ⊢; exact h
  · simp only [h1, false_and, evL, reduceIte, Bool.false_eq_true, decide_false] at h ⊢; exact h
/-- How many operands it uses. -/
def opers (op : Int) : Int := if op = 27 then 2 else if op = 1 ∨ op = 2 ∨ op = 3 ∨ op = 23 ∨ op = 24 ∨ op = 25 ∨ op = 33 ∨ op = 34 ∨ op = 35 ∨ op = 36 ∨ op = 37 ∨ op = 38 then 1 else 0
theorem op39 {op : Int} (h : 1 ≤ op ∧ op ≤ 39) : op = 1 ∨ op = 2 ∨ op = 3 ∨ op = 4 ∨ op = 5 ∨ op = 6 ∨ op = 7 ∨ op = 8 ∨ op = 9 ∨ op = 10 ∨ op = 11 ∨ op = 12 ∨ op = 13 ∨ op = 14 ∨ op = 15 ∨ op = 16 ∨ op = 17 ∨ op = 18 ∨ op = 19 ∨ op = 20 ∨ op = 21 ∨ op = 22 ∨ op = 23 ∨ op = 24 ∨ op = 25 ∨ op = 26 ∨ op = 27 ∨ op = 28 ∨ op = 29 ∨ op = 30 ∨ op = 31 ∨ op = 32 ∨ op = 33 ∨ op = 34 ∨ op = 35 ∨ op = 36 ∨ op = 37 ∨ op = 38 ∨ op = 39 := by omega
theorem opers89 {op : Int} (ho : 1 ≤ op ∧ op ≤ 39) (h : K (i64 (opers op)) w) : callD Tryz.prog 89 #[i64 op] w K := by
  apply F89_wp
  unfold F89_den
  rcases op39 ho with rfl | rfl | rfl | rfl | rfl | rfl | rfl | rfl | rfl | rfl | rfl | rfl | rfl | rfl | rfl | rfl | rfl | rfl | rfl | rfl | rfl | rfl | rfl | rfl | rfl | rfl | rfl | rfl | rfl | rfl | rfl | rfl | rfl | rfl | rfl | rfl | rfl | rfl | rfl <;> (simp only [evL, Int.reduceEq, decide_true, decide_false]; exact h)
theorem limits169 {op : Int} (h : K (.tuple #[i64 (lim op).1, i64 (lim op).2]) w) : callD Tryz.prog 169 #[i64 op] w K := by
  apply F169_wp
  unfold F169_den
  by_cases ho : op = 1 ∨ op = 2 ∨ op = 3 ∨ op = 23 ∨ op = 24 ∨ op = 25 ∨ op = 27 ∨ op = 33 ∨ op = 34 ∨ op = 35 ∨ op = 36 ∨ op = 37 ∨ op = 38
  · rcases ho with rfl | rfl | rfl | rfl | rfl | rfl | rfl | rfl | rfl | rfl | rfl | rfl | rfl <;> (simp only [evL, Int.reduceEq, Int.reduceNeg, decide_true, decide_false]; exact h)
  · simp only [not_or] at ho
    obtain ⟨h1, h2, h3, h4, h5, h6, h7, h8, h9, h10, h11, h12, h13⟩ := ho
    have e : lim op = (0, 0) := by unfold lim; simp [*]
    rw [e] at h
    simp only [h1, h2, h3, h4, h5, h6, h7, h8, h9, h10, h11, h12, h13, evL, Int.reduceNeg, decide_false]
    exact h
end Go.Proofs.YtcdbikfnlggbnaaGreatDoor
namespace Go.Proofs.YtcdbikfnlggbnaaGreatDoor
open Go.Vc Go.Tc
variable {w : World} {K : Value → World → Prop}
/-! ### Readings -/
def insC (l : List Ins) : List Value := l.flatMap fun x => [i64 x.op, i64 x.a, i64 x.b]
def InsAre (w : World) (v : Value) (l : List Ins) : Prop := SliceIs w v 3 l.length (insC l)
theorem insC_row : ∀ {l : List Ins} {k : Nat} {x : Ins}, l[k]? = some x → ((insC l).drop (k * 3)).take 3 = [i64 x.op, i64 x.a, i64 x.b]
  | [], _, _, h => by simp at h
  | y :: l, 0, x, h => by simp at h; subst h; simp [insC]
  | y :: l, k + 1, x, h => by
    have := insC_row (l := l) (k := k) (by simpa using h)
    simp only [insC, List.flatMap_cons] at this ⊢
    rw [show (k + 1) * 3 = k * 3 + 3 by omega, ← List.drop_drop]
    simpa [List.drop_append] using this
theorem InsAre.ext {w' : World} {v : Value} {l : List Ins} (h : InsAre w v l) (hx : Ext w w') : InsAre w' v l := SliceIs.ext h hx
/-- Rows of structs. -/
def StrsAre {α : Type} (T : World → List Value → α → Prop) (sz : Nat) (w : World) (v : Value) (l : List α) : Prop :=
  ∃ cs, SliceIs w v sz l.length cs ∧ ∀ (k : Nat) x, l[k]? = some x → ∃ row, (cs.drop (k * sz)).take sz = row ∧ T w row x
theorem StrsAre.ext {α : Type} {T : World → List Value → α → Prop} (hT : ∀ {w w' row x}, T w row x → Ext w w' → T w' row x) {sz : Nat} {w' : World} {v : Value} {l : List α} (h : StrsAre T sz w v l) (hx : Ext w w') : StrsAre T sz w' v l := by
  obtain ⟨cs, h1, h2⟩ := h
  refine ⟨cs, h1.ext hx, fun k x hk => ?_⟩
  obtain ⟨row, h3, h4⟩ := h2 k x hk
  exact ⟨row, h3, hT h4 hx⟩
def MthIs (w : World) (row : List Value) (m : Mth) : Prop := ∃ pv lv cv, row = [pv, i64 m.result, lv, cv] ∧ IntsAre w pv m.params ∧ IntsAre w lv m.locals ∧ InsAre w cv m.code
theorem MthIs.ext {w w' : World} {row : List Value} {m : Mth} (h : MthIs w row m) (hx : Ext w w') : MthIs w' row m := by
  obtain ⟨pv, lv, cv, h1, h2, h3, h4⟩ := h
  exact ⟨pv, lv, cv, h1, h2.ext hx, h3.ext hx, h4.ext hx⟩
def ImpIs (w : World) (row : List Value) (x : Imp) : Prop := ∃ pv, row = [.string x.name, i64 x.exp, pv, i64 x.result] ∧ IntsAre w pv x.params
theorem ImpIs.ext {w w' : World} {row : List Value} {x : Imp} (h : ImpIs w row x) (hx : Ext w w') : ImpIs w' row x := by
  obtain ⟨pv, h1, h2⟩ := h
  exact ⟨pv, h1, h2.ext hx⟩
def MthsAre (w : World) (v : Value) (l : List Mth) : Prop := StrsAre MthIs 4 w v l
def ImpsAre (w : World) (v : Value) (l : List Imp) : Prop := StrsAre ImpIs 4 w v l
theorem MthsAre.ext {w' : World} {v : Value} {l : List Mth} (h : MthsAre w v l) (hx : Ext w w') : MthsAre w' v l := StrsAre.ext (fun h k => h.ext k) h hx
theorem ImpsAre.ext {w' : World} {v : Value} {l : List Imp} (h : ImpsAre w v l) (hx : Ext w w') : ImpsAre w' v l := StrsAre.ext (fun h k => h.ext k) h hx
structure ImgV where
  fv : Value
  iv : Value
  mv : Value
  xv : Value
/-- An image, and where its rows are. -/
structure ImgAt (w : World) (p : ImgV) (i : Img) : Prop where
  fl : IntsAre w p.fv i.fields
  im : ImpsAre w p.iv i.imports
  mt : MthsAre w p.mv i.methods
  ex : IntsAre w p.xv i.exports
def ImgV.val (p : ImgV) (i : Img) : Value := .agg #[.string i.name, p.fv, p.iv, p.mv, p.xv]
theorem ImgAt.ext {w' : World} {p : ImgV} {i : Img} (h : ImgAt w p i) (hx : Ext w w') : ImgAt w' p i := ⟨h.fl.ext hx, h.im.ext hx, h.mt.ext hx, h.ex.ext hx⟩
theorem StrsAre.sl {α : Type} {T : World → List Value → α → Prop} {sz : Nat} {v : Value} {l : List α} (h : StrsAre T sz w v l) : ∃ cs, SliceIs w v sz l.length cs := ⟨_, h.choose_spec.1⟩
/-- An element of a row of structs, whole. -/
theorem ldS {α : Type} {T : World → List Value → α → Prop} {sz : Nat} {t x : TypeId} {v : Value} {l : List α} {i : Nat} {e : α} (h : XA Tryz.prog t sz) (ht : ∃ d z by_, Program.underlying Tryz.prog x = some d ∧ aggB d = true ∧ Inf Tryz.prog x z sz by_) (hs : StrsAre T sz w v l) (hi : l[i]? = some e) (hT : ∀ w row e, T w row e → row.length = sz)
    (hk : ∀ row, T w row e → K (.agg row.toArray) w) : V Tryz.prog (Instr.indexAt t v (i64 i)) w fun p w1 => V Tryz.prog (Instr.loadAt x p) w1 K := by
  obtain ⟨cs, h1, h2⟩ := hs
  obtain ⟨row, h3, h4⟩ := h2 i e hi
  have hlt : i < l.length := (List.getElem?_eq_some_iff.1 hi).1
  exact ldxA h ht h1 (by omega) (by omega) (by simpa using h3) (hT _ _ _ h4) (hk row h4)
theorem mth_len (w : World) (row : List Value) (m : Mth) (h : MthIs w row m) : row.length = 4 := by obtain ⟨_, _, _, rfl, _⟩ := h; rfl
theorem imp_len (w : World) (row : List Value) (m : Imp) (h : ImpIs w row m) : row.length = 4 := by obtain ⟨_, rfl, _⟩ := h; rfl
/-- A field of an element. -/
theorem ldSF {α : Type} {T : World → List Value → α → Prop} {sz : Nat} {t s f o ft : Nat} {v : Value} {l : List α} {i : Nat} {e : α} (h : XA Tryz.prog t sz) (hf : FA Tryz.prog s f o) (hl : L1 Tryz.prog ft) (hs : StrsAre T sz w v l) (hi : l[i]? = some e)
    (hk : ∀ row, T w row e → ∃ u, row[o]? = some u ∧ o < sz ∧ K u w) : V Tryz.prog (Instr.indexAt t v (i64 i)) w fun p w1 => V Tryz.prog (Instr.fieldAt s p f) w1 fun q w2 => V Tryz.prog (Instr.loadAt ft q) w2 K := by
  obtain ⟨cs, h1, h2⟩ := hs
  obtain ⟨row, h3, h4⟩ := h2 i e hi
  have hlt : i < l.length := (List.getElem?_eq_some_iff.1 hi).1
  obtain ⟨u, hu, ho, hK⟩ := hk row h4
  refine ldxF h hf hl h1 (by omega) (by omega) ?_ hK
  rw [← h3, List.getElem?_take, if_pos ho, List.getElem?_drop] at hu
  simpa using hu
theorem lnS {α : Type} {T : World → List Value → α → Prop} {sz t ty : Nat} {v : Value} {l : List α} (h : XA Tryz.prog t sz) (hs : StrsAre T sz w v l) (hk : K (i64 l.length) w) : V Tryz.prog (Builtin.len_ #[t] ty #[v]) w K := by
  obtain ⟨cs, h1, _⟩ := hs
  exact lnx h h1 hk
/-- An instruction of a row. -/
theorem ldI {v : Value} {l : List Ins} {i : Nat} {x : Ins} (hs : InsAre w v l) (hi : l[i]? = some x) (hk : K (.agg #[i64 x.op, i64 x.a, i64 x.b]) w) : V Tryz.prog (Instr.indexAt 45 v (i64 i)) w fun p w1 => V Tryz.prog (Instr.loadAt 71 p) w1 K := by
  have hlt : i < l.length := (List.getElem?_eq_some_iff.1 hi).1
  exact ldxA xa_45 la_71 hs (by omega) (by omega) (l := [i64 x.op, i64 x.a, i64 x.b]) (by simpa using insC_row hi) rfl hk
/-! ### The reference's Right -/
def nmL : List Value := [.string { data := #[] }, .string { data := #[112, 117, 115, 104] }, .string { data := #[108, 111, 97, 100] }, .string { data := #[115, 116, 111, 114, 101] }, .string { data := #[112, 111, 112] }, .string { data := #[100, 117, 112] }, .string { data := #[97, 100, 100] }, .string { data := #[115, 117, 98] }, .string { data := #[109, 117, 108] }, .string { data := #[97, 110, 100] }, .string { data := #[111, 114] }, .string { data := #[120, 111, 114] }, .string { data := #[115, 104, 108] }, .string { data := #[115, 104, 114] }, .string { data := #[115, 97, 114] }, .string { data := #[110, 101, 103] }, .string { data := #[110, 111, 116] }, .string { data := #[100, 105, 118] }, .string { data := #[114, 101, 109] }, .string { data := #[101, 113] }, .string { data := #[108, 116] }, .string { data := #[98, 101, 108, 111, 119] }, .string { data := #[112, 105, 99, 107] }, .string { data := #[106, 117, 109, 112] }, .string { data := #[106, 117, 109, 112, 105, 102] }, .string { data := #[110, 117, 108, 108] }, .string { data := #[105, 115, 110, 117, 108, 108] }, .string { data := #[110, 101, 119] }, .string { data := #[108, 101, 110] }, .string { data := #[103, 101, 116] }, .string { data := #[112, 117, 116] }, .string { data := #[99, 111, 112, 121] }, .string { data := #[115, 97, 109, 101] }, .string { data := #[103, 101, 116, 102] }, .string { data := #[112, 117, 116, 102] }, .string { data := #[98, 117, 102] }, .string { data := #[115, 101, 110, 100] }, .string { data := #[99, 97, 108, 108] }, .string { data := #[99, 97, 108, 108, 120] }, .string { data := #[114, 101, 116] }]
theorem names115 (h : ∀ v w', SliceIs w' v 1 40 nmL → Ext w w' → K v w') : callD Tryz.prog 115 #[] w K := by
  apply F115_wp
  unfold F115_den
  exact bsl xe_202 nmL (by kernel_rfl) (by kernel_rfl) (by decide) (by kernel_rfl) fun v w' ho hx => h v w' (SliceIs.of_own ho) hx
theorem nm_ne {op : Nat} (h1 : 1 ≤ op) (h2 : op ≤ 39) : ∃ s : ByteArray, nmL[op]? = some (.string s) ∧ (s.toList == ({ data := #[] } : ByteArray).toList) = false := by
  have : ∀ k : Fin 40, k.val = 0 ∨ (match nmL[k.val]? with | some (.string s) => s.toList == ({ data := #[] } : ByteArray).toList | _ => true) = false := by decide +kernel
  rcases this ⟨op, by omega⟩ with h | h
  · simp only at h; omega
  · simp only at h
    split at h
    · rename_i s hs; exact ⟨s, hs, h⟩
    · cases h
theorem name88 {op : Int} (h : ∀ (s : ByteArray) w', ((s.toList == ({ data := #[] } : ByteArray).toList) = decide (¬ (1 ≤ op ∧ op ≤ 39))) → Ext w w' → K (.string s) w') : callD Tryz.prog 88 #[i64 op] w K := by
  apply F88_wp
  unfold F88_den
  refine names115 fun v w1 hs x1 => ?_
  refine V_lss.2 ?_
  by_cases h1 : op < 1
  · simp only [h1, evL, reduceIte, decide_true]
    exact h _ _ (by simp; omega) x1
  · simp only [h1, evL, reduceIte, Bool.false_eq_true, decide_false]
    refine lnx xa_202 hs ?_
    refine V_geq.2 ?_
    by_cases h2 : op ≥ ((40 : Nat) : Int)
    · simp only [h2, evL, decide_true]
      exact h _ _ (by simp; omega) x1
    · simp only [h2, evL, decide_false]
      obtain ⟨k, rfl⟩ : ∃ k : Nat, op = k := ⟨op.toNat, by omega⟩
      obtain ⟨s, hs1, hs2⟩ := nm_ne (op := k) (by omega) (by omega)
      refine ldx xa_202 l1_9 hs (by omega) (by omega) (by simpa using hs1) (h _ _ ?_ x1)
      rw [hs2]
      simp
      omega
theorem kinds53 {lv : Value} {l : List Int} {most : Int} (hs : IntsAre w lv l) (h : ∀ b, (b = true ↔ kindsR l most) → K (.bool b) w) : callD Tryz.prog 53 #[lv, i64 most] w K := by
  apply F53_wp
  unfold F53_den
  refine ⟨fun v w' => ∃ j : Nat, v = i64 j ∧ j ≤ l.length ∧ w' = w ∧ Kds (l.take j), fun v _ => l.length - (RowKit.intOf v).toNat, ⟨0, rfl, Nat.zero_le _, rfl, fun _ h => by simp at h⟩, ?_⟩
  rintro _ _ ⟨j, rfl, hj, rfl, hk⟩ _
  have hno : ∀ {k : Int}, l[j]? = some k → ¬ Kd k → K (.bool false) _ := fun hk hn => h false ⟨fun h => (by cases h), fun hr => absurd (hr.1 _ (List.mem_of_getElem? hk)) hn⟩
  have hcap : l.length ≤ maxLen := by
    rcases hs.2 with ⟨_, h0⟩ | ⟨_, _, _, _, h1, h2, _⟩
    · rw [h0]; exact Nat.zero_le _
    · omega
  refine lnx xa_23 hs (V_lss.2 (ifD_dec (fun hlt => ?_) fun hge => ?_))
  · have hj' : j < l.length := by omega
    obtain ⟨k, hk1⟩ := ex_get hj'
    refine ldx xa_23 l1_3 hs (by omega) (by omega) (getI hk1) (V_lss.2 ?_)
    by_cases h1 : k < 1
    · simp only [h1, evL, reduceIte, decide_true]
      exact hno hk1 fun h => by unfold Kd at h; omega
    · simp only [h1, evL, reduceIte, Bool.false_eq_true, decide_false]
      refine ldx xa_23 l1_3 hs (by omega) (by omega) (getI hk1) (V_gtr.2 ?_)
      by_cases h2 : k > 4
      · simp only [h2, evL, decide_true]
        exact hno hk1 fun h => by unfold Kd at h; omega
      · simp only [h2, evL, decide_false]
        refine V_add.2 ?_
        rw [wrap_id (by omega) (by unfold maxLen at hcap; omega), i64_succ]
        refine ⟨⟨j + 1, rfl, by omega, rfl, fun q hq => ?_⟩, by simp only [intOf_i64]; omega⟩
        rw [List.take_add_one, hk1] at hq
        rcases List.mem_append.1 hq with hq | hq
        · exact hk q hq
        · simp at hq; subst hq; exact ⟨by omega, by omega⟩
  · have hjl : j = l.length := by omega
    subst hjl
    rw [List.take_length] at hk
    refine lnx xa_23 hs (V_leq.2 ?_)
    exact h _ (by simp [kindsR, hk])
theorem right54 {x : Ins} (h : ∀ b w', (b = true ↔ x.right) → Ext w w' → K (.bool b) w') : callD Tryz.prog 54 #[.agg #[i64 x.op, i64 x.a, i64 x.b]] w K := by
  obtain ⟨op, a, b⟩ := x
  apply F54_wp
  unfold F54_den
  refine bx fun b1 w1 hb x1 => ?_
  refine ldB hb fa_71_0 l1_3 rfl ?_
  refine name88 fun s w2 hs x2 => ?_
  have hb := hb.ext x2
  have xx := x1.trans x2
  refine V.ok r_eqStr ?_
  rw [hs]
  have no : ∀ {w'}, Ext w w' → ¬ Ins.right ⟨op, a, b⟩ → K (.bool false) w' := fun hx hn => h false _ ⟨fun h => (by cases h), fun hr => absurd hr hn⟩ hx
  by_cases ho : 1 ≤ op ∧ op ≤ 39
  · simp only [ho, and_self, evL, Int.reduceNeg, not_true_eq_false, reduceIte, Bool.false_eq_true, decide_false]
    refine ldB hb fa_71_0 l1_3 rfl (V_neqI.2 ?_)
    by_cases h27 : op = 27
    · subst h27
      simp only [evL, Int.reduceNeg, not_true_eq_false, ne_eq, reduceIte, Bool.false_eq_true, decide_false]
      refine ldB hb fa_71_0 l1_3 rfl ?_
      refine opers89 ho ?_
      simp only [opers, reduceIte, evL, Int.reduceEq, Int.reduceNeg, reduceIte, Bool.false_eq_true, decide_false]
      refine ldB hb fa_71_0 l1_3 rfl ?_
      simp only [evL, Int.reduceEq, Int.reduceNeg, decide_true, decide_false]
      refine ldB hb fa_71_1 l1_3 rfl ?_
      refine within90 ?_
      by_cases ha : (3 : Int) ≤ a ∧ a ≤ 4
      · simp only [ha, and_self, evL, reduceIte, decide_true]
        refine ldB hb fa_71_2 l1_3 rfl ?_
        refine within90 ?_
        by_cases hb1 : (0 : Int) ≤ b ∧ b ≤ 2
        · simp only [hb1, and_self, evL, reduceIte, decide_true]
          exact h true _ ⟨fun _ => ⟨ho, ha.1, ha.2, .inl hb1⟩, fun _ => rfl⟩ xx
        · simp only [hb1, evL, reduceIte, Bool.false_eq_true, decide_false]
          refine ldB hb fa_71_2 l1_3 rfl ?_
          refine within90 ?_
          refine h _ _ ⟨fun hd => ⟨ho, ha.1, ha.2, .inr (of_decide_eq_true hd)⟩, fun hr => decide_eq_true (hr.2.2.2.resolve_left hb1)⟩ xx
      · simp only [ha, evL, reduceIte, Bool.false_eq_true, decide_false]
        exact no xx fun hr => ha ⟨hr.2.1, hr.2.2.1⟩
    · simp only [h27, evL, Int.reduceNeg, not_false_eq_true, ne_eq, reduceIte, decide_true]
      refine ldB hb fa_71_2 l1_3 rfl (V_neqI.2 ?_)
      have hbr : Ins.right ⟨op, a, b⟩ → b = 0 := fun hr => by
        have := hr.2.2.2
        dsimp only at this
        rwa [if_neg h27] at this
      by_cases hb0 : b = 0
      · subst hb0
        simp only [evL, Int.reduceNeg, not_true_eq_false, ne_eq, reduceIte, Bool.false_eq_true, decide_false]
        refine ldB hb fa_71_0 l1_3 rfl ?_
        refine opers89 ho (V_eqlI.2 ?_)
        have fin : ∀ {lo hi : Int} {w'}, lim op = (lo, hi) → Ext w w' → K (.bool (decide (lo ≤ a ∧ a ≤ hi))) w' := fun {lo hi w'} hl hx => by
          refine h _ _ ⟨fun hd => ?_, fun hr => ?_⟩ hx
          · have := of_decide_eq_true hd
            refine ⟨ho, ?_, ?_, ?_⟩
            · rw [hl]; exact this.1
            · rw [hl]; exact this.2
            · dsimp only; rw [if_neg h27]
          · have h1 := hr.2.1; have h2 := hr.2.2.1
            rw [hl] at h1 h2
            exact decide_eq_true ⟨h1, h2⟩
        by_cases hop : op = 1 ∨ op = 2 ∨ op = 3 ∨ op = 23 ∨ op = 24 ∨ op = 25 ∨ op = 33 ∨ op = 34 ∨ op = 35 ∨ op = 36 ∨ op = 37 ∨ op = 38
        · rcases hop with rfl | rfl | rfl | rfl | rfl | rfl | rfl | rfl | rfl | rfl | rfl | rfl <;>
            (simp only [opers, Int.reduceEq, or_self, or_true, or_false, reduceIte, evL, Int.reduceEq, Int.reduceNeg, reduceIte, Bool.false_eq_true, decide_false]
             refine ldB hb (by first | exact fa_105_0 | exact fa_113_0 | exact fa_113_1 | exact fa_113_2 | exact fa_113_3 | exact fa_118_0 | exact fa_118_1 | exact fa_118_2 | exact fa_118_3 | exact fa_118_4 | exact fa_120_0 | exact fa_120_1 | exact fa_120_2 | exact fa_120_3 | exact fa_137_0 | exact fa_137_1 | exact fa_137_2 | exact fa_137_3 | exact fa_137_4 | exact fa_137_5 | exact fa_140_0 | exact fa_140_1 | exact fa_142_0 | exact fa_142_1 | exact fa_142_2 | exact fa_144_0 | exact fa_144_1 | exact fa_144_2 | exact fa_144_3 | exact fa_146_0 | exact fa_148_0 | exact fa_148_1 | exact fa_150_0 | exact fa_150_1 | exact fa_152_0 | exact fa_152_1 | exact fa_155_0 | exact fa_155_1 | exact fa_155_2 | exact fa_157_0 | exact fa_157_1 | exact fa_157_2 | exact fa_162_0 | exact fa_162_1 | exact fa_162_2 | exact fa_162_3 | exact fa_162_4 | exact fa_178_0 | exact fa_178_1 | exact fa_199_0 | exact fa_199_1 | exact fa_27_0 | exact fa_27_1 | exact fa_27_2 | exact fa_27_3 | exact fa_27_4 | exact fa_38_0 | exact fa_38_1 | exact fa_38_2 | exact fa_47_0 | exact fa_47_1 | exact fa_47_2 | exact fa_47_3 | exact fa_56_0 | exact fa_56_1 | exact fa_56_2 | exact fa_71_0) (by first | exact l1_126 | exact l1_179 | exact l1_21 | exact l1_210 | exact l1_212 | exact l1_22 | exact l1_23 | exact l1_24 | exact l1_25 | exact l1_3) rfl ?_
             simp only [evL, Int.reduceEq, Int.reduceNeg, decide_true, decide_false]
             refine ldB hb (by first | exact fa_105_0 | exact fa_113_0 | exact fa_113_1 | exact fa_113_2 | exact fa_113_3 | exact fa_118_0 | exact fa_118_1 | exact fa_118_2 | exact fa_118_3 | exact fa_118_4 | exact fa_120_0 | exact fa_120_1 | exact fa_120_2 | exact fa_120_3 | exact fa_137_0 | exact fa_137_1 | exact fa_137_2 | exact fa_137_3 | exact fa_137_4 | exact fa_137_5 | exact fa_140_0 | exact fa_140_1 | exact fa_142_0 | exact fa_142_1 | exact fa_142_2 | exact fa_144_0 | exact fa_144_1 | exact fa_144_2 | exact fa_144_3 | exact fa_146_0 | exact fa_148_0 | exact fa_148_1 | exact fa_150_0 | exact fa_150_1 | exact fa_152_0 | exact fa_152_1 | exact fa_155_0 | exact fa_155_1 | exact fa_155_2 | exact fa_157_0 | exact fa_157_1 | exact fa_157_2 | exact fa_162_0 | exact fa_162_1 | exact fa_162_2 | exact fa_162_3 | exact fa_162_4 | exact fa_178_0 | exact fa_178_1 | exact fa_199_0 | exact fa_199_1 | exact fa_27_0 | exact fa_27_1 | exact fa_27_2 | exact fa_27_3 | exact fa_27_4 | exact fa_38_0 | exact fa_38_1 | exact fa_38_2 | exact fa_47_0 | exact fa_47_1 | exact fa_47_2 | exact fa_47_3 | exact fa_56_0 | exact fa_56_1 | exact fa_56_2 | exact fa_71_0 | exact fa_71_1) (by first | exact l1_126 | exact l1_179 | exact l1_21 | exact l1_210 | exact l1_212 | exact l1_22 | exact l1_23 | exact l1_24 | exact l1_25 | exact l1_3) rfl ?_
             exact within90 (fin rfl xx))
        · simp only [not_or] at hop
          obtain ⟨n1, n2, n3, n4, n5, n6, n7, n8, n9, n10, n11, n12⟩ := hop
          have e0 : opers op = 0 := by unfold opers; simp [*]
          have el : lim op = (0, 0) := by unfold lim; simp [*]
          simp only [e0, evL, Int.reduceNeg, reduceIte, decide_true]
          refine ldB hb fa_71_1 l1_3 rfl (V_neqI.2 ?_)
          by_cases ha : a = 0
          · subst ha
            simp only [evL, Int.reduceNeg, not_true_eq_false, ne_eq, decide_false]
            refine ldB hb fa_71_0 l1_3 rfl ?_
            simp only [n1, n2, n3, n4, n5, n6, n7, n8, n9, n10, n11, n12, h27, evL, Int.reduceNeg, decide_false]
            have := fin el xx
            simpa using this
          · simp only [ha, evL, Int.reduceNeg, not_false_eq_true, ne_eq, decide_true]
            refine no xx fun hr => ha ?_
            have h1 := hr.2.1; have h2 := hr.2.2.1
            rw [el] at h1 h2
            dsimp only at h1 h2
            omega
      · simp only [hb0, evL, Int.reduceNeg, not_false_eq_true, ne_eq, reduceIte, decide_true]
        exact no xx fun hr => hb0 (hbr hr)
  · simp only [ho, evL, Int.reduceNeg, not_false_eq_true, reduceIte, decide_true]
    exact no xx fun hr => ho hr.1
end Go.Proofs.YtcdbikfnlggbnaaGreatDoor
