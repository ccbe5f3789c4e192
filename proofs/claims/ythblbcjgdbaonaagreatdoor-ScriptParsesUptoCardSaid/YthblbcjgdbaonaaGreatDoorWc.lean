/- Each function's body, opened into a plain condition by program (vcgen. -/
import Derived.Test.YthblbcjgdbaonaaGreatDoorWb
import Derived.Test.YthblbcjgdbaonaaGreatDoorProg
import Derived.KernelRfl
namespace Go.Proofs.YthblbcjgdbaonaaGreatDoor
open Tryz Instr
def q : Go.Vc.Ann → Go.Vc.Ann := .seq .leaf
def tk (l : List Nat) (c : Go.Vc.Cert) : Go.Vc.Cert := l.foldr .take c
def rg (a b : Nat) : List Nat := List.range' a (b + 1 - a)
variable {t0 t1 t2 t3 t4 t5 t6 t7 t8 t9 : Value} {w : World} {R : Value → World → Prop}
open Go.Vc
theorem mixed : prog.follows .mixedOrders = true := by kernel_rfl
def F4_ann : Ann := (q (q (.join ([13, 15] ++ rg 27 60) [13] (q (.cond .leaf (q (.cond (q (.draw [0, 0, 3, 0, 0, 16, 40, 68, 0, 0, 0, 1024, 2080, 4608, 8448, 16512, 65535] [0, 0, 3, 0, 0, 16, 40, 68, 0, 0, 0, 1024, 2048, 4608, 8448, 16512, 33025] 0 17 131071 (tk (rg 0 4 ++ rg 8 11) (.only 5 (.take 6 (.take 7 (.only 12 (tk (rg 13 16) .done)))))))) .leaf)))) (q (q (q .leaf))))))
def F4_den (t0 t1 t2 t3 t4 t5 : Value) (w : World) (R : Value → World → Prop) : Prop :=
 V prog (box 25 t0) w fun t6 w =>
 V prog (loadAt 25 t6) w fun t21 w =>
 callD prog 6 #[t21, t1, (Value.string { data := #[98, 195, 169, 116, 97] })] w fun t23 w =>
 callD prog 8 #[t23] w fun t24 w =>
 V prog (extract t24 0) w fun t25 w =>
 V prog (extract t24 1) w fun t26 w =>
 ∃ J1 : NP 1,
 (gd t3 false (fun K => K t26 w) w fun t29 w =>
 gd t3 false (fun K => V prog (Op.unary UnOp.not t29) w K) w fun t30 w =>
 pickD t3 (.bool true) t30 fun t31 =>
 ifD t31 (
 J1 t2 w) (
 V prog (binOp .rem 3 t5 (i64 3)) w fun t34 w =>
 V prog (binOp .gtr 3 t34 (i64 0)) w fun t35 w =>
 gd t35 true (fun K => K t25 w) w fun t37 w =>
 gd t35 true (fun K => V prog (Builtin.len_ #[9] 3 #[t37]) w K) w fun t38 w =>
 gd t35 true (fun K => V prog (binOp .gtr 3 t38 (i64 0)) w K) w fun t39 w14 =>
 pickD t35 t39 (.bool false) fun t40 =>
 ifD t40 (
 V prog (Builtin.len_ #[9] 3 #[t25]) w14 fun t43 w =>
 callD prog 9 #[t4, t43] w fun t44 w =>
 drawD w fun S6 w =>
 yieldS prog S6 (sliceAt 9 t25 none (some t44) none) fun t47 =>
 yieldS prog S6 (build 37 #[(0, (Value.string { data := #[32] })), (1, (Value.string { data := #[48] })), (2, (Value.string { data := #[45] })), (3, (Value.string { data := #[103] })), (4, (Value.string { data := #[] })), (5, (Value.string { data := #[195, 169] })), (6, (Value.string { data := #[65] }))]) fun t48 =>
 yieldS prog S6 (binOp .quo 3 t5 (i64 7)) fun t56 =>
 callD prog 9 #[t5, (i64 7)] w fun t50 w =>
 S6 w ∧
 yieldS prog S6 (index 37 t48 t50) fun t51 =>
 yieldS prog S6 (binOp .add 9 t47 t51) fun t52 =>
 callD prog 9 #[t56, (i64 2)] w fun t57 w =>
 S6 w ∧
 yieldS prog S6 (binOp .add 3 t44 t57) fun t58 =>
 yieldS prog S6 (sliceAt 9 t25 (some t58) none none) fun t59 =>
 yieldS prog S6 (binOp .add 9 t52 t59) fun t60 =>
 J1 t60 w) (
 J1 t25 w14))) ∧
 ∀ (t13 : Value), ∀ w : World, J1 t13 w → ∀ _f : Env,
 callD prog 13 #[t13] w fun t63 w =>
 V prog (extract t63 0) w fun t64 w =>
 V prog (extract t63 1) w fun t65 w =>
 V prog (alloc 29 true (.tuple #[])) w fun t16 w =>
 U prog (storeAt 29 t16 t64) w fun _ w =>
 callD prog 14 #[t13] w fun t68 w =>
 V prog (extract t68 0) w fun t69 w =>
 V prog (extract t68 1) w fun t70 w =>
 V prog (alloc 29 true (.tuple #[])) w fun t18 w =>
 U prog (storeAt 29 t18 t69) w fun _ w =>
 callD prog 10 #[] w fun t71 w =>
 gd t71 true (fun K => K t65 w) w fun t73 w =>
 gd t71 true (fun K => K t70 w) w fun t74 w =>
 gd t71 true (fun K => V prog (do eqGuard .eql 4 (.tmp 73) (.tmp 74) t73 t74; binOp .eql 4 t73 t74) w K) w fun t75 w =>
 pickD t71 t75 (.bool false) fun t76 =>
 gd t76 true (fun K => V prog (loadAt 29 t16) w K) w fun t78 w =>
 gd t76 true (fun K => V prog (loadAt 29 t18) w K) w fun t79 w =>
 gd t76 true (fun K => callD prog 15 #[t78, t79] w K) w fun t80 w =>
 pickD t76 t80 (.bool false) fun t81 =>
 R t81 w
theorem F4_wp (h : F4_den t0 t1 t2 t3 t4 t5 w R) : callD prog 4 #[t0, t1, t2, t3, t4, t5] w R :=
  den_wp mixed F4_ann func4 (by kernel_rfl) (by kernel_rfl) h
def F6_ann : Ann := (q (q (.seq (q (.block (q (.cond .leaf (q (.cond .leaf (q (.cond .leaf (q (.cond .leaf .leaf)))))))))) (q .leaf))))
def F6_den (t0 t1 t2 : Value) (w : World) (R : Value → World → Prop) : Prop :=
 V prog (box 25 t0) w fun t3 w =>
 V prog (alloc 29 true (.tuple #[])) w fun t6 w =>
 V prog (loadAt 25 t3) w fun t8 w =>
 callD prog 16 #[t8] w fun t9 w =>
 V prog (alloc 29 true (.tuple #[])) w fun t7 w =>
 U prog (storeAt 29 t7 t9) w fun _ w =>
 callD prog 9 #[t1, (i64 9)] w fun t11 w =>
 V prog (do eqGuard .eql 3 (.tmp 11) (.const (i64 0)) t11 (i64 0); binOp .eql 3 t11 (i64 0)) w fun t13 w8 =>
 ifD t13 (
 V prog (binOp .quo 3 t1 (i64 9)) w8 fun t15 w =>
 callD prog 9 #[t15, (i64 8)] w fun t16 w =>
 V prog (fieldAt 29 t7 0) w fun t17 w =>
 U prog (storeAt 3 t17 t16) w fun _ w =>
 V prog (loadAt 29 t7) w fun t33 w =>
 U prog (storeAt 29 t6 t33) w fun _ w =>
 ∃ r1, (loadVar 29 (match t6 with | .pointer (some p) => p | _ => ⟨0, 0, none⟩)).run prog w = .ok r1 w ∧ (∃ p, t6 = Value.pointer (some p)) ∧ R r1 w) (
 V prog (do eqGuard .eql 3 (.tmp 11) (.const (i64 1)) t11 (i64 1); binOp .eql 3 t11 (i64 1)) w8 fun t19 w15 =>
 ifD t19 (
 V prog (fieldAt 29 t7 2) w15 fun t21 w =>
 U prog (storeAt 9 t21 t2) w fun _ w =>
 V prog (loadAt 29 t7) w fun t33_1 w =>
 U prog (storeAt 29 t6 t33_1) w fun _ w =>
 ∃ r1, (loadVar 29 (match t6 with | .pointer (some p) => p | _ => ⟨0, 0, none⟩)).run prog w = .ok r1 w ∧ (∃ p, t6 = Value.pointer (some p)) ∧ R r1 w) (
 V prog (do eqGuard .eql 3 (.tmp 11) (.const (i64 2)) t11 (i64 2); binOp .eql 3 t11 (i64 2)) w15 fun t23 w20 =>
 ifD t23 (
 V prog (fieldAt 29 t7 5) w20 fun t25 w =>
 U prog (storeAt 3 t25 t1) w fun _ w =>
 V prog (loadAt 29 t7) w fun t33_2 w =>
 U prog (storeAt 29 t6 t33_2) w fun _ w =>
 ∃ r1, (loadVar 29 (match t6 with | .pointer (some p) => p | _ => ⟨0, 0, none⟩)).run prog w = .ok r1 w ∧ (∃ p, t6 = Value.pointer (some p)) ∧ R r1 w) (
 V prog (do eqGuard .eql 3 (.tmp 11) (.const (i64 3)) t11 (i64 3); binOp .eql 3 t11 (i64 3)) w20 fun t27 w25 =>
 ifD t27 (
 V prog (binOp .quo 3 t1 (i64 9)) w25 fun t29 w =>
 callD prog 9 #[t29, (i64 4)] w fun t30 w =>
 V prog (binOp .add 3 (i64 9999998) t30) w fun t31 w =>
 V prog (fieldAt 29 t7 5) w fun t32 w =>
 U prog (storeAt 3 t32 t31) w fun _ w =>
 V prog (loadAt 29 t7) w fun t33_3 w =>
 U prog (storeAt 29 t6 t33_3) w fun _ w =>
 ∃ r1, (loadVar 29 (match t6 with | .pointer (some p) => p | _ => ⟨0, 0, none⟩)).run prog w = .ok r1 w ∧ (∃ p, t6 = Value.pointer (some p)) ∧ R r1 w) (
 V prog (loadAt 29 t7) w25 fun t33_4 w =>
 U prog (storeAt 29 t6 t33_4) w fun _ w =>
 ∃ r1, (loadVar 29 (match t6 with | .pointer (some p) => p | _ => ⟨0, 0, none⟩)).run prog w = .ok r1 w ∧ (∃ p, t6 = Value.pointer (some p)) ∧ R r1 w))))
theorem F6_wp (h : F6_den t0 t1 t2 w R) : callD prog 6 #[t0, t1, t2] w R :=
  den_wp mixed F6_ann func6 (by kernel_rfl) (by kernel_rfl) h
def F7_ann : Ann := (q (.seq (q (.block (q (.cond (q (.cond (q .leaf) .leaf)) (q (.cond (q (.cond (q .leaf) .leaf)) (q (.cond (q .leaf) (q (.cond (q .leaf) (q (.cond (q (.cond (.seq (.draw [0, 1, 2, 4, 8, 0, 32, 68, 144, 256, 0, 1024, 2176, 4608, 16383, 32767] [0, 1, 2, 4, 8, 0, 32, 64, 144, 256, 0, 1024, 2048, 4608, 8192, 0] 0 16 65535 (tk [0, 1, 5, 6, 10, 11] (.only 2 (.take 3 (.take 4 (.only 7 (.take 8 (.take 9 (.only 12 (tk [13, 14, 15] .done)))))))))) .leaf) .leaf)) .leaf)))))))))))) (q .leaf)))
def F7_den (t0 : Value) (w : World) (R : Value → World → Prop) : Prop :=
 V prog (box 29 t0) w fun t1 w =>
 V prog (fieldAt 29 t1 0) w fun t4 w =>
 V prog (loadAt 3 t4) w fun t5 w =>
 V prog (do eqGuard .eql 3 (.tmp 5) (.const (i64 1)) t5 (i64 1); binOp .eql 3 t5 (i64 1)) w fun t7 w4 =>
 ifD t7 (
 V prog (fieldAt 29 t1 1) w4 fun t8 w =>
 V prog (loadAt 23 t8) w fun t9 w =>
 callD prog 17 #[t9] w fun t10 w =>
 V prog (Op.unary UnOp.not t10) w fun t11 w8 =>
 ifD t11 (
 V prog (fieldAt 29 t1 1) w8 fun t12 w =>
 V prog (loadAt 23 t12) w fun t13 w =>
 callD prog 18 #[t13] w fun t14 w =>
 V prog (binOp .add 9 (Value.string { data := #[105, 110, 115, 116, 97, 108, 108, 32] }) t14) w fun t15 w =>
 R (.tuple #[t15, (.bool true)]) w) (
 R (.tuple #[(Value.string { data := #[] }), (.bool false)]) w8)) (
 V prog (do eqGuard .eql 3 (.tmp 5) (.const (i64 2)) t5 (i64 2); binOp .eql 3 t5 (i64 2)) w4 fun t17 w13 =>
 ifD t17 (
 V prog (fieldAt 29 t1 2) w13 fun t18 w =>
 V prog (loadAt 9 t18) w fun t19 w =>
 callD prog 19 #[t19] w fun t20 w16 =>
 ifD t20 (
 V prog (fieldAt 29 t1 2) w16 fun t21 w =>
 V prog (loadAt 9 t21) w fun t22 w =>
 V prog (binOp .add 9 (Value.string { data := #[115, 101, 108, 101, 99, 116, 32] }) t22) w fun t23 w =>
 R (.tuple #[t23, (.bool true)]) w) (
 R (.tuple #[(Value.string { data := #[] }), (.bool false)]) w16)) (
 V prog (do eqGuard .eql 3 (.tmp 5) (.const (i64 3)) t5 (i64 3); binOp .eql 3 t5 (i64 3)) w13 fun t25 w =>
 ifD t25 (
 R (.tuple #[(Value.string { data := #[100, 101, 115, 101, 108, 101, 99, 116] }), (.bool true)]) w) (
 V prog (do eqGuard .eql 3 (.tmp 5) (.const (i64 4)) t5 (i64 4); binOp .eql 3 t5 (i64 4)) w fun t27 w =>
 ifD t27 (
 R (.tuple #[(Value.string { data := #[114, 101, 115, 101, 116] }), (.bool true)]) w) (
 V prog (do eqGuard .eql 3 (.tmp 5) (.const (i64 5)) t5 (i64 5); binOp .eql 3 t5 (i64 5)) w fun t29 w22 =>
 ifD t29 (
 V prog (fieldAt 29 t1 3) w22 fun t30 w =>
 V prog (loadAt 23 t30) w fun t31 w =>
 callD prog 17 #[t31] w fun t32 w =>
 V prog (Op.unary UnOp.not t32) w fun t33 w =>
 gd t33 true (fun K => V prog (fieldAt 29 t1 4) w K) w fun t35 w =>
 gd t33 true (fun K => V prog (loadAt 23 t35) w K) w fun t36 w =>
 gd t33 true (fun K => callD prog 17 #[t36] w K) w fun t37 w =>
 gd t33 true (fun K => V prog (Op.unary UnOp.not t37) w K) w fun t38 w =>
 pickD t33 t38 (.bool false) fun t39 =>
 gd t39 true (fun K => V prog (fieldAt 29 t1 5) w K) w fun t41 w =>
 gd t39 true (fun K => V prog (loadAt 3 t41) w K) w fun t42 w =>
 gd t39 true (fun K => V prog (binOp .geq 3 t42 (i64 0)) w K) w fun t43 w =>
 pickD t39 t43 (.bool false) fun t44 =>
 gd t44 true (fun K => V prog (fieldAt 29 t1 5) w K) w fun t46 w =>
 gd t44 true (fun K => V prog (loadAt 3 t46) w K) w fun t47 w =>
 gd t44 true (fun K => V prog (binOp .leq 3 t47 (i64 9999999)) w K) w fun t48 w38 =>
 pickD t44 t48 (.bool false) fun t49 =>
 ifD t49 (
 drawD w38 fun S14 w =>
 yieldS prog S14 (fieldAt 29 t1 3) fun t50 =>
 yieldS prog S14 (loadAt 23 t50) fun t51 =>
 yieldS prog S14 (fieldAt 29 t1 4) fun t55 =>
 yieldS prog S14 (loadAt 23 t55) fun t56 =>
 yieldS prog S14 (fieldAt 29 t1 5) fun t60 =>
 yieldS prog S14 (loadAt 3 t60) fun t61 =>
 callD prog 18 #[t51] w fun t52 w =>
 S14 w ∧
 yieldS prog S14 (binOp .add 9 (Value.string { data := #[99, 111, 109, 109, 97, 110, 100, 32] }) t52) fun t53 =>
 yieldS prog S14 (binOp .add 9 t53 (Value.string { data := #[32] })) fun t54 =>
 callD prog 18 #[t56] w fun t57 w =>
 S14 w ∧
 yieldS prog S14 (binOp .add 9 t54 t57) fun t58 =>
 yieldS prog S14 (binOp .add 9 t58 (Value.string { data := #[32] })) fun t59 =>
 callD prog 20 #[t61] w fun t62 w =>
 S14 w ∧
 yieldS prog S14 (binOp .add 9 t59 t62) fun t63 =>
 R (.tuple #[t63, (.bool true)]) w) (
 R (.tuple #[(Value.string { data := #[] }), (.bool false)]) w38)) (
 R (.tuple #[(Value.string { data := #[] }), (.bool false)]) w22)))))
theorem F7_wp (h : F7_den t0 w R) : callD prog 7 #[t0] w R :=
  den_wp mixed F7_ann func7 (by kernel_rfl) (by kernel_rfl) h
def F8_ann : Ann := (q (.seq (q (.block (q (.cond (.seq (q (.cond (q .leaf) .leaf)) (q .leaf)) (q (.cond (.seq (q (.cond (q .leaf) .leaf)) (q .leaf)) (q (.cond (q .leaf) (q (.cond (q .leaf) (q (.cond (.seq (q (.cond (q .leaf) .leaf)) (.seq (.draw [0, 1, 2, 4, 8, 0, 32, 68, 144, 256, 0, 1024, 2176, 4608, 16383, 32767] [0, 1, 2, 4, 8, 0, 32, 64, 144, 256, 0, 1024, 2048, 4608, 8192, 0] 0 16 65535 (tk [0, 1, 5, 6, 10, 11] (.only 2 (.take 3 (.take 4 (.only 7 (.take 8 (.take 9 (.only 12 (tk [13, 14, 15] .done)))))))))) .leaf)) .leaf)))))))))))) (q .leaf)))
def F8_den (t0 : Value) (w : World) (R : Value → World → Prop) : Prop :=
 V prog (box 29 t0) w fun t1 w =>
 V prog (fieldAt 29 t1 0) w fun t4 w =>
 V prog (loadAt 3 t4) w fun t5 w =>
 V prog (do eqGuard .eql 3 (.tmp 5) (.const (i64 1)) t5 (i64 1); binOp .eql 3 t5 (i64 1)) w fun t7 w4 =>
 ifD t7 (
 V prog (fieldAt 29 t1 1) w4 fun t8 w =>
 V prog (loadAt 23 t8) w fun t9 w =>
 V prog (Builtin.len_ #[23] 3 #[t9]) w fun t10 w =>
 V prog (binOp .gtr 3 t10 (i64 8192)) w fun t11 w =>
 ifD t11 (
 R (.tuple #[(Value.string { data := #[] }), (.bool false)]) w) (
 V prog (fieldAt 29 t1 1) w fun t12 w =>
 V prog (loadAt 23 t12) w fun t13 w =>
 callD prog 21 #[t13] w fun t14 w =>
 V prog (binOp .add 9 (Value.string { data := #[105, 110, 115, 116, 97, 108, 108, 32] }) t14) w fun t15 w =>
 R (.tuple #[t15, (.bool true)]) w)) (
 V prog (do eqGuard .eql 3 (.tmp 5) (.const (i64 2)) t5 (i64 2); binOp .eql 3 t5 (i64 2)) w4 fun t17 w13 =>
 ifD t17 (
 V prog (fieldAt 29 t1 2) w13 fun t18 w =>
 V prog (loadAt 9 t18) w fun t19 w =>
 callD prog 22 #[t19] w fun t20 w =>
 V prog (Op.unary UnOp.not t20) w fun t21 w =>
 ifD t21 (
 R (.tuple #[(Value.string { data := #[] }), (.bool false)]) w) (
 V prog (fieldAt 29 t1 2) w fun t22 w =>
 V prog (loadAt 9 t22) w fun t23 w =>
 V prog (binOp .add 9 (Value.string { data := #[115, 101, 108, 101, 99, 116, 32] }) t23) w fun t24 w =>
 R (.tuple #[t24, (.bool true)]) w)) (
 V prog (do eqGuard .eql 3 (.tmp 5) (.const (i64 3)) t5 (i64 3); binOp .eql 3 t5 (i64 3)) w13 fun t26 w =>
 ifD t26 (
 R (.tuple #[(Value.string { data := #[100, 101, 115, 101, 108, 101, 99, 116] }), (.bool true)]) w) (
 V prog (do eqGuard .eql 3 (.tmp 5) (.const (i64 4)) t5 (i64 4); binOp .eql 3 t5 (i64 4)) w fun t28 w =>
 ifD t28 (
 R (.tuple #[(Value.string { data := #[114, 101, 115, 101, 116] }), (.bool true)]) w) (
 V prog (do eqGuard .eql 3 (.tmp 5) (.const (i64 5)) t5 (i64 5); binOp .eql 3 t5 (i64 5)) w fun t30 w23 =>
 ifD t30 (
 V prog (fieldAt 29 t1 5) w23 fun t31 w =>
 V prog (loadAt 3 t31) w fun t32 w =>
 V prog (binOp .lss 3 t32 (i64 0)) w fun t33 w =>
 gd t33 false (fun K => V prog (fieldAt 29 t1 5) w K) w fun t35 w =>
 gd t33 false (fun K => V prog (loadAt 3 t35) w K) w fun t36 w =>
 gd t33 false (fun K => V prog (binOp .gtr 3 t36 (i64 9999999)) w K) w fun t37 w =>
 pickD t33 (.bool true) t37 fun t38 =>
 gd t38 false (fun K => V prog (fieldAt 29 t1 3) w K) w fun t40 w =>
 gd t38 false (fun K => V prog (loadAt 23 t40) w K) w fun t41 w =>
 gd t38 false (fun K => V prog (Builtin.len_ #[23] 3 #[t41]) w K) w fun t42 w =>
 gd t38 false (fun K => V prog (binOp .gtr 3 t42 (i64 8192)) w K) w fun t43 w =>
 pickD t38 (.bool true) t43 fun t44 =>
 gd t44 false (fun K => V prog (fieldAt 29 t1 4) w K) w fun t46 w =>
 gd t44 false (fun K => V prog (loadAt 23 t46) w K) w fun t47 w =>
 gd t44 false (fun K => V prog (Builtin.len_ #[23] 3 #[t47]) w K) w fun t48 w =>
 gd t44 false (fun K => V prog (binOp .gtr 3 t48 (i64 8192)) w K) w fun t49 w =>
 pickD t44 (.bool true) t49 fun t50 =>
 ifD t50 (
 R (.tuple #[(Value.string { data := #[] }), (.bool false)]) w) (
 drawD w fun S17 w =>
 yieldS prog S17 (fieldAt 29 t1 3) fun t51 =>
 yieldS prog S17 (loadAt 23 t51) fun t52 =>
 yieldS prog S17 (fieldAt 29 t1 4) fun t56 =>
 yieldS prog S17 (loadAt 23 t56) fun t57 =>
 yieldS prog S17 (fieldAt 29 t1 5) fun t61 =>
 yieldS prog S17 (loadAt 3 t61) fun t62 =>
 callD prog 21 #[t52] w fun t53 w =>
 S17 w ∧
 yieldS prog S17 (binOp .add 9 (Value.string { data := #[99, 111, 109, 109, 97, 110, 100, 32] }) t53) fun t54 =>
 yieldS prog S17 (binOp .add 9 t54 (Value.string { data := #[32] })) fun t55 =>
 callD prog 21 #[t57] w fun t58 w =>
 S17 w ∧
 yieldS prog S17 (binOp .add 9 t55 t58) fun t59 =>
 yieldS prog S17 (binOp .add 9 t59 (Value.string { data := #[32] })) fun t60 =>
 callD prog 23 #[t62] w fun t63 w =>
 S17 w ∧
 yieldS prog S17 (binOp .add 9 t60 t63) fun t64 =>
 R (.tuple #[t64, (.bool true)]) w)) (
 R (.tuple #[(Value.string { data := #[] }), (.bool false)]) w23)))))
theorem F8_wp (h : F8_den t0 w R) : callD prog 8 #[t0] w R :=
  den_wp mixed F8_ann func8 (by kernel_rfl) (by kernel_rfl) h
def F9_ann : Ann := (q (q (.seq (q (.cond .leaf .leaf)) (q .leaf))))
def F9_den (t0 t1 : Value) (w : World) (R : Value → World → Prop) : Prop :=
 V prog (binOp .rem 3 t0 t1) w fun t7 w =>
 V prog (binOp .lss 3 t7 (i64 0)) w fun t9 w2 =>
 ifD t9 (
 V prog (binOp .add 3 t7 t1) w2 fun t12 w =>
 R t12 w) (
 R t7 w2)
theorem F9_wp (h : F9_den t0 t1 w R) : callD prog 9 #[t0, t1] w R :=
  den_wp mixed F9_ann func9 (by kernel_rfl) (by kernel_rfl) h
def F10_ann : Ann := (q (q (q .leaf)))
def F10_den (w : World) (R : Value → World → Prop) : Prop :=
 callD prog 24 #[(i64 200), (i64 0), (Value.string { data := #[100, 101, 115, 101, 108, 101, 99, 116, 10] })] w fun t5 w =>
 V prog (extract t5 0) w fun t6 w =>
 V prog (extract t5 1) w fun t7 w =>
 V prog (extract t5 2) w fun t8 w =>
 V prog (do eqGuard .eql 48 (.tmp 9) (.const (i64 0)) t8 (i64 0); binOp .eql 48 t8 (i64 0)) w fun t10 w =>
 gd t10 true (fun K => K t7 w) w fun t12 w =>
 gd t10 true (fun K => V prog (do eqGuard .eql 3 (.tmp 12) (.const (i64 0)) t12 (i64 0); binOp .eql 3 t12 (i64 0)) w K) w fun t13 w =>
 pickD t10 t13 (.bool false) fun t14 =>
 gd t14 true (fun K => K t6 w) w fun t16 w =>
 gd t14 true (fun K => V prog (do eqGuard .eql 9 (.tmp 16) (.const (Value.string { data := #[54, 57, 56, 53, 32, 45, 32, 45, 10] })) t16 (Value.string { data := #[54, 57, 56, 53, 32, 45, 32, 45, 10] }); binOp .eql 9 t16 (Value.string { data := #[54, 57, 56, 53, 32, 45, 32, 45, 10] })) w K) w fun t17 w =>
 pickD t14 t17 (.bool false) fun t18 =>
 R t18 w
theorem F10_wp (h : F10_den w R) : callD prog 10 #[] w R :=
  den_wp mixed F10_ann func10 (by kernel_rfl) (by kernel_rfl) h
def F11_ann : Ann := (q (q (.seq (q (.block (.loop (rg 3 18) [3, 5] (q (.seq (.cond .leaf .leaf) (.seq (.block (q .leaf)) .leaf)))))) (.seq (.draw [0, 1, 0, 4, 8, 18, 32, 0, 128, 272, 576, 2047] [0, 1, 0, 4, 8, 18, 32, 0, 128, 256, 576, 1024] 0 12 4095 (tk (rg 0 3 ++ [7, 8]) (.only 4 (.take 5 (.take 6 (.only 9 (.take 10 (.take 11 .done)))))))) .leaf))))
def F11_den (t0 : Value) (w : World) (R : Value → World → Prop) : Prop :=
 V prog (box 27 t0) w fun t1 w =>
 ∃ (I1 : NP 2) (μ1 : NF 2), I1 (Value.string { data := #[] }) (i64 0) w ∧
 ∀ (t3 : Value) (t5 : Value), ∀ w2 : World, I1 t3 t5 w2 → ∀ _f : Env,
 V prog (binOp .lss 3 t5 (i64 4)) w2 fun t6 w3 =>
 ifD t6 (
 V prog (fieldAt 27 t1 0) w3 fun t8 w =>
 V prog (loadAt 3 t8) w fun t9 w =>
 V prog (binOp .mul 3 (i64 4) t5) w fun t11 w =>
 V prog (binOp .shr 3 t9 t11) w fun t12 w =>
 V prog (binOp .and 3 t12 (i64 15)) w fun t13 w =>
 V prog (index 9 (Value.string { data := #[48, 49, 50, 51, 52, 53, 54, 55, 56, 57, 97, 98, 99, 100, 101, 102] }) t13) w fun t14 w =>
 V prog (convert 5 9 t14) w fun t15 w =>
 V prog (binOp .add 9 t15 t3) w fun t17 w =>
 V prog (binOp .add 3 t5 (i64 1)) w fun t18 w =>
 I1 t17 t18 w ∧ μ1 t17 t18 w < μ1 t3 t5 w2) (
 drawD w3 fun S7 w =>
 yieldS prog S7 (binOp .add 9 t3 (Value.string { data := #[32] })) fun t20 =>
 yieldS prog S7 (fieldAt 27 t1 1) fun t21 =>
 yieldS prog S7 (loadAt 23 t21) fun t22 =>
 yieldS prog S7 (fieldAt 27 t1 2) fun t26 =>
 yieldS prog S7 (loadAt 23 t26) fun t27 =>
 callD prog 18 #[t22] w fun t23 w =>
 S7 w ∧
 yieldS prog S7 (binOp .add 9 t20 t23) fun t24 =>
 yieldS prog S7 (binOp .add 9 t24 (Value.string { data := #[32] })) fun t25 =>
 callD prog 18 #[t27] w fun t28 w =>
 S7 w ∧
 yieldS prog S7 (binOp .add 9 t25 t28) fun t29 =>
 R t29 w)
theorem F11_wp (h : F11_den t0 w R) : callD prog 11 #[t0] w R :=
  den_wp mixed F11_ann func11 (by kernel_rfl) (by kernel_rfl) h
def F13_ann : Ann := (q (q (.seq (q (q (.cond (q .leaf) .leaf))) (q .leaf))))
def F13_den (t0 : Value) (w : World) (R : Value → World → Prop) : Prop :=
 V prog (alloc 29 true (.tuple #[])) w fun t2 w =>
 callD prog 26 #[t0] w fun t10 w =>
 callD prog 25 #[t10] w fun t11 w =>
 V prog (extract t11 0) w fun t12 w =>
 V prog (extract t11 1) w fun t13 w =>
 V prog (alloc 29 true (.tuple #[])) w fun t4 w =>
 U prog (storeAt 29 t4 t12) w fun _ w =>
 V prog (loadAt 29 t4) w fun t15 w =>
 callD prog 7 #[t15] w fun t16 w =>
 V prog (extract t16 0) w fun t17 w =>
 V prog (extract t16 1) w fun t18 w =>
 V prog (Op.unary UnOp.not t13) w fun t20 w =>
 gd t20 false (fun K => K t18 w) w fun t22 w =>
 gd t20 false (fun K => V prog (Op.unary UnOp.not t22) w K) w fun t23 w =>
 pickD t20 (.bool true) t23 fun t24 =>
 gd t24 false (fun K => K t17 w) w fun t26 w =>
 gd t24 false (fun K => K t0 w) w fun t27 w =>
 gd t24 false (fun K => V prog (do eqGuard .neq 9 (.tmp 26) (.tmp 27) t26 t27; binOp .neq 9 t26 t27) w K) w fun t28 w18 =>
 pickD t24 (.bool true) t28 fun t29 =>
 ifD t29 (
 V prog (build 29 #[]) w18 fun t30 w =>
 U prog (storeAt 29 t2 t30) w fun _ w =>
 ∃ r1, (loadVar 29 (match t2 with | .pointer (some p) => p | _ => ⟨0, 0, none⟩)).run prog w = .ok r1 w ∧ (∃ p, t2 = Value.pointer (some p)) ∧ R (.tuple #[r1, (.bool false)]) w) (
 V prog (loadAt 29 t4) w18 fun t31 w =>
 U prog (storeAt 29 t2 t31) w fun _ w =>
 ∃ r1, (loadVar 29 (match t2 with | .pointer (some p) => p | _ => ⟨0, 0, none⟩)).run prog w = .ok r1 w ∧ (∃ p, t2 = Value.pointer (some p)) ∧ R (.tuple #[r1, (.bool true)]) w)
theorem F13_wp (h : F13_den t0 w R) : callD prog 13 #[t0] w R :=
  den_wp mixed F13_ann func13 (by kernel_rfl) (by kernel_rfl) h
def F14_ann : Ann := (q (q (q (q (q (.join ([3, 6, 7, 8] ++ rg 13 122) [6, 7] (.block (q (.cond (q .leaf) (q (.cond (q .leaf) (q (.cond .leaf (q (.cond .leaf (q (.cond (q (q (q (.seq (q (.cond (q .leaf) .leaf)) (q (.block (.loop ([3, 8] ++ rg 88 122) [8] (.seq (q (.cond .leaf .leaf)) (.seq (.block (.seq (q (.cond (q .leaf) .leaf)) (.draw [0, 1, 2, 0, 8, 16, 0, 96, 128, 256, 516, 2047, 4095] [0, 1, 2, 0, 8, 16, 0, 96, 128, 256, 516, 0, 3072] 0 12 4095 (tk (rg 0 11) (.last 12))))) .leaf))))))))) .leaf))))))))))) (q (.seq (q (.cond (q .leaf) .leaf)) (q .leaf)))))))))
def F14_den (t0 : Value) (w : World) (R : Value → World → Prop) : Prop :=
 V prog (alloc 29 true (.tuple #[])) w fun t2 w =>
 callD prog 27 #[t0] w fun t12 w =>
 V prog (alloc 29 true (.tuple #[])) w fun t5 w =>
 ∃ J1 : NP 2,
 (V prog (Builtin.len_ #[53] 3 #[t12]) w fun t15 w =>
 V prog (do eqGuard .eql 3 (.tmp 15) (.const (i64 2)) t15 (i64 2); binOp .eql 3 t15 (i64 2)) w fun t16 w =>
 gd t16 true (fun K => K t12 w) w fun t18 w =>
 gd t16 true (fun K => V prog (indexAt 53 t18 (i64 0)) w K) w fun t19 w =>
 gd t16 true (fun K => V prog (loadAt 9 t19) w K) w fun t20 w =>
 gd t16 true (fun K => V prog (do eqGuard .eql 9 (.tmp 20) (.const (Value.string { data := #[105, 110, 115, 116, 97, 108, 108] })) t20 (Value.string { data := #[105, 110, 115, 116, 97, 108, 108] }); binOp .eql 9 t20 (Value.string { data := #[105, 110, 115, 116, 97, 108, 108] })) w K) w fun t21 w9 =>
 pickD t16 t21 (.bool false) fun t22 =>
 ifD t22 (
 V prog (fieldAt 29 t5 0) w9 fun t23 w =>
 U prog (storeAt 3 t23 (i64 1)) w fun _ w =>
 V prog (indexAt 53 t12 (i64 1)) w fun t26 w =>
 V prog (loadAt 9 t26) w fun t27 w =>
 callD prog 28 #[t27] w fun t28 w =>
 V prog (extract t28 0) w fun t29 w =>
 V prog (extract t28 1) w fun t30 w =>
 V prog (fieldAt 29 t5 1) w fun t31 w =>
 U prog (storeAt 23 t31 t29) w fun _ w =>
 J1 t30 (.bool true) w) (
 V prog (Builtin.len_ #[53] 3 #[t12]) w9 fun t34 w =>
 V prog (do eqGuard .eql 3 (.tmp 34) (.const (i64 2)) t34 (i64 2); binOp .eql 3 t34 (i64 2)) w fun t35 w =>
 gd t35 true (fun K => K t12 w) w fun t37 w =>
 gd t35 true (fun K => V prog (indexAt 53 t37 (i64 0)) w K) w fun t38 w =>
 gd t35 true (fun K => V prog (loadAt 9 t38) w K) w fun t39 w =>
 gd t35 true (fun K => V prog (do eqGuard .eql 9 (.tmp 39) (.const (Value.string { data := #[115, 101, 108, 101, 99, 116] })) t39 (Value.string { data := #[115, 101, 108, 101, 99, 116] }); binOp .eql 9 t39 (Value.string { data := #[115, 101, 108, 101, 99, 116] })) w K) w fun t40 w25 =>
 pickD t35 t40 (.bool false) fun t41 =>
 ifD t41 (
 V prog (fieldAt 29 t5 0) w25 fun t42 w =>
 U prog (storeAt 3 t42 (i64 2)) w fun _ w =>
 V prog (indexAt 53 t12 (i64 1)) w fun t44 w =>
 V prog (loadAt 9 t44) w fun t45 w =>
 V prog (fieldAt 29 t5 2) w fun t46 w =>
 U prog (storeAt 9 t46 t45) w fun _ w =>
 J1 (.bool true) (.bool true) w) (
 V prog (do eqGuard .eql 9 (.tmp 48) (.const (Value.string { data := #[100, 101, 115, 101, 108, 101, 99, 116] })) t0 (Value.string { data := #[100, 101, 115, 101, 108, 101, 99, 116] }); binOp .eql 9 t0 (Value.string { data := #[100, 101, 115, 101, 108, 101, 99, 116] })) w25 fun t49 w33 =>
 ifD t49 (
 V prog (fieldAt 29 t5 0) w33 fun t50 w =>
 U prog (storeAt 3 t50 (i64 3)) w fun _ w =>
 J1 (.bool true) (.bool true) w) (
 V prog (do eqGuard .eql 9 (.tmp 52) (.const (Value.string { data := #[114, 101, 115, 101, 116] })) t0 (Value.string { data := #[114, 101, 115, 101, 116] }); binOp .eql 9 t0 (Value.string { data := #[114, 101, 115, 101, 116] })) w33 fun t53 w36 =>
 ifD t53 (
 V prog (fieldAt 29 t5 0) w36 fun t54 w =>
 U prog (storeAt 3 t54 (i64 4)) w fun _ w =>
 J1 (.bool true) (.bool true) w) (
 V prog (Builtin.len_ #[53] 3 #[t12]) w36 fun t57 w =>
 V prog (do eqGuard .eql 3 (.tmp 57) (.const (i64 4)) t57 (i64 4); binOp .eql 3 t57 (i64 4)) w fun t58 w =>
 gd t58 true (fun K => K t12 w) w fun t60 w =>
 gd t58 true (fun K => V prog (indexAt 53 t60 (i64 0)) w K) w fun t61 w =>
 gd t58 true (fun K => V prog (loadAt 9 t61) w K) w fun t62 w =>
 gd t58 true (fun K => V prog (do eqGuard .eql 9 (.tmp 62) (.const (Value.string { data := #[99, 111, 109, 109, 97, 110, 100] })) t62 (Value.string { data := #[99, 111, 109, 109, 97, 110, 100] }); binOp .eql 9 t62 (Value.string { data := #[99, 111, 109, 109, 97, 110, 100] })) w K) w fun t63 w44 =>
 pickD t58 t63 (.bool false) fun t64 =>
 ifD t64 (
 V prog (fieldAt 29 t5 0) w44 fun t65 w =>
 U prog (storeAt 3 t65 (i64 5)) w fun _ w =>
 V prog (indexAt 53 t12 (i64 1)) w fun t68 w =>
 V prog (loadAt 9 t68) w fun t69 w =>
 callD prog 28 #[t69] w fun t70 w =>
 V prog (extract t70 0) w fun t71 w =>
 V prog (extract t70 1) w fun t72 w =>
 V prog (fieldAt 29 t5 3) w fun t73 w =>
 U prog (storeAt 23 t73 t71) w fun _ w =>
 V prog (indexAt 53 t12 (i64 2)) w fun t76 w =>
 V prog (loadAt 9 t76) w fun t77 w =>
 callD prog 28 #[t77] w fun t78 w =>
 V prog (extract t78 0) w fun t79 w =>
 V prog (extract t78 1) w fun t80 w =>
 V prog (fieldAt 29 t5 4) w fun t81 w =>
 U prog (storeAt 23 t81 t79) w fun _ w =>
 V prog (indexAt 53 t12 (i64 3)) w fun t83 w =>
 V prog (loadAt 9 t83) w fun t84 w =>
 V prog (Builtin.len_ #[9] 3 #[t84]) w fun t85 w =>
 V prog (binOp .gtr 3 t85 (i64 7)) w fun t86 w65 =>
 ifD t86 (
 V prog (build 29 #[]) w65 fun t87 w =>
 U prog (storeAt 29 t2 t87) w fun _ w =>
 ∃ r1, (loadVar 29 (match t2 with | .pointer (some p) => p | _ => ⟨0, 0, none⟩)).run prog w = .ok r1 w ∧ (∃ p, t2 = Value.pointer (some p)) ∧ R (.tuple #[r1, (.bool false)]) w) (
 ∃ (I2 : NP 1) (μ2 : NF 1), I2 (i64 0) w65 ∧
 ∀ (t8 : Value), ∀ w68 : World, I2 t8 w68 → ∀ _f : Env,
 V prog (indexAt 53 t12 (i64 3)) w68 fun t90 w =>
 V prog (loadAt 9 t90) w fun t91 w =>
 V prog (Builtin.len_ #[9] 3 #[t91]) w fun t92 w =>
 V prog (binOp .lss 3 t8 t92) w fun t93 w72 =>
 ifD t93 (
 V prog (indexAt 53 t12 (i64 3)) w72 fun t97 w =>
 V prog (loadAt 9 t97) w fun t98 w =>
 V prog (index 9 t98 t8) w fun t100 w =>
 V prog (binOp .lss 5 t100 (Value.int IntKind.u8 48)) w fun t101 w =>
 gd t101 false (fun K => K t12 w) w fun t103 w =>
 gd t101 false (fun K => V prog (indexAt 53 t103 (i64 3)) w K) w fun t104 w =>
 gd t101 false (fun K => V prog (loadAt 9 t104) w K) w fun t105 w =>
 gd t101 false (fun K => K t8 w) w fun t106 w =>
 gd t101 false (fun K => V prog (index 9 t105 t106) w K) w fun t107 w =>
 gd t101 false (fun K => V prog (binOp .gtr 5 t107 (Value.int IntKind.u8 57)) w K) w fun t108 w82 =>
 pickD t101 (.bool true) t108 fun t109 =>
 ifD t109 (
 V prog (build 29 #[]) w82 fun t110 w =>
 U prog (storeAt 29 t2 t110) w fun _ w =>
 ∃ r1, (loadVar 29 (match t2 with | .pointer (some p) => p | _ => ⟨0, 0, none⟩)).run prog w = .ok r1 w ∧ (∃ p, t2 = Value.pointer (some p)) ∧ R (.tuple #[r1, (.bool false)]) w) (
 drawD w82 fun S26 w =>
 yieldS prog S26 (fieldAt 29 t5 5) fun t111 =>
 yieldS prog S26 (loadAt 3 t111) fun t112 =>
 yieldS prog S26 (binOp .mul 3 (i64 10) t112) fun t113 =>
 yieldS prog S26 (indexAt 53 t12 (i64 3)) fun t115 =>
 yieldS prog S26 (loadAt 9 t115) fun t116 =>
 yieldS prog S26 (index 9 t116 t8) fun t118 =>
 yieldS prog S26 (binOp .sub 5 t118 (Value.int IntKind.u8 48)) fun t119 =>
 yieldS prog S26 (convert 5 3 t119) fun t120 =>
 yieldS prog S26 (binOp .add 3 t113 t120) fun t121 =>
 yieldS prog S26 (fieldAt 29 t5 5) fun t122 =>
 U prog (storeAt 3 t122 t121) w fun _ w =>
 V prog (binOp .add 3 t8 (i64 1)) w fun t95 w =>
 I2 t95 w ∧ μ2 t95 w < μ2 t8 w68)) (
 J1 t72 t80 w72))) (
 J1 (.bool true) (.bool true) w44)))))) ∧
 ∀ (t6 : Value) (t7 : Value), ∀ w : World, J1 t6 t7 w → ∀ _f : Env,
 V prog (loadAt 29 t5) w fun t124 w =>
 callD prog 8 #[t124] w fun t125 w =>
 V prog (extract t125 0) w fun t126 w =>
 V prog (extract t125 1) w fun t127 w =>
 V prog (Op.unary UnOp.not t6) w fun t129 w =>
 gd t129 false (fun K => K t7 w) w fun t131 w =>
 gd t129 false (fun K => V prog (Op.unary UnOp.not t131) w K) w fun t132 w =>
 pickD t129 (.bool true) t132 fun t133 =>
 gd t133 false (fun K => K t127 w) w fun t135 w =>
 gd t133 false (fun K => V prog (Op.unary UnOp.not t135) w K) w fun t136 w =>
 pickD t133 (.bool true) t136 fun t137 =>
 gd t137 false (fun K => K t126 w) w fun t139 w =>
 gd t137 false (fun K => K t0 w) w fun t140 w =>
 gd t137 false (fun K => V prog (do eqGuard .neq 9 (.tmp 139) (.tmp 140) t139 t140; binOp .neq 9 t139 t140) w K) w fun t141 w103 =>
 pickD t137 (.bool true) t141 fun t142 =>
 ifD t142 (
 V prog (build 29 #[]) w103 fun t143 w =>
 U prog (storeAt 29 t2 t143) w fun _ w =>
 ∃ r1, (loadVar 29 (match t2 with | .pointer (some p) => p | _ => ⟨0, 0, none⟩)).run prog w = .ok r1 w ∧ (∃ p, t2 = Value.pointer (some p)) ∧ R (.tuple #[r1, (.bool false)]) w) (
 V prog (loadAt 29 t5) w103 fun t144 w =>
 U prog (storeAt 29 t2 t144) w fun _ w =>
 ∃ r1, (loadVar 29 (match t2 with | .pointer (some p) => p | _ => ⟨0, 0, none⟩)).run prog w = .ok r1 w ∧ (∃ p, t2 = Value.pointer (some p)) ∧ R (.tuple #[r1, (.bool true)]) w)
theorem F14_wp (h : F14_den t0 w R) : callD prog 14 #[t0] w R :=
  den_wp mixed F14_ann func14 (by kernel_rfl) (by kernel_rfl) h
def F15_ann : Ann := (q (q .leaf))
def F15_den (t0 t1 : Value) (w : World) (R : Value → World → Prop) : Prop :=
 V prog (box 29 t0) w fun t2 w =>
 V prog (box 29 t1) w fun t3 w =>
 V prog (fieldAt 29 t2 0) w fun t5 w =>
 V prog (loadAt 3 t5) w fun t6 w =>
 V prog (fieldAt 29 t3 0) w fun t7 w =>
 V prog (loadAt 3 t7) w fun t8 w =>
 V prog (do eqGuard .eql 3 (.tmp 6) (.tmp 8) t6 t8; binOp .eql 3 t6 t8) w fun t9 w =>
 gd t9 true (fun K => V prog (fieldAt 29 t2 1) w K) w fun t11 w =>
 gd t9 true (fun K => V prog (loadAt 23 t11) w K) w fun t12 w =>
 gd t9 true (fun K => V prog (convert 23 9 t12) w K) w fun t13 w =>
 gd t9 true (fun K => V prog (fieldAt 29 t3 1) w K) w fun t14 w =>
 gd t9 true (fun K => V prog (loadAt 23 t14) w K) w fun t15 w =>
 gd t9 true (fun K => V prog (convert 23 9 t15) w K) w fun t16 w =>
 gd t9 true (fun K => V prog (do eqGuard .eql 9 (.tmp 13) (.tmp 16) t13 t16; binOp .eql 9 t13 t16) w K) w fun t17 w =>
 pickD t9 t17 (.bool false) fun t18 =>
 gd t18 true (fun K => V prog (fieldAt 29 t2 2) w K) w fun t20 w =>
 gd t18 true (fun K => V prog (loadAt 9 t20) w K) w fun t21 w =>
 gd t18 true (fun K => V prog (fieldAt 29 t3 2) w K) w fun t22 w =>
 gd t18 true (fun K => V prog (loadAt 9 t22) w K) w fun t23 w =>
 gd t18 true (fun K => V prog (do eqGuard .eql 9 (.tmp 21) (.tmp 23) t21 t23; binOp .eql 9 t21 t23) w K) w fun t24 w =>
 pickD t18 t24 (.bool false) fun t25 =>
 gd t25 true (fun K => V prog (fieldAt 29 t2 3) w K) w fun t27 w =>
 gd t25 true (fun K => V prog (loadAt 23 t27) w K) w fun t28 w =>
 gd t25 true (fun K => V prog (convert 23 9 t28) w K) w fun t29 w =>
 gd t25 true (fun K => V prog (fieldAt 29 t3 3) w K) w fun t30 w =>
 gd t25 true (fun K => V prog (loadAt 23 t30) w K) w fun t31 w =>
 gd t25 true (fun K => V prog (convert 23 9 t31) w K) w fun t32 w =>
 gd t25 true (fun K => V prog (do eqGuard .eql 9 (.tmp 29) (.tmp 32) t29 t32; binOp .eql 9 t29 t32) w K) w fun t33 w =>
 pickD t25 t33 (.bool false) fun t34 =>
 gd t34 true (fun K => V prog (fieldAt 29 t2 4) w K) w fun t36 w =>
 gd t34 true (fun K => V prog (loadAt 23 t36) w K) w fun t37 w =>
 gd t34 true (fun K => V prog (convert 23 9 t37) w K) w fun t38 w =>
 gd t34 true (fun K => V prog (fieldAt 29 t3 4) w K) w fun t39 w =>
 gd t34 true (fun K => V prog (loadAt 23 t39) w K) w fun t40 w =>
 gd t34 true (fun K => V prog (convert 23 9 t40) w K) w fun t41 w =>
 gd t34 true (fun K => V prog (do eqGuard .eql 9 (.tmp 38) (.tmp 41) t38 t41; binOp .eql 9 t38 t41) w K) w fun t42 w =>
 pickD t34 t42 (.bool false) fun t43 =>
 gd t43 true (fun K => V prog (fieldAt 29 t2 5) w K) w fun t45 w =>
 gd t43 true (fun K => V prog (loadAt 3 t45) w K) w fun t46 w =>
 gd t43 true (fun K => V prog (fieldAt 29 t3 5) w K) w fun t47 w =>
 gd t43 true (fun K => V prog (loadAt 3 t47) w K) w fun t48 w =>
 gd t43 true (fun K => V prog (do eqGuard .eql 3 (.tmp 46) (.tmp 48) t46 t48; binOp .eql 3 t46 t48) w K) w fun t49 w =>
 pickD t43 t49 (.bool false) fun t50 =>
 R t50 w
theorem F15_wp (h : F15_den t0 t1 w R) : callD prog 15 #[t0, t1] w R :=
  den_wp mixed F15_ann func15 (by kernel_rfl) (by kernel_rfl) h
def F16_ann : Ann := (q (.join (rg 3 106) [] (q (.block (.join [11, 12, 13] [11] (q (.cond .leaf .leaf)) (.cond (q (.join ([4, 5] ++ rg 19 50) [] (q (.cond (.draw [0, 0, 2, 4, 0, 16, 32, 0, 128, 320, 585, 2047] [0, 0, 2, 4, 0, 16, 32, 0, 128, 256, 585, 1024] 0 11 2047 (tk (rg 0 5 ++ [7, 8]) (.only 6 (.only 9 (.only 10 (.last 11)))))) (q (q (.cond (.draw [0, 1, 0, 4, 0, 16, 32, 64, 136, 258, 1023] [0, 1, 0, 4, 0, 16, 32, 64, 136, 258, 512] 0 10 1023 (tk (rg 0 8) (.only 9 (.last 10)))) .leaf))))) (q (.join (rg 56 77) [] (q (.cond (.draw [0, 0, 2, 0, 8, 20, 33, 64, 0, 256, 512, 1152, 4095, 8191] [0, 0, 2, 0, 8, 20, 33, 64, 0, 256, 512, 1152, 33, 6144] 0 13 8191 (tk (rg 0 4 ++ [8, 9, 10]) (.only 5 (tk [6, 7, 11, 12] (.last 13))))) .leaf)) (q .leaf))))) (.join [80, 81, 82] [80] (q (.cond .leaf .leaf)) (.cond (q .leaf) (q (.cond (q .leaf) (q (.cond (q .leaf) (q (.cond (q (.cond (.seq (.draw [0, 1, 0, 4, 0, 16, 32, 74, 255] [0, 1, 0, 4, 0, 16, 32, 74, 128] 0 8 255 (tk (rg 0 5) (.only 6 (.take 7 (.last 8))))) .leaf) .leaf)) .leaf)))))))))))) (.seq (.draw [0, 1, 2, 0, 8, 20, 0, 64, 160, 292, 1023] [0, 1, 2, 0, 8, 16, 0, 64, 128, 292, 512] 0 10 1023 (tk [0, 1, 3, 4, 6, 7] (.only 2 (.only 5 (.only 8 (.take 9 (.last 10))))))) .leaf)))
def F16_den (t0 : Value) (w : World) (R : Value → World → Prop) : Prop :=
 V prog (box 25 t0) w fun t1 w =>
 V prog (alloc 29 true (.tuple #[])) w fun t2 w =>
 ∃ J1 : NP 0,
 (V prog (fieldAt 25 t1 0) w fun t8 w =>
 V prog (loadAt 3 t8) w fun t9 w =>
 callD prog 9 #[t9, (i64 12)] w fun t10 w =>
 ∃ J2 : NP 1,
 (V prog (do eqGuard .eql 3 (.tmp 10) (.const (i64 0)) t10 (i64 0); binOp .eql 3 t10 (i64 0)) w fun t12 w =>
 ifD t12 (
 J2 t12 w) (
 V prog (do eqGuard .eql 3 (.tmp 10) (.const (i64 1)) t10 (i64 1); binOp .eql 3 t10 (i64 1)) w fun t13 w =>
 J2 t13 w)) ∧
 ∀ (t11 : Value), ∀ w8 : World, J2 t11 w8 → ∀ _f : Env,
 ifD t11 (
 V prog (fieldAt 25 t1 1) w8 fun t14 w =>
 V prog (loadAt 3 t14) w fun t15 w =>
 V prog (fieldAt 25 t1 3) w fun t16 w =>
 V prog (loadAt 22 t16) w fun t17 w =>
 callD prog 29 #[t15, t17] w fun t18 w =>
 V prog (alloc 61 true (.tuple #[])) w fun t3 w =>
 U prog (storeAt 61 t3 t18) w fun _ w =>
 ∃ J3 : NP 0,
 (V prog (fieldAt 25 t1 6) w fun t19 w =>
 V prog (loadAt 3 t19) w fun t20 w =>
 V prog (binOp .rem 3 t20 (i64 3)) w fun t21 w =>
 V prog (do eqGuard .eql 3 (.tmp 21) (.const (i64 0)) t21 (i64 0); binOp .eql 3 t21 (i64 0)) w fun t22 w19 =>
 ifD t22 (
 drawD w19 fun S6 w =>
 yieldS prog S6 (loadAt 61 t3) fun t23 =>
 yieldS prog S6 (fieldAt 25 t1 6) fun t24 =>
 yieldS prog S6 (loadAt 3 t24) fun t25 =>
 yieldS prog S6 (binOp .quo 3 t25 (i64 3)) fun t26 =>
 yieldS prog S6 (fieldAt 25 t1 7) fun t27 =>
 yieldS prog S6 (loadAt 3 t27) fun t28 =>
 yieldS prog S6 (fieldAt 25 t1 8) fun t30 =>
 yieldS prog S6 (loadAt 3 t30) fun t31 =>
 callD prog 9 #[t28, (i64 1000)] w fun t29 w =>
 S6 w ∧
 callD prog 9 #[t31, (i64 1000)] w fun t32 w =>
 S6 w ∧
 callD prog 30 #[t23, t26, t29, t32] w fun t33 w =>
 S6 w ∧
 U prog (storeAt 61 t3 t33) w fun _ w =>
 J3 w) (
 V prog (loadAt 61 t3) w19 fun t35 w =>
 callD prog 31 #[t35] w fun t36 w =>
 V prog (extract t36 0) w fun t37 w =>
 V prog (extract t36 1) w fun t38 w =>
 V prog (alloc 65 true (.tuple #[])) w fun t4 w =>
 U prog (storeAt 65 t4 t37) w fun _ w =>
 V prog (do eqGuard .neq 48 (.tmp 39) (.const (i64 0)) t38 (i64 0); binOp .neq 48 t38 (i64 0)) w fun t40 w31 =>
 ifD t40 (
 drawD w31 fun S9 w =>
 yieldS prog S9 (fieldAt 25 t1 1) fun t41 =>
 yieldS prog S9 (loadAt 3 t41) fun t42 =>
 yieldS prog S9 (fieldAt 25 t1 3) fun t43 =>
 yieldS prog S9 (loadAt 22 t43) fun t44 =>
 yieldS prog S9 (fieldAt 25 t1 3) fun t45 =>
 yieldS prog S9 (loadAt 22 t45) fun t46 =>
 yieldS prog S9 (Builtin.len_ #[22] 3 #[t46]) fun t47 =>
 yieldS prog S9 (binOp .quo 3 t47 (i64 3)) fun t48 =>
 yieldS prog S9 (sliceAt 22 t44 none (some t48) none) fun t49 =>
 callD prog 29 #[t42, t49] w fun t50 w =>
 S9 w ∧
 U prog (storeAt 61 t3 t50) w fun _ w =>
 J3 w) (
 J3 w31))) ∧
 ∀ w : World, J3 w → ∀ _f : Env,
 V prog (loadAt 61 t3) w fun t52 w =>
 callD prog 32 #[t52] w fun t53 w =>
 V prog (extract t53 0) w fun t54 w =>
 V prog (extract t53 1) w fun _ w =>
 ∃ J4 : NP 0,
 (V prog (fieldAt 25 t1 6) w fun t56 w =>
 V prog (loadAt 3 t56) w fun t57 w =>
 V prog (binOp .rem 3 t57 (i64 17)) w fun t58 w =>
 V prog (do eqGuard .eql 3 (.tmp 58) (.const (i64 0)) t58 (i64 0); binOp .eql 3 t58 (i64 0)) w fun t59 w =>
 gd t59 true (fun K => K t54 w) w fun t61 w =>
 gd t59 true (fun K => V prog (Builtin.len_ #[23] 3 #[t61]) w K) w fun t62 w =>
 gd t59 true (fun K => V prog (binOp .gtr 3 t62 (i64 0)) w K) w fun t63 w46 =>
 pickD t59 t63 (.bool false) fun t64 =>
 ifD t64 (
 drawD w46 fun S12 w =>
 yieldS prog S12 (fieldAt 25 t1 7) fun t66 =>
 yieldS prog S12 (loadAt 3 t66) fun t67 =>
 yieldS prog S12 (Builtin.len_ #[23] 3 #[t54]) fun t69 =>
 yieldS prog S12 (fieldAt 25 t1 8) fun t73 =>
 yieldS prog S12 (loadAt 3 t73) fun t74 =>
 yieldS prog S12 (convert 3 5 t74) fun t75 =>
 callD prog 9 #[t67, t69] w fun t70 w =>
 S12 w ∧
 yieldS prog S12 (indexAt 23 t54 t70) fun t71 =>
 yieldS prog S12 (loadAt 5 t71) fun t72 =>
 yieldS prog S12 (binOp .xor 5 t72 t75) fun t76 =>
 yieldS prog S12 (indexAt 23 t54 t70) fun t77 =>
 U prog (storeAt 5 t77 t76) w fun _ w =>
 J4 w) (
 J4 w46)) ∧
 ∀ w : World, J4 w → ∀ _f : Env,
 V prog (build 29 #[(0, (i64 1)), (1, t54)]) w fun t79 w =>
 U prog (storeAt 29 t2 t79) w fun _ w =>
 ∃ r1, (loadVar 29 (match t2 with | .pointer (some p) => p | _ => ⟨0, 0, none⟩)).run prog w = .ok r1 w ∧ (∃ p, t2 = Value.pointer (some p)) ∧ R r1 w) (
 ∃ J5 : NP 1,
 (V prog (do eqGuard .eql 3 (.tmp 10) (.const (i64 2)) t10 (i64 2); binOp .eql 3 t10 (i64 2)) w8 fun t81 w =>
 ifD t81 (
 J5 t81 w) (
 V prog (do eqGuard .eql 3 (.tmp 10) (.const (i64 3)) t10 (i64 3); binOp .eql 3 t10 (i64 3)) w fun t82 w =>
 J5 t82 w)) ∧
 ∀ (t80 : Value), ∀ w56 : World, J5 t80 w56 → ∀ _f : Env,
 ifD t80 (
 V prog (fieldAt 25 t1 1) w56 fun t83 w =>
 V prog (loadAt 3 t83) w fun t84 w =>
 callD prog 33 #[t84] w fun t85 w =>
 V prog (build 29 #[(0, (i64 2)), (2, t85)]) w fun t86 w =>
 U prog (storeAt 29 t2 t86) w fun _ w =>
 ∃ r1, (loadVar 29 (match t2 with | .pointer (some p) => p | _ => ⟨0, 0, none⟩)).run prog w = .ok r1 w ∧ (∃ p, t2 = Value.pointer (some p)) ∧ R r1 w) (
 V prog (do eqGuard .eql 3 (.tmp 10) (.const (i64 4)) t10 (i64 4); binOp .eql 3 t10 (i64 4)) w56 fun t88 w62 =>
 ifD t88 (
 V prog (build 29 #[(0, (i64 3))]) w62 fun t89 w =>
 U prog (storeAt 29 t2 t89) w fun _ w =>
 ∃ r1, (loadVar 29 (match t2 with | .pointer (some p) => p | _ => ⟨0, 0, none⟩)).run prog w = .ok r1 w ∧ (∃ p, t2 = Value.pointer (some p)) ∧ R r1 w) (
 V prog (do eqGuard .eql 3 (.tmp 10) (.const (i64 5)) t10 (i64 5); binOp .eql 3 t10 (i64 5)) w62 fun t91 w65 =>
 ifD t91 (
 V prog (build 29 #[(0, (i64 4))]) w65 fun t92 w =>
 U prog (storeAt 29 t2 t92) w fun _ w =>
 ∃ r1, (loadVar 29 (match t2 with | .pointer (some p) => p | _ => ⟨0, 0, none⟩)).run prog w = .ok r1 w ∧ (∃ p, t2 = Value.pointer (some p)) ∧ R r1 w) (
 V prog (do eqGuard .eql 3 (.tmp 10) (.const (i64 6)) t10 (i64 6); binOp .eql 3 t10 (i64 6)) w65 fun t94 w68 =>
 ifD t94 (
 V prog (fieldAt 25 t1 6) w68 fun t95 w =>
 V prog (loadAt 3 t95) w fun t96 w =>
 V prog (binOp .rem 3 t96 (i64 5)) w fun t97 w =>
 V prog (do eqGuard .eql 3 (.tmp 97) (.const (i64 0)) t97 (i64 0); binOp .eql 3 t97 (i64 0)) w fun t98 w72 =>
 ifD t98 (
 drawD w72 fun S23 w =>
 yieldS prog S23 (fieldAt 25 t1 1) fun t99 =>
 yieldS prog S23 (loadAt 3 t99) fun t100 =>
 yieldS prog S23 (fieldAt 25 t1 4) fun t101 =>
 yieldS prog S23 (loadAt 23 t101) fun t102 =>
 yieldS prog S23 (fieldAt 25 t1 2) fun t103 =>
 yieldS prog S23 (loadAt 3 t103) fun t104 =>
 callD prog 9 #[t104, (i64 300)] w fun t105 w =>
 S23 w ∧
 yieldS prog S23 (build 29 #[(0, t100), (1, t102), (2, (Value.string { data := #[122, 122] })), (5, t105)]) fun t106 =>
 U prog (storeAt 29 t2 t106) w fun _ w =>
 ∃ r1, (loadVar 29 (match t2 with | .pointer (some p) => p | _ => ⟨0, 0, none⟩)).run prog w = .ok r1 w ∧ (∃ p, t2 = Value.pointer (some p)) ∧ R r1 w) (
 J1 w72)) (
 J1 w68)))))) ∧
 ∀ w : World, J1 w → ∀ _f : Env,
 drawD w fun S24 w =>
 yieldS prog S24 (fieldAt 25 t1 4) fun t107 =>
 yieldS prog S24 (loadAt 23 t107) fun t108 =>
 yieldS prog S24 (fieldAt 25 t1 5) fun t110 =>
 yieldS prog S24 (loadAt 23 t110) fun t111 =>
 yieldS prog S24 (fieldAt 25 t1 2) fun t113 =>
 yieldS prog S24 (loadAt 3 t113) fun t114 =>
 callD prog 34 #[t108, (i64 65)] w fun t109 w =>
 S24 w ∧
 callD prog 34 #[t111, (i64 64)] w fun t112 w =>
 S24 w ∧
 callD prog 9 #[t114, (i64 300)] w fun t115 w =>
 S24 w ∧
 yieldS prog S24 (build 29 #[(0, (i64 5)), (3, t109), (4, t112), (5, t115)]) fun t116 =>
 U prog (storeAt 29 t2 t116) w fun _ w =>
 ∃ r1, (loadVar 29 (match t2 with | .pointer (some p) => p | _ => ⟨0, 0, none⟩)).run prog w = .ok r1 w ∧ (∃ p, t2 = Value.pointer (some p)) ∧ R r1 w
theorem F16_wp (h : F16_den t0 w R) : callD prog 16 #[t0] w R :=
  den_wp mixed F16_ann func16 (by kernel_rfl) (by kernel_rfl) h
def F17_ann : Ann := (q (q .leaf))
def F17_den (t0 : Value) (w : World) (R : Value → World → Prop) : Prop :=
 V prog (Builtin.len_ #[23] 3 #[t0]) w fun t4 w =>
 V prog (binOp .gtr 3 t4 (i64 8192)) w fun t5 w =>
 R t5 w
theorem F17_wp (h : F17_den t0 w R) : callD prog 17 #[t0] w R :=
  den_wp mixed F17_ann func17 (by kernel_rfl) (by kernel_rfl) h
def F18_ann : Ann := (q (.seq (q (.cond (q .leaf) .leaf)) (q (.seq (q (.block (.loop ([5] ++ rg 11 23) [11] (q (.seq (.cond .leaf .leaf) (.seq (.block (q (q .leaf))) .leaf)))))) (q .leaf)))))
def F18_den (t0 : Value) (w : World) (R : Value → World → Prop) : Prop :=
 V prog (Builtin.len_ #[23] 3 #[t0]) w fun t7 w =>
 V prog (do eqGuard .eql 3 (.tmp 7) (.const (i64 0)) t7 (i64 0); binOp .eql 3 t7 (i64 0)) w fun t8 w =>
 ifD t8 (
 R (Value.string { data := #[45] }) w) (
 V prog (alloc 73 true (.tuple #[])) w fun t3 w =>
 V prog (Builtin.len_ #[23] 3 #[t0]) w fun t10 w =>
 ∃ (I1 : NP 1) (μ1 : NF 1), I1 (i64 0) w ∧
 ∀ (t11 : Value), ∀ w5 : World, I1 t11 w5 → ∀ _f : Env,
 V prog (binOp .lss 3 t11 t10) w5 fun t12 w6 =>
 ifD t12 (
 V prog (indexAt 23 t0 t11) w6 fun t13 w =>
 V prog (loadAt 5 t13) w fun t14 w =>
 V prog (binOp .shr 5 t14 (Value.int IntKind.u64 4)) w fun t16 w =>
 V prog (index 9 (Value.string { data := #[48, 49, 50, 51, 52, 53, 54, 55, 56, 57, 97, 98, 99, 100, 101, 102] }) t16) w fun t17 w =>
 callD prog 35 #[t3, t17] w fun _ w =>
 V prog (binOp .and 5 t14 (Value.int IntKind.u8 15)) w fun t20 w =>
 V prog (index 9 (Value.string { data := #[48, 49, 50, 51, 52, 53, 54, 55, 56, 57, 97, 98, 99, 100, 101, 102] }) t20) w fun t21 w =>
 callD prog 35 #[t3, t21] w fun _ w =>
 V prog (binOp .add 3 t11 (i64 1)) w fun t23 w =>
 I1 t23 w ∧ μ1 t23 w < μ1 t11 w5) (
 callD prog 36 #[t3] w6 fun t24 w =>
 R t24 w))
theorem F18_wp (h : F18_den t0 w R) : callD prog 18 #[t0] w R :=
  den_wp mixed F18_ann func18 (by kernel_rfl) (by kernel_rfl) h
def F19_ann : Ann := (q (.seq (q (.cond (q .leaf) .leaf)) (.seq (q (.block (.loop ([2, 4] ++ rg 19 24) [] (q (.seq (.cond .leaf .leaf) (.block (q (q (.cond (q .leaf) .leaf))))))))) (q .leaf))))
def F19_den (t0 : Value) (w : World) (R : Value → World → Prop) : Prop :=
 V prog (do eqGuard .eql 9 (.tmp 5) (.const (Value.string { data := #[] })) t0 (Value.string { data := #[] }); binOp .eql 9 t0 (Value.string { data := #[] })) w fun t6 w =>
 gd t6 false (fun K => K t0 w) w fun t8 w =>
 gd t6 false (fun K => V prog (Builtin.len_ #[9] 3 #[t8]) w K) w fun t9 w =>
 gd t6 false (fun K => V prog (binOp .gtr 3 t9 (i64 16)) w K) w fun t10 w =>
 pickD t6 (.bool true) t10 fun t11 =>
 gd t11 false (fun K => K t0 w) w fun t13 w =>
 gd t11 false (fun K => callD prog 37 #[t13] w K) w fun t14 w =>
 gd t11 false (fun K => V prog (Op.unary UnOp.not t14) w K) w fun t15 w =>
 pickD t11 (.bool true) t15 fun t16 =>
 ifD t16 (
 R (.bool false) w) (
 V prog (range 9 t0) w fun t18 w =>
 ∃ (I1 : NP 0) (μ1 : NF 0), I1 w ∧
 ∀ w11 : World, I1 w11 → ∀ _f : Env,
 V prog (next t18 true 0) w11 fun t19 w =>
 V prog (extract t19 0) w fun t20 w13 =>
 ifD t20 (
 V prog (extract t19 2) w13 fun t21 w =>
 callD prog 38 #[t21] w fun t23 w =>
 V prog (Op.unary UnOp.not t23) w fun t24 w =>
 ifD t24 (
 R (.bool false) w) (
 I1 w ∧ μ1 w < μ1 w11)) (
 R (.bool true) w13))
theorem F19_wp (h : F19_den t0 w R) : callD prog 19 #[t0] w R :=
  den_wp mixed F19_ann func19 (by kernel_rfl) (by kernel_rfl) h
def F21_ann : Ann := (q (.seq (q (.cond (q .leaf) .leaf)) (q (q (.seq (q (.block (.loop ([3, 5] ++ rg 9 43) [3, 5] (.seq (q (.cond .leaf .leaf)) (.seq (.block (.draw [0, 0, 0, 0, 12, 16, 32, 0, 0, 384, 512, 1024, 2048, 4162, 8193, 0, 0, 0, 196608, 262144, 524288, 0, 0, 6291456, 8388608, 16777216, 33554432, 68190208, 134234112, 536870911] [0, 0, 0, 0, 12, 16, 32, 0, 0, 384, 512, 1024, 2048, 4162, 8193, 0, 0, 0, 196608, 262144, 524288, 0, 0, 6291456, 8388608, 16777216, 33554432, 68190208, 134234112, 268435457] 0 30 1073741823 (tk (rg 0 29) .done))) .leaf))))) (q .leaf))))))
def F21_den (t0 : Value) (w : World) (R : Value → World → Prop) : Prop :=
 V prog (Builtin.len_ #[23] 3 #[t0]) w fun t7 w =>
 V prog (do eqGuard .eql 3 (.tmp 7) (.const (i64 0)) t7 (i64 0); binOp .eql 3 t7 (i64 0)) w fun t8 w =>
 ifD t8 (
 R (Value.string { data := #[45] }) w) (
 ∃ (I1 : NP 2) (μ1 : NF 2), I1 (Value.string { data := #[] }) (i64 0) w ∧
 ∀ (t3 : Value) (t5 : Value), ∀ w3 : World, I1 t3 t5 w3 → ∀ _f : Env,
 V prog (Builtin.len_ #[23] 3 #[t0]) w3 fun t11 w =>
 V prog (binOp .lss 3 t5 t11) w fun t12 w5 =>
 ifD t12 (
 drawD w5 fun S8 w =>
 yieldS prog S8 (indexAt 23 t0 t5) fun t19 =>
 yieldS prog S8 (loadAt 5 t19) fun t20 =>
 yieldS prog S8 (binOp .quo 5 t20 (Value.int IntKind.u8 16)) fun t21 =>
 yieldS prog S8 (indexAt 23 t0 t5) fun t24 =>
 yieldS prog S8 (loadAt 5 t24) fun t25 =>
 yieldS prog S8 (binOp .quo 5 t25 (Value.int IntKind.u8 16)) fun t26 =>
 yieldS prog S8 (binOp .add 5 t26 (Value.int IntKind.u8 1)) fun t27 =>
 yieldS prog S8 (sliceAt 9 (Value.string { data := #[48, 49, 50, 51, 52, 53, 54, 55, 56, 57, 97, 98, 99, 100, 101, 102] }) (some t21) (some t27) none) fun t28 =>
 yieldS prog S8 (binOp .add 9 t3 t28) fun t29 =>
 yieldS prog S8 (indexAt 23 t0 t5) fun t33 =>
 yieldS prog S8 (loadAt 5 t33) fun t34 =>
 yieldS prog S8 (binOp .rem 5 t34 (Value.int IntKind.u8 16)) fun t35 =>
 yieldS prog S8 (indexAt 23 t0 t5) fun t38 =>
 yieldS prog S8 (loadAt 5 t38) fun t39 =>
 yieldS prog S8 (binOp .rem 5 t39 (Value.int IntKind.u8 16)) fun t40 =>
 yieldS prog S8 (binOp .add 5 t40 (Value.int IntKind.u8 1)) fun t41 =>
 yieldS prog S8 (sliceAt 9 (Value.string { data := #[48, 49, 50, 51, 52, 53, 54, 55, 56, 57, 97, 98, 99, 100, 101, 102] }) (some t35) (some t41) none) fun t42 =>
 yieldS prog S8 (binOp .add 9 t29 t42) fun t43 =>
 V prog (binOp .add 3 t5 (i64 1)) w fun t14 w =>
 I1 t43 t14 w ∧ μ1 t43 t14 w < μ1 t3 t5 w3) (
 R t3 w5))
theorem F21_wp (h : F21_den t0 w R) : callD prog 21 #[t0] w R :=
  den_wp mixed F21_ann func21 (by kernel_rfl) (by kernel_rfl) h
def F22_ann : Ann := (q (.seq (q (.cond (q .leaf) .leaf)) (.seq (q (.block (.loop ([2, 4] ++ rg 20 53) [] (q (.seq (.cond .leaf .leaf) (.block (q (q (.cond (q .leaf) .leaf))))))))) (q .leaf))))
def F22_den (t0 : Value) (w : World) (R : Value → World → Prop) : Prop :=
 V prog (Builtin.len_ #[9] 3 #[t0]) w fun t6 w =>
 V prog (binOp .lss 3 t6 (i64 1)) w fun t7 w =>
 gd t7 false (fun K => K t0 w) w fun t9 w =>
 gd t7 false (fun K => V prog (Builtin.len_ #[9] 3 #[t9]) w K) w fun t10 w =>
 gd t7 false (fun K => V prog (binOp .gtr 3 t10 (i64 16)) w K) w fun t11 w =>
 pickD t7 (.bool true) t11 fun t12 =>
 gd t12 false (fun K => K t0 w) w fun t14 w =>
 gd t12 false (fun K => callD prog 37 #[t14] w K) w fun t15 w =>
 gd t12 false (fun K => V prog (Op.unary UnOp.not t15) w K) w fun t16 w =>
 pickD t12 (.bool true) t16 fun t17 =>
 ifD t17 (
 R (.bool false) w) (
 V prog (range 9 t0) w fun t19 w =>
 ∃ (I1 : NP 0) (μ1 : NF 0), I1 w ∧
 ∀ w12 : World, I1 w12 → ∀ _f : Env,
 V prog (next t19 true 0) w12 fun t20 w =>
 V prog (extract t20 0) w fun t21 w14 =>
 ifD t21 (
 V prog (extract t20 2) w14 fun t22 w =>
 V prog (binOp .geq 21 t22 (Value.int IntKind.i32 97)) w fun t24 w =>
 gd t24 true (fun K => K t22 w) w fun t26 w =>
 gd t24 true (fun K => V prog (binOp .leq 21 t26 (Value.int IntKind.i32 122)) w K) w fun t27 w =>
 pickD t24 t27 (.bool false) fun t28 =>
 gd t28 false (fun K => K t22 w) w fun t30 w =>
 gd t28 false (fun K => V prog (binOp .geq 21 t30 (Value.int IntKind.i32 48)) w K) w fun t31 w =>
 gd t28 false (fun K => K t31 w) w fun t32 w =>
 gd t32 true (fun K => K t22 w) w fun t33 w =>
 gd t32 true (fun K => V prog (binOp .leq 21 t33 (Value.int IntKind.i32 57)) w K) w fun t34 w =>
 gd t28 false (fun K => pickD t32 t34 (.bool false) fun v => K v w) w fun t35 w =>
 pickD t28 (.bool true) t35 fun t36 =>
 gd t36 false (fun K => K t22 w) w fun t38 w =>
 gd t36 false (fun K => V prog (do eqGuard .eql 21 (.tmp 38) (.const (Value.int IntKind.i32 45)) t38 (Value.int IntKind.i32 45); binOp .eql 21 t38 (Value.int IntKind.i32 45)) w K) w fun t39 w =>
 pickD t36 (.bool true) t39 fun t40 =>
 gd t40 false (fun K => K t22 w) w fun t42 w =>
 gd t40 false (fun K => V prog (do eqGuard .eql 21 (.tmp 42) (.const (Value.int IntKind.i32 46)) t42 (Value.int IntKind.i32 46); binOp .eql 21 t42 (Value.int IntKind.i32 46)) w K) w fun t43 w =>
 pickD t40 (.bool true) t43 fun t44 =>
 gd t44 false (fun K => K t22 w) w fun t46 w =>
 gd t44 false (fun K => V prog (binOp .geq 21 t46 (Value.int IntKind.i32 224)) w K) w fun t47 w =>
 gd t44 false (fun K => K t47 w) w fun t48 w =>
 gd t48 true (fun K => K t22 w) w fun t49 w =>
 gd t48 true (fun K => V prog (binOp .leq 21 t49 (Value.int IntKind.i32 255)) w K) w fun t50 w =>
 gd t44 false (fun K => pickD t48 t50 (.bool false) fun v => K v w) w fun t51 w =>
 pickD t44 (.bool true) t51 fun t52 =>
 V prog (Op.unary UnOp.not t52) w fun t53 w =>
 ifD t53 (
 R (.bool false) w) (
 I1 w ∧ μ1 w < μ1 w12)) (
 R (.bool true) w14))
theorem F22_wp (h : F22_den t0 w R) : callD prog 22 #[t0] w R :=
  den_wp mixed F22_ann func22 (by kernel_rfl) (by kernel_rfl) h
def F23_ann : Ann := (q (.seq (q (.cond (q .leaf) .leaf)) (q .leaf)))
def F23_den (t0 : Value) (w : World) (R : Value → World → Prop) : Prop :=
 V prog (binOp .lss 3 t0 (i64 0)) w fun t4 w1 =>
 ifD t4 (
 callD prog 40 #[t0] w1 fun t6 w =>
 V prog (binOp .add 9 (Value.string { data := #[45] }) t6) w fun t7 w =>
 R t7 w) (
 V prog (Op.unary UnOp.neg t0) w1 fun t9 w =>
 callD prog 40 #[t9] w fun t10 w =>
 R t10 w)
theorem F23_wp (h : F23_den t0 w R) : callD prog 23 #[t0] w R :=
  den_wp mixed F23_ann func23 (by kernel_rfl) (by kernel_rfl) h
def F24_ann : Ann := (q (q (.join ([9] ++ rg 22 33) [9] (q (.cond .leaf .leaf)) (.seq (q (.cond (q .leaf) .leaf)) (q (.seq (q (.block (.loop ([6, 7, 8] ++ rg 10 14 ++ rg 39 62) [10, 39] (q (.seq (.cond .leaf .leaf) (.seq (.block (q (q (.seq (q (.cond (q .leaf) .leaf)) (q (.cond .leaf .leaf)))))) .leaf)))))) (q (.seq (q (.cond (q .leaf) .leaf)) (q (.seq (q (.block (.loop ([19] ++ rg 74 84) [74] (q (.seq (.cond .leaf .leaf) (.seq (.block (q .leaf)) .leaf)))))) (q .leaf)))))))))))
def F24_den (t0 t1 t2 : Value) (w : World) (R : Value → World → Prop) : Prop :=
 callD prog 41 #[t2, (Value.string { data := #[10] })] w fun t21 w =>
 ∃ J1 : NP 1,
 (V prog (Builtin.len_ #[53] 3 #[t21]) w fun t24 w =>
 V prog (binOp .sub 3 t24 (i64 1)) w fun t25 w =>
 V prog (indexAt 53 t21 t25) w fun t26 w =>
 V prog (loadAt 9 t26) w fun t27 w =>
 V prog (do eqGuard .eql 9 (.tmp 27) (.const (Value.string { data := #[] })) t27 (Value.string { data := #[] }); binOp .eql 9 t27 (Value.string { data := #[] })) w fun t28 w6 =>
 ifD t28 (
 V prog (Builtin.len_ #[53] 3 #[t21]) w6 fun t31 w =>
 V prog (binOp .sub 3 t31 (i64 1)) w fun t32 w =>
 V prog (sliceAt 53 t21 none (some t32) none) w fun t33 w =>
 J1 t33 w) (
 J1 t21 w6)) ∧
 ∀ (t9 : Value), ∀ w : World, J1 t9 w → ∀ _f : Env,
 V prog (Builtin.len_ #[53] 3 #[t9]) w fun t35 w =>
 V prog (binOp .gtr 3 t35 (i64 400)) w fun t36 w =>
 ifD t36 (
 R (.tuple #[(Value.string { data := #[] }), (i64 0), (i64 6)]) w) (
 V prog (Builtin.len_ #[53] 3 #[t9]) w fun t38 w =>
 ∃ (I2 : NP 2) (μ2 : NF 2), I2 nilS (i64 0) w ∧
 ∀ (t10 : Value) (t39 : Value), ∀ w14 : World, I2 t10 t39 w14 → ∀ _f : Env,
 V prog (binOp .lss 3 t39 t38) w14 fun t40 w15 =>
 ifD t40 (
 V prog (indexAt 53 t9 t39) w15 fun t42 w =>
 V prog (loadAt 9 t42) w fun t43 w =>
 callD prog 13 #[t43] w fun t46 w =>
 V prog (extract t46 0) w fun t47 w =>
 V prog (extract t46 1) w fun t48 w =>
 V prog (alloc 29 true (.tuple #[])) w fun t13 w =>
 U prog (storeAt 29 t13 t47) w fun _ w =>
 V prog (do eqGuard .neq 9 (.tmp 49) (.const (Value.string { data := #[] })) t43 (Value.string { data := #[] }); binOp .neq 9 t43 (Value.string { data := #[] })) w fun t50 w =>
 gd t50 true (fun K => K t48 w) w fun t52 w =>
 gd t50 true (fun K => V prog (Op.unary UnOp.not t52) w K) w fun t53 w25 =>
 pickD t50 t53 (.bool false) fun t54 =>
 ifD t54 (
 V prog (binOp .add 3 t39 (i64 1)) w25 fun t56 w =>
 R (.tuple #[(Value.string { data := #[] }), t56, (i64 5)]) w) (
 ifD t48 (
 V prog (loadAt 29 t13) w25 fun t59 w =>
 V prog (buildSlice 80 1 #[(0, t59)]) w fun t60 w =>
 V prog (Builtin.append_ #[80, 80] 80 #[t10, t60]) w fun t61 w =>
 V prog (binOp .add 3 t39 (i64 1)) w fun t62 w =>
 I2 t61 t62 w ∧ μ2 t61 t62 w < μ2 t10 t39 w14) (
 V prog (binOp .add 3 t39 (i64 1)) w25 fun t62_1 w =>
 I2 t10 t62_1 w ∧ μ2 t10 t62_1 w < μ2 t10 t39 w14))) (
 callD prog 42 #[t0, t1] w15 fun t66 w =>
 V prog (extract t66 0) w fun t67 w =>
 V prog (extract t66 1) w fun t68 w =>
 V prog (do eqGuard .neq 48 (.tmp 69) (.const (i64 0)) t68 (i64 0); binOp .neq 48 t68 (i64 0)) w fun t70 w =>
 ifD t70 (
 R (.tuple #[(Value.string { data := #[] }), (i64 0), t68]) w) (
 V prog (alloc 73 true (.tuple #[])) w fun t17 w =>
 V prog (Builtin.len_ #[80] 3 #[t10]) w fun t73 w =>
 ∃ (I3 : NP 1) (μ3 : NF 1), I3 (i64 0) w ∧
 ∀ (t74 : Value), ∀ w39 : World, I3 t74 w39 → ∀ _f : Env,
 V prog (binOp .lss 3 t74 t73) w39 fun t75 w40 =>
 ifD t75 (
 V prog (indexAt 80 t10 t74) w40 fun t76 w =>
 V prog (loadAt 29 t76) w fun t77 w =>
 V prog (alloc 29 true (.tuple #[])) w fun t19 w =>
 U prog (storeAt 29 t19 t77) w fun _ w =>
 V prog (loadAt 29 t19) w fun t79 w =>
 callD prog 44 #[t67, t79] w fun t80 w =>
 callD prog 11 #[t80] w fun t81 w =>
 V prog (binOp .add 9 t81 (Value.string { data := #[10] })) w fun t82 w =>
 callD prog 43 #[t17, t82] w fun _ w =>
 V prog (binOp .add 3 t74 (i64 1)) w fun t84 w =>
 I3 t84 w ∧ μ3 t84 w < μ3 t74 w39) (
 callD prog 36 #[t17] w40 fun t85 w =>
 R (.tuple #[t85, (i64 0), (i64 0)]) w))))
theorem F24_wp (h : F24_den t0 t1 t2 w R) : callD prog 24 #[t0, t1, t2] w R :=
  den_wp mixed F24_ann func24 (by kernel_rfl) (by kernel_rfl) h
def F25_ann : Ann := (q (q (q (.seq (.block (q (.cond (q .leaf) (q (.cond (.draw [0, 1, 2, 0, 8, 31, 63, 127] [0, 1, 2, 0, 8, 0, 36, 0] 0 8 255 (tk (rg 0 3) (.only 4 (.take 5 (.only 6 (.take 7 .done)))))) (q (.cond .leaf (q (.cond .leaf (q (.cond (q (q (q (q (q .leaf))))) .leaf))))))))))) (q .leaf)))))
def F25_den (t0 : Value) (w : World) (R : Value → World → Prop) : Prop :=
 V prog (alloc 29 true (.tuple #[])) w fun t2 w =>
 V prog (alloc 29 true (.tuple #[])) w fun t4 w =>
 V prog (indexAt 53 t0 (i64 0)) w fun t10 w =>
 V prog (loadAt 9 t10) w fun t11 w =>
 V prog (do eqGuard .eql 9 (.tmp 11) (.const (Value.string { data := #[105, 110, 115, 116, 97, 108, 108] })) t11 (Value.string { data := #[105, 110, 115, 116, 97, 108, 108] }); binOp .eql 9 t11 (Value.string { data := #[105, 110, 115, 116, 97, 108, 108] })) w fun t12 w =>
 gd t12 true (fun K => K t0 w) w fun t14 w =>
 gd t12 true (fun K => V prog (Builtin.len_ #[53] 3 #[t14]) w K) w fun t15 w =>
 gd t12 true (fun K => V prog (do eqGuard .eql 3 (.tmp 15) (.const (i64 2)) t15 (i64 2); binOp .eql 3 t15 (i64 2)) w K) w fun t16 w8 =>
 pickD t12 t16 (.bool false) fun t17 =>
 ifD t17 (
 V prog (fieldAt 29 t4 0) w8 fun t18 w =>
 U prog (storeAt 3 t18 (i64 1)) w fun _ w =>
 V prog (indexAt 53 t0 (i64 1)) w fun t21 w =>
 V prog (loadAt 9 t21) w fun t22 w =>
 callD prog 45 #[t22] w fun t23 w =>
 V prog (extract t23 0) w fun t24 w =>
 V prog (extract t23 1) w fun t25 w =>
 V prog (fieldAt 29 t4 1) w fun t26 w =>
 U prog (storeAt 23 t26 t24) w fun _ w =>
 V prog (loadAt 29 t4) w fun t106 w =>
 U prog (storeAt 29 t2 t106) w fun _ w =>
 ∃ r1, (loadVar 29 (match t2 with | .pointer (some p) => p | _ => ⟨0, 0, none⟩)).run prog w = .ok r1 w ∧ (∃ p, t2 = Value.pointer (some p)) ∧ R (.tuple #[r1, t25]) w) (
 V prog (indexAt 53 t0 (i64 0)) w8 fun t29 w =>
 V prog (loadAt 9 t29) w fun t30 w =>
 V prog (do eqGuard .eql 9 (.tmp 30) (.const (Value.string { data := #[115, 101, 108, 101, 99, 116] })) t30 (Value.string { data := #[115, 101, 108, 101, 99, 116] }); binOp .eql 9 t30 (Value.string { data := #[115, 101, 108, 101, 99, 116] })) w fun t31 w =>
 gd t31 true (fun K => K t0 w) w fun t33 w =>
 gd t31 true (fun K => V prog (Builtin.len_ #[53] 3 #[t33]) w K) w fun t34 w =>
 gd t31 true (fun K => V prog (do eqGuard .eql 3 (.tmp 34) (.const (i64 2)) t34 (i64 2); binOp .eql 3 t34 (i64 2)) w K) w fun t35 w26 =>
 pickD t31 t35 (.bool false) fun t36 =>
 ifD t36 (
 drawD w26 fun S7 w =>
 yieldS prog S7 (indexAt 53 t0 (i64 1)) fun t38 =>
 yieldS prog S7 (loadAt 9 t38) fun t39 =>
 yieldS prog S7 (fieldAt 29 t4 0) fun t40 =>
 U prog (storeAt 3 t40 (i64 2)) w fun _ w =>
 S7 w ∧
 yieldS prog S7 (fieldAt 29 t4 2) fun t41 =>
 U prog (storeAt 9 t41 t39) w fun _ w =>
 S7 w ∧
 V prog (loadAt 29 t4) w fun t106_1 w =>
 U prog (storeAt 29 t2 t106_1) w fun _ w =>
 ∃ r1, (loadVar 29 (match t2 with | .pointer (some p) => p | _ => ⟨0, 0, none⟩)).run prog w = .ok r1 w ∧ (∃ p, t2 = Value.pointer (some p)) ∧ R (.tuple #[r1, (.bool true)]) w) (
 V prog (indexAt 53 t0 (i64 0)) w26 fun t44 w =>
 V prog (loadAt 9 t44) w fun t45 w =>
 V prog (do eqGuard .eql 9 (.tmp 45) (.const (Value.string { data := #[100, 101, 115, 101, 108, 101, 99, 116] })) t45 (Value.string { data := #[100, 101, 115, 101, 108, 101, 99, 116] }); binOp .eql 9 t45 (Value.string { data := #[100, 101, 115, 101, 108, 101, 99, 116] })) w fun t46 w =>
 gd t46 true (fun K => K t0 w) w fun t48 w =>
 gd t46 true (fun K => V prog (Builtin.len_ #[53] 3 #[t48]) w K) w fun t49 w =>
 gd t46 true (fun K => V prog (do eqGuard .eql 3 (.tmp 49) (.const (i64 1)) t49 (i64 1); binOp .eql 3 t49 (i64 1)) w K) w fun t50 w38 =>
 pickD t46 t50 (.bool false) fun t51 =>
 ifD t51 (
 V prog (fieldAt 29 t4 0) w38 fun t52 w =>
 U prog (storeAt 3 t52 (i64 3)) w fun _ w =>
 V prog (loadAt 29 t4) w fun t106_2 w =>
 U prog (storeAt 29 t2 t106_2) w fun _ w =>
 ∃ r1, (loadVar 29 (match t2 with | .pointer (some p) => p | _ => ⟨0, 0, none⟩)).run prog w = .ok r1 w ∧ (∃ p, t2 = Value.pointer (some p)) ∧ R (.tuple #[r1, (.bool true)]) w) (
 V prog (indexAt 53 t0 (i64 0)) w38 fun t55 w =>
 V prog (loadAt 9 t55) w fun t56 w =>
 V prog (do eqGuard .eql 9 (.tmp 56) (.const (Value.string { data := #[114, 101, 115, 101, 116] })) t56 (Value.string { data := #[114, 101, 115, 101, 116] }); binOp .eql 9 t56 (Value.string { data := #[114, 101, 115, 101, 116] })) w fun t57 w =>
 gd t57 true (fun K => K t0 w) w fun t59 w =>
 gd t57 true (fun K => V prog (Builtin.len_ #[53] 3 #[t59]) w K) w fun t60 w =>
 gd t57 true (fun K => V prog (do eqGuard .eql 3 (.tmp 60) (.const (i64 1)) t60 (i64 1); binOp .eql 3 t60 (i64 1)) w K) w fun t61 w49 =>
 pickD t57 t61 (.bool false) fun t62 =>
 ifD t62 (
 V prog (fieldAt 29 t4 0) w49 fun t63 w =>
 U prog (storeAt 3 t63 (i64 4)) w fun _ w =>
 V prog (loadAt 29 t4) w fun t106_3 w =>
 U prog (storeAt 29 t2 t106_3) w fun _ w =>
 ∃ r1, (loadVar 29 (match t2 with | .pointer (some p) => p | _ => ⟨0, 0, none⟩)).run prog w = .ok r1 w ∧ (∃ p, t2 = Value.pointer (some p)) ∧ R (.tuple #[r1, (.bool true)]) w) (
 V prog (indexAt 53 t0 (i64 0)) w49 fun t66 w =>
 V prog (loadAt 9 t66) w fun t67 w =>
 V prog (do eqGuard .eql 9 (.tmp 67) (.const (Value.string { data := #[99, 111, 109, 109, 97, 110, 100] })) t67 (Value.string { data := #[99, 111, 109, 109, 97, 110, 100] }); binOp .eql 9 t67 (Value.string { data := #[99, 111, 109, 109, 97, 110, 100] })) w fun t68 w =>
 gd t68 true (fun K => K t0 w) w fun t70 w =>
 gd t68 true (fun K => V prog (Builtin.len_ #[53] 3 #[t70]) w K) w fun t71 w =>
 gd t68 true (fun K => V prog (do eqGuard .eql 3 (.tmp 71) (.const (i64 4)) t71 (i64 4); binOp .eql 3 t71 (i64 4)) w K) w fun t72 w60 =>
 pickD t68 t72 (.bool false) fun t73 =>
 ifD t73 (
 V prog (fieldAt 29 t4 0) w60 fun t74 w =>
 U prog (storeAt 3 t74 (i64 5)) w fun _ w =>
 V prog (indexAt 53 t0 (i64 1)) w fun t77 w =>
 V prog (loadAt 9 t77) w fun t78 w =>
 callD prog 45 #[t78] w fun t79 w =>
 V prog (extract t79 0) w fun t80 w =>
 V prog (extract t79 1) w fun t81 w =>
 V prog (fieldAt 29 t4 3) w fun t82 w =>
 U prog (storeAt 23 t82 t80) w fun _ w =>
 V prog (indexAt 53 t0 (i64 2)) w fun t85 w =>
 V prog (loadAt 9 t85) w fun t86 w =>
 callD prog 45 #[t86] w fun t87 w =>
 V prog (extract t87 0) w fun t88 w =>
 V prog (extract t87 1) w fun t89 w =>
 V prog (fieldAt 29 t4 4) w fun t90 w =>
 U prog (storeAt 23 t90 t88) w fun _ w =>
 V prog (indexAt 53 t0 (i64 3)) w fun t93 w =>
 V prog (loadAt 9 t93) w fun t94 w =>
 callD prog 46 #[t94] w fun t95 w =>
 V prog (extract t95 0) w fun t96 w =>
 V prog (extract t95 1) w fun t97 w =>
 V prog (fieldAt 29 t4 5) w fun t98 w =>
 U prog (storeAt 3 t98 t96) w fun _ w =>
 gd t81 true (fun K => K t89 w) w fun t101 w =>
 pickD t81 t101 (.bool false) fun t102 =>
 gd t102 true (fun K => K t97 w) w fun t104 w =>
 pickD t102 t104 (.bool false) fun t105 =>
 V prog (loadAt 29 t4) w fun t106_4 w =>
 U prog (storeAt 29 t2 t106_4) w fun _ w =>
 ∃ r1, (loadVar 29 (match t2 with | .pointer (some p) => p | _ => ⟨0, 0, none⟩)).run prog w = .ok r1 w ∧ (∃ p, t2 = Value.pointer (some p)) ∧ R (.tuple #[r1, t105]) w) (
 V prog (loadAt 29 t4) w60 fun t106_5 w =>
 U prog (storeAt 29 t2 t106_5) w fun _ w =>
 ∃ r1, (loadVar 29 (match t2 with | .pointer (some p) => p | _ => ⟨0, 0, none⟩)).run prog w = .ok r1 w ∧ (∃ p, t2 = Value.pointer (some p)) ∧ R (.tuple #[r1, (.bool false)]) w)))))
theorem F25_wp (h : F25_den t0 w R) : callD prog 25 #[t0] w R :=
  den_wp mixed F25_ann func25 (by kernel_rfl) (by kernel_rfl) h
def F26_ann : Ann := (q (q (.seq (q (.block (.loop ([3, 5] ++ rg 9 26) [3] (q (.seq (.cond .leaf .leaf) (.block (q (q (.cond .leaf .leaf))))))))) (q .leaf))))
def F26_den (t0 : Value) (w : World) (R : Value → World → Prop) : Prop :=
 V prog (buildSlice 53 1 #[(0, (Value.string { data := #[] }))]) w fun t6 w =>
 V prog (range 9 t0) w fun t8 w =>
 ∃ (I1 : NP 1) (μ1 : NF 1), I1 t6 w ∧
 ∀ (t3 : Value), ∀ w3 : World, I1 t3 w3 → ∀ _f : Env,
 V prog (next t8 true 0) w3 fun t9 w =>
 V prog (extract t9 0) w fun t10 w5 =>
 ifD t10 (
 V prog (extract t9 2) w5 fun t11 w =>
 V prog (do eqGuard .eql 21 (.tmp 12) (.const (Value.int IntKind.i32 32)) t11 (Value.int IntKind.i32 32); binOp .eql 21 t11 (Value.int IntKind.i32 32)) w fun t13 w7 =>
 ifD t13 (
 V prog (buildSlice 53 1 #[(0, (Value.string { data := #[] }))]) w7 fun t15 w =>
 V prog (Builtin.append_ #[53, 53] 53 #[t3, t15]) w fun t16 w =>
 I1 t16 w ∧ μ1 t16 w < μ1 t3 w3) (
 V prog (Builtin.len_ #[53] 3 #[t3]) w7 fun t19 w =>
 V prog (binOp .sub 3 t19 (i64 1)) w fun t20 w =>
 V prog (indexAt 53 t3 t20) w fun t21 w =>
 V prog (loadAt 9 t21) w fun t22 w =>
 V prog (convert 21 9 t11) w fun t24 w =>
 V prog (binOp .add 9 t22 t24) w fun t25 w =>
 V prog (indexAt 53 t3 t20) w fun t26 w =>
 U prog (storeAt 9 t26 t25) w fun _ w =>
 I1 t3 w ∧ μ1 t3 w < μ1 t3 w3)) (
 R t3 w5)
theorem F26_wp (h : F26_den t0 w R) : callD prog 26 #[t0] w R :=
  den_wp mixed F26_ann func26 (by kernel_rfl) (by kernel_rfl) h
def F27_ann : Ann := (q (q (q (.seq (q (.block (.loop (rg 3 26) [3, 4, 5] (.seq (q (.cond .leaf .leaf)) (.seq (.block (q (.cond (q .leaf) .leaf))) .leaf))))) (q .leaf)))))
def F27_den (t0 : Value) (w : World) (R : Value → World → Prop) : Prop :=
 ∃ (I1 : NP 3) (μ1 : NF 3), I1 nilS (Value.string { data := #[] }) (i64 0) w ∧
 ∀ (t3 : Value) (t4 : Value) (t5 : Value), ∀ w1 : World, I1 t3 t4 t5 w1 → ∀ _f : Env,
 V prog (Builtin.len_ #[9] 3 #[t0]) w1 fun t8 w =>
 V prog (binOp .lss 3 t5 t8) w fun t9 w3 =>
 ifD t9 (
 V prog (index 9 t0 t5) w3 fun t14 w =>
 V prog (do eqGuard .eql 5 (.tmp 14) (.const (Value.int IntKind.u8 32)) t14 (Value.int IntKind.u8 32); binOp .eql 5 t14 (Value.int IntKind.u8 32)) w fun t15 w5 =>
 ifD t15 (
 V prog (buildSlice 53 1 #[(0, t4)]) w5 fun t18 w =>
 V prog (Builtin.append_ #[53, 53] 53 #[t3, t18]) w fun t19 w =>
 V prog (binOp .add 3 t5 (i64 1)) w fun t11 w =>
 I1 t19 (Value.string { data := #[] }) t11 w ∧ μ1 t19 (Value.string { data := #[] }) t11 w < μ1 t3 t4 t5 w1) (
 V prog (binOp .add 3 t5 (i64 1)) w5 fun t24 w =>
 V prog (sliceAt 9 t0 (some t5) (some t24) none) w fun t25 w =>
 V prog (binOp .add 9 t4 t25) w fun t26 w =>
 V prog (binOp .add 3 t5 (i64 1)) w fun t11_1 w =>
 I1 t3 t26 t11_1 w ∧ μ1 t3 t26 t11_1 w < μ1 t3 t4 t5 w1)) (
 V prog (buildSlice 53 1 #[(0, t4)]) w3 fun t29 w =>
 V prog (Builtin.append_ #[53, 53] 53 #[t3, t29]) w fun t30 w =>
 R t30 w)
theorem F27_wp (h : F27_den t0 w R) : callD prog 27 #[t0] w R :=
  den_wp mixed F27_ann func27 (by kernel_rfl) (by kernel_rfl) h
def F28_ann : Ann := (q (.seq (q (.cond (q .leaf) .leaf)) (.seq (q (.cond (q .leaf) .leaf)) (q (.seq (q (.block (.loop (rg 2 7 ++ rg 19 47) [4, 5] (.seq (q (.cond .leaf .leaf)) (.seq (.block (q (q (.seq (q (.cond (q .leaf) .leaf)) .leaf)))) .leaf))))) (q .leaf))))))
def F28_den (t0 : Value) (w : World) (R : Value → World → Prop) : Prop :=
 V prog (do eqGuard .eql 9 (.tmp 8) (.const (Value.string { data := #[45] })) t0 (Value.string { data := #[45] }); binOp .eql 9 t0 (Value.string { data := #[45] })) w fun t9 w =>
 ifD t9 (
 R (.tuple #[nilS, (.bool true)]) w) (
 V prog (Builtin.len_ #[9] 3 #[t0]) w fun t11 w =>
 V prog (do eqGuard .eql 3 (.tmp 11) (.const (i64 0)) t11 (i64 0); binOp .eql 3 t11 (i64 0)) w fun t12 w =>
 gd t12 false (fun K => K t0 w) w fun t14 w =>
 gd t12 false (fun K => V prog (Builtin.len_ #[9] 3 #[t14]) w K) w fun t15 w =>
 gd t12 false (fun K => V prog (binOp .rem 3 t15 (i64 2)) w K) w fun t16 w =>
 gd t12 false (fun K => V prog (do eqGuard .neq 3 (.tmp 16) (.const (i64 0)) t16 (i64 0); binOp .neq 3 t16 (i64 0)) w K) w fun t17 w =>
 pickD t12 (.bool true) t17 fun t18 =>
 ifD t18 (
 R (.tuple #[nilS, (.bool false)]) w) (
 ∃ (I1 : NP 2) (μ1 : NF 2), I1 nilS (i64 0) w ∧
 ∀ (t4 : Value) (t5 : Value), ∀ w9 : World, I1 t4 t5 w9 → ∀ _f : Env,
 V prog (Builtin.len_ #[9] 3 #[t0]) w9 fun t21 w =>
 V prog (binOp .lss 3 t5 t21) w fun t22 w11 =>
 ifD t22 (
 V prog (index 9 t0 t5) w11 fun t27 w =>
 callD prog 47 #[t27] w fun t28 w =>
 V prog (binOp .add 3 t5 (i64 1)) w fun t31 w =>
 V prog (index 9 t0 t31) w fun t32 w =>
 callD prog 47 #[t32] w fun t33 w =>
 V prog (binOp .lss 3 t28 (i64 0)) w fun t35 w =>
 gd t35 false (fun K => K t33 w) w fun t37 w =>
 gd t35 false (fun K => V prog (binOp .lss 3 t37 (i64 0)) w K) w fun t38 w =>
 pickD t35 (.bool true) t38 fun t39 =>
 ifD t39 (
 R (.tuple #[nilS, (.bool false)]) w) (
 V prog (binOp .mul 3 (i64 16) t28) w fun t42 w =>
 V prog (binOp .add 3 t42 t33) w fun t44 w =>
 V prog (convert 3 5 t44) w fun t45 w =>
 V prog (buildSlice 23 1 #[(0, t45)]) w fun t46 w =>
 V prog (Builtin.append_ #[23, 23] 23 #[t4, t46]) w fun t47 w =>
 V prog (binOp .add 3 t5 (i64 2)) w fun t24 w =>
 I1 t47 t24 w ∧ μ1 t47 t24 w < μ1 t4 t5 w9)) (
 R (.tuple #[t4, (.bool true)]) w11)))
theorem F28_wp (h : F28_den t0 w R) : callD prog 28 #[t0] w R :=
  den_wp mixed F28_ann func28 (by kernel_rfl) (by kernel_rfl) h
def F29_ann : Ann := (q (q (q (q (q (q (.seq (q (.block (.loop ([8, 9] ++ rg 45 87) [8] (.seq (q (.cond .leaf .leaf)) (.seq (.block (q (.join ([9] ++ rg 64 71) [9] (q (.cond .leaf .leaf)) (.draw [0, 1, 0, 0, 0, 16, 0, 96, 128, 0, 512, 0, 2048, 5384, 16383, 32767, 49151] [0, 1, 0, 0, 0, 16, 0, 96, 128, 0, 512, 0, 2048, 5384, 6, 16384, 40960] 0 16 65535 (tk (rg 0 12) (.only 13 (.take 14 (.take 15 (.last 16))))))))) .leaf))))) (q .leaf))))))))
def F29_den (t0 t1 : Value) (w : World) (R : Value → World → Prop) : Prop :=
 V prog (alloc 61 true (.tuple #[])) w fun t4 w =>
 V prog (buildSlice 57 4 #[(0, (i64 1)), (1, (i64 2)), (2, (i64 3)), (3, (i64 4))]) w fun t10 w =>
 callD prog 33 #[t0] w fun t12 w =>
 V prog (buildSlice 57 4 #[(0, (i64 1)), (1, (i64 2)), (2, (i64 3)), (3, (i64 4))]) w fun t13 w =>
 V prog (buildSlice 57 2 #[(0, (i64 1)), (1, (i64 2))]) w fun t14 w =>
 V prog (build 61 #[(0, t12), (1, t13), (4, t14)]) w fun t15 w =>
 V prog (alloc 61 true (.tuple #[])) w fun t6 w =>
 U prog (storeAt 61 t6 t15) w fun _ w =>
 V prog (binOp .add 3 t0 (i64 1)) w fun t17 w =>
 callD prog 33 #[t17] w fun t18 w =>
 V prog (buildSlice 57 2 #[(0, (i64 1)), (1, (i64 2))]) w fun t19 w =>
 V prog (build 91 #[(0, t18), (1, (i64 0)), (2, t19), (3, (i64 2))]) w fun t20 w =>
 V prog (binOp .add 3 t0 (i64 1)) w fun t22 w =>
 V prog (Builtin.len_ #[22] 3 #[t1]) w fun t24 w =>
 callD prog 9 #[t24, (i64 3)] w fun t25 w =>
 V prog (binOp .add 3 t22 t25) w fun t26 w =>
 callD prog 33 #[t26] w fun t27 w =>
 V prog (buildSlice 57 2 #[(0, (i64 4)), (1, (i64 3))]) w fun t28 w =>
 V prog (build 91 #[(0, t27), (1, (i64 1)), (2, t28), (3, (i64 3))]) w fun t29 w =>
 V prog (buildSlice 58 2 #[(0, t20), (1, t29)]) w fun t30 w =>
 V prog (fieldAt 61 t6 2) w fun t31 w =>
 U prog (storeAt 58 t31 t30) w fun _ w =>
 V prog (build 94 #[(2, t10)]) w fun t33 w =>
 V prog (buildSlice 57 2 #[(0, (i64 1)), (1, (i64 2))]) w fun t34 w =>
 V prog (build 94 #[(0, t34), (1, (i64 2)), (2, t10)]) w fun t36 w =>
 V prog (buildSlice 57 2 #[(0, (i64 4)), (1, (i64 3))]) w fun t37 w =>
 V prog (sliceAt 57 t10 none (some (i64 2)) none) w fun t39 w =>
 V prog (build 94 #[(0, t37), (1, (i64 3)), (2, t39)]) w fun t40 w =>
 V prog (buildSlice 59 3 #[(0, t33), (1, t36), (2, t40)]) w fun t41 w =>
 V prog (fieldAt 61 t6 3) w fun t42 w =>
 U prog (storeAt 59 t42 t41) w fun _ w =>
 V prog (Builtin.len_ #[22] 3 #[t1]) w fun t44 w =>
 ∃ (I1 : NP 1) (μ1 : NF 1), I1 (i64 0) w ∧
 ∀ (t8 : Value), ∀ w33 : World, I1 t8 w33 → ∀ _f : Env,
 V prog (binOp .lss 3 t8 (i64 3)) w33 fun t46 w34 =>
 ifD t46 (
 V prog (binOp .mul 3 t8 t44) w34 fun t53 w =>
 V prog (binOp .quo 3 t53 (i64 3)) w fun t54 w =>
 V prog (Builtin.min_ #[3, 3] 3 #[t44, t54]) w fun t55 w =>
 V prog (binOp .add 3 t8 (i64 1)) w fun t58 w =>
 V prog (binOp .mul 3 t58 t44) w fun t60 w =>
 V prog (binOp .quo 3 t60 (i64 3)) w fun t61 w =>
 V prog (Builtin.min_ #[3, 3] 3 #[t44, t61]) w fun t62 w =>
 V prog (sliceAt 22 t1 (some t55) (some t62) none) w fun t63 w =>
 ∃ J2 : NP 1,
 (V prog (do eqGuard .eql 3 (.tmp 64) (.const (i64 0)) t8 (i64 0); binOp .eql 3 t8 (i64 0)) w fun t65 w43 =>
 ifD t65 (
 V prog (binOp .quo 3 t44 (i64 2)) w43 fun t69 w =>
 V prog (Builtin.min_ #[3, 3] 3 #[t44, t69]) w fun t70 w =>
 V prog (sliceAt 22 t1 none (some t70) none) w fun t71 w =>
 J2 t71 w) (
 J2 t63 w43)) ∧
 ∀ (t9 : Value), ∀ w : World, J2 t9 w → ∀ _f : Env,
 drawD w fun S12 w =>
 yieldS prog S12 (fieldAt 61 t6 3) fun t72 =>
 yieldS prog S12 (loadAt 59 t72) fun t73 =>
 yieldS prog S12 (fieldAt 61 t6 3) fun t76 =>
 yieldS prog S12 (loadAt 59 t76) fun t77 =>
 yieldS prog S12 (indexAt 59 t77 t8) fun t79 =>
 yieldS prog S12 (loadAt 94 t79) fun t80 =>
 yieldS prog S12 (fieldAt 61 t6 3) fun t81 =>
 yieldS prog S12 (loadAt 59 t81) fun t82 =>
 yieldS prog S12 (fieldAt 61 t6 2) fun t83 =>
 yieldS prog S12 (loadAt 58 t83) fun t84 =>
 callD prog 48 #[t9, t80, t82, t84] w fun t85 w =>
 S12 w ∧
 yieldS prog S12 (indexAt 59 t73 t8) fun t86 =>
 yieldS prog S12 (fieldAt 94 t86 3) fun t87 =>
 U prog (storeAt 92 t87 t85) w fun _ w =>
 V prog (binOp .add 3 t8 (i64 1)) w fun t48 w =>
 I1 t48 w ∧ μ1 t48 w < μ1 t8 w33) (
 V prog (loadAt 61 t6) w34 fun t88 w =>
 U prog (storeAt 61 t4 t88) w fun _ w =>
 ∃ r1, (loadVar 61 (match t4 with | .pointer (some p) => p | _ => ⟨0, 0, none⟩)).run prog w = .ok r1 w ∧ (∃ p, t4 = Value.pointer (some p)) ∧ R r1 w)
theorem F29_wp (h : F29_den t0 t1 w R) : callD prog 29 #[t0, t1] w R :=
  den_wp mixed F29_ann func29 (by kernel_rfl) (by kernel_rfl) h
def F30_ann : Ann := (q (q (q (q (.seq (q (.cond (q .leaf) .leaf)) (q (.join ([11] ++ rg 37 119) [11] (q (.block (q (.cond .leaf (q (.cond .leaf (q (.cond (.draw [0, 0, 0, 6, 9, 0, 0, 64, 160, 272, 1023] [0, 0, 0, 6, 9, 0, 0, 64, 160, 272, 546] 0 11 2047 (tk ([1, 2, 3] ++ rg 5 8) (.only 0 (.only 4 (.only 9 (.take 10 .done)))))) (q (.cond (.draw [0, 0, 0, 6, 9, 0, 0, 96, 128, 256, 528, 0, 0, 6144, 9216, 32767] [0, 0, 0, 6, 9, 0, 0, 96, 128, 256, 528, 0, 0, 6144, 9216, 18466] 0 16 65535 (tk ([1, 2, 3] ++ rg 5 8 ++ [11, 12, 13]) (.two 0 9 (.two 4 9 (.only 9 (.only 10 (.only 14 (.take 15 .done)))) (.only 4 (.only 10 (.only 14 (.take 15 .done))))) (.only 0 (.only 4 (.only 10 (.only 14 (.take 15 .done)))))))) (q (.cond .leaf (q (.cond .leaf (q (.cond .leaf (q (.cond .leaf (q (.cond .leaf .leaf)))))))))))))))))))) (q (q (q .leaf))))))))))
def F30_den (t0 t1 t2 t3 : Value) (w : World) (R : Value → World → Prop) : Prop :=
 V prog (box 61 t0) w fun t4 w =>
 V prog (alloc 61 true (.tuple #[])) w fun t8 w =>
 V prog (buildSlice 59 0 #[]) w fun t13 w =>
 V prog (fieldAt 61 t4 3) w fun t14 w =>
 V prog (loadAt 59 t14) w fun t15 w =>
 V prog (Builtin.append_ #[59, 59] 59 #[t13, t15]) w fun t16 w =>
 V prog (Builtin.len_ #[59] 3 #[t16]) w fun t19 w =>
 callD prog 9 #[t2, t19] w fun t20 w =>
 V prog (buildSlice 92 0 #[]) w fun t21 w =>
 V prog (indexAt 59 t16 t20) w fun t24 w =>
 V prog (fieldAt 94 t24 3) w fun t25 w =>
 V prog (loadAt 92 t25) w fun t26 w =>
 V prog (Builtin.append_ #[92, 92] 92 #[t21, t26]) w fun t27 w =>
 V prog (Builtin.len_ #[92] 3 #[t27]) w fun t29 w =>
 V prog (do eqGuard .eql 3 (.tmp 29) (.const (i64 0)) t29 (i64 0); binOp .eql 3 t29 (i64 0)) w fun t30 w15 =>
 ifD t30 (
 V prog (loadAt 61 t4) w15 fun t31 w =>
 U prog (storeAt 61 t8 t31) w fun _ w =>
 ∃ r1, (loadVar 61 (match t8 with | .pointer (some p) => p | _ => ⟨0, 0, none⟩)).run prog w = .ok r1 w ∧ (∃ p, t8 = Value.pointer (some p)) ∧ R r1 w) (
 V prog (binOp .quo 3 t2 (i64 7)) w15 fun t33 w =>
 V prog (Builtin.len_ #[92] 3 #[t27]) w fun t35 w =>
 callD prog 9 #[t33, t35] w fun t36 w =>
 ∃ J1 : NP 1,
 (callD prog 9 #[t1, (i64 14)] w fun t38 w =>
 V prog (do eqGuard .eql 3 (.tmp 38) (.const (i64 0)) t38 (i64 0); binOp .eql 3 t38 (i64 0)) w fun t40 w22 =>
 ifD t40 (
 callD prog 9 #[t3, (i64 39)] w22 fun t44 w =>
 V prog (binOp .add 3 (i64 1) t44) w fun t45 w =>
 V prog (indexAt 92 t27 t36) w fun t46 w =>
 V prog (fieldAt 97 t46 0) w fun t47 w =>
 U prog (storeAt 3 t47 t45) w fun _ w =>
 J1 t27 w) (
 V prog (do eqGuard .eql 3 (.tmp 38) (.const (i64 1)) t38 (i64 1); binOp .eql 3 t38 (i64 1)) w22 fun t49 w28 =>
 ifD t49 (
 callD prog 9 #[t3, (i64 12)] w28 fun t53 w =>
 V prog (indexAt 92 t27 t36) w fun t54 w =>
 V prog (fieldAt 97 t54 1) w fun t55 w =>
 U prog (storeAt 3 t55 t53) w fun _ w =>
 J1 t27 w) (
 V prog (do eqGuard .eql 3 (.tmp 38) (.const (i64 2)) t38 (i64 2); binOp .eql 3 t38 (i64 2)) w28 fun t57 w33 =>
 ifD t57 (
 drawD w33 fun S13 w =>
 yieldS prog S13 (sliceAt 92 t27 none (some t36) none) fun t61 =>
 yieldS prog S13 (binOp .add 3 t36 (i64 1)) fun t65 =>
 yieldS prog S13 (sliceAt 92 t27 (some t65) none none) fun t66 =>
 V prog (buildSlice 92 0 #[]) w fun t58 w =>
 S13 w ∧
 V prog (Builtin.append_ #[92, 92] 92 #[t58, t61]) w fun t62 w =>
 S13 w ∧
 V prog (Builtin.append_ #[92, 92] 92 #[t62, t66]) w fun t67 w =>
 S13 w ∧
 J1 t67 w) (
 V prog (do eqGuard .eql 3 (.tmp 38) (.const (i64 3)) t38 (i64 3); binOp .eql 3 t38 (i64 3)) w33 fun t69 w38 =>
 ifD t69 (
 drawD w38 fun S15 w39 =>
 yieldS prog S15 (sliceAt 92 t27 none (some t36) none) fun t73 =>
 yieldS prog S15 (indexAt 92 t27 t36) fun t77 =>
 yieldS prog S15 (loadAt 97 t77) fun t78 =>
 yieldS prog S15 (sliceAt 92 t27 (some t36) none none) fun t83 =>
 (V prog (buildSlice 92 0 #[]) w39 fun t70 w40 =>
 S15 w40 ∧
 (V prog (Builtin.append_ #[92, 92] 92 #[t70, t73]) w40 fun t74 w =>
 S15 w ∧
 V prog (buildSlice 92 1 #[(0, t78)]) w fun t79 w =>
 S15 w ∧
 V prog (Builtin.append_ #[92, 92] 92 #[t74, t79]) w fun t80 w =>
 S15 w ∧
 V prog (Builtin.append_ #[92, 92] 92 #[t80, t83]) w fun t84 w =>
 S15 w ∧
 J1 t84 w) ∧
 (V prog (buildSlice 92 1 #[(0, t78)]) w40 fun t79_1 w =>
 S15 w ∧
 V prog (Builtin.append_ #[92, 92] 92 #[t70, t73]) w fun t74_1 w =>
 S15 w ∧
 V prog (Builtin.append_ #[92, 92] 92 #[t74_1, t79_1]) w fun t80_1 w =>
 S15 w ∧
 V prog (Builtin.append_ #[92, 92] 92 #[t80_1, t83]) w fun t84_1 w =>
 S15 w ∧
 J1 t84_1 w)) ∧
 (V prog (buildSlice 92 1 #[(0, t78)]) w39 fun t79_2 w =>
 S15 w ∧
 V prog (buildSlice 92 0 #[]) w fun t70_1 w =>
 S15 w ∧
 V prog (Builtin.append_ #[92, 92] 92 #[t70_1, t73]) w fun t74_2 w =>
 S15 w ∧
 V prog (Builtin.append_ #[92, 92] 92 #[t74_2, t79_2]) w fun t80_2 w =>
 S15 w ∧
 V prog (Builtin.append_ #[92, 92] 92 #[t80_2, t83]) w fun t84_2 w =>
 S15 w ∧
 J1 t84_2 w)) (
 V prog (do eqGuard .eql 3 (.tmp 38) (.const (i64 4)) t38 (i64 4); binOp .eql 3 t38 (i64 4)) w38 fun t86 w54 =>
 ifD t86 (
 V prog (build 97 #[(0, (i64 35)), (1, (i64 2))]) w54 fun t89 w =>
 V prog (indexAt 92 t27 t36) w fun t90 w =>
 U prog (storeAt 97 t90 t89) w fun _ w =>
 J1 t27 w) (
 V prog (do eqGuard .eql 3 (.tmp 38) (.const (i64 5)) t38 (i64 5); binOp .eql 3 t38 (i64 5)) w54 fun t92 w58 =>
 ifD t92 (
 V prog (Builtin.len_ #[92] 3 #[t27]) w58 fun t97 w =>
 callD prog 9 #[t3, t97] w fun t98 w =>
 V prog (build 97 #[(0, (i64 23)), (1, t98)]) w fun t99 w =>
 V prog (indexAt 92 t27 t36) w fun t100 w =>
 U prog (storeAt 97 t100 t99) w fun _ w =>
 J1 t27 w) (
 V prog (do eqGuard .eql 3 (.tmp 38) (.const (i64 6)) t38 (i64 6); binOp .eql 3 t38 (i64 6)) w58 fun t102 w64 =>
 ifD t102 (
 V prog (build 97 #[(0, (i64 4))]) w64 fun t105 w =>
 V prog (indexAt 92 t27 t36) w fun t106 w =>
 U prog (storeAt 97 t106 t105) w fun _ w =>
 J1 t27 w) (
 V prog (do eqGuard .eql 3 (.tmp 38) (.const (i64 7)) t38 (i64 7); binOp .eql 3 t38 (i64 7)) w64 fun t108 w68 =>
 ifD t108 (
 V prog (sliceAt 92 t27 none (some t36) none) w68 fun t111 w =>
 J1 t111 w) (
 V prog (do eqGuard .eql 3 (.tmp 38) (.const (i64 8)) t38 (i64 8); binOp .eql 3 t38 (i64 8)) w68 fun t113 w70 =>
 ifD t113 (
 callD prog 9 #[t3, (i64 5)] w70 fun t117 w =>
 V prog (build 97 #[(0, (i64 33)), (1, t117)]) w fun t118 w =>
 V prog (indexAt 92 t27 t36) w fun t119 w =>
 U prog (storeAt 97 t119 t118) w fun _ w =>
 J1 t27 w) (
 J1 t27 w70)))))))))) ∧
 ∀ (t11 : Value), ∀ w : World, J1 t11 w → ∀ _f : Env,
 V prog (indexAt 59 t16 t20) w fun t123 w =>
 V prog (fieldAt 94 t123 3) w fun t124 w =>
 U prog (storeAt 92 t124 t11) w fun _ w =>
 V prog (fieldAt 61 t4 3) w fun t126 w =>
 U prog (storeAt 59 t126 t16) w fun _ w =>
 V prog (loadAt 61 t4) w fun t127 w =>
 U prog (storeAt 61 t8 t127) w fun _ w =>
 ∃ r1, (loadVar 61 (match t8 with | .pointer (some p) => p | _ => ⟨0, 0, none⟩)).run prog w = .ok r1 w ∧ (∃ p, t8 = Value.pointer (some p)) ∧ R r1 w)
theorem F30_wp (h : F30_den t0 t1 t2 t3 w R) : callD prog 30 #[t0, t1, t2, t3] w R :=
  den_wp mixed F30_ann func30 (by kernel_rfl) (by kernel_rfl) h
def F31_ann : Ann := (q (.seq (q (.cond (q .leaf) .leaf)) (.seq (q (.block (.loop (rg 3 8 ++ rg 13 33) [4] (.seq (q (.cond .leaf .leaf)) (.seq (.block (q (q (.cond (q .leaf) .leaf)))) .leaf))))) (q .leaf))))
def F31_den (t0 : Value) (w : World) (R : Value → World → Prop) : Prop :=
 V prog (box 61 t0) w fun t1 w =>
 V prog (alloc 65 true (.tuple #[])) w fun t2 w =>
 V prog (loadAt 61 t1) w fun t9 w =>
 callD prog 49 #[t9] w fun t10 w =>
 V prog (Op.unary UnOp.not t10) w fun t11 w5 =>
 ifD t11 (
 V prog (build 65 #[]) w5 fun t12 w =>
 U prog (storeAt 65 t2 t12) w fun _ w =>
 ∃ r1, (loadVar 65 (match t2 with | .pointer (some p) => p | _ => ⟨0, 0, none⟩)).run prog w = .ok r1 w ∧ (∃ p, t2 = Value.pointer (some p)) ∧ R (.tuple #[r1, (i64 1)]) w) (
 ∃ (I1 : NP 1) (μ1 : NF 1), I1 (i64 0) w5 ∧
 ∀ (t4 : Value), ∀ w8 : World, I1 t4 w8 → ∀ _f : Env,
 V prog (fieldAt 61 t1 3) w8 fun t14 w =>
 V prog (loadAt 59 t14) w fun t15 w =>
 V prog (Builtin.len_ #[59] 3 #[t15]) w fun t16 w =>
 V prog (binOp .lss 3 t4 t16) w fun t17 w12 =>
 ifD t17 (
 V prog (loadAt 61 t1) w12 fun t21 w =>
 callD prog 50 #[t21, t4] w fun t23 w =>
 V prog (extract t23 0) w fun _ w =>
 V prog (extract t23 1) w fun _ w =>
 V prog (extract t23 2) w fun t26 w =>
 V prog (extract t23 3) w fun t27 w =>
 V prog (do eqGuard .neq 48 (.tmp 28) (.const (i64 0)) t27 (i64 0); binOp .neq 48 t27 (i64 0)) w fun t29 w19 =>
 ifD t29 (
 V prog (build 65 #[(0, t4), (1, t26)]) w19 fun t32 w =>
 U prog (storeAt 65 t2 t32) w fun _ w =>
 ∃ r1, (loadVar 65 (match t2 with | .pointer (some p) => p | _ => ⟨0, 0, none⟩)).run prog w = .ok r1 w ∧ (∃ p, t2 = Value.pointer (some p)) ∧ R (.tuple #[r1, t27]) w) (
 V prog (binOp .add 3 t4 (i64 1)) w19 fun t19 w =>
 I1 t19 w ∧ μ1 t19 w < μ1 t4 w8)) (
 V prog (build 65 #[]) w12 fun t34 w =>
 U prog (storeAt 65 t2 t34) w fun _ w =>
 ∃ r1, (loadVar 65 (match t2 with | .pointer (some p) => p | _ => ⟨0, 0, none⟩)).run prog w = .ok r1 w ∧ (∃ p, t2 = Value.pointer (some p)) ∧ R (.tuple #[r1, (i64 0)]) w))
theorem F31_wp (h : F31_den t0 w R) : callD prog 31 #[t0] w R :=
  den_wp mixed F31_ann func31 (by kernel_rfl) (by kernel_rfl) h
def F32_ann : Ann := (q (.seq (q (.cond (q .leaf) .leaf)) (q (q (q (q (q (q (.seq (q (.block (.loop ([5, 6] ++ rg 35 63) [5] (.seq (q (.cond .leaf .leaf)) (.seq (.block (q (q (q (q .leaf))))) .leaf))))) (q (.seq (q (.block (.loop ([7, 8, 9] ++ rg 69 111) [7] (.seq (q (.cond .leaf .leaf)) (.seq (.block (q (q (q (q (q (q (.block (.loop ([9] ++ rg 98 111) [9] (.seq (q (.cond .leaf .leaf)) (.seq (.block .leaf) .leaf))))))))))) .leaf))))) (q (q .leaf)))))))))))))
def F32_den (t0 : Value) (w : World) (R : Value → World → Prop) : Prop :=
 V prog (box 61 t0) w fun t1 w =>
 V prog (loadAt 61 t1) w fun t10 w =>
 callD prog 49 #[t10] w fun t11 w =>
 V prog (Op.unary UnOp.not t11) w fun t12 w =>
 ifD t12 (
 R (.tuple #[nilS, (i64 1)]) w) (
 V prog (build 105 #[]) w fun t13 w =>
 V prog (box 105 t13) w fun t14 w =>
 V prog (buildSlice 23 4 #[(0, (Value.int IntKind.u8 84)), (1, (Value.int IntKind.u8 65)), (2, (Value.int IntKind.u8 67)), (3, (Value.int IntKind.u8 73))]) w fun t16 w =>
 V prog (convert 23 23 t16) w fun t17 w =>
 callD prog 51 #[t14, t17] w fun _ w =>
 callD prog 52 #[t14, (i64 1)] w fun _ w =>
 V prog (fieldAt 61 t1 0) w fun t22 w =>
 V prog (loadAt 9 t22) w fun t23 w =>
 V prog (convert 9 23 t23) w fun t24 w =>
 callD prog 53 #[t14, t24] w fun _ w =>
 V prog (fieldAt 61 t1 1) w fun t27 w =>
 V prog (loadAt 57 t27) w fun t28 w =>
 callD prog 54 #[t14, t28] w fun _ w =>
 V prog (fieldAt 61 t1 2) w fun t31 w =>
 V prog (loadAt 58 t31) w fun t32 w =>
 V prog (Builtin.len_ #[58] 3 #[t32]) w fun t33 w =>
 callD prog 52 #[t14, t33] w fun _ w =>
 ∃ (I1 : NP 1) (μ1 : NF 1), I1 (i64 0) w ∧
 ∀ (t5 : Value), ∀ w22 : World, I1 t5 w22 → ∀ _f : Env,
 V prog (fieldAt 61 t1 2) w22 fun t36 w =>
 V prog (loadAt 58 t36) w fun t37 w =>
 V prog (Builtin.len_ #[58] 3 #[t37]) w fun t38 w =>
 V prog (binOp .lss 3 t5 t38) w fun t39 w26 =>
 ifD t39 (
 V prog (fieldAt 61 t1 2) w26 fun t42 w =>
 V prog (loadAt 58 t42) w fun t43 w =>
 V prog (indexAt 58 t43 t5) w fun t45 w =>
 V prog (loadAt 91 t45) w fun t46 w =>
 V prog (alloc 91 true (.tuple #[])) w fun t6 w =>
 U prog (storeAt 91 t6 t46) w fun _ w =>
 V prog (fieldAt 91 t6 0) w fun t48 w =>
 V prog (loadAt 9 t48) w fun t49 w =>
 V prog (convert 9 23 t49) w fun t50 w =>
 callD prog 53 #[t14, t50] w fun _ w =>
 V prog (fieldAt 91 t6 1) w fun t53 w =>
 V prog (loadAt 3 t53) w fun t54 w =>
 callD prog 52 #[t14, t54] w fun _ w =>
 V prog (fieldAt 91 t6 2) w fun t57 w =>
 V prog (loadAt 57 t57) w fun t58 w =>
 callD prog 54 #[t14, t58] w fun _ w =>
 V prog (fieldAt 91 t6 3) w fun t61 w =>
 V prog (loadAt 3 t61) w fun t62 w =>
 callD prog 52 #[t14, t62] w fun _ w =>
 V prog (binOp .add 3 t5 (i64 1)) w fun t41 w =>
 I1 t41 w ∧ μ1 t41 w < μ1 t5 w22) (
 V prog (fieldAt 61 t1 3) w26 fun t65 w =>
 V prog (loadAt 59 t65) w fun t66 w =>
 V prog (Builtin.len_ #[59] 3 #[t66]) w fun t67 w =>
 callD prog 52 #[t14, t67] w fun _ w =>
 ∃ (I2 : NP 1) (μ2 : NF 1), I2 (i64 0) w ∧
 ∀ (t7 : Value), ∀ w51 : World, I2 t7 w51 → ∀ _f : Env,
 V prog (fieldAt 61 t1 3) w51 fun t70 w =>
 V prog (loadAt 59 t70) w fun t71 w =>
 V prog (Builtin.len_ #[59] 3 #[t71]) w fun t72 w =>
 V prog (binOp .lss 3 t7 t72) w fun t73 w55 =>
 ifD t73 (
 V prog (fieldAt 61 t1 3) w55 fun t76 w =>
 V prog (loadAt 59 t76) w fun t77 w =>
 V prog (indexAt 59 t77 t7) w fun t79 w =>
 V prog (loadAt 94 t79) w fun t80 w =>
 V prog (alloc 94 true (.tuple #[])) w fun t8 w =>
 U prog (storeAt 94 t8 t80) w fun _ w =>
 V prog (fieldAt 94 t8 0) w fun t82 w =>
 V prog (loadAt 57 t82) w fun t83 w =>
 callD prog 54 #[t14, t83] w fun _ w =>
 V prog (fieldAt 94 t8 1) w fun t86 w =>
 V prog (loadAt 3 t86) w fun t87 w =>
 callD prog 52 #[t14, t87] w fun _ w =>
 V prog (fieldAt 94 t8 2) w fun t90 w =>
 V prog (loadAt 57 t90) w fun t91 w =>
 callD prog 54 #[t14, t91] w fun _ w =>
 V prog (fieldAt 94 t8 3) w fun t94 w =>
 V prog (loadAt 92 t94) w fun t95 w =>
 V prog (Builtin.len_ #[92] 3 #[t95]) w fun t96 w =>
 callD prog 52 #[t14, t96] w fun _ w =>
 ∃ (I3 : NP 1) (μ3 : NF 1), I3 (i64 0) w ∧
 ∀ (t9 : Value), ∀ w75 : World, I3 t9 w75 → ∀ _f : Env,
 V prog (fieldAt 94 t8 3) w75 fun t99 w =>
 V prog (loadAt 92 t99) w fun t100 w =>
 V prog (Builtin.len_ #[92] 3 #[t100]) w fun t101 w =>
 V prog (binOp .lss 3 t9 t101) w fun t102 w79 =>
 ifD t102 (
 V prog (fieldAt 94 t8 3) w79 fun t106 w =>
 V prog (loadAt 92 t106) w fun t107 w =>
 V prog (indexAt 92 t107 t9) w fun t109 w =>
 V prog (loadAt 97 t109) w fun t110 w =>
 callD prog 55 #[t14, t110] w fun _ w =>
 V prog (binOp .add 3 t9 (i64 1)) w fun t104 w =>
 I3 t104 w ∧ μ3 t104 w < μ3 t9 w75) (
 V prog (binOp .add 3 t7 (i64 1)) w79 fun t75 w =>
 I2 t75 w ∧ μ2 t75 w < μ2 t7 w51)) (
 V prog (fieldAt 61 t1 4) w55 fun t113 w =>
 V prog (loadAt 57 t113) w fun t114 w =>
 callD prog 54 #[t14, t114] w fun _ w =>
 Go.Vc.Safe (t14) ∧
 V prog (fieldAt 105 t14 0) w fun t118 w =>
 V prog (loadAt 23 t118) w fun t119 w =>
 R (.tuple #[t119, (i64 0)]) w)))
theorem F32_wp (h : F32_den t0 w R) : callD prog 32 #[t0] w R :=
  den_wp mixed F32_ann func32 (by kernel_rfl) (by kernel_rfl) h
def F33_ann : Ann := (q (q .leaf))
def F33_den (t0 : Value) (w : World) (R : Value → World → Prop) : Prop :=
 V prog (build 110 #[(0, (Value.string { data := #[97, 108, 112, 104, 97] })), (1, (Value.string { data := #[98, 195, 169, 116, 97] })), (2, (Value.string { data := #[103, 45, 49] })), (3, (Value.string { data := #[100, 46, 195, 191] }))]) w fun t3 w =>
 callD prog 9 #[t0, (i64 4)] w fun t5 w =>
 V prog (index 110 t3 t5) w fun t6 w =>
 R t6 w
theorem F33_wp (h : F33_den t0 w R) : callD prog 33 #[t0] w R :=
  den_wp mixed F33_ann func33 (by kernel_rfl) (by kernel_rfl) h
def F34_ann : Ann := (q (q .leaf))
def F34_den (t0 t1 : Value) (w : World) (R : Value → World → Prop) : Prop :=
 V prog (buildSlice 23 0 #[]) w fun t5 w =>
 V prog (Builtin.len_ #[23] 3 #[t0]) w fun t8 w =>
 V prog (Builtin.min_ #[3, 3] 3 #[t8, t1]) w fun t10 w =>
 V prog (sliceAt 23 t0 none (some t10) none) w fun t11 w =>
 V prog (Builtin.append_ #[23, 23] 23 #[t5, t11]) w fun t12 w =>
 R t12 w
theorem F34_wp (h : F34_den t0 t1 w R) : callD prog 34 #[t0, t1] w R :=
  den_wp mixed F34_ann func34 (by kernel_rfl) (by kernel_rfl) h
def F37_ann : Ann := (q (.seq (.block (.loop ([0] ++ rg 2 168) [0] (.seq (q (.cond .leaf .leaf)) (.block (q (.seq (q (.cond (q (.join ([0] ++ rg 16 64) [0] (q (.cond (q (.seq (.draw [0, 1, 2, 4, 8, 24, 8, 72, 168, 296, 520, 1032, 2056] [0, 1, 2, 4, 8, 24, 8, 72, 136, 296, 520, 1032, 2056] 0 13 8191 (tk (rg 0 4 ++ [6, 7]) (.only 5 (.only 8 (tk (rg 9 12) .done))))) (.cond (q (.block (.loop ([0] ++ rg 42 64) [0] (.seq (.seq (.draw [0, 1, 2, 4, 8, 24, 8, 72, 168, 296, 8, 1032, 2312, 8, 8200, 20488, 36872, 66056, 131080, 262152, 524296] [0, 1, 2, 4, 8, 24, 8, 72, 136, 296, 8, 1032, 2056, 8, 8200, 16392, 36872, 66056, 131080, 262152, 524296] 0 21 2097151 (tk (rg 0 4 ++ [6, 7, 10, 11, 13, 14]) (.only 5 (.only 8 (.take 9 (.only 12 (.only 15 (tk (rg 16 20) .done)))))))) (.cond .leaf .leaf)) (.block .leaf))))) .leaf))) .leaf)) .leaf)) .leaf)) (q (q (q (q (.block (q (.cond (.seq (.seq (.draw [0, 1, 2, 4, 8, 24, 8, 72, 168, 264, 520, 1024, 3072, 1024, 9216, 21504, 33792] [0, 1, 2, 4, 8, 24, 8, 72, 168, 264, 512, 1024, 3072, 1024, 9216, 21504, 33792] 0 17 131071 (tk (rg 0 16) .done)) (.cond (q .leaf) .leaf)) .leaf) (q (.cond (.seq (.seq (.draw [0, 1, 2, 4, 8, 24, 8, 72, 168, 264, 520, 1024, 3072, 1024, 9216, 21504, 33792, 66560, 131072, 393216, 655360, 1179648, 2228224, 4194304, 12582912, 20971520, 37748736] [0, 1, 2, 4, 8, 24, 8, 72, 168, 264, 512, 1024, 3072, 1024, 9216, 21504, 33792, 65536, 131072, 393216, 655360, 1179648, 2097152, 4194304, 12582912, 20971520, 37748736] 0 27 134217727 (tk (rg 0 26) .done)) (.cond (q .leaf) .leaf)) .leaf) (q (.cond (.seq (.seq (.draw [0, 1, 2, 4, 8, 24, 8, 72, 168, 264, 520, 1024, 3072, 1024, 9216, 21504, 33792, 66560, 131072, 393216, 655360, 1179648, 2228224, 4194304, 12582912, 20971520, 37748736, 71303168, 134217728, 402653184, 671088640, 1207959552, 2281701376, 4294967296, 12884901888, 21474836480, 38654705664] [0, 1, 2, 4, 8, 24, 8, 72, 168, 264, 512, 1024, 3072, 1024, 9216, 21504, 33792, 65536, 131072, 393216, 655360, 1179648, 2097152, 4194304, 12582912, 20971520, 37748736, 67108864, 134217728, 402653184, 671088640, 1207959552, 2147483648, 4294967296, 12884901888, 21474836480, 38654705664] 0 37 137438953471 (tk (rg 0 36) .done)) (.cond (q .leaf) .leaf)) .leaf) (q .leaf)))))))))))))))))) (q .leaf)))
def F37_den (t0 : Value) (w : World) (R : Value → World → Prop) : Prop :=
 ∃ (I1 : NP 1) (μ1 : NF 1), I1 t0 w ∧
 ∀ (t0_1 : Value), ∀ w1 : World, I1 t0_1 w1 → ∀ _f : Env,
 V prog (Builtin.len_ #[9] 3 #[t0_1]) w1 fun t8 w =>
 V prog (binOp .gtr 3 t8 (i64 0)) w fun t9 w3 =>
 ifD t9 (
 V prog (index 9 t0_1 (i64 0)) w3 fun t11 w =>
 V prog (binOp .lss 5 t11 (Value.int IntKind.u8 128)) w fun t13 w5 =>
 ifD t13 (
 V prog (sliceAt 9 t0_1 (some (i64 1)) none none) w5 fun t15 w =>
 ∃ J2 : NP 1,
 (V prog (Builtin.len_ #[9] 3 #[t15]) w fun t17 w =>
 V prog (binOp .gtr 3 t17 (i64 8)) w fun t18 w =>
 gd t18 true (fun K => K t15 w) w fun t20 w =>
 gd t18 true (fun K => callD prog 57 #[t20] w K) w fun t21 w =>
 gd t18 true (fun K => V prog (binOp .and 12 t21 (Value.int IntKind.u64 9259542123273814144)) w K) w fun t22 w =>
 gd t18 true (fun K => V prog (do eqGuard .eql 12 (.tmp 22) (.const (Value.int IntKind.u64 0)) t22 (Value.int IntKind.u64 0); binOp .eql 12 t22 (Value.int IntKind.u64 0)) w K) w fun t23 w12 =>
 pickD t18 t23 (.bool false) fun t24 =>
 ifD t24 (
 V prog (sliceAt 9 t15 (some (i64 8)) none none) w12 fun t26 w =>
 drawD w fun S7 w =>
 yieldS prog S7 (Builtin.len_ #[9] 3 #[t26]) fun t28 =>
 yieldS prog S7 (binOp .gtr 3 t28 (i64 16)) fun t29 =>
 gdY t29 true (fun K => K t26) fun t31 =>
 gdY t29 true (fun K => K t26) fun t33 =>
 gdY t29 true (fun K => yieldS prog S7 (sliceAt 9 t33 (some (i64 8)) none none) K) fun t34 =>
 gd t29 true (fun K => callD prog 57 #[t31] w K) w fun t32 w =>
 S7 w ∧
 gd t29 true (fun K => callD prog 57 #[t34] w K) w fun t35 w17 =>
 S7 w17 ∧
 gdY t29 true (fun K => yieldS prog S7 (binOp .or 12 t32 t35) K) fun t36 =>
 gdY t29 true (fun K => yieldS prog S7 (binOp .and 12 t36 (Value.int IntKind.u64 9259542123273814144)) K) fun t37 =>
 gdY t29 true (fun K => yieldS prog S7 (do eqGuard .eql 12 (.tmp 37) (.const (Value.int IntKind.u64 0)) t37 (Value.int IntKind.u64 0); binOp .eql 12 t37 (Value.int IntKind.u64 0)) K) fun t38 =>
 pickD t29 t38 (.bool false) fun t39 =>
 ifD t39 (
 V prog (sliceAt 9 t26 (some (i64 16)) none none) w17 fun t41 w =>
 ∃ (I3 : NP 1) (μ3 : NF 1), I3 t41 w ∧
 ∀ (t0_2 : Value), ∀ w19 : World, I3 t0_2 w19 → ∀ _f : Env,
 drawD w19 fun S9 w =>
 yieldS prog S9 (Builtin.len_ #[9] 3 #[t0_2]) fun t43 =>
 yieldS prog S9 (binOp .gtr 3 t43 (i64 32)) fun t44 =>
 gdY t44 true (fun K => K t0_2) fun t46 =>
 gdY t44 true (fun K => K t0_2) fun t48 =>
 gdY t44 true (fun K => yieldS prog S9 (sliceAt 9 t48 (some (i64 8)) none none) K) fun t49 =>
 gdY t44 true (fun K => K t0_2) fun t52 =>
 gdY t44 true (fun K => yieldS prog S9 (sliceAt 9 t52 (some (i64 16)) none none) K) fun t53 =>
 gdY t44 true (fun K => K t0_2) fun t55 =>
 gdY t44 true (fun K => yieldS prog S9 (sliceAt 9 t55 (some (i64 24)) none none) K) fun t56 =>
 gd t44 true (fun K => callD prog 57 #[t46] w K) w fun t47 w =>
 S9 w ∧
 gd t44 true (fun K => callD prog 57 #[t49] w K) w fun t50 w =>
 S9 w ∧
 gdY t44 true (fun K => yieldS prog S9 (binOp .or 12 t47 t50) K) fun t51 =>
 gd t44 true (fun K => callD prog 57 #[t53] w K) w fun t54 w =>
 S9 w ∧
 gd t44 true (fun K => callD prog 57 #[t56] w K) w fun t57 w24 =>
 S9 w24 ∧
 gdY t44 true (fun K => yieldS prog S9 (binOp .or 12 t54 t57) K) fun t58 =>
 gdY t44 true (fun K => yieldS prog S9 (binOp .or 12 t51 t58) K) fun t59 =>
 gdY t44 true (fun K => yieldS prog S9 (binOp .and 12 t59 (Value.int IntKind.u64 9259542123273814144)) K) fun t60 =>
 gdY t44 true (fun K => yieldS prog S9 (do eqGuard .eql 12 (.tmp 60) (.const (Value.int IntKind.u64 0)) t60 (Value.int IntKind.u64 0); binOp .eql 12 t60 (Value.int IntKind.u64 0)) K) fun t61 =>
 pickD t44 t61 (.bool false) fun t62 =>
 ifD t62 (
 V prog (sliceAt 9 t0_2 (some (i64 32)) none none) w24 fun t64 w =>
 I3 t64 w ∧ μ3 t64 w < μ3 t0_2 w19) (
 J2 t0_2 w24)) (
 J2 t26 w17)) (
 J2 t15 w12)) ∧
 ∀ (t0_3 : Value), ∀ w : World, J2 t0_3 w → ∀ _f : Env,
 I1 t0_3 w ∧ μ1 t0_3 w < μ1 t0_1 w1) (
 V prog (indexAt 113 (Value.pointer (some ⟨0, 0, none⟩)) t11) w5 fun t66 w =>
 V prog (loadAt 5 t66) w fun t67 w =>
 V prog (binOp .and 5 t67 (Value.int IntKind.u8 7)) w fun t69 w =>
 V prog (convert 5 3 t69) w fun t70 w =>
 V prog (binOp .shr 5 t67 (Value.int IntKind.u64 4)) w fun t72 w =>
 V prog (indexAt 116 (Value.pointer (some ⟨1, 0, none⟩)) t72) w fun t73 w =>
 V prog (loadAt 115 t73) w fun t74 w =>
 V prog (alloc 115 true (.tuple #[])) w fun t6 w =>
 U prog (storeAt 115 t6 t74) w fun _ w =>
 V prog (do eqGuard .eql 3 (.tmp 75) (.const (i64 2)) t70 (i64 2); binOp .eql 3 t70 (i64 2)) w fun t77 w36 =>
 ifD t77 (
 drawD w36 fun S17 w =>
 yieldS prog S17 (Builtin.len_ #[9] 3 #[t0_1]) fun t79 =>
 yieldS prog S17 (binOp .lss 3 t79 (i64 2)) fun t80 =>
 gdY t80 false (fun K => K t0_1) fun t82 =>
 gdY t80 false (fun K => yieldS prog S17 (index 9 t82 (i64 1)) K) fun t83 =>
 gdY t80 false (fun K => yieldS prog S17 (fieldAt 115 t6 0) K) fun t84 =>
 gdY t80 false (fun K => yieldS prog S17 (loadAt 5 t84) K) fun t85 =>
 gdY t80 false (fun K => yieldS prog S17 (binOp .lss 5 t83 t85) K) fun t86 =>
 pickD t80 (.bool true) t86 fun t87 =>
 gdY t87 false (fun K => yieldS prog S17 (fieldAt 115 t6 1) K) fun t89 =>
 gdY t87 false (fun K => yieldS prog S17 (loadAt 5 t89) K) fun t90 =>
 gdY t87 false (fun K => K t0_1) fun t91 =>
 gdY t87 false (fun K => yieldS prog S17 (index 9 t91 (i64 1)) K) fun t92 =>
 gdY t87 false (fun K => yieldS prog S17 (binOp .lss 5 t90 t92) K) fun t93 =>
 pickD t87 (.bool true) t93 fun t94 =>
 ifD t94 (
 R (.bool false) w) (
 V prog (sliceAt 9 t0_1 (some (i64 2)) none none) w fun t96 w =>
 I1 t96 w ∧ μ1 t96 w < μ1 t0_1 w1)) (
 V prog (do eqGuard .eql 3 (.tmp 75) (.const (i64 3)) t70 (i64 3); binOp .eql 3 t70 (i64 3)) w36 fun t98 w39 =>
 ifD t98 (
 drawD w39 fun S21 w =>
 yieldS prog S21 (Builtin.len_ #[9] 3 #[t0_1]) fun t100 =>
 yieldS prog S21 (binOp .lss 3 t100 (i64 3)) fun t101 =>
 gdY t101 false (fun K => K t0_1) fun t103 =>
 gdY t101 false (fun K => yieldS prog S21 (index 9 t103 (i64 1)) K) fun t104 =>
 gdY t101 false (fun K => yieldS prog S21 (fieldAt 115 t6 0) K) fun t105 =>
 gdY t101 false (fun K => yieldS prog S21 (loadAt 5 t105) K) fun t106 =>
 gdY t101 false (fun K => yieldS prog S21 (binOp .lss 5 t104 t106) K) fun t107 =>
 pickD t101 (.bool true) t107 fun t108 =>
 gdY t108 false (fun K => yieldS prog S21 (fieldAt 115 t6 1) K) fun t110 =>
 gdY t108 false (fun K => yieldS prog S21 (loadAt 5 t110) K) fun t111 =>
 gdY t108 false (fun K => K t0_1) fun t112 =>
 gdY t108 false (fun K => yieldS prog S21 (index 9 t112 (i64 1)) K) fun t113 =>
 gdY t108 false (fun K => yieldS prog S21 (binOp .lss 5 t111 t113) K) fun t114 =>
 pickD t108 (.bool true) t114 fun t115 =>
 gdY t115 false (fun K => K t0_1) fun t117 =>
 gdY t115 false (fun K => yieldS prog S21 (index 9 t117 (i64 2)) K) fun t118 =>
 gdY t115 false (fun K => yieldS prog S21 (binOp .lss 5 t118 (Value.int IntKind.u8 128)) K) fun t119 =>
 pickD t115 (.bool true) t119 fun t120 =>
 gdY t120 false (fun K => K t0_1) fun t122 =>
 gdY t120 false (fun K => yieldS prog S21 (index 9 t122 (i64 2)) K) fun t123 =>
 gdY t120 false (fun K => yieldS prog S21 (binOp .lss 5 (Value.int IntKind.u8 191) t123) K) fun t124 =>
 pickD t120 (.bool true) t124 fun t125 =>
 ifD t125 (
 R (.bool false) w) (
 V prog (sliceAt 9 t0_1 (some (i64 3)) none none) w fun t127 w =>
 I1 t127 w ∧ μ1 t127 w < μ1 t0_1 w1)) (
 V prog (do eqGuard .eql 3 (.tmp 75) (.const (i64 4)) t70 (i64 4); binOp .eql 3 t70 (i64 4)) w39 fun t129 w42 =>
 ifD t129 (
 drawD w42 fun S25 w =>
 yieldS prog S25 (Builtin.len_ #[9] 3 #[t0_1]) fun t131 =>
 yieldS prog S25 (binOp .lss 3 t131 (i64 4)) fun t132 =>
 gdY t132 false (fun K => K t0_1) fun t134 =>
 gdY t132 false (fun K => yieldS prog S25 (index 9 t134 (i64 1)) K) fun t135 =>
 gdY t132 false (fun K => yieldS prog S25 (fieldAt 115 t6 0) K) fun t136 =>
 gdY t132 false (fun K => yieldS prog S25 (loadAt 5 t136) K) fun t137 =>
 gdY t132 false (fun K => yieldS prog S25 (binOp .lss 5 t135 t137) K) fun t138 =>
 pickD t132 (.bool true) t138 fun t139 =>
 gdY t139 false (fun K => yieldS prog S25 (fieldAt 115 t6 1) K) fun t141 =>
 gdY t139 false (fun K => yieldS prog S25 (loadAt 5 t141) K) fun t142 =>
 gdY t139 false (fun K => K t0_1) fun t143 =>
 gdY t139 false (fun K => yieldS prog S25 (index 9 t143 (i64 1)) K) fun t144 =>
 gdY t139 false (fun K => yieldS prog S25 (binOp .lss 5 t142 t144) K) fun t145 =>
 pickD t139 (.bool true) t145 fun t146 =>
 gdY t146 false (fun K => K t0_1) fun t148 =>
 gdY t146 false (fun K => yieldS prog S25 (index 9 t148 (i64 2)) K) fun t149 =>
 gdY t146 false (fun K => yieldS prog S25 (binOp .lss 5 t149 (Value.int IntKind.u8 128)) K) fun t150 =>
 pickD t146 (.bool true) t150 fun t151 =>
 gdY t151 false (fun K => K t0_1) fun t153 =>
 gdY t151 false (fun K => yieldS prog S25 (index 9 t153 (i64 2)) K) fun t154 =>
 gdY t151 false (fun K => yieldS prog S25 (binOp .lss 5 (Value.int IntKind.u8 191) t154) K) fun t155 =>
 pickD t151 (.bool true) t155 fun t156 =>
 gdY t156 false (fun K => K t0_1) fun t158 =>
 gdY t156 false (fun K => yieldS prog S25 (index 9 t158 (i64 3)) K) fun t159 =>
 gdY t156 false (fun K => yieldS prog S25 (binOp .lss 5 t159 (Value.int IntKind.u8 128)) K) fun t160 =>
 pickD t156 (.bool true) t160 fun t161 =>
 gdY t161 false (fun K => K t0_1) fun t163 =>
 gdY t161 false (fun K => yieldS prog S25 (index 9 t163 (i64 3)) K) fun t164 =>
 gdY t161 false (fun K => yieldS prog S25 (binOp .lss 5 (Value.int IntKind.u8 191) t164) K) fun t165 =>
 pickD t161 (.bool true) t165 fun t166 =>
 ifD t166 (
 R (.bool false) w) (
 V prog (sliceAt 9 t0_1 (some (i64 4)) none none) w fun t168 w =>
 I1 t168 w ∧ μ1 t168 w < μ1 t0_1 w1)) (
 R (.bool false) w42))))) (
 R (.bool true) w3)
theorem F37_wp (h : F37_den t0 w R) : callD prog 37 #[t0] w R :=
  den_wp mixed F37_ann func37 (by kernel_rfl) (by kernel_rfl) h
def F38_ann : Ann := (q (q .leaf))
def F38_den (t0 : Value) (w : World) (R : Value → World → Prop) : Prop :=
 V prog (binOp .geq 21 t0 (Value.int IntKind.i32 97)) w fun t4 w =>
 gd t4 true (fun K => K t0 w) w fun t6 w =>
 gd t4 true (fun K => V prog (binOp .leq 21 t6 (Value.int IntKind.i32 122)) w K) w fun t7 w =>
 pickD t4 t7 (.bool false) fun t8 =>
 gd t8 false (fun K => K t0 w) w fun t10 w =>
 gd t8 false (fun K => V prog (binOp .geq 21 t10 (Value.int IntKind.i32 48)) w K) w fun t11 w =>
 gd t8 false (fun K => K t11 w) w fun t12 w =>
 gd t12 true (fun K => K t0 w) w fun t13 w =>
 gd t12 true (fun K => V prog (binOp .leq 21 t13 (Value.int IntKind.i32 57)) w K) w fun t14 w =>
 gd t8 false (fun K => pickD t12 t14 (.bool false) fun v => K v w) w fun t15 w =>
 pickD t8 (.bool true) t15 fun t16 =>
 gd t16 false (fun K => K t0 w) w fun t18 w =>
 gd t16 false (fun K => V prog (do eqGuard .eql 21 (.tmp 18) (.const (Value.int IntKind.i32 45)) t18 (Value.int IntKind.i32 45); binOp .eql 21 t18 (Value.int IntKind.i32 45)) w K) w fun t19 w =>
 pickD t16 (.bool true) t19 fun t20 =>
 gd t20 false (fun K => K t0 w) w fun t22 w =>
 gd t20 false (fun K => V prog (do eqGuard .eql 21 (.tmp 22) (.const (Value.int IntKind.i32 46)) t22 (Value.int IntKind.i32 46); binOp .eql 21 t22 (Value.int IntKind.i32 46)) w K) w fun t23 w =>
 pickD t20 (.bool true) t23 fun t24 =>
 gd t24 false (fun K => K t0 w) w fun t26 w =>
 gd t24 false (fun K => V prog (binOp .geq 21 t26 (Value.int IntKind.i32 224)) w K) w fun t27 w =>
 gd t24 false (fun K => K t27 w) w fun t28 w =>
 gd t28 true (fun K => K t0 w) w fun t29 w =>
 gd t28 true (fun K => V prog (binOp .leq 21 t29 (Value.int IntKind.i32 255)) w K) w fun t30 w =>
 gd t24 false (fun K => pickD t28 t30 (.bool false) fun v => K v w) w fun t31 w =>
 pickD t24 (.bool true) t31 fun t32 =>
 R t32 w
theorem F38_wp (h : F38_den t0 w R) : callD prog 38 #[t0] w R :=
  den_wp mixed F38_ann func38 (by kernel_rfl) (by kernel_rfl) h
def F40_ann : Ann := (q (.seq (q (.cond (q .leaf) .leaf)) (.seq (.draw [0, 1, 2, 0, 8, 16, 32, 64, 128, 260, 1023] [0, 1, 2, 0, 8, 16, 32, 64, 128, 260, 512] 0 11 2047 (tk ([0, 1] ++ rg 3 6) (.two 2 7 (.only 7 (.re (tk [8, 9, 10] .done))) (.re (.take 8 (.only 2 (.re (.take 9 (.take 10 .done))))))))) .leaf)))
def F40_den (t0 : Value) (w : World) (R : Value → World → Prop) : Prop :=
 V prog (binOp .gtr 3 t0 (i64 (-10))) w fun t4 w1 =>
 ifD t4 (
 V prog (binOp .sub 3 (i64 48) t0) w1 fun t6 w =>
 V prog (convert 3 5 t6) w fun t7 w =>
 V prog (buildSlice 23 1 #[(0, t7)]) w fun t8 w =>
 V prog (convert 23 9 t8) w fun t9 w =>
 R t9 w) (
 drawD w1 fun S3 w6 =>
 yieldS prog S3 (binOp .quo 3 t0 (i64 10)) fun t11 =>
 yieldS prog S3 (binOp .rem 3 t0 (i64 10)) fun t14 =>
 yieldS prog S3 (binOp .sub 3 (i64 48) t14) fun t15 =>
 yieldS prog S3 (convert 3 5 t15) fun t16 =>
 (callD prog 40 #[t11] w6 fun t12 w =>
 S3 w ∧
 V prog (buildSlice 23 1 #[(0, t16)]) w fun t17 w =>
 S3 w ∧
 reS S3 w fun S3_9 =>
 yieldS prog S3_9 (convert 23 9 t17) fun t18 =>
 yieldS prog S3_9 (binOp .add 9 t12 t18) fun t19 =>
 R t19 w) ∧
 (V prog (buildSlice 23 1 #[(0, t16)]) w6 fun t17_1 w =>
 S3 w ∧
 reS S3 w fun S3_11 =>
 yieldS prog S3_11 (convert 23 9 t17_1) fun t18_1 =>
 callD prog 40 #[t11] w fun t12_1 w =>
 S3_11 w ∧
 reS S3_11 w fun S3_11_13 =>
 yieldS prog S3_11_13 (binOp .add 9 t12_1 t18_1) fun t19_1 =>
 R t19_1 w))
theorem F40_wp (h : F40_den t0 w R) : callD prog 40 #[t0] w R :=
  den_wp mixed F40_ann func40 (by kernel_rfl) (by kernel_rfl) h
def F42_ann : Ann := (q (q (.seq (q (.cond (q .leaf) .leaf)) (q (.seq (q (.block (q (.cond .leaf (q (.cond .leaf (q .leaf))))))) (q .leaf))))))
def F42_den (t0 t1 : Value) (w : World) (R : Value → World → Prop) : Prop :=
 callD prog 60 #[t0] w fun t11 w =>
 V prog (extract t11 0) w fun t12 w =>
 V prog (extract t11 1) w fun t13 w =>
 V prog (do eqGuard .neq 48 (.tmp 14) (.const (i64 0)) t13 (i64 0); binOp .neq 48 t13 (i64 0)) w fun t15 w =>
 ifD t15 (
 R (.tuple #[(Value.pointer none), t13]) w) (
 callD prog 61 #[] w fun t18 w =>
 V prog (build 127 #[(0, t12), (2, (i64 (-1))), (3, t18)]) w fun t19 w =>
 V prog (box 127 t19) w fun t20 w =>
 V prog (do eqGuard .eql 3 (.tmp 21) (.const (i64 0)) t1 (i64 0); binOp .eql 3 t1 (i64 0)) w fun t23 w8 =>
 ifD t23 (
 V prog (build 129 #[]) w8 fun t25 w =>
 V prog (makeInterface 129 t25) w fun t26 w =>
 Go.Vc.Safe (t20) ∧
 V prog (fieldAt 127 t20 1) w fun t28 w =>
 U prog (storeAt 125 t28 t26) w fun _ w =>
 R (.tuple #[t20, (i64 0)]) w) (
 V prog (do eqGuard .eql 3 (.tmp 21) (.const (i64 1)) t1 (i64 1); binOp .eql 3 t1 (i64 1)) w8 fun t30 w14 =>
 ifD t30 (
 V prog (build 133 #[]) w14 fun t32 w =>
 V prog (box 133 t32) w fun t33 w =>
 V prog (makeInterface 130 t33) w fun t34 w =>
 Go.Vc.Safe (t20) ∧
 V prog (fieldAt 127 t20 1) w fun t36 w =>
 U prog (storeAt 125 t36 t34) w fun _ w =>
 R (.tuple #[t20, (i64 0)]) w) (
 R (.tuple #[(Value.pointer none), (i64 1)]) w14)))
theorem F42_wp (h : F42_den t0 t1 w R) : callD prog 42 #[t0, t1] w R :=
  den_wp mixed F42_ann func42 (by kernel_rfl) (by kernel_rfl) h
def F44_ann : Ann := (q (q (.seq (q (.block (q (.cond .leaf (q (.cond .leaf (q (.cond (.seq (q (.cond .leaf .leaf)) .leaf) (q (.cond (q .leaf) (q (.cond (q .leaf) .leaf)))))))))))) (q .leaf))))
def F44_den (t0 t1 : Value) (w : World) (R : Value → World → Prop) : Prop :=
 V prog (box 29 t1) w fun t3 w =>
 V prog (alloc 27 true (.tuple #[])) w fun t4 w =>
 V prog (fieldAt 29 t3 0) w fun t6 w =>
 V prog (loadAt 3 t6) w fun t7 w =>
 V prog (do eqGuard .eql 3 (.tmp 7) (.const (i64 1)) t7 (i64 1); binOp .eql 3 t7 (i64 1)) w fun t9 w5 =>
 ifD t9 (
 V prog (fieldAt 29 t3 1) w5 fun t11 w =>
 V prog (loadAt 23 t11) w fun t12 w =>
 callD prog 62 #[t0, t12] w fun t13 w =>
 V prog (build 27 #[(0, t13)]) w fun t43 w =>
 U prog (storeAt 27 t4 t43) w fun _ w =>
 ∃ r1, (loadVar 27 (match t4 with | .pointer (some p) => p | _ => ⟨0, 0, none⟩)).run prog w = .ok r1 w ∧ (∃ p, t4 = Value.pointer (some p)) ∧ R r1 w) (
 V prog (do eqGuard .eql 3 (.tmp 7) (.const (i64 2)) t7 (i64 2); binOp .eql 3 t7 (i64 2)) w5 fun t15 w11 =>
 ifD t15 (
 V prog (fieldAt 29 t3 2) w11 fun t17 w =>
 V prog (loadAt 9 t17) w fun t18 w =>
 callD prog 63 #[t0, t18] w fun t19 w =>
 V prog (build 27 #[(0, t19)]) w fun t43_1 w =>
 U prog (storeAt 27 t4 t43_1) w fun _ w =>
 ∃ r1, (loadVar 27 (match t4 with | .pointer (some p) => p | _ => ⟨0, 0, none⟩)).run prog w = .ok r1 w ∧ (∃ p, t4 = Value.pointer (some p)) ∧ R r1 w) (
 V prog (do eqGuard .eql 3 (.tmp 7) (.const (i64 3)) t7 (i64 3); binOp .eql 3 t7 (i64 3)) w11 fun t21 w17 =>
 ifD t21 (
 Go.Vc.Safe (t0) ∧
 V prog (fieldAt 127 t0 2) w17 fun t24 w =>
 V prog (loadAt 3 t24) w fun t25 w =>
 V prog (do eqGuard .eql 3 (.tmp 25) (.const (i64 (-1))) t25 (i64 (-1)); binOp .eql 3 t25 (i64 (-1))) w fun t26 w21 =>
 ifD t26 (
 callD prog 64 #[t0] w21 fun _ w =>
 V prog (build 27 #[(0, (i64 27013))]) w fun t43_2 w =>
 U prog (storeAt 27 t4 t43_2) w fun _ w =>
 ∃ r1, (loadVar 27 (match t4 with | .pointer (some p) => p | _ => ⟨0, 0, none⟩)).run prog w = .ok r1 w ∧ (∃ p, t4 = Value.pointer (some p)) ∧ R r1 w) (
 callD prog 64 #[t0] w21 fun _ w =>
 V prog (build 27 #[(0, (i64 36864))]) w fun t43_3 w =>
 U prog (storeAt 27 t4 t43_3) w fun _ w =>
 ∃ r1, (loadVar 27 (match t4 with | .pointer (some p) => p | _ => ⟨0, 0, none⟩)).run prog w = .ok r1 w ∧ (∃ p, t4 = Value.pointer (some p)) ∧ R r1 w)) (
 V prog (do eqGuard .eql 3 (.tmp 7) (.const (i64 4)) t7 (i64 4); binOp .eql 3 t7 (i64 4)) w17 fun t30 w28 =>
 ifD t30 (
 callD prog 65 #[t0] w28 fun t32 w =>
 callD prog 66 #[t32, (i64 1), (i64 (-1))] w fun _ w =>
 Go.Vc.Safe (t0) ∧
 V prog (fieldAt 127 t0 2) w fun t36 w =>
 U prog (storeAt 3 t36 (i64 (-1))) w fun _ w =>
 V prog (build 27 #[(0, (i64 36864))]) w fun t43_4 w =>
 U prog (storeAt 27 t4 t43_4) w fun _ w =>
 ∃ r1, (loadVar 27 (match t4 with | .pointer (some p) => p | _ => ⟨0, 0, none⟩)).run prog w = .ok r1 w ∧ (∃ p, t4 = Value.pointer (some p)) ∧ R r1 w) (
 V prog (do eqGuard .eql 3 (.tmp 7) (.const (i64 5)) t7 (i64 5); binOp .eql 3 t7 (i64 5)) w28 fun t38 w36 =>
 ifD t38 (
 V prog (loadAt 29 t3) w36 fun t40 w =>
 callD prog 67 #[t0, t40] w fun t41 w =>
 U prog (storeAt 27 t4 t41) w fun _ w =>
 ∃ r1, (loadVar 27 (match t4 with | .pointer (some p) => p | _ => ⟨0, 0, none⟩)).run prog w = .ok r1 w ∧ (∃ p, t4 = Value.pointer (some p)) ∧ R r1 w) (
 V prog (build 27 #[(0, (i64 26368))]) w36 fun t43_5 w =>
 U prog (storeAt 27 t4 t43_5) w fun _ w =>
 ∃ r1, (loadVar 27 (match t4 with | .pointer (some p) => p | _ => ⟨0, 0, none⟩)).run prog w = .ok r1 w ∧ (∃ p, t4 = Value.pointer (some p)) ∧ R r1 w)))))
theorem F44_wp (h : F44_den t0 t1 w R) : callD prog 44 #[t0, t1] w R :=
  den_wp mixed F44_ann func44 (by kernel_rfl) (by kernel_rfl) h
def F45_ann : Ann := (q (.seq (q (.cond (q .leaf) .leaf)) (q (q (.seq (q (.block (.loop (rg 2 5 ++ [7, 8] ++ rg 13 34) [4, 5] (q (.seq (.cond .leaf .leaf) (.block (q (q (.block (q (.cond (q .leaf) (q (.cond .leaf (q .leaf)))))))))))))) (q .leaf))))))
def F45_den (t0 : Value) (w : World) (R : Value → World → Prop) : Prop :=
 V prog (do eqGuard .eql 9 (.tmp 9) (.const (Value.string { data := #[45] })) t0 (Value.string { data := #[45] }); binOp .eql 9 t0 (Value.string { data := #[45] })) w fun t10 w =>
 ifD t10 (
 R (.tuple #[nilS, (.bool true)]) w) (
 V prog (range 9 t0) w fun t12 w =>
 ∃ (I1 : NP 2) (μ1 : NF 2), I1 nilS (i64 (-1)) w ∧
 ∀ (t4 : Value) (t5 : Value), ∀ w3 : World, I1 t4 t5 w3 → ∀ _f : Env,
 V prog (next t12 true 0) w3 fun t13 w =>
 V prog (extract t13 0) w fun t14 w5 =>
 ifD t14 (
 V prog (extract t13 2) w5 fun t15 w =>
 V prog (Builtin.min_ #[21, 21] 21 #[t15, (Value.int IntKind.i32 127)]) w fun t17 w =>
 V prog (convert 21 5 t17) w fun t18 w =>
 callD prog 68 #[(Value.string { data := #[48, 49, 50, 51, 52, 53, 54, 55, 56, 57, 97, 98, 99, 100, 101, 102] }), t18] w fun t19 w =>
 V prog (binOp .lss 3 t19 (i64 0)) w fun t30 w =>
 ifD t30 (
 R (.tuple #[nilS, (.bool false)]) w) (
 V prog (binOp .lss 3 t5 (i64 0)) w fun t33 w =>
 ifD t33 (
 I1 t4 t19 w ∧ μ1 t4 t19 w < μ1 t4 t5 w3) (
 V prog (binOp .shl 3 t5 (Value.int IntKind.u64 4)) w fun t22 w =>
 V prog (binOp .or 3 t22 t19) w fun t24 w =>
 V prog (convert 3 5 t24) w fun t25 w =>
 V prog (buildSlice 23 1 #[(0, t25)]) w fun t26 w =>
 V prog (Builtin.append_ #[23, 23] 23 #[t4, t26]) w fun t27 w =>
 I1 t27 (i64 (-1)) w ∧ μ1 t27 (i64 (-1)) w < μ1 t4 t5 w3))) (
 V prog (do eqGuard .neq 9 (.tmp 36) (.const (Value.string { data := #[] })) t0 (Value.string { data := #[] }); binOp .neq 9 t0 (Value.string { data := #[] })) w5 fun t37 w =>
 gd t37 true (fun K => K t5 w) w fun t39 w =>
 gd t37 true (fun K => V prog (binOp .lss 3 t39 (i64 0)) w K) w fun t40 w =>
 pickD t37 t40 (.bool false) fun t41 =>
 R (.tuple #[t4, t41]) w))
theorem F45_wp (h : F45_den t0 w R) : callD prog 45 #[t0] w R :=
  den_wp mixed F45_ann func45 (by kernel_rfl) (by kernel_rfl) h
def F46_ann : Ann := (q (q (.seq (q (.block (.loop ([2, 3, 4, 6] ++ rg 9 28) [4] (q (.seq (.cond .leaf .leaf) (.block (q (.seq (q (.cond (q .leaf) .leaf)) .leaf)))))))) (.seq (.draw [0, 0, 2, 4, 8, 24, 40, 64, 192, 320, 584, 1032, 65, 8191] [0, 0, 2, 4, 8, 24, 40, 64, 192, 320, 584, 1032, 1, 2048] 0 14 16383 (tk (rg 0 13) .done)) .leaf))))
def F46_den (t0 : Value) (w : World) (R : Value → World → Prop) : Prop :=
 V prog (range 9 t0) w fun t8 w =>
 ∃ (I1 : NP 1) (μ1 : NF 1), I1 (i64 0) w ∧
 ∀ (t4 : Value), ∀ w2 : World, I1 t4 w2 → ∀ _f : Env,
 V prog (next t8 true 0) w2 fun t9 w =>
 V prog (extract t9 0) w fun t10 w4 =>
 ifD t10 (
 V prog (extract t9 2) w4 fun t11 w =>
 V prog (binOp .lss 21 t11 (Value.int IntKind.i32 48)) w fun t13 w =>
 gd t13 false (fun K => K t11 w) w fun t15 w =>
 gd t13 false (fun K => V prog (binOp .gtr 21 t15 (Value.int IntKind.i32 57)) w K) w fun t16 w =>
 pickD t13 (.bool true) t16 fun t17 =>
 gd t17 false (fun K => K t0 w) w fun t19 w =>
 gd t17 false (fun K => V prog (Builtin.len_ #[9] 3 #[t19]) w K) w fun t20 w =>
 gd t17 false (fun K => V prog (binOp .gtr 3 t20 (i64 7)) w K) w fun t21 w =>
 pickD t17 (.bool true) t21 fun t22 =>
 ifD t22 (
 R (.tuple #[(i64 0), (.bool false)]) w) (
 V prog (binOp .mul 3 (i64 10) t4) w fun t24 w =>
 V prog (binOp .sub 21 t11 (Value.int IntKind.i32 48)) w fun t26 w =>
 V prog (convert 21 3 t26) w fun t27 w =>
 V prog (binOp .add 3 t24 t27) w fun t28 w =>
 I1 t28 w ∧ μ1 t28 w < μ1 t4 w2)) (
 drawD w4 fun S8 w =>
 yieldS prog S8 (do eqGuard .neq 9 (.tmp 30) (.const (Value.string { data := #[] })) t0 (Value.string { data := #[] }); binOp .neq 9 t0 (Value.string { data := #[] })) fun t31 =>
 gdY t31 true (fun K => K t0) fun t33 =>
 gdY t31 true (fun K => yieldS prog S8 (do eqGuard .eql 9 (.tmp 33) (.const (Value.string { data := #[48] })) t33 (Value.string { data := #[48] }); binOp .eql 9 t33 (Value.string { data := #[48] })) K) fun t34 =>
 gdY t31 true (fun K => K t34) fun t35 =>
 gdY t35 false (fun K => K t0) fun t36 =>
 gdY t35 false (fun K => yieldS prog S8 (index 9 t36 (i64 0)) K) fun t37 =>
 gdY t35 false (fun K => yieldS prog S8 (do eqGuard .neq 5 (.tmp 37) (.const (Value.int IntKind.u8 48)) t37 (Value.int IntKind.u8 48); binOp .neq 5 t37 (Value.int IntKind.u8 48)) K) fun t38 =>
 gdY t31 true (fun K => pickD t35 (.bool true) t38 K) fun t39 =>
 pickD t31 t39 (.bool false) fun t40 =>
 R (.tuple #[t4, t40]) w)
theorem F46_wp (h : F46_den t0 w R) : callD prog 46 #[t0] w R :=
  den_wp mixed F46_ann func46 (by kernel_rfl) (by kernel_rfl) h
def F47_ann : Ann := (q (.seq (.block (q (.cond (q .leaf) (q (.cond (q .leaf) .leaf))))) (q .leaf)))
def F47_den (t0 : Value) (w : World) (R : Value → World → Prop) : Prop :=
 V prog (binOp .geq 5 t0 (Value.int IntKind.u8 48)) w fun t5 w =>
 gd t5 true (fun K => K t0 w) w fun t7 w =>
 gd t5 true (fun K => V prog (binOp .leq 5 t7 (Value.int IntKind.u8 57)) w K) w fun t8 w3 =>
 pickD t5 t8 (.bool false) fun t9 =>
 ifD t9 (
 V prog (binOp .sub 5 t0 (Value.int IntKind.u8 48)) w3 fun t11 w =>
 V prog (convert 5 3 t11) w fun t12 w =>
 R t12 w) (
 V prog (binOp .geq 5 t0 (Value.int IntKind.u8 97)) w3 fun t15 w =>
 gd t15 true (fun K => K t0 w) w fun t17 w =>
 gd t15 true (fun K => V prog (binOp .leq 5 t17 (Value.int IntKind.u8 102)) w K) w fun t18 w9 =>
 pickD t15 t18 (.bool false) fun t19 =>
 ifD t19 (
 V prog (binOp .sub 5 t0 (Value.int IntKind.u8 97)) w9 fun t21 w =>
 V prog (convert 5 3 t21) w fun t22 w =>
 V prog (binOp .add 3 t22 (i64 10)) w fun t23 w =>
 R t23 w) (
 R (i64 (-1)) w9))
theorem F47_wp (h : F47_den t0 w R) : callD prog 47 #[t0] w R :=
  den_wp mixed F47_ann func47 (by kernel_rfl) (by kernel_rfl) h
def F48_ann : Ann := (q (.seq (.draw [0, 0, 2, 5, 0, 16, 40, 64, 128, 511] [0, 0, 2, 5, 0, 16, 40, 64, 128, 256] 0 10 1023 (tk [1, 2, 4, 5] (.only 0 (.only 3 (.only 6 (.take 7 (.only 8 (.take 9 .done)))))))) (.seq (q (.block (.loop ([10] ++ rg 24 53) [10] (.seq (q (.cond .leaf .leaf)) (.seq (.block (.draw [0, 0, 2, 4, 8, 0, 0, 96, 128, 256, 0, 0, 3072, 4096, 8192, 0, 0, 98304, 131072, 262144, 541184, 1048592, 4194303, 8388607, 12582911] [0, 0, 2, 4, 8, 0, 0, 96, 128, 256, 0, 0, 3072, 4096, 8192, 0, 0, 98304, 131072, 262144, 541184, 1048592, 1, 4194304, 10485760] 0 24 16777215 (tk (rg 0 19) (.only 20 (.only 21 (.take 22 (.take 23 (.last 24)))))))) .leaf))))) (q (.seq (q (.block (.loop ([11, 12] ++ rg 54 90) [11, 12] (.seq (q (.cond .leaf .leaf)) (.seq (.block (q (.draw [0, 0, 0, 6, 8, 0, 0, 96, 0, 0, 913] [0, 0, 0, 6, 8, 0, 0, 96, 0, 0, 913] 0 10 1023 (tk (rg 0 9) (.last 10))))) .leaf))))) (q (.seq (q (.block (.loop ([13, 14] ++ rg 99 158) [13] (.seq (q (.cond .leaf .leaf)) (.seq (.block (q (.cond (q (.seq (.block (.loop ([14] ++ rg 128 142) [14] (.seq (q (.cond .leaf .leaf)) (.block .leaf)))) (.draw [0, 1, 2, 4, 0, 0, 0, 64, 128, 0, 512, 1280, 2080, 4096, 16383, 32767, 49151] [0, 1, 2, 4, 0, 0, 0, 64, 128, 0, 512, 1280, 2080, 4096, 24, 16384, 40960] 0 16 65535 (tk (rg 0 15) (.last 16))))) .leaf))) .leaf))))) (.join (rg 159 165) [] (q (.cond .leaf .leaf)) (q (.seq (q (.cond (q (q (.cond .leaf .leaf))) .leaf)) (q .leaf)))))))))))
def F48_den (t0 t1 t2 t3 : Value) (w : World) (R : Value → World → Prop) : Prop :=
 V prog (box 94 t1) w fun t5 w =>
 drawD w fun S1 w =>
 yieldS prog S1 (fieldAt 94 t5 0) fun t16 =>
 yieldS prog S1 (loadAt 57 t16) fun t17 =>
 yieldS prog S1 (fieldAt 94 t5 2) fun t19 =>
 yieldS prog S1 (loadAt 57 t19) fun t20 =>
 V prog (buildSlice 57 0 #[]) w fun t15 w =>
 S1 w ∧
 V prog (Builtin.append_ #[57, 57] 57 #[t15, t17]) w fun t18 w =>
 S1 w ∧
 V prog (Builtin.append_ #[57, 57] 57 #[t18, t20]) w fun t21 w =>
 S1 w ∧
 yieldS prog S1 (build 141 #[(3, t21)]) fun t22 =>
 V prog (box 141 t22) w fun t23 w =>
 S1 w ∧
 ∃ (I1 : NP 1) (μ1 : NF 1), I1 (i64 0) w ∧
 ∀ (t10 : Value), ∀ w7 : World, I1 t10 w7 → ∀ _f : Env,
 V prog (Builtin.len_ #[22] 3 #[t0]) w7 fun t26 w =>
 V prog (binOp .lss 3 t10 t26) w fun t27 w9 =>
 ifD t27 (
 drawD w9 fun S5 w =>
 Go.Vc.Safe (t23) ∧
 yieldS prog S5 (fieldAt 141 t23 1) fun t33 =>
 yieldS prog S5 (loadAt 57 t33) fun t34 =>
 yieldS prog S5 (indexAt 22 t0 t10) fun t37 =>
 yieldS prog S5 (fieldAt 143 t37 1) fun t38 =>
 yieldS prog S5 (loadAt 3 t38) fun t39 =>
 yieldS prog S5 (indexAt 22 t0 t10) fun t42 =>
 yieldS prog S5 (fieldAt 143 t42 2) fun t43 =>
 yieldS prog S5 (loadAt 3 t43) fun t44 =>
 yieldS prog S5 (indexAt 22 t0 t10) fun t47 =>
 yieldS prog S5 (fieldAt 143 t47 3) fun t48 =>
 yieldS prog S5 (loadAt 3 t48) fun t49 =>
 V prog (buildSlice 57 3 #[(0, t39), (1, t44), (2, t49)]) w fun t50 w =>
 S5 w ∧
 V prog (Builtin.append_ #[57, 57] 57 #[t34, t50]) w fun t51 w =>
 S5 w ∧
 Go.Vc.Safe (t23) ∧
 yieldS prog S5 (fieldAt 141 t23 1) fun t53 =>
 U prog (storeAt 57 t53 t51) w fun _ w =>
 V prog (binOp .add 3 t10 (i64 1)) w fun t29 w =>
 I1 t29 w ∧ μ1 t29 w < μ1 t10 w7) (
 ∃ (I2 : NP 2) (μ2 : NF 2), I2 nilS (i64 0) w9 ∧
 ∀ (t11 : Value) (t12 : Value), ∀ w15 : World, I2 t11 t12 w15 → ∀ _f : Env,
 V prog (Builtin.len_ #[22] 3 #[t0]) w15 fun t56 w =>
 V prog (binOp .lss 3 t12 t56) w fun t57 w =>
 gd t57 true (fun K => K t12 w) w fun t59 w =>
 gd t57 true (fun K => V prog (binOp .lss 3 t59 (i64 12)) w K) w fun t60 w =>
 pickD t57 t60 (.bool false) fun t61 =>
 gd t61 true (fun K => K t23 w) w fun t63 w =>
 gd t61 true (fun K => (Go.Vc.Safe (t63) ∧ K (t63) w)) w fun t64 w =>
 gd t61 true (fun K => V prog (fieldAt 141 t64 0) w K) w fun t65 w =>
 gd t61 true (fun K => V prog (loadAt 92 t65) w K) w fun t66 w =>
 gd t61 true (fun K => V prog (Builtin.len_ #[92] 3 #[t66]) w K) w fun t67 w =>
 gd t61 true (fun K => V prog (binOp .lss 3 t67 (i64 70)) w K) w fun t68 w26 =>
 pickD t61 t68 (.bool false) fun t69 =>
 ifD t69 (
 Go.Vc.Safe (t23) ∧
 V prog (fieldAt 141 t23 0) w26 fun t75 w =>
 V prog (loadAt 92 t75) w fun t76 w =>
 V prog (Builtin.len_ #[92] 3 #[t76]) w fun t77 w =>
 V prog (buildSlice 57 1 #[(0, t77)]) w fun t78 w =>
 V prog (Builtin.append_ #[57, 57] 57 #[t11, t78]) w fun t79 w =>
 drawD w fun S11 w =>
 yieldS prog S11 (indexAt 22 t0 t12) fun t83 =>
 yieldS prog S11 (loadAt 143 t83) fun t84 =>
 yieldS prog S11 (sliceAt 57 t79 none (some t12) none) fun t87 =>
 callD prog 69 #[t23, t84, t87, t2, t3] w fun _ w =>
 V prog (binOp .add 3 t12 (i64 1)) w fun t71 w =>
 I2 t79 t71 w ∧ μ2 t79 t71 w < μ2 t11 t12 w15) (
 Go.Vc.Safe (t23) ∧
 V prog (fieldAt 141 t23 0) w26 fun t94 w =>
 V prog (loadAt 92 t94) w fun t95 w =>
 V prog (Builtin.len_ #[92] 3 #[t95]) w fun t96 w =>
 V prog (buildSlice 57 1 #[(0, t96)]) w fun t97 w =>
 V prog (Builtin.append_ #[57, 57] 57 #[t11, t97]) w fun t98 w =>
 ∃ (I3 : NP 1) (μ3 : NF 1), I3 (i64 0) w ∧
 ∀ (t13 : Value), ∀ w43 : World, I3 t13 w43 → ∀ _f : Env,
 Go.Vc.Safe (t23) ∧
 V prog (fieldAt 141 t23 0) w43 fun t102 w =>
 V prog (loadAt 92 t102) w fun t103 w =>
 V prog (Builtin.len_ #[92] 3 #[t103]) w fun t104 w =>
 V prog (binOp .lss 3 t13 t104) w fun t105 w48 =>
 ifD t105 (
 Go.Vc.Safe (t23) ∧
 V prog (fieldAt 141 t23 0) w48 fun t110 w =>
 V prog (loadAt 92 t110) w fun t111 w =>
 V prog (indexAt 92 t111 t13) w fun t113 w =>
 V prog (fieldAt 97 t113 0) w fun t114 w =>
 V prog (loadAt 3 t114) w fun t115 w =>
 V prog (do eqGuard .eql 3 (.tmp 115) (.const (i64 24)) t115 (i64 24); binOp .eql 3 t115 (i64 24)) w fun t116 w =>
 gd t116 true (fun K => K t23 w) w fun t118 w =>
 gd t116 true (fun K => (Go.Vc.Safe (t118) ∧ K (t118) w)) w fun t119 w =>
 gd t116 true (fun K => V prog (fieldAt 141 t119 0) w K) w fun t120 w =>
 gd t116 true (fun K => V prog (loadAt 92 t120) w K) w fun t121 w =>
 gd t116 true (fun K => K t13 w) w fun t122 w =>
 gd t116 true (fun K => V prog (indexAt 92 t121 t122) w K) w fun t123 w =>
 gd t116 true (fun K => V prog (fieldAt 97 t123 1) w K) w fun t124 w =>
 gd t116 true (fun K => V prog (loadAt 3 t124) w K) w fun t125 w =>
 gd t116 true (fun K => V prog (binOp .lss 3 t125 (i64 0)) w K) w fun t126 w64 =>
 pickD t116 t126 (.bool false) fun t127 =>
 ifD t127 (
 ∃ (I4 : NP 1) (μ4 : NF 1), I4 (i64 0) w64 ∧
 ∀ (t14 : Value), ∀ w66 : World, I4 t14 w66 → ∀ _f : Env,
 V prog (Builtin.len_ #[57] 3 #[t98]) w66 fun t130 w =>
 V prog (binOp .sub 3 t130 (i64 1)) w fun t131 w =>
 V prog (binOp .lss 3 t14 t131) w fun t132 w =>
 gd t132 true (fun K => K t98 w) w fun t134 w =>
 gd t132 true (fun K => K t14 w) w fun t135 w =>
 gd t132 true (fun K => V prog (indexAt 57 t134 t135) w K) w fun t136 w =>
 gd t132 true (fun K => V prog (loadAt 3 t136) w K) w fun t137 w =>
 gd t132 true (fun K => K t13 w) w fun t138 w =>
 gd t132 true (fun K => V prog (binOp .leq 3 t137 t138) w K) w fun t139 w75 =>
 pickD t132 t139 (.bool false) fun t140 =>
 ifD t140 (
 V prog (binOp .add 3 t14 (i64 1)) w75 fun t142 w =>
 I4 t142 w ∧ μ4 t142 w < μ4 t14 w66) (
 drawD w75 fun S20 w =>
 Go.Vc.Safe (t23) ∧
 yieldS prog S20 (fieldAt 141 t23 0) fun t145 =>
 yieldS prog S20 (loadAt 92 t145) fun t146 =>
 yieldS prog S20 (Builtin.len_ #[57] 3 #[t98]) fun t150 =>
 yieldS prog S20 (binOp .sub 3 t150 (i64 1)) fun t151 =>
 yieldS prog S20 (binOp .add 3 t14 (i64 1)) fun t153 =>
 yieldS prog S20 (Builtin.min_ #[3, 3] 3 #[t151, t153]) fun t154 =>
 yieldS prog S20 (indexAt 57 t98 t154) fun t155 =>
 yieldS prog S20 (loadAt 3 t155) fun t156 =>
 yieldS prog S20 (indexAt 92 t146 t13) fun t157 =>
 yieldS prog S20 (fieldAt 97 t157 1) fun t158 =>
 U prog (storeAt 3 t158 t156) w fun _ w =>
 V prog (binOp .add 3 t13 (i64 1)) w fun t107 w =>
 I3 t107 w ∧ μ3 t107 w < μ3 t13 w43)) (
 V prog (binOp .add 3 t13 (i64 1)) w64 fun t107_1 w =>
 I3 t107_1 w ∧ μ3 t107_1 w < μ3 t13 w43)) (
 ∃ J5 : NP 0,
 (V prog (fieldAt 94 t5 1) w48 fun t159 w =>
 V prog (loadAt 3 t159) w fun t160 w =>
 V prog (do eqGuard .neq 3 (.tmp 160) (.const (i64 0)) t160 (i64 0); binOp .neq 3 t160 (i64 0)) w fun t161 w84 =>
 ifD t161 (
 V prog (fieldAt 94 t5 1) w84 fun t163 w =>
 V prog (loadAt 3 t163) w fun t164 w =>
 callD prog 70 #[t23, t164] w fun _ w =>
 J5 w) (
 J5 w84)) ∧
 ∀ w : World, J5 w → ∀ _f : Env,
 callD prog 71 #[t23, (i64 39), (i64 0), (i64 0)] w fun _ w =>
 Go.Vc.Safe (t23) ∧
 V prog (fieldAt 141 t23 0) w fun t170 w =>
 V prog (loadAt 92 t170) w fun t171 w =>
 V prog (Builtin.len_ #[92] 3 #[t171]) w fun t172 w =>
 V prog (binOp .gtr 3 t172 (i64 120)) w fun t173 w94 =>
 ifD t173 (
 V prog (build 97 #[(0, (i64 39))]) w94 fun t175 w =>
 V prog (buildSlice 92 1 #[(0, t175)]) w fun t176 w =>
 Go.Vc.Safe (t23) ∧
 V prog (fieldAt 141 t23 0) w fun t178 w =>
 U prog (storeAt 92 t178 t176) w fun _ w =>
 V prog (fieldAt 94 t5 1) w fun t179 w =>
 V prog (loadAt 3 t179) w fun t180 w =>
 V prog (do eqGuard .neq 3 (.tmp 180) (.const (i64 0)) t180 (i64 0); binOp .neq 3 t180 (i64 0)) w fun t181 w102 =>
 ifD t181 (
 V prog (build 97 #[(0, (i64 1))]) w102 fun t183 w =>
 V prog (build 97 #[(0, (i64 39))]) w fun t184 w =>
 V prog (buildSlice 92 2 #[(0, t183), (1, t184)]) w fun t185 w =>
 Go.Vc.Safe (t23) ∧
 V prog (fieldAt 141 t23 0) w fun t187 w =>
 U prog (storeAt 92 t187 t185) w fun _ w =>
 Go.Vc.Safe (t23) ∧
 V prog (fieldAt 141 t23 0) w fun t190 w =>
 V prog (loadAt 92 t190) w fun t191 w =>
 R t191 w) (
 Go.Vc.Safe (t23) ∧
 V prog (fieldAt 141 t23 0) w102 fun t190_1 w =>
 V prog (loadAt 92 t190_1) w fun t191_1 w =>
 R t191_1 w)) (
 Go.Vc.Safe (t23) ∧
 V prog (fieldAt 141 t23 0) w94 fun t190_2 w =>
 V prog (loadAt 92 t190_2) w fun t191_2 w =>
 R t191_2 w))))
theorem F48_wp (h : F48_den t0 t1 t2 t3 w R) : callD prog 48 #[t0, t1, t2, t3] w R :=
  den_wp mixed F48_ann func48 (by kernel_rfl) (by kernel_rfl) h
def F49_ann : Ann := (q (.seq (q (.cond (q .leaf) .leaf)) (.seq (q (.block (.loop ([2, 3, 4] ++ rg 43 84) [3] (.seq (q (.cond .leaf .leaf)) (.seq (.block (q (q (.cond (q .leaf) .leaf)))) .leaf))))) (.seq (q (.block (.loop ([2, 5, 6, 7] ++ rg 85 146) [5] (.seq (q (.cond .leaf .leaf)) (.seq (.block (q (.seq (q (.cond (q .leaf) .leaf)) (q (.block (.loop ([2, 7] ++ rg 133 146) [7] (.seq (q (.cond .leaf .leaf)) (.seq (.block (q (.cond (q .leaf) .leaf))) .leaf)))))))) .leaf))))) (.seq (q (.block (.loop ([2, 8] ++ rg 147 170) [8] (.seq (q (.cond .leaf .leaf)) (.seq (.block (.seq (.draw [0, 1, 0, 6, 8, 16, 32, 64, 192, 64, 832, 1088, 64, 4160, 8256, 18496, 32832] [0, 1, 0, 6, 8, 16, 32, 64, 192, 64, 832, 1088, 64, 4160, 8256, 18496, 32832] 0 17 131071 (tk (rg 0 16) .done)) (.cond (q .leaf) .leaf))) .leaf))))) (q .leaf))))))
def F49_den (t0 : Value) (w : World) (R : Value → World → Prop) : Prop :=
 V prog (box 61 t0) w fun t1 w =>
 V prog (fieldAt 61 t1 0) w fun t9 w =>
 V prog (loadAt 9 t9) w fun t10 w =>
 callD prog 22 #[t10] w fun t11 w =>
 V prog (Op.unary UnOp.not t11) w fun t12 w =>
 gd t12 false (fun K => V prog (fieldAt 61 t1 1) w K) w fun t14 w =>
 gd t12 false (fun K => V prog (loadAt 57 t14) w K) w fun t15 w =>
 gd t12 false (fun K => callD prog 72 #[t15, (i64 8)] w K) w fun t16 w =>
 gd t12 false (fun K => V prog (Op.unary UnOp.not t16) w K) w fun t17 w =>
 pickD t12 (.bool true) t17 fun t18 =>
 gd t18 false (fun K => V prog (fieldAt 61 t1 2) w K) w fun t20 w =>
 gd t18 false (fun K => V prog (loadAt 58 t20) w K) w fun t21 w =>
 gd t18 false (fun K => V prog (Builtin.len_ #[58] 3 #[t21]) w K) w fun t22 w =>
 gd t18 false (fun K => V prog (binOp .gtr 3 t22 (i64 4)) w K) w fun t23 w =>
 pickD t18 (.bool true) t23 fun t24 =>
 gd t24 false (fun K => V prog (fieldAt 61 t1 3) w K) w fun t26 w =>
 gd t24 false (fun K => V prog (loadAt 59 t26) w K) w fun t27 w =>
 gd t24 false (fun K => V prog (Builtin.len_ #[59] 3 #[t27]) w K) w fun t28 w =>
 gd t24 false (fun K => V prog (binOp .lss 3 t28 (i64 1)) w K) w fun t29 w =>
 pickD t24 (.bool true) t29 fun t30 =>
 gd t30 false (fun K => V prog (fieldAt 61 t1 3) w K) w fun t32 w =>
 gd t30 false (fun K => V prog (loadAt 59 t32) w K) w fun t33 w =>
 gd t30 false (fun K => V prog (Builtin.len_ #[59] 3 #[t33]) w K) w fun t34 w =>
 gd t30 false (fun K => V prog (binOp .gtr 3 t34 (i64 8)) w K) w fun t35 w =>
 pickD t30 (.bool true) t35 fun t36 =>
 gd t36 false (fun K => V prog (fieldAt 61 t1 4) w K) w fun t38 w =>
 gd t36 false (fun K => V prog (loadAt 57 t38) w K) w fun t39 w =>
 gd t36 false (fun K => V prog (Builtin.len_ #[57] 3 #[t39]) w K) w fun t40 w =>
 gd t36 false (fun K => V prog (binOp .gtr 3 t40 (i64 4)) w K) w fun t41 w =>
 pickD t36 (.bool true) t41 fun t42 =>
 ifD t42 (
 R (.bool false) w) (
 ∃ (I1 : NP 1) (μ1 : NF 1), I1 (i64 0) w ∧
 ∀ (t3 : Value), ∀ w31 : World, I1 t3 w31 → ∀ _f : Env,
 V prog (fieldAt 61 t1 2) w31 fun t44 w =>
 V prog (loadAt 58 t44) w fun t45 w =>
 V prog (Builtin.len_ #[58] 3 #[t45]) w fun t46 w =>
 V prog (binOp .lss 3 t3 t46) w fun t47 w35 =>
 ifD t47 (
 V prog (fieldAt 61 t1 2) w35 fun t50 w =>
 V prog (loadAt 58 t50) w fun t51 w =>
 V prog (indexAt 58 t51 t3) w fun t53 w =>
 V prog (loadAt 91 t53) w fun t54 w =>
 V prog (alloc 91 true (.tuple #[])) w fun t4 w =>
 U prog (storeAt 91 t4 t54) w fun _ w =>
 V prog (fieldAt 91 t4 0) w fun t55 w =>
 V prog (loadAt 9 t55) w fun t56 w =>
 callD prog 22 #[t56] w fun t57 w =>
 V prog (Op.unary UnOp.not t57) w fun t58 w =>
 gd t58 false (fun K => V prog (fieldAt 91 t4 1) w K) w fun t60 w =>
 gd t58 false (fun K => V prog (loadAt 3 t60) w K) w fun t61 w =>
 gd t58 false (fun K => V prog (binOp .lss 3 t61 (i64 0)) w K) w fun t62 w =>
 pickD t58 (.bool true) t62 fun t63 =>
 gd t63 false (fun K => V prog (fieldAt 91 t4 1) w K) w fun t65 w =>
 gd t63 false (fun K => V prog (loadAt 3 t65) w K) w fun t66 w =>
 gd t63 false (fun K => V prog (binOp .geq 3 t66 (i64 4)) w K) w fun t67 w =>
 pickD t63 (.bool true) t67 fun t68 =>
 gd t68 false (fun K => V prog (fieldAt 91 t4 2) w K) w fun t70 w =>
 gd t68 false (fun K => V prog (loadAt 57 t70) w K) w fun t71 w =>
 gd t68 false (fun K => callD prog 72 #[t71, (i64 4)] w K) w fun t72 w =>
 gd t68 false (fun K => V prog (Op.unary UnOp.not t72) w K) w fun t73 w =>
 pickD t68 (.bool true) t73 fun t74 =>
 gd t74 false (fun K => V prog (fieldAt 91 t4 3) w K) w fun t76 w =>
 gd t74 false (fun K => V prog (loadAt 3 t76) w K) w fun t77 w =>
 gd t74 false (fun K => V prog (binOp .lss 3 t77 (i64 0)) w K) w fun t78 w =>
 pickD t74 (.bool true) t78 fun t79 =>
 gd t79 false (fun K => V prog (fieldAt 91 t4 3) w K) w fun t81 w =>
 gd t79 false (fun K => V prog (loadAt 3 t81) w K) w fun t82 w =>
 gd t79 false (fun K => V prog (binOp .gtr 3 t82 (i64 4)) w K) w fun t83 w =>
 pickD t79 (.bool true) t83 fun t84 =>
 ifD t84 (
 R (.bool false) w) (
 V prog (binOp .add 3 t3 (i64 1)) w fun t49 w =>
 I1 t49 w ∧ μ1 t49 w < μ1 t3 w31)) (
 ∃ (I2 : NP 1) (μ2 : NF 1), I2 (i64 0) w35 ∧
 ∀ (t5 : Value), ∀ w68 : World, I2 t5 w68 → ∀ _f : Env,
 V prog (fieldAt 61 t1 3) w68 fun t86 w =>
 V prog (loadAt 59 t86) w fun t87 w =>
 V prog (Builtin.len_ #[59] 3 #[t87]) w fun t88 w =>
 V prog (binOp .lss 3 t5 t88) w fun t89 w72 =>
 ifD t89 (
 V prog (fieldAt 61 t1 3) w72 fun t92 w =>
 V prog (loadAt 59 t92) w fun t93 w =>
 V prog (indexAt 59 t93 t5) w fun t95 w =>
 V prog (loadAt 94 t95) w fun t96 w =>
 V prog (alloc 94 true (.tuple #[])) w fun t6 w =>
 U prog (storeAt 94 t6 t96) w fun _ w =>
 V prog (fieldAt 94 t6 0) w fun t97 w =>
 V prog (loadAt 57 t97) w fun t98 w =>
 callD prog 72 #[t98, (i64 4)] w fun t99 w =>
 V prog (Op.unary UnOp.not t99) w fun t100 w =>
 gd t100 false (fun K => V prog (fieldAt 94 t6 1) w K) w fun t102 w =>
 gd t100 false (fun K => V prog (loadAt 3 t102) w K) w fun t103 w =>
 gd t100 false (fun K => V prog (binOp .lss 3 t103 (i64 0)) w K) w fun t104 w =>
 pickD t100 (.bool true) t104 fun t105 =>
 gd t105 false (fun K => V prog (fieldAt 94 t6 1) w K) w fun t107 w =>
 gd t105 false (fun K => V prog (loadAt 3 t107) w K) w fun t108 w =>
 gd t105 false (fun K => V prog (binOp .gtr 3 t108 (i64 4)) w K) w fun t109 w =>
 pickD t105 (.bool true) t109 fun t110 =>
 gd t110 false (fun K => V prog (fieldAt 94 t6 2) w K) w fun t112 w =>
 gd t110 false (fun K => V prog (loadAt 57 t112) w K) w fun t113 w =>
 gd t110 false (fun K => V prog (fieldAt 94 t6 0) w K) w fun t114 w =>
 gd t110 false (fun K => V prog (loadAt 57 t114) w K) w fun t115 w =>
 gd t110 false (fun K => V prog (Builtin.len_ #[57] 3 #[t115]) w K) w fun t116 w =>
 gd t110 false (fun K => V prog (binOp .sub 3 (i64 10) t116) w K) w fun t117 w =>
 gd t110 false (fun K => callD prog 72 #[t113, t117] w K) w fun t118 w =>
 gd t110 false (fun K => V prog (Op.unary UnOp.not t118) w K) w fun t119 w =>
 pickD t110 (.bool true) t119 fun t120 =>
 gd t120 false (fun K => V prog (fieldAt 94 t6 3) w K) w fun t122 w =>
 gd t120 false (fun K => V prog (loadAt 92 t122) w K) w fun t123 w =>
 gd t120 false (fun K => V prog (Builtin.len_ #[92] 3 #[t123]) w K) w fun t124 w =>
 gd t120 false (fun K => V prog (binOp .lss 3 t124 (i64 1)) w K) w fun t125 w =>
 pickD t120 (.bool true) t125 fun t126 =>
 gd t126 false (fun K => V prog (fieldAt 94 t6 3) w K) w fun t128 w =>
 gd t126 false (fun K => V prog (loadAt 92 t128) w K) w fun t129 w =>
 gd t126 false (fun K => V prog (Builtin.len_ #[92] 3 #[t129]) w K) w fun t130 w =>
 gd t126 false (fun K => V prog (binOp .gtr 3 t130 (i64 120)) w K) w fun t131 w =>
 pickD t126 (.bool true) t131 fun t132 =>
 ifD t132 (
 R (.bool false) w) (
 ∃ (I3 : NP 1) (μ3 : NF 1), I3 (i64 0) w ∧
 ∀ (t7 : Value), ∀ w110 : World, I3 t7 w110 → ∀ _f : Env,
 V prog (fieldAt 94 t6 3) w110 fun t134 w =>
 V prog (loadAt 92 t134) w fun t135 w =>
 V prog (Builtin.len_ #[92] 3 #[t135]) w fun t136 w =>
 V prog (binOp .lss 3 t7 t136) w fun t137 w114 =>
 ifD t137 (
 V prog (fieldAt 94 t6 3) w114 fun t140 w =>
 V prog (loadAt 92 t140) w fun t141 w =>
 V prog (indexAt 92 t141 t7) w fun t143 w =>
 V prog (loadAt 97 t143) w fun t144 w =>
 callD prog 73 #[t144] w fun t145 w =>
 V prog (Op.unary UnOp.not t145) w fun t146 w =>
 ifD t146 (
 R (.bool false) w) (
 V prog (binOp .add 3 t7 (i64 1)) w fun t139 w =>
 I3 t139 w ∧ μ3 t139 w < μ3 t7 w110)) (
 V prog (binOp .add 3 t5 (i64 1)) w114 fun t91 w =>
 I2 t91 w ∧ μ2 t91 w < μ2 t5 w68))) (
 ∃ (I4 : NP 1) (μ4 : NF 1), I4 (i64 0) w72 ∧
 ∀ (t8 : Value), ∀ w123 : World, I4 t8 w123 → ∀ _f : Env,
 V prog (fieldAt 61 t1 4) w123 fun t148 w =>
 V prog (loadAt 57 t148) w fun t149 w =>
 V prog (Builtin.len_ #[57] 3 #[t149]) w fun t150 w =>
 V prog (binOp .lss 3 t8 t150) w fun t151 w127 =>
 ifD t151 (
 drawD w127 fun S23 w =>
 yieldS prog S23 (fieldAt 61 t1 4) fun t154 =>
 yieldS prog S23 (loadAt 57 t154) fun t155 =>
 yieldS prog S23 (indexAt 57 t155 t8) fun t157 =>
 yieldS prog S23 (loadAt 3 t157) fun t158 =>
 yieldS prog S23 (binOp .lss 3 t158 (i64 0)) fun t159 =>
 gdY t159 false (fun K => yieldS prog S23 (fieldAt 61 t1 4) K) fun t161 =>
 gdY t159 false (fun K => yieldS prog S23 (loadAt 57 t161) K) fun t162 =>
 gdY t159 false (fun K => K t8) fun t163 =>
 gdY t159 false (fun K => yieldS prog S23 (indexAt 57 t162 t163) K) fun t164 =>
 gdY t159 false (fun K => yieldS prog S23 (loadAt 3 t164) K) fun t165 =>
 gdY t159 false (fun K => yieldS prog S23 (fieldAt 61 t1 3) K) fun t166 =>
 gdY t159 false (fun K => yieldS prog S23 (loadAt 59 t166) K) fun t167 =>
 gdY t159 false (fun K => yieldS prog S23 (Builtin.len_ #[59] 3 #[t167]) K) fun t168 =>
 gdY t159 false (fun K => yieldS prog S23 (binOp .geq 3 t165 t168) K) fun t169 =>
 pickD t159 (.bool true) t169 fun t170 =>
 ifD t170 (
 R (.bool false) w) (
 V prog (binOp .add 3 t8 (i64 1)) w fun t153 w =>
 I4 t153 w ∧ μ4 t153 w < μ4 t8 w123)) (
 V prog (fieldAt 61 t1 3) w127 fun t171 w =>
 V prog (loadAt 59 t171) w fun t172 w =>
 V prog (indexAt 59 t172 (i64 0)) w fun t173 w =>
 V prog (fieldAt 94 t173 0) w fun t174 w =>
 V prog (loadAt 57 t174) w fun t175 w =>
 V prog (Builtin.len_ #[57] 3 #[t175]) w fun t176 w =>
 V prog (do eqGuard .eql 3 (.tmp 176) (.const (i64 0)) t176 (i64 0); binOp .eql 3 t176 (i64 0)) w fun t177 w =>
 gd t177 true (fun K => V prog (fieldAt 61 t1 3) w K) w fun t179 w =>
 gd t177 true (fun K => V prog (loadAt 59 t179) w K) w fun t180 w =>
 gd t177 true (fun K => V prog (indexAt 59 t180 (i64 0)) w K) w fun t181 w =>
 gd t177 true (fun K => V prog (fieldAt 94 t181 1) w K) w fun t182 w =>
 gd t177 true (fun K => V prog (loadAt 3 t182) w K) w fun t183 w =>
 gd t177 true (fun K => V prog (do eqGuard .eql 3 (.tmp 183) (.const (i64 0)) t183 (i64 0); binOp .eql 3 t183 (i64 0)) w K) w fun t184 w =>
 pickD t177 t184 (.bool false) fun t185 =>
 R t185 w))))
theorem F49_wp (h : F49_den t0 w R) : callD prog 49 #[t0] w R :=
  den_wp mixed F49_ann func49 (by kernel_rfl) (by kernel_rfl) h
def F50_ann : Ann := (q (q (.seq (q (.block (.loop (rg 4 7 ++ [9] ++ rg 26 42) [9] (.seq (q (.cond .leaf .leaf)) (.seq (.block (.seq (.draw [0, 0, 0, 4, 0, 24, 32, 67, 128] [0, 0, 0, 4, 0, 24, 32, 67, 128] 0 9 511 (tk (rg 0 6) (.only 7 (.take 8 .done)))) (.cond (q .leaf) .leaf))) .leaf))))) (q (q (q (q (q (.block (.loop (rg 4 7 ++ rg 13 20 ++ rg 59 163) [] (.block (q (.seq (.block (.loop ([13] ++ rg 59 71) [13] (.seq (q (.cond .leaf .leaf)) (.block .leaf)))) (.seq (q (.cond (q .leaf) .leaf)) (q (.seq (.draw [0, 0, 0, 4, 0, 24, 32, 0, 0, 384, 512, 1091, 2048, 4096, 4096, 16383, 65535] [0, 0, 0, 4, 0, 24, 32, 0, 0, 384, 512, 1091, 2048, 4096, 4096, 8192, 16384] 0 17 131071 (tk (rg 0 10) (.only 11 (tk (rg 12 16) .done)))) (.seq (q (.cond (q .leaf) .leaf)) (q (q (.block (.loop (rg 4 7 ++ rg 17 20 ++ rg 107 163) [17] (.seq (q (.cond .leaf .leaf)) (.seq (.block (q (.seq (q (.cond (q .leaf) .leaf)) (.seq (q (.cond (q (q (q .leaf))) .leaf)) (q (.seq (q (.cond (q .leaf) .leaf)) (q (.cond (q .leaf) .leaf)))))))) .leaf)))))))))))))))))))))))
def F50_den (t0 t1 : Value) (w : World) (R : Value → World → Prop) : Prop :=
 V prog (box 61 t0) w fun t2 w =>
 V prog (fieldAt 61 t2 3) w fun t21 w =>
 V prog (loadAt 59 t21) w fun t22 w =>
 V prog (indexAt 59 t22 t1) w fun t24 w =>
 V prog (loadAt 94 t24) w fun t25 w =>
 V prog (alloc 94 true (.tuple #[])) w fun t8 w =>
 U prog (storeAt 94 t8 t25) w fun _ w =>
 ∃ (I1 : NP 1) (μ1 : NF 1), I1 (i64 0) w ∧
 ∀ (t9 : Value), ∀ w8 : World, I1 t9 w8 → ∀ _f : Env,
 V prog (fieldAt 94 t8 3) w8 fun t27 w =>
 V prog (loadAt 92 t27) w fun t28 w =>
 V prog (Builtin.len_ #[92] 3 #[t28]) w fun t29 w =>
 V prog (binOp .lss 3 t9 t29) w fun t30 w12 =>
 ifD t30 (
 drawD w12 fun S5 w =>
 yieldS prog S5 (loadAt 61 t2) fun t33 =>
 yieldS prog S5 (loadAt 94 t8) fun t34 =>
 yieldS prog S5 (fieldAt 94 t8 3) fun t35 =>
 yieldS prog S5 (loadAt 92 t35) fun t36 =>
 yieldS prog S5 (indexAt 92 t36 t9) fun t38 =>
 yieldS prog S5 (loadAt 97 t38) fun t39 =>
 callD prog 74 #[t33, t34, t39] w fun t40 w =>
 S5 w ∧
 yieldS prog S5 (Op.unary UnOp.not t40) fun t41 =>
 ifD t41 (
 R (.tuple #[nilS, nilS, t9, (i64 9)]) w) (
 V prog (binOp .add 3 t9 (i64 1)) w fun t32 w =>
 I1 t32 w ∧ μ1 t32 w < μ1 t9 w8)) (
 V prog (fieldAt 94 t8 3) w12 fun t43 w =>
 V prog (loadAt 92 t43) w fun t44 w =>
 V prog (Builtin.len_ #[92] 3 #[t44]) w fun t45 w =>
 V prog (makeSlice 99 t45 t45) w fun t46 w =>
 V prog (fieldAt 94 t8 3) w fun t47 w =>
 V prog (loadAt 92 t47) w fun t48 w =>
 V prog (Builtin.len_ #[92] 3 #[t48]) w fun t49 w =>
 V prog (makeSlice 100 t49 t49) w fun t50 w =>
 V prog (fieldAt 94 t8 3) w fun t51 w =>
 V prog (loadAt 92 t51) w fun t52 w =>
 V prog (Builtin.len_ #[92] 3 #[t52]) w fun t53 w =>
 V prog (makeSlice 100 t53 t53) w fun t54 w =>
 V prog (indexAt 100 t50 (i64 0)) w fun t56 w =>
 U prog (storeAt 4 t56 (.bool true)) w fun _ w =>
 V prog (indexAt 100 t54 (i64 0)) w fun t58 w =>
 U prog (storeAt 4 t58 (.bool true)) w fun _ w =>
 ∃ (I2 : NP 0) (μ2 : NF 0), I2 w ∧
 ∀ w32 : World, I2 w32 → ∀ _f : Env,
 ∃ (I3 : NP 1) (μ3 : NF 1), I3 (i64 0) w32 ∧
 ∀ (t13 : Value), ∀ w33 : World, I3 t13 w33 → ∀ _f : Env,
 V prog (Builtin.len_ #[100] 3 #[t54]) w33 fun t61 w =>
 V prog (binOp .lss 3 t13 t61) w fun t62 w =>
 gd t62 true (fun K => K t54 w) w fun t64 w =>
 gd t62 true (fun K => K t13 w) w fun t65 w =>
 gd t62 true (fun K => V prog (indexAt 100 t64 t65) w K) w fun t66 w =>
 gd t62 true (fun K => V prog (loadAt 4 t66) w K) w fun t67 w =>
 gd t62 true (fun K => V prog (Op.unary UnOp.not t67) w K) w fun t68 w40 =>
 pickD t62 t68 (.bool false) fun t69 =>
 ifD t69 (
 V prog (binOp .add 3 t13 (i64 1)) w40 fun t71 w =>
 I3 t71 w ∧ μ3 t71 w < μ3 t13 w33) (
 V prog (Builtin.len_ #[100] 3 #[t54]) w40 fun t74 w =>
 V prog (do eqGuard .eql 3 (.tmp 72) (.tmp 74) t13 t74; binOp .eql 3 t13 t74) w fun t75 w =>
 ifD t75 (
 R (.tuple #[t46, t50, (i64 0), (i64 0)]) w) (
 V prog (indexAt 100 t54 t13) w fun t80 w =>
 U prog (storeAt 4 t80 (.bool false)) w fun _ w =>
 drawD w fun S18 w =>
 yieldS prog S18 (loadAt 61 t2) fun t82 =>
 yieldS prog S18 (loadAt 94 t8) fun t83 =>
 yieldS prog S18 (fieldAt 94 t8 3) fun t84 =>
 yieldS prog S18 (loadAt 92 t84) fun t85 =>
 yieldS prog S18 (indexAt 92 t85 t13) fun t87 =>
 yieldS prog S18 (loadAt 97 t87) fun t88 =>
 yieldS prog S18 (indexAt 99 t46 t13) fun t91 =>
 yieldS prog S18 (loadAt 57 t91) fun t92 =>
 callD prog 75 #[t82, t83, t88, t92] w fun t93 w =>
 S18 w ∧
 yieldS prog S18 (extract t93 0) fun t94 =>
 yieldS prog S18 (extract t93 1) fun t95 =>
 V prog (do eqGuard .neq 48 (.tmp 96) (.const (i64 0)) t95 (i64 0); binOp .neq 48 t95 (i64 0)) w fun t97 w =>
 ifD t97 (
 R (.tuple #[nilS, nilS, t13, t95]) w) (
 V prog (fieldAt 94 t8 3) w fun t100 w =>
 V prog (loadAt 92 t100) w fun t101 w =>
 V prog (indexAt 92 t101 t13) w fun t103 w =>
 V prog (loadAt 97 t103) w fun t104 w =>
 callD prog 76 #[t104, t13] w fun t106 w =>
 ∃ (I4 : NP 1) (μ4 : NF 1), I4 (i64 0) w ∧
 ∀ (t17 : Value), ∀ w55 : World, I4 t17 w55 → ∀ _f : Env,
 V prog (Builtin.len_ #[57] 3 #[t106]) w55 fun t109 w =>
 V prog (binOp .lss 3 t17 t109) w fun t110 w57 =>
 ifD t110 (
 V prog (indexAt 57 t106 t17) w57 fun t115 w =>
 V prog (loadAt 3 t115) w fun t116 w =>
 V prog (fieldAt 94 t8 3) w fun t118 w =>
 V prog (loadAt 92 t118) w fun t119 w =>
 V prog (Builtin.len_ #[92] 3 #[t119]) w fun t120 w =>
 V prog (binOp .geq 3 t116 t120) w fun t121 w =>
 ifD t121 (
 R (.tuple #[nilS, nilS, t13, (i64 13)]) w) (
 V prog (indexAt 100 t50 t116) w fun t125 w =>
 V prog (loadAt 4 t125) w fun t126 w =>
 V prog (Op.unary UnOp.not t126) w fun t127 w66 =>
 ifD t127 (
 V prog (indexAt 99 t46 t116) w66 fun t131 w =>
 U prog (storeAt 57 t131 t94) w fun _ w =>
 V prog (indexAt 100 t50 t116) w fun t134 w =>
 U prog (storeAt 4 t134 (.bool true)) w fun _ w =>
 V prog (indexAt 100 t54 t116) w fun t137 w =>
 U prog (storeAt 4 t137 (.bool true)) w fun _ w =>
 V prog (binOp .add 3 t17 (i64 1)) w fun t112 w =>
 I4 t112 w ∧ μ4 t112 w < μ4 t17 w55) (
 V prog (indexAt 99 t46 t116) w66 fun t141 w =>
 V prog (loadAt 57 t141) w fun t142 w =>
 callD prog 77 #[t142, t94] w fun t144 w =>
 V prog (extract t144 0) w fun t145 w =>
 V prog (extract t144 1) w fun t146 w =>
 V prog (Op.unary UnOp.not t146) w fun t148 w =>
 ifD t148 (
 R (.tuple #[nilS, nilS, t13, (i64 14)]) w) (
 V prog (indexAt 99 t46 t116) w fun t153 w =>
 V prog (loadAt 57 t153) w fun t154 w =>
 callD prog 78 #[t145, t154] w fun t155 w =>
 V prog (Op.unary UnOp.not t155) w fun t156 w83 =>
 ifD t156 (
 V prog (indexAt 99 t46 t116) w83 fun t160 w =>
 U prog (storeAt 57 t160 t145) w fun _ w =>
 V prog (indexAt 100 t54 t116) w fun t163 w =>
 U prog (storeAt 4 t163 (.bool true)) w fun _ w =>
 V prog (binOp .add 3 t17 (i64 1)) w fun t112_1 w =>
 I4 t112_1 w ∧ μ4 t112_1 w < μ4 t17 w55) (
 V prog (binOp .add 3 t17 (i64 1)) w83 fun t112_2 w =>
 I4 t112_2 w ∧ μ4 t112_2 w < μ4 t17 w55))))) (
 I2 w57 ∧ μ2 w57 < μ2 w32)))))
theorem F50_wp (h : F50_den t0 t1 w R) : callD prog 50 #[t0, t1] w R :=
  den_wp mixed F50_ann func50 (by kernel_rfl) (by kernel_rfl) h
def F51_ann : Ann := .leaf
def F51_den (t0 t1 : Value) (w : World) (R : Value → World → Prop) : Prop :=
 Go.Vc.Safe (t0) ∧
 V prog (fieldAt 105 t0 0) w fun t7 w =>
 V prog (loadAt 23 t7) w fun t8 w =>
 V prog (Builtin.append_ #[23, 23] 23 #[t8, t1]) w fun t10 w =>
 Go.Vc.Safe (t0) ∧
 V prog (fieldAt 105 t0 0) w fun t12 w =>
 U prog (storeAt 23 t12 t10) w fun _ w =>
 R (.tuple #[]) w
theorem F51_wp (h : F51_den t0 t1 w R) : callD prog 51 #[t0, t1] w R :=
  den_wp mixed F51_ann func51 (by kernel_rfl) (by kernel_rfl) h
def F52_ann : Ann := .leaf
def F52_den (t0 t1 : Value) (w : World) (R : Value → World → Prop) : Prop :=
 callD prog 79 #[t0, t1, (i64 1)] w fun _ w =>
 R (.tuple #[]) w
theorem F52_wp (h : F52_den t0 t1 w R) : callD prog 52 #[t0, t1] w R :=
  den_wp mixed F52_ann func52 (by kernel_rfl) (by kernel_rfl) h
def F53_ann : Ann := (q (.seq (q (.cond (q .leaf) .leaf)) (q (q (q .leaf)))))
def F53_den (t0 t1 : Value) (w : World) (R : Value → World → Prop) : Prop :=
 V prog (Builtin.len_ #[23] 3 #[t1]) w fun t6 w =>
 V prog (binOp .gtr 3 t6 (i64 255)) w fun t7 w =>
 ifD t7 (
 R (.bool false) w) (
 V prog (Builtin.len_ #[23] 3 #[t1]) w fun t10 w =>
 callD prog 52 #[t0, t10] w fun _ w =>
 callD prog 51 #[t0, t1] w fun _ w =>
 R (.bool true) w)
theorem F53_wp (h : F53_den t0 t1 w R) : callD prog 53 #[t0, t1] w R :=
  den_wp mixed F53_ann func53 (by kernel_rfl) (by kernel_rfl) h
def F54_ann : Ann := (q (q (.block (.loop ([4] ++ rg 9 20) [4] (.seq (q (.cond .leaf .leaf)) (.seq (.block .leaf) .leaf))))))
def F54_den (t0 t1 : Value) (w : World) (R : Value → World → Prop) : Prop :=
 V prog (Builtin.len_ #[57] 3 #[t1]) w fun t7 w =>
 callD prog 52 #[t0, t7] w fun _ w =>
 ∃ (I1 : NP 1) (μ1 : NF 1), I1 (i64 0) w ∧
 ∀ (t4 : Value), ∀ w3 : World, I1 t4 w3 → ∀ _f : Env,
 V prog (Builtin.len_ #[57] 3 #[t1]) w3 fun t11 w =>
 V prog (binOp .lss 3 t4 t11) w fun t12 w5 =>
 ifD t12 (
 V prog (indexAt 57 t1 t4) w5 fun t18 w =>
 V prog (loadAt 3 t18) w fun t19 w =>
 callD prog 52 #[t0, t19] w fun _ w =>
 V prog (binOp .add 3 t4 (i64 1)) w fun t14 w =>
 I1 t14 w ∧ μ1 t14 w < μ1 t4 w3) (
 R (.tuple #[]) w5)
theorem F54_wp (h : F54_den t0 t1 w R) : callD prog 54 #[t0, t1] w R :=
  den_wp mixed F54_ann func54 (by kernel_rfl) (by kernel_rfl) h
def F55_ann : Ann := (q (q (.block (q (.cond .leaf (q (.cond .leaf (q (.cond (q .leaf) (q (.cond .leaf .leaf)))))))))))
def F55_den (t0 t1 : Value) (w : World) (R : Value → World → Prop) : Prop :=
 V prog (box 97 t1) w fun t3 w =>
 V prog (fieldAt 97 t3 0) w fun t5 w =>
 V prog (loadAt 3 t5) w fun t6 w =>
 callD prog 52 #[t0, t6] w fun _ w =>
 V prog (fieldAt 97 t3 0) w fun t9 w =>
 V prog (loadAt 3 t9) w fun t10 w =>
 V prog (do eqGuard .eql 3 (.tmp 10) (.const (i64 1)) t10 (i64 1); binOp .eql 3 t10 (i64 1)) w fun t11 w7 =>
 ifD t11 (
 V prog (fieldAt 97 t3 1) w7 fun t13 w =>
 V prog (loadAt 3 t13) w fun t14 w =>
 callD prog 80 #[t0, t14] w fun _ w =>
 R (.tuple #[]) w) (
 V prog (fieldAt 97 t3 0) w7 fun t17 w =>
 V prog (loadAt 3 t17) w fun t18 w =>
 V prog (do eqGuard .eql 3 (.tmp 18) (.const (i64 23)) t18 (i64 23); binOp .eql 3 t18 (i64 23)) w fun t19 w =>
 gd t19 false (fun K => V prog (fieldAt 97 t3 0) w K) w fun t21 w =>
 gd t19 false (fun K => V prog (loadAt 3 t21) w K) w fun t22 w =>
 gd t19 false (fun K => V prog (do eqGuard .eql 3 (.tmp 22) (.const (i64 24)) t22 (i64 24); binOp .eql 3 t22 (i64 24)) w K) w fun t23 w16 =>
 pickD t19 (.bool true) t23 fun t24 =>
 ifD t24 (
 V prog (fieldAt 97 t3 1) w16 fun t26 w =>
 V prog (loadAt 3 t26) w fun t27 w =>
 callD prog 81 #[t0, t27] w fun _ w =>
 R (.tuple #[]) w) (
 V prog (fieldAt 97 t3 0) w16 fun t30 w =>
 V prog (loadAt 3 t30) w fun t31 w =>
 V prog (do eqGuard .eql 3 (.tmp 31) (.const (i64 27)) t31 (i64 27); binOp .eql 3 t31 (i64 27)) w fun t32 w23 =>
 ifD t32 (
 V prog (fieldAt 97 t3 1) w23 fun t34 w =>
 V prog (loadAt 3 t34) w fun t35 w =>
 callD prog 52 #[t0, t35] w fun _ w =>
 V prog (fieldAt 97 t3 2) w fun t38 w =>
 V prog (loadAt 3 t38) w fun t39 w =>
 callD prog 52 #[t0, t39] w fun _ w =>
 R (.tuple #[]) w) (
 V prog (fieldAt 97 t3 0) w23 fun t42 w =>
 V prog (loadAt 3 t42) w fun t43 w =>
 callD prog 82 #[t43] w fun t44 w =>
 V prog (do eqGuard .eql 3 (.tmp 44) (.const (i64 1)) t44 (i64 1); binOp .eql 3 t44 (i64 1)) w fun t45 w33 =>
 ifD t45 (
 V prog (fieldAt 97 t3 1) w33 fun t47 w =>
 V prog (loadAt 3 t47) w fun t48 w =>
 callD prog 52 #[t0, t48] w fun _ w =>
 R (.tuple #[]) w) (
 R (.tuple #[]) w33))))
theorem F55_wp (h : F55_den t0 t1 w R) : callD prog 55 #[t0, t1] w R :=
  den_wp mixed F55_ann func55 (by kernel_rfl) (by kernel_rfl) h
def F60_ann : Ann := (q (q (.seq (q (.cond (q .leaf) .leaf)) (q .leaf))))
def F60_den (t0 : Value) (w : World) (R : Value → World → Prop) : Prop :=
 callD prog 91 #[t0] w fun t8 w =>
 V prog (extract t8 0) w fun t9 w =>
 V prog (extract t8 1) w fun t10 w =>
 V prog (do eqGuard .neq 48 (.tmp 11) (.const (i64 0)) t10 (i64 0); binOp .neq 48 t10 (i64 0)) w fun t12 w =>
 ifD t12 (
 R (.tuple #[(Value.pointer none), t10]) w) (
 V prog (build 172 #[(0, t9)]) w fun t15 w =>
 V prog (box 172 t15) w fun t16 w =>
 R (.tuple #[t16, (i64 0)]) w)
theorem F60_wp (h : F60_den t0 w R) : callD prog 60 #[t0] w R :=
  den_wp mixed F60_ann func60 (by kernel_rfl) (by kernel_rfl) h
def F61_ann : Ann := (q (q .leaf))
def F61_den (w : World) (R : Value → World → Prop) : Prop :=
 V prog (build 175 #[]) w fun t1 w =>
 V prog (box 175 t1) w fun t2 w =>
 R t2 w
theorem F61_wp (h : F61_den w R) : callD prog 61 #[] w R :=
  den_wp mixed F61_ann func61 (by kernel_rfl) (by kernel_rfl) h
def F64_ann : Ann := (.seq (q (.cond (.draw [0, 1, 0, 4, 8, 16, 34] [0, 1, 0, 4, 8, 16, 34] 0 7 127 (tk ([0] ++ rg 2 5) (.only 1 (.only 6 .done)))) .leaf)) .leaf)
def F64_den (t0 : Value) (w : World) (R : Value → World → Prop) : Prop :=
 Go.Vc.Safe (t0) ∧
 V prog (fieldAt 127 t0 2) w fun t4 w =>
 V prog (loadAt 3 t4) w fun t5 w =>
 V prog (do eqGuard .neq 3 (.tmp 5) (.const (i64 (-1))) t5 (i64 (-1)); binOp .neq 3 t5 (i64 (-1))) w fun t6 w4 =>
 ifD t6 (
 drawD w4 fun S1 w =>
 Go.Vc.Safe (t0) ∧
 yieldS prog S1 (fieldAt 127 t0 2) fun t11 =>
 yieldS prog S1 (loadAt 3 t11) fun t12 =>
 callD prog 65 #[t0] w fun t8 w =>
 S1 w ∧
 callD prog 66 #[t8, (i64 2), t12] w fun _ w =>
 S1 w ∧
 Go.Vc.Safe (t0) ∧
 V prog (fieldAt 127 t0 2) w fun t16 w =>
 U prog (storeAt 3 t16 (i64 (-1))) w fun _ w =>
 R (.tuple #[]) w) (
 Go.Vc.Safe (t0) ∧
 V prog (fieldAt 127 t0 2) w4 fun t16_1 w =>
 U prog (storeAt 3 t16_1 (i64 (-1))) w fun _ w =>
 R (.tuple #[]) w)
theorem F64_wp (h : F64_den t0 w R) : callD prog 64 #[t0] w R :=
  den_wp mixed F64_ann func64 (by kernel_rfl) (by kernel_rfl) h
def F69_ann : Ann := (q (q (.block (.join (rg 30 33) [30] (q (.cond .leaf (q (.cond .leaf .leaf)))) (.cond (.seq (q (.cond .leaf .leaf)) (.seq (.draw [0, 1, 0, 4, 8, 16, 32, 66, 255] [0, 1, 0, 4, 8, 16, 32, 66, 128] 0 9 511 (tk (rg 0 6) (.only 7 (.take 8 .done)))) (q .leaf))) (.join [60, 61, 62] [60] (q (.cond .leaf .leaf)) (.cond (q (q (q (q .leaf)))) (q (.cond (q (q .leaf)) (q (.cond (q (q (.join [14, 100, 101, 102] [14] (q (.cond .leaf .leaf)) (q (q (q (q (q .leaf)))))))) (.join [117, 118, 119] [117] (q (.cond .leaf .leaf)) (.cond (q (q (q (q .leaf)))) (.join [136, 137, 138] [136] (q (.cond .leaf .leaf)) (.cond (q (q (q (.cond (.draw [0, 1, 2, 4, 0, 16, 32, 64, 128, 256, 0, 0, 2048, 0, 8192, 20480, 33792, 65536, 262143, 524287, 786431] [0, 1, 2, 4, 0, 16, 32, 64, 128, 256, 0, 0, 2048, 0, 8192, 20480, 33792, 65536, 520, 262144, 655360] 0 20 1048575 (tk (rg 0 14) (.only 15 (tk (rg 16 19) (.last 20))))) .leaf)))) (.join [172, 173, 174] [172] (q (.cond .leaf .leaf)) (.cond (q (.join ([16] ++ rg 180 190) [16] (q (.cond .leaf .leaf)) (.seq (q (.block (.loop ([17] ++ rg 191 210) [17] (.seq (q (.cond .leaf .leaf)) (.seq (.block .leaf) .leaf))))) (q (q (.cond .leaf .leaf)))))) (q (.cond (.seq (q (.cond .leaf .leaf)) (q (.seq (q (.block (.loop ([19] ++ rg 232 251) [19] (.seq (q (.cond .leaf .leaf)) (.seq (.block .leaf) .leaf))))) (q (q (.cond .leaf .leaf)))))) (q (.cond (q (q (q .leaf))) (q .leaf))))))))))))))))))))))
def F69_den (t0 t1 t2 t3 t4 : Value) (w : World) (R : Value → World → Prop) : Prop :=
 V prog (box 143 t1) w fun t6 w =>
 V prog (fieldAt 143 t6 0) w fun t20 w =>
 V prog (loadAt 3 t20) w fun t21 w =>
 callD prog 9 #[t21, (i64 16)] w fun t22 w =>
 ∃ J1 : NP 1,
 (V prog (do eqGuard .eql 3 (.tmp 22) (.const (i64 0)) t22 (i64 0); binOp .eql 3 t22 (i64 0)) w fun t31 w =>
 ifD t31 (
 J1 t31 w) (
 V prog (do eqGuard .eql 3 (.tmp 22) (.const (i64 1)) t22 (i64 1); binOp .eql 3 t22 (i64 1)) w fun t32 w =>
 ifD t32 (
 J1 t32 w) (
 V prog (do eqGuard .eql 3 (.tmp 22) (.const (i64 2)) t22 (i64 2); binOp .eql 3 t22 (i64 2)) w fun t33 w =>
 J1 t33 w))) ∧
 ∀ (t30 : Value), ∀ w8 : World, J1 t30 w8 → ∀ _f : Env,
 ifD t30 (
 Go.Vc.Safe (t0) ∧
 V prog (fieldAt 141 t0 3) w8 fun t36 w =>
 V prog (loadAt 57 t36) w fun t37 w =>
 V prog (Builtin.len_ #[57] 3 #[t37]) w fun t38 w =>
 V prog (do eqGuard .eql 3 (.tmp 38) (.const (i64 0)) t38 (i64 0); binOp .eql 3 t38 (i64 0)) w fun t39 w =>
 ifD t39 (
 R (.tuple #[]) w) (
 drawD w fun S8 w =>
 yieldS prog S8 (fieldAt 143 t6 1) fun t40 =>
 yieldS prog S8 (loadAt 3 t40) fun t41 =>
 Go.Vc.Safe (t0) ∧
 yieldS prog S8 (fieldAt 141 t0 3) fun t44 =>
 yieldS prog S8 (loadAt 57 t44) fun t45 =>
 yieldS prog S8 (Builtin.len_ #[57] 3 #[t45]) fun t46 =>
 callD prog 9 #[t41, t46] w fun t47 w =>
 S8 w ∧
 Go.Vc.Safe (t0) ∧
 V prog (fieldAt 141 t0 3) w fun t51 w =>
 V prog (loadAt 57 t51) w fun t52 w =>
 V prog (indexAt 57 t52 t47) w fun t54 w =>
 V prog (loadAt 3 t54) w fun t55 w =>
 callD prog 70 #[t0, t55] w fun _ w =>
 callD prog 71 #[t0, (i64 3), t47, (i64 0)] w fun _ w =>
 R (.tuple #[]) w)) (
 ∃ J2 : NP 1,
 (V prog (do eqGuard .eql 3 (.tmp 22) (.const (i64 3)) t22 (i64 3); binOp .eql 3 t22 (i64 3)) w8 fun t61 w =>
 ifD t61 (
 J2 t61 w) (
 V prog (do eqGuard .eql 3 (.tmp 22) (.const (i64 4)) t22 (i64 4); binOp .eql 3 t22 (i64 4)) w fun t62 w =>
 J2 t62 w)) ∧
 ∀ (t60 : Value), ∀ w25 : World, J2 t60 w25 → ∀ _f : Env,
 ifD t60 (
 V prog (fieldAt 143 t6 1) w25 fun t63 w =>
 V prog (loadAt 3 t63) w fun t64 w =>
 callD prog 9 #[t64, (i64 2)] w fun t65 w =>
 V prog (binOp .add 3 (i64 3) t65) w fun t66 w =>
 callD prog 103 #[t0, t66] w fun _ w =>
 callD prog 104 #[t0] w fun _ w =>
 V prog (binOp .sub 3 t66 (i64 2)) w fun t74 w =>
 callD prog 70 #[t0, t74] w fun _ w =>
 callD prog 71 #[t0, (i64 30), (i64 0), (i64 0)] w fun _ w =>
 R (.tuple #[]) w) (
 V prog (do eqGuard .eql 3 (.tmp 22) (.const (i64 5)) t22 (i64 5); binOp .eql 3 t22 (i64 5)) w25 fun t79 w35 =>
 ifD t79 (
 V prog (fieldAt 143 t6 1) w35 fun t80 w =>
 V prog (loadAt 3 t80) w fun t81 w =>
 callD prog 9 #[t81, (i64 4)] w fun t82 w =>
 V prog (binOp .add 3 (i64 1) t82) w fun t85 w =>
 callD prog 70 #[t0, t85] w fun _ w =>
 callD prog 71 #[t0, (i64 34), t82, (i64 0)] w fun _ w =>
 R (.tuple #[]) w) (
 V prog (do eqGuard .eql 3 (.tmp 22) (.const (i64 6)) t22 (i64 6); binOp .eql 3 t22 (i64 6)) w35 fun t91 w42 =>
 ifD t91 (
 V prog (fieldAt 143 t6 1) w42 fun t92 w =>
 V prog (loadAt 3 t92) w fun t93 w =>
 callD prog 9 #[t93, (i64 2)] w fun t94 w =>
 V prog (binOp .add 3 (i64 3) t94) w fun t95 w =>
 V prog (fieldAt 143 t6 2) w fun t96 w =>
 V prog (loadAt 3 t96) w fun t97 w =>
 callD prog 9 #[t97, (i64 2)] w fun t98 w =>
 V prog (binOp .add 3 (i64 3) t98) w fun t99 w =>
 ∃ J3 : NP 1,
 (V prog (do eqGuard .eql 3 (.tmp 100) (.const (i64 3)) t95 (i64 3); binOp .eql 3 t95 (i64 3)) w fun t101 w =>
 ifD t101 (
 J3 t95 w) (
 J3 t99 w)) ∧
 ∀ (t14 : Value), ∀ w : World, J3 t14 w → ∀ _f : Env,
 callD prog 103 #[t0, t95] w fun _ w =>
 callD prog 104 #[t0] w fun _ w =>
 callD prog 103 #[t0, t14] w fun _ w =>
 callD prog 104 #[t0] w fun _ w =>
 callD prog 104 #[t0] w fun _ w =>
 callD prog 71 #[t0, (i64 31), (i64 0), (i64 0)] w fun _ w =>
 R (.tuple #[]) w) (
 ∃ J4 : NP 1,
 (V prog (do eqGuard .eql 3 (.tmp 22) (.const (i64 7)) t22 (i64 7); binOp .eql 3 t22 (i64 7)) w42 fun t118 w =>
 ifD t118 (
 J4 t118 w) (
 V prog (do eqGuard .eql 3 (.tmp 22) (.const (i64 8)) t22 (i64 8); binOp .eql 3 t22 (i64 8)) w fun t119 w =>
 J4 t119 w)) ∧
 ∀ (t117 : Value), ∀ w61 : World, J4 t117 w61 → ∀ _f : Env,
 ifD t117 (
 V prog (fieldAt 143 t6 1) w61 fun t120 w =>
 V prog (loadAt 3 t120) w fun t121 w =>
 callD prog 9 #[t121, (i64 2)] w fun t122 w =>
 V prog (binOp .add 3 (i64 1) t122) w fun t123 w =>
 V prog (binOp .add 3 (i64 3) t123) w fun t126 w =>
 V prog (binOp .sub 3 t126 (i64 1)) w fun t127 w =>
 callD prog 103 #[t0, t127] w fun _ w =>
 callD prog 104 #[t0] w fun _ w =>
 callD prog 104 #[t0] w fun _ w =>
 callD prog 71 #[t0, (i64 36), t123, (i64 0)] w fun _ w =>
 R (.tuple #[]) w) (
 ∃ J5 : NP 1,
 (V prog (do eqGuard .eql 3 (.tmp 22) (.const (i64 9)) t22 (i64 9); binOp .eql 3 t22 (i64 9)) w61 fun t137 w =>
 ifD t137 (
 J5 t137 w) (
 V prog (do eqGuard .eql 3 (.tmp 22) (.const (i64 10)) t22 (i64 10); binOp .eql 3 t22 (i64 10)) w fun t138 w =>
 J5 t138 w)) ∧
 ∀ (t136 : Value), ∀ w74 : World, J5 t136 w74 → ∀ _f : Env,
 ifD t136 (
 callD prog 105 #[t0] w74 fun _ w =>
 callD prog 71 #[t0, (i64 24), (i64 (-1)), (i64 0)] w fun _ w =>
 V prog (fieldAt 143 t6 1) w fun t143 w =>
 V prog (loadAt 3 t143) w fun t144 w =>
 callD prog 9 #[t144, (i64 4)] w fun t145 w =>
 V prog (do eqGuard .eql 3 (.tmp 145) (.const (i64 0)) t145 (i64 0); binOp .eql 3 t145 (i64 0)) w fun t146 w =>
 gd t146 true (fun K => K t2 w) w fun t148 w =>
 gd t146 true (fun K => V prog (Builtin.len_ #[57] 3 #[t148]) w K) w fun t149 w =>
 gd t146 true (fun K => V prog (binOp .gtr 3 t149 (i64 0)) w K) w fun t150 w83 =>
 pickD t146 t150 (.bool false) fun t151 =>
 ifD t151 (
 drawD w83 fun S45 w =>
 Go.Vc.Safe (t0) ∧
 yieldS prog S45 (fieldAt 141 t0 0) fun t154 =>
 yieldS prog S45 (loadAt 92 t154) fun t155 =>
 Go.Vc.Safe (t0) ∧
 yieldS prog S45 (fieldAt 141 t0 0) fun t158 =>
 yieldS prog S45 (loadAt 92 t158) fun t159 =>
 yieldS prog S45 (Builtin.len_ #[92] 3 #[t159]) fun t160 =>
 yieldS prog S45 (binOp .sub 3 t160 (i64 1)) fun t161 =>
 yieldS prog S45 (fieldAt 143 t6 2) fun t163 =>
 yieldS prog S45 (loadAt 3 t163) fun t164 =>
 yieldS prog S45 (Builtin.len_ #[57] 3 #[t2]) fun t166 =>
 callD prog 9 #[t164, t166] w fun t167 w =>
 S45 w ∧
 yieldS prog S45 (indexAt 57 t2 t167) fun t168 =>
 yieldS prog S45 (loadAt 3 t168) fun t169 =>
 yieldS prog S45 (indexAt 92 t155 t161) fun t170 =>
 yieldS prog S45 (fieldAt 97 t170 1) fun t171 =>
 U prog (storeAt 3 t171 t169) w fun _ w =>
 R (.tuple #[]) w) (
 R (.tuple #[]) w83)) (
 ∃ J6 : NP 1,
 (V prog (do eqGuard .eql 3 (.tmp 22) (.const (i64 11)) t22 (i64 11); binOp .eql 3 t22 (i64 11)) w74 fun t173 w =>
 ifD t173 (
 J6 t173 w) (
 V prog (do eqGuard .eql 3 (.tmp 22) (.const (i64 12)) t22 (i64 12); binOp .eql 3 t22 (i64 12)) w fun t174 w =>
 J6 t174 w)) ∧
 ∀ (t172 : Value), ∀ w90 : World, J6 t172 w90 → ∀ _f : Env,
 ifD t172 (
 V prog (fieldAt 143 t6 1) w90 fun t175 w =>
 V prog (loadAt 3 t175) w fun t176 w =>
 V prog (Builtin.len_ #[59] 3 #[t3]) w fun t178 w =>
 callD prog 9 #[t176, t178] w fun t179 w =>
 ∃ J7 : NP 1,
 (V prog (do eqGuard .eql 3 (.tmp 180) (.const (i64 0)) t179 (i64 0); binOp .eql 3 t179 (i64 0)) w fun t181 w =>
 gd t181 true (fun K => V prog (fieldAt 143 t6 2) w K) w fun t183 w =>
 gd t181 true (fun K => V prog (loadAt 3 t183) w K) w fun t184 w =>
 gd t181 true (fun K => V prog (binOp .rem 3 t184 (i64 5)) w K) w fun t185 w =>
 gd t181 true (fun K => V prog (binOp .gtr 3 t185 (i64 0)) w K) w fun t186 w99 =>
 pickD t181 t186 (.bool false) fun t187 =>
 ifD t187 (
 V prog (Builtin.len_ #[59] 3 #[t3]) w99 fun t189 w =>
 V prog (binOp .sub 3 t189 (i64 1)) w fun t190 w =>
 J7 t190 w) (
 J7 t179 w99)) ∧
 ∀ (t16 : Value), ∀ w : World, J7 t16 w → ∀ _f : Env,
 ∃ (I8 : NP 1) (μ8 : NF 1), I8 (i64 0) w ∧
 ∀ (t17 : Value), ∀ w104 : World, I8 t17 w104 → ∀ _f : Env,
 V prog (indexAt 59 t3 t16) w104 fun t194 w =>
 V prog (fieldAt 94 t194 0) w fun t195 w =>
 V prog (loadAt 57 t195) w fun t196 w =>
 V prog (Builtin.len_ #[57] 3 #[t196]) w fun t197 w =>
 V prog (binOp .lss 3 t17 t197) w fun t198 w109 =>
 ifD t198 (
 V prog (indexAt 59 t3 t16) w109 fun t204 w =>
 V prog (fieldAt 94 t204 0) w fun t205 w =>
 V prog (loadAt 57 t205) w fun t206 w =>
 V prog (indexAt 57 t206 t17) w fun t208 w =>
 V prog (loadAt 3 t208) w fun t209 w =>
 callD prog 70 #[t0, t209] w fun _ w =>
 V prog (binOp .add 3 t17 (i64 1)) w fun t200 w =>
 I8 t200 w ∧ μ8 t200 w < μ8 t17 w104) (
 callD prog 71 #[t0, (i64 37), t16, (i64 0)] w109 fun _ w =>
 V prog (indexAt 59 t3 t16) w fun t216 w =>
 V prog (fieldAt 94 t216 1) w fun t217 w =>
 V prog (loadAt 3 t217) w fun t218 w =>
 V prog (do eqGuard .neq 3 (.tmp 218) (.const (i64 0)) t218 (i64 0); binOp .neq 3 t218 (i64 0)) w fun t219 w121 =>
 ifD t219 (
 callD prog 71 #[t0, (i64 4), (i64 0), (i64 0)] w121 fun _ w =>
 R (.tuple #[]) w) (
 R (.tuple #[]) w121))) (
 V prog (do eqGuard .eql 3 (.tmp 22) (.const (i64 13)) t22 (i64 13); binOp .eql 3 t22 (i64 13)) w90 fun t223 w123 =>
 ifD t223 (
 V prog (Builtin.len_ #[58] 3 #[t4]) w123 fun t225 w =>
 V prog (do eqGuard .eql 3 (.tmp 225) (.const (i64 0)) t225 (i64 0); binOp .eql 3 t225 (i64 0)) w fun t226 w =>
 ifD t226 (
 R (.tuple #[]) w) (
 V prog (fieldAt 143 t6 1) w fun t227 w =>
 V prog (loadAt 3 t227) w fun t228 w =>
 V prog (Builtin.len_ #[58] 3 #[t4]) w fun t230 w =>
 callD prog 9 #[t228, t230] w fun t231 w =>
 ∃ (I9 : NP 1) (μ9 : NF 1), I9 (i64 0) w ∧
 ∀ (t19 : Value), ∀ w130 : World, I9 t19 w130 → ∀ _f : Env,
 V prog (indexAt 58 t4 t231) w130 fun t235 w =>
 V prog (fieldAt 91 t235 2) w fun t236 w =>
 V prog (loadAt 57 t236) w fun t237 w =>
 V prog (Builtin.len_ #[57] 3 #[t237]) w fun t238 w =>
 V prog (binOp .lss 3 t19 t238) w fun t239 w135 =>
 ifD t239 (
 V prog (indexAt 58 t4 t231) w135 fun t245 w =>
 V prog (fieldAt 91 t245 2) w fun t246 w =>
 V prog (loadAt 57 t246) w fun t247 w =>
 V prog (indexAt 57 t247 t19) w fun t249 w =>
 V prog (loadAt 3 t249) w fun t250 w =>
 callD prog 70 #[t0, t250] w fun _ w =>
 V prog (binOp .add 3 t19 (i64 1)) w fun t241 w =>
 I9 t241 w ∧ μ9 t241 w < μ9 t19 w130) (
 callD prog 71 #[t0, (i64 38), t231, (i64 0)] w135 fun _ w =>
 V prog (indexAt 58 t4 t231) w fun t257 w =>
 V prog (fieldAt 91 t257 3) w fun t258 w =>
 V prog (loadAt 3 t258) w fun t259 w =>
 V prog (do eqGuard .neq 3 (.tmp 259) (.const (i64 0)) t259 (i64 0); binOp .neq 3 t259 (i64 0)) w fun t260 w147 =>
 ifD t260 (
 callD prog 71 #[t0, (i64 4), (i64 0), (i64 0)] w147 fun _ w =>
 R (.tuple #[]) w) (
 R (.tuple #[]) w147)))) (
 V prog (do eqGuard .eql 3 (.tmp 22) (.const (i64 14)) t22 (i64 14); binOp .eql 3 t22 (i64 14)) w123 fun t264 w149 =>
 ifD t264 (
 callD prog 105 #[t0] w149 fun _ w =>
 callD prog 71 #[t0, (i64 5), (i64 0), (i64 0)] w fun _ w =>
 callD prog 71 #[t0, (i64 4), (i64 0), (i64 0)] w fun _ w =>
 callD prog 71 #[t0, (i64 4), (i64 0), (i64 0)] w fun _ w =>
 R (.tuple #[]) w) (
 V prog (fieldAt 143 t6 1) w149 fun t24 w =>
 V prog (loadAt 3 t24) w fun t25 w =>
 V prog (binOp .rem 3 t25 (i64 50)) w fun t26 w =>
 callD prog 71 #[t0, (i64 1), t26, (i64 0)] w fun _ w =>
 callD prog 71 #[t0, (i64 4), (i64 0), (i64 0)] w fun _ w =>
 R (.tuple #[]) w)))))))))
theorem F69_wp (h : F69_den t0 t1 t2 t3 t4 w R) : callD prog 69 #[t0, t1, t2, t3, t4] w R :=
  den_wp mixed F69_ann func69 (by kernel_rfl) (by kernel_rfl) h
def F70_ann : Ann := (q (.block (q (.cond .leaf (q (.cond .leaf .leaf))))))
def F70_den (t0 t1 : Value) (w : World) (R : Value → World → Prop) : Prop :=
 V prog (do eqGuard .eql 3 (.tmp 4) (.const (i64 1)) t1 (i64 1); binOp .eql 3 t1 (i64 1)) w fun t9 w1 =>
 ifD t9 (
 callD prog 105 #[t0] w1 fun _ w =>
 R (.tuple #[]) w) (
 V prog (do eqGuard .eql 3 (.tmp 4) (.const (i64 2)) t1 (i64 2); binOp .eql 3 t1 (i64 2)) w1 fun t13 w3 =>
 ifD t13 (
 callD prog 106 #[t0] w3 fun _ w =>
 R (.tuple #[]) w) (
 callD prog 103 #[t0, t1] w3 fun _ w =>
 R (.tuple #[]) w))
theorem F70_wp (h : F70_den t0 t1 w R) : callD prog 70 #[t0, t1] w R :=
  den_wp mixed F70_ann func70 (by kernel_rfl) (by kernel_rfl) h
def F71_ann : Ann := .leaf
def F71_den (t0 t1 t2 t3 : Value) (w : World) (R : Value → World → Prop) : Prop :=
 Go.Vc.Safe (t0) ∧
 V prog (fieldAt 141 t0 0) w fun t11 w =>
 V prog (loadAt 92 t11) w fun t12 w =>
 V prog (build 97 #[(0, t1), (1, t2), (2, t3)]) w fun t16 w =>
 V prog (buildSlice 92 1 #[(0, t16)]) w fun t17 w =>
 V prog (Builtin.append_ #[92, 92] 92 #[t12, t17]) w fun t18 w =>
 Go.Vc.Safe (t0) ∧
 V prog (fieldAt 141 t0 0) w fun t20 w =>
 U prog (storeAt 92 t20 t18) w fun _ w =>
 R (.tuple #[]) w
theorem F71_wp (h : F71_den t0 t1 t2 t3 w R) : callD prog 71 #[t0, t1, t2, t3] w R :=
  den_wp mixed F71_ann func71 (by kernel_rfl) (by kernel_rfl) h
def F72_ann : Ann := (q (.seq (q (.block (.loop (rg 4 23) [5] (.seq (q (.cond .leaf .leaf)) (.seq (.block (q (.cond (q .leaf) .leaf))) .leaf))))) (q .leaf)))
def F72_den (t0 t1 : Value) (w : World) (R : Value → World → Prop) : Prop :=
 ∃ (I1 : NP 1) (μ1 : NF 1), I1 (i64 0) w ∧
 ∀ (t5 : Value), ∀ w1 : World, I1 t5 w1 → ∀ _f : Env,
 V prog (Builtin.len_ #[57] 3 #[t0]) w1 fun t8 w =>
 V prog (binOp .lss 3 t5 t8) w fun t9 w3 =>
 ifD t9 (
 V prog (indexAt 57 t0 t5) w3 fun t14 w =>
 V prog (loadAt 3 t14) w fun t15 w =>
 V prog (binOp .lss 3 t15 (i64 1)) w fun t16 w =>
 gd t16 false (fun K => K t0 w) w fun t18 w =>
 gd t16 false (fun K => K t5 w) w fun t19 w =>
 gd t16 false (fun K => V prog (indexAt 57 t18 t19) w K) w fun t20 w =>
 gd t16 false (fun K => V prog (loadAt 3 t20) w K) w fun t21 w =>
 gd t16 false (fun K => V prog (binOp .gtr 3 t21 (i64 4)) w K) w fun t22 w =>
 pickD t16 (.bool true) t22 fun t23 =>
 ifD t23 (
 R (.bool false) w) (
 V prog (binOp .add 3 t5 (i64 1)) w fun t11 w =>
 I1 t11 w ∧ μ1 t11 w < μ1 t5 w1)) (
 V prog (Builtin.len_ #[57] 3 #[t0]) w3 fun t25 w =>
 V prog (binOp .leq 3 t25 t1) w fun t27 w =>
 R t27 w)
theorem F72_wp (h : F72_den t0 t1 w R) : callD prog 72 #[t0, t1] w R :=
  den_wp mixed F72_ann func72 (by kernel_rfl) (by kernel_rfl) h
def F73_ann : Ann := (q (.seq (q (.cond (q .leaf) .leaf)) (.seq (q (.block (q (.cond (q .leaf) (.join [35, 36, 37] [35] (q (.cond .leaf .leaf)) (.cond (q .leaf) (.join [41, 42, 43] [41] (q (.cond .leaf .leaf)) (.cond (q .leaf) (q (.cond (q .leaf) (q (.cond (q .leaf) (.join [67, 68, 69] [67] (q (.cond .leaf .leaf)) (.cond (q .leaf) (.join [73, 74, 75] [73] (q (.cond .leaf .leaf)) (.cond (q .leaf) (q (.cond (q .leaf) (q (.cond (q .leaf) .leaf)))))))))))))))))))) (q .leaf))))
def F73_den (t0 : Value) (w : World) (R : Value → World → Prop) : Prop :=
 V prog (box 97 t0) w fun t1 w =>
 V prog (fieldAt 97 t1 0) w fun t3 w =>
 V prog (loadAt 3 t3) w fun t4 w =>
 callD prog 107 #[t4] w fun t5 w =>
 V prog (do eqGuard .eql 9 (.tmp 5) (.const (Value.string { data := #[] })) t5 (Value.string { data := #[] }); binOp .eql 9 t5 (Value.string { data := #[] })) w fun t6 w =>
 gd t6 false (fun K => V prog (fieldAt 97 t1 0) w K) w fun t8 w =>
 gd t6 false (fun K => V prog (loadAt 3 t8) w K) w fun t9 w =>
 gd t6 false (fun K => V prog (do eqGuard .neq 3 (.tmp 9) (.const (i64 27)) t9 (i64 27); binOp .neq 3 t9 (i64 27)) w K) w fun t10 w =>
 gd t6 false (fun K => K t10 w) w fun t11 w =>
 gd t11 true (fun K => V prog (fieldAt 97 t1 2) w K) w fun t12 w =>
 gd t11 true (fun K => V prog (loadAt 3 t12) w K) w fun t13 w =>
 gd t11 true (fun K => V prog (do eqGuard .neq 3 (.tmp 13) (.const (i64 0)) t13 (i64 0); binOp .neq 3 t13 (i64 0)) w K) w fun t14 w =>
 gd t6 false (fun K => pickD t11 t14 (.bool false) fun v => K v w) w fun t15 w =>
 pickD t6 (.bool true) t15 fun t16 =>
 gd t16 false (fun K => V prog (fieldAt 97 t1 0) w K) w fun t18 w =>
 gd t16 false (fun K => V prog (loadAt 3 t18) w K) w fun t19 w =>
 gd t16 false (fun K => callD prog 82 #[t19] w K) w fun t20 w =>
 gd t16 false (fun K => V prog (do eqGuard .eql 3 (.tmp 20) (.const (i64 0)) t20 (i64 0); binOp .eql 3 t20 (i64 0)) w K) w fun t21 w =>
 gd t16 false (fun K => K t21 w) w fun t22 w =>
 gd t22 true (fun K => V prog (fieldAt 97 t1 1) w K) w fun t23 w =>
 gd t22 true (fun K => V prog (loadAt 3 t23) w K) w fun t24 w =>
 gd t22 true (fun K => V prog (do eqGuard .neq 3 (.tmp 24) (.const (i64 0)) t24 (i64 0); binOp .neq 3 t24 (i64 0)) w K) w fun t25 w =>
 gd t16 false (fun K => pickD t22 t25 (.bool false) fun v => K v w) w fun t26 w =>
 pickD t16 (.bool true) t26 fun t27 =>
 ifD t27 (
 R (.bool false) w) (
 V prog (fieldAt 97 t1 0) w fun t28 w =>
 V prog (loadAt 3 t28) w fun t29 w =>
 V prog (do eqGuard .eql 3 (.tmp 29) (.const (i64 1)) t29 (i64 1); binOp .eql 3 t29 (i64 1)) w fun t31 w27 =>
 ifD t31 (
 V prog (fieldAt 97 t1 1) w27 fun t32 w =>
 V prog (loadAt 3 t32) w fun t33 w =>
 callD prog 108 #[t33, (i64 (-2147483648)), (i64 2147483647)] w fun t34 w =>
 R t34 w) (
 ∃ J1 : NP 1,
 (V prog (do eqGuard .eql 3 (.tmp 29) (.const (i64 2)) t29 (i64 2); binOp .eql 3 t29 (i64 2)) w27 fun t36 w =>
 ifD t36 (
 J1 t36 w) (
 V prog (do eqGuard .eql 3 (.tmp 29) (.const (i64 3)) t29 (i64 3); binOp .eql 3 t29 (i64 3)) w fun t37 w =>
 J1 t37 w)) ∧
 ∀ (t35 : Value), ∀ w33 : World, J1 t35 w33 → ∀ _f : Env,
 ifD t35 (
 V prog (fieldAt 97 t1 1) w33 fun t38 w =>
 V prog (loadAt 3 t38) w fun t39 w =>
 callD prog 108 #[t39, (i64 0), (i64 9)] w fun t40 w =>
 R t40 w) (
 ∃ J2 : NP 1,
 (V prog (do eqGuard .eql 3 (.tmp 29) (.const (i64 23)) t29 (i64 23); binOp .eql 3 t29 (i64 23)) w33 fun t42 w =>
 ifD t42 (
 J2 t42 w) (
 V prog (do eqGuard .eql 3 (.tmp 29) (.const (i64 24)) t29 (i64 24); binOp .eql 3 t29 (i64 24)) w fun t43 w =>
 J2 t43 w)) ∧
 ∀ (t41 : Value), ∀ w39 : World, J2 t41 w39 → ∀ _f : Env,
 ifD t41 (
 V prog (fieldAt 97 t1 1) w39 fun t44 w =>
 V prog (loadAt 3 t44) w fun t45 w =>
 callD prog 108 #[t45, (i64 0), (i64 119)] w fun t46 w =>
 R t46 w) (
 V prog (do eqGuard .eql 3 (.tmp 29) (.const (i64 25)) t29 (i64 25); binOp .eql 3 t29 (i64 25)) w39 fun t48 w43 =>
 ifD t48 (
 V prog (fieldAt 97 t1 1) w43 fun t49 w =>
 V prog (loadAt 3 t49) w fun t50 w =>
 callD prog 108 #[t50, (i64 3), (i64 4)] w fun t51 w =>
 R t51 w) (
 V prog (do eqGuard .eql 3 (.tmp 29) (.const (i64 27)) t29 (i64 27); binOp .eql 3 t29 (i64 27)) w43 fun t53 w47 =>
 ifD t53 (
 V prog (fieldAt 97 t1 1) w47 fun t54 w =>
 V prog (loadAt 3 t54) w fun t55 w =>
 callD prog 108 #[t55, (i64 3), (i64 4)] w fun t56 w =>
 gd t56 true (fun K => V prog (fieldAt 97 t1 2) w K) w fun t58 w =>
 gd t56 true (fun K => V prog (loadAt 3 t58) w K) w fun t59 w =>
 gd t56 true (fun K => callD prog 108 #[t59, (i64 0), (i64 2)] w K) w fun t60 w =>
 gd t56 true (fun K => K t60 w) w fun t61 w =>
 gd t61 false (fun K => V prog (fieldAt 97 t1 2) w K) w fun t62 w =>
 gd t61 false (fun K => V prog (loadAt 3 t62) w K) w fun t63 w =>
 gd t61 false (fun K => callD prog 108 #[t63, (i64 4), (i64 6)] w K) w fun t64 w =>
 gd t56 true (fun K => pickD t61 (.bool true) t64 fun v => K v w) w fun t65 w =>
 pickD t56 t65 (.bool false) fun t66 =>
 R t66 w) (
 ∃ J3 : NP 1,
 (V prog (do eqGuard .eql 3 (.tmp 29) (.const (i64 33)) t29 (i64 33); binOp .eql 3 t29 (i64 33)) w47 fun t68 w =>
 ifD t68 (
 J3 t68 w) (
 V prog (do eqGuard .eql 3 (.tmp 29) (.const (i64 34)) t29 (i64 34); binOp .eql 3 t29 (i64 34)) w fun t69 w =>
 J3 t69 w)) ∧
 ∀ (t67 : Value), ∀ w62 : World, J3 t67 w62 → ∀ _f : Env,
 ifD t67 (
 V prog (fieldAt 97 t1 1) w62 fun t70 w =>
 V prog (loadAt 3 t70) w fun t71 w =>
 callD prog 108 #[t71, (i64 0), (i64 7)] w fun t72 w =>
 R t72 w) (
 ∃ J4 : NP 1,
 (V prog (do eqGuard .eql 3 (.tmp 29) (.const (i64 35)) t29 (i64 35); binOp .eql 3 t29 (i64 35)) w62 fun t74 w =>
 ifD t74 (
 J4 t74 w) (
 V prog (do eqGuard .eql 3 (.tmp 29) (.const (i64 36)) t29 (i64 36); binOp .eql 3 t29 (i64 36)) w fun t75 w =>
 J4 t75 w)) ∧
 ∀ (t73 : Value), ∀ w68 : World, J4 t73 w68 → ∀ _f : Env,
 ifD t73 (
 V prog (fieldAt 97 t1 1) w68 fun t76 w =>
 V prog (loadAt 3 t76) w fun t77 w =>
 callD prog 108 #[t77, (i64 1), (i64 2)] w fun t78 w =>
 R t78 w) (
 V prog (do eqGuard .eql 3 (.tmp 29) (.const (i64 37)) t29 (i64 37); binOp .eql 3 t29 (i64 37)) w68 fun t80 w72 =>
 ifD t80 (
 V prog (fieldAt 97 t1 1) w72 fun t81 w =>
 V prog (loadAt 3 t81) w fun t82 w =>
 callD prog 108 #[t82, (i64 0), (i64 7)] w fun t83 w =>
 R t83 w) (
 V prog (do eqGuard .eql 3 (.tmp 29) (.const (i64 38)) t29 (i64 38); binOp .eql 3 t29 (i64 38)) w72 fun t85 w76 =>
 ifD t85 (
 V prog (fieldAt 97 t1 1) w76 fun t86 w =>
 V prog (loadAt 3 t86) w fun t87 w =>
 callD prog 108 #[t87, (i64 0), (i64 3)] w fun t88 w =>
 R t88 w) (
 R (.bool true) w76))))))))))
theorem F73_wp (h : F73_den t0 w R) : callD prog 73 #[t0] w R :=
  den_wp mixed F73_ann func73 (by kernel_rfl) (by kernel_rfl) h
def F74_ann : Ann := (q (.seq (q (.block (.join [11, 12, 13] [11] (q (.cond .leaf .leaf)) (.cond (q (q .leaf)) (.join [22, 23, 24] [22] (q (.cond .leaf .leaf)) (.cond (q .leaf) (q (.cond (q .leaf) (q (.cond (q .leaf) (.join [47, 48, 49] [47] (q (.cond .leaf .leaf)) (.cond (q .leaf) .leaf)))))))))))) (q .leaf)))
def F74_den (t0 t1 t2 : Value) (w : World) (R : Value → World → Prop) : Prop :=
 V prog (box 61 t0) w fun t3 w =>
 V prog (box 94 t1) w fun t4 w =>
 V prog (box 97 t2) w fun t5 w =>
 V prog (fieldAt 97 t5 0) w fun t9 w =>
 V prog (loadAt 3 t9) w fun t10 w =>
 ∃ J1 : NP 1,
 (V prog (do eqGuard .eql 3 (.tmp 10) (.const (i64 2)) t10 (i64 2); binOp .eql 3 t10 (i64 2)) w fun t12 w =>
 ifD t12 (
 J1 t12 w) (
 V prog (do eqGuard .eql 3 (.tmp 10) (.const (i64 3)) t10 (i64 3); binOp .eql 3 t10 (i64 3)) w fun t13 w =>
 J1 t13 w)) ∧
 ∀ (t11 : Value), ∀ w8 : World, J1 t11 w8 → ∀ _f : Env,
 ifD t11 (
 V prog (loadAt 94 t4) w8 fun t15 w =>
 V prog (fieldAt 97 t5 1) w fun t16 w =>
 V prog (loadAt 3 t16) w fun t17 w =>
 callD prog 109 #[t15, t17] w fun t18 w =>
 V prog (extract t18 0) w fun _ w =>
 V prog (extract t18 1) w fun t20 w =>
 R t20 w) (
 ∃ J2 : NP 1,
 (V prog (do eqGuard .eql 3 (.tmp 10) (.const (i64 33)) t10 (i64 33); binOp .eql 3 t10 (i64 33)) w8 fun t23 w =>
 ifD t23 (
 J2 t23 w) (
 V prog (do eqGuard .eql 3 (.tmp 10) (.const (i64 34)) t10 (i64 34); binOp .eql 3 t10 (i64 34)) w fun t24 w =>
 J2 t24 w)) ∧
 ∀ (t22 : Value), ∀ w17 : World, J2 t22 w17 → ∀ _f : Env,
 ifD t22 (
 V prog (fieldAt 97 t5 1) w17 fun t25 w =>
 V prog (loadAt 3 t25) w fun t26 w =>
 V prog (fieldAt 61 t3 1) w fun t27 w =>
 V prog (loadAt 57 t27) w fun t28 w =>
 V prog (Builtin.len_ #[57] 3 #[t28]) w fun t29 w =>
 V prog (binOp .lss 3 t26 t29) w fun t30 w =>
 R t30 w) (
 V prog (do eqGuard .eql 3 (.tmp 10) (.const (i64 37)) t10 (i64 37); binOp .eql 3 t10 (i64 37)) w17 fun t32 w24 =>
 ifD t32 (
 V prog (fieldAt 97 t5 1) w24 fun t33 w =>
 V prog (loadAt 3 t33) w fun t34 w =>
 V prog (fieldAt 61 t3 3) w fun t35 w =>
 V prog (loadAt 59 t35) w fun t36 w =>
 V prog (Builtin.len_ #[59] 3 #[t36]) w fun t37 w =>
 V prog (binOp .lss 3 t34 t37) w fun t38 w =>
 R t38 w) (
 V prog (do eqGuard .eql 3 (.tmp 10) (.const (i64 38)) t10 (i64 38); binOp .eql 3 t10 (i64 38)) w24 fun t40 w31 =>
 ifD t40 (
 V prog (fieldAt 97 t5 1) w31 fun t41 w =>
 V prog (loadAt 3 t41) w fun t42 w =>
 V prog (fieldAt 61 t3 2) w fun t43 w =>
 V prog (loadAt 58 t43) w fun t44 w =>
 V prog (Builtin.len_ #[58] 3 #[t44]) w fun t45 w =>
 V prog (binOp .lss 3 t42 t45) w fun t46 w =>
 R t46 w) (
 ∃ J3 : NP 1,
 (V prog (do eqGuard .eql 3 (.tmp 10) (.const (i64 23)) t10 (i64 23); binOp .eql 3 t10 (i64 23)) w31 fun t48 w =>
 ifD t48 (
 J3 t48 w) (
 V prog (do eqGuard .eql 3 (.tmp 10) (.const (i64 24)) t10 (i64 24); binOp .eql 3 t10 (i64 24)) w fun t49 w =>
 J3 t49 w)) ∧
 ∀ (t47 : Value), ∀ w40 : World, J3 t47 w40 → ∀ _f : Env,
 ifD t47 (
 V prog (fieldAt 97 t5 1) w40 fun t50 w =>
 V prog (loadAt 3 t50) w fun t51 w =>
 V prog (fieldAt 94 t4 3) w fun t52 w =>
 V prog (loadAt 92 t52) w fun t53 w =>
 V prog (Builtin.len_ #[92] 3 #[t53]) w fun t54 w =>
 V prog (binOp .lss 3 t51 t54) w fun t55 w =>
 R t55 w) (
 R (.bool true) w40)))))
theorem F74_wp (h : F74_den t0 t1 t2 w R) : callD prog 74 #[t0, t1, t2] w R :=
  den_wp mixed F74_ann func74 (by kernel_rfl) (by kernel_rfl) h
def F75_ann : Ann := (q (q (.seq (q (.cond (q .leaf) .leaf)) (q (q (.seq (q (.cond (q .leaf) .leaf)) (q (q (.seq (q (.block (.loop ([15] ++ rg 52 111) [15] (.seq (q (.cond .leaf .leaf)) (.seq (.block (q (.cond .leaf (q .leaf)))) .leaf))))) (.join (rg 16 19 ++ rg 112 326) [] (q (.block (q (.cond (q .leaf) (q (.cond (.draw [0, 0, 2, 4, 0, 16, 0, 64, 160, 256, 520, 1025] [0, 0, 2, 4, 0, 16, 0, 64, 160, 256, 520, 1025] 0 11 2047 (tk (rg 0 9) (.only 10 (.last 11)))) (q (.cond (.seq (.draw [0, 0, 2, 4, 8, 16, 32, 96, 160, 288, 544, 1056, 2560, 4096, 12288, 20480, 36864, 4096, 135168, 266240, 593920, 1118208, 2101248, 5242880, 8388608, 25165824, 41943040, 75497472, 142606336, 268435456, 805306368, 1342177280, 268435456, 4563402752, 8858370048, 19595788288, 34636562432, 68727865344, 274877906943, 549755813887, 824633720831] [0, 0, 2, 4, 8, 16, 32, 96, 160, 288, 544, 1056, 2048, 4096, 12288, 20480, 36864, 4096, 135168, 266240, 528384, 1118208, 2101248, 4194304, 8388608, 25165824, 41943040, 75497472, 142606336, 268435456, 805306368, 1342177280, 268435456, 4563402752, 8858370048, 19595788288, 34636562432, 68727865344, 1, 274877906944, 687194767360] 0 40 1099511627775 (tk (rg 0 8) (.only 9 (tk (rg 10 15 ++ [17, 18, 19]) (.only 16 (.only 20 (tk (rg 21 26) (.only 27 (tk (rg 28 39) (.last 40)))))))))) .leaf) (q (.cond .leaf (q (.cond .leaf (q (.cond .leaf (q (.cond (q (.block (.loop ([18] ++ rg 269 290) [18] (.seq (q (.cond .leaf .leaf)) (.seq (.block (.draw [0, 0, 0, 6, 8, 0, 32, 0, 128, 320, 512, 1024, 0, 6144, 8192, 16400, 32769] [0, 0, 0, 6, 8, 0, 32, 0, 128, 320, 512, 1024, 0, 6144, 8192, 16400, 32769] 0 17 131071 (tk (rg 0 14) (.only 15 (.only 16 .done))))) .leaf))))) (q (.cond (q (.block (.loop ([19] ++ rg 293 314) [19] (.seq (q (.cond .leaf .leaf)) (.seq (.block (.draw [0, 0, 0, 6, 8, 0, 32, 0, 128, 320, 512, 1024, 0, 6144, 8192, 16400, 32769] [0, 0, 0, 6, 8, 0, 32, 0, 128, 320, 512, 1024, 0, 6144, 8192, 16400, 32769] 0 17 131071 (tk (rg 0 14) (.only 15 (.only 16 .done))))) .leaf))))) (q (.cond (q (.cond (.draw [0, 0, 2, 4, 0, 16, 40, 65] [0, 0, 2, 4, 0, 16, 40, 65] 0 7 127 (tk (rg 0 5) (.only 6 (.last 7)))) .leaf)) .leaf)))))))))))))))))))) (.seq (q (.cond (q .leaf) .leaf)) (.seq (q (.cond (q .leaf) .leaf)) (.seq (.draw [0, 0, 3, 0, 0, 0, 0, 124, 132, 511, 1023] [0, 0, 3, 0, 0, 0, 0, 120, 132, 256, 0] 0 11 2047 (tk ([1] ++ rg 3 6) (.only 0 (.only 2 (.only 7 (.only 8 (.take 9 (.take 10 .done)))))))) .leaf)))))))))))))
def F75_den (t0 t1 t2 t3 : Value) (w : World) (R : Value → World → Prop) : Prop :=
 V prog (box 61 t0) w fun t4 w =>
 V prog (box 94 t1) w fun t5 w =>
 V prog (box 97 t2) w fun t6 w =>
 V prog (loadAt 61 t4) w fun t20 w =>
 V prog (loadAt 94 t5) w fun t21 w =>
 V prog (loadAt 97 t6) w fun t22 w =>
 callD prog 110 #[t20, t21, t22] w fun t23 w =>
 V prog (Builtin.len_ #[57] 3 #[t3]) w fun t25 w =>
 V prog (binOp .lss 3 t25 t23) w fun t27 w =>
 ifD t27 (
 R (.tuple #[nilS, (i64 10)]) w) (
 V prog (Builtin.len_ #[57] 3 #[t3]) w fun t30 w =>
 V prog (binOp .sub 3 t30 t23) w fun t32 w =>
 V prog (sliceAt 57 t3 (some t32) none none) w fun t33 w =>
 V prog (Builtin.len_ #[57] 3 #[t3]) w fun t36 w =>
 V prog (binOp .sub 3 t36 t23) w fun t38 w =>
 V prog (sliceAt 57 t3 none (some t38) none) w fun t39 w =>
 V prog (Builtin.len_ #[57] 3 #[t39]) w fun t41 w =>
 V prog (loadAt 61 t4) w fun t42 w =>
 V prog (loadAt 97 t6) w fun t43 w =>
 callD prog 111 #[t42, t43] w fun t44 w =>
 V prog (binOp .add 3 t41 t44) w fun t45 w =>
 V prog (binOp .gtr 3 t45 (i64 8)) w fun t46 w =>
 ifD t46 (
 R (.tuple #[nilS, (i64 10)]) w) (
 V prog (build 200 #[]) w fun t47 w =>
 V prog (box 200 t47) w fun t48 w =>
 V prog (fieldAt 97 t6 0) w fun t49 w =>
 V prog (loadAt 3 t49) w fun t50 w =>
 callD prog 112 #[t50] w fun t51 w =>
 ∃ (I1 : NP 1) (μ1 : NF 1), I1 (i64 0) w ∧
 ∀ (t15 : Value), ∀ w27 : World, I1 t15 w27 → ∀ _f : Env,
 V prog (Builtin.len_ #[9] 3 #[t51]) w27 fun t54 w =>
 V prog (binOp .lss 3 t15 t54) w fun t55 w29 =>
 ifD t55 (
 V prog (index 9 t51 t15) w29 fun t60 w =>
 V prog (do eqGuard .eql 5 (.tmp 60) (.const (Value.int IntKind.u8 97)) t60 (Value.int IntKind.u8 97); binOp .eql 5 t60 (Value.int IntKind.u8 97)) w fun t61 w31 =>
 ifD t61 (
 Go.Vc.Safe (t48) ∧
 V prog (fieldAt 200 t48 0) w31 fun t65 w =>
 V prog (loadAt 4 t65) w fun t66 w =>
 gd t66 false (fun K => K t33 w) w fun t68 w =>
 gd t66 false (fun K => K t15 w) w fun t69 w =>
 gd t66 false (fun K => V prog (indexAt 57 t68 t69) w K) w fun t70 w =>
 gd t66 false (fun K => V prog (loadAt 3 t70) w K) w fun t71 w =>
 gd t66 false (fun K => callD prog 113 #[t71] w K) w fun t72 w =>
 gd t66 false (fun K => V prog (Op.unary UnOp.not t72) w K) w fun t73 w =>
 pickD t66 (.bool true) t73 fun t74 =>
 Go.Vc.Safe (t48) ∧
 V prog (fieldAt 200 t48 0) w fun t76 w =>
 U prog (storeAt 4 t76 t74) w fun _ w =>
 V prog (binOp .add 3 t15 (i64 1)) w fun t57 w =>
 I1 t57 w ∧ μ1 t57 w < μ1 t15 w27) (
 Go.Vc.Safe (t48) ∧
 V prog (fieldAt 200 t48 0) w31 fun t80 w =>
 V prog (loadAt 4 t80) w fun t81 w =>
 gd t81 false (fun K => K t33 w) w fun t83 w =>
 gd t81 false (fun K => K t15 w) w fun t84 w =>
 gd t81 false (fun K => V prog (indexAt 57 t83 t84) w K) w fun t85 w =>
 gd t81 false (fun K => V prog (loadAt 3 t85) w K) w fun t86 w =>
 gd t81 false (fun K => callD prog 114 #[t86] w K) w fun t87 w =>
 gd t81 false (fun K => V prog (Op.unary UnOp.not t87) w K) w fun t88 w =>
 pickD t81 (.bool true) t88 fun t89 =>
 Go.Vc.Safe (t48) ∧
 V prog (fieldAt 200 t48 0) w fun t91 w =>
 U prog (storeAt 4 t91 t89) w fun _ w =>
 Go.Vc.Safe (t48) ∧
 V prog (fieldAt 200 t48 1) w fun t95 w =>
 V prog (loadAt 4 t95) w fun t96 w =>
 gd t96 false (fun K => K t51 w) w fun t98 w =>
 gd t96 false (fun K => K t15 w) w fun t99 w =>
 gd t96 false (fun K => V prog (index 9 t98 t99) w K) w fun t100 w =>
 gd t96 false (fun K => V prog (do eqGuard .eql 5 (.tmp 100) (.const (Value.int IntKind.u8 112)) t100 (Value.int IntKind.u8 112); binOp .eql 5 t100 (Value.int IntKind.u8 112)) w K) w fun t101 w =>
 gd t96 false (fun K => K t101 w) w fun t102 w =>
 gd t102 true (fun K => K t33 w) w fun t103 w =>
 gd t102 true (fun K => K t15 w) w fun t104 w =>
 gd t102 true (fun K => V prog (indexAt 57 t103 t104) w K) w fun t105 w =>
 gd t102 true (fun K => V prog (loadAt 3 t105) w K) w fun t106 w =>
 gd t102 true (fun K => callD prog 115 #[t106] w K) w fun t107 w =>
 gd t96 false (fun K => pickD t102 t107 (.bool false) fun v => K v w) w fun t108 w =>
 pickD t96 (.bool true) t108 fun t109 =>
 Go.Vc.Safe (t48) ∧
 V prog (fieldAt 200 t48 1) w fun t111 w =>
 U prog (storeAt 4 t111 t109) w fun _ w =>
 V prog (binOp .add 3 t15 (i64 1)) w fun t57_1 w =>
 I1 t57_1 w ∧ μ1 t57_1 w < μ1 t15 w27)) (
 ∃ J2 : NP 0,
 (V prog (fieldAt 97 t6 0) w29 fun t112 w =>
 V prog (loadAt 3 t112) w fun t113 w =>
 V prog (do eqGuard .eql 3 (.tmp 113) (.const (i64 3)) t113 (i64 3); binOp .eql 3 t113 (i64 3)) w fun t115 w80 =>
 ifD t115 (
 V prog (loadAt 94 t5) w80 fun t117 w =>
 V prog (fieldAt 97 t6 1) w fun t118 w =>
 V prog (loadAt 3 t118) w fun t119 w =>
 callD prog 109 #[t117, t119] w fun t120 w =>
 V prog (extract t120 0) w fun t121 w =>
 V prog (extract t120 1) w fun _ w =>
 V prog (indexAt 57 t33 (i64 0)) w fun t125 w =>
 V prog (loadAt 3 t125) w fun t126 w =>
 callD prog 117 #[t126, t121] w fun t128 w =>
 callD prog 116 #[t48, t128] w fun _ w =>
 J2 w) (
 V prog (do eqGuard .eql 3 (.tmp 113) (.const (i64 34)) t113 (i64 34); binOp .eql 3 t113 (i64 34)) w80 fun t131 w91 =>
 ifD t131 (
 drawD w91 fun S22 w =>
 yieldS prog S22 (indexAt 57 t33 (i64 0)) fun t134 =>
 yieldS prog S22 (loadAt 3 t134) fun t135 =>
 yieldS prog S22 (fieldAt 61 t4 1) fun t136 =>
 yieldS prog S22 (loadAt 57 t136) fun t137 =>
 yieldS prog S22 (fieldAt 97 t6 1) fun t138 =>
 yieldS prog S22 (loadAt 3 t138) fun t139 =>
 yieldS prog S22 (indexAt 57 t137 t139) fun t140 =>
 yieldS prog S22 (loadAt 3 t140) fun t141 =>
 callD prog 117 #[t135, t141] w fun t142 w =>
 S22 w ∧
 callD prog 116 #[t48, t142] w fun _ w =>
 J2 w) (
 V prog (do eqGuard .eql 3 (.tmp 113) (.const (i64 22)) t113 (i64 22); binOp .eql 3 t113 (i64 22)) w91 fun t145 w95 =>
 ifD t145 (
 drawD w95 fun S24 w =>
 Go.Vc.Safe (t48) ∧
 yieldS prog S24 (fieldAt 200 t48 0) fun t149 =>
 yieldS prog S24 (loadAt 4 t149) fun t150 =>
 gdY t150 false (fun K => K t33) fun t152 =>
 gdY t150 false (fun K => yieldS prog S24 (indexAt 57 t152 (i64 0)) K) fun t153 =>
 gdY t150 false (fun K => yieldS prog S24 (loadAt 3 t153) K) fun t154 =>
 gd t150 false (fun K => callD prog 114 #[t154] w K) w fun t155 w =>
 S24 w ∧
 gdY t150 false (fun K => yieldS prog S24 (Op.unary UnOp.not t155) K) fun t156 =>
 pickD t150 (.bool true) t156 fun t157 =>
 gdY t157 false (fun K => K t33) fun t159 =>
 gdY t157 false (fun K => yieldS prog S24 (indexAt 57 t159 (i64 1)) K) fun t160 =>
 gdY t157 false (fun K => yieldS prog S24 (loadAt 3 t160) K) fun t161 =>
 gdY t157 false (fun K => K t33) fun t163 =>
 gdY t157 false (fun K => yieldS prog S24 (indexAt 57 t163 (i64 2)) K) fun t164 =>
 gdY t157 false (fun K => yieldS prog S24 (loadAt 3 t164) K) fun t165 =>
 gd t157 false (fun K => callD prog 114 #[t161] w K) w fun t162 w =>
 S24 w ∧
 gd t157 false (fun K => callD prog 114 #[t165] w K) w fun t166 w =>
 S24 w ∧
 gdY t157 false (fun K => yieldS prog S24 (do eqGuard .neq 4 (.tmp 162) (.tmp 166) t162 t166; binOp .neq 4 t162 t166) K) fun t167 =>
 pickD t157 (.bool true) t167 fun t168 =>
 gdY t168 false (fun K => K t33) fun t170 =>
 gdY t168 false (fun K => yieldS prog S24 (indexAt 57 t170 (i64 1)) K) fun t171 =>
 gdY t168 false (fun K => yieldS prog S24 (loadAt 3 t171) K) fun t172 =>
 gd t168 false (fun K => callD prog 113 #[t172] w K) w fun t173 w =>
 S24 w ∧
 gdY t168 false (fun K => K t173) fun t174 =>
 gdY t174 true (fun K => K t33) fun t175 =>
 gdY t174 true (fun K => yieldS prog S24 (indexAt 57 t175 (i64 1)) K) fun t176 =>
 gdY t174 true (fun K => yieldS prog S24 (loadAt 3 t176) K) fun t177 =>
 gdY t174 true (fun K => K t33) fun t178 =>
 gdY t174 true (fun K => yieldS prog S24 (indexAt 57 t178 (i64 2)) K) fun t179 =>
 gdY t174 true (fun K => yieldS prog S24 (loadAt 3 t179) K) fun t180 =>
 gdY t174 true (fun K => yieldS prog S24 (do eqGuard .neq 3 (.tmp 177) (.tmp 180) t177 t180; binOp .neq 3 t177 t180) K) fun t181 =>
 gdY t168 false (fun K => pickD t174 t181 (.bool false) K) fun t182 =>
 pickD t168 (.bool true) t182 fun t183 =>
 Go.Vc.Safe (t48) ∧
 yieldS prog S24 (fieldAt 200 t48 0) fun t185 =>
 U prog (storeAt 4 t185 t183) w fun _ w =>
 Go.Vc.Safe (t48) ∧
 V prog (fieldAt 200 t48 1) w fun t189 w =>
 V prog (loadAt 4 t189) w fun t190 w =>
 gd t190 false (fun K => K t33 w) w fun t192 w =>
 gd t190 false (fun K => V prog (indexAt 57 t192 (i64 1)) w K) w fun t193 w =>
 gd t190 false (fun K => V prog (loadAt 3 t193) w K) w fun t194 w =>
 gd t190 false (fun K => callD prog 113 #[t194] w K) w fun t195 w =>
 gd t190 false (fun K => K t195 w) w fun t196 w =>
 gd t196 true (fun K => K t33 w) w fun t197 w =>
 gd t196 true (fun K => V prog (indexAt 57 t197 (i64 0)) w K) w fun t198 w =>
 gd t196 true (fun K => V prog (loadAt 3 t198) w K) w fun t199 w =>
 gd t196 true (fun K => callD prog 115 #[t199] w K) w fun t200 w =>
 gd t190 false (fun K => pickD t196 t200 (.bool false) fun v => K v w) w fun t201 w =>
 pickD t190 (.bool true) t201 fun t202 =>
 Go.Vc.Safe (t48) ∧
 V prog (fieldAt 200 t48 1) w fun t204 w =>
 U prog (storeAt 4 t204 t202) w fun _ w =>
 J2 w) (
 V prog (do eqGuard .eql 3 (.tmp 113) (.const (i64 30)) t113 (i64 30); binOp .eql 3 t113 (i64 30)) w95 fun t206 w119 =>
 ifD t206 (
 Go.Vc.Safe (t48) ∧
 V prog (fieldAt 200 t48 1) w119 fun t210 w =>
 V prog (loadAt 4 t210) w fun t211 w =>
 gd t211 false (fun K => K t33 w) w fun t213 w =>
 gd t211 false (fun K => V prog (indexAt 57 t213 (i64 0)) w K) w fun t214 w =>
 gd t211 false (fun K => V prog (loadAt 3 t214) w K) w fun t215 w =>
 gd t211 false (fun K => V prog (do eqGuard .eql 3 (.tmp 215) (.const (i64 3)) t215 (i64 3); binOp .eql 3 t215 (i64 3)) w K) w fun t216 w =>
 gd t211 false (fun K => K t216 w) w fun t217 w =>
 gd t217 true (fun K => K t33 w) w fun t218 w =>
 gd t217 true (fun K => V prog (indexAt 57 t218 (i64 2)) w K) w fun t219 w =>
 gd t217 true (fun K => V prog (loadAt 3 t219) w K) w fun t220 w =>
 gd t217 true (fun K => callD prog 115 #[t220] w K) w fun t221 w =>
 gd t211 false (fun K => pickD t217 t221 (.bool false) fun v => K v w) w fun t222 w =>
 pickD t211 (.bool true) t222 fun t223 =>
 Go.Vc.Safe (t48) ∧
 V prog (fieldAt 200 t48 1) w fun t225 w =>
 U prog (storeAt 4 t225 t223) w fun _ w =>
 J2 w) (
 V prog (do eqGuard .eql 3 (.tmp 113) (.const (i64 31)) t113 (i64 31); binOp .eql 3 t113 (i64 31)) w119 fun t227 w137 =>
 ifD t227 (
 Go.Vc.Safe (t48) ∧
 V prog (fieldAt 200 t48 1) w137 fun t231 w =>
 V prog (loadAt 4 t231) w fun t232 w =>
 gd t232 false (fun K => K t33 w) w fun t234 w =>
 gd t232 false (fun K => V prog (indexAt 57 t234 (i64 0)) w K) w fun t235 w =>
 gd t232 false (fun K => V prog (loadAt 3 t235) w K) w fun t236 w =>
 gd t232 false (fun K => V prog (do eqGuard .eql 3 (.tmp 236) (.const (i64 3)) t236 (i64 3); binOp .eql 3 t236 (i64 3)) w K) w fun t237 w =>
 gd t232 false (fun K => K t237 w) w fun t238 w =>
 gd t238 true (fun K => K t33 w) w fun t239 w =>
 gd t238 true (fun K => V prog (indexAt 57 t239 (i64 2)) w K) w fun t240 w =>
 gd t238 true (fun K => V prog (loadAt 3 t240) w K) w fun t241 w =>
 gd t238 true (fun K => V prog (do eqGuard .eql 3 (.tmp 241) (.const (i64 4)) t241 (i64 4); binOp .eql 3 t241 (i64 4)) w K) w fun t242 w =>
 gd t232 false (fun K => pickD t238 t242 (.bool false) fun v => K v w) w fun t243 w =>
 pickD t232 (.bool true) t243 fun t244 =>
 Go.Vc.Safe (t48) ∧
 V prog (fieldAt 200 t48 1) w fun t246 w =>
 U prog (storeAt 4 t246 t244) w fun _ w =>
 J2 w) (
 V prog (do eqGuard .eql 3 (.tmp 113) (.const (i64 36)) t113 (i64 36); binOp .eql 3 t113 (i64 36)) w137 fun t248 w155 =>
 ifD t248 (
 Go.Vc.Safe (t48) ∧
 V prog (fieldAt 200 t48 1) w155 fun t252 w =>
 V prog (loadAt 4 t252) w fun t253 w =>
 gd t253 false (fun K => V prog (fieldAt 97 t6 1) w K) w fun t255 w =>
 gd t253 false (fun K => V prog (loadAt 3 t255) w K) w fun t256 w =>
 gd t253 false (fun K => V prog (do eqGuard .eql 3 (.tmp 256) (.const (i64 1)) t256 (i64 1); binOp .eql 3 t256 (i64 1)) w K) w fun t257 w =>
 gd t253 false (fun K => K t257 w) w fun t258 w =>
 gd t258 true (fun K => K t33 w) w fun t259 w =>
 gd t258 true (fun K => V prog (indexAt 57 t259 (i64 0)) w K) w fun t260 w =>
 gd t258 true (fun K => V prog (loadAt 3 t260) w K) w fun t261 w =>
 gd t258 true (fun K => V prog (do eqGuard .eql 3 (.tmp 261) (.const (i64 4)) t261 (i64 4); binOp .eql 3 t261 (i64 4)) w K) w fun t262 w =>
 gd t253 false (fun K => pickD t258 t262 (.bool false) fun v => K v w) w fun t263 w =>
 pickD t253 (.bool true) t263 fun t264 =>
 Go.Vc.Safe (t48) ∧
 V prog (fieldAt 200 t48 1) w fun t266 w =>
 U prog (storeAt 4 t266 t264) w fun _ w =>
 J2 w) (
 V prog (do eqGuard .eql 3 (.tmp 113) (.const (i64 37)) t113 (i64 37); binOp .eql 3 t113 (i64 37)) w155 fun t268 w172 =>
 ifD t268 (
 ∃ (I3 : NP 1) (μ3 : NF 1), I3 (i64 0) w172 ∧
 ∀ (t18 : Value), ∀ w173 : World, I3 t18 w173 → ∀ _f : Env,
 V prog (binOp .lss 3 t18 t23) w173 fun t271 w174 =>
 ifD t271 (
 drawD w174 fun S36 w =>
 yieldS prog S36 (indexAt 57 t33 t18) fun t277 =>
 yieldS prog S36 (loadAt 3 t277) fun t278 =>
 yieldS prog S36 (fieldAt 61 t4 3) fun t279 =>
 yieldS prog S36 (loadAt 59 t279) fun t280 =>
 yieldS prog S36 (fieldAt 97 t6 1) fun t281 =>
 yieldS prog S36 (loadAt 3 t281) fun t282 =>
 yieldS prog S36 (indexAt 59 t280 t282) fun t283 =>
 yieldS prog S36 (fieldAt 94 t283 0) fun t284 =>
 yieldS prog S36 (loadAt 57 t284) fun t285 =>
 yieldS prog S36 (indexAt 57 t285 t18) fun t287 =>
 yieldS prog S36 (loadAt 3 t287) fun t288 =>
 callD prog 117 #[t278, t288] w fun t289 w =>
 S36 w ∧
 callD prog 116 #[t48, t289] w fun _ w =>
 S36 w ∧
 V prog (binOp .add 3 t18 (i64 1)) w fun t273 w =>
 I3 t273 w ∧ μ3 t273 w < μ3 t18 w173) (
 J2 w174)) (
 V prog (do eqGuard .eql 3 (.tmp 113) (.const (i64 38)) t113 (i64 38); binOp .eql 3 t113 (i64 38)) w172 fun t292 w179 =>
 ifD t292 (
 ∃ (I4 : NP 1) (μ4 : NF 1), I4 (i64 0) w179 ∧
 ∀ (t19 : Value), ∀ w180 : World, I4 t19 w180 → ∀ _f : Env,
 V prog (binOp .lss 3 t19 t23) w180 fun t295 w181 =>
 ifD t295 (
 drawD w181 fun S41 w =>
 yieldS prog S41 (indexAt 57 t33 t19) fun t301 =>
 yieldS prog S41 (loadAt 3 t301) fun t302 =>
 yieldS prog S41 (fieldAt 61 t4 2) fun t303 =>
 yieldS prog S41 (loadAt 58 t303) fun t304 =>
 yieldS prog S41 (fieldAt 97 t6 1) fun t305 =>
 yieldS prog S41 (loadAt 3 t305) fun t306 =>
 yieldS prog S41 (indexAt 58 t304 t306) fun t307 =>
 yieldS prog S41 (fieldAt 91 t307 2) fun t308 =>
 yieldS prog S41 (loadAt 57 t308) fun t309 =>
 yieldS prog S41 (indexAt 57 t309 t19) fun t311 =>
 yieldS prog S41 (loadAt 3 t311) fun t312 =>
 callD prog 117 #[t302, t312] w fun t313 w =>
 S41 w ∧
 callD prog 116 #[t48, t313] w fun _ w =>
 S41 w ∧
 V prog (binOp .add 3 t19 (i64 1)) w fun t297 w =>
 I4 t297 w ∧ μ4 t297 w < μ4 t19 w180) (
 J2 w181)) (
 V prog (do eqGuard .eql 3 (.tmp 113) (.const (i64 39)) t113 (i64 39); binOp .eql 3 t113 (i64 39)) w179 fun t316 w186 =>
 ifD t316 (
 V prog (binOp .gtr 3 t23 (i64 0)) w186 fun t318 w187 =>
 ifD t318 (
 drawD w187 fun S44 w =>
 yieldS prog S44 (indexAt 57 t33 (i64 0)) fun t321 =>
 yieldS prog S44 (loadAt 3 t321) fun t322 =>
 yieldS prog S44 (fieldAt 94 t5 1) fun t323 =>
 yieldS prog S44 (loadAt 3 t323) fun t324 =>
 callD prog 117 #[t322, t324] w fun t325 w =>
 S44 w ∧
 callD prog 116 #[t48, t325] w fun _ w =>
 J2 w) (
 J2 w187)) (
 J2 w186)))))))))) ∧
 ∀ w : World, J2 w → ∀ _f : Env,
 Go.Vc.Safe (t48) ∧
 V prog (fieldAt 200 t48 0) w fun t329 w =>
 V prog (loadAt 4 t329) w fun t330 w =>
 ifD t330 (
 R (.tuple #[nilS, (i64 11)]) w) (
 Go.Vc.Safe (t48) ∧
 V prog (fieldAt 200 t48 1) w fun t333 w =>
 V prog (loadAt 4 t333) w fun t334 w =>
 ifD t334 (
 R (.tuple #[nilS, (i64 12)]) w) (
 drawD w fun S49 w =>
 yieldS prog S49 (loadAt 61 t4) fun t338 =>
 yieldS prog S49 (loadAt 94 t5) fun t339 =>
 yieldS prog S49 (loadAt 97 t6) fun t340 =>
 V prog (buildSlice 57 0 #[]) w fun t335 w =>
 S49 w ∧
 V prog (Builtin.append_ #[57, 57] 57 #[t335, t39]) w fun t337 w =>
 S49 w ∧
 callD prog 118 #[t338, t339, t340, t33] w fun t342 w =>
 S49 w ∧
 V prog (Builtin.append_ #[57, 57] 57 #[t337, t342]) w fun t343 w =>
 S49 w ∧
 R (.tuple #[t343, (i64 0)]) w)))))
theorem F75_wp (h : F75_den t0 t1 t2 t3 w R) : callD prog 75 #[t0, t1, t2, t3] w R :=
  den_wp mixed F75_ann func75 (by kernel_rfl) (by kernel_rfl) h
def F76_ann : Ann := (q (.seq (q (.block (q (.cond (q .leaf) (q (.cond (q .leaf) (q (.cond (q .leaf) .leaf)))))))) (q .leaf)))
def F76_den (t0 t1 : Value) (w : World) (R : Value → World → Prop) : Prop :=
 V prog (box 97 t0) w fun t2 w =>
 V prog (fieldAt 97 t2 0) w fun t5 w =>
 V prog (loadAt 3 t5) w fun t6 w =>
 V prog (do eqGuard .eql 3 (.tmp 6) (.const (i64 23)) t6 (i64 23); binOp .eql 3 t6 (i64 23)) w fun t8 w4 =>
 ifD t8 (
 V prog (fieldAt 97 t2 1) w4 fun t9 w =>
 V prog (loadAt 3 t9) w fun t10 w =>
 V prog (buildSlice 57 1 #[(0, t10)]) w fun t11 w =>
 R t11 w) (
 V prog (do eqGuard .eql 3 (.tmp 6) (.const (i64 24)) t6 (i64 24); binOp .eql 3 t6 (i64 24)) w4 fun t13 w8 =>
 ifD t13 (
 V prog (binOp .add 3 t1 (i64 1)) w8 fun t15 w =>
 V prog (fieldAt 97 t2 1) w fun t16 w =>
 V prog (loadAt 3 t16) w fun t17 w =>
 V prog (buildSlice 57 2 #[(0, t15), (1, t17)]) w fun t18 w =>
 R t18 w) (
 V prog (do eqGuard .eql 3 (.tmp 6) (.const (i64 39)) t6 (i64 39); binOp .eql 3 t6 (i64 39)) w8 fun t20 w =>
 ifD t20 (
 R nilS w) (
 V prog (binOp .add 3 t1 (i64 1)) w fun t22 w =>
 V prog (buildSlice 57 1 #[(0, t22)]) w fun t23 w =>
 R t23 w)))
theorem F76_wp (h : F76_den t0 t1 w R) : callD prog 76 #[t0, t1] w R :=
  den_wp mixed F76_ann func76 (by kernel_rfl) (by kernel_rfl) h
def F77_ann : Ann := (q (.seq (q (.cond (q .leaf) .leaf)) (q (.seq (q (.block (.loop (rg 4 9 ++ rg 15 38) [6, 7] (.seq (q (.cond .leaf .leaf)) (.seq (.block (.seq (.draw [0, 0, 3, 4, 0, 0, 48, 64, 136, 256, 512, 512, 2047, 8191] [0, 0, 3, 4, 0, 0, 48, 64, 136, 256, 512, 512, 1024, 2048] 0 14 16383 (tk (rg 0 7) (.only 8 (tk (rg 9 13) .done)))) (.seq (q (.cond (q .leaf) .leaf)) .leaf))) .leaf))))) (q .leaf)))))
def F77_den (t0 t1 : Value) (w : World) (R : Value → World → Prop) : Prop :=
 V prog (Builtin.len_ #[57] 3 #[t0]) w fun t11 w =>
 V prog (Builtin.len_ #[57] 3 #[t1]) w fun t13 w =>
 V prog (do eqGuard .neq 3 (.tmp 11) (.tmp 13) t11 t13; binOp .neq 3 t11 t13) w fun t14 w =>
 ifD t14 (
 R (.tuple #[nilS, (.bool false)]) w) (
 ∃ (I1 : NP 2) (μ1 : NF 2), I1 nilS (i64 0) w ∧
 ∀ (t6 : Value) (t7 : Value), ∀ w4 : World, I1 t6 t7 w4 → ∀ _f : Env,
 V prog (Builtin.len_ #[57] 3 #[t0]) w4 fun t17 w =>
 V prog (binOp .lss 3 t7 t17) w fun t18 w6 =>
 ifD t18 (
 drawD w6 fun S7 w =>
 yieldS prog S7 (indexAt 57 t0 t7) fun t24 =>
 yieldS prog S7 (loadAt 3 t24) fun t25 =>
 yieldS prog S7 (indexAt 57 t1 t7) fun t28 =>
 yieldS prog S7 (loadAt 3 t28) fun t29 =>
 callD prog 119 #[t25, t29] w fun t30 w =>
 S7 w ∧
 yieldS prog S7 (extract t30 0) fun t31 =>
 yieldS prog S7 (extract t30 1) fun t32 =>
 V prog (Op.unary UnOp.not t32) w fun t34 w =>
 ifD t34 (
 R (.tuple #[nilS, (.bool false)]) w) (
 V prog (buildSlice 57 1 #[(0, t31)]) w fun t37 w =>
 V prog (Builtin.append_ #[57, 57] 57 #[t6, t37]) w fun t38 w =>
 V prog (binOp .add 3 t7 (i64 1)) w fun t20 w =>
 I1 t38 t20 w ∧ μ1 t38 t20 w < μ1 t6 t7 w4)) (
 R (.tuple #[t6, (.bool true)]) w6))
theorem F77_wp (h : F77_den t0 t1 w R) : callD prog 77 #[t0, t1] w R :=
  den_wp mixed F77_ann func77 (by kernel_rfl) (by kernel_rfl) h
def F78_ann : Ann := (q (.seq (q (.cond (q .leaf) .leaf)) (.seq (q (.block (.loop ([4, 5] ++ rg 11 25) [5] (.seq (q (.cond .leaf .leaf)) (.seq (.block (.seq (.draw [0, 0, 3, 4, 0, 0, 48, 64, 136] [0, 0, 3, 4, 0, 0, 48, 64, 136] 0 9 511 (tk (rg 0 8) .done)) (.cond (q .leaf) .leaf))) .leaf))))) (q .leaf))))
def F78_den (t0 t1 : Value) (w : World) (R : Value → World → Prop) : Prop :=
 V prog (Builtin.len_ #[57] 3 #[t0]) w fun t7 w =>
 V prog (Builtin.len_ #[57] 3 #[t1]) w fun t9 w =>
 V prog (do eqGuard .neq 3 (.tmp 7) (.tmp 9) t7 t9; binOp .neq 3 t7 t9) w fun t10 w =>
 ifD t10 (
 R (.bool false) w) (
 ∃ (I1 : NP 1) (μ1 : NF 1), I1 (i64 0) w ∧
 ∀ (t5 : Value), ∀ w4 : World, I1 t5 w4 → ∀ _f : Env,
 V prog (Builtin.len_ #[57] 3 #[t0]) w4 fun t13 w =>
 V prog (binOp .lss 3 t5 t13) w fun t14 w6 =>
 ifD t14 (
 drawD w6 fun S6 w =>
 yieldS prog S6 (indexAt 57 t0 t5) fun t19 =>
 yieldS prog S6 (loadAt 3 t19) fun t20 =>
 yieldS prog S6 (indexAt 57 t1 t5) fun t23 =>
 yieldS prog S6 (loadAt 3 t23) fun t24 =>
 yieldS prog S6 (do eqGuard .neq 3 (.tmp 20) (.tmp 24) t20 t24; binOp .neq 3 t20 t24) fun t25 =>
 ifD t25 (
 R (.bool false) w) (
 V prog (binOp .add 3 t5 (i64 1)) w fun t16 w =>
 I1 t16 w ∧ μ1 t16 w < μ1 t5 w4)) (
 R (.bool true) w6))
theorem F78_wp (h : F78_den t0 t1 w R) : callD prog 78 #[t0, t1] w R :=
  den_wp mixed F78_ann func78 (by kernel_rfl) (by kernel_rfl) h
def F79_ann : Ann := (q (.block (.loop ([6] ++ rg 9 27) [6] (.seq (q (.cond .leaf .leaf)) (.seq (.block .leaf) .leaf)))))
def F79_den (t0 t1 t2 : Value) (w : World) (R : Value → World → Prop) : Prop :=
 V prog (binOp .sub 3 t2 (i64 1)) w fun t8 w =>
 ∃ (I1 : NP 1) (μ1 : NF 1), I1 t8 w ∧
 ∀ (t6 : Value), ∀ w2 : World, I1 t6 w2 → ∀ _f : Env,
 V prog (binOp .geq 3 t6 (i64 0)) w2 fun t10 w3 =>
 ifD t10 (
 Go.Vc.Safe (t0) ∧
 V prog (fieldAt 105 t0 0) w3 fun t16 w =>
 V prog (loadAt 23 t16) w fun t17 w =>
 V prog (binOp .mul 3 (i64 8) t6) w fun t20 w =>
 V prog (convert 3 51 t20) w fun t21 w =>
 V prog (binOp .shr 3 t1 t21) w fun t22 w =>
 V prog (convert 3 5 t22) w fun t23 w =>
 V prog (buildSlice 23 1 #[(0, t23)]) w fun t24 w =>
 V prog (Builtin.append_ #[23, 23] 23 #[t17, t24]) w fun t25 w =>
 Go.Vc.Safe (t0) ∧
 V prog (fieldAt 105 t0 0) w fun t27 w =>
 U prog (storeAt 23 t27 t25) w fun _ w =>
 V prog (binOp .sub 3 t6 (i64 1)) w fun t12 w =>
 I1 t12 w ∧ μ1 t12 w < μ1 t6 w2) (
 R (.tuple #[]) w3)
theorem F79_wp (h : F79_den t0 t1 t2 w R) : callD prog 79 #[t0, t1, t2] w R :=
  den_wp mixed F79_ann func79 (by kernel_rfl) (by kernel_rfl) h
def F80_ann : Ann := .leaf
def F80_den (t0 t1 : Value) (w : World) (R : Value → World → Prop) : Prop :=
 callD prog 79 #[t0, t1, (i64 4)] w fun _ w =>
 R (.tuple #[]) w
theorem F80_wp (h : F80_den t0 t1 w R) : callD prog 80 #[t0, t1] w R :=
  den_wp mixed F80_ann func80 (by kernel_rfl) (by kernel_rfl) h
def F81_ann : Ann := .leaf
def F81_den (t0 t1 : Value) (w : World) (R : Value → World → Prop) : Prop :=
 callD prog 79 #[t0, t1, (i64 2)] w fun _ w =>
 R (.tuple #[]) w
theorem F81_wp (h : F81_den t0 t1 w R) : callD prog 81 #[t0, t1] w R :=
  den_wp mixed F81_ann func81 (by kernel_rfl) (by kernel_rfl) h
def F82_ann : Ann := (q (.seq (q (.block (q (.cond (q .leaf) (.seq (q (.cond .leaf (q (.cond .leaf (q (.cond .leaf (q (.cond .leaf (q (.cond .leaf (q (.cond .leaf (q (.cond .leaf (q (.cond .leaf (q (.cond .leaf (q (.cond .leaf (q (.cond .leaf .leaf)))))))))))))))))))))) (.cond (q .leaf) .leaf)))))) (q .leaf)))
def F82_den (t0 : Value) (w : World) (R : Value → World → Prop) : Prop :=
 V prog (do eqGuard .eql 3 (.tmp 3) (.const (i64 27)) t0 (i64 27); binOp .eql 3 t0 (i64 27)) w fun t5 w =>
 ifD t5 (
 R (i64 2) w) (
 V prog (do eqGuard .eql 3 (.tmp 3) (.const (i64 1)) t0 (i64 1); binOp .eql 3 t0 (i64 1)) w fun t7 w =>
 ifD t7 (
 ifD t7 (
 R (i64 1) w) (
 R (i64 0) w)) (
 V prog (do eqGuard .eql 3 (.tmp 3) (.const (i64 2)) t0 (i64 2); binOp .eql 3 t0 (i64 2)) w fun t8 w =>
 ifD t8 (
 ifD t8 (
 R (i64 1) w) (
 R (i64 0) w)) (
 V prog (do eqGuard .eql 3 (.tmp 3) (.const (i64 3)) t0 (i64 3); binOp .eql 3 t0 (i64 3)) w fun t9 w =>
 ifD t9 (
 ifD t9 (
 R (i64 1) w) (
 R (i64 0) w)) (
 V prog (do eqGuard .eql 3 (.tmp 3) (.const (i64 23)) t0 (i64 23); binOp .eql 3 t0 (i64 23)) w fun t10 w =>
 ifD t10 (
 ifD t10 (
 R (i64 1) w) (
 R (i64 0) w)) (
 V prog (do eqGuard .eql 3 (.tmp 3) (.const (i64 24)) t0 (i64 24); binOp .eql 3 t0 (i64 24)) w fun t11 w =>
 ifD t11 (
 ifD t11 (
 R (i64 1) w) (
 R (i64 0) w)) (
 V prog (do eqGuard .eql 3 (.tmp 3) (.const (i64 25)) t0 (i64 25); binOp .eql 3 t0 (i64 25)) w fun t12 w =>
 ifD t12 (
 ifD t12 (
 R (i64 1) w) (
 R (i64 0) w)) (
 V prog (do eqGuard .eql 3 (.tmp 3) (.const (i64 33)) t0 (i64 33); binOp .eql 3 t0 (i64 33)) w fun t13 w =>
 ifD t13 (
 ifD t13 (
 R (i64 1) w) (
 R (i64 0) w)) (
 V prog (do eqGuard .eql 3 (.tmp 3) (.const (i64 34)) t0 (i64 34); binOp .eql 3 t0 (i64 34)) w fun t14 w =>
 ifD t14 (
 ifD t14 (
 R (i64 1) w) (
 R (i64 0) w)) (
 V prog (do eqGuard .eql 3 (.tmp 3) (.const (i64 35)) t0 (i64 35); binOp .eql 3 t0 (i64 35)) w fun t15 w =>
 ifD t15 (
 ifD t15 (
 R (i64 1) w) (
 R (i64 0) w)) (
 V prog (do eqGuard .eql 3 (.tmp 3) (.const (i64 36)) t0 (i64 36); binOp .eql 3 t0 (i64 36)) w fun t16 w =>
 ifD t16 (
 ifD t16 (
 R (i64 1) w) (
 R (i64 0) w)) (
 V prog (do eqGuard .eql 3 (.tmp 3) (.const (i64 37)) t0 (i64 37); binOp .eql 3 t0 (i64 37)) w fun t17 w =>
 ifD t17 (
 ifD t17 (
 R (i64 1) w) (
 R (i64 0) w)) (
 V prog (do eqGuard .eql 3 (.tmp 3) (.const (i64 38)) t0 (i64 38); binOp .eql 3 t0 (i64 38)) w fun t18 w =>
 ifD t18 (
 R (i64 1) w) (
 R (i64 0) w)))))))))))))
theorem F82_wp (h : F82_den t0 w R) : callD prog 82 #[t0] w R :=
  den_wp mixed F82_ann func82 (by kernel_rfl) (by kernel_rfl) h
def F91_ann : Ann := (q (.seq (q (.cond (q .leaf) .leaf)) (q .leaf)))
def F91_den (t0 : Value) (w : World) (R : Value → World → Prop) : Prop :=
 V prog (binOp .lss 3 t0 (i64 64)) w fun t5 w =>
 gd t5 false (fun K => K t0 w) w fun t7 w =>
 gd t5 false (fun K => V prog (binOp .gtr 3 t7 (i64 4096)) w K) w fun t8 w =>
 pickD t5 (.bool true) t8 fun t9 =>
 ifD t9 (
 R (.tuple #[(Value.pointer none), (i64 1)]) w) (
 V prog (build 187 #[(0, (i64 (-1))), (1, (i64 3))]) w fun t11 w =>
 V prog (build 187 #[(0, (i64 (-1))), (1, (i64 4))]) w fun t12 w =>
 V prog (buildSlice 182 2 #[(0, t11), (1, t12)]) w fun t13 w =>
 V prog (build 184 #[(0, t0), (1, t13)]) w fun t14 w =>
 V prog (box 184 t14) w fun t15 w =>
 R (.tuple #[t15, (i64 0)]) w)
theorem F91_wp (h : F91_den t0 w R) : callD prog 91 #[t0] w R :=
  den_wp mixed F91_ann func91 (by kernel_rfl) (by kernel_rfl) h
def F103_ann : Ann := (q (.block (.join [22, 23, 24] [22] (q (.cond .leaf .leaf)) (.cond (.seq (q (q (.cond (q .leaf) .leaf))) .leaf) (.join [38, 39, 40] [38] (q (.cond .leaf .leaf)) (.cond .leaf (q (.cond .leaf (q .leaf)))))))))
def F103_den (t0 t1 : Value) (w : World) (R : Value → World → Prop) : Prop :=
 callD prog 137 #[t0] w fun t7 w =>
 callD prog 9 #[t7, (i64 6)] w fun t8 w =>
 ∃ J1 : NP 1,
 (V prog (do eqGuard .eql 3 (.tmp 8) (.const (i64 0)) t8 (i64 0); binOp .eql 3 t8 (i64 0)) w fun t23 w =>
 ifD t23 (
 J1 t23 w) (
 V prog (do eqGuard .eql 3 (.tmp 8) (.const (i64 1)) t8 (i64 1); binOp .eql 3 t8 (i64 1)) w fun t24 w =>
 J1 t24 w)) ∧
 ∀ (t22 : Value), ∀ w5 : World, J1 t22 w5 → ∀ _f : Env,
 ifD t22 (
 callD prog 138 #[t0, t1] w5 fun t28 w =>
 V prog (extract t28 0) w fun t29 w =>
 V prog (extract t28 1) w fun t30 w8 =>
 ifD t30 (
 callD prog 71 #[t0, (i64 2), t29, (i64 0)] w8 fun _ w =>
 R (.tuple #[]) w) (
 callD prog 71 #[t0, (i64 25), t1, (i64 0)] w8 fun _ w =>
 R (.tuple #[]) w)) (
 ∃ J2 : NP 1,
 (V prog (do eqGuard .eql 3 (.tmp 8) (.const (i64 2)) t8 (i64 2); binOp .eql 3 t8 (i64 2)) w5 fun t39 w =>
 ifD t39 (
 J2 t39 w) (
 V prog (do eqGuard .eql 3 (.tmp 8) (.const (i64 3)) t8 (i64 3); binOp .eql 3 t8 (i64 3)) w fun t40 w =>
 J2 t40 w)) ∧
 ∀ (t38 : Value), ∀ w13 : World, J2 t38 w13 → ∀ _f : Env,
 ifD t38 (
 V prog (binOp .sub 3 t1 (i64 3)) w13 fun t43 w =>
 V prog (binOp .add 3 t43 (i64 1)) w fun t44 w =>
 callD prog 71 #[t0, (i64 35), t44, (i64 0)] w fun _ w =>
 R (.tuple #[]) w) (
 V prog (do eqGuard .eql 3 (.tmp 8) (.const (i64 4)) t8 (i64 4); binOp .eql 3 t8 (i64 4)) w13 fun t47 w17 =>
 ifD t47 (
 V prog (binOp .sub 3 t1 (i64 1)) w17 fun t50 w =>
 callD prog 71 #[t0, (i64 33), t50, (i64 0)] w fun _ w =>
 R (.tuple #[]) w) (
 callD prog 137 #[t0] w17 fun t11 w =>
 callD prog 9 #[t11, (i64 9)] w fun t12 w =>
 callD prog 71 #[t0, (i64 1), t12, (i64 0)] w fun _ w =>
 V prog (build 224 #[(0, (i64 0)), (1, (i64 1)), (2, (i64 2)), (3, (i64 4)), (4, (i64 5)), (5, (i64 6))]) w fun t16 w =>
 callD prog 137 #[t0] w fun t18 w =>
 callD prog 9 #[t18, (i64 6)] w fun t19 w =>
 V prog (index 224 t16 t19) w fun t20 w =>
 callD prog 71 #[t0, (i64 27), t1, t20] w fun _ w =>
 R (.tuple #[]) w)))
theorem F103_wp (h : F103_den t0 t1 w R) : callD prog 103 #[t0, t1] w R :=
  den_wp mixed F103_ann func103 (by kernel_rfl) (by kernel_rfl) h
def F104_ann : Ann := (q (.cond .leaf .leaf))
def F104_den (t0 : Value) (w : World) (R : Value → World → Prop) : Prop :=
 callD prog 137 #[t0] w fun t3 w =>
 callD prog 9 #[t3, (i64 5)] w fun t4 w =>
 V prog (do eqGuard .eql 3 (.tmp 4) (.const (i64 4)) t4 (i64 4); binOp .eql 3 t4 (i64 4)) w fun t5 w3 =>
 ifD t5 (
 callD prog 105 #[t0] w3 fun _ w =>
 R (.tuple #[]) w) (
 callD prog 137 #[t0] w3 fun t10 w =>
 callD prog 9 #[t10, (i64 5)] w fun t11 w =>
 callD prog 71 #[t0, (i64 1), t11, (i64 0)] w fun _ w =>
 R (.tuple #[]) w)
theorem F104_wp (h : F104_den t0 w R) : callD prog 104 #[t0] w R :=
  den_wp mixed F104_ann func104 (by kernel_rfl) (by kernel_rfl) h
def F105_ann : Ann := (q (q (.join ([2] ++ rg 15 21) [2] (q (.cond .leaf .leaf)) (.join ([3, 4] ++ rg 22 114) [] (q (.block (.join [31, 32, 33] [31] (q (.cond .leaf .leaf)) (.cond .leaf (.join [41, 42, 43] [41] (q (.cond .leaf .leaf)) (.cond (q (q (.cond .leaf .leaf))) (.join (rg 58 61) [58] (q (.cond .leaf (q (.cond .leaf .leaf)))) (.cond (q (q .leaf)) (q (.cond (q .leaf) (q (.cond (q (q .leaf)) (q (.cond (q (q .leaf)) (q (.cond (q .leaf) (q .leaf))))))))))))))))) .leaf))))
def F105_den (t0 : Value) (w : World) (R : Value → World → Prop) : Prop :=
 Go.Vc.Safe (t0) ∧
 V prog (fieldAt 141 t0 4) w fun t7 w =>
 V prog (loadAt 3 t7) w fun t8 w =>
 V prog (binOp .add 3 t8 (i64 1)) w fun t9 w =>
 Go.Vc.Safe (t0) ∧
 V prog (fieldAt 141 t0 4) w fun t11 w =>
 U prog (storeAt 3 t11 t9) w fun _ w =>
 callD prog 137 #[t0] w fun t13 w =>
 callD prog 9 #[t13, (i64 12)] w fun t14 w =>
 ∃ J1 : NP 1,
 (Go.Vc.Safe (t0) ∧
 V prog (fieldAt 141 t0 4) w fun t17 w =>
 V prog (loadAt 3 t17) w fun t18 w =>
 V prog (binOp .gtr 3 t18 (i64 3)) w fun t19 w13 =>
 ifD t19 (
 V prog (binOp .rem 3 t14 (i64 3)) w13 fun t21 w =>
 J1 t21 w) (
 J1 t14 w13)) ∧
 ∀ (t2 : Value), ∀ w : World, J1 t2 w → ∀ _f : Env,
 ∃ J2 : NP 0,
 (∃ J3 : NP 1,
 (V prog (do eqGuard .eql 3 (.tmp 22) (.const (i64 0)) t2 (i64 0); binOp .eql 3 t2 (i64 0)) w fun t32 w =>
 ifD t32 (
 J3 t32 w) (
 V prog (do eqGuard .eql 3 (.tmp 22) (.const (i64 1)) t2 (i64 1); binOp .eql 3 t2 (i64 1)) w fun t33 w =>
 J3 t33 w)) ∧
 ∀ (t31 : Value), ∀ w18 : World, J3 t31 w18 → ∀ _f : Env,
 ifD t31 (
 V prog (build 225 #[(0, (i64 0)), (1, (i64 1)), (2, (i64 2)), (3, (i64 3)), (4, (i64 7)), (5, (i64 (-1))), (6, (i64 64)), (7, (i64 1073741824))]) w18 fun t35 w =>
 callD prog 137 #[t0] w fun t37 w =>
 callD prog 9 #[t37, (i64 8)] w fun t38 w =>
 V prog (index 225 t35 t38) w fun t39 w =>
 callD prog 71 #[t0, (i64 1), t39, (i64 0)] w fun _ w =>
 J2 w) (
 ∃ J4 : NP 1,
 (V prog (do eqGuard .eql 3 (.tmp 22) (.const (i64 2)) t2 (i64 2); binOp .eql 3 t2 (i64 2)) w18 fun t42 w =>
 ifD t42 (
 J4 t42 w) (
 V prog (do eqGuard .eql 3 (.tmp 22) (.const (i64 3)) t2 (i64 3); binOp .eql 3 t2 (i64 3)) w fun t43 w =>
 J4 t43 w)) ∧
 ∀ (t41 : Value), ∀ w26 : World, J4 t41 w26 → ∀ _f : Env,
 ifD t41 (
 callD prog 138 #[t0, (i64 1)] w26 fun t46 w =>
 V prog (extract t46 0) w fun t47 w =>
 V prog (extract t46 1) w fun t48 w29 =>
 ifD t48 (
 callD prog 71 #[t0, (i64 2), t47, (i64 0)] w29 fun _ w =>
 J2 w) (
 callD prog 137 #[t0] w29 fun t55 w =>
 V prog (binOp .rem 3 t55 (i64 100)) w fun t56 w =>
 callD prog 71 #[t0, (i64 1), t56, (i64 0)] w fun _ w =>
 J2 w)) (
 ∃ J5 : NP 1,
 (V prog (do eqGuard .eql 3 (.tmp 22) (.const (i64 4)) t2 (i64 4); binOp .eql 3 t2 (i64 4)) w26 fun t59 w =>
 ifD t59 (
 J5 t59 w) (
 V prog (do eqGuard .eql 3 (.tmp 22) (.const (i64 5)) t2 (i64 5); binOp .eql 3 t2 (i64 5)) w fun t60 w =>
 ifD t60 (
 J5 t60 w) (
 V prog (do eqGuard .eql 3 (.tmp 22) (.const (i64 6)) t2 (i64 6); binOp .eql 3 t2 (i64 6)) w fun t61 w =>
 J5 t61 w))) ∧
 ∀ (t58 : Value), ∀ w37 : World, J5 t58 w37 → ∀ _f : Env,
 ifD t58 (
 callD prog 105 #[t0] w37 fun _ w =>
 callD prog 105 #[t0] w fun _ w =>
 callD prog 137 #[t0] w fun t68 w =>
 callD prog 9 #[t68, (i64 12)] w fun t69 w =>
 V prog (indexAt 226 (Value.pointer (some ⟨3, 0, none⟩)) t69) w fun t70 w =>
 V prog (loadAt 3 t70) w fun t71 w =>
 callD prog 71 #[t0, t71, (i64 0), (i64 0)] w fun _ w =>
 J2 w) (
 V prog (do eqGuard .eql 3 (.tmp 22) (.const (i64 7)) t2 (i64 7); binOp .eql 3 t2 (i64 7)) w37 fun t74 w45 =>
 ifD t74 (
 callD prog 137 #[t0] w45 fun t77 w =>
 callD prog 9 #[t77, (i64 2)] w fun t78 w =>
 V prog (binOp .add 3 (i64 1) t78) w fun t79 w =>
 callD prog 71 #[t0, (i64 35), t79, (i64 0)] w fun _ w =>
 callD prog 71 #[t0, (i64 28), (i64 0), (i64 0)] w fun _ w =>
 J2 w) (
 V prog (do eqGuard .eql 3 (.tmp 22) (.const (i64 8)) t2 (i64 8); binOp .eql 3 t2 (i64 8)) w45 fun t84 w51 =>
 ifD t84 (
 callD prog 105 #[t0] w51 fun _ w =>
 callD prog 105 #[t0] w fun _ w =>
 V prog (build 227 #[(0, (i64 17)), (1, (i64 18))]) w fun t90 w =>
 callD prog 137 #[t0] w fun t92 w =>
 callD prog 9 #[t92, (i64 2)] w fun t93 w =>
 V prog (index 227 t90 t93) w fun t94 w =>
 callD prog 71 #[t0, t94, (i64 0), (i64 0)] w fun _ w =>
 J2 w) (
 V prog (do eqGuard .eql 3 (.tmp 22) (.const (i64 9)) t2 (i64 9); binOp .eql 3 t2 (i64 9)) w51 fun t97 w59 =>
 ifD t97 (
 callD prog 103 #[t0, (i64 3)] w59 fun _ w =>
 callD prog 104 #[t0] w fun _ w =>
 callD prog 71 #[t0, (i64 29), (i64 0), (i64 0)] w fun _ w =>
 J2 w) (
 V prog (do eqGuard .eql 3 (.tmp 22) (.const (i64 10)) t2 (i64 10); binOp .eql 3 t2 (i64 10)) w59 fun t105 w63 =>
 ifD t105 (
 callD prog 105 #[t0] w63 fun _ w =>
 V prog (build 228 #[(0, (i64 15)), (1, (i64 16)), (2, (i64 15))]) w fun t109 w =>
 callD prog 137 #[t0] w fun t111 w =>
 callD prog 9 #[t111, (i64 3)] w fun t112 w =>
 V prog (index 228 t109 t112) w fun t113 w =>
 callD prog 71 #[t0, t113, (i64 0), (i64 0)] w fun _ w =>
 J2 w) (
 callD prog 137 #[t0] w63 fun t25 w =>
 callD prog 9 #[t25, (i64 2)] w fun t26 w =>
 V prog (binOp .add 3 (i64 3) t26) w fun t27 w =>
 callD prog 103 #[t0, t27] w fun _ w =>
 callD prog 71 #[t0, (i64 26), (i64 0), (i64 0)] w fun _ w =>
 J2 w)))))))) ∧
 ∀ w : World, J2 w → ∀ _f : Env,
 Go.Vc.Safe (t0) ∧
 V prog (fieldAt 141 t0 4) w fun t117 w =>
 V prog (loadAt 3 t117) w fun t118 w =>
 V prog (binOp .sub 3 t118 (i64 1)) w fun t119 w =>
 Go.Vc.Safe (t0) ∧
 V prog (fieldAt 141 t0 4) w fun t121 w =>
 U prog (storeAt 3 t121 t119) w fun _ w =>
 R (.tuple #[]) w
theorem F105_wp (h : F105_den t0 w R) : callD prog 105 #[t0] w R :=
  den_wp mixed F105_ann func105 (by kernel_rfl) (by kernel_rfl) h
def F106_ann : Ann := (q (q (.join ([2] ++ rg 15 21) [2] (q (.cond .leaf .leaf)) (.join ([3, 4] ++ rg 22 95) [] (q (.block (q (.cond (q (q (.cond .leaf .leaf))) (q (.cond .leaf (.join [45, 46, 47] [45] (q (.cond .leaf .leaf)) (.cond (q (q .leaf)) (.join [59, 60, 61] [59] (q (.cond .leaf .leaf)) (.cond (q (q .leaf)) (q (.cond (q (q (q .leaf))) (q (.cond (q (q (q (q (q .leaf))))) .leaf)))))))))))))) .leaf))))
def F106_den (t0 : Value) (w : World) (R : Value → World → Prop) : Prop :=
 Go.Vc.Safe (t0) ∧
 V prog (fieldAt 141 t0 4) w fun t7 w =>
 V prog (loadAt 3 t7) w fun t8 w =>
 V prog (binOp .add 3 t8 (i64 1)) w fun t9 w =>
 Go.Vc.Safe (t0) ∧
 V prog (fieldAt 141 t0 4) w fun t11 w =>
 U prog (storeAt 3 t11 t9) w fun _ w =>
 callD prog 137 #[t0] w fun t13 w =>
 callD prog 9 #[t13, (i64 9)] w fun t14 w =>
 ∃ J1 : NP 1,
 (Go.Vc.Safe (t0) ∧
 V prog (fieldAt 141 t0 4) w fun t17 w =>
 V prog (loadAt 3 t17) w fun t18 w =>
 V prog (binOp .gtr 3 t18 (i64 3)) w fun t19 w13 =>
 ifD t19 (
 V prog (binOp .rem 3 t14 (i64 2)) w13 fun t21 w =>
 J1 t21 w) (
 J1 t14 w13)) ∧
 ∀ (t2 : Value), ∀ w : World, J1 t2 w → ∀ _f : Env,
 ∃ J2 : NP 0,
 (V prog (do eqGuard .eql 3 (.tmp 22) (.const (i64 0)) t2 (i64 0); binOp .eql 3 t2 (i64 0)) w fun t26 w16 =>
 ifD t26 (
 callD prog 138 #[t0, (i64 2)] w16 fun t29 w =>
 V prog (extract t29 0) w fun t30 w =>
 V prog (extract t29 1) w fun t31 w19 =>
 ifD t31 (
 callD prog 71 #[t0, (i64 2), t30, (i64 0)] w19 fun _ w =>
 J2 w) (
 callD prog 71 #[t0, (i64 1), (i64 5), (i64 0)] w19 fun _ w =>
 J2 w)) (
 V prog (do eqGuard .eql 3 (.tmp 22) (.const (i64 1)) t2 (i64 1); binOp .eql 3 t2 (i64 1)) w16 fun t39 w22 =>
 ifD t39 (
 callD prog 137 #[t0] w22 fun t42 w =>
 V prog (binOp .rem 3 t42 (i64 1000)) w fun t43 w =>
 callD prog 71 #[t0, (i64 1), t43, (i64 0)] w fun _ w =>
 J2 w) (
 ∃ J3 : NP 1,
 (V prog (do eqGuard .eql 3 (.tmp 22) (.const (i64 2)) t2 (i64 2); binOp .eql 3 t2 (i64 2)) w22 fun t46 w =>
 ifD t46 (
 J3 t46 w) (
 V prog (do eqGuard .eql 3 (.tmp 22) (.const (i64 3)) t2 (i64 3); binOp .eql 3 t2 (i64 3)) w fun t47 w =>
 J3 t47 w)) ∧
 ∀ (t45 : Value), ∀ w28 : World, J3 t45 w28 → ∀ _f : Env,
 ifD t45 (
 callD prog 106 #[t0] w28 fun _ w =>
 callD prog 106 #[t0] w fun _ w =>
 callD prog 137 #[t0] w fun t54 w =>
 callD prog 9 #[t54, (i64 12)] w fun t55 w =>
 V prog (indexAt 226 (Value.pointer (some ⟨3, 0, none⟩)) t55) w fun t56 w =>
 V prog (loadAt 3 t56) w fun t57 w =>
 callD prog 71 #[t0, t57, (i64 0), (i64 0)] w fun _ w =>
 J2 w) (
 ∃ J4 : NP 1,
 (V prog (do eqGuard .eql 3 (.tmp 22) (.const (i64 4)) t2 (i64 4); binOp .eql 3 t2 (i64 4)) w28 fun t60 w =>
 ifD t60 (
 J4 t60 w) (
 V prog (do eqGuard .eql 3 (.tmp 22) (.const (i64 5)) t2 (i64 5); binOp .eql 3 t2 (i64 5)) w fun t61 w =>
 J4 t61 w)) ∧
 ∀ (t59 : Value), ∀ w38 : World, J4 t59 w38 → ∀ _f : Env,
 ifD t59 (
 callD prog 103 #[t0, (i64 4)] w38 fun _ w =>
 callD prog 104 #[t0] w fun _ w =>
 callD prog 71 #[t0, (i64 29), (i64 0), (i64 0)] w fun _ w =>
 J2 w) (
 V prog (do eqGuard .eql 3 (.tmp 22) (.const (i64 6)) t2 (i64 6); binOp .eql 3 t2 (i64 6)) w38 fun t69 w42 =>
 ifD t69 (
 callD prog 106 #[t0] w42 fun _ w =>
 callD prog 106 #[t0] w fun _ w =>
 callD prog 106 #[t0] w fun _ w =>
 callD prog 71 #[t0, (i64 22), (i64 0), (i64 0)] w fun _ w =>
 J2 w) (
 V prog (do eqGuard .eql 3 (.tmp 22) (.const (i64 7)) t2 (i64 7); binOp .eql 3 t2 (i64 7)) w42 fun t79 w47 =>
 ifD t79 (
 callD prog 103 #[t0, (i64 4)] w47 fun _ w =>
 callD prog 104 #[t0] w fun _ w =>
 callD prog 137 #[t0] w fun t86 w =>
 callD prog 9 #[t86, (i64 2)] w fun t87 w =>
 V prog (binOp .add 3 (i64 3) t87) w fun t88 w =>
 callD prog 103 #[t0, t88] w fun _ w =>
 callD prog 104 #[t0] w fun _ w =>
 callD prog 104 #[t0] w fun _ w =>
 callD prog 71 #[t0, (i64 32), (i64 0), (i64 0)] w fun _ w =>
 J2 w) (
 callD prog 71 #[t0, (i64 33), (i64 1), (i64 0)] w47 fun _ w =>
 J2 w))))))) ∧
 ∀ w : World, J2 w → ∀ _f : Env,
 Go.Vc.Safe (t0) ∧
 V prog (fieldAt 141 t0 4) w fun t98 w =>
 V prog (loadAt 3 t98) w fun t99 w =>
 V prog (binOp .sub 3 t99 (i64 1)) w fun t100 w =>
 Go.Vc.Safe (t0) ∧
 V prog (fieldAt 141 t0 4) w fun t102 w =>
 U prog (storeAt 3 t102 t100) w fun _ w =>
 R (.tuple #[]) w
theorem F106_wp (h : F106_den t0 w R) : callD prog 106 #[t0] w R :=
  den_wp mixed F106_ann func106 (by kernel_rfl) (by kernel_rfl) h
def F107_ann : Ann := (q (q (.seq (q (.cond (q .leaf) .leaf)) (q .leaf))))
def F107_den (t0 : Value) (w : World) (R : Value → World → Prop) : Prop :=
 callD prog 139 #[] w fun t4 w =>
 V prog (binOp .lss 3 t0 (i64 1)) w fun t6 w =>
 gd t6 false (fun K => K t0 w) w fun t8 w =>
 gd t6 false (fun K => K t4 w) w fun t9 w =>
 gd t6 false (fun K => V prog (Builtin.len_ #[53] 3 #[t9]) w K) w fun t10 w =>
 gd t6 false (fun K => V prog (binOp .geq 3 t8 t10) w K) w fun t11 w =>
 pickD t6 (.bool true) t11 fun t12 =>
 ifD t12 (
 R (Value.string { data := #[] }) w) (
 V prog (indexAt 53 t4 t0) w fun t15 w =>
 V prog (loadAt 9 t15) w fun t16 w =>
 R t16 w)
theorem F107_wp (h : F107_den t0 w R) : callD prog 107 #[t0] w R :=
  den_wp mixed F107_ann func107 (by kernel_rfl) (by kernel_rfl) h
def F108_ann : Ann := (q (q .leaf))
def F108_den (t0 t1 t2 : Value) (w : World) (R : Value → World → Prop) : Prop :=
 V prog (binOp .geq 3 t0 t1) w fun t9 w =>
 gd t9 true (fun K => K t0 w) w fun t11 w =>
 gd t9 true (fun K => K t2 w) w fun t12 w =>
 gd t9 true (fun K => V prog (binOp .leq 3 t11 t12) w K) w fun t13 w =>
 pickD t9 t13 (.bool false) fun t14 =>
 R t14 w
theorem F108_wp (h : F108_den t0 t1 t2 w R) : callD prog 108 #[t0, t1, t2] w R :=
  den_wp mixed F108_ann func108 (by kernel_rfl) (by kernel_rfl) h
def F109_ann : Ann := (q (.seq (q (.cond (q .leaf) .leaf)) (.seq (q (.cond (q .leaf) .leaf)) (q .leaf))))
def F109_den (t0 t1 : Value) (w : World) (R : Value → World → Prop) : Prop :=
 V prog (box 94 t0) w fun t2 w =>
 V prog (fieldAt 94 t2 0) w fun t7 w =>
 V prog (loadAt 57 t7) w fun t8 w =>
 V prog (Builtin.len_ #[57] 3 #[t8]) w fun t9 w =>
 V prog (binOp .lss 3 t1 t9) w fun t10 w5 =>
 ifD t10 (
 V prog (fieldAt 94 t2 0) w5 fun t11 w =>
 V prog (loadAt 57 t11) w fun t12 w =>
 V prog (indexAt 57 t12 t1) w fun t14 w =>
 V prog (loadAt 3 t14) w fun t15 w =>
 R (.tuple #[t15, (.bool true)]) w) (
 V prog (fieldAt 94 t2 0) w5 fun t17 w =>
 V prog (loadAt 57 t17) w fun t18 w =>
 V prog (Builtin.len_ #[57] 3 #[t18]) w fun t19 w =>
 V prog (fieldAt 94 t2 2) w fun t20 w =>
 V prog (loadAt 57 t20) w fun t21 w =>
 V prog (Builtin.len_ #[57] 3 #[t21]) w fun t22 w =>
 V prog (binOp .add 3 t19 t22) w fun t23 w =>
 V prog (binOp .lss 3 t1 t23) w fun t24 w17 =>
 ifD t24 (
 V prog (fieldAt 94 t2 2) w17 fun t25 w =>
 V prog (loadAt 57 t25) w fun t26 w =>
 V prog (fieldAt 94 t2 0) w fun t28 w =>
 V prog (loadAt 57 t28) w fun t29 w =>
 V prog (Builtin.len_ #[57] 3 #[t29]) w fun t30 w =>
 V prog (binOp .sub 3 t1 t30) w fun t31 w =>
 V prog (indexAt 57 t26 t31) w fun t32 w =>
 V prog (loadAt 3 t32) w fun t33 w =>
 R (.tuple #[t33, (.bool true)]) w) (
 R (.tuple #[(i64 0), (.bool false)]) w17))
theorem F109_wp (h : F109_den t0 t1 w R) : callD prog 109 #[t0, t1] w R :=
  den_wp mixed F109_ann func109 (by kernel_rfl) (by kernel_rfl) h
def F110_ann : Ann := (q (.seq (q (.block (.join (rg 9 13) [9] (q (.cond .leaf (q (.cond .leaf (q (.cond .leaf .leaf)))))) (.cond (q .leaf) (q (.cond (q .leaf) (q (.cond (q .leaf) (q (.cond (q .leaf) (q (.cond (.seq (q (.cond (q .leaf) .leaf)) (q .leaf)) .leaf)))))))))))) (q .leaf)))
def F110_den (t0 t1 t2 : Value) (w : World) (R : Value → World → Prop) : Prop :=
 V prog (box 61 t0) w fun t3 w =>
 V prog (box 94 t1) w fun t4 w =>
 V prog (box 97 t2) w fun t5 w =>
 V prog (fieldAt 97 t5 0) w fun t7 w =>
 V prog (loadAt 3 t7) w fun t8 w =>
 ∃ J1 : NP 1,
 (V prog (do eqGuard .eql 3 (.tmp 8) (.const (i64 3)) t8 (i64 3); binOp .eql 3 t8 (i64 3)) w fun t10 w =>
 ifD t10 (
 J1 t10 w) (
 V prog (do eqGuard .eql 3 (.tmp 8) (.const (i64 4)) t8 (i64 4); binOp .eql 3 t8 (i64 4)) w fun t11 w =>
 ifD t11 (
 J1 t11 w) (
 V prog (do eqGuard .eql 3 (.tmp 8) (.const (i64 5)) t8 (i64 5); binOp .eql 3 t8 (i64 5)) w fun t12 w =>
 ifD t12 (
 J1 t12 w) (
 V prog (do eqGuard .eql 3 (.tmp 8) (.const (i64 34)) t8 (i64 34); binOp .eql 3 t8 (i64 34)) w fun t13 w =>
 J1 t13 w)))) ∧
 ∀ (t9 : Value), ∀ w : World, J1 t9 w → ∀ _f : Env,
 ifD t9 (
 R (i64 1) w) (
 V prog (do eqGuard .eql 3 (.tmp 8) (.const (i64 22)) t8 (i64 22); binOp .eql 3 t8 (i64 22)) w fun t15 w =>
 ifD t15 (
 R (i64 3) w) (
 V prog (do eqGuard .eql 3 (.tmp 8) (.const (i64 37)) t8 (i64 37); binOp .eql 3 t8 (i64 37)) w fun t17 w12 =>
 ifD t17 (
 V prog (fieldAt 61 t3 3) w12 fun t18 w =>
 V prog (loadAt 59 t18) w fun t19 w =>
 V prog (fieldAt 97 t5 1) w fun t20 w =>
 V prog (loadAt 3 t20) w fun t21 w =>
 V prog (indexAt 59 t19 t21) w fun t22 w =>
 V prog (fieldAt 94 t22 0) w fun t23 w =>
 V prog (loadAt 57 t23) w fun t24 w =>
 V prog (Builtin.len_ #[57] 3 #[t24]) w fun t25 w =>
 R t25 w) (
 V prog (do eqGuard .eql 3 (.tmp 8) (.const (i64 38)) t8 (i64 38); binOp .eql 3 t8 (i64 38)) w12 fun t27 w21 =>
 ifD t27 (
 V prog (fieldAt 61 t3 2) w21 fun t28 w =>
 V prog (loadAt 58 t28) w fun t29 w =>
 V prog (fieldAt 97 t5 1) w fun t30 w =>
 V prog (loadAt 3 t30) w fun t31 w =>
 V prog (indexAt 58 t29 t31) w fun t32 w =>
 V prog (fieldAt 91 t32 2) w fun t33 w =>
 V prog (loadAt 57 t33) w fun t34 w =>
 V prog (Builtin.len_ #[57] 3 #[t34]) w fun t35 w =>
 R t35 w) (
 V prog (do eqGuard .eql 3 (.tmp 8) (.const (i64 39)) t8 (i64 39); binOp .eql 3 t8 (i64 39)) w21 fun t37 w30 =>
 ifD t37 (
 V prog (fieldAt 94 t4 1) w30 fun t38 w =>
 V prog (loadAt 3 t38) w fun t39 w =>
 V prog (do eqGuard .neq 3 (.tmp 39) (.const (i64 0)) t39 (i64 0); binOp .neq 3 t39 (i64 0)) w fun t40 w =>
 ifD t40 (
 R (i64 1) w) (
 R (i64 0) w)) (
 V prog (fieldAt 97 t5 0) w30 fun t41 w =>
 V prog (loadAt 3 t41) w fun t42 w =>
 callD prog 112 #[t42] w fun t43 w =>
 V prog (Builtin.len_ #[9] 3 #[t43]) w fun t44 w =>
 R t44 w)))))
theorem F110_wp (h : F110_den t0 t1 t2 w R) : callD prog 110 #[t0, t1, t2] w R :=
  den_wp mixed F110_ann func110 (by kernel_rfl) (by kernel_rfl) h
def F111_ann : Ann := (q (.seq (q (.block (q (.cond (q .leaf) (.join (rg 9 18) [9] (q (.cond .leaf (q (.cond .leaf (q (.cond .leaf (q (.cond .leaf (q (.cond .leaf (q (.cond .leaf (q (.cond .leaf (q (.cond .leaf .leaf)))))))))))))))) (.cond (q .leaf) (q (.cond (q .leaf) (q (.cond (q .leaf) .leaf)))))))))) (q .leaf)))
def F111_den (t0 t1 : Value) (w : World) (R : Value → World → Prop) : Prop :=
 V prog (box 61 t0) w fun t2 w =>
 V prog (box 97 t1) w fun t3 w =>
 V prog (fieldAt 97 t3 0) w fun t5 w =>
 V prog (loadAt 3 t5) w fun t6 w =>
 V prog (do eqGuard .eql 3 (.tmp 6) (.const (i64 5)) t6 (i64 5); binOp .eql 3 t6 (i64 5)) w fun t8 w =>
 ifD t8 (
 R (i64 2) w) (
 ∃ J1 : NP 1,
 (V prog (do eqGuard .eql 3 (.tmp 6) (.const (i64 3)) t6 (i64 3); binOp .eql 3 t6 (i64 3)) w fun t10 w =>
 ifD t10 (
 J1 t10 w) (
 V prog (do eqGuard .eql 3 (.tmp 6) (.const (i64 4)) t6 (i64 4); binOp .eql 3 t6 (i64 4)) w fun t11 w =>
 ifD t11 (
 J1 t11 w) (
 V prog (do eqGuard .eql 3 (.tmp 6) (.const (i64 23)) t6 (i64 23); binOp .eql 3 t6 (i64 23)) w fun t12 w =>
 ifD t12 (
 J1 t12 w) (
 V prog (do eqGuard .eql 3 (.tmp 6) (.const (i64 24)) t6 (i64 24); binOp .eql 3 t6 (i64 24)) w fun t13 w =>
 ifD t13 (
 J1 t13 w) (
 V prog (do eqGuard .eql 3 (.tmp 6) (.const (i64 30)) t6 (i64 30); binOp .eql 3 t6 (i64 30)) w fun t14 w =>
 ifD t14 (
 J1 t14 w) (
 V prog (do eqGuard .eql 3 (.tmp 6) (.const (i64 31)) t6 (i64 31); binOp .eql 3 t6 (i64 31)) w fun t15 w =>
 ifD t15 (
 J1 t15 w) (
 V prog (do eqGuard .eql 3 (.tmp 6) (.const (i64 34)) t6 (i64 34); binOp .eql 3 t6 (i64 34)) w fun t16 w =>
 ifD t16 (
 J1 t16 w) (
 V prog (do eqGuard .eql 3 (.tmp 6) (.const (i64 36)) t6 (i64 36); binOp .eql 3 t6 (i64 36)) w fun t17 w =>
 ifD t17 (
 J1 t17 w) (
 V prog (do eqGuard .eql 3 (.tmp 6) (.const (i64 39)) t6 (i64 39); binOp .eql 3 t6 (i64 39)) w fun t18 w =>
 J1 t18 w))))))))) ∧
 ∀ (t9 : Value), ∀ w : World, J1 t9 w → ∀ _f : Env,
 ifD t9 (
 R (i64 0) w) (
 V prog (do eqGuard .eql 3 (.tmp 6) (.const (i64 37)) t6 (i64 37); binOp .eql 3 t6 (i64 37)) w fun t20 w16 =>
 ifD t20 (
 V prog (fieldAt 61 t2 3) w16 fun t21 w =>
 V prog (loadAt 59 t21) w fun t22 w =>
 V prog (fieldAt 97 t3 1) w fun t23 w =>
 V prog (loadAt 3 t23) w fun t24 w =>
 V prog (indexAt 59 t22 t24) w fun t25 w =>
 V prog (fieldAt 94 t25 1) w fun t26 w =>
 V prog (loadAt 3 t26) w fun t27 w =>
 V prog (Builtin.min_ #[3, 3] 3 #[(i64 1), t27]) w fun t28 w =>
 R t28 w) (
 V prog (do eqGuard .eql 3 (.tmp 6) (.const (i64 38)) t6 (i64 38); binOp .eql 3 t6 (i64 38)) w16 fun t30 w25 =>
 ifD t30 (
 V prog (fieldAt 61 t2 2) w25 fun t31 w =>
 V prog (loadAt 58 t31) w fun t32 w =>
 V prog (fieldAt 97 t3 1) w fun t33 w =>
 V prog (loadAt 3 t33) w fun t34 w =>
 V prog (indexAt 58 t32 t34) w fun t35 w =>
 V prog (fieldAt 91 t35 3) w fun t36 w =>
 V prog (loadAt 3 t36) w fun t37 w =>
 V prog (Builtin.min_ #[3, 3] 3 #[(i64 1), t37]) w fun t38 w =>
 R t38 w) (
 R (i64 1) w25))))
theorem F111_wp (h : F111_den t0 t1 w R) : callD prog 111 #[t0, t1] w R :=
  den_wp mixed F111_ann func111 (by kernel_rfl) (by kernel_rfl) h
def F112_ann : Ann := (q (.seq (q (.block (.join (rg 4 16) [4] (q (.cond .leaf (q (.cond .leaf (q (.cond .leaf (q (.cond .leaf (q (.cond .leaf (q (.cond .leaf (q (.cond .leaf (q (.cond .leaf (q (.cond .leaf (q (.cond .leaf (q (.cond .leaf .leaf)))))))))))))))))))))) (.cond (q .leaf) (.join [17, 18, 19] [17] (q (.cond .leaf .leaf)) (.cond (q .leaf) (.join [20, 21, 22] [20] (q (.cond .leaf .leaf)) (.cond (q .leaf) (.join [23, 24, 25] [23] (q (.cond .leaf .leaf)) (.cond (q .leaf) (.join [26, 27, 28] [26] (q (.cond .leaf .leaf)) (.cond (q .leaf) (q (.cond (q .leaf) (q (.cond (q .leaf) (.seq (q (.cond .leaf .leaf)) (.cond (q .leaf) (q (.cond (q .leaf) .leaf)))))))))))))))))))) (q .leaf)))
def F112_den (t0 : Value) (w : World) (R : Value → World → Prop) : Prop :=
 ∃ J1 : NP 1,
 (V prog (do eqGuard .eql 3 (.tmp 3) (.const (i64 6)) t0 (i64 6); binOp .eql 3 t0 (i64 6)) w fun t5 w =>
 ifD t5 (
 J1 t5 w) (
 V prog (do eqGuard .eql 3 (.tmp 3) (.const (i64 7)) t0 (i64 7); binOp .eql 3 t0 (i64 7)) w fun t6 w =>
 ifD t6 (
 J1 t6 w) (
 V prog (do eqGuard .eql 3 (.tmp 3) (.const (i64 8)) t0 (i64 8); binOp .eql 3 t0 (i64 8)) w fun t7 w =>
 ifD t7 (
 J1 t7 w) (
 V prog (do eqGuard .eql 3 (.tmp 3) (.const (i64 9)) t0 (i64 9); binOp .eql 3 t0 (i64 9)) w fun t8 w =>
 ifD t8 (
 J1 t8 w) (
 V prog (do eqGuard .eql 3 (.tmp 3) (.const (i64 10)) t0 (i64 10); binOp .eql 3 t0 (i64 10)) w fun t9 w =>
 ifD t9 (
 J1 t9 w) (
 V prog (do eqGuard .eql 3 (.tmp 3) (.const (i64 11)) t0 (i64 11); binOp .eql 3 t0 (i64 11)) w fun t10 w =>
 ifD t10 (
 J1 t10 w) (
 V prog (do eqGuard .eql 3 (.tmp 3) (.const (i64 12)) t0 (i64 12); binOp .eql 3 t0 (i64 12)) w fun t11 w =>
 ifD t11 (
 J1 t11 w) (
 V prog (do eqGuard .eql 3 (.tmp 3) (.const (i64 13)) t0 (i64 13); binOp .eql 3 t0 (i64 13)) w fun t12 w =>
 ifD t12 (
 J1 t12 w) (
 V prog (do eqGuard .eql 3 (.tmp 3) (.const (i64 14)) t0 (i64 14); binOp .eql 3 t0 (i64 14)) w fun t13 w =>
 ifD t13 (
 J1 t13 w) (
 V prog (do eqGuard .eql 3 (.tmp 3) (.const (i64 19)) t0 (i64 19); binOp .eql 3 t0 (i64 19)) w fun t14 w =>
 ifD t14 (
 J1 t14 w) (
 V prog (do eqGuard .eql 3 (.tmp 3) (.const (i64 20)) t0 (i64 20); binOp .eql 3 t0 (i64 20)) w fun t15 w =>
 ifD t15 (
 J1 t15 w) (
 V prog (do eqGuard .eql 3 (.tmp 3) (.const (i64 21)) t0 (i64 21); binOp .eql 3 t0 (i64 21)) w fun t16 w =>
 J1 t16 w)))))))))))) ∧
 ∀ (t4 : Value), ∀ w : World, J1 t4 w → ∀ _f : Env,
 ifD t4 (
 R (Value.string { data := #[105, 105] }) w) (
 ∃ J2 : NP 1,
 (V prog (do eqGuard .eql 3 (.tmp 3) (.const (i64 15)) t0 (i64 15); binOp .eql 3 t0 (i64 15)) w fun t18 w =>
 ifD t18 (
 J2 t18 w) (
 V prog (do eqGuard .eql 3 (.tmp 3) (.const (i64 16)) t0 (i64 16); binOp .eql 3 t0 (i64 16)) w fun t19 w =>
 J2 t19 w)) ∧
 ∀ (t17 : Value), ∀ w : World, J2 t17 w → ∀ _f : Env,
 ifD t17 (
 R (Value.string { data := #[105] }) w) (
 ∃ J3 : NP 1,
 (V prog (do eqGuard .eql 3 (.tmp 3) (.const (i64 17)) t0 (i64 17); binOp .eql 3 t0 (i64 17)) w fun t21 w =>
 ifD t21 (
 J3 t21 w) (
 V prog (do eqGuard .eql 3 (.tmp 3) (.const (i64 18)) t0 (i64 18); binOp .eql 3 t0 (i64 18)) w fun t22 w =>
 J3 t22 w)) ∧
 ∀ (t20 : Value), ∀ w : World, J3 t20 w → ∀ _f : Env,
 ifD t20 (
 R (Value.string { data := #[112, 112] }) w) (
 ∃ J4 : NP 1,
 (V prog (do eqGuard .eql 3 (.tmp 3) (.const (i64 24)) t0 (i64 24); binOp .eql 3 t0 (i64 24)) w fun t24 w =>
 ifD t24 (
 J4 t24 w) (
 V prog (do eqGuard .eql 3 (.tmp 3) (.const (i64 27)) t0 (i64 27); binOp .eql 3 t0 (i64 27)) w fun t25 w =>
 J4 t25 w)) ∧
 ∀ (t23 : Value), ∀ w : World, J4 t23 w → ∀ _f : Env,
 ifD t23 (
 R (Value.string { data := #[112] }) w) (
 ∃ J5 : NP 1,
 (V prog (do eqGuard .eql 3 (.tmp 3) (.const (i64 26)) t0 (i64 26); binOp .eql 3 t0 (i64 26)) w fun t27 w =>
 ifD t27 (
 J5 t27 w) (
 V prog (do eqGuard .eql 3 (.tmp 3) (.const (i64 28)) t0 (i64 28); binOp .eql 3 t0 (i64 28)) w fun t28 w =>
 J5 t28 w)) ∧
 ∀ (t26 : Value), ∀ w : World, J5 t26 w → ∀ _f : Env,
 ifD t26 (
 R (Value.string { data := #[97] }) w) (
 V prog (do eqGuard .eql 3 (.tmp 3) (.const (i64 29)) t0 (i64 29); binOp .eql 3 t0 (i64 29)) w fun t30 w =>
 ifD t30 (
 R (Value.string { data := #[97, 112] }) w) (
 V prog (do eqGuard .eql 3 (.tmp 3) (.const (i64 30)) t0 (i64 30); binOp .eql 3 t0 (i64 30)) w fun t32 w =>
 ifD t32 (
 R (Value.string { data := #[97, 112, 105] }) w) (
 V prog (do eqGuard .eql 3 (.tmp 3) (.const (i64 31)) t0 (i64 31); binOp .eql 3 t0 (i64 31)) w fun t34 w28 =>
 ifD t34 (
 ifD t34 (
 R (Value.string { data := #[97, 112, 97, 112, 112] }) w28) (
 V prog (do eqGuard .eql 3 (.tmp 3) (.const (i64 36)) t0 (i64 36); binOp .eql 3 t0 (i64 36)) w28 fun t37 w =>
 ifD t37 (
 R (Value.string { data := #[97, 112, 112] }) w) (
 R (Value.string { data := #[] }) w))) (
 V prog (do eqGuard .eql 3 (.tmp 3) (.const (i64 32)) t0 (i64 32); binOp .eql 3 t0 (i64 32)) w28 fun t35 w =>
 ifD t35 (
 R (Value.string { data := #[97, 112, 97, 112, 112] }) w) (
 V prog (do eqGuard .eql 3 (.tmp 3) (.const (i64 36)) t0 (i64 36); binOp .eql 3 t0 (i64 36)) w fun t37_1 w =>
 ifD t37_1 (
 R (Value.string { data := #[97, 112, 112] }) w) (
 R (Value.string { data := #[] }) w))))))))))
theorem F112_wp (h : F112_den t0 w R) : callD prog 112 #[t0] w R :=
  den_wp mixed F112_ann func112 (by kernel_rfl) (by kernel_rfl) h
def F113_ann : Ann := (q (q .leaf))
def F113_den (t0 : Value) (w : World) (R : Value → World → Prop) : Prop :=
 V prog (do eqGuard .eql 3 (.tmp 3) (.const (i64 3)) t0 (i64 3); binOp .eql 3 t0 (i64 3)) w fun t4 w =>
 gd t4 false (fun K => K t0 w) w fun t6 w =>
 gd t4 false (fun K => V prog (do eqGuard .eql 3 (.tmp 6) (.const (i64 4)) t6 (i64 4); binOp .eql 3 t6 (i64 4)) w K) w fun t7 w =>
 pickD t4 (.bool true) t7 fun t8 =>
 R t8 w
theorem F113_wp (h : F113_den t0 w R) : callD prog 113 #[t0] w R :=
  den_wp mixed F113_ann func113 (by kernel_rfl) (by kernel_rfl) h
def F114_ann : Ann := (q (q .leaf))
def F114_den (t0 : Value) (w : World) (R : Value → World → Prop) : Prop :=
 V prog (do eqGuard .eql 3 (.tmp 3) (.const (i64 1)) t0 (i64 1); binOp .eql 3 t0 (i64 1)) w fun t4 w =>
 gd t4 false (fun K => K t0 w) w fun t6 w =>
 gd t4 false (fun K => V prog (do eqGuard .eql 3 (.tmp 6) (.const (i64 2)) t6 (i64 2); binOp .eql 3 t6 (i64 2)) w K) w fun t7 w =>
 pickD t4 (.bool true) t7 fun t8 =>
 R t8 w
theorem F114_wp (h : F114_den t0 w R) : callD prog 114 #[t0] w R :=
  den_wp mixed F114_ann func114 (by kernel_rfl) (by kernel_rfl) h
def F115_ann : Ann := (q (q .leaf))
def F115_den (t0 : Value) (w : World) (R : Value → World → Prop) : Prop :=
 V prog (do eqGuard .eql 3 (.tmp 3) (.const (i64 2)) t0 (i64 2); binOp .eql 3 t0 (i64 2)) w fun t4 w =>
 gd t4 false (fun K => K t0 w) w fun t6 w =>
 gd t4 false (fun K => V prog (do eqGuard .eql 3 (.tmp 6) (.const (i64 4)) t6 (i64 4); binOp .eql 3 t6 (i64 4)) w K) w fun t7 w =>
 pickD t4 (.bool true) t7 fun t8 =>
 R t8 w
theorem F115_wp (h : F115_den t0 w R) : callD prog 115 #[t0] w R :=
  den_wp mixed F115_ann func115 (by kernel_rfl) (by kernel_rfl) h
def F116_ann : Ann := (q .leaf)
def F116_den (t0 t1 : Value) (w : World) (R : Value → World → Prop) : Prop :=
 Go.Vc.Safe (t0) ∧
 V prog (fieldAt 200 t0 0) w fun t7 w =>
 V prog (loadAt 4 t7) w fun t8 w =>
 gd t8 false (fun K => K t1 w) w fun t10 w =>
 gd t8 false (fun K => V prog (do eqGuard .eql 48 (.tmp 10) (.const (i64 11)) t10 (i64 11); binOp .eql 48 t10 (i64 11)) w K) w fun t11 w =>
 pickD t8 (.bool true) t11 fun t12 =>
 Go.Vc.Safe (t0) ∧
 V prog (fieldAt 200 t0 0) w fun t14 w =>
 U prog (storeAt 4 t14 t12) w fun _ w =>
 Go.Vc.Safe (t0) ∧
 V prog (fieldAt 200 t0 1) w fun t18 w =>
 V prog (loadAt 4 t18) w fun t19 w =>
 gd t19 false (fun K => K t1 w) w fun t21 w =>
 gd t19 false (fun K => V prog (do eqGuard .eql 48 (.tmp 21) (.const (i64 12)) t21 (i64 12); binOp .eql 48 t21 (i64 12)) w K) w fun t22 w =>
 pickD t19 (.bool true) t22 fun t23 =>
 Go.Vc.Safe (t0) ∧
 V prog (fieldAt 200 t0 1) w fun t25 w =>
 U prog (storeAt 4 t25 t23) w fun _ w =>
 R (.tuple #[]) w
theorem F116_wp (h : F116_den t0 t1 w R) : callD prog 116 #[t0, t1] w R :=
  den_wp mixed F116_ann func116 (by kernel_rfl) (by kernel_rfl) h
def F117_ann : Ann := (q (.seq (.block (q (.cond (q .leaf) (q (.cond (q .leaf) .leaf))))) (q .leaf)))
def F117_den (t0 t1 : Value) (w : World) (R : Value → World → Prop) : Prop :=
 callD prog 114 #[t0] w fun t7 w =>
 callD prog 114 #[t1] w fun t9 w =>
 V prog (do eqGuard .neq 4 (.tmp 7) (.tmp 9) t7 t9; binOp .neq 4 t7 t9) w fun t10 w =>
 gd t10 false (fun K => K t0 w) w fun t12 w =>
 gd t10 false (fun K => callD prog 113 #[t12] w K) w fun t13 w =>
 gd t10 false (fun K => K t13 w) w fun t14 w =>
 gd t14 true (fun K => K t0 w) w fun t15 w =>
 gd t14 true (fun K => K t1 w) w fun t16 w =>
 gd t14 true (fun K => V prog (do eqGuard .neq 3 (.tmp 15) (.tmp 16) t15 t16; binOp .neq 3 t15 t16) w K) w fun t17 w =>
 gd t10 false (fun K => pickD t14 t17 (.bool false) fun v => K v w) w fun t18 w =>
 pickD t10 (.bool true) t18 fun t19 =>
 ifD t19 (
 R (i64 11) w) (
 callD prog 140 #[t0, t1] w fun t23 w =>
 V prog (Op.unary UnOp.not t23) w fun t24 w =>
 ifD t24 (
 R (i64 12) w) (
 R (i64 0) w))
theorem F117_wp (h : F117_den t0 t1 w R) : callD prog 117 #[t0, t1] w R :=
  den_wp mixed F117_ann func117 (by kernel_rfl) (by kernel_rfl) h
def F118_ann : Ann := (q (.seq (q (.block (.join (rg 15 20) [15] (q (.cond .leaf (q (.cond .leaf (q (.cond .leaf (q (.cond .leaf .leaf)))))))) (.cond (q .leaf) (q (.cond (q (q .leaf)) (q (.cond (.seq (.draw [0, 1, 2, 0, 8, 16, 36, 127] [0, 1, 2, 0, 8, 16, 36, 64] 0 8 255 (tk (rg 0 5) (.only 6 (.take 7 .done)))) .leaf) (.join (rg 42 54) [42] (q (.cond .leaf (q (.cond .leaf (q (.cond .leaf (q (.cond .leaf (q (.cond .leaf (q (.cond .leaf (q (.cond .leaf (q (.cond .leaf (q (.cond .leaf (q (.cond .leaf (q (.cond .leaf .leaf)))))))))))))))))))))) (.cond (.seq (.draw [0, 1, 2, 0, 8, 16, 36, 64, 255] [0, 1, 2, 0, 8, 16, 36, 64, 128] 0 9 511 (tk (rg 0 5) (.only 6 (.only 7 (.take 8 .done))))) .leaf) (.join [63, 64, 65] [63] (q (.cond .leaf .leaf)) (.cond (q .leaf) (q (.cond (.seq (q (.cond (q .leaf) .leaf)) (.seq (.draw [0, 1, 2, 0, 8, 16, 0, 64, 128, 288, 516, 1024, 4095] [0, 1, 2, 0, 8, 16, 0, 64, 128, 288, 516, 1024, 2048] 0 13 8191 (tk (rg 0 8) (.only 9 (.only 10 (.only 11 (.take 12 .done)))))) .leaf)) (.join [92, 93, 94] [92] (q (.cond .leaf .leaf)) (.cond (q .leaf) (q (.cond (q .leaf) (q (.cond (.seq (q (.cond (q .leaf) .leaf)) (q .leaf)) (q (.cond (q .leaf) (q (.cond (q .leaf) (q (.cond (q (q (.cond (q .leaf) .leaf))) (q (.cond (q (q (.cond (q .leaf) .leaf))) .leaf)))))))))))))))))))))))))))) (q .leaf)))
def F118_den (t0 t1 t2 t3 : Value) (w : World) (R : Value → World → Prop) : Prop :=
 V prog (box 61 t0) w fun t4 w =>
 V prog (box 94 t1) w fun t5 w =>
 V prog (box 97 t2) w fun t6 w =>
 V prog (fieldAt 97 t6 0) w fun t13 w =>
 V prog (loadAt 3 t13) w fun t14 w =>
 ∃ J1 : NP 1,
 (V prog (do eqGuard .eql 3 (.tmp 14) (.const (i64 1)) t14 (i64 1); binOp .eql 3 t14 (i64 1)) w fun t16 w =>
 ifD t16 (
 J1 t16 w) (
 V prog (do eqGuard .eql 3 (.tmp 14) (.const (i64 17)) t14 (i64 17); binOp .eql 3 t14 (i64 17)) w fun t17 w =>
 ifD t17 (
 J1 t17 w) (
 V prog (do eqGuard .eql 3 (.tmp 14) (.const (i64 18)) t14 (i64 18); binOp .eql 3 t14 (i64 18)) w fun t18 w =>
 ifD t18 (
 J1 t18 w) (
 V prog (do eqGuard .eql 3 (.tmp 14) (.const (i64 26)) t14 (i64 26); binOp .eql 3 t14 (i64 26)) w fun t19 w =>
 ifD t19 (
 J1 t19 w) (
 V prog (do eqGuard .eql 3 (.tmp 14) (.const (i64 28)) t14 (i64 28); binOp .eql 3 t14 (i64 28)) w fun t20 w =>
 J1 t20 w))))) ∧
 ∀ (t15 : Value), ∀ w11 : World, J1 t15 w11 → ∀ _f : Env,
 ifD t15 (
 V prog (buildSlice 57 1 #[(0, (i64 1))]) w11 fun t21 w =>
 R t21 w) (
 V prog (do eqGuard .eql 3 (.tmp 14) (.const (i64 2)) t14 (i64 2); binOp .eql 3 t14 (i64 2)) w11 fun t23 w13 =>
 ifD t23 (
 V prog (loadAt 94 t5) w13 fun t25 w =>
 V prog (fieldAt 97 t6 1) w fun t26 w =>
 V prog (loadAt 3 t26) w fun t27 w =>
 callD prog 109 #[t25, t27] w fun t28 w =>
 V prog (extract t28 0) w fun t29 w =>
 V prog (extract t28 1) w fun _ w =>
 V prog (buildSlice 57 1 #[(0, t29)]) w fun t32 w =>
 R t32 w) (
 V prog (do eqGuard .eql 3 (.tmp 14) (.const (i64 5)) t14 (i64 5); binOp .eql 3 t14 (i64 5)) w13 fun t34 w21 =>
 ifD t34 (
 drawD w21 fun S12 w =>
 yieldS prog S12 (indexAt 57 t3 (i64 0)) fun t36 =>
 yieldS prog S12 (loadAt 3 t36) fun t37 =>
 yieldS prog S12 (indexAt 57 t3 (i64 0)) fun t39 =>
 yieldS prog S12 (loadAt 3 t39) fun t40 =>
 V prog (buildSlice 57 2 #[(0, t37), (1, t40)]) w fun t41 w =>
 S12 w ∧
 R t41 w) (
 ∃ J2 : NP 1,
 (V prog (do eqGuard .eql 3 (.tmp 14) (.const (i64 6)) t14 (i64 6); binOp .eql 3 t14 (i64 6)) w21 fun t43 w =>
 ifD t43 (
 J2 t43 w) (
 V prog (do eqGuard .eql 3 (.tmp 14) (.const (i64 7)) t14 (i64 7); binOp .eql 3 t14 (i64 7)) w fun t44 w =>
 ifD t44 (
 J2 t44 w) (
 V prog (do eqGuard .eql 3 (.tmp 14) (.const (i64 8)) t14 (i64 8); binOp .eql 3 t14 (i64 8)) w fun t45 w =>
 ifD t45 (
 J2 t45 w) (
 V prog (do eqGuard .eql 3 (.tmp 14) (.const (i64 9)) t14 (i64 9); binOp .eql 3 t14 (i64 9)) w fun t46 w =>
 ifD t46 (
 J2 t46 w) (
 V prog (do eqGuard .eql 3 (.tmp 14) (.const (i64 10)) t14 (i64 10); binOp .eql 3 t14 (i64 10)) w fun t47 w =>
 ifD t47 (
 J2 t47 w) (
 V prog (do eqGuard .eql 3 (.tmp 14) (.const (i64 11)) t14 (i64 11); binOp .eql 3 t14 (i64 11)) w fun t48 w =>
 ifD t48 (
 J2 t48 w) (
 V prog (do eqGuard .eql 3 (.tmp 14) (.const (i64 12)) t14 (i64 12); binOp .eql 3 t14 (i64 12)) w fun t49 w =>
 ifD t49 (
 J2 t49 w) (
 V prog (do eqGuard .eql 3 (.tmp 14) (.const (i64 13)) t14 (i64 13); binOp .eql 3 t14 (i64 13)) w fun t50 w =>
 ifD t50 (
 J2 t50 w) (
 V prog (do eqGuard .eql 3 (.tmp 14) (.const (i64 14)) t14 (i64 14); binOp .eql 3 t14 (i64 14)) w fun t51 w =>
 ifD t51 (
 J2 t51 w) (
 V prog (do eqGuard .eql 3 (.tmp 14) (.const (i64 19)) t14 (i64 19); binOp .eql 3 t14 (i64 19)) w fun t52 w =>
 ifD t52 (
 J2 t52 w) (
 V prog (do eqGuard .eql 3 (.tmp 14) (.const (i64 20)) t14 (i64 20); binOp .eql 3 t14 (i64 20)) w fun t53 w =>
 ifD t53 (
 J2 t53 w) (
 V prog (do eqGuard .eql 3 (.tmp 14) (.const (i64 21)) t14 (i64 21); binOp .eql 3 t14 (i64 21)) w fun t54 w =>
 J2 t54 w)))))))))))) ∧
 ∀ (t42 : Value), ∀ w36 : World, J2 t42 w36 → ∀ _f : Env,
 ifD t42 (
 drawD w36 fun S25 w =>
 yieldS prog S25 (indexAt 57 t3 (i64 0)) fun t56 =>
 yieldS prog S25 (loadAt 3 t56) fun t57 =>
 yieldS prog S25 (indexAt 57 t3 (i64 1)) fun t59 =>
 yieldS prog S25 (loadAt 3 t59) fun t60 =>
 callD prog 141 #[t57, t60] w fun t61 w =>
 S25 w ∧
 V prog (buildSlice 57 1 #[(0, t61)]) w fun t62 w =>
 S25 w ∧
 R t62 w) (
 ∃ J3 : NP 1,
 (V prog (do eqGuard .eql 3 (.tmp 14) (.const (i64 15)) t14 (i64 15); binOp .eql 3 t14 (i64 15)) w36 fun t64 w =>
 ifD t64 (
 J3 t64 w) (
 V prog (do eqGuard .eql 3 (.tmp 14) (.const (i64 16)) t14 (i64 16); binOp .eql 3 t14 (i64 16)) w fun t65 w =>
 J3 t65 w)) ∧
 ∀ (t63 : Value), ∀ w42 : World, J3 t63 w42 → ∀ _f : Env,
 ifD t63 (
 V prog (indexAt 57 t3 (i64 0)) w42 fun t67 w =>
 V prog (loadAt 3 t67) w fun t68 w =>
 V prog (buildSlice 57 1 #[(0, t68)]) w fun t69 w =>
 R t69 w) (
 V prog (do eqGuard .eql 3 (.tmp 14) (.const (i64 22)) t14 (i64 22); binOp .eql 3 t14 (i64 22)) w42 fun t71 w46 =>
 ifD t71 (
 V prog (indexAt 57 t3 (i64 1)) w46 fun t73 w =>
 V prog (loadAt 3 t73) w fun t74 w =>
 callD prog 113 #[t74] w fun t75 w49 =>
 ifD t75 (
 V prog (indexAt 57 t3 (i64 1)) w49 fun t77 w =>
 V prog (loadAt 3 t77) w fun t78 w =>
 V prog (buildSlice 57 1 #[(0, t78)]) w fun t79 w =>
 R t79 w) (
 drawD w49 fun S32 w =>
 yieldS prog S32 (indexAt 57 t3 (i64 0)) fun t81 =>
 yieldS prog S32 (loadAt 3 t81) fun t82 =>
 yieldS prog S32 (indexAt 57 t3 (i64 1)) fun t84 =>
 yieldS prog S32 (loadAt 3 t84) fun t85 =>
 yieldS prog S32 (indexAt 57 t3 (i64 2)) fun t87 =>
 yieldS prog S32 (loadAt 3 t87) fun t88 =>
 callD prog 141 #[t85, t88] w fun t89 w =>
 S32 w ∧
 callD prog 141 #[t82, t89] w fun t90 w =>
 S32 w ∧
 V prog (buildSlice 57 1 #[(0, t90)]) w fun t91 w =>
 S32 w ∧
 R t91 w)) (
 ∃ J4 : NP 1,
 (V prog (do eqGuard .eql 3 (.tmp 14) (.const (i64 25)) t14 (i64 25); binOp .eql 3 t14 (i64 25)) w46 fun t93 w =>
 ifD t93 (
 J4 t93 w) (
 V prog (do eqGuard .eql 3 (.tmp 14) (.const (i64 27)) t14 (i64 27); binOp .eql 3 t14 (i64 27)) w fun t94 w =>
 J4 t94 w)) ∧
 ∀ (t92 : Value), ∀ w59 : World, J4 t92 w59 → ∀ _f : Env,
 ifD t92 (
 V prog (fieldAt 97 t6 1) w59 fun t95 w =>
 V prog (loadAt 3 t95) w fun t96 w =>
 V prog (buildSlice 57 1 #[(0, t96)]) w fun t97 w =>
 R t97 w) (
 V prog (do eqGuard .eql 3 (.tmp 14) (.const (i64 29)) t14 (i64 29); binOp .eql 3 t14 (i64 29)) w59 fun t99 w63 =>
 ifD t99 (
 V prog (indexAt 57 t3 (i64 0)) w63 fun t101 w =>
 V prog (loadAt 3 t101) w fun t102 w =>
 callD prog 142 #[t102] w fun t103 w =>
 V prog (buildSlice 57 1 #[(0, t103)]) w fun t104 w =>
 R t104 w) (
 V prog (do eqGuard .eql 3 (.tmp 14) (.const (i64 32)) t14 (i64 32); binOp .eql 3 t14 (i64 32)) w63 fun t106 w68 =>
 ifD t106 (
 V prog (indexAt 57 t3 (i64 0)) w68 fun t108 w =>
 V prog (loadAt 3 t108) w fun t109 w =>
 V prog (do eqGuard .eql 3 (.tmp 109) (.const (i64 4)) t109 (i64 4); binOp .eql 3 t109 (i64 4)) w fun t110 w =>
 gd t110 false (fun K => K t3 w) w fun t112 w =>
 gd t110 false (fun K => V prog (indexAt 57 t112 (i64 2)) w K) w fun t113 w =>
 gd t110 false (fun K => V prog (loadAt 3 t113) w K) w fun t114 w =>
 gd t110 false (fun K => V prog (do eqGuard .eql 3 (.tmp 114) (.const (i64 4)) t114 (i64 4); binOp .eql 3 t114 (i64 4)) w K) w fun t115 w75 =>
 pickD t110 (.bool true) t115 fun t116 =>
 ifD t116 (
 V prog (buildSlice 57 1 #[(0, (i64 2))]) w75 fun t117 w =>
 R t117 w) (
 V prog (buildSlice 57 1 #[(0, (i64 1))]) w75 fun t118 w =>
 R t118 w)) (
 V prog (do eqGuard .eql 3 (.tmp 14) (.const (i64 33)) t14 (i64 33); binOp .eql 3 t14 (i64 33)) w68 fun t120 w79 =>
 ifD t120 (
 V prog (fieldAt 61 t4 1) w79 fun t121 w =>
 V prog (loadAt 57 t121) w fun t122 w =>
 V prog (fieldAt 97 t6 1) w fun t123 w =>
 V prog (loadAt 3 t123) w fun t124 w =>
 V prog (indexAt 57 t122 t124) w fun t125 w =>
 V prog (loadAt 3 t125) w fun t126 w =>
 V prog (buildSlice 57 1 #[(0, t126)]) w fun t127 w =>
 R t127 w) (
 V prog (do eqGuard .eql 3 (.tmp 14) (.const (i64 35)) t14 (i64 35); binOp .eql 3 t14 (i64 35)) w79 fun t129 w87 =>
 ifD t129 (
 V prog (fieldAt 97 t6 1) w87 fun t130 w =>
 V prog (loadAt 3 t130) w fun t131 w =>
 V prog (binOp .add 3 (i64 3) t131) w fun t132 w =>
 V prog (binOp .sub 3 t132 (i64 1)) w fun t133 w =>
 V prog (buildSlice 57 1 #[(0, t133)]) w fun t134 w =>
 R t134 w) (
 V prog (do eqGuard .eql 3 (.tmp 14) (.const (i64 37)) t14 (i64 37); binOp .eql 3 t14 (i64 37)) w87 fun t136 w93 =>
 ifD t136 (
 V prog (fieldAt 61 t4 3) w93 fun t137 w =>
 V prog (loadAt 59 t137) w fun t138 w =>
 V prog (fieldAt 97 t6 1) w fun t139 w =>
 V prog (loadAt 3 t139) w fun t140 w =>
 V prog (indexAt 59 t138 t140) w fun t141 w =>
 V prog (fieldAt 94 t141 1) w fun t142 w =>
 V prog (loadAt 3 t142) w fun t143 w =>
 V prog (do eqGuard .neq 3 (.tmp 144) (.const (i64 0)) t143 (i64 0); binOp .neq 3 t143 (i64 0)) w fun t145 w101 =>
 ifD t145 (
 V prog (buildSlice 57 1 #[(0, t143)]) w101 fun t147 w =>
 R t147 w) (
 R nilS w101)) (
 V prog (do eqGuard .eql 3 (.tmp 14) (.const (i64 38)) t14 (i64 38); binOp .eql 3 t14 (i64 38)) w93 fun t149 w103 =>
 ifD t149 (
 V prog (fieldAt 61 t4 2) w103 fun t150 w =>
 V prog (loadAt 58 t150) w fun t151 w =>
 V prog (fieldAt 97 t6 1) w fun t152 w =>
 V prog (loadAt 3 t152) w fun t153 w =>
 V prog (indexAt 58 t151 t153) w fun t154 w =>
 V prog (fieldAt 91 t154 3) w fun t155 w =>
 V prog (loadAt 3 t155) w fun t156 w =>
 V prog (do eqGuard .neq 3 (.tmp 157) (.const (i64 0)) t156 (i64 0); binOp .neq 3 t156 (i64 0)) w fun t158 w111 =>
 ifD t158 (
 V prog (buildSlice 57 1 #[(0, t156)]) w111 fun t160 w =>
 R t160 w) (
 R nilS w111)) (
 R nilS w103)))))))))))))
theorem F118_wp (h : F118_den t0 t1 t2 t3 w R) : callD prog 118 #[t0, t1, t2, t3] w R :=
  den_wp mixed F118_ann func118 (by kernel_rfl) (by kernel_rfl) h
def F119_ann : Ann := (q (.seq (.block (q (.cond (q .leaf) (q (.cond (q .leaf) .leaf))))) (q .leaf)))
def F119_den (t0 t1 : Value) (w : World) (R : Value → World → Prop) : Prop :=
 V prog (do eqGuard .eql 3 (.tmp 7) (.tmp 8) t0 t1; binOp .eql 3 t0 t1) w fun t9 w =>
 gd t9 true (fun K => K t0 w) w fun t11 w =>
 gd t9 true (fun K => callD prog 114 #[t11] w K) w fun t12 w =>
 gd t9 true (fun K => K t12 w) w fun t13 w =>
 gd t13 false (fun K => K t0 w) w fun t14 w =>
 gd t13 false (fun K => callD prog 113 #[t14] w K) w fun t15 w =>
 gd t9 true (fun K => pickD t13 (.bool true) t15 fun v => K v w) w fun t16 w =>
 pickD t9 t16 (.bool false) fun t17 =>
 ifD t17 (
 R (.tuple #[t0, (.bool true)]) w) (
 callD prog 114 #[t0] w fun t21 w =>
 gd t21 true (fun K => K t1 w) w fun t23 w =>
 gd t21 true (fun K => callD prog 114 #[t23] w K) w fun t24 w =>
 pickD t21 t24 (.bool false) fun t25 =>
 ifD t25 (
 R (.tuple #[(i64 2), (.bool true)]) w) (
 R (.tuple #[(i64 0), (.bool false)]) w))
theorem F119_wp (h : F119_den t0 t1 w R) : callD prog 119 #[t0, t1] w R :=
  den_wp mixed F119_ann func119 (by kernel_rfl) (by kernel_rfl) h
def F137_ann : Ann := (q (.seq (q (.cond (q .leaf) .leaf)) (q (.seq (.draw [0, 1, 2, 4, 0, 16, 32, 64, 0, 256, 512, 1024, 2048, 4224, 8200, 16384, 0, 65536, 131072, 262144, 0, 1048576, 2097152, 4194304, 8388608, 17301504, 33587200, 134217727] [0, 1, 2, 4, 0, 16, 32, 64, 0, 256, 512, 1024, 2048, 4224, 8200, 16384, 0, 65536, 131072, 262144, 0, 1048576, 2097152, 4194304, 8388608, 17301504, 33587200, 67108864] 0 28 268435455 (tk (rg 0 27) .done)) .leaf))))
def F137_den (t0 : Value) (w : World) (R : Value → World → Prop) : Prop :=
 Go.Vc.Safe (t0) ∧
 V prog (fieldAt 141 t0 1) w fun t5 w =>
 V prog (loadAt 57 t5) w fun t6 w =>
 V prog (Builtin.len_ #[57] 3 #[t6]) w fun t7 w =>
 V prog (do eqGuard .eql 3 (.tmp 7) (.const (i64 0)) t7 (i64 0); binOp .eql 3 t7 (i64 0)) w fun t8 w =>
 ifD t8 (
 R (i64 0) w) (
 Go.Vc.Safe (t0) ∧
 V prog (fieldAt 141 t0 2) w fun t11 w =>
 V prog (loadAt 3 t11) w fun t12 w =>
 V prog (binOp .add 3 t12 (i64 1)) w fun t13 w =>
 Go.Vc.Safe (t0) ∧
 V prog (fieldAt 141 t0 2) w fun t15 w =>
 U prog (storeAt 3 t15 t13) w fun _ w =>
 drawD w fun S4 w =>
 Go.Vc.Safe (t0) ∧
 yieldS prog S4 (fieldAt 141 t0 1) fun t18 =>
 yieldS prog S4 (loadAt 57 t18) fun t19 =>
 Go.Vc.Safe (t0) ∧
 yieldS prog S4 (fieldAt 141 t0 2) fun t22 =>
 yieldS prog S4 (loadAt 3 t22) fun t23 =>
 Go.Vc.Safe (t0) ∧
 yieldS prog S4 (fieldAt 141 t0 1) fun t26 =>
 yieldS prog S4 (loadAt 57 t26) fun t27 =>
 yieldS prog S4 (Builtin.len_ #[57] 3 #[t27]) fun t28 =>
 yieldS prog S4 (binOp .rem 3 t23 t28) fun t29 =>
 yieldS prog S4 (indexAt 57 t19 t29) fun t30 =>
 yieldS prog S4 (loadAt 3 t30) fun t31 =>
 Go.Vc.Safe (t0) ∧
 yieldS prog S4 (fieldAt 141 t0 2) fun t34 =>
 yieldS prog S4 (loadAt 3 t34) fun t35 =>
 Go.Vc.Safe (t0) ∧
 yieldS prog S4 (fieldAt 141 t0 1) fun t38 =>
 yieldS prog S4 (loadAt 57 t38) fun t39 =>
 yieldS prog S4 (Builtin.len_ #[57] 3 #[t39]) fun t40 =>
 yieldS prog S4 (binOp .quo 3 t35 t40) fun t41 =>
 yieldS prog S4 (binOp .add 3 t31 t41) fun t42 =>
 R t42 w)
theorem F137_wp (h : F137_den t0 w R) : callD prog 137 #[t0] w R :=
  den_wp mixed F137_ann func137 (by kernel_rfl) (by kernel_rfl) h
def F138_ann : Ann := (q (q (.seq (q (.block (.loop (rg 6 29) [6, 7] (.seq (q (.cond .leaf .leaf)) (.seq (.block (q (.cond .leaf .leaf))) .leaf))))) (.seq (q (.cond (q .leaf) .leaf)) (q .leaf)))))
def F138_den (t0 t1 : Value) (w : World) (R : Value → World → Prop) : Prop :=
 ∃ (I1 : NP 2) (μ1 : NF 2), I1 nilS (i64 0) w ∧
 ∀ (t6 : Value) (t7 : Value), ∀ w1 : World, I1 t6 t7 w1 → ∀ _f : Env,
 Go.Vc.Safe (t0) ∧
 V prog (fieldAt 141 t0 3) w1 fun t11 w =>
 V prog (loadAt 57 t11) w fun t12 w =>
 V prog (Builtin.len_ #[57] 3 #[t12]) w fun t13 w =>
 V prog (binOp .lss 3 t7 t13) w fun t14 w6 =>
 ifD t14 (
 Go.Vc.Safe (t0) ∧
 V prog (fieldAt 141 t0 3) w6 fun t19 w =>
 V prog (loadAt 57 t19) w fun t20 w =>
 V prog (indexAt 57 t20 t7) w fun t22 w =>
 V prog (loadAt 3 t22) w fun t23 w =>
 V prog (do eqGuard .eql 3 (.tmp 23) (.tmp 24) t23 t1; binOp .eql 3 t23 t1) w fun t25 w12 =>
 ifD t25 (
 V prog (buildSlice 57 1 #[(0, t7)]) w12 fun t28 w =>
 V prog (Builtin.append_ #[57, 57] 57 #[t6, t28]) w fun t29 w =>
 V prog (binOp .add 3 t7 (i64 1)) w fun t16 w =>
 I1 t29 t16 w ∧ μ1 t29 t16 w < μ1 t6 t7 w1) (
 V prog (binOp .add 3 t7 (i64 1)) w12 fun t16_1 w =>
 I1 t6 t16_1 w ∧ μ1 t6 t16_1 w < μ1 t6 t7 w1)) (
 V prog (Builtin.len_ #[57] 3 #[t6]) w6 fun t31 w =>
 V prog (do eqGuard .eql 3 (.tmp 31) (.const (i64 0)) t31 (i64 0); binOp .eql 3 t31 (i64 0)) w fun t32 w =>
 ifD t32 (
 R (.tuple #[(i64 0), (.bool false)]) w) (
 callD prog 137 #[t0] w fun t35 w =>
 V prog (Builtin.len_ #[57] 3 #[t6]) w fun t37 w =>
 callD prog 9 #[t35, t37] w fun t38 w =>
 V prog (indexAt 57 t6 t38) w fun t39 w =>
 V prog (loadAt 3 t39) w fun t40 w =>
 R (.tuple #[t40, (.bool true)]) w))
theorem F138_wp (h : F138_den t0 t1 w R) : callD prog 138 #[t0, t1] w R :=
  den_wp mixed F138_ann func138 (by kernel_rfl) (by kernel_rfl) h
def F139_ann : Ann := (q (q .leaf))
def F139_den (w : World) (R : Value → World → Prop) : Prop :=
 V prog (buildSlice 53 40 #[(0, (Value.string { data := #[] })), (1, (Value.string { data := #[112, 117, 115, 104] })), (2, (Value.string { data := #[108, 111, 97, 100] })), (3, (Value.string { data := #[115, 116, 111, 114, 101] })), (4, (Value.string { data := #[112, 111, 112] })), (5, (Value.string { data := #[100, 117, 112] })), (6, (Value.string { data := #[97, 100, 100] })), (7, (Value.string { data := #[115, 117, 98] })), (8, (Value.string { data := #[109, 117, 108] })), (9, (Value.string { data := #[97, 110, 100] })), (10, (Value.string { data := #[111, 114] })), (11, (Value.string { data := #[120, 111, 114] })), (12, (Value.string { data := #[115, 104, 108] })), (13, (Value.string { data := #[115, 104, 114] })), (14, (Value.string { data := #[115, 97, 114] })), (15, (Value.string { data := #[110, 101, 103] })), (16, (Value.string { data := #[110, 111, 116] })), (17, (Value.string { data := #[100, 105, 118] })), (18, (Value.string { data := #[114, 101, 109] })), (19, (Value.string { data := #[101, 113] })), (20, (Value.string { data := #[108, 116] })), (21, (Value.string { data := #[98, 101, 108, 111, 119] })), (22, (Value.string { data := #[112, 105, 99, 107] })), (23, (Value.string { data := #[106, 117, 109, 112] })), (24, (Value.string { data := #[106, 117, 109, 112, 105, 102] })), (25, (Value.string { data := #[110, 117, 108, 108] })), (26, (Value.string { data := #[105, 115, 110, 117, 108, 108] })), (27, (Value.string { data := #[110, 101, 119] })), (28, (Value.string { data := #[108, 101, 110] })), (29, (Value.string { data := #[103, 101, 116] })), (30, (Value.string { data := #[112, 117, 116] })), (31, (Value.string { data := #[99, 111, 112, 121] })), (32, (Value.string { data := #[115, 97, 109, 101] })), (33, (Value.string { data := #[103, 101, 116, 102] })), (34, (Value.string { data := #[112, 117, 116, 102] })), (35, (Value.string { data := #[98, 117, 102] })), (36, (Value.string { data := #[115, 101, 110, 100] })), (37, (Value.string { data := #[99, 97, 108, 108] })), (38, (Value.string { data := #[99, 97, 108, 108, 120] })), (39, (Value.string { data := #[114, 101, 116] }))]) w fun t1 w =>
 R t1 w
theorem F139_wp (h : F139_den w R) : callD prog 139 #[] w R :=
  den_wp mixed F139_ann func139 (by kernel_rfl) (by kernel_rfl) h
def F140_ann : Ann := (q (q .leaf))
def F140_den (t0 t1 : Value) (w : World) (R : Value → World → Prop) : Prop :=
 V prog (do eqGuard .eql 3 (.tmp 5) (.tmp 6) t0 t1; binOp .eql 3 t0 t1) w fun t7 w =>
 gd t7 true (fun K => K t0 w) w fun t9 w =>
 gd t7 true (fun K => callD prog 114 #[t9] w K) w fun t10 w =>
 gd t7 true (fun K => K t10 w) w fun t11 w =>
 gd t11 false (fun K => K t0 w) w fun t12 w =>
 gd t11 false (fun K => callD prog 113 #[t12] w K) w fun t13 w =>
 gd t7 true (fun K => pickD t11 (.bool true) t13 fun v => K v w) w fun t14 w =>
 pickD t7 t14 (.bool false) fun t15 =>
 gd t15 false (fun K => K t0 w) w fun t17 w =>
 gd t15 false (fun K => V prog (do eqGuard .eql 3 (.tmp 17) (.const (i64 1)) t17 (i64 1); binOp .eql 3 t17 (i64 1)) w K) w fun t18 w =>
 gd t15 false (fun K => K t18 w) w fun t19 w =>
 gd t19 true (fun K => K t1 w) w fun t20 w =>
 gd t19 true (fun K => V prog (do eqGuard .eql 3 (.tmp 20) (.const (i64 2)) t20 (i64 2); binOp .eql 3 t20 (i64 2)) w K) w fun t21 w =>
 gd t15 false (fun K => pickD t19 t21 (.bool false) fun v => K v w) w fun t22 w =>
 pickD t15 (.bool true) t22 fun t23 =>
 R t23 w
theorem F140_wp (h : F140_den t0 t1 w R) : callD prog 140 #[t0, t1] w R :=
  den_wp mixed F140_ann func140 (by kernel_rfl) (by kernel_rfl) h
def F141_ann : Ann := (q (.seq (q (.cond (q .leaf) .leaf)) (q .leaf)))
def F141_den (t0 t1 : Value) (w : World) (R : Value → World → Prop) : Prop :=
 V prog (do eqGuard .eql 3 (.tmp 5) (.const (i64 2)) t0 (i64 2); binOp .eql 3 t0 (i64 2)) w fun t6 w =>
 gd t6 false (fun K => K t1 w) w fun t8 w =>
 gd t6 false (fun K => V prog (do eqGuard .eql 3 (.tmp 8) (.const (i64 2)) t8 (i64 2); binOp .eql 3 t8 (i64 2)) w K) w fun t9 w =>
 pickD t6 (.bool true) t9 fun t10 =>
 ifD t10 (
 R (i64 2) w) (
 R (i64 1) w)
theorem F141_wp (h : F141_den t0 t1 w R) : callD prog 141 #[t0, t1] w R :=
  den_wp mixed F141_ann func141 (by kernel_rfl) (by kernel_rfl) h
def F142_ann : Ann := (q (.seq (q (.block (q (.cond (q .leaf) (q (.cond (q .leaf) .leaf)))))) (q .leaf)))
def F142_den (t0 : Value) (w : World) (R : Value → World → Prop) : Prop :=
 V prog (do eqGuard .eql 3 (.tmp 3) (.const (i64 3)) t0 (i64 3); binOp .eql 3 t0 (i64 3)) w fun t5 w =>
 ifD t5 (
 R (i64 1) w) (
 V prog (do eqGuard .eql 3 (.tmp 3) (.const (i64 4)) t0 (i64 4); binOp .eql 3 t0 (i64 4)) w fun t7 w =>
 ifD t7 (
 R (i64 2) w) (
 R (i64 0) w))
theorem F142_wp (h : F142_den t0 w R) : callD prog 142 #[t0] w R :=
  den_wp mixed F142_ann func142 (by kernel_rfl) (by kernel_rfl) h
end Go.Proofs.YthblbcjgdbaonaaGreatDoor
