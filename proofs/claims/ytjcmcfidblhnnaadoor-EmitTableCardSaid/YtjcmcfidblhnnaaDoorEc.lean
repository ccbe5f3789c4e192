/- Each function's body, opened into a plain condition by program (vcgen. -/
import Derived.Test.YtjcmcfidblhnnaaDoorEb
import Derived.Test.YtjcmcfidblhnnaaDoorProg
import Derived.KernelRfl
namespace Go.Proofs.YtjcmcfidblhnnaaDoor
open Tryd Instr
def q : Go.Vc.Ann → Go.Vc.Ann := .seq .leaf
def tk (l : List Nat) (c : Go.Vc.Cert) : Go.Vc.Cert := l.foldr .take c
def rg (a b : Nat) : List Nat := List.range' a (b + 1 - a)
variable {t0 t1 t2 t3 t4 t5 t6 t7 t8 t9 : Value} {w : World} {R : Value → World → Prop}
open Go.Vc
theorem mixed : prog.follows .mixedOrders = true := by kernel_rfl
def F3_ann : Ann := (q (q (q (q (.seq (q (.cond (q .leaf) .leaf)) (q (.seq (q (.block (.loop ([6, 11, 12, 13] ++ rg 38 71) [11, 12] (.seq (q (.cond .leaf .leaf)) (.seq (.block (q (.seq (q (.cond .leaf .leaf)) (.seq (.seq (.draw [0, 0, 2, 4, 9, 16, 32, 96, 32, 416, 544, 1056, 32, 6176, 8224, 16416] [0, 0, 2, 4, 9, 16, 32, 96, 32, 416, 544, 1056, 32, 6176, 8224, 16416] 0 16 65535 (tk (rg 0 10 ++ [12]) (.only 11 (.only 13 (.take 14 (.take 15 .done)))))) (.cond (q .leaf) .leaf)) .leaf)))) .leaf))))) (q .leaf))))))))
def F3_den (t0 t1 t2 : Value) (w : World) (R : Value → World → Prop) : Prop :=
 callD prog 4 #[t0, t1, t2] w fun t17 w =>
 V prog (alloc 25 true (.tuple #[])) w fun t7 w =>
 U prog (storeAt 25 t7 t17) w fun _ w =>
 V prog (loadAt 25 t7) w fun t18 w =>
 callD prog 5 #[t18] w fun t19 w =>
 V prog (alloc 29 true (.tuple #[])) w fun t8 w =>
 U prog (storeAt 29 t8 t19) w fun _ w =>
 V prog (loadAt 25 t7) w fun t21 w =>
 V prog (loadAt 29 t8) w fun t22 w =>
 callD prog 6 #[t21, t22, (i64 1)] w fun t23 w =>
 V prog (extract t23 0) w fun t24 w =>
 V prog (extract t23 1) w fun t25 w =>
 V prog (alloc 33 true (.tuple #[])) w fun t9 w =>
 U prog (storeAt 33 t9 t24) w fun _ w =>
 callD prog 7 #[] w fun t26 w =>
 V prog (Op.unary UnOp.not t26) w fun t27 w =>
 gd t27 false (fun K => K t25 w) w fun t29 w =>
 gd t27 false (fun K => V prog (do eqGuard .neq 34 (.tmp 29) (.const (i64 0)) t29 (i64 0); binOp .neq 34 t29 (i64 0)) w K) w fun t30 w =>
 pickD t27 (.bool true) t30 fun t31 =>
 gd t31 false (fun K => V prog (fieldAt 33 t9 0) w K) w fun t33 w =>
 gd t31 false (fun K => V prog (loadAt 31 t33) w K) w fun t34 w =>
 gd t31 false (fun K => callD prog 8 #[t34] w K) w fun t35 w =>
 gd t31 false (fun K => V prog (Op.unary UnOp.not t35) w K) w fun t36 w =>
 pickD t31 (.bool true) t36 fun t37 =>
 ifD t37 (
 R (.bool false) w) (
 ∃ (I1 : NP 2) (μ1 : NF 2), I1 (i64 0) (i64 0) w ∧
 ∀ (t11 : Value) (t12 : Value), ∀ w25 : World, I1 t11 t12 w25 → ∀ _f : Env,
 V prog (fieldAt 25 t7 2) w25 fun t39 w =>
 V prog (loadAt 23 t39) w fun t40 w =>
 V prog (Builtin.len_ #[23] 3 #[t40]) w fun t41 w =>
 V prog (binOp .lss 3 t12 t41) w fun t42 w29 =>
 ifD t42 (
 V prog (fieldAt 25 t7 2) w29 fun t45 w =>
 V prog (loadAt 23 t45) w fun t46 w =>
 V prog (indexAt 23 t46 t12) w fun t48 w =>
 V prog (loadAt 43 t48) w fun t49 w =>
 callD prog 9 #[t49] w fun t50 w =>
 V prog (alloc 40 true (.tuple #[])) w fun t13 w =>
 U prog (storeAt 40 t13 t50) w fun _ w =>
 V prog (fieldAt 40 t13 0) w fun t51 w =>
 V prog (loadAt 3 t51) w fun t52 w =>
 V prog (binOp .lss 3 t52 (i64 11)) w fun t53 w39 =>
 ifD t53 (
 V prog (binOp .add 3 t12 (i64 1)) w39 fun t44 w =>
 I1 t11 t44 w ∧ μ1 t11 t44 w < μ1 t11 t12 w25) (
 drawD w39 fun S12 w =>
 yieldS prog S12 (fieldAt 33 t9 1) fun t55 =>
 yieldS prog S12 (loadAt 23 t55) fun t56 =>
 yieldS prog S12 (Builtin.len_ #[23] 3 #[t56]) fun t57 =>
 yieldS prog S12 (binOp .geq 3 t11 t57) fun t58 =>
 gdY t58 false (fun K => yieldS prog S12 (fieldAt 33 t9 1) K) fun t60 =>
 gdY t58 false (fun K => yieldS prog S12 (loadAt 23 t60) K) fun t61 =>
 gdY t58 false (fun K => K t11) fun t62 =>
 gdY t58 false (fun K => yieldS prog S12 (indexAt 23 t61 t62) K) fun t63 =>
 gdY t58 false (fun K => yieldS prog S12 (loadAt 43 t63) K) fun t64 =>
 gdY t58 false (fun K => yieldS prog S12 (loadAt 40 t13) K) fun t66 =>
 gd t58 false (fun K => callD prog 9 #[t64] w K) w fun t65 w =>
 S12 w ∧
 gd t58 false (fun K => callD prog 10 #[t65, t66] w K) w fun t67 w =>
 S12 w ∧
 gdY t58 false (fun K => yieldS prog S12 (Op.unary UnOp.not t67) K) fun t68 =>
 pickD t58 (.bool true) t68 fun t69 =>
 ifD t69 (
 R (.bool false) w) (
 V prog (binOp .add 3 t11 (i64 1)) w fun t71 w =>
 V prog (binOp .add 3 t12 (i64 1)) w fun t44_1 w =>
 I1 t71 t44_1 w ∧ μ1 t71 t44_1 w < μ1 t11 t12 w25))) (
 V prog (fieldAt 33 t9 1) w29 fun t73 w =>
 V prog (loadAt 23 t73) w fun t74 w =>
 V prog (Builtin.len_ #[23] 3 #[t74]) w fun t75 w =>
 V prog (do eqGuard .eql 3 (.tmp 72) (.tmp 75) t11 t75; binOp .eql 3 t11 t75) w fun t76 w =>
 R t76 w))
theorem F3_wp (h : F3_den t0 t1 t2 w R) : callD prog 3 #[t0, t1, t2] w R :=
  den_wp mixed F3_ann func3 (by kernel_rfl) (by kernel_rfl) h
def F4_ann : Ann := (q (q (.seq (q (.block (.loop ([8, 9, 10] ++ rg 15 75) [8] (.seq (q (.cond .leaf .leaf)) (.seq (.block (.join ([9] ++ rg 22 28) [9] (.draw [0, 1, 0, 4, 8, 16, 34, 0, 255] [0, 1, 0, 4, 8, 16, 34, 0, 192] 0 8 255 (tk (rg 0 4) (.two 5 7 (.take 6 (.only 7 (.last 8))) (.only 5 (.take 6 (.last 8)))))) (.seq (q (.block (.loop ([10] ++ rg 29 41) [10] (.seq (q (.cond .leaf .leaf)) (.seq (.block .leaf) .leaf))))) (.seq (.draw [0, 1, 0, 0, 8, 0, 48, 64, 255, 511] [0, 1, 0, 0, 8, 0, 48, 64, 6, 384] 0 9 511 (tk (rg 0 8) (.last 9))) (q (.seq (q (.cond .leaf .leaf)) (q (.cond .leaf .leaf)))))))) .leaf))))) (q .leaf))))
def F4_den (t0 t1 t2 : Value) (w : World) (R : Value → World → Prop) : Prop :=
 V prog (alloc 25 true (.tuple #[])) w fun t6 w =>
 callD prog 11 #[t0, t1, t2] w fun t14 w =>
 V prog (alloc 25 true (.tuple #[])) w fun t7 w =>
 U prog (storeAt 25 t7 t14) w fun _ w =>
 ∃ (I1 : NP 1) (μ1 : NF 1), I1 (i64 0) w ∧
 ∀ (t8 : Value), ∀ w5 : World, I1 t8 w5 → ∀ _f : Env,
 V prog (fieldAt 25 t7 2) w5 fun t16 w =>
 V prog (loadAt 23 t16) w fun t17 w =>
 V prog (Builtin.len_ #[23] 3 #[t17]) w fun t18 w =>
 V prog (binOp .lss 3 t8 t18) w fun t19 w9 =>
 ifD t19 (
 ∃ J2 : NP 1,
 (drawD w9 fun S5 w10 =>
 yieldS prog S5 (fieldAt 25 t7 1) fun t22 =>
 yieldS prog S5 (loadAt 3 t22) fun t23 =>
 yieldS prog S5 (fieldAt 25 t7 2) fun t24 =>
 yieldS prog S5 (loadAt 23 t24) fun t25 =>
 yieldS prog S5 (Builtin.len_ #[23] 3 #[t25]) fun t26 =>
 (V prog (makeSlice 23 t26 t26) w10 fun t27 w =>
 S5 w ∧
 yieldS prog S5 (build 25 #[(1, t23), (2, t27)]) fun t28 =>
 V prog (alloc 25 true (.tuple #[])) w fun t9 w =>
 S5 w ∧
 U prog (storeAt 25 t9 t28) w fun _ w =>
 J2 t9 w) ∧
 (V prog (alloc 25 true (.tuple #[])) w10 fun t9_1 w =>
 S5 w ∧
 V prog (makeSlice 23 t26 t26) w fun t27_1 w =>
 S5 w ∧
 yieldS prog S5 (build 25 #[(1, t23), (2, t27_1)]) fun t28_1 =>
 U prog (storeAt 25 t9_1 t28_1) w fun _ w =>
 J2 t9_1 w)) ∧
 ∀ (t9_2 : Value), ∀ w : World, J2 t9_2 w → ∀ _f : Env,
 ∃ (I3 : NP 1) (μ3 : NF 1), I3 (i64 0) w ∧
 ∀ (t10 : Value), ∀ w18 : World, I3 t10 w18 → ∀ _f : Env,
 V prog (fieldAt 25 t9_2 2) w18 fun t30 w =>
 V prog (loadAt 23 t30) w fun t31 w =>
 V prog (Builtin.len_ #[23] 3 #[t31]) w fun t32 w =>
 V prog (binOp .lss 3 t10 t32) w fun t33 w22 =>
 ifD t33 (
 V prog (fieldAt 25 t9_2 2) w22 fun t36 w =>
 V prog (loadAt 23 t36) w fun t37 w =>
 V prog (build 47 #[]) w fun t39 w =>
 V prog (makeInterface 47 t39) w fun t40 w =>
 V prog (indexAt 23 t37 t10) w fun t41 w =>
 U prog (storeAt 43 t41 t40) w fun _ w =>
 V prog (binOp .add 3 t10 (i64 1)) w fun t35 w =>
 I3 t35 w ∧ μ3 t35 w < μ3 t10 w18) (
 drawD w22 fun S10 w =>
 yieldS prog S10 (fieldAt 25 t9_2 2) fun t42 =>
 yieldS prog S10 (loadAt 23 t42) fun t43 =>
 yieldS prog S10 (fieldAt 25 t7 2) fun t45 =>
 yieldS prog S10 (loadAt 23 t45) fun t46 =>
 yieldS prog S10 (indexAt 23 t46 t8) fun t48 =>
 yieldS prog S10 (loadAt 43 t48) fun t49 =>
 yieldS prog S10 (indexAt 23 t43 t8) fun t50 =>
 U prog (storeAt 43 t50 t49) w fun _ w =>
 V prog (fieldAt 25 t9_2 2) w fun t51 w =>
 V prog (loadAt 23 t51) w fun t52 w =>
 V prog (fieldAt 25 t9_2 2) w fun t53 w =>
 V prog (loadAt 23 t53) w fun t54 w =>
 V prog (Builtin.len_ #[23] 3 #[t54]) w fun t55 w =>
 V prog (binOp .sub 3 t55 (i64 1)) w fun t56 w =>
 V prog (build 49 #[(0, (i64 (-1)))]) w fun t57 w =>
 V prog (makeInterface 49 t57) w fun t58 w =>
 V prog (indexAt 23 t52 t56) w fun t59 w =>
 U prog (storeAt 43 t59 t58) w fun _ w =>
 V prog (fieldAt 25 t7 2) w fun t61 w =>
 V prog (loadAt 23 t61) w fun t62 w =>
 V prog (Builtin.len_ #[23] 3 #[t62]) w fun t63 w =>
 V prog (binOp .sub 3 t63 (i64 1)) w fun t64 w =>
 V prog (do eqGuard .eql 3 (.tmp 60) (.tmp 64) t8 t64; binOp .eql 3 t8 t64) w fun t65 w46 =>
 ifD t65 (
 V prog (loadAt 25 t7) w46 fun t76 w =>
 U prog (storeAt 25 t6 t76) w fun _ w =>
 ∃ r1, (loadVar 25 (match t6 with | .pointer (some p) => p | _ => ⟨0, 0, none⟩)).run prog w = .ok r1 w ∧ (∃ p, t6 = Value.pointer (some p)) ∧ R r1 w) (
 V prog (loadAt 25 t9_2) w46 fun t66 w =>
 callD prog 13 #[t66] w fun t67 w =>
 callD prog 12 #[t67] w fun t68 w =>
 V prog (Op.unary UnOp.not t68) w fun t69 w52 =>
 ifD t69 (
 V prog (fieldAt 25 t7 2) w52 fun t70 w =>
 V prog (loadAt 23 t70) w fun t71 w =>
 V prog (build 47 #[]) w fun t73 w =>
 V prog (makeInterface 47 t73) w fun t74 w =>
 V prog (indexAt 23 t71 t8) w fun t75 w =>
 U prog (storeAt 43 t75 t74) w fun _ w =>
 V prog (binOp .add 3 t8 (i64 1)) w fun t21 w =>
 I1 t21 w ∧ μ1 t21 w < μ1 t8 w5) (
 V prog (binOp .add 3 t8 (i64 1)) w52 fun t21_1 w =>
 I1 t21_1 w ∧ μ1 t21_1 w < μ1 t8 w5)))) (
 V prog (loadAt 25 t7) w9 fun t76_1 w =>
 U prog (storeAt 25 t6 t76_1) w fun _ w =>
 ∃ r1, (loadVar 25 (match t6 with | .pointer (some p) => p | _ => ⟨0, 0, none⟩)).run prog w = .ok r1 w ∧ (∃ p, t6 = Value.pointer (some p)) ∧ R r1 w)
theorem F4_wp (h : F4_den t0 t1 t2 w R) : callD prog 4 #[t0, t1, t2] w R :=
  den_wp mixed F4_ann func4 (by kernel_rfl) (by kernel_rfl) h
def F5_ann : Ann := (q (.seq (q (.cond (q .leaf) .leaf)) (q (q (.seq (q (.block (.loop ([6, 7] ++ rg 21 48) [21] (q (.seq (.cond .leaf .leaf) (.seq (.block (q (q (.seq (.block (.loop ([7] ++ rg 25 35) [7] (.seq (q (.cond .leaf .leaf)) (.block (q (q (.cond .leaf .leaf))))))) (q .leaf))))) .leaf)))))) (q .leaf))))))
def F5_den (t0 : Value) (w : World) (R : Value → World → Prop) : Prop :=
 V prog (box 25 t0) w fun t1 w =>
 V prog (alloc 29 true (.tuple #[])) w fun t2 w =>
 V prog (loadAt 25 t1) w fun t8 w =>
 callD prog 14 #[t8] w fun t9 w =>
 V prog (Op.unary UnOp.not t9) w fun t10 w5 =>
 ifD t10 (
 V prog (build 29 #[]) w5 fun t11 w =>
 U prog (storeAt 29 t2 t11) w fun _ w =>
 ∃ r1, (loadVar 29 (match t2 with | .pointer (some p) => p | _ => ⟨0, 0, none⟩)).run prog w = .ok r1 w ∧ (∃ p, t2 = Value.pointer (some p)) ∧ R r1 w) (
 V prog (loadAt 25 t1) w5 fun t12 w =>
 callD prog 15 #[t12] w fun t13 w =>
 V prog (alloc 59 true (.tuple #[])) w fun t3 w =>
 U prog (storeAt 59 t3 t13) w fun _ w =>
 V prog (fieldAt 25 t1 1) w fun t14 w =>
 V prog (loadAt 3 t14) w fun t15 w =>
 V prog (makeSlice 27 t15 t15) w fun t16 w =>
 V prog (build 29 #[(0, t16)]) w fun t17 w =>
 V prog (alloc 29 true (.tuple #[])) w fun t4 w =>
 U prog (storeAt 29 t4 t17) w fun _ w =>
 V prog (fieldAt 59 t3 2) w fun t18 w =>
 V prog (loadAt 27 t18) w fun t19 w =>
 V prog (Builtin.len_ #[27] 3 #[t19]) w fun t20 w =>
 ∃ (I1 : NP 1) (μ1 : NF 1), I1 (i64 0) w ∧
 ∀ (t21 : Value), ∀ w21 : World, I1 t21 w21 → ∀ _f : Env,
 V prog (binOp .lss 3 t21 t20) w21 fun t22 w22 =>
 ifD t22 (
 V prog (indexAt 27 t19 t21) w22 fun t23 w =>
 V prog (loadAt 3 t23) w fun t24 w =>
 ∃ (I2 : NP 1) (μ2 : NF 1), I2 (i64 5) w ∧
 ∀ (t7 : Value), ∀ w25 : World, I2 t7 w25 → ∀ _f : Env,
 V prog (loadAt 59 t3) w25 fun t25 w =>
 V prog (fieldAt 29 t4 0) w fun t28 w =>
 V prog (loadAt 27 t28) w fun t29 w =>
 callD prog 16 #[t25, t24, t7, t29] w fun t30 w =>
 V prog (Op.unary UnOp.not t30) w fun t31 w30 =>
 ifD t31 (
 V prog (binOp .add 3 t7 (i64 1)) w30 fun t33 w =>
 V prog (do eqGuard .eql 3 (.tmp 34) (.const (i64 7)) t33 (i64 7); binOp .eql 3 t33 (i64 7)) w fun t35 w =>
 ifD t35 (
 I2 (i64 16) w ∧ μ2 (i64 16) w < μ2 t7 w25) (
 I2 t33 w ∧ μ2 t33 w < μ2 t7 w25)) (
 V prog (fieldAt 29 t4 0) w30 fun t36 w =>
 V prog (loadAt 27 t36) w fun t37 w =>
 V prog (indexAt 27 t37 t24) w fun t40 w =>
 U prog (storeAt 3 t40 t7) w fun _ w =>
 V prog (fieldAt 29 t4 1) w fun t41 w =>
 V prog (loadAt 3 t41) w fun t42 w =>
 V prog (binOp .sub 3 t7 (i64 16)) w fun t44 w =>
 V prog (binOp .add 3 t44 (i64 1)) w fun t45 w =>
 V prog (Builtin.max_ #[3, 3] 3 #[t42, t45]) w fun t46 w =>
 V prog (fieldAt 29 t4 1) w fun t47 w =>
 U prog (storeAt 3 t47 t46) w fun _ w =>
 V prog (binOp .add 3 t21 (i64 1)) w fun t48 w =>
 I1 t48 w ∧ μ1 t48 w < μ1 t21 w21)) (
 V prog (loadAt 29 t4) w22 fun t49 w =>
 U prog (storeAt 29 t2 t49) w fun _ w =>
 ∃ r1, (loadVar 29 (match t2 with | .pointer (some p) => p | _ => ⟨0, 0, none⟩)).run prog w = .ok r1 w ∧ (∃ p, t2 = Value.pointer (some p)) ∧ R r1 w))
theorem F5_wp (h : F5_den t0 w R) : callD prog 5 #[t0] w R :=
  den_wp mixed F5_ann func5 (by kernel_rfl) (by kernel_rfl) h
def F6_ann : Ann := (q (.seq (q (.cond (q .leaf) .leaf)) (q (q (.seq (q (.block (.loop ([9] ++ rg 44 51) [44] (q (.seq (.cond .leaf .leaf) (.seq (.block (q .leaf)) .leaf)))))) (.seq (q (.block (.loop ([10, 11] ++ rg 55 67) [55] (q (.seq (.cond .leaf .leaf) (.seq (.block (q (q .leaf))) .leaf)))))) (q .leaf)))))))
def F6_den (t0 t1 t2 : Value) (w : World) (R : Value → World → Prop) : Prop :=
 V prog (box 25 t0) w fun t3 w =>
 V prog (box 29 t1) w fun t4 w =>
 V prog (alloc 33 true (.tuple #[])) w fun t6 w =>
 V prog (loadAt 25 t3) w fun t12 w =>
 callD prog 14 #[t12] w fun t13 w =>
 V prog (Op.unary UnOp.not t13) w fun t14 w =>
 gd t14 false (fun K => V prog (loadAt 25 t3) w K) w fun t16 w =>
 gd t14 false (fun K => V prog (loadAt 29 t4) w K) w fun t17 w =>
 gd t14 false (fun K => callD prog 17 #[t16, t17] w K) w fun t18 w =>
 gd t14 false (fun K => V prog (Op.unary UnOp.not t18) w K) w fun t19 w =>
 pickD t14 (.bool true) t19 fun t20 =>
 gd t20 false (fun K => K t2 w) w fun t22 w =>
 gd t20 false (fun K => V prog (binOp .lss 3 t22 (i64 0)) w K) w fun t23 w =>
 pickD t20 (.bool true) t23 fun t24 =>
 gd t24 false (fun K => K t2 w) w fun t26 w =>
 gd t24 false (fun K => V prog (binOp .geq 3 t26 (i64 4)) w K) w fun t27 w16 =>
 pickD t24 (.bool true) t27 fun t28 =>
 ifD t28 (
 V prog (build 33 #[]) w16 fun t29 w =>
 U prog (storeAt 33 t6 t29) w fun _ w =>
 ∃ r1, (loadVar 33 (match t6 with | .pointer (some p) => p | _ => ⟨0, 0, none⟩)).run prog w = .ok r1 w ∧ (∃ p, t6 = Value.pointer (some p)) ∧ R (.tuple #[r1, (i64 1)]) w) (
 V prog (loadAt 25 t3) w16 fun t30 w =>
 V prog (loadAt 29 t4) w fun t31 w =>
 V prog (build 65 #[(0, t30), (1, t31), (2, t2)]) w fun t33 w =>
 V prog (box 65 t33) w fun t34 w =>
 V prog (fieldAt 29 t4 1) w fun t36 w =>
 V prog (loadAt 3 t36) w fun t37 w =>
 V prog (binOp .mul 3 (i64 4) t37) w fun t38 w =>
 Go.Vc.Safe (t34) ∧
 V prog (fieldAt 65 t34 3) w fun t40 w =>
 V prog (fieldAt 33 t40 2) w fun t41 w =>
 U prog (storeAt 3 t41 t38) w fun _ w =>
 V prog (fieldAt 25 t3 0) w fun t42 w =>
 V prog (loadAt 3 t42) w fun t43 w =>
 ∃ (I1 : NP 1) (μ1 : NF 1), I1 (i64 0) w ∧
 ∀ (t44 : Value), ∀ w33 : World, I1 t44 w33 → ∀ _f : Env,
 V prog (binOp .lss 3 t44 t43) w33 fun t45 w34 =>
 ifD t45 (
 callD prog 18 #[t34, t44, t44] w34 fun _ w =>
 V prog (binOp .add 3 t44 (i64 1)) w fun t51 w =>
 I1 t51 w ∧ μ1 t51 w < μ1 t44 w33) (
 V prog (fieldAt 25 t3 2) w34 fun t52 w =>
 V prog (loadAt 23 t52) w fun t53 w =>
 V prog (Builtin.len_ #[23] 3 #[t53]) w fun t54 w =>
 ∃ (I2 : NP 1) (μ2 : NF 1), I2 (i64 0) w ∧
 ∀ (t55 : Value), ∀ w40 : World, I2 t55 w40 → ∀ _f : Env,
 V prog (binOp .lss 3 t55 t54) w40 fun t56 w41 =>
 ifD t56 (
 V prog (indexAt 23 t53 t55) w41 fun t58 w =>
 V prog (loadAt 43 t58) w fun t59 w =>
 callD prog 19 #[t34, t55] w fun _ w =>
 callD prog 20 #[t34, t59, t55] w fun _ w =>
 V prog (binOp .add 3 t55 (i64 1)) w fun t67 w =>
 I2 t67 w ∧ μ2 t67 w < μ2 t55 w40) (
 Go.Vc.Safe (t34) ∧
 V prog (fieldAt 65 t34 3) w41 fun t70 w =>
 V prog (loadAt 33 t70) w fun t71 w =>
 U prog (storeAt 33 t6 t71) w fun _ w =>
 ∃ r1, (loadVar 33 (match t6 with | .pointer (some p) => p | _ => ⟨0, 0, none⟩)).run prog w = .ok r1 w ∧ (∃ p, t6 = Value.pointer (some p)) ∧ R (.tuple #[r1, (i64 0)]) w)))
theorem F6_wp (h : F6_den t0 t1 t2 w R) : callD prog 6 #[t0, t1, t2] w R :=
  den_wp mixed F6_ann func6 (by kernel_rfl) (by kernel_rfl) h
def F7_ann : Ann := (q (q (.seq (q (.cond (q .leaf) .leaf)) (q (q .leaf)))))
def F7_den (w : World) (R : Value → World → Prop) : Prop :=
 V prog (build 47 #[]) w fun t6 w =>
 V prog (makeInterface 47 t6) w fun t7 w =>
 V prog (build 49 #[(0, (i64 (-1)))]) w fun t8 w =>
 V prog (makeInterface 49 t8) w fun t9 w =>
 V prog (buildSlice 23 2 #[(0, t7), (1, t9)]) w fun t10 w =>
 V prog (build 25 #[(2, t10)]) w fun t11 w =>
 V prog (build 29 #[]) w fun t12 w =>
 callD prog 6 #[t11, t12, (i64 0)] w fun t13 w =>
 V prog (extract t13 0) w fun t14 w =>
 V prog (extract t13 1) w fun t15 w =>
 V prog (alloc 33 true (.tuple #[])) w fun t1 w =>
 U prog (storeAt 33 t1 t14) w fun _ w =>
 V prog (do eqGuard .neq 34 (.tmp 16) (.const (i64 0)) t15 (i64 0); binOp .neq 34 t15 (i64 0)) w fun t17 w =>
 gd t17 false (fun K => V prog (fieldAt 33 t1 1) w K) w fun t19 w =>
 gd t17 false (fun K => V prog (loadAt 23 t19) w K) w fun t20 w =>
 gd t17 false (fun K => V prog (Builtin.len_ #[23] 3 #[t20]) w K) w fun t21 w =>
 gd t17 false (fun K => V prog (do eqGuard .neq 3 (.tmp 21) (.const (i64 1)) t21 (i64 1); binOp .neq 3 t21 (i64 1)) w K) w fun t22 w =>
 pickD t17 (.bool true) t22 fun t23 =>
 gd t23 false (fun K => V prog (fieldAt 33 t1 2) w K) w fun t25 w =>
 gd t23 false (fun K => V prog (loadAt 3 t25) w K) w fun t26 w =>
 gd t23 false (fun K => V prog (do eqGuard .neq 3 (.tmp 26) (.const (i64 0)) t26 (i64 0); binOp .neq 3 t26 (i64 0)) w K) w fun t27 w =>
 pickD t23 (.bool true) t27 fun t28 =>
 gd t28 false (fun K => V prog (fieldAt 33 t1 0) w K) w fun t30 w =>
 gd t28 false (fun K => V prog (loadAt 31 t30) w K) w fun t31 w =>
 gd t28 false (fun K => callD prog 8 #[t31] w K) w fun t32 w =>
 gd t28 false (fun K => V prog (Op.unary UnOp.not t32) w K) w fun t33 w =>
 pickD t28 (.bool true) t33 fun t34 =>
 ifD t34 (
 R (.bool false) w) (
 V prog (fieldAt 33 t1 1) w fun t36 w =>
 V prog (loadAt 23 t36) w fun t37 w =>
 V prog (indexAt 23 t37 (i64 0)) w fun t38 w =>
 V prog (loadAt 43 t38) w fun t39 w =>
 V prog (typeAssert t39 43 49 true) w fun t40 w =>
 V prog (extract t40 0) w fun t41 w =>
 V prog (extract t40 1) w fun t42 w =>
 V prog (alloc 49 true (.tuple #[])) w fun t3 w =>
 U prog (storeAt 49 t3 t41) w fun _ w =>
 R t42 w)
theorem F7_wp (h : F7_den w R) : callD prog 7 #[] w R :=
  den_wp mixed F7_ann func7 (by kernel_rfl) (by kernel_rfl) h
def F8_ann : Ann := (q (.seq (q (.cond (q .leaf) .leaf)) (q (.seq (q (.block (.loop ([5] ++ rg 17 30) [17] (q (.seq (.cond .leaf .leaf) (.seq (.block (q (q (.cond .leaf .leaf)))) .leaf)))))) (.seq (q (.block (.loop ([2, 7] ++ rg 33 52) [33] (q (.seq (.cond .leaf .leaf) (.seq (.block (q (q (.cond (q .leaf) .leaf)))) .leaf)))))) (q .leaf))))))
def F8_den (t0 : Value) (w : World) (R : Value → World → Prop) : Prop :=
 V prog (Builtin.len_ #[31] 3 #[t0]) w fun t9 w =>
 V prog (binOp .gtr 3 t9 (i64 6000)) w fun t10 w =>
 gd t10 false (fun K => K t0 w) w fun t12 w =>
 gd t10 false (fun K => callD prog 21 #[t12, (Value.func (.func 22) #[] #[])] w K) w fun t13 w =>
 pickD t10 (.bool true) t13 fun t14 =>
 ifD t14 (
 R (.bool false) w) (
 V prog (alloc 76 true (.tuple #[])) w fun t3 w =>
 V prog (Builtin.len_ #[31] 3 #[t0]) w fun t16 w =>
 ∃ (I1 : NP 1) (μ1 : NF 1), I1 (i64 0) w ∧
 ∀ (t17 : Value), ∀ w8 : World, I1 t17 w8 → ∀ _f : Env,
 V prog (binOp .lss 3 t17 t16) w8 fun t18 w9 =>
 ifD t18 (
 V prog (indexAt 31 t0 t17) w9 fun t19 w =>
 V prog (loadAt 74 t19) w fun t20 w =>
 V prog (alloc 74 true (.tuple #[])) w fun t5 w =>
 U prog (storeAt 74 t5 t20) w fun _ w =>
 V prog (fieldAt 74 t5 0) w fun t21 w =>
 V prog (loadAt 3 t21) w fun t22 w =>
 V prog (do eqGuard .eql 3 (.tmp 22) (.const (i64 2)) t22 (i64 2); binOp .eql 3 t22 (i64 2)) w fun t23 w16 =>
 ifD t23 (
 V prog (fieldAt 74 t5 2) w16 fun t24 w =>
 V prog (loadAt 3 t24) w fun t25 w =>
 V prog (indexAt 76 t3 t25) w fun t26 w =>
 V prog (loadAt 3 t26) w fun t27 w =>
 V prog (binOp .add 3 t27 (i64 1)) w fun t28 w =>
 V prog (indexAt 76 t3 t25) w fun t29 w =>
 U prog (storeAt 3 t29 t28) w fun _ w =>
 V prog (binOp .add 3 t17 (i64 1)) w fun t30 w =>
 I1 t30 w ∧ μ1 t30 w < μ1 t17 w8) (
 V prog (binOp .add 3 t17 (i64 1)) w16 fun t30_1 w =>
 I1 t30_1 w ∧ μ1 t30_1 w < μ1 t17 w8)) (
 V prog (Builtin.len_ #[31] 3 #[t0]) w9 fun t32 w =>
 ∃ (I2 : NP 1) (μ2 : NF 1), I2 (i64 0) w ∧
 ∀ (t33 : Value), ∀ w27 : World, I2 t33 w27 → ∀ _f : Env,
 V prog (binOp .lss 3 t33 t32) w27 fun t34 w28 =>
 ifD t34 (
 V prog (indexAt 31 t0 t33) w28 fun t35 w =>
 V prog (loadAt 74 t35) w fun t36 w =>
 V prog (alloc 74 true (.tuple #[])) w fun t7 w =>
 U prog (storeAt 74 t7 t36) w fun _ w =>
 V prog (fieldAt 74 t7 0) w fun t37 w =>
 V prog (loadAt 3 t37) w fun t38 w =>
 V prog (do eqGuard .eql 3 (.tmp 38) (.const (i64 2)) t38 (i64 2); binOp .eql 3 t38 (i64 2)) w fun t39 w =>
 gd t39 false (fun K => V prog (fieldAt 74 t7 0) w K) w fun t41 w =>
 gd t39 false (fun K => V prog (loadAt 3 t41) w K) w fun t42 w =>
 gd t39 false (fun K => V prog (do eqGuard .eql 3 (.tmp 42) (.const (i64 3)) t42 (i64 3); binOp .eql 3 t42 (i64 3)) w K) w fun t43 w =>
 pickD t39 (.bool true) t43 fun t44 =>
 gd t44 true (fun K => V prog (fieldAt 74 t7 2) w K) w fun t46 w =>
 gd t44 true (fun K => V prog (loadAt 3 t46) w K) w fun t47 w =>
 gd t44 true (fun K => V prog (indexAt 76 t3 t47) w K) w fun t48 w =>
 gd t44 true (fun K => V prog (loadAt 3 t48) w K) w fun t49 w =>
 gd t44 true (fun K => V prog (do eqGuard .neq 3 (.tmp 49) (.const (i64 1)) t49 (i64 1); binOp .neq 3 t49 (i64 1)) w K) w fun t50 w =>
 pickD t44 t50 (.bool false) fun t51 =>
 ifD t51 (
 R (.bool false) w) (
 V prog (binOp .add 3 t33 (i64 1)) w fun t52 w =>
 I2 t52 w ∧ μ2 t52 w < μ2 t33 w27)) (
 R (.bool true) w28)))
theorem F8_wp (h : F8_den t0 w R) : callD prog 8 #[t0] w R :=
  den_wp mixed F8_ann func8 (by kernel_rfl) (by kernel_rfl) h
def F9_ann : Ann := (q (.seq (q (.block (q (.cond (q (q .leaf)) (q (.cond (q (q .leaf)) (q (.cond (q (q .leaf)) (q (.cond (q (q .leaf)) (q (.cond (q (q .leaf)) (q (.cond (q (q .leaf)) (q (.cond (q (q .leaf)) (q (.cond (q (q .leaf)) (q (.cond (q (q .leaf)) (q (.cond (q (q .leaf)) (q (.cond (q (q .leaf)) (q (.cond (q (q .leaf)) (q (.cond (q (q .leaf)) (q (.cond (q (.seq (q (.cond (q .leaf) .leaf)) (q .leaf))) .leaf)))))))))))))))))))))))))))))) (q .leaf)))
def F9_den (t0 : Value) (w : World) (R : Value → World → Prop) : Prop :=
 V prog (alloc 40 true (.tuple #[])) w fun t2 w =>
 V prog (typeAssert t0 43 78 true) w fun t18 w =>
 V prog (extract t18 1) w fun t19 w =>
 V prog (extract t18 0) w fun t20 w4 =>
 ifD t19 (
 V prog (alloc 78 true (.tuple #[])) w4 fun t3 w =>
 U prog (storeAt 78 t3 t20) w fun _ w =>
 V prog (fieldAt 78 t3 0) w fun t21 w =>
 V prog (loadAt 3 t21) w fun t22 w =>
 V prog (fieldAt 78 t3 1) w fun t23 w =>
 V prog (loadAt 21 t23) w fun t24 w =>
 V prog (convert 21 3 t24) w fun t25 w =>
 V prog (build 40 #[(0, (i64 1)), (1, t22), (3, t25)]) w fun t26 w =>
 U prog (storeAt 40 t2 t26) w fun _ w =>
 ∃ r1, (loadVar 40 (match t2 with | .pointer (some p) => p | _ => ⟨0, 0, none⟩)).run prog w = .ok r1 w ∧ (∃ p, t2 = Value.pointer (some p)) ∧ R r1 w) (
 V prog (typeAssert t0 43 80 true) w4 fun t27 w =>
 V prog (extract t27 1) w fun t28 w =>
 V prog (extract t27 0) w fun t29 w16 =>
 ifD t28 (
 V prog (alloc 80 true (.tuple #[])) w16 fun t4 w =>
 U prog (storeAt 80 t4 t29) w fun _ w =>
 V prog (fieldAt 80 t4 0) w fun t30 w =>
 V prog (loadAt 3 t30) w fun t31 w =>
 V prog (fieldAt 80 t4 1) w fun t32 w =>
 V prog (loadAt 3 t32) w fun t33 w =>
 V prog (buildSlice 27 1 #[(0, t33)]) w fun t34 w =>
 V prog (build 40 #[(0, (i64 2)), (1, t31), (7, t34)]) w fun t35 w =>
 U prog (storeAt 40 t2 t35) w fun _ w =>
 ∃ r1, (loadVar 40 (match t2 with | .pointer (some p) => p | _ => ⟨0, 0, none⟩)).run prog w = .ok r1 w ∧ (∃ p, t2 = Value.pointer (some p)) ∧ R r1 w) (
 V prog (typeAssert t0 43 82 true) w16 fun t36 w =>
 V prog (extract t36 1) w fun t37 w =>
 V prog (extract t36 0) w fun t38 w28 =>
 ifD t37 (
 V prog (alloc 82 true (.tuple #[])) w28 fun t5 w =>
 U prog (storeAt 82 t5 t38) w fun _ w =>
 V prog (fieldAt 82 t5 0) w fun t39 w =>
 V prog (loadAt 3 t39) w fun t40 w =>
 V prog (fieldAt 82 t5 1) w fun t41 w =>
 V prog (loadAt 3 t41) w fun t42 w =>
 V prog (fieldAt 82 t5 2) w fun t43 w =>
 V prog (loadAt 3 t43) w fun t44 w =>
 V prog (fieldAt 82 t5 3) w fun t45 w =>
 V prog (loadAt 3 t45) w fun t46 w =>
 V prog (buildSlice 27 2 #[(0, t44), (1, t46)]) w fun t47 w =>
 V prog (build 40 #[(0, (i64 3)), (2, t40), (1, t42), (7, t47)]) w fun t48 w =>
 U prog (storeAt 40 t2 t48) w fun _ w =>
 ∃ r1, (loadVar 40 (match t2 with | .pointer (some p) => p | _ => ⟨0, 0, none⟩)).run prog w = .ok r1 w ∧ (∃ p, t2 = Value.pointer (some p)) ∧ R r1 w) (
 V prog (typeAssert t0 43 84 true) w28 fun t49 w =>
 V prog (extract t49 1) w fun t50 w =>
 V prog (extract t49 0) w fun t51 w44 =>
 ifD t50 (
 V prog (alloc 84 true (.tuple #[])) w44 fun t6 w =>
 U prog (storeAt 84 t6 t51) w fun _ w =>
 V prog (fieldAt 84 t6 0) w fun t52 w =>
 V prog (loadAt 3 t52) w fun t53 w =>
 V prog (fieldAt 84 t6 1) w fun t54 w =>
 V prog (loadAt 3 t54) w fun t55 w =>
 V prog (fieldAt 84 t6 2) w fun t56 w =>
 V prog (loadAt 3 t56) w fun t57 w =>
 V prog (buildSlice 27 1 #[(0, t57)]) w fun t58 w =>
 V prog (build 40 #[(0, (i64 4)), (2, t53), (1, t55), (7, t58)]) w fun t59 w =>
 U prog (storeAt 40 t2 t59) w fun _ w =>
 ∃ r1, (loadVar 40 (match t2 with | .pointer (some p) => p | _ => ⟨0, 0, none⟩)).run prog w = .ok r1 w ∧ (∃ p, t2 = Value.pointer (some p)) ∧ R r1 w) (
 V prog (typeAssert t0 43 86 true) w44 fun t60 w =>
 V prog (extract t60 1) w fun t61 w =>
 V prog (extract t60 0) w fun t62 w58 =>
 ifD t61 (
 V prog (alloc 86 true (.tuple #[])) w58 fun t7 w =>
 U prog (storeAt 86 t7 t62) w fun _ w =>
 V prog (fieldAt 86 t7 0) w fun t63 w =>
 V prog (loadAt 3 t63) w fun t64 w =>
 V prog (fieldAt 86 t7 1) w fun t65 w =>
 V prog (loadAt 3 t65) w fun t66 w =>
 V prog (fieldAt 86 t7 2) w fun t67 w =>
 V prog (loadAt 3 t67) w fun t68 w =>
 V prog (fieldAt 86 t7 3) w fun t69 w =>
 V prog (loadAt 3 t69) w fun t70 w =>
 V prog (buildSlice 27 3 #[(0, t66), (1, t68), (2, t70)]) w fun t71 w =>
 V prog (build 40 #[(0, (i64 5)), (1, t64), (7, t71)]) w fun t72 w =>
 U prog (storeAt 40 t2 t72) w fun _ w =>
 ∃ r1, (loadVar 40 (match t2 with | .pointer (some p) => p | _ => ⟨0, 0, none⟩)).run prog w = .ok r1 w ∧ (∃ p, t2 = Value.pointer (some p)) ∧ R r1 w) (
 V prog (typeAssert t0 43 47 true) w58 fun t73 w =>
 V prog (extract t73 1) w fun t74 w =>
 V prog (extract t73 0) w fun t75 w74 =>
 ifD t74 (
 V prog (alloc 47 true (.tuple #[])) w74 fun t8 w =>
 U prog (storeAt 47 t8 t75) w fun _ w =>
 V prog (build 40 #[(0, (i64 6)), (1, (i64 (-1)))]) w fun t76 w =>
 U prog (storeAt 40 t2 t76) w fun _ w =>
 ∃ r1, (loadVar 40 (match t2 with | .pointer (some p) => p | _ => ⟨0, 0, none⟩)).run prog w = .ok r1 w ∧ (∃ p, t2 = Value.pointer (some p)) ∧ R r1 w) (
 V prog (typeAssert t0 43 88 true) w74 fun t77 w =>
 V prog (extract t77 1) w fun t78 w =>
 V prog (extract t77 0) w fun t79 w81 =>
 ifD t78 (
 V prog (alloc 88 true (.tuple #[])) w81 fun t9 w =>
 U prog (storeAt 88 t9 t79) w fun _ w =>
 V prog (fieldAt 88 t9 0) w fun t80 w =>
 V prog (loadAt 3 t80) w fun t81 w =>
 V prog (build 40 #[(0, (i64 7)), (1, (i64 (-1))), (6, t81)]) w fun t82 w =>
 U prog (storeAt 40 t2 t82) w fun _ w =>
 ∃ r1, (loadVar 40 (match t2 with | .pointer (some p) => p | _ => ⟨0, 0, none⟩)).run prog w = .ok r1 w ∧ (∃ p, t2 = Value.pointer (some p)) ∧ R r1 w) (
 V prog (typeAssert t0 43 90 true) w81 fun t83 w =>
 V prog (extract t83 1) w fun t84 w =>
 V prog (extract t83 0) w fun t85 w90 =>
 ifD t84 (
 V prog (alloc 90 true (.tuple #[])) w90 fun t10 w =>
 U prog (storeAt 90 t10 t85) w fun _ w =>
 V prog (fieldAt 90 t10 1) w fun t86 w =>
 V prog (loadAt 3 t86) w fun t87 w =>
 V prog (fieldAt 90 t10 0) w fun t88 w =>
 V prog (loadAt 3 t88) w fun t89 w =>
 V prog (buildSlice 27 1 #[(0, t89)]) w fun t90 w =>
 V prog (build 40 #[(0, (i64 8)), (1, (i64 (-1))), (6, t87), (7, t90)]) w fun t91 w =>
 U prog (storeAt 40 t2 t91) w fun _ w =>
 ∃ r1, (loadVar 40 (match t2 with | .pointer (some p) => p | _ => ⟨0, 0, none⟩)).run prog w = .ok r1 w ∧ (∃ p, t2 = Value.pointer (some p)) ∧ R r1 w) (
 V prog (typeAssert t0 43 92 true) w90 fun t92 w =>
 V prog (extract t92 1) w fun t93 w =>
 V prog (extract t92 0) w fun t94 w102 =>
 ifD t93 (
 V prog (alloc 92 true (.tuple #[])) w102 fun t11 w =>
 U prog (storeAt 92 t11 t94) w fun _ w =>
 V prog (fieldAt 92 t11 0) w fun t95 w =>
 V prog (loadAt 3 t95) w fun t96 w =>
 V prog (fieldAt 92 t11 1) w fun t97 w =>
 V prog (loadAt 3 t97) w fun t98 w =>
 V prog (build 40 #[(0, (i64 9)), (1, t96), (3, t98)]) w fun t99 w =>
 U prog (storeAt 40 t2 t99) w fun _ w =>
 ∃ r1, (loadVar 40 (match t2 with | .pointer (some p) => p | _ => ⟨0, 0, none⟩)).run prog w = .ok r1 w ∧ (∃ p, t2 = Value.pointer (some p)) ∧ R r1 w) (
 V prog (typeAssert t0 43 94 true) w102 fun t100 w =>
 V prog (extract t100 1) w fun t101 w =>
 V prog (extract t100 0) w fun t102 w113 =>
 ifD t101 (
 V prog (alloc 94 true (.tuple #[])) w113 fun t12 w =>
 U prog (storeAt 94 t12 t102) w fun _ w =>
 V prog (fieldAt 94 t12 0) w fun t103 w =>
 V prog (loadAt 3 t103) w fun t104 w =>
 V prog (fieldAt 94 t12 1) w fun t105 w =>
 V prog (loadAt 3 t105) w fun t106 w =>
 V prog (buildSlice 27 1 #[(0, t106)]) w fun t107 w =>
 V prog (build 40 #[(0, (i64 10)), (1, (i64 (-1))), (3, t104), (7, t107)]) w fun t108 w =>
 U prog (storeAt 40 t2 t108) w fun _ w =>
 ∃ r1, (loadVar 40 (match t2 with | .pointer (some p) => p | _ => ⟨0, 0, none⟩)).run prog w = .ok r1 w ∧ (∃ p, t2 = Value.pointer (some p)) ∧ R r1 w) (
 V prog (typeAssert t0 43 96 true) w113 fun t109 w =>
 V prog (extract t109 1) w fun t110 w =>
 V prog (extract t109 0) w fun t111 w125 =>
 ifD t110 (
 V prog (alloc 96 true (.tuple #[])) w125 fun t13 w =>
 U prog (storeAt 96 t13 t111) w fun _ w =>
 V prog (fieldAt 96 t13 0) w fun t112 w =>
 V prog (loadAt 3 t112) w fun t113 w =>
 V prog (fieldAt 96 t13 1) w fun t114 w =>
 V prog (loadAt 3 t114) w fun t115 w =>
 V prog (fieldAt 96 t13 2) w fun t116 w =>
 V prog (loadAt 3 t116) w fun t117 w =>
 V prog (fieldAt 96 t13 3) w fun t118 w =>
 V prog (loadAt 3 t118) w fun t119 w =>
 V prog (fieldAt 96 t13 4) w fun t120 w =>
 V prog (loadAt 27 t120) w fun t121 w =>
 V prog (build 40 #[(0, (i64 11)), (2, t113), (4, t115), (5, t117), (1, t119), (7, t121)]) w fun t122 w =>
 U prog (storeAt 40 t2 t122) w fun _ w =>
 ∃ r1, (loadVar 40 (match t2 with | .pointer (some p) => p | _ => ⟨0, 0, none⟩)).run prog w = .ok r1 w ∧ (∃ p, t2 = Value.pointer (some p)) ∧ R r1 w) (
 V prog (typeAssert t0 43 98 true) w125 fun t123 w =>
 V prog (extract t123 1) w fun t124 w =>
 V prog (extract t123 0) w fun t125 w142 =>
 ifD t124 (
 V prog (alloc 98 true (.tuple #[])) w142 fun t14 w =>
 U prog (storeAt 98 t14 t125) w fun _ w =>
 V prog (fieldAt 98 t14 0) w fun t126 w =>
 V prog (loadAt 3 t126) w fun t127 w =>
 V prog (fieldAt 98 t14 1) w fun t128 w =>
 V prog (loadAt 3 t128) w fun t129 w =>
 V prog (fieldAt 98 t14 2) w fun t130 w =>
 V prog (loadAt 27 t130) w fun t131 w =>
 V prog (build 40 #[(0, (i64 12)), (3, t127), (1, t129), (7, t131)]) w fun t132 w =>
 U prog (storeAt 40 t2 t132) w fun _ w =>
 ∃ r1, (loadVar 40 (match t2 with | .pointer (some p) => p | _ => ⟨0, 0, none⟩)).run prog w = .ok r1 w ∧ (∃ p, t2 = Value.pointer (some p)) ∧ R r1 w) (
 V prog (typeAssert t0 43 100 true) w142 fun t133 w =>
 V prog (extract t133 1) w fun t134 w =>
 V prog (extract t133 0) w fun t135 w155 =>
 ifD t134 (
 V prog (alloc 100 true (.tuple #[])) w155 fun t15 w =>
 U prog (storeAt 100 t15 t135) w fun _ w =>
 V prog (fieldAt 100 t15 0) w fun t136 w =>
 V prog (loadAt 3 t136) w fun t137 w =>
 V prog (fieldAt 100 t15 1) w fun t138 w =>
 V prog (loadAt 3 t138) w fun t139 w =>
 V prog (fieldAt 100 t15 2) w fun t140 w =>
 V prog (loadAt 27 t140) w fun t141 w =>
 V prog (build 40 #[(0, (i64 13)), (3, t137), (1, t139), (7, t141)]) w fun t142 w =>
 U prog (storeAt 40 t2 t142) w fun _ w =>
 ∃ r1, (loadVar 40 (match t2 with | .pointer (some p) => p | _ => ⟨0, 0, none⟩)).run prog w = .ok r1 w ∧ (∃ p, t2 = Value.pointer (some p)) ∧ R r1 w) (
 V prog (typeAssert t0 43 49 true) w155 fun t143 w =>
 V prog (extract t143 1) w fun t144 w =>
 V prog (extract t143 0) w fun t145 w168 =>
 ifD t144 (
 V prog (alloc 49 true (.tuple #[])) w168 fun t16 w =>
 U prog (storeAt 49 t16 t145) w fun _ w =>
 V prog (fieldAt 49 t16 0) w fun t146 w =>
 V prog (loadAt 3 t146) w fun t147 w =>
 V prog (do eqGuard .eql 3 (.tmp 147) (.const (i64 (-1))) t147 (i64 (-1)); binOp .eql 3 t147 (i64 (-1))) w fun t148 w173 =>
 ifD t148 (
 V prog (build 40 #[(0, (i64 14)), (1, (i64 (-1)))]) w173 fun t149 w =>
 U prog (storeAt 40 t2 t149) w fun _ w =>
 ∃ r1, (loadVar 40 (match t2 with | .pointer (some p) => p | _ => ⟨0, 0, none⟩)).run prog w = .ok r1 w ∧ (∃ p, t2 = Value.pointer (some p)) ∧ R r1 w) (
 V prog (fieldAt 49 t16 0) w173 fun t150 w =>
 V prog (loadAt 3 t150) w fun t151 w =>
 V prog (buildSlice 27 1 #[(0, t151)]) w fun t152 w =>
 V prog (build 40 #[(0, (i64 14)), (1, (i64 (-1))), (7, t152)]) w fun t153 w =>
 U prog (storeAt 40 t2 t153) w fun _ w =>
 ∃ r1, (loadVar 40 (match t2 with | .pointer (some p) => p | _ => ⟨0, 0, none⟩)).run prog w = .ok r1 w ∧ (∃ p, t2 = Value.pointer (some p)) ∧ R r1 w)) (
 V prog (build 40 #[]) w168 fun t154 w =>
 U prog (storeAt 40 t2 t154) w fun _ w =>
 ∃ r1, (loadVar 40 (match t2 with | .pointer (some p) => p | _ => ⟨0, 0, none⟩)).run prog w = .ok r1 w ∧ (∃ p, t2 = Value.pointer (some p)) ∧ R r1 w))))))))))))))
theorem F9_wp (h : F9_den t0 w R) : callD prog 9 #[t0] w R :=
  den_wp mixed F9_ann func9 (by kernel_rfl) (by kernel_rfl) h
def F10_ann : Ann := (q (.seq (.draw [0, 1, 0, 4, 10, 16, 32, 96, 32, 416, 672, 1056, 2560, 4096, 12288, 4096, 36864, 86016, 135168, 266240, 524288, 1572864, 524288, 4718592, 11010048, 17301504, 34078720, 67108864, 201326592, 67108864, 603979776, 1409286144, 2214592512, 4362076160, 8589934592, 25769803776, 8589934592, 77309411328, 180388626432, 283467841536, 558345748480, 1099511627776, 3298534883328, 1099511627776, 9895604649984, 23089744183296, 36283883716608, 71468255805440, 140737488355328, 422212465065984, 140737488355328, 1266637395197952, 2955487255461888, 4644337115725824, 18014398509481983] [0, 1, 0, 4, 10, 16, 32, 96, 32, 288, 672, 1056, 2048, 4096, 12288, 4096, 36864, 86016, 135168, 262144, 524288, 1572864, 524288, 4718592, 11010048, 17301504, 33554432, 67108864, 201326592, 67108864, 603979776, 1409286144, 2214592512, 4294967296, 8589934592, 25769803776, 8589934592, 77309411328, 180388626432, 283467841536, 549755813888, 1099511627776, 3298534883328, 1099511627776, 9895604649984, 23089744183296, 36283883716608, 70368744177664, 140737488355328, 422212465065984, 140737488355328, 1266637395197952, 2955487255461888, 4644337115725824, 9007199254740992] 0 55 36028797018963967 (tk (rg 0 6 ++ [8]) (.only 7 (.only 9 (tk (rg 10 51) (.only 52 (.take 53 (.take 54 .done)))))))) .leaf))
def F10_den (t0 t1 : Value) (w : World) (R : Value → World → Prop) : Prop :=
 V prog (box 40 t0) w fun t2 w =>
 V prog (box 40 t1) w fun t3 w =>
 drawD w fun S1 w =>
 yieldS prog S1 (fieldAt 40 t2 0) fun t5 =>
 yieldS prog S1 (loadAt 3 t5) fun t6 =>
 yieldS prog S1 (fieldAt 40 t3 0) fun t7 =>
 yieldS prog S1 (loadAt 3 t7) fun t8 =>
 yieldS prog S1 (do eqGuard .eql 3 (.tmp 6) (.tmp 8) t6 t8; binOp .eql 3 t6 t8) fun t9 =>
 gdY t9 true (fun K => yieldS prog S1 (loadAt 40 t2) K) fun t11 =>
 gdY t9 true (fun K => yieldS prog S1 (loadAt 40 t3) K) fun t13 =>
 gd t9 true (fun K => callD prog 24 #[t11] w K) w fun t12 w =>
 S1 w ∧
 gd t9 true (fun K => callD prog 24 #[t13] w K) w fun t14 w =>
 S1 w ∧
 gdY t9 true (fun K => yieldS prog S1 (do eqGuard .eql 3 (.tmp 12) (.tmp 14) t12 t14; binOp .eql 3 t12 t14) K) fun t15 =>
 pickD t9 t15 (.bool false) fun t16 =>
 gdY t16 true (fun K => yieldS prog S1 (fieldAt 40 t2 2) K) fun t18 =>
 gdY t16 true (fun K => yieldS prog S1 (loadAt 3 t18) K) fun t19 =>
 gdY t16 true (fun K => yieldS prog S1 (fieldAt 40 t3 2) K) fun t20 =>
 gdY t16 true (fun K => yieldS prog S1 (loadAt 3 t20) K) fun t21 =>
 gdY t16 true (fun K => yieldS prog S1 (do eqGuard .eql 3 (.tmp 19) (.tmp 21) t19 t21; binOp .eql 3 t19 t21) K) fun t22 =>
 pickD t16 t22 (.bool false) fun t23 =>
 gdY t23 true (fun K => yieldS prog S1 (fieldAt 40 t2 3) K) fun t25 =>
 gdY t23 true (fun K => yieldS prog S1 (loadAt 3 t25) K) fun t26 =>
 gdY t23 true (fun K => yieldS prog S1 (fieldAt 40 t3 3) K) fun t27 =>
 gdY t23 true (fun K => yieldS prog S1 (loadAt 3 t27) K) fun t28 =>
 gdY t23 true (fun K => yieldS prog S1 (do eqGuard .eql 3 (.tmp 26) (.tmp 28) t26 t28; binOp .eql 3 t26 t28) K) fun t29 =>
 pickD t23 t29 (.bool false) fun t30 =>
 gdY t30 true (fun K => yieldS prog S1 (fieldAt 40 t2 4) K) fun t32 =>
 gdY t30 true (fun K => yieldS prog S1 (loadAt 3 t32) K) fun t33 =>
 gdY t30 true (fun K => yieldS prog S1 (fieldAt 40 t3 4) K) fun t34 =>
 gdY t30 true (fun K => yieldS prog S1 (loadAt 3 t34) K) fun t35 =>
 gdY t30 true (fun K => yieldS prog S1 (do eqGuard .eql 3 (.tmp 33) (.tmp 35) t33 t35; binOp .eql 3 t33 t35) K) fun t36 =>
 pickD t30 t36 (.bool false) fun t37 =>
 gdY t37 true (fun K => yieldS prog S1 (fieldAt 40 t2 5) K) fun t39 =>
 gdY t37 true (fun K => yieldS prog S1 (loadAt 3 t39) K) fun t40 =>
 gdY t37 true (fun K => yieldS prog S1 (fieldAt 40 t3 5) K) fun t41 =>
 gdY t37 true (fun K => yieldS prog S1 (loadAt 3 t41) K) fun t42 =>
 gdY t37 true (fun K => yieldS prog S1 (do eqGuard .eql 3 (.tmp 40) (.tmp 42) t40 t42; binOp .eql 3 t40 t42) K) fun t43 =>
 pickD t37 t43 (.bool false) fun t44 =>
 gdY t44 true (fun K => yieldS prog S1 (fieldAt 40 t2 6) K) fun t46 =>
 gdY t44 true (fun K => yieldS prog S1 (loadAt 3 t46) K) fun t47 =>
 gdY t44 true (fun K => yieldS prog S1 (fieldAt 40 t3 6) K) fun t48 =>
 gdY t44 true (fun K => yieldS prog S1 (loadAt 3 t48) K) fun t49 =>
 gdY t44 true (fun K => yieldS prog S1 (do eqGuard .eql 3 (.tmp 47) (.tmp 49) t47 t49; binOp .eql 3 t47 t49) K) fun t50 =>
 pickD t44 t50 (.bool false) fun t51 =>
 gdY t51 true (fun K => yieldS prog S1 (fieldAt 40 t2 7) K) fun t53 =>
 gdY t51 true (fun K => yieldS prog S1 (loadAt 27 t53) K) fun t54 =>
 gdY t51 true (fun K => yieldS prog S1 (fieldAt 40 t3 7) K) fun t55 =>
 gdY t51 true (fun K => yieldS prog S1 (loadAt 27 t55) K) fun t56 =>
 gd t51 true (fun K => callD prog 25 #[t54, t56] w K) w fun t57 w =>
 S1 w ∧
 pickD t51 t57 (.bool false) fun t58 =>
 R t58 w
theorem F10_wp (h : F10_den t0 t1 w R) : callD prog 10 #[t0, t1] w R :=
  den_wp mixed F10_ann func10 (by kernel_rfl) (by kernel_rfl) h
def F11_ann : Ann := (q (q (q (q (.seq (q (.block (.loop ([9] ++ rg 25 43) [9] (.seq (q (.cond .leaf .leaf)) (.seq (.block (.draw [0, 1, 0, 0, 12, 16, 0, 64, 0, 416, 512, 1538, 4095, 8191] [0, 1, 0, 0, 12, 16, 0, 64, 0, 416, 512, 1026, 0, 6144] 0 13 8191 (tk (rg 0 8) (.only 9 (.only 10 (.only 11 (.take 12 (.last 13)))))))) .leaf))))) (q (q .leaf)))))))
def F11_den (t0 t1 t2 : Value) (w : World) (R : Value → World → Prop) : Prop :=
 V prog (alloc 25 true (.tuple #[])) w fun t6 w =>
 callD prog 26 #[t1, (i64 14)] w fun t11 w =>
 V prog (binOp .add 3 (i64 1) t11) w fun t12 w =>
 V prog (build 25 #[(1, t12)]) w fun t13 w =>
 V prog (alloc 25 true (.tuple #[])) w fun t7 w =>
 U prog (storeAt 25 t7 t13) w fun _ w =>
 V prog (fieldAt 25 t7 1) w fun t15 w =>
 V prog (loadAt 3 t15) w fun t16 w =>
 V prog (binOp .add 3 t16 (i64 1)) w fun t17 w =>
 V prog (Builtin.min_ #[3, 3] 3 #[(i64 5), t17]) w fun t18 w =>
 callD prog 26 #[t2, t18] w fun t19 w =>
 V prog (fieldAt 25 t7 0) w fun t20 w =>
 U prog (storeAt 3 t20 t19) w fun _ w =>
 V prog (Builtin.len_ #[22] 3 #[t0]) w fun t22 w =>
 V prog (Builtin.min_ #[3, 3] 3 #[t22, (i64 40)]) w fun t23 w =>
 V prog (binOp .add 3 t23 (i64 1)) w fun t24 w =>
 ∃ (I1 : NP 1) (μ1 : NF 1), I1 (i64 0) w ∧
 ∀ (t9 : Value), ∀ w17 : World, I1 t9 w17 → ∀ _f : Env,
 V prog (binOp .sub 3 t24 (i64 1)) w17 fun t27 w =>
 V prog (binOp .lss 3 t9 t27) w fun t28 w19 =>
 ifD t28 (
 drawD w19 fun S7 w =>
 yieldS prog S7 (fieldAt 25 t7 2) fun t31 =>
 yieldS prog S7 (loadAt 23 t31) fun t32 =>
 yieldS prog S7 (indexAt 22 t0 t9) fun t35 =>
 yieldS prog S7 (loadAt 106 t35) fun t36 =>
 yieldS prog S7 (fieldAt 25 t7 1) fun t37 =>
 yieldS prog S7 (loadAt 3 t37) fun t38 =>
 callD prog 27 #[t36, t38, t24] w fun t40 w =>
 S7 w ∧
 V prog (buildSlice 23 1 #[(0, t40)]) w fun t41 w =>
 S7 w ∧
 V prog (Builtin.append_ #[23, 23] 23 #[t32, t41]) w fun t42 w =>
 S7 w ∧
 yieldS prog S7 (fieldAt 25 t7 2) fun t43 =>
 U prog (storeAt 23 t43 t42) w fun _ w =>
 V prog (binOp .add 3 t9 (i64 1)) w fun t30 w =>
 I1 t30 w ∧ μ1 t30 w < μ1 t9 w17) (
 V prog (fieldAt 25 t7 2) w19 fun t44 w =>
 V prog (loadAt 23 t44) w fun t45 w =>
 V prog (build 49 #[(0, (i64 (-1)))]) w fun t46 w =>
 V prog (makeInterface 49 t46) w fun t47 w =>
 V prog (buildSlice 23 1 #[(0, t47)]) w fun t48 w =>
 V prog (Builtin.append_ #[23, 23] 23 #[t45, t48]) w fun t49 w =>
 V prog (fieldAt 25 t7 2) w fun t50 w =>
 U prog (storeAt 23 t50 t49) w fun _ w =>
 V prog (loadAt 25 t7) w fun t51 w =>
 U prog (storeAt 25 t6 t51) w fun _ w =>
 ∃ r1, (loadVar 25 (match t6 with | .pointer (some p) => p | _ => ⟨0, 0, none⟩)).run prog w = .ok r1 w ∧ (∃ p, t6 = Value.pointer (some p)) ∧ R r1 w)
theorem F11_wp (h : F11_den t0 t1 t2 w R) : callD prog 11 #[t0, t1, t2] w R :=
  den_wp mixed F11_ann func11 (by kernel_rfl) (by kernel_rfl) h
def F12_ann : Ann := (q (.seq (q (.cond (q .leaf) .leaf)) (.seq (q (.block (.loop (rg 2 8 ++ rg 46 125) [3] (.seq (q (.cond .leaf .leaf)) (.seq (.block (q (.seq (q (.cond (q .leaf) .leaf)) (.seq (q (.block (.loop ([2, 5] ++ rg 61 83) [5] (.seq (q (.cond .leaf .leaf)) (.seq (.block (.seq (.draw [0, 1, 0, 6, 8, 16, 32, 64, 192, 64, 832, 1088, 64, 4160, 10304, 16448] [0, 1, 0, 6, 8, 16, 32, 64, 192, 64, 832, 1088, 64, 4160, 10304, 16448] 0 16 65535 (tk (rg 0 15) .done)) (.cond (q .leaf) .leaf))) .leaf))))) (.seq (q (q (.cond (q .leaf) .leaf))) (q (q (.block (.loop ([2, 8] ++ rg 105 125) [8] (.seq (q (.cond .leaf .leaf)) (.seq (.block (.seq (.draw [0, 0, 3, 4, 8, 16, 32, 32, 224, 288, 32, 1056, 2080, 4640, 8224] [0, 0, 3, 4, 8, 16, 32, 32, 224, 288, 32, 1056, 2080, 4640, 8224] 0 15 32767 (tk (rg 0 14) .done)) (.cond (q .leaf) .leaf))) .leaf))))))))))) .leaf))))) (q .leaf))))
def F12_den (t0 : Value) (w : World) (R : Value → World → Prop) : Prop :=
 V prog (box 53 t0) w fun t1 w =>
 V prog (fieldAt 53 t1 2) w fun t9 w =>
 V prog (loadAt 51 t9) w fun t10 w =>
 V prog (Builtin.len_ #[51] 3 #[t10]) w fun t11 w =>
 V prog (binOp .lss 3 t11 (i64 1)) w fun t12 w =>
 gd t12 false (fun K => V prog (fieldAt 53 t1 2) w K) w fun t14 w =>
 gd t12 false (fun K => V prog (loadAt 51 t14) w K) w fun t15 w =>
 gd t12 false (fun K => V prog (Builtin.len_ #[51] 3 #[t15]) w K) w fun t16 w =>
 gd t12 false (fun K => V prog (binOp .gtr 3 t16 (i64 250)) w K) w fun t17 w =>
 pickD t12 (.bool true) t17 fun t18 =>
 gd t18 false (fun K => V prog (fieldAt 53 t1 1) w K) w fun t20 w =>
 gd t18 false (fun K => V prog (loadAt 3 t20) w K) w fun t21 w =>
 gd t18 false (fun K => V prog (binOp .lss 3 t21 (i64 0)) w K) w fun t22 w =>
 pickD t18 (.bool true) t22 fun t23 =>
 gd t23 false (fun K => V prog (fieldAt 53 t1 1) w K) w fun t25 w =>
 gd t23 false (fun K => V prog (loadAt 3 t25) w K) w fun t26 w =>
 gd t23 false (fun K => V prog (binOp .gtr 3 t26 (i64 40)) w K) w fun t27 w =>
 pickD t23 (.bool true) t27 fun t28 =>
 gd t28 false (fun K => V prog (fieldAt 53 t1 0) w K) w fun t30 w =>
 gd t28 false (fun K => V prog (loadAt 3 t30) w K) w fun t31 w =>
 gd t28 false (fun K => V prog (binOp .lss 3 t31 (i64 0)) w K) w fun t32 w =>
 pickD t28 (.bool true) t32 fun t33 =>
 gd t33 false (fun K => V prog (fieldAt 53 t1 0) w K) w fun t35 w =>
 gd t33 false (fun K => V prog (loadAt 3 t35) w K) w fun t36 w =>
 gd t33 false (fun K => V prog (binOp .gtr 3 t36 (i64 4)) w K) w fun t37 w =>
 pickD t33 (.bool true) t37 fun t38 =>
 gd t38 false (fun K => V prog (fieldAt 53 t1 0) w K) w fun t40 w =>
 gd t38 false (fun K => V prog (loadAt 3 t40) w K) w fun t41 w =>
 gd t38 false (fun K => V prog (fieldAt 53 t1 1) w K) w fun t42 w =>
 gd t38 false (fun K => V prog (loadAt 3 t42) w K) w fun t43 w =>
 gd t38 false (fun K => V prog (binOp .gtr 3 t41 t43) w K) w fun t44 w =>
 pickD t38 (.bool true) t44 fun t45 =>
 ifD t45 (
 R (.bool false) w) (
 ∃ (I1 : NP 1) (μ1 : NF 1), I1 (i64 0) w ∧
 ∀ (t3 : Value), ∀ w33 : World, I1 t3 w33 → ∀ _f : Env,
 V prog (fieldAt 53 t1 2) w33 fun t47 w =>
 V prog (loadAt 51 t47) w fun t48 w =>
 V prog (Builtin.len_ #[51] 3 #[t48]) w fun t49 w =>
 V prog (binOp .lss 3 t3 t49) w fun t50 w37 =>
 ifD t50 (
 V prog (fieldAt 53 t1 2) w37 fun t53 w =>
 V prog (loadAt 51 t53) w fun t54 w =>
 V prog (indexAt 51 t54 t3) w fun t56 w =>
 V prog (loadAt 40 t56) w fun t57 w =>
 V prog (alloc 40 true (.tuple #[])) w fun t4 w =>
 U prog (storeAt 40 t4 t57) w fun _ w =>
 V prog (loadAt 40 t4) w fun t58 w =>
 callD prog 28 #[t58] w fun t59 w =>
 V prog (Op.unary UnOp.not t59) w fun t60 w =>
 ifD t60 (
 R (.bool false) w) (
 ∃ (I2 : NP 1) (μ2 : NF 1), I2 (i64 0) w ∧
 ∀ (t5 : Value), ∀ w47 : World, I2 t5 w47 → ∀ _f : Env,
 V prog (fieldAt 40 t4 7) w47 fun t62 w =>
 V prog (loadAt 27 t62) w fun t63 w =>
 V prog (Builtin.len_ #[27] 3 #[t63]) w fun t64 w =>
 V prog (binOp .lss 3 t5 t64) w fun t65 w51 =>
 ifD t65 (
 drawD w51 fun S12 w =>
 yieldS prog S12 (fieldAt 40 t4 7) fun t68 =>
 yieldS prog S12 (loadAt 27 t68) fun t69 =>
 yieldS prog S12 (indexAt 27 t69 t5) fun t71 =>
 yieldS prog S12 (loadAt 3 t71) fun t72 =>
 yieldS prog S12 (binOp .lss 3 t72 (i64 0)) fun t73 =>
 gdY t73 false (fun K => yieldS prog S12 (fieldAt 40 t4 7) K) fun t75 =>
 gdY t73 false (fun K => yieldS prog S12 (loadAt 27 t75) K) fun t76 =>
 gdY t73 false (fun K => K t5) fun t77 =>
 gdY t73 false (fun K => yieldS prog S12 (indexAt 27 t76 t77) K) fun t78 =>
 gdY t73 false (fun K => yieldS prog S12 (loadAt 3 t78) K) fun t79 =>
 gdY t73 false (fun K => yieldS prog S12 (fieldAt 53 t1 1) K) fun t80 =>
 gdY t73 false (fun K => yieldS prog S12 (loadAt 3 t80) K) fun t81 =>
 gdY t73 false (fun K => yieldS prog S12 (binOp .geq 3 t79 t81) K) fun t82 =>
 pickD t73 (.bool true) t82 fun t83 =>
 ifD t83 (
 R (.bool false) w) (
 V prog (binOp .add 3 t5 (i64 1)) w fun t67 w =>
 I2 t67 w ∧ μ2 t67 w < μ2 t5 w47)) (
 V prog (loadAt 40 t4) w51 fun t84 w =>
 callD prog 29 #[t84] w fun t85 w =>
 V prog (binOp .geq 3 t85 (i64 0)) w fun t87 w =>
 gd t87 true (fun K => V prog (fieldAt 40 t4 1) w K) w fun t89 w =>
 gd t87 true (fun K => V prog (loadAt 3 t89) w K) w fun t90 w =>
 gd t87 true (fun K => V prog (fieldAt 53 t1 1) w K) w fun t91 w =>
 gd t87 true (fun K => V prog (loadAt 3 t91) w K) w fun t92 w =>
 gd t87 true (fun K => V prog (binOp .geq 3 t90 t92) w K) w fun t93 w =>
 gd t87 true (fun K => K t93 w) w fun t94 w =>
 gd t94 false (fun K => V prog (fieldAt 40 t4 1) w K) w fun t95 w =>
 gd t94 false (fun K => V prog (loadAt 3 t95) w K) w fun t96 w =>
 gd t94 false (fun K => K t85 w) w fun t97 w =>
 gd t94 false (fun K => V prog (binOp .sub 3 t97 (i64 1)) w K) w fun t98 w =>
 gd t94 false (fun K => V prog (binOp .lss 3 t96 t98) w K) w fun t99 w =>
 gd t87 true (fun K => pickD t94 (.bool true) t99 fun v => K v w) w fun t100 w =>
 pickD t87 t100 (.bool false) fun t101 =>
 ifD t101 (
 R (.bool false) w) (
 V prog (loadAt 40 t4) w fun t102 w =>
 callD prog 30 #[t102, t3] w fun t104 w =>
 ∃ (I3 : NP 1) (μ3 : NF 1), I3 (i64 0) w ∧
 ∀ (t8 : Value), ∀ w72 : World, I3 t8 w72 → ∀ _f : Env,
 V prog (Builtin.len_ #[27] 3 #[t104]) w72 fun t107 w =>
 V prog (binOp .lss 3 t8 t107) w fun t108 w74 =>
 ifD t108 (
 drawD w74 fun S21 w =>
 yieldS prog S21 (indexAt 27 t104 t8) fun t113 =>
 yieldS prog S21 (loadAt 3 t113) fun t114 =>
 yieldS prog S21 (binOp .lss 3 t114 (i64 0)) fun t115 =>
 gdY t115 false (fun K => K t104) fun t117 =>
 gdY t115 false (fun K => K t8) fun t118 =>
 gdY t115 false (fun K => yieldS prog S21 (indexAt 27 t117 t118) K) fun t119 =>
 gdY t115 false (fun K => yieldS prog S21 (loadAt 3 t119) K) fun t120 =>
 gdY t115 false (fun K => yieldS prog S21 (fieldAt 53 t1 2) K) fun t121 =>
 gdY t115 false (fun K => yieldS prog S21 (loadAt 51 t121) K) fun t122 =>
 gdY t115 false (fun K => yieldS prog S21 (Builtin.len_ #[51] 3 #[t122]) K) fun t123 =>
 gdY t115 false (fun K => yieldS prog S21 (binOp .geq 3 t120 t123) K) fun t124 =>
 pickD t115 (.bool true) t124 fun t125 =>
 ifD t125 (
 R (.bool false) w) (
 V prog (binOp .add 3 t8 (i64 1)) w fun t110 w =>
 I3 t110 w ∧ μ3 t110 w < μ3 t8 w72)) (
 V prog (binOp .add 3 t3 (i64 1)) w74 fun t52 w =>
 I1 t52 w ∧ μ1 t52 w < μ1 t3 w33))))) (
 R (.bool true) w37))
theorem F12_wp (h : F12_den t0 w R) : callD prog 12 #[t0] w R :=
  den_wp mixed F12_ann func12 (by kernel_rfl) (by kernel_rfl) h
def F13_ann : Ann := (q (q (.seq (q (.block (.loop ([4] ++ rg 10 27) [4] (.seq (q (.cond .leaf .leaf)) (.seq (.block (.draw [0, 1, 0, 4, 0, 24, 32, 64, 128, 386, 1023, 2047] [0, 1, 0, 4, 0, 24, 32, 64, 128, 258, 0, 1536] 0 11 2047 (tk (rg 0 6) (.only 7 (.only 8 (.only 9 (.take 10 (.last 11)))))))) .leaf))))) (q .leaf))))
def F13_den (t0 : Value) (w : World) (R : Value → World → Prop) : Prop :=
 V prog (box 25 t0) w fun t1 w =>
 V prog (alloc 53 true (.tuple #[])) w fun t2 w =>
 V prog (fieldAt 25 t1 0) w fun t5 w =>
 V prog (loadAt 3 t5) w fun t6 w =>
 V prog (fieldAt 25 t1 1) w fun t7 w =>
 V prog (loadAt 3 t7) w fun t8 w =>
 V prog (build 53 #[(0, t6), (1, t8)]) w fun t9 w =>
 V prog (alloc 53 true (.tuple #[])) w fun t3 w =>
 U prog (storeAt 53 t3 t9) w fun _ w =>
 ∃ (I1 : NP 1) (μ1 : NF 1), I1 (i64 0) w ∧
 ∀ (t4 : Value), ∀ w10 : World, I1 t4 w10 → ∀ _f : Env,
 V prog (fieldAt 25 t1 2) w10 fun t11 w =>
 V prog (loadAt 23 t11) w fun t12 w =>
 V prog (Builtin.len_ #[23] 3 #[t12]) w fun t13 w =>
 V prog (binOp .lss 3 t4 t13) w fun t14 w14 =>
 ifD t14 (
 drawD w14 fun S5 w =>
 yieldS prog S5 (fieldAt 53 t3 2) fun t17 =>
 yieldS prog S5 (loadAt 51 t17) fun t18 =>
 yieldS prog S5 (fieldAt 25 t1 2) fun t19 =>
 yieldS prog S5 (loadAt 23 t19) fun t20 =>
 yieldS prog S5 (indexAt 23 t20 t4) fun t22 =>
 yieldS prog S5 (loadAt 43 t22) fun t23 =>
 callD prog 9 #[t23] w fun t24 w =>
 S5 w ∧
 V prog (buildSlice 51 1 #[(0, t24)]) w fun t25 w =>
 S5 w ∧
 V prog (Builtin.append_ #[51, 51] 51 #[t18, t25]) w fun t26 w =>
 S5 w ∧
 yieldS prog S5 (fieldAt 53 t3 2) fun t27 =>
 U prog (storeAt 51 t27 t26) w fun _ w =>
 V prog (binOp .add 3 t4 (i64 1)) w fun t16 w =>
 I1 t16 w ∧ μ1 t16 w < μ1 t4 w10) (
 V prog (loadAt 53 t3) w14 fun t28 w =>
 U prog (storeAt 53 t2 t28) w fun _ w =>
 ∃ r1, (loadVar 53 (match t2 with | .pointer (some p) => p | _ => ⟨0, 0, none⟩)).run prog w = .ok r1 w ∧ (∃ p, t2 = Value.pointer (some p)) ∧ R r1 w)
theorem F13_wp (h : F13_den t0 w R) : callD prog 13 #[t0] w R :=
  den_wp mixed F13_ann func13 (by kernel_rfl) (by kernel_rfl) h
def F14_ann : Ann := (q (.seq (q (.cond (q .leaf) .leaf)) (.seq (q (.block (.loop ([2, 3, 4] ++ rg 37 47) [37] (q (.seq (.cond .leaf .leaf) (.seq (.block (q (q (.cond (q .leaf) .leaf)))) .leaf)))))) (q .leaf))))
def F14_den (t0 : Value) (w : World) (R : Value → World → Prop) : Prop :=
 V prog (box 25 t0) w fun t1 w =>
 V prog (fieldAt 25 t1 2) w fun t5 w =>
 V prog (loadAt 23 t5) w fun t6 w =>
 V prog (Builtin.len_ #[23] 3 #[t6]) w fun t7 w =>
 V prog (binOp .lss 3 t7 (i64 1)) w fun t8 w =>
 gd t8 false (fun K => V prog (fieldAt 25 t1 2) w K) w fun t10 w =>
 gd t8 false (fun K => V prog (loadAt 23 t10) w K) w fun t11 w =>
 gd t8 false (fun K => V prog (Builtin.len_ #[23] 3 #[t11]) w K) w fun t12 w =>
 gd t8 false (fun K => V prog (binOp .gtr 3 t12 (i64 250)) w K) w fun t13 w =>
 pickD t8 (.bool true) t13 fun t14 =>
 gd t14 false (fun K => V prog (fieldAt 25 t1 1) w K) w fun t16 w =>
 gd t14 false (fun K => V prog (loadAt 3 t16) w K) w fun t17 w =>
 gd t14 false (fun K => callD prog 31 #[t17, (i64 41)] w K) w fun t18 w =>
 gd t14 false (fun K => V prog (Op.unary UnOp.not t18) w K) w fun t19 w =>
 pickD t14 (.bool true) t19 fun t20 =>
 gd t20 false (fun K => V prog (fieldAt 25 t1 0) w K) w fun t22 w =>
 gd t20 false (fun K => V prog (loadAt 3 t22) w K) w fun t23 w =>
 gd t20 false (fun K => callD prog 31 #[t23, (i64 5)] w K) w fun t24 w =>
 gd t20 false (fun K => V prog (Op.unary UnOp.not t24) w K) w fun t25 w =>
 pickD t20 (.bool true) t25 fun t26 =>
 gd t26 false (fun K => V prog (fieldAt 25 t1 0) w K) w fun t28 w =>
 gd t26 false (fun K => V prog (loadAt 3 t28) w K) w fun t29 w =>
 gd t26 false (fun K => V prog (fieldAt 25 t1 1) w K) w fun t30 w =>
 gd t26 false (fun K => V prog (loadAt 3 t30) w K) w fun t31 w =>
 gd t26 false (fun K => V prog (binOp .gtr 3 t29 t31) w K) w fun t32 w =>
 pickD t26 (.bool true) t32 fun t33 =>
 ifD t33 (
 R (.bool false) w) (
 V prog (fieldAt 25 t1 2) w fun t34 w =>
 V prog (loadAt 23 t34) w fun t35 w =>
 V prog (Builtin.len_ #[23] 3 #[t35]) w fun t36 w =>
 ∃ (I1 : NP 1) (μ1 : NF 1), I1 (i64 0) w ∧
 ∀ (t37 : Value), ∀ w30 : World, I1 t37 w30 → ∀ _f : Env,
 V prog (binOp .lss 3 t37 t36) w30 fun t38 w31 =>
 ifD t38 (
 V prog (indexAt 23 t35 t37) w31 fun t40 w =>
 V prog (loadAt 43 t40) w fun t41 w =>
 V prog (loadAt 25 t1) w fun t42 w =>
 callD prog 32 #[t42, t41, t37] w fun t45 w =>
 V prog (Op.unary UnOp.not t45) w fun t46 w =>
 ifD t46 (
 R (.bool false) w) (
 V prog (binOp .add 3 t37 (i64 1)) w fun t47 w =>
 I1 t47 w ∧ μ1 t47 w < μ1 t37 w30)) (
 R (.bool true) w31))
theorem F14_wp (h : F14_den t0 w R) : callD prog 14 #[t0] w R :=
  den_wp mixed F14_ann func14 (by kernel_rfl) (by kernel_rfl) h
def F15_ann : Ann := (q (.join ([3] ++ rg 16 22) [3] (.draw [0, 1, 2, 0, 8, 16, 36, 0, 255] [0, 1, 2, 0, 8, 16, 36, 0, 192] 0 8 255 (tk [0, 1, 3, 4] (.three 2 5 7 (.two 5 7 (.take 6 (.only 7 (.last 8))) (.only 5 (.take 6 (.last 8)))) (.two 2 7 (.take 6 (.only 7 (.last 8))) (.only 2 (.take 6 (.last 8)))) (.two 2 5 (.only 5 (.take 6 (.last 8))) (.only 2 (.take 6 (.last 8))))))) (.seq (q (.block (.loop ([4] ++ rg 25 35) [25] (q (.seq (.cond .leaf .leaf) (.seq (.block (q (.draw [0, 1, 0, 0, 8, 16, 63, 127] [0, 1, 0, 0, 8, 16, 6, 96] 0 7 127 (tk (rg 0 4) (.only 5 (.take 6 (.last 7))))))) .leaf)))))) (q (q (q (.seq (q (.block (.loop ([8] ++ rg 44 53) [44] (q (.seq (.cond .leaf .leaf) (.seq (.block (q (q .leaf))) .leaf)))))) (q (.seq (q (.block (.loop (rg 9 14 ++ rg 59 108) [59] (q (.seq (.cond .leaf .leaf) (.seq (.block (q (q (q (q (q (q (.block (.loop ([13, 14] ++ rg 80 107) [80] (q (.seq (.cond .leaf .leaf) (.seq (.block (q (.draw [0, 1, 0, 0, 8, 0, 48, 64, 128, 256, 768, 1024, 1024, 7168, 9472, 17664, 32768, 98304, 163840, 295168, 524544, 2097151, 4194303] [0, 1, 0, 0, 8, 0, 48, 64, 128, 256, 768, 1024, 1024, 7168, 9472, 16640, 32768, 98304, 163840, 295168, 524544, 6, 3145728] 0 22 4194303 (tk (rg 0 16) (.only 17 (tk (rg 18 21) (.last 22))))))) .leaf)))))))))))) .leaf)))))) (.seq (q (.block (.loop ([15] ++ rg 111 117) [111] (q (.seq (.cond .leaf .leaf) (.seq (.block (q .leaf)) .leaf)))))) (q .leaf)))))))))))
def F15_den (t0 : Value) (w : World) (R : Value → World → Prop) : Prop :=
 V prog (box 25 t0) w fun t1 w =>
 V prog (alloc 59 true (.tuple #[])) w fun t2 w =>
 ∃ J1 : NP 1,
 (drawD w fun S1 w3 =>
 yieldS prog S1 (fieldAt 25 t1 1) fun t16 =>
 yieldS prog S1 (loadAt 3 t16) fun t17 =>
 yieldS prog S1 (fieldAt 25 t1 1) fun t19 =>
 yieldS prog S1 (loadAt 3 t19) fun t20 =>
 (V prog (makeSlice 56 t17 t17) w3 fun t18 w4 =>
 S1 w4 ∧
 (V prog (makeSlice 57 t20 t20) w4 fun t21 w =>
 S1 w ∧
 yieldS prog S1 (build 59 #[(0, t18), (1, t21), (2, nilS)]) fun t22 =>
 V prog (alloc 59 true (.tuple #[])) w fun t3 w =>
 S1 w ∧
 U prog (storeAt 59 t3 t22) w fun _ w =>
 J1 t3 w) ∧
 (V prog (alloc 59 true (.tuple #[])) w4 fun t3_1 w =>
 S1 w ∧
 V prog (makeSlice 57 t20 t20) w fun t21_1 w =>
 S1 w ∧
 yieldS prog S1 (build 59 #[(0, t18), (1, t21_1), (2, nilS)]) fun t22_1 =>
 U prog (storeAt 59 t3_1 t22_1) w fun _ w =>
 J1 t3_1 w)) ∧
 (V prog (makeSlice 57 t20 t20) w3 fun t21_2 w11 =>
 S1 w11 ∧
 (V prog (makeSlice 56 t17 t17) w11 fun t18_1 w =>
 S1 w ∧
 yieldS prog S1 (build 59 #[(0, t18_1), (1, t21_2), (2, nilS)]) fun t22_2 =>
 V prog (alloc 59 true (.tuple #[])) w fun t3_2 w =>
 S1 w ∧
 U prog (storeAt 59 t3_2 t22_2) w fun _ w =>
 J1 t3_2 w) ∧
 (V prog (alloc 59 true (.tuple #[])) w11 fun t3_3 w =>
 S1 w ∧
 V prog (makeSlice 56 t17 t17) w fun t18_2 w =>
 S1 w ∧
 yieldS prog S1 (build 59 #[(0, t18_2), (1, t21_2), (2, nilS)]) fun t22_3 =>
 U prog (storeAt 59 t3_3 t22_3) w fun _ w =>
 J1 t3_3 w)) ∧
 (V prog (alloc 59 true (.tuple #[])) w3 fun t3_4 w18 =>
 S1 w18 ∧
 (V prog (makeSlice 56 t17 t17) w18 fun t18_3 w =>
 S1 w ∧
 V prog (makeSlice 57 t20 t20) w fun t21_3 w =>
 S1 w ∧
 yieldS prog S1 (build 59 #[(0, t18_3), (1, t21_3), (2, nilS)]) fun t22_4 =>
 U prog (storeAt 59 t3_4 t22_4) w fun _ w =>
 J1 t3_4 w) ∧
 (V prog (makeSlice 57 t20 t20) w18 fun t21_4 w =>
 S1 w ∧
 V prog (makeSlice 56 t17 t17) w fun t18_4 w =>
 S1 w ∧
 yieldS prog S1 (build 59 #[(0, t18_4), (1, t21_4), (2, nilS)]) fun t22_5 =>
 U prog (storeAt 59 t3_4 t22_5) w fun _ w =>
 J1 t3_4 w))) ∧
 ∀ (t3_5 : Value), ∀ w : World, J1 t3_5 w → ∀ _f : Env,
 V prog (fieldAt 25 t1 1) w fun t23 w =>
 V prog (loadAt 3 t23) w fun t24 w =>
 ∃ (I2 : NP 1) (μ2 : NF 1), I2 (i64 0) w ∧
 ∀ (t25 : Value), ∀ w28 : World, I2 t25 w28 → ∀ _f : Env,
 V prog (binOp .lss 3 t25 t24) w28 fun t26 w29 =>
 ifD t26 (
 drawD w29 fun S5 w =>
 yieldS prog S5 (fieldAt 59 t3_5 0) fun t28 =>
 yieldS prog S5 (loadAt 56 t28) fun t29 =>
 yieldS prog S5 (fieldAt 25 t1 1) fun t31 =>
 yieldS prog S5 (loadAt 3 t31) fun t32 =>
 V prog (makeSlice 57 t32 t32) w fun t33 w =>
 S5 w ∧
 yieldS prog S5 (indexAt 56 t29 t25) fun t34 =>
 U prog (storeAt 57 t34 t33) w fun _ w =>
 V prog (binOp .add 3 t25 (i64 1)) w fun t35 w =>
 I2 t35 w ∧ μ2 t35 w < μ2 t25 w28) (
 V prog (loadAt 25 t1) w29 fun t36 w =>
 callD prog 33 #[t36] w fun t37 w =>
 V prog (fieldAt 25 t1 1) w fun t38 w =>
 V prog (loadAt 3 t38) w fun t39 w =>
 V prog (makeSlice 57 t39 t39) w fun t40 w =>
 V prog (alloc 57 true (.tuple #[])) w fun t6 w =>
 U prog (storeAt 57 t6 t40) w fun _ w =>
 V prog (makeFunc (Fn.func 34) #[] #[t6, t3_5]) w fun t41 w =>
 V prog (fieldAt 25 t1 0) w fun t42 w =>
 V prog (loadAt 3 t42) w fun t43 w =>
 ∃ (I3 : NP 1) (μ3 : NF 1), I3 (i64 0) w ∧
 ∀ (t44 : Value), ∀ w44 : World, I3 t44 w44 → ∀ _f : Env,
 V prog (binOp .lss 3 t44 t43) w44 fun t45 w45 =>
 ifD t45 (
 V prog (indexAt 57 t37 t44) w45 fun t49 w =>
 U prog (storeAt 4 t49 (.bool true)) w fun _ w =>
 dynD prog t41 #[t44] w fun _ w =>
 V prog (binOp .add 3 t44 (i64 1)) w fun t53 w =>
 I3 t53 w ∧ μ3 t53 w < μ3 t44 w44) (
 callD prog 35 #[t3_5, t37] w45 fun _ w =>
 V prog (loadAt 25 t1) w fun t56 w =>
 callD prog 36 #[t56] w fun t57 w =>
 V prog (Builtin.len_ #[56] 3 #[t57]) w fun t58 w =>
 ∃ (I4 : NP 1) (μ4 : NF 1), I4 (i64 0) w ∧
 ∀ (t59 : Value), ∀ w54 : World, I4 t59 w54 → ∀ _f : Env,
 V prog (binOp .lss 3 t59 t58) w54 fun t60 w55 =>
 ifD t60 (
 V prog (indexAt 56 t57 t59) w55 fun t62 w =>
 V prog (loadAt 57 t62) w fun t63 w =>
 V prog (fieldAt 25 t1 2) w fun t64 w =>
 V prog (loadAt 23 t64) w fun t65 w =>
 V prog (indexAt 23 t65 t59) w fun t67 w =>
 V prog (loadAt 43 t67) w fun t68 w =>
 callD prog 37 #[t68] w fun t70 w =>
 dynD prog t41 #[t70] w fun _ w =>
 callD prog 38 #[t63, t70] w fun t76 w =>
 callD prog 35 #[t3_5, t76] w fun _ w =>
 V prog (Builtin.len_ #[57] 3 #[t63]) w fun t79 w =>
 ∃ (I5 : NP 1) (μ5 : NF 1), I5 (i64 0) w ∧
 ∀ (t80 : Value), ∀ w67 : World, I5 t80 w67 → ∀ _f : Env,
 V prog (binOp .lss 3 t80 t79) w67 fun t81 w68 =>
 ifD t81 (
 V prog (indexAt 57 t63 t80) w68 fun t83 w =>
 V prog (loadAt 4 t83) w fun t84 w =>
 drawD w fun S27 w =>
 yieldS prog S27 (fieldAt 59 t3_5 1) fun t85 =>
 yieldS prog S27 (loadAt 57 t85) fun t86 =>
 yieldS prog S27 (fieldAt 59 t3_5 1) fun t88 =>
 yieldS prog S27 (loadAt 57 t88) fun t89 =>
 yieldS prog S27 (indexAt 57 t89 t80) fun t91 =>
 yieldS prog S27 (loadAt 4 t91) fun t92 =>
 gdY t92 false (fun K => K t84) fun t94 =>
 gdY t92 false (fun K => K t94) fun t95 =>
 gdY t95 true (fun K => K t80) fun t96 =>
 gdY t95 true (fun K => K t70) fun t97 =>
 gdY t95 true (fun K => yieldS prog S27 (do eqGuard .neq 3 (.tmp 96) (.tmp 97) t96 t97; binOp .neq 3 t96 t97) K) fun t98 =>
 gdY t92 false (fun K => pickD t95 t98 (.bool false) K) fun t99 =>
 gdY t92 false (fun K => K t99) fun t100 =>
 gdY t100 true (fun K => K t68) fun t101 =>
 gd t100 true (fun K => callD prog 39 #[t101] w K) w fun t102 w =>
 S27 w ∧
 gdY t100 true (fun K => yieldS prog S27 (Op.unary UnOp.not t102) K) fun t103 =>
 gdY t92 false (fun K => pickD t100 t103 (.bool false) K) fun t104 =>
 pickD t92 (.bool true) t104 fun t105 =>
 yieldS prog S27 (indexAt 57 t86 t80) fun t106 =>
 U prog (storeAt 4 t106 t105) w fun _ w =>
 V prog (binOp .add 3 t80 (i64 1)) w fun t107 w =>
 I5 t107 w ∧ μ5 t107 w < μ5 t80 w67) (
 V prog (binOp .add 3 t59 (i64 1)) w68 fun t108 w =>
 I4 t108 w ∧ μ4 t108 w < μ4 t59 w54)) (
 V prog (fieldAt 25 t1 1) w55 fun t109 w =>
 V prog (loadAt 3 t109) w fun t110 w =>
 ∃ (I6 : NP 1) (μ6 : NF 1), I6 (i64 0) w ∧
 ∀ (t111 : Value), ∀ w78 : World, I6 t111 w78 → ∀ _f : Env,
 V prog (binOp .lss 3 t111 t110) w78 fun t112 w79 =>
 ifD t112 (
 dynD prog t41 #[t111] w79 fun _ w =>
 V prog (binOp .add 3 t111 (i64 1)) w fun t117 w =>
 I6 t117 w ∧ μ6 t117 w < μ6 t111 w78) (
 V prog (loadAt 59 t3_5) w79 fun t118 w =>
 U prog (storeAt 59 t2 t118) w fun _ w =>
 ∃ r1, (loadVar 59 (match t2 with | .pointer (some p) => p | _ => ⟨0, 0, none⟩)).run prog w = .ok r1 w ∧ (∃ p, t2 = Value.pointer (some p)) ∧ R r1 w))))
theorem F15_wp (h : F15_den t0 w R) : callD prog 15 #[t0] w R :=
  den_wp mixed F15_ann func15 (by kernel_rfl) (by kernel_rfl) h
def F16_ann : Ann := (q (.seq (q (.cond (q .leaf) .leaf)) (.seq (q (.block (.loop ([8, 9, 10] ++ rg 22 40) [22] (q (.seq (.cond .leaf .leaf) (.seq (.block (q (q (.cond (q .leaf) .leaf)))) .leaf)))))) (q .leaf))))
def F16_den (t0 t1 t2 t3 : Value) (w : World) (R : Value → World → Prop) : Prop :=
 V prog (box 59 t0) w fun t4 w =>
 V prog (fieldAt 59 t4 1) w fun t11 w =>
 V prog (loadAt 57 t11) w fun t12 w =>
 V prog (indexAt 57 t12 t1) w fun t14 w =>
 V prog (loadAt 4 t14) w fun t15 w =>
 gd t15 true (fun K => K t2 w) w fun t17 w =>
 gd t15 true (fun K => V prog (binOp .lss 3 t17 (i64 16)) w K) w fun t18 w =>
 pickD t15 t18 (.bool false) fun t19 =>
 ifD t19 (
 R (.bool false) w) (
 V prog (Builtin.len_ #[27] 3 #[t3]) w fun t21 w =>
 ∃ (I1 : NP 1) (μ1 : NF 1), I1 (i64 0) w ∧
 ∀ (t22 : Value), ∀ w10 : World, I1 t22 w10 → ∀ _f : Env,
 V prog (binOp .lss 3 t22 t21) w10 fun t23 w11 =>
 ifD t23 (
 V prog (indexAt 27 t3 t22) w11 fun t25 w =>
 V prog (loadAt 3 t25) w fun t26 w =>
 V prog (fieldAt 59 t4 0) w fun t27 w =>
 V prog (loadAt 56 t27) w fun t28 w =>
 V prog (indexAt 56 t28 t1) w fun t30 w =>
 V prog (loadAt 57 t30) w fun t31 w =>
 V prog (indexAt 57 t31 t22) w fun t33 w =>
 V prog (loadAt 4 t33) w fun t34 w =>
 gd t34 true (fun K => K t26 w) w fun t36 w =>
 gd t34 true (fun K => K t2 w) w fun t37 w =>
 gd t34 true (fun K => V prog (do eqGuard .eql 3 (.tmp 36) (.tmp 37) t36 t37; binOp .eql 3 t36 t37) w K) w fun t38 w =>
 pickD t34 t38 (.bool false) fun t39 =>
 ifD t39 (
 R (.bool false) w) (
 V prog (binOp .add 3 t22 (i64 1)) w fun t40 w =>
 I1 t40 w ∧ μ1 t40 w < μ1 t22 w10)) (
 R (.bool true) w11))
theorem F16_wp (h : F16_den t0 t1 t2 t3 w R) : callD prog 16 #[t0, t1, t2, t3] w R :=
  den_wp mixed F16_ann func16 (by kernel_rfl) (by kernel_rfl) h
def F17_ann : Ann := (q (.seq (q (.cond (q .leaf) .leaf)) (q (.seq (q (.block (.loop ([4, 6, 7] ++ rg 34 65) [34] (q (.seq (.cond .leaf .leaf) (.seq (.block (q (q (.cond (q .leaf) .leaf)))) .leaf)))))) (q .leaf)))))
def F17_den (t0 t1 : Value) (w : World) (R : Value → World → Prop) : Prop :=
 V prog (box 25 t0) w fun t2 w =>
 V prog (box 29 t1) w fun t3 w =>
 V prog (loadAt 25 t2) w fun t8 w =>
 callD prog 14 #[t8] w fun t9 w =>
 V prog (Op.unary UnOp.not t9) w fun t10 w =>
 gd t10 false (fun K => V prog (fieldAt 29 t3 0) w K) w fun t12 w =>
 gd t10 false (fun K => V prog (loadAt 27 t12) w K) w fun t13 w =>
 gd t10 false (fun K => V prog (Builtin.len_ #[27] 3 #[t13]) w K) w fun t14 w =>
 gd t10 false (fun K => V prog (fieldAt 25 t2 1) w K) w fun t15 w =>
 gd t10 false (fun K => V prog (loadAt 3 t15) w K) w fun t16 w =>
 gd t10 false (fun K => V prog (do eqGuard .neq 3 (.tmp 14) (.tmp 16) t14 t16; binOp .neq 3 t14 t16) w K) w fun t17 w =>
 pickD t10 (.bool true) t17 fun t18 =>
 gd t18 false (fun K => V prog (fieldAt 29 t3 1) w K) w fun t20 w =>
 gd t18 false (fun K => V prog (loadAt 3 t20) w K) w fun t21 w =>
 gd t18 false (fun K => V prog (binOp .lss 3 t21 (i64 0)) w K) w fun t22 w =>
 pickD t18 (.bool true) t22 fun t23 =>
 gd t23 false (fun K => V prog (fieldAt 29 t3 1) w K) w fun t25 w =>
 gd t23 false (fun K => V prog (loadAt 3 t25) w K) w fun t26 w =>
 gd t23 false (fun K => V prog (binOp .gtr 3 t26 (i64 40)) w K) w fun t27 w =>
 pickD t23 (.bool true) t27 fun t28 =>
 ifD t28 (
 R (.bool false) w) (
 V prog (loadAt 25 t2) w fun t29 w =>
 callD prog 15 #[t29] w fun t30 w =>
 V prog (alloc 59 true (.tuple #[])) w fun t5 w =>
 U prog (storeAt 59 t5 t30) w fun _ w =>
 V prog (fieldAt 29 t3 0) w fun t31 w =>
 V prog (loadAt 27 t31) w fun t32 w =>
 V prog (Builtin.len_ #[27] 3 #[t32]) w fun t33 w =>
 ∃ (I1 : NP 1) (μ1 : NF 1), I1 (i64 0) w ∧
 ∀ (t34 : Value), ∀ w28 : World, I1 t34 w28 → ∀ _f : Env,
 V prog (binOp .lss 3 t34 t33) w28 fun t35 w29 =>
 ifD t35 (
 V prog (indexAt 27 t32 t34) w29 fun t37 w =>
 V prog (loadAt 3 t37) w fun t38 w =>
 V prog (do eqGuard .neq 3 (.tmp 39) (.const (i64 5)) t38 (i64 5); binOp .neq 3 t38 (i64 5)) w fun t40 w =>
 gd t40 true (fun K => K t38 w) w fun t42 w =>
 gd t40 true (fun K => V prog (do eqGuard .neq 3 (.tmp 42) (.const (i64 6)) t42 (i64 6); binOp .neq 3 t42 (i64 6)) w K) w fun t43 w =>
 pickD t40 t43 (.bool false) fun t44 =>
 gd t44 true (fun K => K t38 w) w fun t46 w =>
 gd t44 true (fun K => V prog (binOp .lss 3 t46 (i64 16)) w K) w fun t47 w =>
 gd t44 true (fun K => K t47 w) w fun t48 w =>
 gd t48 false (fun K => K t38 w) w fun t49 w =>
 gd t48 false (fun K => V prog (fieldAt 29 t3 1) w K) w fun t50 w =>
 gd t48 false (fun K => V prog (loadAt 3 t50) w K) w fun t51 w =>
 gd t48 false (fun K => V prog (binOp .add 3 (i64 16) t51) w K) w fun t52 w =>
 gd t48 false (fun K => V prog (binOp .geq 3 t49 t52) w K) w fun t53 w =>
 gd t44 true (fun K => pickD t48 (.bool true) t53 fun v => K v w) w fun t54 w =>
 pickD t44 t54 (.bool false) fun t55 =>
 gd t55 false (fun K => V prog (loadAt 59 t5) w K) w fun t57 w =>
 gd t55 false (fun K => K t34 w) w fun t58 w =>
 gd t55 false (fun K => K t38 w) w fun t59 w =>
 gd t55 false (fun K => V prog (fieldAt 29 t3 0) w K) w fun t60 w =>
 gd t55 false (fun K => V prog (loadAt 27 t60) w K) w fun t61 w =>
 gd t55 false (fun K => callD prog 16 #[t57, t58, t59, t61] w K) w fun t62 w =>
 gd t55 false (fun K => V prog (Op.unary UnOp.not t62) w K) w fun t63 w =>
 pickD t55 (.bool true) t63 fun t64 =>
 ifD t64 (
 R (.bool false) w) (
 V prog (binOp .add 3 t34 (i64 1)) w fun t65 w =>
 I1 t65 w ∧ μ1 t65 w < μ1 t34 w28)) (
 R (.bool true) w29))
theorem F17_wp (h : F17_den t0 t1 w R) : callD prog 17 #[t0, t1] w R :=
  den_wp mixed F17_ann func17 (by kernel_rfl) (by kernel_rfl) h
def F18_ann : Ann := (q (.seq (q (.cond (q .leaf) .leaf)) .leaf))
def F18_den (t0 t1 t2 : Value) (w : World) (R : Value → World → Prop) : Prop :=
 Go.Vc.Safe (t0) ∧
 V prog (fieldAt 65 t0 1) w fun t9 w =>
 V prog (fieldAt 29 t9 0) w fun t10 w =>
 V prog (loadAt 27 t10) w fun t11 w =>
 V prog (indexAt 27 t11 t1) w fun t13 w =>
 V prog (loadAt 3 t13) w fun t14 w =>
 V prog (binOp .lss 3 t14 (i64 16)) w fun t16 w7 =>
 ifD t16 (
 callD prog 40 #[t0, (i64 28), t14, t2] w7 fun _ w =>
 R (.tuple #[]) w) (
 V prog (binOp .sub 3 t14 (i64 16)) w7 fun t24 w =>
 V prog (binOp .mul 3 (i64 4) t24) w fun t25 w =>
 callD prog 41 #[t0, (i64 36), t2, t25] w fun _ w =>
 R (.tuple #[]) w)
theorem F18_wp (h : F18_den t0 t1 t2 w R) : callD prog 18 #[t0, t1, t2] w R :=
  den_wp mixed F18_ann func18 (by kernel_rfl) (by kernel_rfl) h
def F19_ann : Ann := .leaf
def F19_den (t0 t1 : Value) (w : World) (R : Value → World → Prop) : Prop :=
 Go.Vc.Safe (t0) ∧
 V prog (fieldAt 65 t0 3) w fun t7 w =>
 V prog (fieldAt 33 t7 0) w fun t8 w =>
 V prog (loadAt 31 t8) w fun t9 w =>
 V prog (build 74 #[(0, (i64 2)), (2, t1)]) w fun t11 w =>
 V prog (buildSlice 31 1 #[(0, t11)]) w fun t12 w =>
 V prog (Builtin.append_ #[31, 31] 31 #[t9, t12]) w fun t13 w =>
 Go.Vc.Safe (t0) ∧
 V prog (fieldAt 65 t0 3) w fun t15 w =>
 V prog (fieldAt 33 t15 0) w fun t16 w =>
 U prog (storeAt 31 t16 t13) w fun _ w =>
 R (.tuple #[]) w
theorem F19_wp (h : F19_den t0 t1 w R) : callD prog 19 #[t0, t1] w R :=
  den_wp mixed F19_ann func19 (by kernel_rfl) (by kernel_rfl) h
def F20_ann : Ann := (.join (rg 6 16 ++ rg 18 131) [] (q (.block (q (.cond (q .leaf) (q (.cond (q .leaf) (q (.cond (q (q .leaf)) (q (.cond (q (q .leaf)) (q (.cond (q (q .leaf)) (q (.cond (q .leaf) (q (.cond (q .leaf) (q (.cond (q (q (q .leaf))) (q (.cond (q (q .leaf)) (q (.cond (q (q (q .leaf))) (q (q .leaf)))))))))))))))))))))))) (q (q (.cond .leaf .leaf))))
def F20_den (t0 t1 t2 : Value) (w : World) (R : Value → World → Prop) : Prop :=
 ∃ J1 : NP 0,
 (V prog (typeAssert t1 43 78 true) w fun t22 w =>
 V prog (extract t22 1) w fun t23 w =>
 V prog (extract t22 0) w fun t24 w3 =>
 ifD t23 (
 V prog (alloc 78 true (.tuple #[])) w3 fun t6 w =>
 U prog (storeAt 78 t6 t24) w fun _ w =>
 V prog (fieldAt 78 t6 1) w fun t26 w =>
 V prog (loadAt 21 t26) w fun t27 w =>
 callD prog 42 #[t0, (i64 0), t27] w fun _ w =>
 J1 w) (
 V prog (typeAssert t1 43 80 true) w3 fun t29 w =>
 V prog (extract t29 1) w fun t30 w =>
 V prog (extract t29 0) w fun t31 w11 =>
 ifD t30 (
 V prog (alloc 80 true (.tuple #[])) w11 fun t7 w =>
 U prog (storeAt 80 t7 t31) w fun _ w =>
 V prog (loadAt 80 t7) w fun t33 w =>
 V prog (makeInterface 80 t33) w fun t34 w =>
 callD prog 44 #[t34] w fun t35 w =>
 callD prog 43 #[t0, t35] w fun _ w =>
 J1 w) (
 V prog (typeAssert t1 43 82 true) w11 fun t37 w =>
 V prog (extract t37 1) w fun t38 w =>
 V prog (extract t37 0) w fun t39 w20 =>
 ifD t38 (
 V prog (alloc 82 true (.tuple #[])) w20 fun t8 w =>
 U prog (storeAt 82 t8 t39) w fun _ w =>
 V prog (loadAt 82 t8) w fun t41 w =>
 V prog (makeInterface 82 t41) w fun t42 w =>
 callD prog 44 #[t42] w fun t43 w =>
 callD prog 43 #[t0, t43] w fun _ w =>
 V prog (fieldAt 82 t8 0) w fun t46 w =>
 V prog (loadAt 3 t46) w fun t47 w =>
 callD prog 45 #[t0, t47] w fun _ w =>
 J1 w) (
 V prog (typeAssert t1 43 84 true) w20 fun t49 w =>
 V prog (extract t49 1) w fun t50 w =>
 V prog (extract t49 0) w fun t51 w32 =>
 ifD t50 (
 V prog (alloc 84 true (.tuple #[])) w32 fun t9 w =>
 U prog (storeAt 84 t9 t51) w fun _ w =>
 V prog (loadAt 84 t9) w fun t53 w =>
 V prog (makeInterface 84 t53) w fun t54 w =>
 callD prog 44 #[t54] w fun t55 w =>
 callD prog 43 #[t0, t55] w fun _ w =>
 V prog (fieldAt 84 t9 0) w fun t58 w =>
 V prog (loadAt 3 t58) w fun t59 w =>
 callD prog 46 #[t0, t59] w fun _ w =>
 J1 w) (
 V prog (typeAssert t1 43 86 true) w32 fun t61 w =>
 V prog (extract t61 1) w fun t62 w =>
 V prog (extract t61 0) w fun t63 w44 =>
 ifD t62 (
 V prog (alloc 86 true (.tuple #[])) w44 fun t10 w =>
 U prog (storeAt 86 t10 t63) w fun _ w =>
 V prog (loadAt 86 t10) w fun t65 w =>
 V prog (makeInterface 86 t65) w fun t66 w =>
 callD prog 44 #[t66] w fun t67 w =>
 callD prog 43 #[t0, t67] w fun _ w =>
 callD prog 47 #[t0] w fun _ w =>
 J1 w) (
 V prog (typeAssert t1 43 47 true) w44 fun t71 w =>
 V prog (extract t71 1) w fun t72 w =>
 V prog (extract t71 0) w fun t73 w54 =>
 ifD t72 (
 V prog (alloc 47 true (.tuple #[])) w54 fun t11 w =>
 U prog (storeAt 47 t11 t73) w fun _ w =>
 Go.Vc.Safe (t0) ∧
 V prog (fieldAt 65 t0 0) w fun t77 w =>
 V prog (fieldAt 25 t77 2) w fun t78 w =>
 V prog (loadAt 23 t78) w fun t79 w =>
 V prog (Builtin.len_ #[23] 3 #[t79]) w fun t80 w =>
 V prog (binOp .add 3 t80 t2) w fun t82 w =>
 callD prog 48 #[t0, t82] w fun _ w =>
 J1 w) (
 V prog (typeAssert t1 43 88 true) w54 fun t84 w =>
 V prog (extract t84 1) w fun t85 w =>
 V prog (extract t84 0) w fun t86 w66 =>
 ifD t85 (
 V prog (alloc 88 true (.tuple #[])) w66 fun t12 w =>
 U prog (storeAt 88 t12 t86) w fun _ w =>
 V prog (fieldAt 88 t12 0) w fun t88 w =>
 V prog (loadAt 3 t88) w fun t89 w =>
 callD prog 49 #[t0, (i64 14), t89] w fun _ w =>
 J1 w) (
 V prog (typeAssert t1 43 90 true) w66 fun t91 w =>
 V prog (extract t91 1) w fun t92 w =>
 V prog (extract t91 0) w fun t93 w74 =>
 ifD t92 (
 V prog (alloc 90 true (.tuple #[])) w74 fun t13 w =>
 U prog (storeAt 90 t13 t93) w fun _ w =>
 V prog (loadAt 90 t13) w fun t95 w =>
 V prog (makeInterface 90 t95) w fun t96 w =>
 callD prog 44 #[t96] w fun t97 w =>
 callD prog 43 #[t0, t97] w fun _ w =>
 callD prog 41 #[t0, (i64 9), (i64 0), (i64 0)] w fun _ w =>
 V prog (fieldAt 90 t13 1) w fun t102 w =>
 V prog (loadAt 3 t102) w fun t103 w =>
 callD prog 49 #[t0, (i64 1), t103] w fun _ w =>
 J1 w) (
 V prog (typeAssert t1 43 92 true) w74 fun t105 w =>
 V prog (extract t105 1) w fun t106 w =>
 V prog (extract t105 0) w fun t107 w87 =>
 ifD t106 (
 V prog (alloc 92 true (.tuple #[])) w87 fun t14 w =>
 U prog (storeAt 92 t14 t107) w fun _ w =>
 callD prog 50 #[t0] w fun _ w =>
 V prog (fieldAt 92 t14 1) w fun t111 w =>
 V prog (loadAt 3 t111) w fun t112 w =>
 V prog (binOp .mul 3 (i64 4) t112) w fun t113 w =>
 V prog (build 72 #[(0, (i64 31)), (1, (i64 0)), (2, (i64 1)), (4, t113)]) w fun t114 w =>
 callD prog 51 #[t0, t114] w fun _ w =>
 J1 w) (
 V prog (typeAssert t1 43 94 true) w87 fun t116 w =>
 V prog (extract t116 1) w fun t117 w =>
 V prog (extract t116 0) w fun t118 w98 =>
 ifD t117 (
 V prog (alloc 94 true (.tuple #[])) w98 fun t15 w =>
 U prog (storeAt 94 t15 t118) w fun _ w =>
 V prog (loadAt 94 t15) w fun t120 w =>
 V prog (makeInterface 94 t120) w fun t121 w =>
 callD prog 44 #[t121] w fun t122 w =>
 callD prog 43 #[t0, t122] w fun _ w =>
 callD prog 50 #[t0] w fun _ w =>
 V prog (fieldAt 94 t15 0) w fun t127 w =>
 V prog (loadAt 3 t127) w fun t128 w =>
 V prog (binOp .mul 3 (i64 4) t128) w fun t129 w =>
 V prog (build 72 #[(0, (i64 32)), (1, (i64 0)), (2, (i64 1)), (4, t129)]) w fun t130 w =>
 callD prog 51 #[t0, t130] w fun _ w =>
 J1 w) (
 callD prog 52 #[t0, t1] w98 fun _ w =>
 R (.tuple #[]) w))))))))))) ∧
 ∀ w : World, J1 w → ∀ _f : Env,
 callD prog 37 #[t1] w fun t133 w =>
 V prog (binOp .geq 3 t133 (i64 0)) w fun t135 w114 =>
 ifD t135 (
 callD prog 18 #[t0, t133, (i64 0)] w114 fun _ w =>
 R (.tuple #[]) w) (
 R (.tuple #[]) w114)
theorem F20_wp (h : F20_den t0 t1 t2 w R) : callD prog 20 #[t0, t1, t2] w R :=
  den_wp mixed F20_ann func20 (by kernel_rfl) (by kernel_rfl) h
def F21_ann : Ann := (q (q .leaf))
def F21_den (t0 t1 : Value) (w : World) (R : Value → World → Prop) : Prop :=
 callD prog 53 #[t0, t1] w fun t7 w =>
 V prog (binOp .geq 3 t7 (i64 0)) w fun t8 w =>
 R t8 w
theorem F21_wp (h : F21_den t0 t1 w R) : callD prog 21 #[t0, t1] w R :=
  den_wp mixed F21_ann func21 (by kernel_rfl) (by kernel_rfl) h
def F22_ann : Ann := (q (q .leaf))
def F22_den (t0 : Value) (w : World) (R : Value → World → Prop) : Prop :=
 V prog (box 74 t0) w fun t1 w =>
 V prog (loadAt 74 t1) w fun t3 w =>
 callD prog 23 #[t3] w fun t4 w =>
 V prog (Op.unary UnOp.not t4) w fun t5 w =>
 R t5 w
theorem F22_wp (h : F22_den t0 w R) : callD prog 22 #[t0] w R :=
  den_wp mixed F22_ann func22 (by kernel_rfl) (by kernel_rfl) h
def F23_ann : Ann := (q (.seq (q (.block (q (.cond (q .leaf) (q (.cond (q .leaf) (q (.cond (q .leaf) (q (.cond (q .leaf) .leaf)))))))))) (q .leaf)))
def F23_den (t0 : Value) (w : World) (R : Value → World → Prop) : Prop :=
 V prog (box 74 t0) w fun t1 w =>
 V prog (fieldAt 74 t1 0) w fun t3 w =>
 V prog (loadAt 3 t3) w fun t4 w =>
 V prog (do eqGuard .eql 3 (.tmp 4) (.const (i64 1)) t4 (i64 1); binOp .eql 3 t4 (i64 1)) w fun t6 w4 =>
 ifD t6 (
 V prog (loadAt 74 t1) w4 fun t7 w =>
 V prog (fieldAt 74 t1 1) w fun t8 w =>
 V prog (loadAt 72 t8) w fun t9 w =>
 V prog (build 74 #[(0, (i64 1)), (1, t9)]) w fun t10 w =>
 V prog (do eqGuard .eql 74 (.tmp 7) (.tmp 10) t7 t10; binOp .eql 74 t7 t10) w fun t11 w =>
 gd t11 true (fun K => V prog (fieldAt 74 t1 1) w K) w fun t13 w =>
 gd t11 true (fun K => V prog (loadAt 72 t13) w K) w fun t14 w =>
 gd t11 true (fun K => callD prog 54 #[t14] w K) w fun t15 w =>
 pickD t11 t15 (.bool false) fun t16 =>
 gd t16 true (fun K => V prog (fieldAt 74 t1 1) w K) w fun t18 w =>
 gd t16 true (fun K => V prog (loadAt 72 t18) w K) w fun t19 w =>
 gd t16 true (fun K => callD prog 55 #[t19] w K) w fun t20 w =>
 pickD t16 t20 (.bool false) fun t21 =>
 R t21 w) (
 V prog (do eqGuard .eql 3 (.tmp 4) (.const (i64 2)) t4 (i64 2); binOp .eql 3 t4 (i64 2)) w4 fun t23 w18 =>
 ifD t23 (
 V prog (loadAt 74 t1) w18 fun t24 w =>
 V prog (fieldAt 74 t1 2) w fun t25 w =>
 V prog (loadAt 3 t25) w fun t26 w =>
 V prog (build 74 #[(0, (i64 2)), (2, t26)]) w fun t27 w =>
 V prog (do eqGuard .eql 74 (.tmp 24) (.tmp 27) t24 t27; binOp .eql 74 t24 t27) w fun t28 w =>
 gd t28 true (fun K => V prog (fieldAt 74 t1 2) w K) w fun t30 w =>
 gd t28 true (fun K => V prog (loadAt 3 t30) w K) w fun t31 w =>
 gd t28 true (fun K => V prog (binOp .geq 3 t31 (i64 0)) w K) w fun t32 w =>
 pickD t28 t32 (.bool false) fun t33 =>
 gd t33 true (fun K => V prog (fieldAt 74 t1 2) w K) w fun t35 w =>
 gd t33 true (fun K => V prog (loadAt 3 t35) w K) w fun t36 w =>
 gd t33 true (fun K => V prog (binOp .leq 3 t36 (i64 2000)) w K) w fun t37 w =>
 pickD t33 t37 (.bool false) fun t38 =>
 R t38 w) (
 V prog (do eqGuard .eql 3 (.tmp 4) (.const (i64 3)) t4 (i64 3); binOp .eql 3 t4 (i64 3)) w18 fun t40 w32 =>
 ifD t40 (
 V prog (loadAt 74 t1) w32 fun t41 w =>
 V prog (fieldAt 74 t1 2) w fun t42 w =>
 V prog (loadAt 3 t42) w fun t43 w =>
 V prog (fieldAt 74 t1 3) w fun t44 w =>
 V prog (loadAt 3 t44) w fun t45 w =>
 V prog (build 74 #[(0, (i64 3)), (2, t43), (3, t45)]) w fun t46 w =>
 V prog (do eqGuard .eql 74 (.tmp 41) (.tmp 46) t41 t46; binOp .eql 74 t41 t46) w fun t47 w =>
 gd t47 true (fun K => V prog (fieldAt 74 t1 2) w K) w fun t49 w =>
 gd t47 true (fun K => V prog (loadAt 3 t49) w K) w fun t50 w =>
 gd t47 true (fun K => V prog (binOp .geq 3 t50 (i64 0)) w K) w fun t51 w =>
 pickD t47 t51 (.bool false) fun t52 =>
 gd t52 true (fun K => V prog (fieldAt 74 t1 2) w K) w fun t54 w =>
 gd t52 true (fun K => V prog (loadAt 3 t54) w K) w fun t55 w =>
 gd t52 true (fun K => V prog (binOp .leq 3 t55 (i64 2000)) w K) w fun t56 w =>
 pickD t52 t56 (.bool false) fun t57 =>
 gd t57 true (fun K => V prog (fieldAt 74 t1 3) w K) w fun t59 w =>
 gd t57 true (fun K => V prog (loadAt 3 t59) w K) w fun t60 w =>
 gd t57 true (fun K => V prog (binOp .geq 3 t60 (i64 0)) w K) w fun t61 w =>
 pickD t57 t61 (.bool false) fun t62 =>
 gd t62 true (fun K => V prog (fieldAt 74 t1 3) w K) w fun t64 w =>
 gd t62 true (fun K => V prog (loadAt 3 t64) w K) w fun t65 w =>
 gd t62 true (fun K => V prog (binOp .leq 3 t65 (i64 14)) w K) w fun t66 w =>
 pickD t62 t66 (.bool false) fun t67 =>
 R t67 w) (
 V prog (do eqGuard .eql 3 (.tmp 4) (.const (i64 4)) t4 (i64 4); binOp .eql 3 t4 (i64 4)) w32 fun t69 w56 =>
 ifD t69 (
 V prog (loadAt 74 t1) w56 fun t70 w =>
 V prog (fieldAt 74 t1 4) w fun t71 w =>
 V prog (loadAt 3 t71) w fun t72 w =>
 V prog (fieldAt 74 t1 5) w fun t73 w =>
 V prog (loadAt 21 t73) w fun t74 w =>
 V prog (build 74 #[(0, (i64 4)), (4, t72), (5, t74)]) w fun t75 w =>
 V prog (do eqGuard .eql 74 (.tmp 70) (.tmp 75) t70 t75; binOp .eql 74 t70 t75) w fun t76 w =>
 gd t76 true (fun K => V prog (fieldAt 74 t1 4) w K) w fun t78 w =>
 gd t76 true (fun K => V prog (loadAt 3 t78) w K) w fun t79 w =>
 gd t76 true (fun K => V prog (binOp .geq 3 t79 (i64 0)) w K) w fun t80 w =>
 pickD t76 t80 (.bool false) fun t81 =>
 gd t81 true (fun K => V prog (fieldAt 74 t1 4) w K) w fun t83 w =>
 gd t81 true (fun K => V prog (loadAt 3 t83) w K) w fun t84 w =>
 gd t81 true (fun K => V prog (binOp .lss 3 t84 (i64 8)) w K) w fun t85 w =>
 pickD t81 t85 (.bool false) fun t86 =>
 R t86 w) (
 R (.bool false) w56))))
theorem F23_wp (h : F23_den t0 w R) : callD prog 23 #[t0] w R :=
  den_wp mixed F23_ann func23 (by kernel_rfl) (by kernel_rfl) h
def F24_ann : Ann := (q (.seq (q (.cond (q .leaf) .leaf)) (q .leaf)))
def F24_den (t0 : Value) (w : World) (R : Value → World → Prop) : Prop :=
 V prog (box 40 t0) w fun t1 w =>
 V prog (loadAt 40 t1) w fun t3 w =>
 callD prog 29 #[t3] w fun t4 w =>
 V prog (binOp .lss 3 t4 (i64 0)) w fun t5 w =>
 ifD t5 (
 R (i64 (-1)) w) (
 V prog (fieldAt 40 t1 1) w fun t6 w =>
 V prog (loadAt 3 t6) w fun t7 w =>
 R t7 w)
theorem F24_wp (h : F24_den t0 w R) : callD prog 24 #[t0] w R :=
  den_wp mixed F24_ann func24 (by kernel_rfl) (by kernel_rfl) h
def F25_ann : Ann := (q (.seq (q (.cond (q .leaf) .leaf)) (.seq (q (.block (.loop ([4, 5] ++ rg 11 25) [5] (.seq (q (.cond .leaf .leaf)) (.seq (.block (.seq (.draw [0, 0, 3, 4, 0, 0, 48, 64, 136] [0, 0, 3, 4, 0, 0, 48, 64, 136] 0 9 511 (tk (rg 0 8) .done)) (.cond (q .leaf) .leaf))) .leaf))))) (q .leaf))))
def F25_den (t0 t1 : Value) (w : World) (R : Value → World → Prop) : Prop :=
 V prog (Builtin.len_ #[27] 3 #[t0]) w fun t7 w =>
 V prog (Builtin.len_ #[27] 3 #[t1]) w fun t9 w =>
 V prog (do eqGuard .neq 3 (.tmp 7) (.tmp 9) t7 t9; binOp .neq 3 t7 t9) w fun t10 w =>
 ifD t10 (
 R (.bool false) w) (
 ∃ (I1 : NP 1) (μ1 : NF 1), I1 (i64 0) w ∧
 ∀ (t5 : Value), ∀ w4 : World, I1 t5 w4 → ∀ _f : Env,
 V prog (Builtin.len_ #[27] 3 #[t0]) w4 fun t13 w =>
 V prog (binOp .lss 3 t5 t13) w fun t14 w6 =>
 ifD t14 (
 drawD w6 fun S6 w =>
 yieldS prog S6 (indexAt 27 t0 t5) fun t19 =>
 yieldS prog S6 (loadAt 3 t19) fun t20 =>
 yieldS prog S6 (indexAt 27 t1 t5) fun t23 =>
 yieldS prog S6 (loadAt 3 t23) fun t24 =>
 yieldS prog S6 (do eqGuard .neq 3 (.tmp 20) (.tmp 24) t20 t24; binOp .neq 3 t20 t24) fun t25 =>
 ifD t25 (
 R (.bool false) w) (
 V prog (binOp .add 3 t5 (i64 1)) w fun t16 w =>
 I1 t16 w ∧ μ1 t16 w < μ1 t5 w4)) (
 R (.bool true) w6))
theorem F25_wp (h : F25_den t0 t1 w R) : callD prog 25 #[t0, t1] w R :=
  den_wp mixed F25_ann func25 (by kernel_rfl) (by kernel_rfl) h
def F26_ann : Ann := (q (q (.seq (q (.cond .leaf .leaf)) (q .leaf))))
def F26_den (t0 t1 : Value) (w : World) (R : Value → World → Prop) : Prop :=
 V prog (binOp .rem 3 t0 t1) w fun t7 w =>
 V prog (binOp .lss 3 t7 (i64 0)) w fun t9 w2 =>
 ifD t9 (
 V prog (binOp .add 3 t7 t1) w2 fun t12 w =>
 R t12 w) (
 R t7 w2)
theorem F26_wp (h : F26_den t0 t1 w R) : callD prog 26 #[t0, t1] w R :=
  den_wp mixed F26_ann func26 (by kernel_rfl) (by kernel_rfl) h
def F27_ann : Ann := (q (q (q (.join ([8] ++ rg 27 31) [8] (q (.cond .leaf .leaf)) (q (.seq (q (.block (.loop ([9, 10] ++ rg 32 52) [9, 10] (.seq (q (.cond .leaf .leaf)) (.seq (.block .leaf) .leaf))))) (q (.seq (q (.block (.join [60, 61, 62] [60] (q (.cond .leaf .leaf)) (.cond (q .leaf) (q (.cond (q .leaf) (.join (rg 78 81) [78] (q (.cond .leaf (q (.cond .leaf .leaf)))) (.cond (q (.join ([12] ++ rg 87 93) [12] (q (.cond .leaf .leaf)) (.seq (.draw [0, 0, 0, 0, 8, 20, 0, 0, 128, 352, 547, 1024, 4095] [0, 0, 0, 0, 8, 20, 0, 0, 128, 320, 547, 1024, 2048] 0 13 8191 (tk (rg 0 4 ++ [6, 7, 8]) (.only 5 (.only 9 (tk [10, 11, 12] .done))))) .leaf))) (q (.cond (.seq (.draw [0, 0, 2, 4, 9, 0, 0, 0, 128, 328, 560, 1024, 4095] [0, 0, 2, 4, 9, 0, 0, 0, 128, 320, 560, 1024, 2048] 0 13 8191 (tk ([0, 1, 2] ++ rg 5 8) (.only 3 (.take 4 (.only 9 (tk [10, 11, 12] .done)))))) .leaf) (q (.cond (.seq (.draw [0, 0, 0, 4, 10, 0, 0, 64, 176, 0, 0, 1024, 2816, 4369, 8192, 32767] [0, 0, 0, 4, 10, 0, 0, 64, 160, 0, 0, 1024, 2560, 4369, 8192, 16384] 0 16 65535 (tk (rg 0 3 ++ [5, 6, 7, 9, 10, 11]) (.only 4 (.only 8 (.only 12 (tk [13, 14, 15] .done)))))) .leaf) (.join [137, 138, 139] [137] (q (.cond .leaf .leaf)) (.cond (q .leaf) (q (.cond (q .leaf) (.join [147, 148, 149] [147] (q (.cond .leaf .leaf)) (.cond (q .leaf) (q (.cond (q .leaf) (q (.cond (.seq (.draw [0, 1, 2, 0, 0, 16, 44, 68, 128, 511] [0, 1, 2, 0, 0, 16, 40, 68, 128, 256] 0 10 1023 (tk [0, 1, 3, 4, 5] (.only 2 (.only 6 (tk [7, 8, 9] .done))))) .leaf) (q (.cond (q (q (q (q (.seq (q (.block (.loop ([16, 17] ++ rg 185 199) [16, 17] (.seq (q (.cond .leaf .leaf)) (.seq (.block .leaf) .leaf))))) (.join ([16] ++ rg 200 204) [16] (q (.cond .leaf .leaf)) (q (.join ([18] ++ rg 206 209) [18] (q (.cond .leaf .leaf)) (.seq (.draw [0, 1, 2, 0, 8, 16, 0, 0, 228, 256, 1023] [0, 1, 2, 0, 8, 16, 0, 0, 228, 256, 512] 0 11 2047 (tk (rg 0 4 ++ [6, 7]) (.only 5 (tk [8, 9, 10] .done)))) .leaf))))))))) (q (.cond (q (.join ([19] ++ rg 223 226) [19] (q (.cond .leaf .leaf)) (q (.seq (q (.cond (q .leaf) .leaf)) (q .leaf))))) .leaf)))))))))))))))))))))))))) (.seq (q (.cond (q .leaf) .leaf)) (q .leaf))))))))))
def F27_den (t0 t1 t2 : Value) (w : World) (R : Value → World → Prop) : Prop :=
 V prog (box 106 t0) w fun t3 w =>
 V prog (box 3 t1) w fun t4 w =>
 V prog (makeFunc (Fn.func 56) #[] #[t4]) w fun t21 w =>
 V prog (fieldAt 106 t3 7) w fun t22 w =>
 V prog (loadAt 3 t22) w fun t23 w =>
 V prog (Builtin.max_ #[3, 3] 3 #[(i64 1), t2]) w fun t25 w =>
 callD prog 26 #[t23, t25] w fun t26 w =>
 ∃ J1 : NP 1,
 (V prog (fieldAt 106 t3 7) w fun t27 w =>
 V prog (loadAt 3 t27) w fun t28 w =>
 V prog (binOp .rem 3 t28 (i64 97)) w fun t29 w =>
 V prog (do eqGuard .eql 3 (.tmp 29) (.const (i64 96)) t29 (i64 96); binOp .eql 3 t29 (i64 96)) w fun t30 w =>
 ifD t30 (
 J1 t2 w) (
 J1 t26 w)) ∧
 ∀ (t8 : Value), ∀ w : World, J1 t8 w → ∀ _f : Env,
 ∃ (I2 : NP 2) (μ2 : NF 2), I2 nilS (i64 0) w ∧
 ∀ (t9 : Value) (t10 : Value), ∀ w13 : World, I2 t9 t10 w13 → ∀ _f : Env,
 V prog (fieldAt 106 t3 8) w13 fun t33 w =>
 V prog (loadAt 27 t33) w fun t34 w =>
 V prog (Builtin.len_ #[27] 3 #[t34]) w fun t35 w =>
 V prog (binOp .lss 3 t10 t35) w fun t36 w =>
 gd t36 true (fun K => K t10 w) w fun t38 w =>
 gd t36 true (fun K => V prog (binOp .lss 3 t38 (i64 6)) w K) w fun t39 w19 =>
 pickD t36 t39 (.bool false) fun t40 =>
 ifD t40 (
 V prog (fieldAt 106 t3 8) w19 fun t45 w =>
 V prog (loadAt 27 t45) w fun t46 w =>
 V prog (indexAt 27 t46 t10) w fun t48 w =>
 V prog (loadAt 3 t48) w fun t49 w =>
 dynD prog t21 #[t49] w fun t50 w =>
 V prog (buildSlice 27 1 #[(0, t50)]) w fun t51 w =>
 V prog (Builtin.append_ #[27, 27] 27 #[t9, t51]) w fun t52 w =>
 V prog (binOp .add 3 t10 (i64 1)) w fun t42 w =>
 I2 t52 t42 w ∧ μ2 t52 t42 w < μ2 t9 t10 w13) (
 V prog (fieldAt 106 t3 1) w19 fun t54 w =>
 V prog (loadAt 3 t54) w fun t55 w =>
 dynD prog t21 #[t55] w fun t56 w =>
 V prog (fieldAt 106 t3 0) w fun t57 w =>
 V prog (loadAt 3 t57) w fun t58 w =>
 callD prog 26 #[t58, (i64 18)] w fun t59 w =>
 ∃ J3 : NP 1,
 (V prog (do eqGuard .eql 3 (.tmp 59) (.const (i64 0)) t59 (i64 0); binOp .eql 3 t59 (i64 0)) w fun t61 w =>
 ifD t61 (
 J3 t61 w) (
 V prog (do eqGuard .eql 3 (.tmp 59) (.const (i64 1)) t59 (i64 1); binOp .eql 3 t59 (i64 1)) w fun t62 w =>
 J3 t62 w)) ∧
 ∀ (t60 : Value), ∀ w37 : World, J3 t60 w37 → ∀ _f : Env,
 ifD t60 (
 V prog (fieldAt 106 t3 3) w37 fun t64 w =>
 V prog (loadAt 3 t64) w fun t65 w =>
 V prog (convert 3 21 t65) w fun t66 w =>
 V prog (build 78 #[(0, t56), (1, t66)]) w fun t67 w =>
 V prog (makeInterface 78 t67) w fun t68 w =>
 R t68 w) (
 V prog (do eqGuard .eql 3 (.tmp 59) (.const (i64 2)) t59 (i64 2); binOp .eql 3 t59 (i64 2)) w37 fun t70 w43 =>
 ifD t70 (
 V prog (fieldAt 106 t3 4) w43 fun t73 w =>
 V prog (loadAt 3 t73) w fun t74 w =>
 dynD prog t21 #[t74] w fun t75 w =>
 V prog (build 80 #[(0, t56), (1, t75)]) w fun t76 w =>
 V prog (makeInterface 80 t76) w fun t77 w =>
 R t77 w) (
 ∃ J4 : NP 1,
 (V prog (do eqGuard .eql 3 (.tmp 59) (.const (i64 3)) t59 (i64 3); binOp .eql 3 t59 (i64 3)) w43 fun t79 w =>
 ifD t79 (
 J4 t79 w) (
 V prog (do eqGuard .eql 3 (.tmp 59) (.const (i64 4)) t59 (i64 4); binOp .eql 3 t59 (i64 4)) w fun t80 w =>
 ifD t80 (
 J4 t80 w) (
 V prog (do eqGuard .eql 3 (.tmp 59) (.const (i64 5)) t59 (i64 5); binOp .eql 3 t59 (i64 5)) w fun t81 w =>
 J4 t81 w))) ∧
 ∀ (t78 : Value), ∀ w52 : World, J4 t78 w52 → ∀ _f : Env,
 ifD t78 (
 V prog (fieldAt 106 t3 2) w52 fun t82 w =>
 V prog (loadAt 3 t82) w fun t83 w =>
 callD prog 26 #[t83, (i64 12)] w fun t84 w =>
 V prog (indexAt 126 (Value.pointer (some ⟨0, 0, none⟩)) t84) w fun t85 w =>
 V prog (loadAt 3 t85) w fun t86 w =>
 ∃ J5 : NP 1,
 (V prog (fieldAt 106 t3 2) w fun t87 w =>
 V prog (loadAt 3 t87) w fun t88 w =>
 V prog (binOp .rem 3 t88 (i64 83)) w fun t89 w =>
 V prog (do eqGuard .eql 3 (.tmp 89) (.const (i64 82)) t89 (i64 82); binOp .eql 3 t89 (i64 82)) w fun t90 w61 =>
 ifD t90 (
 V prog (fieldAt 106 t3 2) w61 fun t91 w =>
 V prog (loadAt 3 t91) w fun t92 w =>
 callD prog 26 #[t92, (i64 45)] w fun t93 w =>
 J5 t93 w) (
 J5 t86 w61)) ∧
 ∀ (t12 : Value), ∀ w : World, J5 t12 w → ∀ _f : Env,
 drawD w fun S23 w =>
 yieldS prog S23 (fieldAt 106 t3 4) fun t97 =>
 yieldS prog S23 (loadAt 3 t97) fun t98 =>
 yieldS prog S23 (fieldAt 106 t3 5) fun t101 =>
 yieldS prog S23 (loadAt 3 t101) fun t102 =>
 dynD prog t21 #[t98] w fun t99 w =>
 S23 w ∧
 dynD prog t21 #[t102] w fun t103 w =>
 S23 w ∧
 yieldS prog S23 (build 82 #[(0, t12), (1, t56), (2, t99), (3, t103)]) fun t104 =>
 yieldS prog S23 (makeInterface 82 t104) fun t105 =>
 R t105 w) (
 V prog (do eqGuard .eql 3 (.tmp 59) (.const (i64 6)) t59 (i64 6); binOp .eql 3 t59 (i64 6)) w52 fun t107 w69 =>
 ifD t107 (
 drawD w69 fun S25 w =>
 yieldS prog S25 (build 127 #[(0, (i64 15)), (1, (i64 16)), (2, (i64 26))]) fun t108 =>
 yieldS prog S25 (fieldAt 106 t3 2) fun t109 =>
 yieldS prog S25 (loadAt 3 t109) fun t110 =>
 yieldS prog S25 (fieldAt 106 t3 4) fun t115 =>
 yieldS prog S25 (loadAt 3 t115) fun t116 =>
 callD prog 26 #[t110, (i64 3)] w fun t111 w =>
 S25 w ∧
 yieldS prog S25 (index 127 t108 t111) fun t112 =>
 dynD prog t21 #[t116] w fun t117 w =>
 S25 w ∧
 yieldS prog S25 (build 84 #[(0, t112), (1, t56), (2, t117)]) fun t118 =>
 yieldS prog S25 (makeInterface 84 t118) fun t119 =>
 R t119 w) (
 V prog (do eqGuard .eql 3 (.tmp 59) (.const (i64 7)) t59 (i64 7); binOp .eql 3 t59 (i64 7)) w69 fun t121 w73 =>
 ifD t121 (
 drawD w73 fun S27 w =>
 yieldS prog S27 (fieldAt 106 t3 6) fun t124 =>
 yieldS prog S27 (loadAt 3 t124) fun t125 =>
 yieldS prog S27 (fieldAt 106 t3 4) fun t128 =>
 yieldS prog S27 (loadAt 3 t128) fun t129 =>
 yieldS prog S27 (fieldAt 106 t3 5) fun t132 =>
 yieldS prog S27 (loadAt 3 t132) fun t133 =>
 dynD prog t21 #[t125] w fun t126 w =>
 S27 w ∧
 dynD prog t21 #[t129] w fun t130 w =>
 S27 w ∧
 dynD prog t21 #[t133] w fun t134 w =>
 S27 w ∧
 yieldS prog S27 (build 86 #[(0, t56), (1, t126), (2, t130), (3, t134)]) fun t135 =>
 yieldS prog S27 (makeInterface 86 t135) fun t136 =>
 R t136 w) (
 ∃ J6 : NP 1,
 (V prog (do eqGuard .eql 3 (.tmp 59) (.const (i64 8)) t59 (i64 8); binOp .eql 3 t59 (i64 8)) w73 fun t138 w =>
 ifD t138 (
 J6 t138 w) (
 V prog (do eqGuard .eql 3 (.tmp 59) (.const (i64 9)) t59 (i64 9); binOp .eql 3 t59 (i64 9)) w fun t139 w =>
 J6 t139 w)) ∧
 ∀ (t137 : Value), ∀ w80 : World, J6 t137 w80 → ∀ _f : Env,
 ifD t137 (
 V prog (build 47 #[]) w80 fun t140 w =>
 V prog (makeInterface 47 t140) w fun t141 w =>
 R t141 w) (
 V prog (do eqGuard .eql 3 (.tmp 59) (.const (i64 10)) t59 (i64 10); binOp .eql 3 t59 (i64 10)) w80 fun t143 w83 =>
 ifD t143 (
 V prog (build 88 #[(0, t8)]) w83 fun t145 w =>
 V prog (makeInterface 88 t145) w fun t146 w =>
 R t146 w) (
 ∃ J7 : NP 1,
 (V prog (do eqGuard .eql 3 (.tmp 59) (.const (i64 11)) t59 (i64 11); binOp .eql 3 t59 (i64 11)) w83 fun t148 w =>
 ifD t148 (
 J7 t148 w) (
 V prog (do eqGuard .eql 3 (.tmp 59) (.const (i64 12)) t59 (i64 12); binOp .eql 3 t59 (i64 12)) w fun t149 w =>
 J7 t149 w)) ∧
 ∀ (t147 : Value), ∀ w88 : World, J7 t147 w88 → ∀ _f : Env,
 ifD t147 (
 V prog (fieldAt 106 t3 6) w88 fun t151 w =>
 V prog (loadAt 3 t151) w fun t152 w =>
 dynD prog t21 #[t152] w fun t153 w =>
 V prog (build 90 #[(0, t153), (1, t8)]) w fun t155 w =>
 V prog (makeInterface 90 t155) w fun t156 w =>
 R t156 w) (
 V prog (do eqGuard .eql 3 (.tmp 59) (.const (i64 13)) t59 (i64 13); binOp .eql 3 t59 (i64 13)) w88 fun t158 w94 =>
 ifD t158 (
 V prog (fieldAt 106 t3 3) w94 fun t160 w =>
 V prog (loadAt 3 t160) w fun t161 w =>
 callD prog 26 #[t161, (i64 9)] w fun t162 w =>
 V prog (build 92 #[(0, t56), (1, t162)]) w fun t163 w =>
 V prog (makeInterface 92 t163) w fun t164 w =>
 R t164 w) (
 V prog (do eqGuard .eql 3 (.tmp 59) (.const (i64 14)) t59 (i64 14); binOp .eql 3 t59 (i64 14)) w94 fun t166 w100 =>
 ifD t166 (
 drawD w100 fun S39 w =>
 yieldS prog S39 (fieldAt 106 t3 3) fun t167 =>
 yieldS prog S39 (loadAt 3 t167) fun t168 =>
 yieldS prog S39 (fieldAt 106 t3 4) fun t171 =>
 yieldS prog S39 (loadAt 3 t171) fun t172 =>
 callD prog 26 #[t168, (i64 8)] w fun t169 w =>
 S39 w ∧
 dynD prog t21 #[t172] w fun t173 w =>
 S39 w ∧
 yieldS prog S39 (build 94 #[(0, t169), (1, t173)]) fun t174 =>
 yieldS prog S39 (makeInterface 94 t174) fun t175 =>
 R t175 w) (
 V prog (do eqGuard .eql 3 (.tmp 59) (.const (i64 15)) t59 (i64 15); binOp .eql 3 t59 (i64 15)) w100 fun t177 w104 =>
 ifD t177 (
 V prog (build 128 #[(0, (i64 17)), (1, (i64 18)), (2, (i64 27)), (3, (i64 28)), (4, (i64 29)), (5, (i64 30)), (6, (i64 31)), (7, (i64 32)), (8, (i64 36)), (9, (i64 6))]) w104 fun t178 w =>
 V prog (alloc 128 true (.tuple #[])) w fun t13 w =>
 U prog (storeAt 128 t13 t178) w fun _ w =>
 V prog (fieldAt 106 t3 2) w fun t179 w =>
 V prog (loadAt 3 t179) w fun t180 w =>
 callD prog 26 #[t180, (i64 10)] w fun t181 w =>
 V prog (build 128 #[(0, (i64 2)), (1, (i64 2)), (2, (i64 1)), (3, (i64 1)), (4, (i64 2)), (5, (i64 3)), (6, (i64 5)), (7, (i64 5)), (8, (i64 3)), (9, (i64 2))]) w fun t182 w =>
 V prog (index 128 t182 t181) w fun t184 w =>
 ∃ (I8 : NP 2) (μ8 : NF 2), I8 nilS (i64 0) w ∧
 ∀ (t16 : Value) (t17 : Value), ∀ w113 : World, I8 t16 t17 w113 → ∀ _f : Env,
 V prog (binOp .lss 3 t17 t184) w113 fun t187 w114 =>
 ifD t187 (
 V prog (fieldAt 106 t3 4) w114 fun t192 w =>
 V prog (loadAt 3 t192) w fun t193 w =>
 V prog (binOp .mul 3 (i64 7) t17) w fun t195 w =>
 V prog (binOp .add 3 t193 t195) w fun t196 w =>
 dynD prog t21 #[t196] w fun t197 w =>
 V prog (buildSlice 27 1 #[(0, t197)]) w fun t198 w =>
 V prog (Builtin.append_ #[27, 27] 27 #[t16, t198]) w fun t199 w =>
 V prog (binOp .add 3 t17 (i64 1)) w fun t189 w =>
 I8 t199 t189 w ∧ μ8 t199 t189 w < μ8 t16 t17 w113) (
 ∃ J9 : NP 1,
 (V prog (fieldAt 106 t3 5) w114 fun t200 w =>
 V prog (loadAt 3 t200) w fun t201 w =>
 V prog (binOp .rem 3 t201 (i64 13)) w fun t202 w =>
 V prog (do eqGuard .eql 3 (.tmp 202) (.const (i64 12)) t202 (i64 12); binOp .eql 3 t202 (i64 12)) w fun t203 w =>
 ifD t203 (
 J9 t9 w) (
 J9 t16 w)) ∧
 ∀ (t16_1 : Value), ∀ w : World, J9 t16_1 w → ∀ _f : Env,
 ∃ J10 : NP 1,
 (V prog (fieldAt 106 t3 6) w fun t206 w =>
 V prog (loadAt 3 t206) w fun t207 w =>
 V prog (binOp .rem 3 t207 (i64 3)) w fun t208 w =>
 V prog (do eqGuard .eql 3 (.tmp 208) (.const (i64 0)) t208 (i64 0); binOp .eql 3 t208 (i64 0)) w fun t209 w =>
 ifD t209 (
 J10 (i64 (-1)) w) (
 J10 t56 w)) ∧
 ∀ (t18 : Value), ∀ w : World, J10 t18 w → ∀ _f : Env,
 drawD w fun S54 w =>
 yieldS prog S54 (indexAt 128 t13 t181) fun t211 =>
 yieldS prog S54 (loadAt 3 t211) fun t212 =>
 yieldS prog S54 (fieldAt 106 t3 5) fun t213 =>
 yieldS prog S54 (loadAt 3 t213) fun t214 =>
 callD prog 26 #[t214, (i64 7)] w fun t215 w =>
 S54 w ∧
 yieldS prog S54 (build 96 #[(0, t212), (1, (i64 3)), (2, t215), (3, t18), (4, t16_1)]) fun t218 =>
 yieldS prog S54 (makeInterface 96 t218) fun t219 =>
 R t219 w)) (
 V prog (do eqGuard .eql 3 (.tmp 59) (.const (i64 16)) t59 (i64 16); binOp .eql 3 t59 (i64 16)) w104 fun t221 w135 =>
 ifD t221 (
 ∃ J11 : NP 1,
 (V prog (fieldAt 106 t3 6) w135 fun t223 w =>
 V prog (loadAt 3 t223) w fun t224 w =>
 V prog (binOp .rem 3 t224 (i64 3)) w fun t225 w =>
 V prog (do eqGuard .eql 3 (.tmp 225) (.const (i64 0)) t225 (i64 0); binOp .eql 3 t225 (i64 0)) w fun t226 w =>
 ifD t226 (
 J11 (i64 (-1)) w) (
 J11 t56 w)) ∧
 ∀ (t19 : Value), ∀ w : World, J11 t19 w → ∀ _f : Env,
 V prog (Builtin.len_ #[27] 3 #[t9]) w fun t229 w =>
 V prog (Builtin.min_ #[3, 3] 3 #[t229, (i64 4)]) w fun t230 w =>
 V prog (sliceAt 27 t9 none (some t230) none) w fun t231 w =>
 V prog (fieldAt 106 t3 4) w fun t232 w =>
 V prog (loadAt 3 t232) w fun t233 w =>
 V prog (binOp .rem 3 t233 (i64 2)) w fun t234 w =>
 V prog (do eqGuard .eql 3 (.tmp 234) (.const (i64 0)) t234 (i64 0); binOp .eql 3 t234 (i64 0)) w fun t235 w147 =>
 ifD t235 (
 V prog (fieldAt 106 t3 3) w147 fun t236 w =>
 V prog (loadAt 3 t236) w fun t237 w =>
 callD prog 26 #[t237, (i64 9)] w fun t238 w =>
 V prog (build 98 #[(0, t238), (1, t19), (2, t231)]) w fun t241 w =>
 V prog (makeInterface 98 t241) w fun t242 w =>
 R t242 w) (
 V prog (fieldAt 106 t3 3) w147 fun t243 w =>
 V prog (loadAt 3 t243) w fun t244 w =>
 callD prog 26 #[t244, (i64 5)] w fun t245 w =>
 V prog (build 100 #[(0, t245), (1, t19), (2, t231)]) w fun t248 w =>
 V prog (makeInterface 100 t248) w fun t249 w =>
 R t249 w)) (
 V prog (fieldAt 106 t3 4) w135 fun t250 w =>
 V prog (loadAt 3 t250) w fun t251 w =>
 V prog (binOp .rem 3 t251 (i64 3)) w fun t252 w =>
 V prog (do eqGuard .eql 3 (.tmp 252) (.const (i64 0)) t252 (i64 0); binOp .eql 3 t252 (i64 0)) w fun t253 w161 =>
 ifD t253 (
 V prog (build 49 #[(0, (i64 (-1)))]) w161 fun t254 w =>
 V prog (makeInterface 49 t254) w fun t255 w =>
 R t255 w) (
 V prog (fieldAt 106 t3 4) w161 fun t257 w =>
 V prog (loadAt 3 t257) w fun t258 w =>
 dynD prog t21 #[t258] w fun t259 w =>
 V prog (build 49 #[(0, t259)]) w fun t260 w =>
 V prog (makeInterface 49 t260) w fun t261 w =>
 R t261 w))))))))))))))
theorem F27_wp (h : F27_den t0 t1 t2 w R) : callD prog 27 #[t0, t1, t2] w R :=
  den_wp mixed F27_ann func27 (by kernel_rfl) (by kernel_rfl) h
def F28_ann : Ann := (q (q (q (.join (rg 3 124) [3, 4] (q (.block (.join (rg 7 10) [7] (q (.cond .leaf (q (.cond .leaf .leaf)))) (.cond .leaf (q (.cond .leaf (q (.cond (q .leaf) (q (.cond (q .leaf) (q (.cond .leaf (q (.cond .leaf (q (.cond .leaf (q (.cond (q .leaf) (q (.cond (q .leaf) (q (.cond (q .leaf) (q (.cond (q .leaf) (q (.cond (q .leaf) .leaf)))))))))))))))))))))))))) (q .leaf)))))
def F28_den (t0 : Value) (w : World) (R : Value → World → Prop) : Prop :=
 V prog (box 40 t0) w fun t1 w =>
 ∃ J1 : NP 2,
 (V prog (fieldAt 40 t1 0) w fun t5 w =>
 V prog (loadAt 3 t5) w fun t6 w =>
 ∃ J2 : NP 1,
 (V prog (do eqGuard .eql 3 (.tmp 6) (.const (i64 1)) t6 (i64 1); binOp .eql 3 t6 (i64 1)) w fun t8 w =>
 ifD t8 (
 J2 t8 w) (
 V prog (do eqGuard .eql 3 (.tmp 6) (.const (i64 6)) t6 (i64 6); binOp .eql 3 t6 (i64 6)) w fun t9 w =>
 ifD t9 (
 J2 t9 w) (
 V prog (do eqGuard .eql 3 (.tmp 6) (.const (i64 7)) t6 (i64 7); binOp .eql 3 t6 (i64 7)) w fun t10 w =>
 J2 t10 w))) ∧
 ∀ (t7 : Value), ∀ w : World, J2 t7 w → ∀ _f : Env,
 ifD t7 (
 J1 (i64 0) (.bool true) w) (
 V prog (do eqGuard .eql 3 (.tmp 6) (.const (i64 2)) t6 (i64 2); binOp .eql 3 t6 (i64 2)) w fun t12 w =>
 ifD t12 (
 J1 (i64 1) (.bool true) w) (
 V prog (do eqGuard .eql 3 (.tmp 6) (.const (i64 3)) t6 (i64 3); binOp .eql 3 t6 (i64 3)) w fun t14 w9 =>
 ifD t14 (
 V prog (fieldAt 40 t1 2) w9 fun t15 w =>
 V prog (loadAt 3 t15) w fun t16 w =>
 V prog (binOp .geq 3 t16 (i64 6)) w fun t17 w =>
 gd t17 true (fun K => V prog (fieldAt 40 t1 2) w K) w fun t19 w =>
 gd t17 true (fun K => V prog (loadAt 3 t19) w K) w fun t20 w =>
 gd t17 true (fun K => V prog (binOp .leq 3 t20 (i64 14)) w K) w fun t21 w =>
 pickD t17 t21 (.bool false) fun t22 =>
 gd t22 false (fun K => V prog (fieldAt 40 t1 2) w K) w fun t24 w =>
 gd t22 false (fun K => V prog (loadAt 3 t24) w K) w fun t25 w =>
 gd t22 false (fun K => V prog (do eqGuard .eql 3 (.tmp 25) (.const (i64 19)) t25 (i64 19); binOp .eql 3 t25 (i64 19)) w K) w fun t26 w =>
 pickD t22 (.bool true) t26 fun t27 =>
 gd t27 false (fun K => V prog (fieldAt 40 t1 2) w K) w fun t29 w =>
 gd t27 false (fun K => V prog (loadAt 3 t29) w K) w fun t30 w =>
 gd t27 false (fun K => V prog (do eqGuard .eql 3 (.tmp 30) (.const (i64 20)) t30 (i64 20); binOp .eql 3 t30 (i64 20)) w K) w fun t31 w =>
 pickD t27 (.bool true) t31 fun t32 =>
 gd t32 false (fun K => V prog (fieldAt 40 t1 2) w K) w fun t34 w =>
 gd t32 false (fun K => V prog (loadAt 3 t34) w K) w fun t35 w =>
 gd t32 false (fun K => V prog (do eqGuard .eql 3 (.tmp 35) (.const (i64 21)) t35 (i64 21); binOp .eql 3 t35 (i64 21)) w K) w fun t36 w =>
 pickD t32 (.bool true) t36 fun t37 =>
 J1 (i64 2) t37 w) (
 V prog (do eqGuard .eql 3 (.tmp 6) (.const (i64 4)) t6 (i64 4); binOp .eql 3 t6 (i64 4)) w9 fun t39 w29 =>
 ifD t39 (
 V prog (fieldAt 40 t1 2) w29 fun t40 w =>
 V prog (loadAt 3 t40) w fun t41 w =>
 V prog (do eqGuard .eql 3 (.tmp 41) (.const (i64 15)) t41 (i64 15); binOp .eql 3 t41 (i64 15)) w fun t42 w =>
 gd t42 false (fun K => V prog (fieldAt 40 t1 2) w K) w fun t44 w =>
 gd t42 false (fun K => V prog (loadAt 3 t44) w K) w fun t45 w =>
 gd t42 false (fun K => V prog (do eqGuard .eql 3 (.tmp 45) (.const (i64 16)) t45 (i64 16); binOp .eql 3 t45 (i64 16)) w K) w fun t46 w =>
 pickD t42 (.bool true) t46 fun t47 =>
 gd t47 false (fun K => V prog (fieldAt 40 t1 2) w K) w fun t49 w =>
 gd t47 false (fun K => V prog (loadAt 3 t49) w K) w fun t50 w =>
 gd t47 false (fun K => V prog (do eqGuard .eql 3 (.tmp 50) (.const (i64 26)) t50 (i64 26); binOp .eql 3 t50 (i64 26)) w K) w fun t51 w =>
 pickD t47 (.bool true) t51 fun t52 =>
 J1 (i64 1) t52 w) (
 V prog (do eqGuard .eql 3 (.tmp 6) (.const (i64 5)) t6 (i64 5); binOp .eql 3 t6 (i64 5)) w29 fun t54 w =>
 ifD t54 (
 J1 (i64 3) (.bool true) w) (
 V prog (do eqGuard .eql 3 (.tmp 6) (.const (i64 8)) t6 (i64 8); binOp .eql 3 t6 (i64 8)) w fun t56 w =>
 ifD t56 (
 J1 (i64 1) (.bool true) w) (
 V prog (do eqGuard .eql 3 (.tmp 6) (.const (i64 9)) t6 (i64 9); binOp .eql 3 t6 (i64 9)) w fun t58 w43 =>
 ifD t58 (
 V prog (fieldAt 40 t1 3) w43 fun t59 w =>
 V prog (loadAt 3 t59) w fun t60 w =>
 V prog (binOp .geq 3 t60 (i64 0)) w fun t61 w =>
 gd t61 true (fun K => V prog (fieldAt 40 t1 3) w K) w fun t63 w =>
 gd t61 true (fun K => V prog (loadAt 3 t63) w K) w fun t64 w =>
 gd t61 true (fun K => V prog (binOp .lss 3 t64 (i64 8)) w K) w fun t65 w =>
 pickD t61 t65 (.bool false) fun t66 =>
 J1 (i64 0) t66 w) (
 V prog (do eqGuard .eql 3 (.tmp 6) (.const (i64 10)) t6 (i64 10); binOp .eql 3 t6 (i64 10)) w43 fun t68 w51 =>
 ifD t68 (
 V prog (fieldAt 40 t1 3) w51 fun t69 w =>
 V prog (loadAt 3 t69) w fun t70 w =>
 V prog (binOp .geq 3 t70 (i64 0)) w fun t71 w =>
 gd t71 true (fun K => V prog (fieldAt 40 t1 3) w K) w fun t73 w =>
 gd t71 true (fun K => V prog (loadAt 3 t73) w K) w fun t74 w =>
 gd t71 true (fun K => V prog (binOp .lss 3 t74 (i64 8)) w K) w fun t75 w =>
 pickD t71 t75 (.bool false) fun t76 =>
 J1 (i64 1) t76 w) (
 V prog (do eqGuard .eql 3 (.tmp 6) (.const (i64 11)) t6 (i64 11); binOp .eql 3 t6 (i64 11)) w51 fun t78 w59 =>
 ifD t78 (
 V prog (fieldAt 40 t1 2) w59 fun t79 w =>
 V prog (loadAt 3 t79) w fun t80 w =>
 callD prog 57 #[t80] w fun t81 w =>
 V prog (binOp .geq 3 t81 (i64 0)) w fun t83 w =>
 J1 t81 t83 w) (
 V prog (do eqGuard .eql 3 (.tmp 6) (.const (i64 12)) t6 (i64 12); binOp .eql 3 t6 (i64 12)) w59 fun t85 w64 =>
 ifD t85 (
 V prog (fieldAt 40 t1 7) w64 fun t86 w =>
 V prog (loadAt 27 t86) w fun t87 w =>
 V prog (Builtin.len_ #[27] 3 #[t87]) w fun t88 w =>
 V prog (fieldAt 40 t1 3) w fun t89 w =>
 V prog (loadAt 3 t89) w fun t90 w =>
 V prog (binOp .geq 3 t90 (i64 0)) w fun t91 w =>
 gd t91 true (fun K => V prog (fieldAt 40 t1 3) w K) w fun t93 w =>
 gd t91 true (fun K => V prog (loadAt 3 t93) w K) w fun t94 w =>
 gd t91 true (fun K => V prog (binOp .lss 3 t94 (i64 8)) w K) w fun t95 w =>
 pickD t91 t95 (.bool false) fun t96 =>
 gd t96 true (fun K => K t88 w) w fun t98 w =>
 gd t96 true (fun K => V prog (binOp .leq 3 t98 (i64 4)) w K) w fun t99 w =>
 pickD t96 t99 (.bool false) fun t100 =>
 J1 t88 t100 w) (
 V prog (do eqGuard .eql 3 (.tmp 6) (.const (i64 13)) t6 (i64 13); binOp .eql 3 t6 (i64 13)) w64 fun t102 w78 =>
 ifD t102 (
 V prog (fieldAt 40 t1 7) w78 fun t103 w =>
 V prog (loadAt 27 t103) w fun t104 w =>
 V prog (Builtin.len_ #[27] 3 #[t104]) w fun t105 w =>
 V prog (fieldAt 40 t1 3) w fun t106 w =>
 V prog (loadAt 3 t106) w fun t107 w =>
 V prog (binOp .geq 3 t107 (i64 0)) w fun t108 w =>
 gd t108 true (fun K => V prog (fieldAt 40 t1 3) w K) w fun t110 w =>
 gd t108 true (fun K => V prog (loadAt 3 t110) w K) w fun t111 w =>
 gd t108 true (fun K => V prog (binOp .lss 3 t111 (i64 4)) w K) w fun t112 w =>
 pickD t108 t112 (.bool false) fun t113 =>
 gd t113 true (fun K => K t105 w) w fun t115 w =>
 gd t113 true (fun K => V prog (binOp .leq 3 t115 (i64 4)) w K) w fun t116 w =>
 pickD t113 t116 (.bool false) fun t117 =>
 J1 t105 t117 w) (
 V prog (do eqGuard .eql 3 (.tmp 6) (.const (i64 14)) t6 (i64 14); binOp .eql 3 t6 (i64 14)) w78 fun t119 w92 =>
 ifD t119 (
 V prog (fieldAt 40 t1 7) w92 fun t120 w =>
 V prog (loadAt 27 t120) w fun t121 w =>
 V prog (Builtin.len_ #[27] 3 #[t121]) w fun t122 w =>
 V prog (binOp .leq 3 t122 (i64 1)) w fun t124 w =>
 J1 t122 t124 w) (
 J1 (i64 0) (.bool false) w92))))))))))))) ∧
 ∀ (t3 : Value) (t4 : Value), ∀ w : World, J1 t3 t4 w → ∀ _f : Env,
 gd t4 true (fun K => V prog (fieldAt 40 t1 7) w K) w fun t127 w =>
 gd t4 true (fun K => V prog (loadAt 27 t127) w K) w fun t128 w =>
 gd t4 true (fun K => V prog (Builtin.len_ #[27] 3 #[t128]) w K) w fun t129 w =>
 gd t4 true (fun K => K t3 w) w fun t130 w =>
 gd t4 true (fun K => V prog (do eqGuard .eql 3 (.tmp 129) (.tmp 130) t129 t130; binOp .eql 3 t129 t130) w K) w fun t131 w =>
 pickD t4 t131 (.bool false) fun t132 =>
 R t132 w
theorem F28_wp (h : F28_den t0 w R) : callD prog 28 #[t0] w R :=
  den_wp mixed F28_ann func28 (by kernel_rfl) (by kernel_rfl) h
def F29_ann : Ann := (q (.seq (q (.block (.join (rg 5 11) [5] (q (.cond .leaf (q (.cond .leaf (q (.cond .leaf (q (.cond .leaf (q (.cond .leaf .leaf)))))))))) (.cond (q .leaf) (.seq (q (.cond .leaf (q (.cond .leaf .leaf)))) (.cond (q .leaf) .leaf)))))) (q .leaf)))
def F29_den (t0 : Value) (w : World) (R : Value → World → Prop) : Prop :=
 V prog (box 40 t0) w fun t1 w =>
 V prog (fieldAt 40 t1 0) w fun t3 w =>
 V prog (loadAt 3 t3) w fun t4 w =>
 ∃ J1 : NP 1,
 (V prog (do eqGuard .eql 3 (.tmp 4) (.const (i64 1)) t4 (i64 1); binOp .eql 3 t4 (i64 1)) w fun t6 w =>
 ifD t6 (
 J1 t6 w) (
 V prog (do eqGuard .eql 3 (.tmp 4) (.const (i64 2)) t4 (i64 2); binOp .eql 3 t4 (i64 2)) w fun t7 w =>
 ifD t7 (
 J1 t7 w) (
 V prog (do eqGuard .eql 3 (.tmp 4) (.const (i64 3)) t4 (i64 3); binOp .eql 3 t4 (i64 3)) w fun t8 w =>
 ifD t8 (
 J1 t8 w) (
 V prog (do eqGuard .eql 3 (.tmp 4) (.const (i64 4)) t4 (i64 4); binOp .eql 3 t4 (i64 4)) w fun t9 w =>
 ifD t9 (
 J1 t9 w) (
 V prog (do eqGuard .eql 3 (.tmp 4) (.const (i64 5)) t4 (i64 5); binOp .eql 3 t4 (i64 5)) w fun t10 w =>
 ifD t10 (
 J1 t10 w) (
 V prog (do eqGuard .eql 3 (.tmp 4) (.const (i64 9)) t4 (i64 9); binOp .eql 3 t4 (i64 9)) w fun t11 w =>
 J1 t11 w)))))) ∧
 ∀ (t5 : Value), ∀ w : World, J1 t5 w → ∀ _f : Env,
 ifD t5 (
 R (i64 1) w) (
 V prog (do eqGuard .eql 3 (.tmp 4) (.const (i64 11)) t4 (i64 11); binOp .eql 3 t4 (i64 11)) w fun t13 w =>
 ifD t13 (
 ifD t13 (
 R (i64 0) w) (
 R (i64 (-1)) w)) (
 V prog (do eqGuard .eql 3 (.tmp 4) (.const (i64 12)) t4 (i64 12); binOp .eql 3 t4 (i64 12)) w fun t14 w =>
 ifD t14 (
 ifD t14 (
 R (i64 0) w) (
 R (i64 (-1)) w)) (
 V prog (do eqGuard .eql 3 (.tmp 4) (.const (i64 13)) t4 (i64 13); binOp .eql 3 t4 (i64 13)) w fun t15 w =>
 ifD t15 (
 R (i64 0) w) (
 R (i64 (-1)) w))))
theorem F29_wp (h : F29_den t0 w R) : callD prog 29 #[t0] w R :=
  den_wp mixed F29_ann func29 (by kernel_rfl) (by kernel_rfl) h
def F30_ann : Ann := (q (.seq (q (.block (.join [7, 8, 9] [7] (q (.cond .leaf .leaf)) (.cond (q .leaf) (q (.cond (q .leaf) (q (.cond (.seq (q (.cond (q .leaf) .leaf)) (q .leaf)) .leaf)))))))) (q .leaf)))
def F30_den (t0 t1 : Value) (w : World) (R : Value → World → Prop) : Prop :=
 V prog (box 40 t0) w fun t2 w =>
 V prog (fieldAt 40 t2 0) w fun t5 w =>
 V prog (loadAt 3 t5) w fun t6 w =>
 ∃ J1 : NP 1,
 (V prog (do eqGuard .eql 3 (.tmp 6) (.const (i64 0)) t6 (i64 0); binOp .eql 3 t6 (i64 0)) w fun t8 w =>
 ifD t8 (
 J1 t8 w) (
 V prog (do eqGuard .eql 3 (.tmp 6) (.const (i64 14)) t6 (i64 14); binOp .eql 3 t6 (i64 14)) w fun t9 w =>
 J1 t9 w)) ∧
 ∀ (t7 : Value), ∀ w : World, J1 t7 w → ∀ _f : Env,
 ifD t7 (
 R nilS w) (
 V prog (do eqGuard .eql 3 (.tmp 6) (.const (i64 7)) t6 (i64 7); binOp .eql 3 t6 (i64 7)) w fun t11 w7 =>
 ifD t11 (
 V prog (fieldAt 40 t2 6) w7 fun t12 w =>
 V prog (loadAt 3 t12) w fun t13 w =>
 V prog (buildSlice 27 1 #[(0, t13)]) w fun t14 w =>
 R t14 w) (
 V prog (do eqGuard .eql 3 (.tmp 6) (.const (i64 8)) t6 (i64 8); binOp .eql 3 t6 (i64 8)) w7 fun t16 w11 =>
 ifD t16 (
 V prog (fieldAt 40 t2 6) w11 fun t17 w =>
 V prog (loadAt 3 t17) w fun t18 w =>
 V prog (binOp .add 3 t1 (i64 1)) w fun t20 w =>
 V prog (do eqGuard .eql 3 (.tmp 18) (.tmp 20) t18 t20; binOp .eql 3 t18 t20) w fun t21 w15 =>
 ifD t21 (
 V prog (binOp .add 3 t1 (i64 1)) w15 fun t23 w =>
 V prog (buildSlice 27 1 #[(0, t23)]) w fun t24 w =>
 R t24 w) (
 V prog (binOp .add 3 t1 (i64 1)) w15 fun t26 w =>
 V prog (fieldAt 40 t2 6) w fun t27 w =>
 V prog (loadAt 3 t27) w fun t28 w =>
 V prog (buildSlice 27 2 #[(0, t26), (1, t28)]) w fun t29 w =>
 R t29 w)) (
 V prog (binOp .add 3 t1 (i64 1)) w11 fun t31 w =>
 V prog (buildSlice 27 1 #[(0, t31)]) w fun t32 w =>
 R t32 w)))
theorem F30_wp (h : F30_den t0 t1 w R) : callD prog 30 #[t0, t1] w R :=
  den_wp mixed F30_ann func30 (by kernel_rfl) (by kernel_rfl) h
def F31_ann : Ann := (q (q .leaf))
def F31_den (t0 t1 : Value) (w : World) (R : Value → World → Prop) : Prop :=
 V prog (binOp .geq 3 t0 (i64 0)) w fun t6 w =>
 gd t6 true (fun K => K t0 w) w fun t8 w =>
 gd t6 true (fun K => K t1 w) w fun t9 w =>
 gd t6 true (fun K => V prog (binOp .lss 3 t8 t9) w K) w fun t10 w =>
 pickD t6 t10 (.bool false) fun t11 =>
 R t11 w
theorem F31_wp (h : F31_den t0 t1 w R) : callD prog 31 #[t0, t1] w R :=
  den_wp mixed F31_ann func31 (by kernel_rfl) (by kernel_rfl) h
def F32_ann : Ann := (q (.seq (q (.cond (q .leaf) .leaf)) (.seq (q (.block (.loop ([6, 8] ++ rg 18 27) [18] (q (.seq (.cond .leaf .leaf) (.seq (.block (q (q (.cond (q .leaf) .leaf)))) .leaf)))))) (.seq (q (.block (.loop ([6, 10] ++ rg 32 42) [32] (q (.seq (.cond .leaf .leaf) (.seq (.block (q (q (.cond (q .leaf) .leaf)))) .leaf)))))) (q (q .leaf))))))
def F32_den (t0 t1 t2 : Value) (w : World) (R : Value → World → Prop) : Prop :=
 V prog (box 25 t0) w fun t3 w =>
 callD prog 58 #[t1] w fun t13 w =>
 V prog (Op.unary UnOp.not t13) w fun t14 w =>
 ifD t14 (
 R (.bool false) w) (
 callD prog 44 #[t1] w fun t16 w =>
 V prog (Builtin.len_ #[27] 3 #[t16]) w fun t17 w =>
 ∃ (I1 : NP 1) (μ1 : NF 1), I1 (i64 0) w ∧
 ∀ (t18 : Value), ∀ w6 : World, I1 t18 w6 → ∀ _f : Env,
 V prog (binOp .lss 3 t18 t17) w6 fun t19 w7 =>
 ifD t19 (
 V prog (indexAt 27 t16 t18) w7 fun t20 w =>
 V prog (loadAt 3 t20) w fun t21 w =>
 V prog (fieldAt 25 t3 1) w fun t23 w =>
 V prog (loadAt 3 t23) w fun t24 w =>
 callD prog 31 #[t21, t24] w fun t25 w =>
 V prog (Op.unary UnOp.not t25) w fun t26 w =>
 ifD t26 (
 R (.bool false) w) (
 V prog (binOp .add 3 t18 (i64 1)) w fun t27 w =>
 I1 t27 w ∧ μ1 t27 w < μ1 t18 w6)) (
 callD prog 59 #[t1, t2] w7 fun t30 w =>
 V prog (Builtin.len_ #[27] 3 #[t30]) w fun t31 w =>
 ∃ (I2 : NP 1) (μ2 : NF 1), I2 (i64 0) w ∧
 ∀ (t32 : Value), ∀ w17 : World, I2 t32 w17 → ∀ _f : Env,
 V prog (binOp .lss 3 t32 t31) w17 fun t33 w18 =>
 ifD t33 (
 V prog (indexAt 27 t30 t32) w18 fun t34 w =>
 V prog (loadAt 3 t34) w fun t35 w =>
 V prog (fieldAt 25 t3 2) w fun t37 w =>
 V prog (loadAt 23 t37) w fun t38 w =>
 V prog (Builtin.len_ #[23] 3 #[t38]) w fun t39 w =>
 callD prog 31 #[t35, t39] w fun t40 w =>
 V prog (Op.unary UnOp.not t40) w fun t41 w =>
 ifD t41 (
 R (.bool false) w) (
 V prog (binOp .add 3 t32 (i64 1)) w fun t42 w =>
 I2 t42 w ∧ μ2 t42 w < μ2 t32 w17)) (
 callD prog 37 #[t1] w18 fun t44 w =>
 V prog (fieldAt 25 t3 1) w fun t46 w =>
 V prog (loadAt 3 t46) w fun t47 w =>
 callD prog 31 #[t44, t47] w fun t48 w =>
 gd t48 false (fun K => K t44 w) w fun t50 w =>
 gd t48 false (fun K => V prog (do eqGuard .eql 3 (.tmp 50) (.const (i64 (-1))) t50 (i64 (-1)); binOp .eql 3 t50 (i64 (-1))) w K) w fun t51 w =>
 gd t48 false (fun K => K t51 w) w fun t52 w =>
 gd t52 true (fun K => K t1 w) w fun t53 w =>
 gd t52 true (fun K => callD prog 60 #[t53] w K) w fun t54 w =>
 gd t48 false (fun K => pickD t52 t54 (.bool false) fun v => K v w) w fun t55 w =>
 pickD t48 (.bool true) t55 fun t56 =>
 R t56 w)))
theorem F32_wp (h : F32_den t0 t1 t2 w R) : callD prog 32 #[t0, t1, t2] w R :=
  den_wp mixed F32_ann func32 (by kernel_rfl) (by kernel_rfl) h
def F33_ann : Ann := (q (.seq (q (.cond (q .leaf) .leaf)) (.seq (.draw [0, 1, 2, 4, 0, 16, 32, 64, 168, 511] [0, 1, 2, 4, 0, 16, 32, 64, 136, 256] 0 10 1023 (tk (rg 0 4) (.only 5 (.re (.take 6 (.take 7 (.only 8 (.re (.take 9 .done))))))))) .leaf)))
def F33_den (t0 : Value) (w : World) (R : Value → World → Prop) : Prop :=
 V prog (box 25 t0) w fun t1 w =>
 V prog (loadAt 25 t1) w fun t3 w =>
 callD prog 14 #[t3] w fun t4 w =>
 V prog (Op.unary UnOp.not t4) w fun t5 w =>
 ifD t5 (
 R nilS w) (
 drawD w fun S3 w =>
 yieldS prog S3 (fieldAt 25 t1 2) fun t6 =>
 yieldS prog S3 (loadAt 23 t6) fun t7 =>
 yieldS prog S3 (indexAt 23 t7 (i64 0)) fun t8 =>
 yieldS prog S3 (loadAt 43 t8) fun t9 =>
 yieldS prog S3 (loadAt 25 t1) fun t10 =>
 callD prog 36 #[t10] w fun t11 w =>
 S3 w ∧
 reS S3 w fun S3_7 =>
 yieldS prog S3_7 (indexAt 56 t11 (i64 0)) fun t12 =>
 yieldS prog S3_7 (loadAt 57 t12) fun t13 =>
 callD prog 61 #[t9, t13] w fun t14 w =>
 S3_7 w ∧
 reS S3_7 w fun S3_7_9 =>
 R t14 w)
theorem F33_wp (h : F33_den t0 w R) : callD prog 33 #[t0] w R :=
  den_wp mixed F33_ann func33 (by kernel_rfl) (by kernel_rfl) h
def F34_ann : Ann := (q (.cond (q .leaf) .leaf))
def F34_den (t0 t1 t2 : Value) (w : World) (R : Value → World → Prop) : Prop :=
 V prog (binOp .geq 3 t0 (i64 0)) w fun t5 w =>
 gd t5 true (fun K => V prog (loadAt 57 t1) w K) w fun t7 w =>
 gd t5 true (fun K => K t0 w) w fun t8 w =>
 gd t5 true (fun K => V prog (indexAt 57 t7 t8) w K) w fun t9 w =>
 gd t5 true (fun K => V prog (loadAt 4 t9) w K) w fun t10 w =>
 gd t5 true (fun K => V prog (Op.unary UnOp.not t10) w K) w fun t11 w6 =>
 pickD t5 t11 (.bool false) fun t12 =>
 ifD t12 (
 V prog (loadAt 57 t1) w6 fun t13 w =>
 V prog (indexAt 57 t13 t0) w fun t15 w =>
 U prog (storeAt 4 t15 (.bool true)) w fun _ w =>
 V prog (fieldAt 59 t2 2) w fun t16 w =>
 V prog (loadAt 27 t16) w fun t17 w =>
 V prog (buildSlice 27 1 #[(0, t0)]) w fun t19 w =>
 V prog (Builtin.append_ #[27, 27] 27 #[t17, t19]) w fun t20 w =>
 V prog (fieldAt 59 t2 2) w fun t21 w =>
 U prog (storeAt 27 t21 t20) w fun _ w =>
 R (.tuple #[]) w) (
 R (.tuple #[]) w6)
theorem F34_wp (h : F34_den t0 t1 t2 w R) : callD prog 34 #[t0, t1, t2] w R :=
  den_wp mixed F34_ann func34 (by kernel_rfl) (by kernel_rfl) h
def F35_ann : Ann := (q (.block (.loop (rg 4 7 ++ rg 10 41) [10] (q (.seq (.cond .leaf .leaf) (.seq (.block (q (q (.block (.loop ([6, 7] ++ rg 17 40) [17] (q (.seq (.cond .leaf .leaf) (.seq (.block (q (q (.cond .leaf .leaf)))) .leaf)))))))) .leaf))))))
def F35_den (t0 t1 : Value) (w : World) (R : Value → World → Prop) : Prop :=
 V prog (Builtin.len_ #[57] 3 #[t1]) w fun t9 w =>
 ∃ (I1 : NP 1) (μ1 : NF 1), I1 (i64 0) w ∧
 ∀ (t10 : Value), ∀ w2 : World, I1 t10 w2 → ∀ _f : Env,
 V prog (binOp .lss 3 t10 t9) w2 fun t11 w3 =>
 ifD t11 (
 V prog (indexAt 57 t1 t10) w3 fun t13 w =>
 V prog (loadAt 4 t13) w fun t14 w =>
 V prog (Builtin.len_ #[57] 3 #[t1]) w fun t16 w =>
 ∃ (I2 : NP 1) (μ2 : NF 1), I2 (i64 0) w ∧
 ∀ (t17 : Value), ∀ w7 : World, I2 t17 w7 → ∀ _f : Env,
 V prog (binOp .lss 3 t17 t16) w7 fun t18 w8 =>
 ifD t18 (
 V prog (indexAt 57 t1 t17) w8 fun t20 w =>
 V prog (loadAt 4 t20) w fun t21 w =>
 gd t14 true (fun K => K t21 w) w fun t24 w =>
 pickD t14 t24 (.bool false) fun t25 =>
 gd t25 true (fun K => K t10 w) w fun t27 w =>
 gd t25 true (fun K => K t17 w) w fun t28 w =>
 gd t25 true (fun K => V prog (do eqGuard .neq 3 (.tmp 27) (.tmp 28) t27 t28; binOp .neq 3 t27 t28) w K) w fun t29 w15 =>
 pickD t25 t29 (.bool false) fun t30 =>
 ifD t30 (
 Go.Vc.Safe (t0) ∧
 V prog (fieldAt 59 t0 0) w15 fun t33 w =>
 V prog (loadAt 56 t33) w fun t34 w =>
 V prog (indexAt 56 t34 t10) w fun t36 w =>
 V prog (loadAt 57 t36) w fun t37 w =>
 V prog (indexAt 57 t37 t17) w fun t39 w =>
 U prog (storeAt 4 t39 (.bool true)) w fun _ w =>
 V prog (binOp .add 3 t17 (i64 1)) w fun t40 w =>
 I2 t40 w ∧ μ2 t40 w < μ2 t17 w7) (
 V prog (binOp .add 3 t17 (i64 1)) w15 fun t40_1 w =>
 I2 t40_1 w ∧ μ2 t40_1 w < μ2 t17 w7)) (
 V prog (binOp .add 3 t10 (i64 1)) w8 fun t41 w =>
 I1 t41 w ∧ μ1 t41 w < μ1 t10 w2)) (
 R (.tuple #[]) w3)
theorem F35_wp (h : F35_den t0 t1 w R) : callD prog 35 #[t0, t1] w R :=
  den_wp mixed F35_ann func35 (by kernel_rfl) (by kernel_rfl) h
def F36_ann : Ann := (q (.seq (q (.cond (q .leaf) .leaf)) (q (.seq (q (.block (.loop ([4] ++ rg 20 29) [20] (q (.seq (.cond .leaf .leaf) (.seq (.block (q .leaf)) .leaf)))))) (.seq (q (.block (.loop ([5, 6, 8, 9, 10] ++ rg 30 98) [5] (.seq (q (.cond .leaf .leaf)) (.block (q (q (.block (.loop ([5, 6, 8, 9, 10] ++ rg 35 98) [5, 6] (.seq (q (.cond .leaf .leaf)) (.seq (.block (q (.block (.loop ([5, 8, 9, 10] ++ rg 47 98) [5, 47] (q (.seq (.cond .leaf .leaf) (.seq (.block (q (.seq (.draw [0, 1, 0, 6, 8, 0, 0, 96, 128, 272, 512, 0] [0, 1, 0, 6, 8, 0, 0, 96, 128, 272, 512, 0] 0 12 4095 (tk (rg 0 8 ++ [11]) (.only 9 (.take 10 .done)))) (.block (.loop ([5, 9, 10] ++ rg 62 97) [5, 62] (q (.seq (.cond .leaf .leaf) (.seq (.block (q (q (.draw [0, 0, 3, 4, 0, 0, 0, 96, 128, 0, 768, 1024, 2048, 4096, 12288, 32767, 65535] [0, 0, 3, 4, 0, 0, 0, 96, 128, 0, 768, 1024, 2048, 4096, 12288, 24, 49152] 0 16 65535 (tk (rg 0 15) (.last 16)))))) .leaf)))))))) .leaf))))))) .leaf))))))))))) (q .leaf))))))
def F36_den (t0 : Value) (w : World) (R : Value → World → Prop) : Prop :=
 V prog (box 25 t0) w fun t1 w =>
 V prog (loadAt 25 t1) w fun t11 w =>
 callD prog 14 #[t11] w fun t12 w =>
 V prog (Op.unary UnOp.not t12) w fun t13 w =>
 ifD t13 (
 R nilS w) (
 V prog (fieldAt 25 t1 2) w fun t14 w =>
 V prog (loadAt 23 t14) w fun t15 w =>
 V prog (Builtin.len_ #[23] 3 #[t15]) w fun t16 w =>
 V prog (makeSlice 56 t16 t16) w fun t17 w =>
 V prog (Builtin.len_ #[56] 3 #[t17]) w fun t19 w =>
 ∃ (I1 : NP 1) (μ1 : NF 1), I1 (i64 0) w ∧
 ∀ (t20 : Value), ∀ w10 : World, I1 t20 w10 → ∀ _f : Env,
 V prog (binOp .lss 3 t20 t19) w10 fun t21 w11 =>
 ifD t21 (
 V prog (fieldAt 25 t1 1) w11 fun t25 w =>
 V prog (loadAt 3 t25) w fun t26 w =>
 V prog (makeSlice 57 t26 t26) w fun t27 w =>
 V prog (indexAt 56 t17 t20) w fun t28 w =>
 U prog (storeAt 57 t28 t27) w fun _ w =>
 V prog (binOp .add 3 t20 (i64 1)) w fun t29 w =>
 I1 t29 w ∧ μ1 t29 w < μ1 t20 w10) (
 ∃ (I2 : NP 1) (μ2 : NF 1), I2 (.bool true) w11 ∧
 ∀ (t5 : Value), ∀ w18 : World, I2 t5 w18 → ∀ _f : Env,
 ifD t5 (
 V prog (fieldAt 25 t1 2) w18 fun t31 w =>
 V prog (loadAt 23 t31) w fun t32 w =>
 V prog (Builtin.len_ #[23] 3 #[t32]) w fun t33 w =>
 V prog (binOp .sub 3 t33 (i64 1)) w fun t34 w =>
 ∃ (I3 : NP 2) (μ3 : NF 2), I3 (.bool false) t34 w ∧
 ∀ (t5_1 : Value) (t6 : Value), ∀ w23 : World, I3 t5_1 t6 w23 → ∀ _f : Env,
 V prog (binOp .geq 3 t6 (i64 0)) w23 fun t36 w24 =>
 ifD t36 (
 V prog (fieldAt 25 t1 2) w24 fun t39 w =>
 V prog (loadAt 23 t39) w fun t40 w =>
 V prog (indexAt 23 t40 t6) w fun t42 w =>
 V prog (loadAt 43 t42) w fun t43 w =>
 callD prog 59 #[t43, t6] w fun t45 w =>
 V prog (Builtin.len_ #[27] 3 #[t45]) w fun t46 w =>
 ∃ (I4 : NP 2) (μ4 : NF 2), I4 t5_1 (i64 0) w ∧
 ∀ (t5_2 : Value) (t47 : Value), ∀ w31 : World, I4 t5_2 t47 w31 → ∀ _f : Env,
 V prog (binOp .lss 3 t47 t46) w31 fun t48 w32 =>
 ifD t48 (
 V prog (indexAt 27 t45 t47) w32 fun t49 w =>
 V prog (loadAt 3 t49) w fun t50 w =>
 drawD w fun S18 w =>
 yieldS prog S18 (fieldAt 25 t1 2) fun t51 =>
 yieldS prog S18 (loadAt 23 t51) fun t52 =>
 yieldS prog S18 (indexAt 23 t52 t50) fun t54 =>
 yieldS prog S18 (loadAt 43 t54) fun t55 =>
 yieldS prog S18 (indexAt 56 t17 t50) fun t58 =>
 yieldS prog S18 (loadAt 57 t58) fun t59 =>
 callD prog 61 #[t55, t59] w fun t60 w =>
 S18 w ∧
 yieldS prog S18 (Builtin.len_ #[57] 3 #[t60]) fun t61 =>
 ∃ (I5 : NP 2) (μ5 : NF 2), I5 t5_2 (i64 0) w ∧
 ∀ (t5_3 : Value) (t62 : Value), ∀ w37 : World, I5 t5_3 t62 w37 → ∀ _f : Env,
 V prog (binOp .lss 3 t62 t61) w37 fun t63 w38 =>
 ifD t63 (
 V prog (indexAt 57 t60 t62) w38 fun t65 w =>
 V prog (loadAt 4 t65) w fun t66 w =>
 gd t5_3 false (fun K => K t66 w) w fun t69 w =>
 gd t5_3 false (fun K => K t69 w) w fun t70 w =>
 gd t70 true (fun K => K t17 w) w fun t71 w =>
 gd t70 true (fun K => K t6 w) w fun t72 w =>
 gd t70 true (fun K => V prog (indexAt 56 t71 t72) w K) w fun t73 w =>
 gd t70 true (fun K => V prog (loadAt 57 t73) w K) w fun t74 w =>
 gd t70 true (fun K => K t62 w) w fun t75 w =>
 gd t70 true (fun K => V prog (indexAt 57 t74 t75) w K) w fun t76 w =>
 gd t70 true (fun K => V prog (loadAt 4 t76) w K) w fun t77 w =>
 gd t70 true (fun K => V prog (Op.unary UnOp.not t77) w K) w fun t78 w =>
 gd t5_3 false (fun K => pickD t70 t78 (.bool false) fun v => K v w) w fun t79 w =>
 pickD t5_3 (.bool true) t79 fun t80 =>
 drawD w fun S22 w =>
 yieldS prog S22 (indexAt 56 t17 t6) fun t83 =>
 yieldS prog S22 (loadAt 57 t83) fun t84 =>
 yieldS prog S22 (indexAt 56 t17 t6) fun t88 =>
 yieldS prog S22 (loadAt 57 t88) fun t89 =>
 yieldS prog S22 (indexAt 57 t89 t62) fun t91 =>
 yieldS prog S22 (loadAt 4 t91) fun t92 =>
 gdY t92 false (fun K => K t66) fun t94 =>
 pickD t92 (.bool true) t94 fun t95 =>
 yieldS prog S22 (indexAt 57 t84 t62) fun t96 =>
 U prog (storeAt 4 t96 t95) w fun _ w =>
 V prog (binOp .add 3 t62 (i64 1)) w fun t97 w =>
 I5 t80 t97 w ∧ μ5 t80 t97 w < μ5 t5_3 t62 w37) (
 V prog (binOp .add 3 t47 (i64 1)) w38 fun t98 w =>
 I4 t5_3 t98 w ∧ μ4 t5_3 t98 w < μ4 t5_2 t47 w31)) (
 V prog (binOp .sub 3 t6 (i64 1)) w32 fun t38 w =>
 I3 t5_2 t38 w ∧ μ3 t5_2 t38 w < μ3 t5_1 t6 w23)) (
 I2 t5_1 w24 ∧ μ2 t5_1 w24 < μ2 t5 w18)) (
 R t17 w18)))
theorem F36_wp (h : F36_den t0 w R) : callD prog 36 #[t0] w R :=
  den_wp mixed F36_ann func36 (by kernel_rfl) (by kernel_rfl) h
def F37_ann : Ann := (q (.seq (q (.block (q (.cond (q (q .leaf)) (q (.cond (q (q .leaf)) (q (.cond (q (q .leaf)) (q (.cond (q (q .leaf)) (q (.cond (q (q .leaf)) (q (.cond (q (q .leaf)) (q (.cond (q (q .leaf)) (q (.cond (q (q .leaf)) (q (.cond (q (q .leaf)) .leaf)))))))))))))))))))) (q .leaf)))
def F37_den (t0 : Value) (w : World) (R : Value → World → Prop) : Prop :=
 V prog (typeAssert t0 43 78 true) w fun t13 w =>
 V prog (extract t13 1) w fun t14 w =>
 V prog (extract t13 0) w fun t15 w3 =>
 ifD t14 (
 V prog (alloc 78 true (.tuple #[])) w3 fun t3 w =>
 U prog (storeAt 78 t3 t15) w fun _ w =>
 V prog (fieldAt 78 t3 0) w fun t16 w =>
 V prog (loadAt 3 t16) w fun t17 w =>
 R t17 w) (
 V prog (typeAssert t0 43 80 true) w3 fun t18 w =>
 V prog (extract t18 1) w fun t19 w =>
 V prog (extract t18 0) w fun t20 w10 =>
 ifD t19 (
 V prog (alloc 80 true (.tuple #[])) w10 fun t4 w =>
 U prog (storeAt 80 t4 t20) w fun _ w =>
 V prog (fieldAt 80 t4 0) w fun t21 w =>
 V prog (loadAt 3 t21) w fun t22 w =>
 R t22 w) (
 V prog (typeAssert t0 43 82 true) w10 fun t23 w =>
 V prog (extract t23 1) w fun t24 w =>
 V prog (extract t23 0) w fun t25 w17 =>
 ifD t24 (
 V prog (alloc 82 true (.tuple #[])) w17 fun t5 w =>
 U prog (storeAt 82 t5 t25) w fun _ w =>
 V prog (fieldAt 82 t5 1) w fun t26 w =>
 V prog (loadAt 3 t26) w fun t27 w =>
 R t27 w) (
 V prog (typeAssert t0 43 84 true) w17 fun t28 w =>
 V prog (extract t28 1) w fun t29 w =>
 V prog (extract t28 0) w fun t30 w24 =>
 ifD t29 (
 V prog (alloc 84 true (.tuple #[])) w24 fun t6 w =>
 U prog (storeAt 84 t6 t30) w fun _ w =>
 V prog (fieldAt 84 t6 1) w fun t31 w =>
 V prog (loadAt 3 t31) w fun t32 w =>
 R t32 w) (
 V prog (typeAssert t0 43 86 true) w24 fun t33 w =>
 V prog (extract t33 1) w fun t34 w =>
 V prog (extract t33 0) w fun t35 w31 =>
 ifD t34 (
 V prog (alloc 86 true (.tuple #[])) w31 fun t7 w =>
 U prog (storeAt 86 t7 t35) w fun _ w =>
 V prog (fieldAt 86 t7 0) w fun t36 w =>
 V prog (loadAt 3 t36) w fun t37 w =>
 R t37 w) (
 V prog (typeAssert t0 43 92 true) w31 fun t38 w =>
 V prog (extract t38 1) w fun t39 w =>
 V prog (extract t38 0) w fun t40 w38 =>
 ifD t39 (
 V prog (alloc 92 true (.tuple #[])) w38 fun t8 w =>
 U prog (storeAt 92 t8 t40) w fun _ w =>
 V prog (fieldAt 92 t8 0) w fun t41 w =>
 V prog (loadAt 3 t41) w fun t42 w =>
 R t42 w) (
 V prog (typeAssert t0 43 96 true) w38 fun t43 w =>
 V prog (extract t43 1) w fun t44 w =>
 V prog (extract t43 0) w fun t45 w45 =>
 ifD t44 (
 V prog (alloc 96 true (.tuple #[])) w45 fun t9 w =>
 U prog (storeAt 96 t9 t45) w fun _ w =>
 V prog (fieldAt 96 t9 3) w fun t46 w =>
 V prog (loadAt 3 t46) w fun t47 w =>
 R t47 w) (
 V prog (typeAssert t0 43 98 true) w45 fun t48 w =>
 V prog (extract t48 1) w fun t49 w =>
 V prog (extract t48 0) w fun t50 w52 =>
 ifD t49 (
 V prog (alloc 98 true (.tuple #[])) w52 fun t10 w =>
 U prog (storeAt 98 t10 t50) w fun _ w =>
 V prog (fieldAt 98 t10 1) w fun t51 w =>
 V prog (loadAt 3 t51) w fun t52 w =>
 R t52 w) (
 V prog (typeAssert t0 43 100 true) w52 fun t53 w =>
 V prog (extract t53 1) w fun t54 w =>
 V prog (extract t53 0) w fun t55 w59 =>
 ifD t54 (
 V prog (alloc 100 true (.tuple #[])) w59 fun t11 w =>
 U prog (storeAt 100 t11 t55) w fun _ w =>
 V prog (fieldAt 100 t11 1) w fun t56 w =>
 V prog (loadAt 3 t56) w fun t57 w =>
 R t57 w) (
 R (i64 (-1)) w59)))))))))
theorem F37_wp (h : F37_den t0 w R) : callD prog 37 #[t0] w R :=
  den_wp mixed F37_ann func37 (by kernel_rfl) (by kernel_rfl) h
def F38_ann : Ann := (q (q (.seq (q (.cond .leaf .leaf)) (q .leaf))))
def F38_den (t0 t1 : Value) (w : World) (R : Value → World → Prop) : Prop :=
 V prog (buildSlice 57 0 #[]) w fun t6 w =>
 V prog (Builtin.append_ #[57, 57] 57 #[t6, t0]) w fun t8 w =>
 V prog (binOp .geq 3 t1 (i64 0)) w fun t10 w3 =>
 ifD t10 (
 V prog (indexAt 57 t8 t1) w3 fun t13 w =>
 U prog (storeAt 4 t13 (.bool true)) w fun _ w =>
 R t8 w) (
 R t8 w3)
theorem F38_wp (h : F38_den t0 t1 w R) : callD prog 38 #[t0, t1] w R :=
  den_wp mixed F38_ann func38 (by kernel_rfl) (by kernel_rfl) h
def F39_ann : Ann := (q (.seq (q (.block (q (.cond (q .leaf) .leaf)))) (q .leaf)))
def F39_den (t0 : Value) (w : World) (R : Value → World → Prop) : Prop :=
 V prog (typeAssert t0 43 92 true) w fun t4 w =>
 V prog (extract t4 1) w fun t5 w =>
 V prog (extract t4 0) w fun _ w =>
 V prog (typeAssert t0 43 94 true) w fun t7 w =>
 V prog (extract t7 1) w fun t8 w =>
 V prog (extract t7 0) w fun _ w =>
 pickD t5 (.bool true) t8 fun t10 =>
 ifD t10 (
 R (.bool true) w) (
 callD prog 62 #[t0] w fun t12 w =>
 R t12 w)
theorem F39_wp (h : F39_den t0 w R) : callD prog 39 #[t0] w R :=
  den_wp mixed F39_ann func39 (by kernel_rfl) (by kernel_rfl) h
def F40_ann : Ann := .leaf
def F40_den (t0 t1 t2 t3 : Value) (w : World) (R : Value → World → Prop) : Prop :=
 V prog (build 72 #[(0, t1), (1, t2), (3, t3)]) w fun t12 w =>
 callD prog 51 #[t0, t12] w fun _ w =>
 R (.tuple #[]) w
theorem F40_wp (h : F40_den t0 t1 t2 t3 w R) : callD prog 40 #[t0, t1, t2, t3] w R :=
  den_wp mixed F40_ann func40 (by kernel_rfl) (by kernel_rfl) h
def F41_ann : Ann := .leaf
def F41_den (t0 t1 t2 t3 : Value) (w : World) (R : Value → World → Prop) : Prop :=
 V prog (build 72 #[(0, t1), (1, t2), (4, t3)]) w fun t12 w =>
 callD prog 51 #[t0, t12] w fun _ w =>
 R (.tuple #[]) w
theorem F41_wp (h : F41_den t0 t1 t2 t3 w R) : callD prog 41 #[t0, t1, t2, t3] w R :=
  den_wp mixed F41_ann func41 (by kernel_rfl) (by kernel_rfl) h
def F42_ann : Ann := .leaf
def F42_den (t0 t1 t2 : Value) (w : World) (R : Value → World → Prop) : Prop :=
 Go.Vc.Safe (t0) ∧
 V prog (fieldAt 65 t0 3) w fun t9 w =>
 V prog (fieldAt 33 t9 0) w fun t10 w =>
 V prog (loadAt 31 t10) w fun t11 w =>
 V prog (build 74 #[(0, (i64 4)), (4, t1), (5, t2)]) w fun t14 w =>
 V prog (buildSlice 31 1 #[(0, t14)]) w fun t15 w =>
 V prog (Builtin.append_ #[31, 31] 31 #[t11, t15]) w fun t16 w =>
 Go.Vc.Safe (t0) ∧
 V prog (fieldAt 65 t0 3) w fun t18 w =>
 V prog (fieldAt 33 t18 0) w fun t19 w =>
 U prog (storeAt 31 t19 t16) w fun _ w =>
 R (.tuple #[]) w
theorem F42_wp (h : F42_den t0 t1 t2 w R) : callD prog 42 #[t0, t1, t2] w R :=
  den_wp mixed F42_ann func42 (by kernel_rfl) (by kernel_rfl) h
def F43_ann : Ann := (q (.block (.loop ([4, 5] ++ rg 8 17) [8] (q (.seq (.cond .leaf .leaf) (.seq (.block (q .leaf)) .leaf))))))
def F43_den (t0 t1 : Value) (w : World) (R : Value → World → Prop) : Prop :=
 V prog (Builtin.len_ #[27] 3 #[t1]) w fun t7 w =>
 ∃ (I1 : NP 1) (μ1 : NF 1), I1 (i64 0) w ∧
 ∀ (t8 : Value), ∀ w2 : World, I1 t8 w2 → ∀ _f : Env,
 V prog (binOp .lss 3 t8 t7) w2 fun t9 w3 =>
 ifD t9 (
 V prog (indexAt 27 t1 t8) w3 fun t11 w =>
 V prog (loadAt 3 t11) w fun t12 w =>
 callD prog 63 #[t0, t8, t12] w fun _ w =>
 V prog (binOp .add 3 t8 (i64 1)) w fun t17 w =>
 I1 t17 w ∧ μ1 t17 w < μ1 t8 w2) (
 R (.tuple #[]) w3)
theorem F43_wp (h : F43_den t0 t1 w R) : callD prog 43 #[t0, t1] w R :=
  den_wp mixed F43_ann func43 (by kernel_rfl) (by kernel_rfl) h
def F44_ann : Ann := (q (.seq (q (.block (q (.cond (q (q .leaf)) (q (.cond (q (q .leaf)) (q (.cond (q (q .leaf)) (q (.cond (q (q .leaf)) (q (.cond (q (q .leaf)) (q (.cond (q (q .leaf)) (q (.cond (q (q .leaf)) (q (.cond (q (q .leaf)) (q (.cond (q (q .leaf)) (q (.cond (q (q (.cond (q .leaf) .leaf))) .leaf)))))))))))))))))))))) (q .leaf)))
def F44_den (t0 : Value) (w : World) (R : Value → World → Prop) : Prop :=
 V prog (typeAssert t0 43 80 true) w fun t14 w =>
 V prog (extract t14 1) w fun t15 w =>
 V prog (extract t14 0) w fun t16 w3 =>
 ifD t15 (
 V prog (alloc 80 true (.tuple #[])) w3 fun t3 w =>
 U prog (storeAt 80 t3 t16) w fun _ w =>
 V prog (fieldAt 80 t3 1) w fun t17 w =>
 V prog (loadAt 3 t17) w fun t18 w =>
 V prog (buildSlice 27 1 #[(0, t18)]) w fun t19 w =>
 R t19 w) (
 V prog (typeAssert t0 43 82 true) w3 fun t20 w =>
 V prog (extract t20 1) w fun t21 w =>
 V prog (extract t20 0) w fun t22 w11 =>
 ifD t21 (
 V prog (alloc 82 true (.tuple #[])) w11 fun t4 w =>
 U prog (storeAt 82 t4 t22) w fun _ w =>
 V prog (fieldAt 82 t4 2) w fun t23 w =>
 V prog (loadAt 3 t23) w fun t24 w =>
 V prog (fieldAt 82 t4 3) w fun t25 w =>
 V prog (loadAt 3 t25) w fun t26 w =>
 V prog (buildSlice 27 2 #[(0, t24), (1, t26)]) w fun t27 w =>
 R t27 w) (
 V prog (typeAssert t0 43 84 true) w11 fun t28 w =>
 V prog (extract t28 1) w fun t29 w =>
 V prog (extract t28 0) w fun t30 w21 =>
 ifD t29 (
 V prog (alloc 84 true (.tuple #[])) w21 fun t5 w =>
 U prog (storeAt 84 t5 t30) w fun _ w =>
 V prog (fieldAt 84 t5 2) w fun t31 w =>
 V prog (loadAt 3 t31) w fun t32 w =>
 V prog (buildSlice 27 1 #[(0, t32)]) w fun t33 w =>
 R t33 w) (
 V prog (typeAssert t0 43 86 true) w21 fun t34 w =>
 V prog (extract t34 1) w fun t35 w =>
 V prog (extract t34 0) w fun t36 w29 =>
 ifD t35 (
 V prog (alloc 86 true (.tuple #[])) w29 fun t6 w =>
 U prog (storeAt 86 t6 t36) w fun _ w =>
 V prog (fieldAt 86 t6 1) w fun t37 w =>
 V prog (loadAt 3 t37) w fun t38 w =>
 V prog (fieldAt 86 t6 2) w fun t39 w =>
 V prog (loadAt 3 t39) w fun t40 w =>
 V prog (fieldAt 86 t6 3) w fun t41 w =>
 V prog (loadAt 3 t41) w fun t42 w =>
 V prog (buildSlice 27 3 #[(0, t38), (1, t40), (2, t42)]) w fun t43 w =>
 R t43 w) (
 V prog (typeAssert t0 43 90 true) w29 fun t44 w =>
 V prog (extract t44 1) w fun t45 w =>
 V prog (extract t44 0) w fun t46 w41 =>
 ifD t45 (
 V prog (alloc 90 true (.tuple #[])) w41 fun t7 w =>
 U prog (storeAt 90 t7 t46) w fun _ w =>
 V prog (fieldAt 90 t7 0) w fun t47 w =>
 V prog (loadAt 3 t47) w fun t48 w =>
 V prog (buildSlice 27 1 #[(0, t48)]) w fun t49 w =>
 R t49 w) (
 V prog (typeAssert t0 43 94 true) w41 fun t50 w =>
 V prog (extract t50 1) w fun t51 w =>
 V prog (extract t50 0) w fun t52 w49 =>
 ifD t51 (
 V prog (alloc 94 true (.tuple #[])) w49 fun t8 w =>
 U prog (storeAt 94 t8 t52) w fun _ w =>
 V prog (fieldAt 94 t8 1) w fun t53 w =>
 V prog (loadAt 3 t53) w fun t54 w =>
 V prog (buildSlice 27 1 #[(0, t54)]) w fun t55 w =>
 R t55 w) (
 V prog (typeAssert t0 43 96 true) w49 fun t56 w =>
 V prog (extract t56 1) w fun t57 w =>
 V prog (extract t56 0) w fun t58 w57 =>
 ifD t57 (
 V prog (alloc 96 true (.tuple #[])) w57 fun t9 w =>
 U prog (storeAt 96 t9 t58) w fun _ w =>
 V prog (fieldAt 96 t9 4) w fun t59 w =>
 V prog (loadAt 27 t59) w fun t60 w =>
 callD prog 64 #[t60] w fun t61 w =>
 R t61 w) (
 V prog (typeAssert t0 43 98 true) w57 fun t62 w =>
 V prog (extract t62 1) w fun t63 w =>
 V prog (extract t62 0) w fun t64 w65 =>
 ifD t63 (
 V prog (alloc 98 true (.tuple #[])) w65 fun t10 w =>
 U prog (storeAt 98 t10 t64) w fun _ w =>
 V prog (fieldAt 98 t10 2) w fun t65 w =>
 V prog (loadAt 27 t65) w fun t66 w =>
 callD prog 64 #[t66] w fun t67 w =>
 R t67 w) (
 V prog (typeAssert t0 43 100 true) w65 fun t68 w =>
 V prog (extract t68 1) w fun t69 w =>
 V prog (extract t68 0) w fun t70 w73 =>
 ifD t69 (
 V prog (alloc 100 true (.tuple #[])) w73 fun t11 w =>
 U prog (storeAt 100 t11 t70) w fun _ w =>
 V prog (fieldAt 100 t11 2) w fun t71 w =>
 V prog (loadAt 27 t71) w fun t72 w =>
 callD prog 64 #[t72] w fun t73 w =>
 R t73 w) (
 V prog (typeAssert t0 43 49 true) w73 fun t74 w =>
 V prog (extract t74 1) w fun t75 w =>
 V prog (extract t74 0) w fun t76 w81 =>
 ifD t75 (
 V prog (alloc 49 true (.tuple #[])) w81 fun t12 w =>
 U prog (storeAt 49 t12 t76) w fun _ w =>
 V prog (fieldAt 49 t12 0) w fun t77 w =>
 V prog (loadAt 3 t77) w fun t78 w =>
 V prog (do eqGuard .neq 3 (.tmp 78) (.const (i64 (-1))) t78 (i64 (-1)); binOp .neq 3 t78 (i64 (-1))) w fun t79 w86 =>
 ifD t79 (
 V prog (fieldAt 49 t12 0) w86 fun t80 w =>
 V prog (loadAt 3 t80) w fun t81 w =>
 V prog (buildSlice 27 1 #[(0, t81)]) w fun t82 w =>
 R t82 w) (
 R nilS w86)) (
 R nilS w81))))))))))
theorem F44_wp (h : F44_den t0 w R) : callD prog 44 #[t0] w R :=
  den_wp mixed F44_ann func44 (by kernel_rfl) (by kernel_rfl) h
def F45_ann : Ann := (q (.block (q (.cond .leaf (q (.cond .leaf (q (.cond .leaf (q (.cond .leaf (q (.cond .leaf (q (.cond .leaf (q (.cond .leaf (q (.cond .leaf (q (.cond .leaf (q (.cond (q .leaf) (q (.cond (q (q (q .leaf))) .leaf))))))))))))))))))))))))
def F45_den (t0 t1 : Value) (w : World) (R : Value → World → Prop) : Prop :=
 V prog (do eqGuard .eql 3 (.tmp 4) (.const (i64 6)) t1 (i64 6); binOp .eql 3 t1 (i64 6)) w fun t8 w1 =>
 ifD t8 (
 V prog (build 72 #[(0, (i64 4)), (1, (i64 0)), (2, (i64 0)), (3, (i64 1))]) w1 fun t10 w =>
 callD prog 51 #[t0, t10] w fun _ w =>
 R (.tuple #[]) w) (
 V prog (do eqGuard .eql 3 (.tmp 4) (.const (i64 7)) t1 (i64 7); binOp .eql 3 t1 (i64 7)) w1 fun t13 w4 =>
 ifD t13 (
 V prog (build 72 #[(0, (i64 5)), (1, (i64 0)), (2, (i64 0)), (3, (i64 1))]) w4 fun t15 w =>
 callD prog 51 #[t0, t15] w fun _ w =>
 R (.tuple #[]) w) (
 V prog (do eqGuard .eql 3 (.tmp 4) (.const (i64 8)) t1 (i64 8); binOp .eql 3 t1 (i64 8)) w4 fun t18 w7 =>
 ifD t18 (
 callD prog 40 #[t0, (i64 25), (i64 0), (i64 1)] w7 fun _ w =>
 R (.tuple #[]) w) (
 V prog (do eqGuard .eql 3 (.tmp 4) (.const (i64 9)) t1 (i64 9); binOp .eql 3 t1 (i64 9)) w7 fun t22 w9 =>
 ifD t22 (
 callD prog 40 #[t0, (i64 12), (i64 0), (i64 1)] w9 fun _ w =>
 R (.tuple #[]) w) (
 V prog (do eqGuard .eql 3 (.tmp 4) (.const (i64 10)) t1 (i64 10); binOp .eql 3 t1 (i64 10)) w9 fun t26 w11 =>
 ifD t26 (
 callD prog 40 #[t0, (i64 24), (i64 0), (i64 1)] w11 fun _ w =>
 R (.tuple #[]) w) (
 V prog (do eqGuard .eql 3 (.tmp 4) (.const (i64 11)) t1 (i64 11); binOp .eql 3 t1 (i64 11)) w11 fun t30 w13 =>
 ifD t30 (
 callD prog 40 #[t0, (i64 13), (i64 0), (i64 1)] w13 fun _ w =>
 R (.tuple #[]) w) (
 V prog (do eqGuard .eql 3 (.tmp 4) (.const (i64 12)) t1 (i64 12); binOp .eql 3 t1 (i64 12)) w13 fun t34 w15 =>
 ifD t34 (
 callD prog 65 #[t0, (i64 14)] w15 fun _ w =>
 R (.tuple #[]) w) (
 V prog (do eqGuard .eql 3 (.tmp 4) (.const (i64 13)) t1 (i64 13); binOp .eql 3 t1 (i64 13)) w15 fun t38 w17 =>
 ifD t38 (
 callD prog 65 #[t0, (i64 15)] w17 fun _ w =>
 R (.tuple #[]) w) (
 V prog (do eqGuard .eql 3 (.tmp 4) (.const (i64 14)) t1 (i64 14); binOp .eql 3 t1 (i64 14)) w17 fun t42 w19 =>
 ifD t42 (
 callD prog 65 #[t0, (i64 16)] w19 fun _ w =>
 R (.tuple #[]) w) (
 V prog (do eqGuard .eql 3 (.tmp 4) (.const (i64 19)) t1 (i64 19); binOp .eql 3 t1 (i64 19)) w19 fun t46 w21 =>
 ifD t46 (
 V prog (build 72 #[(0, (i64 5)), (1, (i64 0)), (2, (i64 0)), (3, (i64 1))]) w21 fun t48 w =>
 callD prog 51 #[t0, t48] w fun _ w =>
 callD prog 66 #[t0] w fun _ w =>
 R (.tuple #[]) w) (
 V prog (do eqGuard .eql 3 (.tmp 4) (.const (i64 20)) t1 (i64 20); binOp .eql 3 t1 (i64 20)) w21 fun t53 w25 =>
 ifD t53 (
 callD prog 42 #[t0, (i64 2), (Value.int IntKind.i32 (-2147483648))] w25 fun _ w =>
 callD prog 40 #[t0, (i64 13), (i64 0), (i64 2)] w fun _ w =>
 callD prog 40 #[t0, (i64 13), (i64 1), (i64 2)] w fun _ w =>
 callD prog 67 #[t0] w fun _ w =>
 R (.tuple #[]) w) (
 callD prog 67 #[t0] w25 fun _ w =>
 R (.tuple #[]) w)))))))))))
theorem F45_wp (h : F45_den t0 t1 w R) : callD prog 45 #[t0, t1] w R :=
  den_wp mixed F45_ann func45 (by kernel_rfl) (by kernel_rfl) h
def F46_ann : Ann := (q (.block (q (.cond .leaf (q (.cond .leaf .leaf))))))
def F46_den (t0 t1 : Value) (w : World) (R : Value → World → Prop) : Prop :=
 V prog (do eqGuard .eql 3 (.tmp 4) (.const (i64 15)) t1 (i64 15); binOp .eql 3 t1 (i64 15)) w fun t8 w1 =>
 ifD t8 (
 callD prog 40 #[t0, (i64 21), (i64 0), (i64 0)] w1 fun _ w =>
 R (.tuple #[]) w) (
 V prog (do eqGuard .eql 3 (.tmp 4) (.const (i64 16)) t1 (i64 16); binOp .eql 3 t1 (i64 16)) w1 fun t12 w3 =>
 ifD t12 (
 callD prog 40 #[t0, (i64 27), (i64 0), (i64 0)] w3 fun _ w =>
 R (.tuple #[]) w) (
 callD prog 66 #[t0] w3 fun _ w =>
 R (.tuple #[]) w))
theorem F46_wp (h : F46_den t0 t1 w R) : callD prog 46 #[t0, t1] w R :=
  den_wp mixed F46_ann func46 (by kernel_rfl) (by kernel_rfl) h
def F47_ann : Ann := (q (q (q (q .leaf))))
def F47_den (t0 : Value) (w : World) (R : Value → World → Prop) : Prop :=
 callD prog 40 #[t0, (i64 21), (i64 0), (i64 0)] w fun _ w =>
 callD prog 40 #[t0, (i64 18), (i64 0), (i64 0)] w fun _ w =>
 callD prog 40 #[t0, (i64 13), (i64 1), (i64 2)] w fun _ w =>
 callD prog 40 #[t0, (i64 12), (i64 0), (i64 1)] w fun _ w =>
 callD prog 40 #[t0, (i64 13), (i64 0), (i64 2)] w fun _ w =>
 R (.tuple #[]) w
theorem F47_wp (h : F47_den t0 w R) : callD prog 47 #[t0] w R :=
  den_wp mixed F47_ann func47 (by kernel_rfl) (by kernel_rfl) h
def F48_ann : Ann := (q (q (q (q .leaf))))
def F48_den (t0 t1 : Value) (w : World) (R : Value → World → Prop) : Prop :=
 callD prog 41 #[t0, (i64 9), (i64 7), (i64 0)] w fun _ w =>
 callD prog 49 #[t0, (i64 1), t1] w fun _ w =>
 V prog (build 72 #[(0, (i64 44))]) w fun t10 w =>
 callD prog 51 #[t0, t10] w fun _ w =>
 callD prog 19 #[t0, t1] w fun _ w =>
 callD prog 41 #[t0, (i64 11), (i64 7), (i64 1)] w fun _ w =>
 R (.tuple #[]) w
theorem F48_wp (h : F48_den t0 t1 w R) : callD prog 48 #[t0, t1] w R :=
  den_wp mixed F48_ann func48 (by kernel_rfl) (by kernel_rfl) h
def F49_ann : Ann := .leaf
def F49_den (t0 t1 t2 : Value) (w : World) (R : Value → World → Prop) : Prop :=
 Go.Vc.Safe (t0) ∧
 V prog (fieldAt 65 t0 3) w fun t9 w =>
 V prog (fieldAt 33 t9 0) w fun t10 w =>
 V prog (loadAt 31 t10) w fun t11 w =>
 V prog (build 74 #[(0, (i64 3)), (3, t1), (2, t2)]) w fun t14 w =>
 V prog (buildSlice 31 1 #[(0, t14)]) w fun t15 w =>
 V prog (Builtin.append_ #[31, 31] 31 #[t11, t15]) w fun t16 w =>
 Go.Vc.Safe (t0) ∧
 V prog (fieldAt 65 t0 3) w fun t18 w =>
 V prog (fieldAt 33 t18 0) w fun t19 w =>
 U prog (storeAt 31 t19 t16) w fun _ w =>
 R (.tuple #[]) w
theorem F49_wp (h : F49_den t0 t1 t2 w R) : callD prog 49 #[t0, t1, t2] w R :=
  den_wp mixed F49_ann func49 (by kernel_rfl) (by kernel_rfl) h
def F50_ann : Ann := .leaf
def F50_den (t0 : Value) (w : World) (R : Value → World → Prop) : Prop :=
 Go.Vc.Safe (t0) ∧
 V prog (fieldAt 65 t0 2) w fun t5 w =>
 V prog (loadAt 3 t5) w fun t6 w =>
 V prog (binOp .mul 3 (i64 64) t6) w fun t7 w =>
 V prog (binOp .add 3 (i64 131072) t7) w fun t8 w =>
 V prog (convert 3 21 t8) w fun t9 w =>
 callD prog 42 #[t0, (i64 1), t9] w fun _ w =>
 R (.tuple #[]) w
theorem F50_wp (h : F50_den t0 w R) : callD prog 50 #[t0] w R :=
  den_wp mixed F50_ann func50 (by kernel_rfl) (by kernel_rfl) h
def F51_ann : Ann := (q (.draw [0, 0, 2, 4, 8, 16, 0, 64, 128, 288, 1023, 2047, 3071, 5119] [0, 0, 2, 4, 8, 16, 0, 64, 128, 288, 1, 1024, 2048, 4608] 0 13 8191 (tk (rg 0 7) (.only 8 (.only 9 (tk [10, 11, 12] (.last 13)))))))
def F51_den (t0 t1 : Value) (w : World) (R : Value → World → Prop) : Prop :=
 V prog (box 72 t1) w fun t3 w =>
 drawD w fun S1 w =>
 Go.Vc.Safe (t0) ∧
 yieldS prog S1 (fieldAt 65 t0 3) fun t7 =>
 yieldS prog S1 (fieldAt 33 t7 0) fun t8 =>
 yieldS prog S1 (loadAt 31 t8) fun t9 =>
 yieldS prog S1 (loadAt 72 t3) fun t10 =>
 yieldS prog S1 (build 74 #[(0, (i64 1)), (1, t10)]) fun t11 =>
 V prog (buildSlice 31 1 #[(0, t11)]) w fun t12 w =>
 S1 w ∧
 V prog (Builtin.append_ #[31, 31] 31 #[t9, t12]) w fun t13 w =>
 S1 w ∧
 Go.Vc.Safe (t0) ∧
 yieldS prog S1 (fieldAt 65 t0 3) fun t15 =>
 yieldS prog S1 (fieldAt 33 t15 0) fun t16 =>
 U prog (storeAt 31 t16 t13) w fun _ w =>
 R (.tuple #[]) w
theorem F51_wp (h : F51_den t0 t1 w R) : callD prog 51 #[t0, t1] w R :=
  den_wp mixed F51_ann func51 (by kernel_rfl) (by kernel_rfl) h
def F52_ann : Ann := (q (q (q (q (q (.cond .leaf .leaf))))))
def F52_den (t0 t1 : Value) (w : World) (R : Value → World → Prop) : Prop :=
 callD prog 44 #[t1] w fun t7 w =>
 callD prog 43 #[t0, t7] w fun _ w =>
 Go.Vc.Safe (t0) ∧
 V prog (fieldAt 65 t0 3) w fun t12 w =>
 V prog (fieldAt 33 t12 1) w fun t13 w =>
 V prog (loadAt 23 t13) w fun t14 w =>
 V prog (buildSlice 23 1 #[(0, t1)]) w fun t16 w =>
 V prog (Builtin.append_ #[23, 23] 23 #[t14, t16]) w fun t17 w =>
 Go.Vc.Safe (t0) ∧
 V prog (fieldAt 65 t0 3) w fun t19 w =>
 V prog (fieldAt 33 t19 1) w fun t20 w =>
 U prog (storeAt 23 t20 t17) w fun _ w =>
 Go.Vc.Safe (t0) ∧
 V prog (fieldAt 65 t0 3) w fun t24 w =>
 V prog (fieldAt 33 t24 1) w fun t25 w =>
 V prog (loadAt 23 t25) w fun t26 w =>
 V prog (Builtin.len_ #[23] 3 #[t26]) w fun t27 w =>
 V prog (binOp .add 3 (i64 1) t27) w fun t28 w =>
 V prog (binOp .sub 3 t28 (i64 1)) w fun t29 w =>
 V prog (build 72 #[(0, (i64 44)), (4, t29)]) w fun t30 w =>
 callD prog 51 #[t0, t30] w fun _ w =>
 callD prog 37 #[t1] w fun t33 w =>
 V prog (binOp .geq 3 t33 (i64 0)) w fun t35 w23 =>
 ifD t35 (
 callD prog 18 #[t0, t33, (i64 0)] w23 fun _ w =>
 R (.tuple #[]) w) (
 R (.tuple #[]) w23)
theorem F52_wp (h : F52_den t0 t1 w R) : callD prog 52 #[t0, t1] w R :=
  den_wp mixed F52_ann func52 (by kernel_rfl) (by kernel_rfl) h
def F53_ann : Ann := (q (.seq (q (.block (.loop ([4, 5] ++ rg 8 18) [8] (q (.seq (.cond .leaf .leaf) (.seq (.block (q (q (.cond (q .leaf) .leaf)))) .leaf)))))) (q .leaf)))
def F53_den (t0 t1 : Value) (w : World) (R : Value → World → Prop) : Prop :=
 V prog (Builtin.len_ #[31] 3 #[t0]) w fun t7 w =>
 ∃ (I1 : NP 1) (μ1 : NF 1), I1 (i64 0) w ∧
 ∀ (t8 : Value), ∀ w2 : World, I1 t8 w2 → ∀ _f : Env,
 V prog (binOp .lss 3 t8 t7) w2 fun t9 w3 =>
 ifD t9 (
 V prog (indexAt 31 t0 t8) w3 fun t14 w =>
 V prog (loadAt 74 t14) w fun t15 w =>
 dynD prog t1 #[t15] w fun t16 w =>
 ifD t16 (
 R t8 w) (
 V prog (binOp .add 3 t8 (i64 1)) w fun t18 w =>
 I1 t18 w ∧ μ1 t18 w < μ1 t8 w2)) (
 R (i64 (-1)) w3)
theorem F53_wp (h : F53_den t0 t1 w R) : callD prog 53 #[t0, t1] w R :=
  den_wp mixed F53_ann func53 (by kernel_rfl) (by kernel_rfl) h
def F54_ann : Ann := (q (.seq (q (.block (q (.cond (q .leaf) (q (.cond (q .leaf) .leaf)))))) (q (.seq (q (.block (.loop ([4, 5] ++ rg 71 81) [4, 71] (q (.seq (.cond .leaf .leaf) (.seq (.block (q .leaf)) .leaf)))))) (q .leaf)))))
def F54_den (t0 : Value) (w : World) (R : Value → World → Prop) : Prop :=
 V prog (box 72 t0) w fun t1 w =>
 V prog (fieldAt 72 t1 0) w fun t6 w =>
 V prog (loadAt 3 t6) w fun t7 w =>
 V prog (do eqGuard .eql 3 (.tmp 7) (.const (i64 28)) t7 (i64 28); binOp .eql 3 t7 (i64 28)) w fun t9 w4 =>
 ifD t9 (
 V prog (loadAt 72 t1) w4 fun t10 w =>
 V prog (fieldAt 72 t1 1) w fun t11 w =>
 V prog (loadAt 3 t11) w fun t12 w =>
 V prog (fieldAt 72 t1 3) w fun t13 w =>
 V prog (loadAt 3 t13) w fun t14 w =>
 V prog (build 72 #[(0, (i64 28)), (1, t12), (3, t14)]) w fun t15 w =>
 V prog (do eqGuard .eql 72 (.tmp 10) (.tmp 15) t10 t15; binOp .eql 72 t10 t15) w fun t16 w =>
 gd t16 true (fun K => V prog (fieldAt 72 t1 1) w K) w fun t18 w =>
 gd t16 true (fun K => V prog (loadAt 3 t18) w K) w fun t19 w =>
 gd t16 true (fun K => V prog (binOp .geq 3 t19 (i64 0)) w K) w fun t20 w =>
 pickD t16 t20 (.bool false) fun t21 =>
 gd t21 true (fun K => V prog (fieldAt 72 t1 1) w K) w fun t23 w =>
 gd t21 true (fun K => V prog (loadAt 3 t23) w K) w fun t24 w =>
 gd t21 true (fun K => V prog (binOp .lss 3 t24 (i64 15)) w K) w fun t25 w =>
 pickD t21 t25 (.bool false) fun t26 =>
 gd t26 true (fun K => V prog (fieldAt 72 t1 1) w K) w fun t28 w =>
 gd t26 true (fun K => V prog (loadAt 3 t28) w K) w fun t29 w =>
 gd t26 true (fun K => V prog (do eqGuard .neq 3 (.tmp 29) (.const (i64 13)) t29 (i64 13); binOp .neq 3 t29 (i64 13)) w K) w fun t30 w =>
 pickD t26 t30 (.bool false) fun t31 =>
 gd t31 true (fun K => V prog (fieldAt 72 t1 3) w K) w fun t33 w =>
 gd t31 true (fun K => V prog (loadAt 3 t33) w K) w fun t34 w =>
 gd t31 true (fun K => V prog (binOp .geq 3 t34 (i64 0)) w K) w fun t35 w =>
 pickD t31 t35 (.bool false) fun t36 =>
 gd t36 true (fun K => V prog (fieldAt 72 t1 3) w K) w fun t38 w =>
 gd t36 true (fun K => V prog (loadAt 3 t38) w K) w fun t39 w =>
 gd t36 true (fun K => V prog (binOp .lss 3 t39 (i64 15)) w K) w fun t40 w =>
 pickD t36 t40 (.bool false) fun t41 =>
 R t41 w) (
 V prog (do eqGuard .eql 3 (.tmp 7) (.const (i64 43)) t7 (i64 43); binOp .eql 3 t7 (i64 43)) w4 fun t43 w32 =>
 ifD t43 (
 V prog (loadAt 72 t1) w32 fun t44 w =>
 V prog (fieldAt 72 t1 4) w fun t45 w =>
 V prog (loadAt 3 t45) w fun t46 w =>
 V prog (build 72 #[(0, (i64 43)), (4, t46)]) w fun t47 w =>
 V prog (do eqGuard .eql 72 (.tmp 44) (.tmp 47) t44 t47; binOp .eql 72 t44 t47) w fun t48 w =>
 gd t48 true (fun K => V prog (fieldAt 72 t1 4) w K) w fun t50 w =>
 gd t48 true (fun K => V prog (loadAt 3 t50) w K) w fun t51 w =>
 gd t48 true (fun K => V prog (binOp .geq 3 t51 (i64 (-16777216))) w K) w fun t52 w =>
 pickD t48 t52 (.bool false) fun t53 =>
 gd t53 true (fun K => V prog (fieldAt 72 t1 4) w K) w fun t55 w =>
 gd t53 true (fun K => V prog (loadAt 3 t55) w K) w fun t56 w =>
 gd t53 true (fun K => V prog (binOp .leq 3 t56 (i64 16777214)) w K) w fun t57 w =>
 pickD t53 t57 (.bool false) fun t58 =>
 gd t58 true (fun K => V prog (fieldAt 72 t1 4) w K) w fun t60 w =>
 gd t58 true (fun K => V prog (loadAt 3 t60) w K) w fun t61 w =>
 gd t58 true (fun K => V prog (binOp .rem 3 t61 (i64 2)) w K) w fun t62 w =>
 gd t58 true (fun K => V prog (do eqGuard .eql 3 (.tmp 62) (.const (i64 0)) t62 (i64 0); binOp .eql 3 t62 (i64 0)) w K) w fun t63 w =>
 pickD t58 t63 (.bool false) fun t64 =>
 R t64 w) (
 V prog (fieldAt 72 t1 0) w32 fun t66 w =>
 V prog (loadAt 3 t66) w fun t67 w =>
 callD prog 68 #[t67] w fun t68 w =>
 V prog (extract t68 0) w fun t69 w =>
 V prog (extract t68 1) w fun t70 w =>
 V prog (alloc 136 true (.tuple #[])) w fun t3 w =>
 U prog (storeAt 136 t3 t69) w fun _ w =>
 ∃ (I1 : NP 2) (μ1 : NF 2), I1 t70 (i64 0) w ∧
 ∀ (t4 : Value) (t71 : Value), ∀ w58 : World, I1 t4 t71 w58 → ∀ _f : Env,
 V prog (binOp .lss 3 t71 (i64 5)) w58 fun t72 w59 =>
 ifD t72 (
 gd t4 true (fun K => V prog (loadAt 136 t3) w59 K) w59 fun t76 w =>
 gd t4 true (fun K => V prog (loadAt 72 t1) w K) w fun t77 w =>
 gd t4 true (fun K => K t71 w) w fun t78 w =>
 gd t4 true (fun K => callD prog 69 #[t76, t77, t78] w K) w fun t79 w =>
 pickD t4 t79 (.bool false) fun t80 =>
 V prog (binOp .add 3 t71 (i64 1)) w fun t81 w =>
 I1 t80 t81 w ∧ μ1 t80 t81 w < μ1 t4 t71 w58) (
 R t4 w59)))
theorem F54_wp (h : F54_den t0 w R) : callD prog 54 #[t0] w R :=
  den_wp mixed F54_ann func54 (by kernel_rfl) (by kernel_rfl) h
def F55_ann : Ann := (q (.seq (q (.block (.join (rg 5 8) [5] (q (.cond .leaf (q (.cond .leaf .leaf)))) (.cond (q .leaf) (q (.cond (q .leaf) .leaf)))))) (q .leaf)))
def F55_den (t0 : Value) (w : World) (R : Value → World → Prop) : Prop :=
 V prog (box 72 t0) w fun t1 w =>
 V prog (fieldAt 72 t1 0) w fun t3 w =>
 V prog (loadAt 3 t3) w fun t4 w =>
 ∃ J1 : NP 1,
 (V prog (do eqGuard .eql 3 (.tmp 4) (.const (i64 41)) t4 (i64 41); binOp .eql 3 t4 (i64 41)) w fun t6 w =>
 ifD t6 (
 J1 t6 w) (
 V prog (do eqGuard .eql 3 (.tmp 4) (.const (i64 42)) t4 (i64 42); binOp .eql 3 t4 (i64 42)) w fun t7 w =>
 ifD t7 (
 J1 t7 w) (
 V prog (do eqGuard .eql 3 (.tmp 4) (.const (i64 43)) t4 (i64 43); binOp .eql 3 t4 (i64 43)) w fun t8 w =>
 J1 t8 w))) ∧
 ∀ (t5 : Value), ∀ w : World, J1 t5 w → ∀ _f : Env,
 ifD t5 (
 R (.bool false) w) (
 V prog (do eqGuard .eql 3 (.tmp 4) (.const (i64 40)) t4 (i64 40); binOp .eql 3 t4 (i64 40)) w fun t10 w8 =>
 ifD t10 (
 V prog (fieldAt 72 t1 4) w8 fun t11 w =>
 V prog (loadAt 3 t11) w fun t12 w =>
 V prog (binOp .and 3 t12 (i64 256)) w fun t13 w =>
 V prog (do eqGuard .eql 3 (.tmp 13) (.const (i64 0)) t13 (i64 0); binOp .eql 3 t13 (i64 0)) w fun t14 w =>
 R t14 w) (
 R (.bool true) w8))
theorem F55_wp (h : F55_den t0 w R) : callD prog 55 #[t0] w R :=
  den_wp mixed F55_ann func55 (by kernel_rfl) (by kernel_rfl) h
def F56_ann : Ann := (q (.seq (q (.cond (q .leaf) .leaf)) (q .leaf)))
def F56_den (t0 t1 : Value) (w : World) (R : Value → World → Prop) : Prop :=
 V prog (binOp .rem 3 t0 (i64 61)) w fun t5 w =>
 V prog (do eqGuard .eql 3 (.tmp 5) (.const (i64 60)) t5 (i64 60); binOp .eql 3 t5 (i64 60)) w fun t6 w2 =>
 ifD t6 (
 V prog (binOp .rem 3 t0 (i64 70)) w2 fun t8 w =>
 R t8 w) (
 V prog (loadAt 3 t1) w2 fun t10 w =>
 V prog (Builtin.max_ #[3, 3] 3 #[(i64 1), t10]) w fun t11 w =>
 callD prog 26 #[t0, t11] w fun t12 w =>
 R t12 w)
theorem F56_wp (h : F56_den t0 t1 w R) : callD prog 56 #[t0, t1] w R :=
  den_wp mixed F56_ann func56 (by kernel_rfl) (by kernel_rfl) h
def F57_ann : Ann := (q (.seq (q (.block (.join [4, 5, 6] [4] (q (.cond .leaf .leaf)) (.cond (q .leaf) (.join (rg 7 10) [7] (q (.cond .leaf (q (.cond .leaf .leaf)))) (.cond (q .leaf) (.join [11, 12, 13] [11] (q (.cond .leaf .leaf)) (.cond (q .leaf) (.seq (q (.cond .leaf .leaf)) (.cond (q .leaf) .leaf)))))))))) (q .leaf)))
def F57_den (t0 : Value) (w : World) (R : Value → World → Prop) : Prop :=
 ∃ J1 : NP 1,
 (V prog (do eqGuard .eql 3 (.tmp 3) (.const (i64 27)) t0 (i64 27); binOp .eql 3 t0 (i64 27)) w fun t5 w =>
 ifD t5 (
 J1 t5 w) (
 V prog (do eqGuard .eql 3 (.tmp 3) (.const (i64 28)) t0 (i64 28); binOp .eql 3 t0 (i64 28)) w fun t6 w =>
 J1 t6 w)) ∧
 ∀ (t4 : Value), ∀ w : World, J1 t4 w → ∀ _f : Env,
 ifD t4 (
 R (i64 1) w) (
 ∃ J2 : NP 1,
 (V prog (do eqGuard .eql 3 (.tmp 3) (.const (i64 17)) t0 (i64 17); binOp .eql 3 t0 (i64 17)) w fun t8 w =>
 ifD t8 (
 J2 t8 w) (
 V prog (do eqGuard .eql 3 (.tmp 3) (.const (i64 18)) t0 (i64 18); binOp .eql 3 t0 (i64 18)) w fun t9 w =>
 ifD t9 (
 J2 t9 w) (
 V prog (do eqGuard .eql 3 (.tmp 3) (.const (i64 29)) t0 (i64 29); binOp .eql 3 t0 (i64 29)) w fun t10 w =>
 J2 t10 w))) ∧
 ∀ (t7 : Value), ∀ w : World, J2 t7 w → ∀ _f : Env,
 ifD t7 (
 R (i64 2) w) (
 ∃ J3 : NP 1,
 (V prog (do eqGuard .eql 3 (.tmp 3) (.const (i64 30)) t0 (i64 30); binOp .eql 3 t0 (i64 30)) w fun t12 w =>
 ifD t12 (
 J3 t12 w) (
 V prog (do eqGuard .eql 3 (.tmp 3) (.const (i64 36)) t0 (i64 36); binOp .eql 3 t0 (i64 36)) w fun t13 w =>
 J3 t13 w)) ∧
 ∀ (t11 : Value), ∀ w : World, J3 t11 w → ∀ _f : Env,
 ifD t11 (
 R (i64 3) w) (
 V prog (do eqGuard .eql 3 (.tmp 3) (.const (i64 31)) t0 (i64 31); binOp .eql 3 t0 (i64 31)) w fun t15 w =>
 ifD t15 (
 ifD t15 (
 R (i64 5) w) (
 R (i64 (-1)) w)) (
 V prog (do eqGuard .eql 3 (.tmp 3) (.const (i64 32)) t0 (i64 32); binOp .eql 3 t0 (i64 32)) w fun t16 w =>
 ifD t16 (
 R (i64 5) w) (
 R (i64 (-1)) w)))))
theorem F57_wp (h : F57_den t0 w R) : callD prog 57 #[t0] w R :=
  den_wp mixed F57_ann func57 (by kernel_rfl) (by kernel_rfl) h
def F58_ann : Ann := (q (.seq (q (.block (q (.cond (q (q .leaf)) (q (.cond (q (q .leaf)) (q (.cond (q (q .leaf)) (q (.cond (q (q .leaf)) (q (.cond (q (.seq (.draw [0, 1, 2, 0, 8, 16, 36, 127] [0, 1, 2, 0, 8, 16, 36, 64] 0 8 255 (tk [0, 1, 3, 4, 5] (.only 2 (.take 6 (.take 7 .done))))) .leaf)) (q (.cond (q (q .leaf)) (q (.cond (q (q .leaf)) .leaf)))))))))))))))) (q .leaf)))
def F58_den (t0 : Value) (w : World) (R : Value → World → Prop) : Prop :=
 V prog (typeAssert t0 43 82 true) w fun t11 w =>
 V prog (extract t11 1) w fun t12 w =>
 V prog (extract t11 0) w fun t13 w3 =>
 ifD t12 (
 V prog (alloc 82 true (.tuple #[])) w3 fun t3 w =>
 U prog (storeAt 82 t3 t13) w fun _ w =>
 V prog (fieldAt 82 t3 0) w fun t14 w =>
 V prog (loadAt 3 t14) w fun t15 w =>
 callD prog 70 #[t15] w fun t16 w =>
 R t16 w) (
 V prog (typeAssert t0 43 84 true) w3 fun t17 w =>
 V prog (extract t17 1) w fun t18 w =>
 V prog (extract t17 0) w fun t19 w11 =>
 ifD t18 (
 V prog (alloc 84 true (.tuple #[])) w11 fun t4 w =>
 U prog (storeAt 84 t4 t19) w fun _ w =>
 V prog (fieldAt 84 t4 0) w fun t20 w =>
 V prog (loadAt 3 t20) w fun t21 w =>
 callD prog 71 #[t21] w fun t22 w =>
 R t22 w) (
 V prog (typeAssert t0 43 92 true) w11 fun t23 w =>
 V prog (extract t23 1) w fun t24 w =>
 V prog (extract t23 0) w fun t25 w19 =>
 ifD t24 (
 V prog (alloc 92 true (.tuple #[])) w19 fun t5 w =>
 U prog (storeAt 92 t5 t25) w fun _ w =>
 V prog (fieldAt 92 t5 1) w fun t26 w =>
 V prog (loadAt 3 t26) w fun t27 w =>
 callD prog 31 #[t27, (i64 8)] w fun t28 w =>
 R t28 w) (
 V prog (typeAssert t0 43 94 true) w19 fun t29 w =>
 V prog (extract t29 1) w fun t30 w =>
 V prog (extract t29 0) w fun t31 w27 =>
 ifD t30 (
 V prog (alloc 94 true (.tuple #[])) w27 fun t6 w =>
 U prog (storeAt 94 t6 t31) w fun _ w =>
 V prog (fieldAt 94 t6 0) w fun t32 w =>
 V prog (loadAt 3 t32) w fun t33 w =>
 callD prog 31 #[t33, (i64 8)] w fun t34 w =>
 R t34 w) (
 V prog (typeAssert t0 43 96 true) w27 fun t35 w =>
 V prog (extract t35 1) w fun t36 w =>
 V prog (extract t35 0) w fun t37 w35 =>
 ifD t36 (
 V prog (alloc 96 true (.tuple #[])) w35 fun t7 w =>
 U prog (storeAt 96 t7 t37) w fun _ w =>
 drawD w fun S16 w =>
 yieldS prog S16 (fieldAt 96 t7 0) fun t38 =>
 yieldS prog S16 (loadAt 3 t38) fun t39 =>
 yieldS prog S16 (fieldAt 96 t7 4) fun t41 =>
 yieldS prog S16 (loadAt 27 t41) fun t42 =>
 yieldS prog S16 (Builtin.len_ #[27] 3 #[t42]) fun t43 =>
 callD prog 72 #[t39] w fun t40 w =>
 S16 w ∧
 yieldS prog S16 (do eqGuard .eql 3 (.tmp 40) (.tmp 43) t40 t43; binOp .eql 3 t40 t43) fun t44 =>
 R t44 w) (
 V prog (typeAssert t0 43 98 true) w35 fun t45 w =>
 V prog (extract t45 1) w fun t46 w =>
 V prog (extract t45 0) w fun t47 w42 =>
 ifD t46 (
 V prog (alloc 98 true (.tuple #[])) w42 fun t8 w =>
 U prog (storeAt 98 t8 t47) w fun _ w =>
 V prog (fieldAt 98 t8 0) w fun t48 w =>
 V prog (loadAt 3 t48) w fun t49 w =>
 callD prog 31 #[t49, (i64 8)] w fun t50 w =>
 gd t50 true (fun K => V prog (fieldAt 98 t8 2) w K) w fun t52 w =>
 gd t50 true (fun K => V prog (loadAt 27 t52) w K) w fun t53 w =>
 gd t50 true (fun K => V prog (Builtin.len_ #[27] 3 #[t53]) w K) w fun t54 w =>
 gd t50 true (fun K => V prog (binOp .leq 3 t54 (i64 4)) w K) w fun t55 w =>
 pickD t50 t55 (.bool false) fun t56 =>
 R t56 w) (
 V prog (typeAssert t0 43 100 true) w42 fun t57 w =>
 V prog (extract t57 1) w fun t58 w =>
 V prog (extract t57 0) w fun t59 w55 =>
 ifD t58 (
 V prog (alloc 100 true (.tuple #[])) w55 fun t9 w =>
 U prog (storeAt 100 t9 t59) w fun _ w =>
 V prog (fieldAt 100 t9 0) w fun t60 w =>
 V prog (loadAt 3 t60) w fun t61 w =>
 callD prog 31 #[t61, (i64 4)] w fun t62 w =>
 gd t62 true (fun K => V prog (fieldAt 100 t9 2) w K) w fun t64 w =>
 gd t62 true (fun K => V prog (loadAt 27 t64) w K) w fun t65 w =>
 gd t62 true (fun K => V prog (Builtin.len_ #[27] 3 #[t65]) w K) w fun t66 w =>
 gd t62 true (fun K => V prog (binOp .leq 3 t66 (i64 4)) w K) w fun t67 w =>
 pickD t62 t67 (.bool false) fun t68 =>
 R t68 w) (
 V prog (do eqGuard .neq 43 (.tmp 69) (.const Value.nilIface) t0 Value.nilIface; binOp .neq 43 t0 Value.nilIface) w55 fun t70 w =>
 R t70 w)))))))
theorem F58_wp (h : F58_den t0 w R) : callD prog 58 #[t0] w R :=
  den_wp mixed F58_ann func58 (by kernel_rfl) (by kernel_rfl) h
def F59_ann : Ann := (q (.seq (q (.block (q (.cond (q (q .leaf)) (q (.cond (q (q .leaf)) (q (.cond (q (q (.cond (q .leaf) .leaf))) (q (.cond (q (q .leaf)) .leaf)))))))))) (q .leaf)))
def F59_den (t0 t1 : Value) (w : World) (R : Value → World → Prop) : Prop :=
 V prog (do eqGuard .eql 43 (.tmp 9) (.const Value.nilIface) t0 Value.nilIface; binOp .eql 43 t0 Value.nilIface) w fun t10 w =>
 ifD t10 (
 R nilS w) (
 V prog (typeAssert t0 43 88 true) w fun t11 w =>
 V prog (extract t11 1) w fun t12 w =>
 V prog (extract t11 0) w fun t13 w4 =>
 ifD t12 (
 V prog (alloc 88 true (.tuple #[])) w4 fun t6 w =>
 U prog (storeAt 88 t6 t13) w fun _ w =>
 V prog (fieldAt 88 t6 0) w fun t14 w =>
 V prog (loadAt 3 t14) w fun t15 w =>
 V prog (buildSlice 27 1 #[(0, t15)]) w fun t16 w =>
 R t16 w) (
 V prog (typeAssert t0 43 90 true) w4 fun t17 w =>
 V prog (extract t17 1) w fun t18 w =>
 V prog (extract t17 0) w fun t19 w12 =>
 ifD t18 (
 V prog (alloc 90 true (.tuple #[])) w12 fun t7 w =>
 U prog (storeAt 90 t7 t19) w fun _ w =>
 V prog (fieldAt 90 t7 1) w fun t20 w =>
 V prog (loadAt 3 t20) w fun t21 w =>
 V prog (binOp .add 3 t1 (i64 1)) w fun t23 w =>
 V prog (do eqGuard .neq 3 (.tmp 21) (.tmp 23) t21 t23; binOp .neq 3 t21 t23) w fun t24 w18 =>
 ifD t24 (
 V prog (binOp .add 3 t1 (i64 1)) w18 fun t26 w =>
 V prog (fieldAt 90 t7 1) w fun t27 w =>
 V prog (loadAt 3 t27) w fun t28 w =>
 V prog (buildSlice 27 2 #[(0, t26), (1, t28)]) w fun t29 w =>
 R t29 w) (
 V prog (binOp .add 3 t1 (i64 1)) w18 fun t34 w =>
 V prog (buildSlice 27 1 #[(0, t34)]) w fun t35 w =>
 R t35 w)) (
 V prog (typeAssert t0 43 49 true) w12 fun t30 w =>
 V prog (extract t30 1) w fun t31 w =>
 V prog (extract t30 0) w fun t32 w27 =>
 ifD t31 (
 V prog (alloc 49 true (.tuple #[])) w27 fun t8 w =>
 U prog (storeAt 49 t8 t32) w fun _ w =>
 R nilS w) (
 V prog (binOp .add 3 t1 (i64 1)) w27 fun t34_1 w =>
 V prog (buildSlice 27 1 #[(0, t34_1)]) w fun t35_1 w =>
 R t35_1 w))))
theorem F59_wp (h : F59_den t0 t1 w R) : callD prog 59 #[t0, t1] w R :=
  den_wp mixed F59_ann func59 (by kernel_rfl) (by kernel_rfl) h
def F60_ann : Ann := (q (.seq (q (.block (q (.cond (q .leaf) .leaf)))) (q .leaf)))
def F60_den (t0 : Value) (w : World) (R : Value → World → Prop) : Prop :=
 V prog (typeAssert t0 43 78 true) w fun t4 w =>
 V prog (extract t4 1) w fun t5 w =>
 V prog (extract t4 0) w fun _ w =>
 V prog (typeAssert t0 43 80 true) w fun t7 w =>
 V prog (extract t7 1) w fun t8 w =>
 V prog (extract t7 0) w fun _ w =>
 V prog (typeAssert t0 43 82 true) w fun t10 w =>
 V prog (extract t10 1) w fun t11 w =>
 V prog (extract t10 0) w fun _ w =>
 V prog (typeAssert t0 43 84 true) w fun t13 w =>
 V prog (extract t13 1) w fun t14 w =>
 V prog (extract t13 0) w fun _ w =>
 V prog (typeAssert t0 43 86 true) w fun t16 w =>
 V prog (extract t16 1) w fun t17 w =>
 V prog (extract t16 0) w fun _ w =>
 V prog (typeAssert t0 43 92 true) w fun t19 w =>
 V prog (extract t19 1) w fun t20 w =>
 V prog (extract t19 0) w fun _ w =>
 pickD t17 (.bool true) t20 fun t22 =>
 pickD t14 (.bool true) t22 fun t23 =>
 pickD t11 (.bool true) t23 fun t24 =>
 pickD t8 (.bool true) t24 fun t25 =>
 pickD t5 (.bool true) t25 fun t26 =>
 ifD t26 (
 R (.bool false) w) (
 R (.bool true) w)
theorem F60_wp (h : F60_den t0 w R) : callD prog 60 #[t0] w R :=
  den_wp mixed F60_ann func60 (by kernel_rfl) (by kernel_rfl) h
def F61_ann : Ann := (q (q (.join ([6] ++ rg 11 17) [] (q (q (.cond .leaf .leaf))) (.seq (q (.block (.loop ([8] ++ rg 21 28) [21] (q (.seq (.cond .leaf .leaf) (.seq (.block (q .leaf)) .leaf)))))) (q .leaf)))))
def F61_den (t0 t1 : Value) (w : World) (R : Value → World → Prop) : Prop :=
 callD prog 73 #[t1] w fun t10 w =>
 ∃ J1 : NP 0,
 (callD prog 37 #[t0] w fun t12 w =>
 V prog (binOp .geq 3 t12 (i64 0)) w fun t14 w3 =>
 ifD t14 (
 V prog (indexAt 57 t10 t12) w3 fun t17 w =>
 U prog (storeAt 4 t17 (.bool false)) w fun _ w =>
 J1 w) (
 J1 w3)) ∧
 ∀ w : World, J1 w → ∀ _f : Env,
 callD prog 44 #[t0] w fun t19 w =>
 V prog (Builtin.len_ #[27] 3 #[t19]) w fun t20 w =>
 ∃ (I2 : NP 1) (μ2 : NF 1), I2 (i64 0) w ∧
 ∀ (t21 : Value), ∀ w9 : World, I2 t21 w9 → ∀ _f : Env,
 V prog (binOp .lss 3 t21 t20) w9 fun t22 w10 =>
 ifD t22 (
 V prog (indexAt 27 t19 t21) w10 fun t23 w =>
 V prog (loadAt 3 t23) w fun t24 w =>
 V prog (indexAt 57 t10 t24) w fun t27 w =>
 U prog (storeAt 4 t27 (.bool true)) w fun _ w =>
 V prog (binOp .add 3 t21 (i64 1)) w fun t28 w =>
 I2 t28 w ∧ μ2 t28 w < μ2 t21 w9) (
 R t10 w10)
theorem F61_wp (h : F61_den t0 t1 w R) : callD prog 61 #[t0, t1] w R :=
  den_wp mixed F61_ann func61 (by kernel_rfl) (by kernel_rfl) h
def F62_ann : Ann := (q (.seq (q (.block (q (.cond (q .leaf) .leaf)))) (q .leaf)))
def F62_den (t0 : Value) (w : World) (R : Value → World → Prop) : Prop :=
 V prog (typeAssert t0 43 78 true) w fun t4 w =>
 V prog (extract t4 1) w fun t5 w =>
 V prog (extract t4 0) w fun _ w =>
 V prog (typeAssert t0 43 80 true) w fun t7 w =>
 V prog (extract t7 1) w fun t8 w =>
 V prog (extract t7 0) w fun _ w =>
 V prog (typeAssert t0 43 82 true) w fun t10 w =>
 V prog (extract t10 1) w fun t11 w =>
 V prog (extract t10 0) w fun _ w =>
 V prog (typeAssert t0 43 84 true) w fun t13 w =>
 V prog (extract t13 1) w fun t14 w =>
 V prog (extract t13 0) w fun _ w =>
 V prog (typeAssert t0 43 86 true) w fun t16 w =>
 V prog (extract t16 1) w fun t17 w =>
 V prog (extract t16 0) w fun _ w =>
 V prog (typeAssert t0 43 47 true) w fun t19 w =>
 V prog (extract t19 1) w fun t20 w =>
 V prog (extract t19 0) w fun _ w =>
 V prog (typeAssert t0 43 88 true) w fun t22 w =>
 V prog (extract t22 1) w fun t23 w =>
 V prog (extract t22 0) w fun _ w =>
 V prog (typeAssert t0 43 90 true) w fun t25 w =>
 V prog (extract t25 1) w fun t26 w =>
 V prog (extract t25 0) w fun _ w =>
 pickD t23 (.bool true) t26 fun t28 =>
 pickD t20 (.bool true) t28 fun t29 =>
 pickD t17 (.bool true) t29 fun t30 =>
 pickD t14 (.bool true) t30 fun t31 =>
 pickD t11 (.bool true) t31 fun t32 =>
 pickD t8 (.bool true) t32 fun t33 =>
 pickD t5 (.bool true) t33 fun t34 =>
 ifD t34 (
 R (.bool true) w) (
 R (.bool false) w)
theorem F62_wp (h : F62_den t0 w R) : callD prog 62 #[t0] w R :=
  den_wp mixed F62_ann func62 (by kernel_rfl) (by kernel_rfl) h
def F63_ann : Ann := (q (.seq (q (.cond (q .leaf) .leaf)) .leaf))
def F63_den (t0 t1 t2 : Value) (w : World) (R : Value → World → Prop) : Prop :=
 Go.Vc.Safe (t0) ∧
 V prog (fieldAt 65 t0 1) w fun t9 w =>
 V prog (fieldAt 29 t9 0) w fun t10 w =>
 V prog (loadAt 27 t10) w fun t11 w =>
 V prog (indexAt 27 t11 t2) w fun t13 w =>
 V prog (loadAt 3 t13) w fun t14 w =>
 V prog (binOp .lss 3 t14 (i64 16)) w fun t16 w7 =>
 ifD t16 (
 callD prog 40 #[t0, (i64 28), t1, t14] w7 fun _ w =>
 R (.tuple #[]) w) (
 V prog (binOp .sub 3 t14 (i64 16)) w7 fun t24 w =>
 V prog (binOp .mul 3 (i64 4) t24) w fun t25 w =>
 callD prog 41 #[t0, (i64 35), t1, t25] w fun _ w =>
 R (.tuple #[]) w)
theorem F63_wp (h : F63_den t0 t1 t2 w R) : callD prog 63 #[t0, t1, t2] w R :=
  den_wp mixed F63_ann func63 (by kernel_rfl) (by kernel_rfl) h
def F64_ann : Ann := (q (.seq (q (.cond (q .leaf) .leaf)) (q .leaf)))
def F64_den (t0 : Value) (w : World) (R : Value → World → Prop) : Prop :=
 V prog (do eqGuard .eql 27 (.tmp 3) (.const nilS) t0 nilS; binOp .eql 27 t0 nilS) w fun t4 w =>
 ifD t4 (
 R nilS w) (
 V prog (buildSlice 27 0 #[]) w fun t5 w =>
 V prog (Builtin.append_ #[27, 27] 27 #[t5, t0]) w fun t7 w =>
 R t7 w)
theorem F64_wp (h : F64_den t0 w R) : callD prog 64 #[t0] w R :=
  den_wp mixed F64_ann func64 (by kernel_rfl) (by kernel_rfl) h
def F65_ann : Ann := (q (q .leaf))
def F65_den (t0 t1 : Value) (w : World) (R : Value → World → Prop) : Prop :=
 callD prog 41 #[t0, (i64 8), (i64 2), (i64 31)] w fun _ w =>
 callD prog 40 #[t0, (i64 12), (i64 1), (i64 2)] w fun _ w =>
 callD prog 40 #[t0, t1, (i64 0), (i64 1)] w fun _ w =>
 R (.tuple #[]) w
theorem F65_wp (h : F65_den t0 t1 w R) : callD prog 65 #[t0, t1] w R :=
  den_wp mixed F65_ann func65 (by kernel_rfl) (by kernel_rfl) h
def F66_ann : Ann := (q .leaf)
def F66_den (t0 : Value) (w : World) (R : Value → World → Prop) : Prop :=
 callD prog 40 #[t0, (i64 21), (i64 0), (i64 0)] w fun _ w =>
 callD prog 74 #[t0] w fun _ w =>
 R (.tuple #[]) w
theorem F66_wp (h : F66_den t0 w R) : callD prog 66 #[t0] w R :=
  den_wp mixed F66_ann func66 (by kernel_rfl) (by kernel_rfl) h
def F67_ann : Ann := (q (q .leaf))
def F67_den (t0 : Value) (w : World) (R : Value → World → Prop) : Prop :=
 callD prog 40 #[t0, (i64 22), (i64 0), (i64 1)] w fun _ w =>
 callD prog 40 #[t0, (i64 18), (i64 0), (i64 0)] w fun _ w =>
 callD prog 40 #[t0, (i64 21), (i64 0), (i64 0)] w fun _ w =>
 R (.tuple #[]) w
theorem F67_wp (h : F67_den t0 w R) : callD prog 67 #[t0] w R :=
  den_wp mixed F67_ann func67 (by kernel_rfl) (by kernel_rfl) h
def F68_ann : Ann := (q (q (q (.seq (q (.cond (q .leaf) .leaf)) (.seq (q (.cond (.seq (.draw [0, 0, 2, 4, 8, 16, 0, 0, 192, 289, 1023, 2047] [0, 0, 2, 4, 8, 16, 0, 0, 192, 289, 512, 0] 0 12 4095 (tk (rg 0 6) (.only 7 (.only 8 (.take 9 (.only 10 (.take 11 .done))))))) .leaf) .leaf)) (.seq (q (.block (q (.cond (.seq (.draw [0, 0, 0, 0, 14, 17, 63, 127] [0, 0, 0, 0, 14, 17, 32, 0] 0 8 255 (tk [0, 1, 2] (.only 3 (.only 4 (.take 5 (.only 6 (.take 7 .done))))))) .leaf) (q (.cond (.seq (.draw [0, 0, 0, 0, 14, 17, 63, 127] [0, 0, 0, 0, 14, 17, 32, 0] 0 8 255 (tk [0, 1, 2] (.only 3 (.only 4 (.take 5 (.only 6 (.take 7 .done))))))) .leaf) (q (.cond (.seq (.draw [0, 0, 0, 0, 14, 17, 63, 127] [0, 0, 0, 0, 14, 17, 32, 0] 0 8 255 (tk [0, 1, 2] (.only 3 (.only 4 (.take 5 (.only 6 (.take 7 .done))))))) .leaf) (q (.cond (q .leaf) (q (.cond (q .leaf) (q (.cond (.seq (.draw [0, 0, 0, 0, 14, 17, 63, 127] [0, 0, 0, 0, 14, 17, 32, 0] 0 8 255 (tk [0, 1, 2] (.only 3 (.only 4 (.take 5 (.only 6 (.take 7 .done))))))) .leaf) (q (.cond (.seq (.draw [0, 0, 0, 0, 14, 17, 63, 127] [0, 0, 0, 0, 14, 17, 32, 0] 0 8 255 (tk [0, 1, 2] (.only 3 (.only 4 (.take 5 (.only 6 (.take 7 .done))))))) .leaf) (q (.cond (q .leaf) (q (.cond (q .leaf) (q (.cond (.seq (.draw [0, 0, 0, 0, 14, 17, 63, 127] [0, 0, 0, 0, 14, 17, 32, 0] 0 8 255 (tk [0, 1, 2] (.only 3 (.only 4 (.take 5 (.only 6 (.take 7 .done))))))) .leaf) (q (.cond (.seq (.draw [0, 0, 0, 0, 14, 17, 63, 127] [0, 0, 0, 0, 14, 17, 32, 0] 0 8 255 (tk [0, 1, 2] (.only 3 (.only 4 (.take 5 (.only 6 (.take 7 .done))))))) .leaf) (q (.cond (.seq (.draw [0, 0, 0, 0, 14, 17, 63, 127] [0, 0, 0, 0, 14, 17, 32, 0] 0 8 255 (tk [0, 1, 2] (.only 3 (.only 4 (.take 5 (.only 6 (.take 7 .done))))))) .leaf) (q (.cond (.seq (.draw [0, 0, 0, 0, 14, 17, 63, 127] [0, 0, 0, 0, 14, 17, 32, 0] 0 8 255 (tk [0, 1, 2] (.only 3 (.only 4 (.take 5 (.only 6 (.take 7 .done))))))) .leaf) .leaf)))))))))))))))))))))))))))) (q .leaf)))))))
def F68_den (t0 : Value) (w : World) (R : Value → World → Prop) : Prop :=
 V prog (alloc 136 true (.tuple #[])) w fun t2 w =>
 callD prog 75 #[(i64 0), (i64 0)] w fun t9 w =>
 callD prog 75 #[(i64 2), (i64 3)] w fun t10 w =>
 callD prog 75 #[(i64 0), (i64 8)] w fun t11 w =>
 callD prog 75 #[(i64 1), (i64 3)] w fun t12 w =>
 V prog (alloc 143 true (.tuple #[])) w fun t4 w =>
 V prog (alloc 143 true (.tuple #[])) w fun t5 w =>
 V prog (alloc 143 true (.tuple #[])) w fun t6 w =>
 V prog (alloc 143 true (.tuple #[])) w fun t7 w =>
 U prog (storeAt 143 t4 t9) w fun _ w =>
 U prog (storeAt 143 t5 t10) w fun _ w =>
 U prog (storeAt 143 t6 t11) w fun _ w =>
 U prog (storeAt 143 t7 t12) w fun _ w =>
 callD prog 75 #[(i64 2), (i64 6)] w fun t13 w =>
 V prog (alloc 143 true (.tuple #[])) w fun t8 w =>
 U prog (storeAt 143 t8 t13) w fun _ w =>
 V prog (binOp .geq 3 t0 (i64 12)) w fun t15 w =>
 gd t15 true (fun K => K t0 w) w fun t17 w =>
 gd t15 true (fun K => V prog (binOp .leq 3 t17 (i64 27)) w K) w fun t18 w19 =>
 pickD t15 t18 (.bool false) fun t19 =>
 ifD t19 (
 V prog (binOp .sub 3 t0 (i64 12)) w19 fun t22 w =>
 V prog (convert 3 133 t22) w fun t23 w =>
 V prog (binOp .shl 133 t23 (Value.int IntKind.u64 6)) w fun t24 w =>
 V prog (binOp .add 133 (Value.int IntKind.u16 16384) t24) w fun t25 w =>
 V prog (loadAt 143 t4) w fun t26 w =>
 V prog (loadAt 143 t5) w fun t27 w =>
 V prog (buildSlice 134 2 #[(0, t26), (1, t27)]) w fun t28 w =>
 V prog (build 136 #[(0, t0), (1, t25), (2, t28)]) w fun t29 w =>
 U prog (storeAt 136 t2 t29) w fun _ w =>
 ∃ r1, (loadVar 136 (match t2 with | .pointer (some p) => p | _ => ⟨0, 0, none⟩)).run prog w = .ok r1 w ∧ (∃ p, t2 = Value.pointer (some p)) ∧ R (.tuple #[r1, (.bool true)]) w) (
 V prog (binOp .geq 3 t0 (i64 8)) w19 fun t31 w =>
 gd t31 true (fun K => K t0 w) w fun t33 w =>
 gd t31 true (fun K => V prog (binOp .leq 3 t33 (i64 11)) w K) w fun t34 w32 =>
 pickD t31 t34 (.bool false) fun t35 =>
 ifD t35 (
 drawD w32 fun S6 w =>
 yieldS prog S6 (binOp .sub 3 t0 (i64 8)) fun t38 =>
 yieldS prog S6 (convert 3 133 t38) fun t39 =>
 yieldS prog S6 (binOp .shl 133 t39 (Value.int IntKind.u64 11)) fun t40 =>
 yieldS prog S6 (binOp .add 133 (Value.int IntKind.u16 8192) t40) fun t41 =>
 yieldS prog S6 (loadAt 143 t6) fun t42 =>
 callD prog 76 #[(i64 0), (i64 8), (i64 0), (i64 255), (i64 1)] w fun t43 w =>
 S6 w ∧
 V prog (buildSlice 134 2 #[(0, t42), (1, t43)]) w fun t44 w =>
 S6 w ∧
 yieldS prog S6 (build 136 #[(0, t0), (1, t41), (2, t44)]) fun t45 =>
 U prog (storeAt 136 t2 t45) w fun _ w =>
 S6 w ∧
 ∃ r1, (loadVar 136 (match t2 with | .pointer (some p) => p | _ => ⟨0, 0, none⟩)).run prog w = .ok r1 w ∧ (∃ p, t2 = Value.pointer (some p)) ∧ R (.tuple #[r1, (.bool true)]) w) (
 V prog (do eqGuard .eql 3 (.tmp 46) (.const (i64 1)) t0 (i64 1); binOp .eql 3 t0 (i64 1)) w32 fun t48 w38 =>
 ifD t48 (
 drawD w38 fun S9 w =>
 yieldS prog S9 (loadAt 143 t4) fun t50 =>
 yieldS prog S9 (loadAt 143 t5) fun t51 =>
 callD prog 76 #[(i64 6), (i64 5), (i64 0), (i64 31), (i64 1)] w fun t52 w =>
 S9 w ∧
 V prog (buildSlice 134 3 #[(0, t50), (1, t51), (2, t52)]) w fun t53 w =>
 S9 w ∧
 yieldS prog S9 (build 136 #[(0, t0), (1, (Value.int IntKind.u16 0)), (2, t53)]) fun t54 =>
 U prog (storeAt 136 t2 t54) w fun _ w =>
 S9 w ∧
 ∃ r1, (loadVar 136 (match t2 with | .pointer (some p) => p | _ => ⟨0, 0, none⟩)).run prog w = .ok r1 w ∧ (∃ p, t2 = Value.pointer (some p)) ∧ R (.tuple #[r1, (.bool true)]) w) (
 V prog (do eqGuard .eql 3 (.tmp 46) (.const (i64 2)) t0 (i64 2); binOp .eql 3 t0 (i64 2)) w38 fun t56 w43 =>
 ifD t56 (
 drawD w43 fun S11 w =>
 yieldS prog S11 (loadAt 143 t4) fun t58 =>
 yieldS prog S11 (loadAt 143 t5) fun t59 =>
 callD prog 76 #[(i64 6), (i64 5), (i64 1), (i64 32), (i64 1)] w fun t60 w =>
 S11 w ∧
 V prog (buildSlice 134 3 #[(0, t58), (1, t59), (2, t60)]) w fun t61 w =>
 S11 w ∧
 yieldS prog S11 (build 136 #[(0, t0), (1, (Value.int IntKind.u16 2048)), (2, t61)]) fun t62 =>
 U prog (storeAt 136 t2 t62) w fun _ w =>
 S11 w ∧
 ∃ r1, (loadVar 136 (match t2 with | .pointer (some p) => p | _ => ⟨0, 0, none⟩)).run prog w = .ok r1 w ∧ (∃ p, t2 = Value.pointer (some p)) ∧ R (.tuple #[r1, (.bool true)]) w) (
 V prog (do eqGuard .eql 3 (.tmp 46) (.const (i64 3)) t0 (i64 3); binOp .eql 3 t0 (i64 3)) w43 fun t64 w48 =>
 ifD t64 (
 drawD w48 fun S13 w =>
 yieldS prog S13 (loadAt 143 t4) fun t66 =>
 yieldS prog S13 (loadAt 143 t5) fun t67 =>
 callD prog 76 #[(i64 6), (i64 5), (i64 1), (i64 32), (i64 1)] w fun t68 w =>
 S13 w ∧
 V prog (buildSlice 134 3 #[(0, t66), (1, t67), (2, t68)]) w fun t69 w =>
 S13 w ∧
 yieldS prog S13 (build 136 #[(0, t0), (1, (Value.int IntKind.u16 4096)), (2, t69)]) fun t70 =>
 U prog (storeAt 136 t2 t70) w fun _ w =>
 S13 w ∧
 ∃ r1, (loadVar 136 (match t2 with | .pointer (some p) => p | _ => ⟨0, 0, none⟩)).run prog w = .ok r1 w ∧ (∃ p, t2 = Value.pointer (some p)) ∧ R (.tuple #[r1, (.bool true)]) w) (
 V prog (do eqGuard .eql 3 (.tmp 46) (.const (i64 4)) t0 (i64 4); binOp .eql 3 t0 (i64 4)) w48 fun t72 w53 =>
 ifD t72 (
 V prog (loadAt 143 t4) w53 fun t74 w =>
 V prog (loadAt 143 t7) w fun t75 w =>
 V prog (loadAt 143 t8) w fun t76 w =>
 V prog (buildSlice 134 3 #[(0, t74), (1, t75), (2, t76)]) w fun t77 w =>
 V prog (build 136 #[(0, t0), (1, (Value.int IntKind.u16 6144)), (2, t77)]) w fun t78 w =>
 U prog (storeAt 136 t2 t78) w fun _ w =>
 ∃ r1, (loadVar 136 (match t2 with | .pointer (some p) => p | _ => ⟨0, 0, none⟩)).run prog w = .ok r1 w ∧ (∃ p, t2 = Value.pointer (some p)) ∧ R (.tuple #[r1, (.bool true)]) w) (
 V prog (do eqGuard .eql 3 (.tmp 46) (.const (i64 5)) t0 (i64 5); binOp .eql 3 t0 (i64 5)) w53 fun t80 w60 =>
 ifD t80 (
 V prog (loadAt 143 t4) w60 fun t82 w =>
 V prog (loadAt 143 t7) w fun t83 w =>
 V prog (loadAt 143 t8) w fun t84 w =>
 V prog (buildSlice 134 3 #[(0, t82), (1, t83), (2, t84)]) w fun t85 w =>
 V prog (build 136 #[(0, t0), (1, (Value.int IntKind.u16 6656)), (2, t85)]) w fun t86 w =>
 U prog (storeAt 136 t2 t86) w fun _ w =>
 ∃ r1, (loadVar 136 (match t2 with | .pointer (some p) => p | _ => ⟨0, 0, none⟩)).run prog w = .ok r1 w ∧ (∃ p, t2 = Value.pointer (some p)) ∧ R (.tuple #[r1, (.bool true)]) w) (
 V prog (do eqGuard .eql 3 (.tmp 46) (.const (i64 6)) t0 (i64 6); binOp .eql 3 t0 (i64 6)) w60 fun t88 w67 =>
 ifD t88 (
 drawD w67 fun S19 w =>
 yieldS prog S19 (loadAt 143 t4) fun t90 =>
 yieldS prog S19 (loadAt 143 t7) fun t91 =>
 callD prog 76 #[(i64 6), (i64 3), (i64 0), (i64 7), (i64 1)] w fun t92 w =>
 S19 w ∧
 V prog (buildSlice 134 3 #[(0, t90), (1, t91), (2, t92)]) w fun t93 w =>
 S19 w ∧
 yieldS prog S19 (build 136 #[(0, t0), (1, (Value.int IntKind.u16 7168)), (2, t93)]) fun t94 =>
 U prog (storeAt 136 t2 t94) w fun _ w =>
 S19 w ∧
 ∃ r1, (loadVar 136 (match t2 with | .pointer (some p) => p | _ => ⟨0, 0, none⟩)).run prog w = .ok r1 w ∧ (∃ p, t2 = Value.pointer (some p)) ∧ R (.tuple #[r1, (.bool true)]) w) (
 V prog (do eqGuard .eql 3 (.tmp 46) (.const (i64 7)) t0 (i64 7); binOp .eql 3 t0 (i64 7)) w67 fun t96 w72 =>
 ifD t96 (
 drawD w72 fun S21 w =>
 yieldS prog S21 (loadAt 143 t4) fun t98 =>
 yieldS prog S21 (loadAt 143 t7) fun t99 =>
 callD prog 76 #[(i64 6), (i64 3), (i64 0), (i64 7), (i64 1)] w fun t100 w =>
 S21 w ∧
 V prog (buildSlice 134 3 #[(0, t98), (1, t99), (2, t100)]) w fun t101 w =>
 S21 w ∧
 yieldS prog S21 (build 136 #[(0, t0), (1, (Value.int IntKind.u16 7680)), (2, t101)]) fun t102 =>
 U prog (storeAt 136 t2 t102) w fun _ w =>
 S21 w ∧
 ∃ r1, (loadVar 136 (match t2 with | .pointer (some p) => p | _ => ⟨0, 0, none⟩)).run prog w = .ok r1 w ∧ (∃ p, t2 = Value.pointer (some p)) ∧ R (.tuple #[r1, (.bool true)]) w) (
 V prog (do eqGuard .eql 3 (.tmp 46) (.const (i64 30)) t0 (i64 30); binOp .eql 3 t0 (i64 30)) w72 fun t104 w77 =>
 ifD t104 (
 V prog (loadAt 143 t4) w77 fun t106 w =>
 V prog (loadAt 143 t7) w fun t107 w =>
 V prog (loadAt 143 t8) w fun t108 w =>
 V prog (buildSlice 134 3 #[(0, t106), (1, t107), (2, t108)]) w fun t109 w =>
 V prog (build 136 #[(0, t0), (1, (Value.int IntKind.u16 20480)), (2, t109)]) w fun t110 w =>
 U prog (storeAt 136 t2 t110) w fun _ w =>
 ∃ r1, (loadVar 136 (match t2 with | .pointer (some p) => p | _ => ⟨0, 0, none⟩)).run prog w = .ok r1 w ∧ (∃ p, t2 = Value.pointer (some p)) ∧ R (.tuple #[r1, (.bool true)]) w) (
 V prog (do eqGuard .eql 3 (.tmp 46) (.const (i64 29)) t0 (i64 29); binOp .eql 3 t0 (i64 29)) w77 fun t112 w84 =>
 ifD t112 (
 V prog (loadAt 143 t4) w84 fun t114 w =>
 V prog (loadAt 143 t7) w fun t115 w =>
 V prog (loadAt 143 t8) w fun t116 w =>
 V prog (buildSlice 134 3 #[(0, t114), (1, t115), (2, t116)]) w fun t117 w =>
 V prog (build 136 #[(0, t0), (1, (Value.int IntKind.u16 22528)), (2, t117)]) w fun t118 w =>
 U prog (storeAt 136 t2 t118) w fun _ w =>
 ∃ r1, (loadVar 136 (match t2 with | .pointer (some p) => p | _ => ⟨0, 0, none⟩)).run prog w = .ok r1 w ∧ (∃ p, t2 = Value.pointer (some p)) ∧ R (.tuple #[r1, (.bool true)]) w) (
 V prog (do eqGuard .eql 3 (.tmp 46) (.const (i64 32)) t0 (i64 32); binOp .eql 3 t0 (i64 32)) w84 fun t120 w91 =>
 ifD t120 (
 drawD w91 fun S27 w =>
 yieldS prog S27 (loadAt 143 t4) fun t122 =>
 yieldS prog S27 (loadAt 143 t7) fun t123 =>
 callD prog 76 #[(i64 6), (i64 5), (i64 0), (i64 124), (i64 4)] w fun t124 w =>
 S27 w ∧
 V prog (buildSlice 134 3 #[(0, t122), (1, t123), (2, t124)]) w fun t125 w =>
 S27 w ∧
 yieldS prog S27 (build 136 #[(0, t0), (1, (Value.int IntKind.u16 24576)), (2, t125)]) fun t126 =>
 U prog (storeAt 136 t2 t126) w fun _ w =>
 S27 w ∧
 ∃ r1, (loadVar 136 (match t2 with | .pointer (some p) => p | _ => ⟨0, 0, none⟩)).run prog w = .ok r1 w ∧ (∃ p, t2 = Value.pointer (some p)) ∧ R (.tuple #[r1, (.bool true)]) w) (
 V prog (do eqGuard .eql 3 (.tmp 46) (.const (i64 31)) t0 (i64 31); binOp .eql 3 t0 (i64 31)) w91 fun t128 w96 =>
 ifD t128 (
 drawD w96 fun S29 w =>
 yieldS prog S29 (loadAt 143 t4) fun t130 =>
 yieldS prog S29 (loadAt 143 t7) fun t131 =>
 callD prog 76 #[(i64 6), (i64 5), (i64 0), (i64 124), (i64 4)] w fun t132 w =>
 S29 w ∧
 V prog (buildSlice 134 3 #[(0, t130), (1, t131), (2, t132)]) w fun t133 w =>
 S29 w ∧
 yieldS prog S29 (build 136 #[(0, t0), (1, (Value.int IntKind.u16 26624)), (2, t133)]) fun t134 =>
 U prog (storeAt 136 t2 t134) w fun _ w =>
 S29 w ∧
 ∃ r1, (loadVar 136 (match t2 with | .pointer (some p) => p | _ => ⟨0, 0, none⟩)).run prog w = .ok r1 w ∧ (∃ p, t2 = Value.pointer (some p)) ∧ R (.tuple #[r1, (.bool true)]) w) (
 V prog (do eqGuard .eql 3 (.tmp 46) (.const (i64 34)) t0 (i64 34); binOp .eql 3 t0 (i64 34)) w96 fun t136 w101 =>
 ifD t136 (
 drawD w101 fun S31 w =>
 yieldS prog S31 (loadAt 143 t4) fun t138 =>
 yieldS prog S31 (loadAt 143 t7) fun t139 =>
 callD prog 76 #[(i64 6), (i64 5), (i64 0), (i64 31), (i64 1)] w fun t140 w =>
 S31 w ∧
 V prog (buildSlice 134 3 #[(0, t138), (1, t139), (2, t140)]) w fun t141 w =>
 S31 w ∧
 yieldS prog S31 (build 136 #[(0, t0), (1, (Value.int IntKind.u16 28672)), (2, t141)]) fun t142 =>
 U prog (storeAt 136 t2 t142) w fun _ w =>
 S31 w ∧
 ∃ r1, (loadVar 136 (match t2 with | .pointer (some p) => p | _ => ⟨0, 0, none⟩)).run prog w = .ok r1 w ∧ (∃ p, t2 = Value.pointer (some p)) ∧ R (.tuple #[r1, (.bool true)]) w) (
 V prog (do eqGuard .eql 3 (.tmp 46) (.const (i64 33)) t0 (i64 33); binOp .eql 3 t0 (i64 33)) w101 fun t144 w106 =>
 ifD t144 (
 drawD w106 fun S33 w =>
 yieldS prog S33 (loadAt 143 t4) fun t146 =>
 yieldS prog S33 (loadAt 143 t7) fun t147 =>
 callD prog 76 #[(i64 6), (i64 5), (i64 0), (i64 31), (i64 1)] w fun t148 w =>
 S33 w ∧
 V prog (buildSlice 134 3 #[(0, t146), (1, t147), (2, t148)]) w fun t149 w =>
 S33 w ∧
 yieldS prog S33 (build 136 #[(0, t0), (1, (Value.int IntKind.u16 30720)), (2, t149)]) fun t150 =>
 U prog (storeAt 136 t2 t150) w fun _ w =>
 S33 w ∧
 ∃ r1, (loadVar 136 (match t2 with | .pointer (some p) => p | _ => ⟨0, 0, none⟩)).run prog w = .ok r1 w ∧ (∃ p, t2 = Value.pointer (some p)) ∧ R (.tuple #[r1, (.bool true)]) w) (
 callD prog 77 #[t0] w106 fun t152 w =>
 V prog (extract t152 0) w fun t153 w =>
 V prog (extract t152 1) w fun t154 w =>
 U prog (storeAt 136 t2 t153) w fun _ w =>
 ∃ r1, (loadVar 136 (match t2 with | .pointer (some p) => p | _ => ⟨0, 0, none⟩)).run prog w = .ok r1 w ∧ (∃ p, t2 = Value.pointer (some p)) ∧ R (.tuple #[r1, t154]) w)))))))))))))))
theorem F68_wp (h : F68_den t0 w R) : callD prog 68 #[t0] w R :=
  den_wp mixed F68_ann func68 (by kernel_rfl) (by kernel_rfl) h
def F69_ann : Ann := (q (q (.seq (q (.block (.loop ([6, 9] ++ rg 17 42) [17] (q (.seq (.cond .leaf .leaf) (.seq (.block (q (q (.cond (q .leaf) .leaf)))) .leaf)))))) (q .leaf))))
def F69_den (t0 t1 t2 : Value) (w : World) (R : Value → World → Prop) : Prop :=
 V prog (box 136 t0) w fun t3 w =>
 V prog (box 72 t1) w fun t4 w =>
 callD prog 78 #[t4, t2] w fun t11 w =>
 Go.Vc.Safe (t11) ∧
 V prog (loadAt 3 t11) w fun t13 w =>
 V prog (fieldAt 136 t3 2) w fun t14 w =>
 V prog (loadAt 134 t14) w fun t15 w =>
 V prog (Builtin.len_ #[134] 3 #[t15]) w fun t16 w =>
 ∃ (I1 : NP 1) (μ1 : NF 1), I1 (i64 0) w ∧
 ∀ (t17 : Value), ∀ w9 : World, I1 t17 w9 → ∀ _f : Env,
 V prog (binOp .lss 3 t17 t16) w9 fun t18 w10 =>
 ifD t18 (
 V prog (indexAt 134 t15 t17) w10 fun t19 w =>
 V prog (loadAt 143 t19) w fun t20 w =>
 V prog (alloc 143 true (.tuple #[])) w fun t9 w =>
 U prog (storeAt 143 t9 t20) w fun _ w =>
 V prog (fieldAt 143 t9 0) w fun t21 w =>
 V prog (loadAt 3 t21) w fun t22 w =>
 V prog (do eqGuard .eql 3 (.tmp 22) (.tmp 23) t22 t2; binOp .eql 3 t22 t2) w fun t24 w17 =>
 ifD t24 (
 V prog (fieldAt 143 t9 3) w17 fun t26 w =>
 V prog (loadAt 3 t26) w fun t27 w =>
 V prog (binOp .geq 3 t13 t27) w fun t28 w =>
 gd t28 true (fun K => K t13 w) w fun t30 w =>
 gd t28 true (fun K => V prog (fieldAt 143 t9 4) w K) w fun t31 w =>
 gd t28 true (fun K => V prog (loadAt 3 t31) w K) w fun t32 w =>
 gd t28 true (fun K => V prog (binOp .leq 3 t30 t32) w K) w fun t33 w =>
 pickD t28 t33 (.bool false) fun t34 =>
 gd t34 true (fun K => K t13 w) w fun t36 w =>
 gd t34 true (fun K => V prog (fieldAt 143 t9 5) w K) w fun t37 w =>
 gd t34 true (fun K => V prog (loadAt 3 t37) w K) w fun t38 w =>
 gd t34 true (fun K => V prog (binOp .rem 3 t36 t38) w K) w fun t39 w =>
 gd t34 true (fun K => V prog (do eqGuard .eql 3 (.tmp 39) (.const (i64 0)) t39 (i64 0); binOp .eql 3 t39 (i64 0)) w K) w fun t40 w =>
 pickD t34 t40 (.bool false) fun t41 =>
 R t41 w) (
 V prog (binOp .add 3 t17 (i64 1)) w17 fun t42 w =>
 I1 t42 w ∧ μ1 t42 w < μ1 t17 w9)) (
 V prog (do eqGuard .eql 3 (.tmp 43) (.const (i64 0)) t13 (i64 0); binOp .eql 3 t13 (i64 0)) w10 fun t44 w =>
 R t44 w)
theorem F69_wp (h : F69_den t0 t1 t2 w R) : callD prog 69 #[t0, t1, t2] w R :=
  den_wp mixed F69_ann func69 (by kernel_rfl) (by kernel_rfl) h
def F70_ann : Ann := (q (q .leaf))
def F70_den (t0 : Value) (w : World) (R : Value → World → Prop) : Prop :=
 V prog (binOp .geq 3 t0 (i64 6)) w fun t4 w =>
 gd t4 true (fun K => K t0 w) w fun t6 w =>
 gd t4 true (fun K => V prog (binOp .leq 3 t6 (i64 14)) w K) w fun t7 w =>
 pickD t4 t7 (.bool false) fun t8 =>
 gd t8 false (fun K => K t0 w) w fun t10 w =>
 gd t8 false (fun K => V prog (binOp .geq 3 t10 (i64 19)) w K) w fun t11 w =>
 gd t8 false (fun K => K t11 w) w fun t12 w =>
 gd t12 true (fun K => K t0 w) w fun t13 w =>
 gd t12 true (fun K => V prog (binOp .leq 3 t13 (i64 21)) w K) w fun t14 w =>
 gd t8 false (fun K => pickD t12 t14 (.bool false) fun v => K v w) w fun t15 w =>
 pickD t8 (.bool true) t15 fun t16 =>
 R t16 w
theorem F70_wp (h : F70_den t0 w R) : callD prog 70 #[t0] w R :=
  den_wp mixed F70_ann func70 (by kernel_rfl) (by kernel_rfl) h
def F71_ann : Ann := (q (q .leaf))
def F71_den (t0 : Value) (w : World) (R : Value → World → Prop) : Prop :=
 V prog (do eqGuard .eql 3 (.tmp 3) (.const (i64 15)) t0 (i64 15); binOp .eql 3 t0 (i64 15)) w fun t4 w =>
 gd t4 false (fun K => K t0 w) w fun t6 w =>
 gd t4 false (fun K => V prog (do eqGuard .eql 3 (.tmp 6) (.const (i64 16)) t6 (i64 16); binOp .eql 3 t6 (i64 16)) w K) w fun t7 w =>
 pickD t4 (.bool true) t7 fun t8 =>
 gd t8 false (fun K => K t0 w) w fun t10 w =>
 gd t8 false (fun K => V prog (do eqGuard .eql 3 (.tmp 10) (.const (i64 26)) t10 (i64 26); binOp .eql 3 t10 (i64 26)) w K) w fun t11 w =>
 pickD t8 (.bool true) t11 fun t12 =>
 R t12 w
theorem F71_wp (h : F71_den t0 w R) : callD prog 71 #[t0] w R :=
  den_wp mixed F71_ann func71 (by kernel_rfl) (by kernel_rfl) h
def F72_ann : Ann := (q (.seq (q (.block (.join [4, 5, 6] [4] (q (.cond .leaf .leaf)) (.cond (q .leaf) (.join (rg 7 10) [7] (q (.cond .leaf (q (.cond .leaf .leaf)))) (.cond (q .leaf) (.join [11, 12, 13] [11] (q (.cond .leaf .leaf)) (.cond (q .leaf) (.seq (q (.cond .leaf .leaf)) (.cond (q .leaf) .leaf)))))))))) (q .leaf)))
def F72_den (t0 : Value) (w : World) (R : Value → World → Prop) : Prop :=
 ∃ J1 : NP 1,
 (V prog (do eqGuard .eql 3 (.tmp 3) (.const (i64 27)) t0 (i64 27); binOp .eql 3 t0 (i64 27)) w fun t5 w =>
 ifD t5 (
 J1 t5 w) (
 V prog (do eqGuard .eql 3 (.tmp 3) (.const (i64 28)) t0 (i64 28); binOp .eql 3 t0 (i64 28)) w fun t6 w =>
 J1 t6 w)) ∧
 ∀ (t4 : Value), ∀ w : World, J1 t4 w → ∀ _f : Env,
 ifD t4 (
 R (i64 1) w) (
 ∃ J2 : NP 1,
 (V prog (do eqGuard .eql 3 (.tmp 3) (.const (i64 17)) t0 (i64 17); binOp .eql 3 t0 (i64 17)) w fun t8 w =>
 ifD t8 (
 J2 t8 w) (
 V prog (do eqGuard .eql 3 (.tmp 3) (.const (i64 18)) t0 (i64 18); binOp .eql 3 t0 (i64 18)) w fun t9 w =>
 ifD t9 (
 J2 t9 w) (
 V prog (do eqGuard .eql 3 (.tmp 3) (.const (i64 29)) t0 (i64 29); binOp .eql 3 t0 (i64 29)) w fun t10 w =>
 J2 t10 w))) ∧
 ∀ (t7 : Value), ∀ w : World, J2 t7 w → ∀ _f : Env,
 ifD t7 (
 R (i64 2) w) (
 ∃ J3 : NP 1,
 (V prog (do eqGuard .eql 3 (.tmp 3) (.const (i64 30)) t0 (i64 30); binOp .eql 3 t0 (i64 30)) w fun t12 w =>
 ifD t12 (
 J3 t12 w) (
 V prog (do eqGuard .eql 3 (.tmp 3) (.const (i64 36)) t0 (i64 36); binOp .eql 3 t0 (i64 36)) w fun t13 w =>
 J3 t13 w)) ∧
 ∀ (t11 : Value), ∀ w : World, J3 t11 w → ∀ _f : Env,
 ifD t11 (
 R (i64 3) w) (
 V prog (do eqGuard .eql 3 (.tmp 3) (.const (i64 31)) t0 (i64 31); binOp .eql 3 t0 (i64 31)) w fun t15 w =>
 ifD t15 (
 ifD t15 (
 R (i64 5) w) (
 R (i64 (-1)) w)) (
 V prog (do eqGuard .eql 3 (.tmp 3) (.const (i64 32)) t0 (i64 32); binOp .eql 3 t0 (i64 32)) w fun t16 w =>
 ifD t16 (
 R (i64 5) w) (
 R (i64 (-1)) w)))))
theorem F72_wp (h : F72_den t0 w R) : callD prog 72 #[t0] w R :=
  den_wp mixed F72_ann func72 (by kernel_rfl) (by kernel_rfl) h
def F73_ann : Ann := (q (.seq (q (.cond (q .leaf) .leaf)) (q .leaf)))
def F73_den (t0 : Value) (w : World) (R : Value → World → Prop) : Prop :=
 V prog (do eqGuard .eql 57 (.tmp 3) (.const nilS) t0 nilS; binOp .eql 57 t0 nilS) w fun t4 w =>
 ifD t4 (
 R nilS w) (
 V prog (buildSlice 57 0 #[]) w fun t5 w =>
 V prog (Builtin.append_ #[57, 57] 57 #[t5, t0]) w fun t7 w =>
 R t7 w)
theorem F73_wp (h : F73_den t0 w R) : callD prog 73 #[t0] w R :=
  den_wp mixed F73_ann func73 (by kernel_rfl) (by kernel_rfl) h
def F74_ann : Ann := (q .leaf)
def F74_den (t0 : Value) (w : World) (R : Value → World → Prop) : Prop :=
 callD prog 41 #[t0, (i64 8), (i64 0), (i64 0)] w fun _ w =>
 callD prog 40 #[t0, (i64 17), (i64 0), (i64 0)] w fun _ w =>
 R (.tuple #[]) w
theorem F74_wp (h : F74_den t0 w R) : callD prog 74 #[t0] w R :=
  den_wp mixed F74_ann func74 (by kernel_rfl) (by kernel_rfl) h
def F75_ann : Ann := (q (q .leaf))
def F75_den (t0 t1 : Value) (w : World) (R : Value → World → Prop) : Prop :=
 V prog (alloc 143 true (.tuple #[])) w fun t4 w =>
 V prog (build 143 #[(0, t0), (1, t1), (2, (i64 3)), (3, (i64 0)), (4, (i64 7)), (5, (i64 1))]) w fun t7 w =>
 U prog (storeAt 143 t4 t7) w fun _ w =>
 ∃ r1, (loadVar 143 (match t4 with | .pointer (some p) => p | _ => ⟨0, 0, none⟩)).run prog w = .ok r1 w ∧ (∃ p, t4 = Value.pointer (some p)) ∧ R r1 w
theorem F75_wp (h : F75_den t0 t1 w R) : callD prog 75 #[t0, t1] w R :=
  den_wp mixed F75_ann func75 (by kernel_rfl) (by kernel_rfl) h
def F76_ann : Ann := (q (q .leaf))
def F76_den (t0 t1 t2 t3 t4 : Value) (w : World) (R : Value → World → Prop) : Prop :=
 V prog (alloc 143 true (.tuple #[])) w fun t10 w =>
 V prog (build 143 #[(0, (i64 3)), (1, t0), (2, t1), (3, t2), (4, t3), (5, t4)]) w fun t16 w =>
 U prog (storeAt 143 t10 t16) w fun _ w =>
 ∃ r1, (loadVar 143 (match t10 with | .pointer (some p) => p | _ => ⟨0, 0, none⟩)).run prog w = .ok r1 w ∧ (∃ p, t10 = Value.pointer (some p)) ∧ R r1 w
theorem F76_wp (h : F76_den t0 t1 t2 t3 t4 w R) : callD prog 76 #[t0, t1, t2, t3, t4] w R :=
  den_wp mixed F76_ann func76 (by kernel_rfl) (by kernel_rfl) h
def F77_ann : Ann := (q (q (.seq (q (.block (q (.cond (.seq (.draw [0, 0, 0, 6, 9, 31, 63] [0, 0, 0, 6, 9, 16, 0] 0 7 127 (.take 0 (.take 1 (.only 2 (.only 3 (.take 4 (.only 5 (.take 6 .done)))))))) .leaf) (q (.cond (.seq (.draw [0, 0, 0, 6, 9, 31, 63] [0, 0, 0, 6, 9, 16, 0] 0 7 127 (.take 0 (.take 1 (.only 2 (.only 3 (.take 4 (.only 5 (.take 6 .done)))))))) .leaf) (q (.cond (q .leaf) (q (.cond (q .leaf) (q (.cond (q .leaf) (q (.cond (q .leaf) (q (.cond (q .leaf) (q (.cond (q .leaf) (q (.cond (q .leaf) (q (.cond (q .leaf) .leaf)))))))))))))))))))))) (q .leaf))))
def F77_den (t0 : Value) (w : World) (R : Value → World → Prop) : Prop :=
 V prog (alloc 136 true (.tuple #[])) w fun t2 w =>
 callD prog 75 #[(i64 0), (i64 8)] w fun t5 w =>
 V prog (alloc 143 true (.tuple #[])) w fun t4 w =>
 U prog (storeAt 143 t4 t5) w fun _ w =>
 V prog (do eqGuard .eql 3 (.tmp 6) (.const (i64 36)) t0 (i64 36); binOp .eql 3 t0 (i64 36)) w fun t8 w5 =>
 ifD t8 (
 drawD w5 fun S4 w =>
 yieldS prog S4 (loadAt 143 t4) fun t10 =>
 callD prog 76 #[(i64 0), (i64 8), (i64 0), (i64 1020), (i64 4)] w fun t11 w =>
 S4 w ∧
 V prog (buildSlice 134 2 #[(0, t10), (1, t11)]) w fun t12 w =>
 S4 w ∧
 yieldS prog S4 (build 136 #[(0, t0), (1, (Value.int IntKind.u16 36864)), (2, t12)]) fun t13 =>
 U prog (storeAt 136 t2 t13) w fun _ w =>
 S4 w ∧
 ∃ r1, (loadVar 136 (match t2 with | .pointer (some p) => p | _ => ⟨0, 0, none⟩)).run prog w = .ok r1 w ∧ (∃ p, t2 = Value.pointer (some p)) ∧ R (.tuple #[r1, (.bool true)]) w) (
 V prog (do eqGuard .eql 3 (.tmp 6) (.const (i64 35)) t0 (i64 35); binOp .eql 3 t0 (i64 35)) w5 fun t15 w10 =>
 ifD t15 (
 drawD w10 fun S6 w =>
 yieldS prog S6 (loadAt 143 t4) fun t17 =>
 callD prog 76 #[(i64 0), (i64 8), (i64 0), (i64 1020), (i64 4)] w fun t18 w =>
 S6 w ∧
 V prog (buildSlice 134 2 #[(0, t17), (1, t18)]) w fun t19 w =>
 S6 w ∧
 yieldS prog S6 (build 136 #[(0, t0), (1, (Value.int IntKind.u16 38912)), (2, t19)]) fun t20 =>
 U prog (storeAt 136 t2 t20) w fun _ w =>
 S6 w ∧
 ∃ r1, (loadVar 136 (match t2 with | .pointer (some p) => p | _ => ⟨0, 0, none⟩)).run prog w = .ok r1 w ∧ (∃ p, t2 = Value.pointer (some p)) ∧ R (.tuple #[r1, (.bool true)]) w) (
 V prog (do eqGuard .eql 3 (.tmp 6) (.const (i64 37)) t0 (i64 37); binOp .eql 3 t0 (i64 37)) w10 fun t22 w15 =>
 ifD t22 (
 callD prog 76 #[(i64 0), (i64 7), (i64 0), (i64 508), (i64 4)] w15 fun t24 w =>
 V prog (buildSlice 134 1 #[(0, t24)]) w fun t25 w =>
 V prog (build 136 #[(0, t0), (1, (Value.int IntKind.u16 45056)), (2, t25)]) w fun t26 w =>
 U prog (storeAt 136 t2 t26) w fun _ w =>
 ∃ r1, (loadVar 136 (match t2 with | .pointer (some p) => p | _ => ⟨0, 0, none⟩)).run prog w = .ok r1 w ∧ (∃ p, t2 = Value.pointer (some p)) ∧ R (.tuple #[r1, (.bool true)]) w) (
 V prog (do eqGuard .eql 3 (.tmp 6) (.const (i64 38)) t0 (i64 38); binOp .eql 3 t0 (i64 38)) w15 fun t28 w20 =>
 ifD t28 (
 callD prog 76 #[(i64 0), (i64 7), (i64 0), (i64 508), (i64 4)] w20 fun t30 w =>
 V prog (buildSlice 134 1 #[(0, t30)]) w fun t31 w =>
 V prog (build 136 #[(0, t0), (1, (Value.int IntKind.u16 45184)), (2, t31)]) w fun t32 w =>
 U prog (storeAt 136 t2 t32) w fun _ w =>
 ∃ r1, (loadVar 136 (match t2 with | .pointer (some p) => p | _ => ⟨0, 0, none⟩)).run prog w = .ok r1 w ∧ (∃ p, t2 = Value.pointer (some p)) ∧ R (.tuple #[r1, (.bool true)]) w) (
 V prog (do eqGuard .eql 3 (.tmp 6) (.const (i64 39)) t0 (i64 39); binOp .eql 3 t0 (i64 39)) w20 fun t34 w25 =>
 ifD t34 (
 callD prog 76 #[(i64 0), (i64 9), (i64 1), (i64 511), (i64 1)] w25 fun t36 w =>
 V prog (buildSlice 134 1 #[(0, t36)]) w fun t37 w =>
 V prog (build 136 #[(0, t0), (1, (Value.int IntKind.u16 46080)), (2, t37)]) w fun t38 w =>
 U prog (storeAt 136 t2 t38) w fun _ w =>
 ∃ r1, (loadVar 136 (match t2 with | .pointer (some p) => p | _ => ⟨0, 0, none⟩)).run prog w = .ok r1 w ∧ (∃ p, t2 = Value.pointer (some p)) ∧ R (.tuple #[r1, (.bool true)]) w) (
 V prog (do eqGuard .eql 3 (.tmp 6) (.const (i64 40)) t0 (i64 40); binOp .eql 3 t0 (i64 40)) w25 fun t40 w30 =>
 ifD t40 (
 callD prog 76 #[(i64 0), (i64 9), (i64 1), (i64 511), (i64 1)] w30 fun t42 w =>
 V prog (buildSlice 134 1 #[(0, t42)]) w fun t43 w =>
 V prog (build 136 #[(0, t0), (1, (Value.int IntKind.u16 48128)), (2, t43)]) w fun t44 w =>
 U prog (storeAt 136 t2 t44) w fun _ w =>
 ∃ r1, (loadVar 136 (match t2 with | .pointer (some p) => p | _ => ⟨0, 0, none⟩)).run prog w = .ok r1 w ∧ (∃ p, t2 = Value.pointer (some p)) ∧ R (.tuple #[r1, (.bool true)]) w) (
 V prog (do eqGuard .eql 3 (.tmp 6) (.const (i64 41)) t0 (i64 41); binOp .eql 3 t0 (i64 41)) w30 fun t46 w35 =>
 ifD t46 (
 callD prog 76 #[(i64 0), (i64 8), (i64 (-256)), (i64 254), (i64 2)] w35 fun t48 w =>
 V prog (build 143 #[(0, (i64 4)), (1, (i64 8)), (2, (i64 4)), (3, (i64 0)), (4, (i64 13)), (5, (i64 1))]) w fun t49 w =>
 V prog (buildSlice 134 2 #[(0, t48), (1, t49)]) w fun t50 w =>
 V prog (build 136 #[(0, t0), (1, (Value.int IntKind.u16 53248)), (2, t50)]) w fun t51 w =>
 U prog (storeAt 136 t2 t51) w fun _ w =>
 ∃ r1, (loadVar 136 (match t2 with | .pointer (some p) => p | _ => ⟨0, 0, none⟩)).run prog w = .ok r1 w ∧ (∃ p, t2 = Value.pointer (some p)) ∧ R (.tuple #[r1, (.bool true)]) w) (
 V prog (do eqGuard .eql 3 (.tmp 6) (.const (i64 42)) t0 (i64 42); binOp .eql 3 t0 (i64 42)) w35 fun t53 w41 =>
 ifD t53 (
 callD prog 76 #[(i64 0), (i64 11), (i64 (-2048)), (i64 2046), (i64 2)] w41 fun t55 w =>
 V prog (buildSlice 134 1 #[(0, t55)]) w fun t56 w =>
 V prog (build 136 #[(0, t0), (1, (Value.int IntKind.u16 57344)), (2, t56)]) w fun t57 w =>
 U prog (storeAt 136 t2 t57) w fun _ w =>
 ∃ r1, (loadVar 136 (match t2 with | .pointer (some p) => p | _ => ⟨0, 0, none⟩)).run prog w = .ok r1 w ∧ (∃ p, t2 = Value.pointer (some p)) ∧ R (.tuple #[r1, (.bool true)]) w) (
 V prog (do eqGuard .eql 3 (.tmp 6) (.const (i64 44)) t0 (i64 44); binOp .eql 3 t0 (i64 44)) w41 fun t59 w46 =>
 ifD t59 (
 callD prog 76 #[(i64 0), (i64 8), (i64 0), (i64 255), (i64 1)] w46 fun t61 w =>
 V prog (buildSlice 134 1 #[(0, t61)]) w fun t62 w =>
 V prog (build 136 #[(0, t0), (1, (Value.int IntKind.u16 57088)), (2, t62)]) w fun t63 w =>
 U prog (storeAt 136 t2 t63) w fun _ w =>
 ∃ r1, (loadVar 136 (match t2 with | .pointer (some p) => p | _ => ⟨0, 0, none⟩)).run prog w = .ok r1 w ∧ (∃ p, t2 = Value.pointer (some p)) ∧ R (.tuple #[r1, (.bool true)]) w) (
 V prog (do eqGuard .eql 3 (.tmp 6) (.const (i64 45)) t0 (i64 45); binOp .eql 3 t0 (i64 45)) w46 fun t65 w51 =>
 ifD t65 (
 V prog (build 136 #[(0, t0), (1, (Value.int IntKind.u16 48896)), (2, nilS)]) w51 fun t67 w =>
 U prog (storeAt 136 t2 t67) w fun _ w =>
 ∃ r1, (loadVar 136 (match t2 with | .pointer (some p) => p | _ => ⟨0, 0, none⟩)).run prog w = .ok r1 w ∧ (∃ p, t2 = Value.pointer (some p)) ∧ R (.tuple #[r1, (.bool true)]) w) (
 V prog (build 136 #[]) w51 fun t68 w =>
 U prog (storeAt 136 t2 t68) w fun _ w =>
 ∃ r1, (loadVar 136 (match t2 with | .pointer (some p) => p | _ => ⟨0, 0, none⟩)).run prog w = .ok r1 w ∧ (∃ p, t2 = Value.pointer (some p)) ∧ R (.tuple #[r1, (.bool false)]) w))))))))))
theorem F77_wp (h : F77_den t0 w R) : callD prog 77 #[t0] w R :=
  den_wp mixed F77_ann func77 (by kernel_rfl) (by kernel_rfl) h
def F78_ann : Ann := (q (.seq (q (.block (q (.cond (q .leaf) (q (.cond (q .leaf) (q (.cond (q .leaf) (q (.cond (q .leaf) .leaf)))))))))) (q .leaf)))
def F78_den (t0 t1 : Value) (w : World) (R : Value → World → Prop) : Prop :=
 V prog (do eqGuard .eql 3 (.tmp 5) (.const (i64 0)) t1 (i64 0); binOp .eql 3 t1 (i64 0)) w fun t7 w1 =>
 ifD t7 (
 Go.Vc.Safe (t0) ∧
 V prog (fieldAt 72 t0 1) w1 fun t10 w =>
 R t10 w) (
 V prog (do eqGuard .eql 3 (.tmp 5) (.const (i64 1)) t1 (i64 1); binOp .eql 3 t1 (i64 1)) w1 fun t12 w4 =>
 ifD t12 (
 Go.Vc.Safe (t0) ∧
 V prog (fieldAt 72 t0 2) w4 fun t15 w =>
 R t15 w) (
 V prog (do eqGuard .eql 3 (.tmp 5) (.const (i64 2)) t1 (i64 2); binOp .eql 3 t1 (i64 2)) w4 fun t17 w7 =>
 ifD t17 (
 Go.Vc.Safe (t0) ∧
 V prog (fieldAt 72 t0 3) w7 fun t20 w =>
 R t20 w) (
 V prog (do eqGuard .eql 3 (.tmp 5) (.const (i64 3)) t1 (i64 3); binOp .eql 3 t1 (i64 3)) w7 fun t22 w10 =>
 ifD t22 (
 Go.Vc.Safe (t0) ∧
 V prog (fieldAt 72 t0 4) w10 fun t25 w =>
 R t25 w) (
 Go.Vc.Safe (t0) ∧
 V prog (fieldAt 72 t0 5) w10 fun t28 w =>
 R t28 w))))
theorem F78_wp (h : F78_den t0 t1 w R) : callD prog 78 #[t0, t1] w R :=
  den_wp mixed F78_ann func78 (by kernel_rfl) (by kernel_rfl) h
end Go.Proofs.YtjcmcfidblhnnaaDoor
