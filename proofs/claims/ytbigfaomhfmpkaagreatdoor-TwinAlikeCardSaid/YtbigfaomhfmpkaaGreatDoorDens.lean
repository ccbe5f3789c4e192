/- Each function's body, opened into a plain condition by program (vcgen.py); the kernel holds the one against the other. -/
import Derived.Test.YtbigfaomhfmpkaaGreatDoorLaws
import Derived.Test.YtbigfaomhfmpkaaGreatDoorProg
import Derived.KernelRfl
namespace Go.Proofs.YtbigfaomhfmpkaaGreatDoor
open Go.Vc
theorem mixed : Tryz.prog.follows .mixedOrders = true := by kernel_rfl
/-- taciturn/taciturnlaw26.TwinAlike -/
def F3_ann : Ann := (Ann.seq Ann.leaf (Ann.join [8, 9, 10, 11, 12, 13, 14, 15, 16, 17] [] (Ann.seq Ann.leaf (Ann.cond (Ann.draw [0, 1, 0, 4, 0, 16, 32, 64, 138, 511] [0, 1, 0, 4, 0, 16, 32, 64, 138, 256] 9 (.take 0 (.take 1 (.take 2 (.take 3 (.take 4 (.take 5 (.take 6 (.only 7 (.take 8 (.last 9))))))))))) Ann.leaf)) (Ann.seq Ann.leaf (Ann.seq Ann.leaf Ann.leaf))))
def F3_den (t0 : Value) (t1 : Value) (t2 : Value) (w : World) (R : Value → World → Prop) : Prop :=
  V Tryz.prog (Instr.box 24 t0) w fun t3 w1 =>
  V Tryz.prog (Instr.box 24 t1) w1 fun t4 w2 =>
  ∃ J1 : NP 0,
  (ifD t2 (
  drawD w2 fun S2 w3 =>
  yieldS Tryz.prog S2 (Instr.fieldAt 24 t3 0) fun t9 =>
  yieldS Tryz.prog S2 (Instr.loadAt 3 t9) fun t10 =>
  yieldS Tryz.prog S2 (Instr.fieldAt 24 t3 1) fun t11 =>
  yieldS Tryz.prog S2 (Instr.loadAt 22 t11) fun t12 =>
  yieldS Tryz.prog S2 (Instr.fieldAt 24 t3 2) fun t13 =>
  yieldS Tryz.prog S2 (Instr.loadAt 22 t13) fun t14 =>
  yieldS Tryz.prog S2 (Builtin.len_ #[22] 3 #[t14]) fun t15 =>
  V Tryz.prog (Instr.makeSlice 22 t15 t15) w3 fun t16 w4 =>
  S2 w4 ∧
  yieldS Tryz.prog S2 (Instr.build 24 #[(0, t10), (1, t12), (2, t16)]) fun t17 =>
  U Tryz.prog (Instr.storeAt 24 t4 t17) w4 fun _ w5 =>
  J1 w5) (
  J1 w2)) ∧
  ∀ w6 : World, J1 w6 → ∀ _f : Env,
  V Tryz.prog (Instr.fieldAt 24 t3 0) w6 fun t18 w7 =>
  V Tryz.prog (Instr.loadAt 3 t18) w7 fun t19 w8 =>
  V Tryz.prog (Instr.fieldAt 24 t4 0) w8 fun t20 w9 =>
  V Tryz.prog (Instr.loadAt 3 t20) w9 fun t21 w10 =>
  V Tryz.prog (do eqGuard .eql 3 (Operand.tmp 19) (Operand.tmp 21) t19 t21; binOp .eql 3 t19 t21) w10 fun t22 w11 =>
  gd t22 true (fun K => V Tryz.prog (Instr.fieldAt 24 t3 1) w11 K) w11 fun t24 w12 =>
  gd t22 true (fun K => V Tryz.prog (Instr.loadAt 22 t24) w12 K) w12 fun t25 w13 =>
  gd t22 true (fun K => V Tryz.prog (convert 22 9 t25) w13 K) w13 fun t26 w14 =>
  gd t22 true (fun K => V Tryz.prog (Instr.fieldAt 24 t4 1) w14 K) w14 fun t27 w15 =>
  gd t22 true (fun K => V Tryz.prog (Instr.loadAt 22 t27) w15 K) w15 fun t28 w16 =>
  gd t22 true (fun K => V Tryz.prog (convert 22 9 t28) w16 K) w16 fun t29 w17 =>
  gd t22 true (fun K => V Tryz.prog (do eqGuard .eql 9 (Operand.tmp 26) (Operand.tmp 29) t26 t29; binOp .eql 9 t26 t29) w17 K) w17 fun t30 w18 =>
  pickD t22 t30 (Value.bool false) fun t31 =>
  gd t31 true (fun K => V Tryz.prog (Instr.fieldAt 24 t3 2) w18 K) w18 fun t33 w20 =>
  gd t31 true (fun K => V Tryz.prog (Instr.loadAt 22 t33) w20 K) w20 fun t34 w21 =>
  gd t31 true (fun K => V Tryz.prog (Builtin.len_ #[22] 3 #[t34]) w21 K) w21 fun t35 w22 =>
  gd t31 true (fun K => V Tryz.prog (Instr.fieldAt 24 t4 2) w22 K) w22 fun t36 w23 =>
  gd t31 true (fun K => V Tryz.prog (Instr.loadAt 22 t36) w23 K) w23 fun t37 w24 =>
  gd t31 true (fun K => V Tryz.prog (Builtin.len_ #[22] 3 #[t37]) w24 K) w24 fun t38 w25 =>
  gd t31 true (fun K => V Tryz.prog (do eqGuard .eql 3 (Operand.tmp 35) (Operand.tmp 38) t35 t38; binOp .eql 3 t35 t38) w25 K) w25 fun t39 w26 =>
  pickD t31 t39 (Value.bool false) fun t40 =>
  callD Tryz.prog 4 #[] w26 fun t41 w28 =>
  gd t41 true (fun K => V Tryz.prog (Instr.loadAt 24 t3) w28 K) w28 fun t43 w29 =>
  gd t41 true (fun K => V Tryz.prog (Instr.loadAt 24 t4) w29 K) w29 fun t44 w30 =>
  gd t41 true (fun K => callD Tryz.prog 5 #[t43, t44] w30 K) w30 fun t45 w31 =>
  gd t41 true (fun K => K t40 w31) w31 fun t46 w32 =>
  gd t41 true (fun K => V Tryz.prog (do eqGuard .eql 4 (Operand.tmp 45) (Operand.tmp 46) t45 t46; binOp .eql 4 t45 t46) w32 K) w32 fun t47 w33 =>
  pickD t41 t47 (Value.bool false) fun t48 =>
  gd t48 true (fun K => V Tryz.prog (Instr.loadAt 24 t3) w33 K) w33 fun t50 w35 =>
  gd t48 true (fun K => V Tryz.prog (Instr.loadAt 24 t3) w35 K) w35 fun t51 w36 =>
  gd t48 true (fun K => callD Tryz.prog 5 #[t50, t51] w36 K) w36 fun t52 w37 =>
  pickD t48 t52 (Value.bool false) fun t53 =>
  R t53 w37
theorem F3_eq (t0 : Value) (t1 : Value) (t2 : Value) (w : World) (R : Value → World → Prop) : F3_den t0 t1 t2 w R = vc Tryz.prog F3_ann (Tryz.f3.body.getD .skip) (retE Tryz.prog Tryz.f3.results.toList R) (argEnv [t0, t1, t2]) w := by kernel_rfl
theorem F3_wp {t0 : Value} {t1 : Value} {t2 : Value} {w : World} {R : Value → World → Prop} (h : F3_den t0 t1 t2 w R) : callD Tryz.prog 3 #[t0, t1, t2] w R :=
  callD.of_calls (fn := Tryz.f3) (c := Tryz.f3.body.getD .skip) Tryz.func3 (by kernel_rfl) (by kernel_rfl) (calls_of_vc (args := [t0, t1, t2]) F3_ann mixed Tryz.func3 (by kernel_rfl) (by kernel_rfl) (F3_eq t0 t1 t2 w R ▸ h))

/-- taciturn/twin.Alike -/
def F5_ann : Ann := (Ann.seq Ann.leaf (Ann.seq Ann.leaf Ann.leaf))
def F5_den (t0 : Value) (t1 : Value) (w : World) (R : Value → World → Prop) : Prop :=
  V Tryz.prog (Instr.box 24 t0) w fun t2 w1 =>
  V Tryz.prog (Instr.box 24 t1) w1 fun t3 w2 =>
  V Tryz.prog (Instr.fieldAt 24 t2 0) w2 fun t5 w3 =>
  V Tryz.prog (Instr.loadAt 3 t5) w3 fun t6 w4 =>
  V Tryz.prog (Instr.fieldAt 24 t3 0) w4 fun t7 w5 =>
  V Tryz.prog (Instr.loadAt 3 t7) w5 fun t8 w6 =>
  V Tryz.prog (do eqGuard .eql 3 (Operand.tmp 6) (Operand.tmp 8) t6 t8; binOp .eql 3 t6 t8) w6 fun t9 w7 =>
  gd t9 true (fun K => V Tryz.prog (Instr.fieldAt 24 t2 1) w7 K) w7 fun t11 w8 =>
  gd t9 true (fun K => V Tryz.prog (Instr.loadAt 22 t11) w8 K) w8 fun t12 w9 =>
  gd t9 true (fun K => V Tryz.prog (Instr.fieldAt 24 t3 1) w9 K) w9 fun t13 w10 =>
  gd t9 true (fun K => V Tryz.prog (Instr.loadAt 22 t13) w10 K) w10 fun t14 w11 =>
  gd t9 true (fun K => callD Tryz.prog 10 #[t12, t14] w11 K) w11 fun t15 w12 =>
  pickD t9 t15 (Value.bool false) fun t16 =>
  gd t16 true (fun K => V Tryz.prog (Instr.fieldAt 24 t2 2) w12 K) w12 fun t18 w14 =>
  gd t16 true (fun K => V Tryz.prog (Instr.loadAt 22 t18) w14 K) w14 fun t19 w15 =>
  gd t16 true (fun K => V Tryz.prog (Builtin.len_ #[22] 3 #[t19]) w15 K) w15 fun t20 w16 =>
  gd t16 true (fun K => V Tryz.prog (Instr.fieldAt 24 t3 2) w16 K) w16 fun t21 w17 =>
  gd t16 true (fun K => V Tryz.prog (Instr.loadAt 22 t21) w17 K) w17 fun t22 w18 =>
  gd t16 true (fun K => V Tryz.prog (Builtin.len_ #[22] 3 #[t22]) w18 K) w18 fun t23 w19 =>
  gd t16 true (fun K => V Tryz.prog (do eqGuard .eql 3 (Operand.tmp 20) (Operand.tmp 23) t20 t23; binOp .eql 3 t20 t23) w19 K) w19 fun t24 w20 =>
  pickD t16 t24 (Value.bool false) fun t25 =>
  R t25 w20
theorem F5_eq (t0 : Value) (t1 : Value) (w : World) (R : Value → World → Prop) : F5_den t0 t1 w R = vc Tryz.prog F5_ann (Tryz.f5.body.getD .skip) (retE Tryz.prog Tryz.f5.results.toList R) (argEnv [t0, t1]) w := by kernel_rfl
theorem F5_wp {t0 : Value} {t1 : Value} {w : World} {R : Value → World → Prop} (h : F5_den t0 t1 w R) : callD Tryz.prog 5 #[t0, t1] w R :=
  callD.of_calls (fn := Tryz.f5) (c := Tryz.f5.body.getD .skip) Tryz.func5 (by kernel_rfl) (by kernel_rfl) (calls_of_vc (args := [t0, t1]) F5_ann mixed Tryz.func5 (by kernel_rfl) (by kernel_rfl) (F5_eq t0 t1 w R ▸ h))

/-- bytes.Equal -/
def F10_ann : Ann := (Ann.seq Ann.leaf (Ann.seq Ann.leaf Ann.leaf))
def F10_den (t0 : Value) (t1 : Value) (w : World) (R : Value → World → Prop) : Prop :=
  V Tryz.prog (convert 22 9 t0) w fun t6 w1 =>
  V Tryz.prog (convert 22 9 t1) w1 fun t8 w2 =>
  V Tryz.prog (do eqGuard .eql 9 (Operand.tmp 6) (Operand.tmp 8) t6 t8; binOp .eql 9 t6 t8) w2 fun t9 w3 =>
  R t9 w3
theorem F10_eq (t0 : Value) (t1 : Value) (w : World) (R : Value → World → Prop) : F10_den t0 t1 w R = vc Tryz.prog F10_ann (Tryz.f10.body.getD .skip) (retE Tryz.prog Tryz.f10.results.toList R) (argEnv [t0, t1]) w := by kernel_rfl
theorem F10_wp {t0 : Value} {t1 : Value} {w : World} {R : Value → World → Prop} (h : F10_den t0 t1 w R) : callD Tryz.prog 10 #[t0, t1] w R :=
  callD.of_calls (fn := Tryz.f10) (c := Tryz.f10.body.getD .skip) Tryz.func10 (by kernel_rfl) (by kernel_rfl) (calls_of_vc (args := [t0, t1]) F10_ann mixed Tryz.func10 (by kernel_rfl) (by kernel_rfl) (F10_eq t0 t1 w R ▸ h))

end Go.Proofs.YtbigfaomhfmpkaaGreatDoor
