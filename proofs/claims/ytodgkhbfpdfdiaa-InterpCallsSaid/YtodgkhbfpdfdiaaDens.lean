/- Each function's body, opened into a plain condition by program (vcgen.py); the kernel holds the one against the other. -/
import Derived.Test.YtodgkhbfpdfdiaaLaws
import Derived.Test.YtodgkhbfpdfdiaaProg
import Derived.KernelRfl
namespace Go.Proofs.Ytodgkhbfpdfdiaa
open Go.Vc
theorem mixed : Try.prog.follows .mixedOrders = true := by kernel_rfl
/-- taciturn/taciturnhand.Pick -/
def F5_ann : Ann := (Ann.seq Ann.leaf (Ann.seq Ann.leaf (Ann.seq (Ann.seq Ann.leaf (Ann.cond Ann.leaf Ann.leaf)) (Ann.seq Ann.leaf Ann.leaf))))
def F5_den (t0 : Value) (t1 : Value) (w : World) (R : Value → World → Prop) : Prop :=
  V Try.prog (binOp .rem 3 t0 t1) w fun t7 w1 =>
  V Try.prog (binOp .lss 3 t7 (Value.int IntKind.i64 0)) w1 fun t9 w2 =>
  ifD t9 (
  V Try.prog (binOp .add 3 t7 t1) w2 fun t12 w3 =>
  R t12 w3) (
  R t7 w2)
theorem F5_eq (t0 : Value) (t1 : Value) (w : World) (R : Value → World → Prop) : F5_den t0 t1 w R = vc Try.prog F5_ann (Try.f5.body.getD .skip) (retE Try.prog Try.f5.results.toList R) (argEnv [t0, t1]) w := by kernel_rfl
theorem F5_wp {t0 : Value} {t1 : Value} {w : World} {R : Value → World → Prop} (h : F5_den t0 t1 w R) : callD Try.prog 5 #[t0, t1] w R :=
  callD.of_calls (fn := Try.f5) (c := Try.f5.body.getD .skip) Try.func5 (by kernel_rfl) (by kernel_rfl) (calls_of_vc (args := [t0, t1]) F5_ann mixed Try.func5 (by kernel_rfl) (by kernel_rfl) (F5_eq t0 t1 w R ▸ h))

end Go.Proofs.Ytodgkhbfpdfdiaa
