/- The laws of single operations, at this program's types: by program (instgen.py). -/
import Derived.Test.YtendijaeihljeaaDoorLaws2
import Derived.Test.YtendijaeihljeaaDoorProg
import Derived.KernelRfl
namespace Go.Proofs.YtendijaeihljeaaDoor
open Go.Vc
theorem inf3 : Inf Tryd.prog 3 (.int .i64 0) 1 8 := by unfold Inf; kernel_rfl
theorem inf4 : Inf Tryd.prog 4 (.bool false) 1 1 := by unfold Inf; kernel_rfl
theorem inf21 : Inf Tryd.prog 21 (.int .i32 0) 1 4 := by unfold Inf; kernel_rfl
theorem inf24 : Inf Tryd.prog 24 (.slice none 0 0) 1 24 := by unfold Inf; kernel_rfl
theorem inf26 : Inf Tryd.prog 26 (.agg #[(.int .i64 0), (.int .i64 0), (.slice none 0 0)]) 3 40 := by unfold Inf; kernel_rfl
theorem inf28 : Inf Tryd.prog 28 (.slice none 0 0) 1 24 := by unfold Inf; kernel_rfl
theorem inf35 : Inf Tryd.prog 35 (.slice none 0 0) 1 24 := by unfold Inf; kernel_rfl
theorem inf37 : Inf Tryd.prog 37 (.agg #[(.slice none 0 0), (.int .i64 0)]) 2 32 := by unfold Inf; kernel_rfl
theorem inf42 : Inf Tryd.prog 42 (.slice none 0 0) 1 24 := by unfold Inf; kernel_rfl
theorem inf44 : Inf Tryd.prog 44 (.agg #[(.int .i64 0), (.int .i64 0), (.slice none 0 0)]) 3 40 := by unfold Inf; kernel_rfl
theorem inf50 : Inf Tryd.prog 50 (.agg #[]) 0 0 := by unfold Inf; kernel_rfl
theorem inf52 : Inf Tryd.prog 52 .nilIface 1 16 := by unfold Inf; kernel_rfl
theorem inf54 : Inf Tryd.prog 54 (.agg #[(.int .i64 0)]) 1 8 := by unfold Inf; kernel_rfl
theorem inf58 : Inf Tryd.prog 58 (.slice none 0 0) 1 24 := by unfold Inf; kernel_rfl
theorem inf61 : Inf Tryd.prog 61 (.agg #[(.int .i64 0), (.int .i32 0)]) 2 16 := by unfold Inf; kernel_rfl
theorem inf68 : Inf Tryd.prog 68 (.agg #[(.int .i64 0), (.int .i64 0), (.int .i64 0), (.int .i64 0)]) 4 32 := by unfold Inf; kernel_rfl
theorem inf70 : Inf Tryd.prog 70 (.agg #[(.slice none 0 0), (.slice none 0 0), (.slice none 0 0)]) 3 72 := by unfold Inf; kernel_rfl
theorem inf76 : Inf Tryd.prog 76 (.agg #[(.int .i64 0), (.int .i64 0), (.int .i64 0), (.int .i64 0), (.int .i64 0), (.int .i64 0), (.int .i64 0), (.slice none 0 0)]) 8 80 := by unfold Inf; kernel_rfl
theorem inf82 : Inf Tryd.prog 82 (.agg #[(.int .i64 0), (.int .i64 0), (.int .i64 0), (.int .i64 0), (.int .i64 0), (.int .i64 0), (.int .i64 0), (.int .i64 0), (.slice none 0 0)]) 9 88 := by unfold Inf; kernel_rfl
theorem inf91 : Inf Tryd.prog 91 (.agg #[(.int .i64 0), (.int .i64 0)]) 2 16 := by unfold Inf; kernel_rfl
theorem inf93 : Inf Tryd.prog 93 (.agg #[(.int .i64 0), (.int .i64 0), (.int .i64 0)]) 3 24 := by unfold Inf; kernel_rfl
theorem inf95 : Inf Tryd.prog 95 (.agg #[(.int .i64 0), (.int .i64 0), (.int .i64 0), (.int .i64 0)]) 4 32 := by unfold Inf; kernel_rfl
theorem inf97 : Inf Tryd.prog 97 (.agg #[(.int .i64 0)]) 1 8 := by unfold Inf; kernel_rfl
theorem inf99 : Inf Tryd.prog 99 (.agg #[(.int .i64 0), (.int .i64 0)]) 2 16 := by unfold Inf; kernel_rfl
theorem inf108 : Inf Tryd.prog 108 (.agg #[(.int .i64 0), (.int .i64 0)]) 2 16 := by unfold Inf; kernel_rfl
theorem inf110 : Inf Tryd.prog 110 (.agg #[(.int .i64 0), (.int .i64 0)]) 2 16 := by unfold Inf; kernel_rfl
theorem inf112 : Inf Tryd.prog 112 (.agg #[(.int .i64 0), (.int .i64 0), (.int .i64 0), (.int .i64 0), (.slice none 0 0)]) 5 56 := by unfold Inf; kernel_rfl
theorem inf114 : Inf Tryd.prog 114 (.agg #[(.int .i64 0), (.int .i64 0), (.slice none 0 0)]) 3 40 := by unfold Inf; kernel_rfl
theorem inf116 : Inf Tryd.prog 116 (.agg #[(.int .i64 0), (.int .i64 0), (.slice none 0 0)]) 3 40 := by unfold Inf; kernel_rfl
theorem inf120 : Inf Tryd.prog 120 (.agg #[(.int .i64 0), (.int .i64 0), (.int .i64 0), (.int .i64 0), (.int .i64 0), (.int .i64 0), (.int .i64 0), (.int .i64 0), (.int .i64 0), (.int .i64 0)]) 10 80 := by unfold Inf; kernel_rfl
theorem r_eqb_4 {w : World} {x y : Operand} {a b : Bool} : (do eqGuard .eql 4 x y (.bool a) (.bool b); binOp .eql 4 (.bool a) (.bool b)).run Tryd.prog w = .ok (.bool (a == b)) w := r_eqBool Tryd.underlying4
theorem r_fd_108_0 {w : World} {b off : Nat} : (Instr.fieldAt 108 (.pointer (some ⟨b, off, none⟩)) 0).run Tryd.prog w = .ok (.pointer (some ⟨b, off + 0, none⟩)) w := r_field 3 0 Tryd.underlying108 rfl inf3 rfl
theorem r_fd_108_1 {w : World} {b off : Nat} : (Instr.fieldAt 108 (.pointer (some ⟨b, off, none⟩)) 1).run Tryd.prog w = .ok (.pointer (some ⟨b, off + 1, none⟩)) w := r_field 3 1 Tryd.underlying108 rfl inf3 rfl
theorem r_fd_110_0 {w : World} {b off : Nat} : (Instr.fieldAt 110 (.pointer (some ⟨b, off, none⟩)) 0).run Tryd.prog w = .ok (.pointer (some ⟨b, off + 0, none⟩)) w := r_field 3 0 Tryd.underlying110 rfl inf3 rfl
theorem r_fd_110_1 {w : World} {b off : Nat} : (Instr.fieldAt 110 (.pointer (some ⟨b, off, none⟩)) 1).run Tryd.prog w = .ok (.pointer (some ⟨b, off + 1, none⟩)) w := r_field 3 1 Tryd.underlying110 rfl inf3 rfl
theorem r_fd_112_0 {w : World} {b off : Nat} : (Instr.fieldAt 112 (.pointer (some ⟨b, off, none⟩)) 0).run Tryd.prog w = .ok (.pointer (some ⟨b, off + 0, none⟩)) w := r_field 3 0 Tryd.underlying112 rfl inf3 rfl
theorem r_fd_112_1 {w : World} {b off : Nat} : (Instr.fieldAt 112 (.pointer (some ⟨b, off, none⟩)) 1).run Tryd.prog w = .ok (.pointer (some ⟨b, off + 1, none⟩)) w := r_field 3 1 Tryd.underlying112 rfl inf3 rfl
theorem r_fd_112_2 {w : World} {b off : Nat} : (Instr.fieldAt 112 (.pointer (some ⟨b, off, none⟩)) 2).run Tryd.prog w = .ok (.pointer (some ⟨b, off + 2, none⟩)) w := r_field 3 2 Tryd.underlying112 rfl inf3 rfl
theorem r_fd_112_3 {w : World} {b off : Nat} : (Instr.fieldAt 112 (.pointer (some ⟨b, off, none⟩)) 3).run Tryd.prog w = .ok (.pointer (some ⟨b, off + 3, none⟩)) w := r_field 3 3 Tryd.underlying112 rfl inf3 rfl
theorem r_fd_112_4 {w : World} {b off : Nat} : (Instr.fieldAt 112 (.pointer (some ⟨b, off, none⟩)) 4).run Tryd.prog w = .ok (.pointer (some ⟨b, off + 4, none⟩)) w := r_field 35 4 Tryd.underlying112 rfl inf35 rfl
theorem r_fd_114_0 {w : World} {b off : Nat} : (Instr.fieldAt 114 (.pointer (some ⟨b, off, none⟩)) 0).run Tryd.prog w = .ok (.pointer (some ⟨b, off + 0, none⟩)) w := r_field 3 0 Tryd.underlying114 rfl inf3 rfl
theorem r_fd_114_1 {w : World} {b off : Nat} : (Instr.fieldAt 114 (.pointer (some ⟨b, off, none⟩)) 1).run Tryd.prog w = .ok (.pointer (some ⟨b, off + 1, none⟩)) w := r_field 3 1 Tryd.underlying114 rfl inf3 rfl
theorem r_fd_114_2 {w : World} {b off : Nat} : (Instr.fieldAt 114 (.pointer (some ⟨b, off, none⟩)) 2).run Tryd.prog w = .ok (.pointer (some ⟨b, off + 2, none⟩)) w := r_field 35 2 Tryd.underlying114 rfl inf35 rfl
theorem r_fd_116_0 {w : World} {b off : Nat} : (Instr.fieldAt 116 (.pointer (some ⟨b, off, none⟩)) 0).run Tryd.prog w = .ok (.pointer (some ⟨b, off + 0, none⟩)) w := r_field 3 0 Tryd.underlying116 rfl inf3 rfl
theorem r_fd_116_1 {w : World} {b off : Nat} : (Instr.fieldAt 116 (.pointer (some ⟨b, off, none⟩)) 1).run Tryd.prog w = .ok (.pointer (some ⟨b, off + 1, none⟩)) w := r_field 3 1 Tryd.underlying116 rfl inf3 rfl
theorem r_fd_116_2 {w : World} {b off : Nat} : (Instr.fieldAt 116 (.pointer (some ⟨b, off, none⟩)) 2).run Tryd.prog w = .ok (.pointer (some ⟨b, off + 2, none⟩)) w := r_field 35 2 Tryd.underlying116 rfl inf35 rfl
theorem r_fd_26_0 {w : World} {b off : Nat} : (Instr.fieldAt 26 (.pointer (some ⟨b, off, none⟩)) 0).run Tryd.prog w = .ok (.pointer (some ⟨b, off + 0, none⟩)) w := r_field 3 0 Tryd.underlying26 rfl inf3 rfl
theorem r_fd_26_1 {w : World} {b off : Nat} : (Instr.fieldAt 26 (.pointer (some ⟨b, off, none⟩)) 1).run Tryd.prog w = .ok (.pointer (some ⟨b, off + 1, none⟩)) w := r_field 3 1 Tryd.underlying26 rfl inf3 rfl
theorem r_fd_26_2 {w : World} {b off : Nat} : (Instr.fieldAt 26 (.pointer (some ⟨b, off, none⟩)) 2).run Tryd.prog w = .ok (.pointer (some ⟨b, off + 2, none⟩)) w := r_field 24 2 Tryd.underlying26 rfl inf24 rfl
theorem r_fd_37_0 {w : World} {b off : Nat} : (Instr.fieldAt 37 (.pointer (some ⟨b, off, none⟩)) 0).run Tryd.prog w = .ok (.pointer (some ⟨b, off + 0, none⟩)) w := r_field 35 0 Tryd.underlying37 rfl inf35 rfl
theorem r_fd_37_1 {w : World} {b off : Nat} : (Instr.fieldAt 37 (.pointer (some ⟨b, off, none⟩)) 1).run Tryd.prog w = .ok (.pointer (some ⟨b, off + 1, none⟩)) w := r_field 3 1 Tryd.underlying37 rfl inf3 rfl
theorem r_fd_44_0 {w : World} {b off : Nat} : (Instr.fieldAt 44 (.pointer (some ⟨b, off, none⟩)) 0).run Tryd.prog w = .ok (.pointer (some ⟨b, off + 0, none⟩)) w := r_field 3 0 Tryd.underlying44 rfl inf3 rfl
theorem r_fd_44_1 {w : World} {b off : Nat} : (Instr.fieldAt 44 (.pointer (some ⟨b, off, none⟩)) 1).run Tryd.prog w = .ok (.pointer (some ⟨b, off + 1, none⟩)) w := r_field 3 1 Tryd.underlying44 rfl inf3 rfl
theorem r_fd_44_2 {w : World} {b off : Nat} : (Instr.fieldAt 44 (.pointer (some ⟨b, off, none⟩)) 2).run Tryd.prog w = .ok (.pointer (some ⟨b, off + 2, none⟩)) w := r_field 42 2 Tryd.underlying44 rfl inf42 rfl
theorem r_fd_54_0 {w : World} {b off : Nat} : (Instr.fieldAt 54 (.pointer (some ⟨b, off, none⟩)) 0).run Tryd.prog w = .ok (.pointer (some ⟨b, off + 0, none⟩)) w := r_field 3 0 Tryd.underlying54 rfl inf3 rfl
theorem r_fd_61_0 {w : World} {b off : Nat} : (Instr.fieldAt 61 (.pointer (some ⟨b, off, none⟩)) 0).run Tryd.prog w = .ok (.pointer (some ⟨b, off + 0, none⟩)) w := r_field 3 0 Tryd.underlying61 rfl inf3 rfl
theorem r_fd_61_1 {w : World} {b off : Nat} : (Instr.fieldAt 61 (.pointer (some ⟨b, off, none⟩)) 1).run Tryd.prog w = .ok (.pointer (some ⟨b, off + 1, none⟩)) w := r_field 21 1 Tryd.underlying61 rfl inf21 rfl
theorem r_fd_68_0 {w : World} {b off : Nat} : (Instr.fieldAt 68 (.pointer (some ⟨b, off, none⟩)) 0).run Tryd.prog w = .ok (.pointer (some ⟨b, off + 0, none⟩)) w := r_field 3 0 Tryd.underlying68 rfl inf3 rfl
theorem r_fd_68_1 {w : World} {b off : Nat} : (Instr.fieldAt 68 (.pointer (some ⟨b, off, none⟩)) 1).run Tryd.prog w = .ok (.pointer (some ⟨b, off + 1, none⟩)) w := r_field 3 1 Tryd.underlying68 rfl inf3 rfl
theorem r_fd_68_2 {w : World} {b off : Nat} : (Instr.fieldAt 68 (.pointer (some ⟨b, off, none⟩)) 2).run Tryd.prog w = .ok (.pointer (some ⟨b, off + 2, none⟩)) w := r_field 3 2 Tryd.underlying68 rfl inf3 rfl
theorem r_fd_68_3 {w : World} {b off : Nat} : (Instr.fieldAt 68 (.pointer (some ⟨b, off, none⟩)) 3).run Tryd.prog w = .ok (.pointer (some ⟨b, off + 3, none⟩)) w := r_field 3 3 Tryd.underlying68 rfl inf3 rfl
theorem r_fd_70_0 {w : World} {b off : Nat} : (Instr.fieldAt 70 (.pointer (some ⟨b, off, none⟩)) 0).run Tryd.prog w = .ok (.pointer (some ⟨b, off + 0, none⟩)) w := r_field 58 0 Tryd.underlying70 rfl inf58 rfl
theorem r_fd_70_1 {w : World} {b off : Nat} : (Instr.fieldAt 70 (.pointer (some ⟨b, off, none⟩)) 1).run Tryd.prog w = .ok (.pointer (some ⟨b, off + 1, none⟩)) w := r_field 28 1 Tryd.underlying70 rfl inf28 rfl
theorem r_fd_70_2 {w : World} {b off : Nat} : (Instr.fieldAt 70 (.pointer (some ⟨b, off, none⟩)) 2).run Tryd.prog w = .ok (.pointer (some ⟨b, off + 2, none⟩)) w := r_field 35 2 Tryd.underlying70 rfl inf35 rfl
theorem r_fd_76_0 {w : World} {b off : Nat} : (Instr.fieldAt 76 (.pointer (some ⟨b, off, none⟩)) 0).run Tryd.prog w = .ok (.pointer (some ⟨b, off + 0, none⟩)) w := r_field 3 0 Tryd.underlying76 rfl inf3 rfl
theorem r_fd_76_1 {w : World} {b off : Nat} : (Instr.fieldAt 76 (.pointer (some ⟨b, off, none⟩)) 1).run Tryd.prog w = .ok (.pointer (some ⟨b, off + 1, none⟩)) w := r_field 3 1 Tryd.underlying76 rfl inf3 rfl
theorem r_fd_76_2 {w : World} {b off : Nat} : (Instr.fieldAt 76 (.pointer (some ⟨b, off, none⟩)) 2).run Tryd.prog w = .ok (.pointer (some ⟨b, off + 2, none⟩)) w := r_field 3 2 Tryd.underlying76 rfl inf3 rfl
theorem r_fd_76_3 {w : World} {b off : Nat} : (Instr.fieldAt 76 (.pointer (some ⟨b, off, none⟩)) 3).run Tryd.prog w = .ok (.pointer (some ⟨b, off + 3, none⟩)) w := r_field 3 3 Tryd.underlying76 rfl inf3 rfl
theorem r_fd_76_6 {w : World} {b off : Nat} : (Instr.fieldAt 76 (.pointer (some ⟨b, off, none⟩)) 6).run Tryd.prog w = .ok (.pointer (some ⟨b, off + 6, none⟩)) w := r_field 3 6 Tryd.underlying76 rfl inf3 rfl
theorem r_fd_76_7 {w : World} {b off : Nat} : (Instr.fieldAt 76 (.pointer (some ⟨b, off, none⟩)) 7).run Tryd.prog w = .ok (.pointer (some ⟨b, off + 7, none⟩)) w := r_field 35 7 Tryd.underlying76 rfl inf35 rfl
theorem r_fd_82_0 {w : World} {b off : Nat} : (Instr.fieldAt 82 (.pointer (some ⟨b, off, none⟩)) 0).run Tryd.prog w = .ok (.pointer (some ⟨b, off + 0, none⟩)) w := r_field 3 0 Tryd.underlying82 rfl inf3 rfl
theorem r_fd_82_1 {w : World} {b off : Nat} : (Instr.fieldAt 82 (.pointer (some ⟨b, off, none⟩)) 1).run Tryd.prog w = .ok (.pointer (some ⟨b, off + 1, none⟩)) w := r_field 3 1 Tryd.underlying82 rfl inf3 rfl
theorem r_fd_82_2 {w : World} {b off : Nat} : (Instr.fieldAt 82 (.pointer (some ⟨b, off, none⟩)) 2).run Tryd.prog w = .ok (.pointer (some ⟨b, off + 2, none⟩)) w := r_field 3 2 Tryd.underlying82 rfl inf3 rfl
theorem r_fd_82_3 {w : World} {b off : Nat} : (Instr.fieldAt 82 (.pointer (some ⟨b, off, none⟩)) 3).run Tryd.prog w = .ok (.pointer (some ⟨b, off + 3, none⟩)) w := r_field 3 3 Tryd.underlying82 rfl inf3 rfl
theorem r_fd_82_4 {w : World} {b off : Nat} : (Instr.fieldAt 82 (.pointer (some ⟨b, off, none⟩)) 4).run Tryd.prog w = .ok (.pointer (some ⟨b, off + 4, none⟩)) w := r_field 3 4 Tryd.underlying82 rfl inf3 rfl
theorem r_fd_82_5 {w : World} {b off : Nat} : (Instr.fieldAt 82 (.pointer (some ⟨b, off, none⟩)) 5).run Tryd.prog w = .ok (.pointer (some ⟨b, off + 5, none⟩)) w := r_field 3 5 Tryd.underlying82 rfl inf3 rfl
theorem r_fd_82_6 {w : World} {b off : Nat} : (Instr.fieldAt 82 (.pointer (some ⟨b, off, none⟩)) 6).run Tryd.prog w = .ok (.pointer (some ⟨b, off + 6, none⟩)) w := r_field 3 6 Tryd.underlying82 rfl inf3 rfl
theorem r_fd_82_7 {w : World} {b off : Nat} : (Instr.fieldAt 82 (.pointer (some ⟨b, off, none⟩)) 7).run Tryd.prog w = .ok (.pointer (some ⟨b, off + 7, none⟩)) w := r_field 3 7 Tryd.underlying82 rfl inf3 rfl
theorem r_fd_82_8 {w : World} {b off : Nat} : (Instr.fieldAt 82 (.pointer (some ⟨b, off, none⟩)) 8).run Tryd.prog w = .ok (.pointer (some ⟨b, off + 8, none⟩)) w := r_field 35 8 Tryd.underlying82 rfl inf35 rfl
theorem r_fd_91_0 {w : World} {b off : Nat} : (Instr.fieldAt 91 (.pointer (some ⟨b, off, none⟩)) 0).run Tryd.prog w = .ok (.pointer (some ⟨b, off + 0, none⟩)) w := r_field 3 0 Tryd.underlying91 rfl inf3 rfl
theorem r_fd_91_1 {w : World} {b off : Nat} : (Instr.fieldAt 91 (.pointer (some ⟨b, off, none⟩)) 1).run Tryd.prog w = .ok (.pointer (some ⟨b, off + 1, none⟩)) w := r_field 3 1 Tryd.underlying91 rfl inf3 rfl
theorem r_fd_93_0 {w : World} {b off : Nat} : (Instr.fieldAt 93 (.pointer (some ⟨b, off, none⟩)) 0).run Tryd.prog w = .ok (.pointer (some ⟨b, off + 0, none⟩)) w := r_field 3 0 Tryd.underlying93 rfl inf3 rfl
theorem r_fd_93_1 {w : World} {b off : Nat} : (Instr.fieldAt 93 (.pointer (some ⟨b, off, none⟩)) 1).run Tryd.prog w = .ok (.pointer (some ⟨b, off + 1, none⟩)) w := r_field 3 1 Tryd.underlying93 rfl inf3 rfl
theorem r_fd_93_2 {w : World} {b off : Nat} : (Instr.fieldAt 93 (.pointer (some ⟨b, off, none⟩)) 2).run Tryd.prog w = .ok (.pointer (some ⟨b, off + 2, none⟩)) w := r_field 3 2 Tryd.underlying93 rfl inf3 rfl
theorem r_fd_95_0 {w : World} {b off : Nat} : (Instr.fieldAt 95 (.pointer (some ⟨b, off, none⟩)) 0).run Tryd.prog w = .ok (.pointer (some ⟨b, off + 0, none⟩)) w := r_field 3 0 Tryd.underlying95 rfl inf3 rfl
theorem r_fd_95_1 {w : World} {b off : Nat} : (Instr.fieldAt 95 (.pointer (some ⟨b, off, none⟩)) 1).run Tryd.prog w = .ok (.pointer (some ⟨b, off + 1, none⟩)) w := r_field 3 1 Tryd.underlying95 rfl inf3 rfl
theorem r_fd_95_2 {w : World} {b off : Nat} : (Instr.fieldAt 95 (.pointer (some ⟨b, off, none⟩)) 2).run Tryd.prog w = .ok (.pointer (some ⟨b, off + 2, none⟩)) w := r_field 3 2 Tryd.underlying95 rfl inf3 rfl
theorem r_fd_95_3 {w : World} {b off : Nat} : (Instr.fieldAt 95 (.pointer (some ⟨b, off, none⟩)) 3).run Tryd.prog w = .ok (.pointer (some ⟨b, off + 3, none⟩)) w := r_field 3 3 Tryd.underlying95 rfl inf3 rfl
theorem r_fd_97_0 {w : World} {b off : Nat} : (Instr.fieldAt 97 (.pointer (some ⟨b, off, none⟩)) 0).run Tryd.prog w = .ok (.pointer (some ⟨b, off + 0, none⟩)) w := r_field 3 0 Tryd.underlying97 rfl inf3 rfl
theorem r_fd_99_0 {w : World} {b off : Nat} : (Instr.fieldAt 99 (.pointer (some ⟨b, off, none⟩)) 0).run Tryd.prog w = .ok (.pointer (some ⟨b, off + 0, none⟩)) w := r_field 3 0 Tryd.underlying99 rfl inf3 rfl
theorem r_fd_99_1 {w : World} {b off : Nat} : (Instr.fieldAt 99 (.pointer (some ⟨b, off, none⟩)) 1).run Tryd.prog w = .ok (.pointer (some ⟨b, off + 1, none⟩)) w := r_field 3 1 Tryd.underlying99 rfl inf3 rfl
theorem r_ix_22 {w : World} {b off len cap : Nat} {k : IntKind} {i : Int} (h0 : 0 ≤ i) (h1 : i < len) : (Instr.indexAt 22 (.slice (some ⟨b, off, none⟩) len cap) (.int k i)).run Tryd.prog w = .ok (.pointer (some ⟨b, off + i.toNat * 9, none⟩)) w := r_index Tryd.underlying22 inf82 h0 h1
theorem r_ix_23 {w : World} {b off len cap : Nat} {k : IntKind} {i : Int} (h0 : 0 ≤ i) (h1 : i < len) : (Instr.indexAt 23 (.slice (some ⟨b, off, none⟩) len cap) (.int k i)).run Tryd.prog w = .ok (.pointer (some ⟨b, off + i.toNat * 1, none⟩)) w := r_index Tryd.underlying23 inf21 h0 h1
theorem r_ix_24 {w : World} {b off len cap : Nat} {k : IntKind} {i : Int} (h0 : 0 ≤ i) (h1 : i < len) : (Instr.indexAt 24 (.slice (some ⟨b, off, none⟩) len cap) (.int k i)).run Tryd.prog w = .ok (.pointer (some ⟨b, off + i.toNat * 1, none⟩)) w := r_index Tryd.underlying24 inf52 h0 h1
theorem r_ix_28 {w : World} {b off len cap : Nat} {k : IntKind} {i : Int} (h0 : 0 ≤ i) (h1 : i < len) : (Instr.indexAt 28 (.slice (some ⟨b, off, none⟩) len cap) (.int k i)).run Tryd.prog w = .ok (.pointer (some ⟨b, off + i.toNat * 1, none⟩)) w := r_index Tryd.underlying28 inf4 h0 h1
theorem r_ix_35 {w : World} {b off len cap : Nat} {k : IntKind} {i : Int} (h0 : 0 ≤ i) (h1 : i < len) : (Instr.indexAt 35 (.slice (some ⟨b, off, none⟩) len cap) (.int k i)).run Tryd.prog w = .ok (.pointer (some ⟨b, off + i.toNat * 1, none⟩)) w := r_index Tryd.underlying35 inf3 h0 h1
theorem r_ix_42 {w : World} {b off len cap : Nat} {k : IntKind} {i : Int} (h0 : 0 ≤ i) (h1 : i < len) : (Instr.indexAt 42 (.slice (some ⟨b, off, none⟩) len cap) (.int k i)).run Tryd.prog w = .ok (.pointer (some ⟨b, off + i.toNat * 8, none⟩)) w := r_index Tryd.underlying42 inf76 h0 h1
theorem r_ix_58 {w : World} {b off len cap : Nat} {k : IntKind} {i : Int} (h0 : 0 ≤ i) (h1 : i < len) : (Instr.indexAt 58 (.slice (some ⟨b, off, none⟩) len cap) (.int k i)).run Tryd.prog w = .ok (.pointer (some ⟨b, off + i.toNat * 1, none⟩)) w := r_index Tryd.underlying58 inf28 h0 h1
theorem r_la_26 {w : World} {b off : Nat} {cs : List Value} (hl : cs.length = 3) (h : ∀ j (_ : j < cs.length), w.cell? ⟨b, off + j, none⟩ = cs[j]?) : (Instr.loadAt 26 (.pointer (some ⟨b, off, none⟩))).run Tryd.prog w = .ok (.agg cs.toArray) w := r_loadAgg Tryd.underlying26 rfl inf26 hl h
theorem r_la_37 {w : World} {b off : Nat} {cs : List Value} (hl : cs.length = 2) (h : ∀ j (_ : j < cs.length), w.cell? ⟨b, off + j, none⟩ = cs[j]?) : (Instr.loadAt 37 (.pointer (some ⟨b, off, none⟩))).run Tryd.prog w = .ok (.agg cs.toArray) w := r_loadAgg Tryd.underlying37 rfl inf37 hl h
theorem r_la_44 {w : World} {b off : Nat} {cs : List Value} (hl : cs.length = 3) (h : ∀ j (_ : j < cs.length), w.cell? ⟨b, off + j, none⟩ = cs[j]?) : (Instr.loadAt 44 (.pointer (some ⟨b, off, none⟩))).run Tryd.prog w = .ok (.agg cs.toArray) w := r_loadAgg Tryd.underlying44 rfl inf44 hl h
theorem r_la_70 {w : World} {b off : Nat} {cs : List Value} (hl : cs.length = 3) (h : ∀ j (_ : j < cs.length), w.cell? ⟨b, off + j, none⟩ = cs[j]?) : (Instr.loadAt 70 (.pointer (some ⟨b, off, none⟩))).run Tryd.prog w = .ok (.agg cs.toArray) w := r_loadAgg Tryd.underlying70 rfl inf70 hl h
theorem r_la_76 {w : World} {b off : Nat} {cs : List Value} (hl : cs.length = 8) (h : ∀ j (_ : j < cs.length), w.cell? ⟨b, off + j, none⟩ = cs[j]?) : (Instr.loadAt 76 (.pointer (some ⟨b, off, none⟩))).run Tryd.prog w = .ok (.agg cs.toArray) w := r_loadAgg Tryd.underlying76 rfl inf76 hl h
theorem r_la_82 {w : World} {b off : Nat} {cs : List Value} (hl : cs.length = 9) (h : ∀ j (_ : j < cs.length), w.cell? ⟨b, off + j, none⟩ = cs[j]?) : (Instr.loadAt 82 (.pointer (some ⟨b, off, none⟩))).run Tryd.prog w = .ok (.agg cs.toArray) w := r_loadAgg Tryd.underlying82 rfl inf82 hl h
theorem r_ld_21 {w : World} {a : Addr} {v : Value} (h : w.cell? a = some v) : (Instr.loadAt 21 (.pointer (some a))).run Tryd.prog w = .ok v w := r_load Tryd.underlying21 rfl h
theorem r_ld_24 {w : World} {a : Addr} {v : Value} (h : w.cell? a = some v) : (Instr.loadAt 24 (.pointer (some a))).run Tryd.prog w = .ok v w := r_load Tryd.underlying24 rfl h
theorem r_ld_28 {w : World} {a : Addr} {v : Value} (h : w.cell? a = some v) : (Instr.loadAt 28 (.pointer (some a))).run Tryd.prog w = .ok v w := r_load Tryd.underlying28 rfl h
theorem r_ld_3 {w : World} {a : Addr} {v : Value} (h : w.cell? a = some v) : (Instr.loadAt 3 (.pointer (some a))).run Tryd.prog w = .ok v w := r_load Tryd.underlying3 rfl h
theorem r_ld_35 {w : World} {a : Addr} {v : Value} (h : w.cell? a = some v) : (Instr.loadAt 35 (.pointer (some a))).run Tryd.prog w = .ok v w := r_load Tryd.underlying35 rfl h
theorem r_ld_4 {w : World} {a : Addr} {v : Value} (h : w.cell? a = some v) : (Instr.loadAt 4 (.pointer (some a))).run Tryd.prog w = .ok v w := r_load Tryd.underlying4 rfl h
theorem r_ld_42 {w : World} {a : Addr} {v : Value} (h : w.cell? a = some v) : (Instr.loadAt 42 (.pointer (some a))).run Tryd.prog w = .ok v w := r_load Tryd.underlying42 rfl h
theorem r_ld_52 {w : World} {a : Addr} {v : Value} (h : w.cell? a = some v) : (Instr.loadAt 52 (.pointer (some a))).run Tryd.prog w = .ok v w := r_load Tryd.underlying52 rfl h
theorem r_ld_58 {w : World} {a : Addr} {v : Value} (h : w.cell? a = some v) : (Instr.loadAt 58 (.pointer (some a))).run Tryd.prog w = .ok v w := r_load Tryd.underlying58 rfl h
theorem r_sn_108 {w : World} {t' : TypeId} {old : Array Value} {v : Value} (hn : v.cells.size = 2) (ho : old.size = 2) (h1 : ∀ u ∈ v.cells.toList, oneC u = true) : (Instr.storeAt 108 (.pointer (some ⟨w.heap.size, 0, none⟩)) v).run Tryd.prog (w.alloc (.cells old t')) = .ok () (w.alloc (.cells v.cells t')) := r_storeNew inf108 hn ho h1
theorem r_sn_110 {w : World} {t' : TypeId} {old : Array Value} {v : Value} (hn : v.cells.size = 2) (ho : old.size = 2) (h1 : ∀ u ∈ v.cells.toList, oneC u = true) : (Instr.storeAt 110 (.pointer (some ⟨w.heap.size, 0, none⟩)) v).run Tryd.prog (w.alloc (.cells old t')) = .ok () (w.alloc (.cells v.cells t')) := r_storeNew inf110 hn ho h1
theorem r_sn_112 {w : World} {t' : TypeId} {old : Array Value} {v : Value} (hn : v.cells.size = 5) (ho : old.size = 5) (h1 : ∀ u ∈ v.cells.toList, oneC u = true) : (Instr.storeAt 112 (.pointer (some ⟨w.heap.size, 0, none⟩)) v).run Tryd.prog (w.alloc (.cells old t')) = .ok () (w.alloc (.cells v.cells t')) := r_storeNew inf112 hn ho h1
theorem r_sn_114 {w : World} {t' : TypeId} {old : Array Value} {v : Value} (hn : v.cells.size = 3) (ho : old.size = 3) (h1 : ∀ u ∈ v.cells.toList, oneC u = true) : (Instr.storeAt 114 (.pointer (some ⟨w.heap.size, 0, none⟩)) v).run Tryd.prog (w.alloc (.cells old t')) = .ok () (w.alloc (.cells v.cells t')) := r_storeNew inf114 hn ho h1
theorem r_sn_116 {w : World} {t' : TypeId} {old : Array Value} {v : Value} (hn : v.cells.size = 3) (ho : old.size = 3) (h1 : ∀ u ∈ v.cells.toList, oneC u = true) : (Instr.storeAt 116 (.pointer (some ⟨w.heap.size, 0, none⟩)) v).run Tryd.prog (w.alloc (.cells old t')) = .ok () (w.alloc (.cells v.cells t')) := r_storeNew inf116 hn ho h1
theorem r_sn_120 {w : World} {t' : TypeId} {old : Array Value} {v : Value} (hn : v.cells.size = 10) (ho : old.size = 10) (h1 : ∀ u ∈ v.cells.toList, oneC u = true) : (Instr.storeAt 120 (.pointer (some ⟨w.heap.size, 0, none⟩)) v).run Tryd.prog (w.alloc (.cells old t')) = .ok () (w.alloc (.cells v.cells t')) := r_storeNew inf120 hn ho h1
theorem r_sn_26 {w : World} {t' : TypeId} {old : Array Value} {v : Value} (hn : v.cells.size = 3) (ho : old.size = 3) (h1 : ∀ u ∈ v.cells.toList, oneC u = true) : (Instr.storeAt 26 (.pointer (some ⟨w.heap.size, 0, none⟩)) v).run Tryd.prog (w.alloc (.cells old t')) = .ok () (w.alloc (.cells v.cells t')) := r_storeNew inf26 hn ho h1
theorem r_sn_37 {w : World} {t' : TypeId} {old : Array Value} {v : Value} (hn : v.cells.size = 2) (ho : old.size = 2) (h1 : ∀ u ∈ v.cells.toList, oneC u = true) : (Instr.storeAt 37 (.pointer (some ⟨w.heap.size, 0, none⟩)) v).run Tryd.prog (w.alloc (.cells old t')) = .ok () (w.alloc (.cells v.cells t')) := r_storeNew inf37 hn ho h1
theorem r_sn_44 {w : World} {t' : TypeId} {old : Array Value} {v : Value} (hn : v.cells.size = 3) (ho : old.size = 3) (h1 : ∀ u ∈ v.cells.toList, oneC u = true) : (Instr.storeAt 44 (.pointer (some ⟨w.heap.size, 0, none⟩)) v).run Tryd.prog (w.alloc (.cells old t')) = .ok () (w.alloc (.cells v.cells t')) := r_storeNew inf44 hn ho h1
theorem r_sn_50 {w : World} {t' : TypeId} {old : Array Value} {v : Value} (hn : v.cells.size = 0) (ho : old.size = 0) (h1 : ∀ u ∈ v.cells.toList, oneC u = true) : (Instr.storeAt 50 (.pointer (some ⟨w.heap.size, 0, none⟩)) v).run Tryd.prog (w.alloc (.cells old t')) = .ok () (w.alloc (.cells v.cells t')) := r_storeNew inf50 hn ho h1
theorem r_sn_54 {w : World} {t' : TypeId} {old : Array Value} {v : Value} (hn : v.cells.size = 1) (ho : old.size = 1) (h1 : ∀ u ∈ v.cells.toList, oneC u = true) : (Instr.storeAt 54 (.pointer (some ⟨w.heap.size, 0, none⟩)) v).run Tryd.prog (w.alloc (.cells old t')) = .ok () (w.alloc (.cells v.cells t')) := r_storeNew inf54 hn ho h1
theorem r_sn_61 {w : World} {t' : TypeId} {old : Array Value} {v : Value} (hn : v.cells.size = 2) (ho : old.size = 2) (h1 : ∀ u ∈ v.cells.toList, oneC u = true) : (Instr.storeAt 61 (.pointer (some ⟨w.heap.size, 0, none⟩)) v).run Tryd.prog (w.alloc (.cells old t')) = .ok () (w.alloc (.cells v.cells t')) := r_storeNew inf61 hn ho h1
theorem r_sn_68 {w : World} {t' : TypeId} {old : Array Value} {v : Value} (hn : v.cells.size = 4) (ho : old.size = 4) (h1 : ∀ u ∈ v.cells.toList, oneC u = true) : (Instr.storeAt 68 (.pointer (some ⟨w.heap.size, 0, none⟩)) v).run Tryd.prog (w.alloc (.cells old t')) = .ok () (w.alloc (.cells v.cells t')) := r_storeNew inf68 hn ho h1
theorem r_sn_70 {w : World} {t' : TypeId} {old : Array Value} {v : Value} (hn : v.cells.size = 3) (ho : old.size = 3) (h1 : ∀ u ∈ v.cells.toList, oneC u = true) : (Instr.storeAt 70 (.pointer (some ⟨w.heap.size, 0, none⟩)) v).run Tryd.prog (w.alloc (.cells old t')) = .ok () (w.alloc (.cells v.cells t')) := r_storeNew inf70 hn ho h1
theorem r_sn_76 {w : World} {t' : TypeId} {old : Array Value} {v : Value} (hn : v.cells.size = 8) (ho : old.size = 8) (h1 : ∀ u ∈ v.cells.toList, oneC u = true) : (Instr.storeAt 76 (.pointer (some ⟨w.heap.size, 0, none⟩)) v).run Tryd.prog (w.alloc (.cells old t')) = .ok () (w.alloc (.cells v.cells t')) := r_storeNew inf76 hn ho h1
theorem r_sn_91 {w : World} {t' : TypeId} {old : Array Value} {v : Value} (hn : v.cells.size = 2) (ho : old.size = 2) (h1 : ∀ u ∈ v.cells.toList, oneC u = true) : (Instr.storeAt 91 (.pointer (some ⟨w.heap.size, 0, none⟩)) v).run Tryd.prog (w.alloc (.cells old t')) = .ok () (w.alloc (.cells v.cells t')) := r_storeNew inf91 hn ho h1
theorem r_sn_93 {w : World} {t' : TypeId} {old : Array Value} {v : Value} (hn : v.cells.size = 3) (ho : old.size = 3) (h1 : ∀ u ∈ v.cells.toList, oneC u = true) : (Instr.storeAt 93 (.pointer (some ⟨w.heap.size, 0, none⟩)) v).run Tryd.prog (w.alloc (.cells old t')) = .ok () (w.alloc (.cells v.cells t')) := r_storeNew inf93 hn ho h1
theorem r_sn_95 {w : World} {t' : TypeId} {old : Array Value} {v : Value} (hn : v.cells.size = 4) (ho : old.size = 4) (h1 : ∀ u ∈ v.cells.toList, oneC u = true) : (Instr.storeAt 95 (.pointer (some ⟨w.heap.size, 0, none⟩)) v).run Tryd.prog (w.alloc (.cells old t')) = .ok () (w.alloc (.cells v.cells t')) := r_storeNew inf95 hn ho h1
theorem r_sn_97 {w : World} {t' : TypeId} {old : Array Value} {v : Value} (hn : v.cells.size = 1) (ho : old.size = 1) (h1 : ∀ u ∈ v.cells.toList, oneC u = true) : (Instr.storeAt 97 (.pointer (some ⟨w.heap.size, 0, none⟩)) v).run Tryd.prog (w.alloc (.cells old t')) = .ok () (w.alloc (.cells v.cells t')) := r_storeNew inf97 hn ho h1
theorem r_sn_99 {w : World} {t' : TypeId} {old : Array Value} {v : Value} (hn : v.cells.size = 2) (ho : old.size = 2) (h1 : ∀ u ∈ v.cells.toList, oneC u = true) : (Instr.storeAt 99 (.pointer (some ⟨w.heap.size, 0, none⟩)) v).run Tryd.prog (w.alloc (.cells old t')) = .ok () (w.alloc (.cells v.cells t')) := r_storeNew inf99 hn ho h1
theorem U_st_21 {w : World} {b off : Nat} {v : Value} {K : Value → World → Prop} (hv : oneC v = true) (h : (w.cell? ⟨b, off, none⟩).isSome = true) (hf : w.frozen? ⟨b, off, none⟩ = false) : U Tryd.prog (Instr.storeAt 21 (.pointer (some ⟨b, off, none⟩)) v) w K ↔ K undef (w.setCell ⟨b, off, none⟩ v) := V_store inf21 hv h hf
theorem U_st_24 {w : World} {b off : Nat} {v : Value} {K : Value → World → Prop} (hv : oneC v = true) (h : (w.cell? ⟨b, off, none⟩).isSome = true) (hf : w.frozen? ⟨b, off, none⟩ = false) : U Tryd.prog (Instr.storeAt 24 (.pointer (some ⟨b, off, none⟩)) v) w K ↔ K undef (w.setCell ⟨b, off, none⟩ v) := V_store inf24 hv h hf
theorem U_st_28 {w : World} {b off : Nat} {v : Value} {K : Value → World → Prop} (hv : oneC v = true) (h : (w.cell? ⟨b, off, none⟩).isSome = true) (hf : w.frozen? ⟨b, off, none⟩ = false) : U Tryd.prog (Instr.storeAt 28 (.pointer (some ⟨b, off, none⟩)) v) w K ↔ K undef (w.setCell ⟨b, off, none⟩ v) := V_store inf28 hv h hf
theorem U_st_3 {w : World} {b off : Nat} {v : Value} {K : Value → World → Prop} (hv : oneC v = true) (h : (w.cell? ⟨b, off, none⟩).isSome = true) (hf : w.frozen? ⟨b, off, none⟩ = false) : U Tryd.prog (Instr.storeAt 3 (.pointer (some ⟨b, off, none⟩)) v) w K ↔ K undef (w.setCell ⟨b, off, none⟩ v) := V_store inf3 hv h hf
theorem U_st_35 {w : World} {b off : Nat} {v : Value} {K : Value → World → Prop} (hv : oneC v = true) (h : (w.cell? ⟨b, off, none⟩).isSome = true) (hf : w.frozen? ⟨b, off, none⟩ = false) : U Tryd.prog (Instr.storeAt 35 (.pointer (some ⟨b, off, none⟩)) v) w K ↔ K undef (w.setCell ⟨b, off, none⟩ v) := V_store inf35 hv h hf
theorem U_st_4 {w : World} {b off : Nat} {v : Value} {K : Value → World → Prop} (hv : oneC v = true) (h : (w.cell? ⟨b, off, none⟩).isSome = true) (hf : w.frozen? ⟨b, off, none⟩ = false) : U Tryd.prog (Instr.storeAt 4 (.pointer (some ⟨b, off, none⟩)) v) w K ↔ K undef (w.setCell ⟨b, off, none⟩ v) := V_store inf4 hv h hf
theorem U_st_42 {w : World} {b off : Nat} {v : Value} {K : Value → World → Prop} (hv : oneC v = true) (h : (w.cell? ⟨b, off, none⟩).isSome = true) (hf : w.frozen? ⟨b, off, none⟩ = false) : U Tryd.prog (Instr.storeAt 42 (.pointer (some ⟨b, off, none⟩)) v) w K ↔ K undef (w.setCell ⟨b, off, none⟩ v) := V_store inf42 hv h hf
theorem U_st_52 {w : World} {b off : Nat} {v : Value} {K : Value → World → Prop} (hv : oneC v = true) (h : (w.cell? ⟨b, off, none⟩).isSome = true) (hf : w.frozen? ⟨b, off, none⟩ = false) : U Tryd.prog (Instr.storeAt 52 (.pointer (some ⟨b, off, none⟩)) v) w K ↔ K undef (w.setCell ⟨b, off, none⟩ v) := V_store inf52 hv h hf
theorem V_al_108 {w : World} {K : Value → World → Prop} : V Tryd.prog (Instr.alloc 108 true (.tuple #[])) w K ↔ K (.pointer (some ⟨w.heap.size, 0, none⟩)) (w.alloc (.cells (Value.cells (.agg #[(.int .i64 0), (.int .i64 0)])) 108)) := V.iff (r_alloc inf108)
theorem V_al_110 {w : World} {K : Value → World → Prop} : V Tryd.prog (Instr.alloc 110 true (.tuple #[])) w K ↔ K (.pointer (some ⟨w.heap.size, 0, none⟩)) (w.alloc (.cells (Value.cells (.agg #[(.int .i64 0), (.int .i64 0)])) 110)) := V.iff (r_alloc inf110)
theorem V_al_112 {w : World} {K : Value → World → Prop} : V Tryd.prog (Instr.alloc 112 true (.tuple #[])) w K ↔ K (.pointer (some ⟨w.heap.size, 0, none⟩)) (w.alloc (.cells (Value.cells (.agg #[(.int .i64 0), (.int .i64 0), (.int .i64 0), (.int .i64 0), (.slice none 0 0)])) 112)) := V.iff (r_alloc inf112)
theorem V_al_114 {w : World} {K : Value → World → Prop} : V Tryd.prog (Instr.alloc 114 true (.tuple #[])) w K ↔ K (.pointer (some ⟨w.heap.size, 0, none⟩)) (w.alloc (.cells (Value.cells (.agg #[(.int .i64 0), (.int .i64 0), (.slice none 0 0)])) 114)) := V.iff (r_alloc inf114)
theorem V_al_116 {w : World} {K : Value → World → Prop} : V Tryd.prog (Instr.alloc 116 true (.tuple #[])) w K ↔ K (.pointer (some ⟨w.heap.size, 0, none⟩)) (w.alloc (.cells (Value.cells (.agg #[(.int .i64 0), (.int .i64 0), (.slice none 0 0)])) 116)) := V.iff (r_alloc inf116)
theorem V_al_120 {w : World} {K : Value → World → Prop} : V Tryd.prog (Instr.alloc 120 true (.tuple #[])) w K ↔ K (.pointer (some ⟨w.heap.size, 0, none⟩)) (w.alloc (.cells (Value.cells (.agg #[(.int .i64 0), (.int .i64 0), (.int .i64 0), (.int .i64 0), (.int .i64 0), (.int .i64 0), (.int .i64 0), (.int .i64 0), (.int .i64 0), (.int .i64 0)])) 120)) := V.iff (r_alloc inf120)
theorem V_al_26 {w : World} {K : Value → World → Prop} : V Tryd.prog (Instr.alloc 26 true (.tuple #[])) w K ↔ K (.pointer (some ⟨w.heap.size, 0, none⟩)) (w.alloc (.cells (Value.cells (.agg #[(.int .i64 0), (.int .i64 0), (.slice none 0 0)])) 26)) := V.iff (r_alloc inf26)
theorem V_al_28 {w : World} {K : Value → World → Prop} : V Tryd.prog (Instr.alloc 28 true (.tuple #[])) w K ↔ K (.pointer (some ⟨w.heap.size, 0, none⟩)) (w.alloc (.cells (Value.cells (.slice none 0 0)) 28)) := V.iff (r_alloc inf28)
theorem V_al_37 {w : World} {K : Value → World → Prop} : V Tryd.prog (Instr.alloc 37 true (.tuple #[])) w K ↔ K (.pointer (some ⟨w.heap.size, 0, none⟩)) (w.alloc (.cells (Value.cells (.agg #[(.slice none 0 0), (.int .i64 0)])) 37)) := V.iff (r_alloc inf37)
theorem V_al_44 {w : World} {K : Value → World → Prop} : V Tryd.prog (Instr.alloc 44 true (.tuple #[])) w K ↔ K (.pointer (some ⟨w.heap.size, 0, none⟩)) (w.alloc (.cells (Value.cells (.agg #[(.int .i64 0), (.int .i64 0), (.slice none 0 0)])) 44)) := V.iff (r_alloc inf44)
theorem V_al_50 {w : World} {K : Value → World → Prop} : V Tryd.prog (Instr.alloc 50 true (.tuple #[])) w K ↔ K (.pointer (some ⟨w.heap.size, 0, none⟩)) (w.alloc (.cells (Value.cells (.agg #[])) 50)) := V.iff (r_alloc inf50)
theorem V_al_54 {w : World} {K : Value → World → Prop} : V Tryd.prog (Instr.alloc 54 true (.tuple #[])) w K ↔ K (.pointer (some ⟨w.heap.size, 0, none⟩)) (w.alloc (.cells (Value.cells (.agg #[(.int .i64 0)])) 54)) := V.iff (r_alloc inf54)
theorem V_al_61 {w : World} {K : Value → World → Prop} : V Tryd.prog (Instr.alloc 61 true (.tuple #[])) w K ↔ K (.pointer (some ⟨w.heap.size, 0, none⟩)) (w.alloc (.cells (Value.cells (.agg #[(.int .i64 0), (.int .i32 0)])) 61)) := V.iff (r_alloc inf61)
theorem V_al_68 {w : World} {K : Value → World → Prop} : V Tryd.prog (Instr.alloc 68 true (.tuple #[])) w K ↔ K (.pointer (some ⟨w.heap.size, 0, none⟩)) (w.alloc (.cells (Value.cells (.agg #[(.int .i64 0), (.int .i64 0), (.int .i64 0), (.int .i64 0)])) 68)) := V.iff (r_alloc inf68)
theorem V_al_70 {w : World} {K : Value → World → Prop} : V Tryd.prog (Instr.alloc 70 true (.tuple #[])) w K ↔ K (.pointer (some ⟨w.heap.size, 0, none⟩)) (w.alloc (.cells (Value.cells (.agg #[(.slice none 0 0), (.slice none 0 0), (.slice none 0 0)])) 70)) := V.iff (r_alloc inf70)
theorem V_al_76 {w : World} {K : Value → World → Prop} : V Tryd.prog (Instr.alloc 76 true (.tuple #[])) w K ↔ K (.pointer (some ⟨w.heap.size, 0, none⟩)) (w.alloc (.cells (Value.cells (.agg #[(.int .i64 0), (.int .i64 0), (.int .i64 0), (.int .i64 0), (.int .i64 0), (.int .i64 0), (.int .i64 0), (.slice none 0 0)])) 76)) := V.iff (r_alloc inf76)
theorem V_al_91 {w : World} {K : Value → World → Prop} : V Tryd.prog (Instr.alloc 91 true (.tuple #[])) w K ↔ K (.pointer (some ⟨w.heap.size, 0, none⟩)) (w.alloc (.cells (Value.cells (.agg #[(.int .i64 0), (.int .i64 0)])) 91)) := V.iff (r_alloc inf91)
theorem V_al_93 {w : World} {K : Value → World → Prop} : V Tryd.prog (Instr.alloc 93 true (.tuple #[])) w K ↔ K (.pointer (some ⟨w.heap.size, 0, none⟩)) (w.alloc (.cells (Value.cells (.agg #[(.int .i64 0), (.int .i64 0), (.int .i64 0)])) 93)) := V.iff (r_alloc inf93)
theorem V_al_95 {w : World} {K : Value → World → Prop} : V Tryd.prog (Instr.alloc 95 true (.tuple #[])) w K ↔ K (.pointer (some ⟨w.heap.size, 0, none⟩)) (w.alloc (.cells (Value.cells (.agg #[(.int .i64 0), (.int .i64 0), (.int .i64 0), (.int .i64 0)])) 95)) := V.iff (r_alloc inf95)
theorem V_al_97 {w : World} {K : Value → World → Prop} : V Tryd.prog (Instr.alloc 97 true (.tuple #[])) w K ↔ K (.pointer (some ⟨w.heap.size, 0, none⟩)) (w.alloc (.cells (Value.cells (.agg #[(.int .i64 0)])) 97)) := V.iff (r_alloc inf97)
theorem V_al_99 {w : World} {K : Value → World → Prop} : V Tryd.prog (Instr.alloc 99 true (.tuple #[])) w K ↔ K (.pointer (some ⟨w.heap.size, 0, none⟩)) (w.alloc (.cells (Value.cells (.agg #[(.int .i64 0), (.int .i64 0)])) 99)) := V.iff (r_alloc inf99)
theorem V_as_108 {w : World} {v : Value} {K : Value → World → Prop} (hn : v.cells.size = 2) (h1 : ∀ u ∈ v.cells.toList, oneC u = true) : V Tryd.prog (Instr.alloc 108 true (.tuple #[])) w (fun p w1 => U Tryd.prog (Instr.storeAt 108 p v) w1 fun _ w2 => K p w2) ↔ K (.pointer (some ⟨w.heap.size, 0, none⟩)) (w.alloc (.cells v.cells 108)) := V_allocStore inf108 (by decide) hn h1
theorem V_as_110 {w : World} {v : Value} {K : Value → World → Prop} (hn : v.cells.size = 2) (h1 : ∀ u ∈ v.cells.toList, oneC u = true) : V Tryd.prog (Instr.alloc 110 true (.tuple #[])) w (fun p w1 => U Tryd.prog (Instr.storeAt 110 p v) w1 fun _ w2 => K p w2) ↔ K (.pointer (some ⟨w.heap.size, 0, none⟩)) (w.alloc (.cells v.cells 110)) := V_allocStore inf110 (by decide) hn h1
theorem V_as_112 {w : World} {v : Value} {K : Value → World → Prop} (hn : v.cells.size = 5) (h1 : ∀ u ∈ v.cells.toList, oneC u = true) : V Tryd.prog (Instr.alloc 112 true (.tuple #[])) w (fun p w1 => U Tryd.prog (Instr.storeAt 112 p v) w1 fun _ w2 => K p w2) ↔ K (.pointer (some ⟨w.heap.size, 0, none⟩)) (w.alloc (.cells v.cells 112)) := V_allocStore inf112 (by decide) hn h1
theorem V_as_114 {w : World} {v : Value} {K : Value → World → Prop} (hn : v.cells.size = 3) (h1 : ∀ u ∈ v.cells.toList, oneC u = true) : V Tryd.prog (Instr.alloc 114 true (.tuple #[])) w (fun p w1 => U Tryd.prog (Instr.storeAt 114 p v) w1 fun _ w2 => K p w2) ↔ K (.pointer (some ⟨w.heap.size, 0, none⟩)) (w.alloc (.cells v.cells 114)) := V_allocStore inf114 (by decide) hn h1
theorem V_as_116 {w : World} {v : Value} {K : Value → World → Prop} (hn : v.cells.size = 3) (h1 : ∀ u ∈ v.cells.toList, oneC u = true) : V Tryd.prog (Instr.alloc 116 true (.tuple #[])) w (fun p w1 => U Tryd.prog (Instr.storeAt 116 p v) w1 fun _ w2 => K p w2) ↔ K (.pointer (some ⟨w.heap.size, 0, none⟩)) (w.alloc (.cells v.cells 116)) := V_allocStore inf116 (by decide) hn h1
theorem V_as_120 {w : World} {v : Value} {K : Value → World → Prop} (hn : v.cells.size = 10) (h1 : ∀ u ∈ v.cells.toList, oneC u = true) : V Tryd.prog (Instr.alloc 120 true (.tuple #[])) w (fun p w1 => U Tryd.prog (Instr.storeAt 120 p v) w1 fun _ w2 => K p w2) ↔ K (.pointer (some ⟨w.heap.size, 0, none⟩)) (w.alloc (.cells v.cells 120)) := V_allocStore inf120 (by decide) hn h1
theorem V_as_26 {w : World} {v : Value} {K : Value → World → Prop} (hn : v.cells.size = 3) (h1 : ∀ u ∈ v.cells.toList, oneC u = true) : V Tryd.prog (Instr.alloc 26 true (.tuple #[])) w (fun p w1 => U Tryd.prog (Instr.storeAt 26 p v) w1 fun _ w2 => K p w2) ↔ K (.pointer (some ⟨w.heap.size, 0, none⟩)) (w.alloc (.cells v.cells 26)) := V_allocStore inf26 (by decide) hn h1
theorem V_as_37 {w : World} {v : Value} {K : Value → World → Prop} (hn : v.cells.size = 2) (h1 : ∀ u ∈ v.cells.toList, oneC u = true) : V Tryd.prog (Instr.alloc 37 true (.tuple #[])) w (fun p w1 => U Tryd.prog (Instr.storeAt 37 p v) w1 fun _ w2 => K p w2) ↔ K (.pointer (some ⟨w.heap.size, 0, none⟩)) (w.alloc (.cells v.cells 37)) := V_allocStore inf37 (by decide) hn h1
theorem V_as_44 {w : World} {v : Value} {K : Value → World → Prop} (hn : v.cells.size = 3) (h1 : ∀ u ∈ v.cells.toList, oneC u = true) : V Tryd.prog (Instr.alloc 44 true (.tuple #[])) w (fun p w1 => U Tryd.prog (Instr.storeAt 44 p v) w1 fun _ w2 => K p w2) ↔ K (.pointer (some ⟨w.heap.size, 0, none⟩)) (w.alloc (.cells v.cells 44)) := V_allocStore inf44 (by decide) hn h1
theorem V_as_50 {w : World} {v : Value} {K : Value → World → Prop} (hn : v.cells.size = 0) (h1 : ∀ u ∈ v.cells.toList, oneC u = true) : V Tryd.prog (Instr.alloc 50 true (.tuple #[])) w (fun p w1 => U Tryd.prog (Instr.storeAt 50 p v) w1 fun _ w2 => K p w2) ↔ K (.pointer (some ⟨w.heap.size, 0, none⟩)) (w.alloc (.cells v.cells 50)) := V_allocStore inf50 (by decide) hn h1
theorem V_as_54 {w : World} {v : Value} {K : Value → World → Prop} (hn : v.cells.size = 1) (h1 : ∀ u ∈ v.cells.toList, oneC u = true) : V Tryd.prog (Instr.alloc 54 true (.tuple #[])) w (fun p w1 => U Tryd.prog (Instr.storeAt 54 p v) w1 fun _ w2 => K p w2) ↔ K (.pointer (some ⟨w.heap.size, 0, none⟩)) (w.alloc (.cells v.cells 54)) := V_allocStore inf54 (by decide) hn h1
theorem V_as_61 {w : World} {v : Value} {K : Value → World → Prop} (hn : v.cells.size = 2) (h1 : ∀ u ∈ v.cells.toList, oneC u = true) : V Tryd.prog (Instr.alloc 61 true (.tuple #[])) w (fun p w1 => U Tryd.prog (Instr.storeAt 61 p v) w1 fun _ w2 => K p w2) ↔ K (.pointer (some ⟨w.heap.size, 0, none⟩)) (w.alloc (.cells v.cells 61)) := V_allocStore inf61 (by decide) hn h1
theorem V_as_68 {w : World} {v : Value} {K : Value → World → Prop} (hn : v.cells.size = 4) (h1 : ∀ u ∈ v.cells.toList, oneC u = true) : V Tryd.prog (Instr.alloc 68 true (.tuple #[])) w (fun p w1 => U Tryd.prog (Instr.storeAt 68 p v) w1 fun _ w2 => K p w2) ↔ K (.pointer (some ⟨w.heap.size, 0, none⟩)) (w.alloc (.cells v.cells 68)) := V_allocStore inf68 (by decide) hn h1
theorem V_as_70 {w : World} {v : Value} {K : Value → World → Prop} (hn : v.cells.size = 3) (h1 : ∀ u ∈ v.cells.toList, oneC u = true) : V Tryd.prog (Instr.alloc 70 true (.tuple #[])) w (fun p w1 => U Tryd.prog (Instr.storeAt 70 p v) w1 fun _ w2 => K p w2) ↔ K (.pointer (some ⟨w.heap.size, 0, none⟩)) (w.alloc (.cells v.cells 70)) := V_allocStore inf70 (by decide) hn h1
theorem V_as_76 {w : World} {v : Value} {K : Value → World → Prop} (hn : v.cells.size = 8) (h1 : ∀ u ∈ v.cells.toList, oneC u = true) : V Tryd.prog (Instr.alloc 76 true (.tuple #[])) w (fun p w1 => U Tryd.prog (Instr.storeAt 76 p v) w1 fun _ w2 => K p w2) ↔ K (.pointer (some ⟨w.heap.size, 0, none⟩)) (w.alloc (.cells v.cells 76)) := V_allocStore inf76 (by decide) hn h1
theorem V_as_91 {w : World} {v : Value} {K : Value → World → Prop} (hn : v.cells.size = 2) (h1 : ∀ u ∈ v.cells.toList, oneC u = true) : V Tryd.prog (Instr.alloc 91 true (.tuple #[])) w (fun p w1 => U Tryd.prog (Instr.storeAt 91 p v) w1 fun _ w2 => K p w2) ↔ K (.pointer (some ⟨w.heap.size, 0, none⟩)) (w.alloc (.cells v.cells 91)) := V_allocStore inf91 (by decide) hn h1
theorem V_as_93 {w : World} {v : Value} {K : Value → World → Prop} (hn : v.cells.size = 3) (h1 : ∀ u ∈ v.cells.toList, oneC u = true) : V Tryd.prog (Instr.alloc 93 true (.tuple #[])) w (fun p w1 => U Tryd.prog (Instr.storeAt 93 p v) w1 fun _ w2 => K p w2) ↔ K (.pointer (some ⟨w.heap.size, 0, none⟩)) (w.alloc (.cells v.cells 93)) := V_allocStore inf93 (by decide) hn h1
theorem V_as_95 {w : World} {v : Value} {K : Value → World → Prop} (hn : v.cells.size = 4) (h1 : ∀ u ∈ v.cells.toList, oneC u = true) : V Tryd.prog (Instr.alloc 95 true (.tuple #[])) w (fun p w1 => U Tryd.prog (Instr.storeAt 95 p v) w1 fun _ w2 => K p w2) ↔ K (.pointer (some ⟨w.heap.size, 0, none⟩)) (w.alloc (.cells v.cells 95)) := V_allocStore inf95 (by decide) hn h1
theorem V_as_97 {w : World} {v : Value} {K : Value → World → Prop} (hn : v.cells.size = 1) (h1 : ∀ u ∈ v.cells.toList, oneC u = true) : V Tryd.prog (Instr.alloc 97 true (.tuple #[])) w (fun p w1 => U Tryd.prog (Instr.storeAt 97 p v) w1 fun _ w2 => K p w2) ↔ K (.pointer (some ⟨w.heap.size, 0, none⟩)) (w.alloc (.cells v.cells 97)) := V_allocStore inf97 (by decide) hn h1
theorem V_as_99 {w : World} {v : Value} {K : Value → World → Prop} (hn : v.cells.size = 2) (h1 : ∀ u ∈ v.cells.toList, oneC u = true) : V Tryd.prog (Instr.alloc 99 true (.tuple #[])) w (fun p w1 => U Tryd.prog (Instr.storeAt 99 p v) w1 fun _ w2 => K p w2) ↔ K (.pointer (some ⟨w.heap.size, 0, none⟩)) (w.alloc (.cells v.cells 99)) := V_allocStore inf99 (by decide) hn h1
theorem V_bs_23_0 {w : World} {K : Value → World → Prop} : V Tryd.prog (Instr.buildSlice 23 0 #[]) w K ↔ K (.slice (some ⟨w.heap.size, 0, none⟩) 0 0) (w.alloc (.cells #[] 21)) := V.iff (r_buildSlice Tryd.underlying23 inf21 rfl [] (by simp) (by simp))
theorem V_bs_24_1 {w : World} {v0 : Value} {K : Value → World → Prop} (h0 : oneC v0 = true) : V Tryd.prog (Instr.buildSlice 24 1 #[(0, v0)]) w K ↔ K (.slice (some ⟨w.heap.size, 0, none⟩) 1 1) (w.alloc (.cells #[v0] 52)) := V.iff (r_buildSlice Tryd.underlying24 inf52 rfl [v0] (by simp) (by simp [h0]))
theorem V_bs_24_2 {w : World} {v0 v1 : Value} {K : Value → World → Prop} (h0 : oneC v0 = true) (h1 : oneC v1 = true) : V Tryd.prog (Instr.buildSlice 24 2 #[(0, v0), (1, v1)]) w K ↔ K (.slice (some ⟨w.heap.size, 0, none⟩) 2 2) (w.alloc (.cells #[v0, v1] 52)) := V.iff (r_buildSlice Tryd.underlying24 inf52 rfl [v0, v1] (by simp) (by simp [h0, h1]))
theorem V_bs_24_4 {w : World} {v0 v1 v2 v3 : Value} {K : Value → World → Prop} (h0 : oneC v0 = true) (h1 : oneC v1 = true) (h2 : oneC v2 = true) (h3 : oneC v3 = true) : V Tryd.prog (Instr.buildSlice 24 4 #[(0, v0), (1, v1), (2, v2), (3, v3)]) w K ↔ K (.slice (some ⟨w.heap.size, 0, none⟩) 4 4) (w.alloc (.cells #[v0, v1, v2, v3] 52)) := V.iff (r_buildSlice Tryd.underlying24 inf52 rfl [v0, v1, v2, v3] (by simp) (by simp [h0, h1, h2, h3]))
theorem V_bs_28_0 {w : World} {K : Value → World → Prop} : V Tryd.prog (Instr.buildSlice 28 0 #[]) w K ↔ K (.slice (some ⟨w.heap.size, 0, none⟩) 0 0) (w.alloc (.cells #[] 4)) := V.iff (r_buildSlice Tryd.underlying28 inf4 rfl [] (by simp) (by simp))
theorem V_bs_35_0 {w : World} {K : Value → World → Prop} : V Tryd.prog (Instr.buildSlice 35 0 #[]) w K ↔ K (.slice (some ⟨w.heap.size, 0, none⟩) 0 0) (w.alloc (.cells #[] 3)) := V.iff (r_buildSlice Tryd.underlying35 inf3 rfl [] (by simp) (by simp))
theorem V_bs_35_1 {w : World} {v0 : Value} {K : Value → World → Prop} (h0 : oneC v0 = true) : V Tryd.prog (Instr.buildSlice 35 1 #[(0, v0)]) w K ↔ K (.slice (some ⟨w.heap.size, 0, none⟩) 1 1) (w.alloc (.cells #[v0] 3)) := V.iff (r_buildSlice Tryd.underlying35 inf3 rfl [v0] (by simp) (by simp [h0]))
theorem V_bs_35_2 {w : World} {v0 v1 : Value} {K : Value → World → Prop} (h0 : oneC v0 = true) (h1 : oneC v1 = true) : V Tryd.prog (Instr.buildSlice 35 2 #[(0, v0), (1, v1)]) w K ↔ K (.slice (some ⟨w.heap.size, 0, none⟩) 2 2) (w.alloc (.cells #[v0, v1] 3)) := V.iff (r_buildSlice Tryd.underlying35 inf3 rfl [v0, v1] (by simp) (by simp [h0, h1]))
theorem V_bs_35_3 {w : World} {v0 v1 v2 : Value} {K : Value → World → Prop} (h0 : oneC v0 = true) (h1 : oneC v1 = true) (h2 : oneC v2 = true) : V Tryd.prog (Instr.buildSlice 35 3 #[(0, v0), (1, v1), (2, v2)]) w K ↔ K (.slice (some ⟨w.heap.size, 0, none⟩) 3 3) (w.alloc (.cells #[v0, v1, v2] 3)) := V.iff (r_buildSlice Tryd.underlying35 inf3 rfl [v0, v1, v2] (by simp) (by simp [h0, h1, h2]))
theorem V_bx_26 {w : World} {v : Value} {K : Value → World → Prop} : V Tryd.prog (Instr.box 26 v) w K ↔ K (.pointer (some ⟨w.heap.size, 0, none⟩)) (w.alloc (.cells v.cells 26)) := V.iff r_box
theorem V_bx_3 {w : World} {v : Value} {K : Value → World → Prop} : V Tryd.prog (Instr.box 3 v) w K ↔ K (.pointer (some ⟨w.heap.size, 0, none⟩)) (w.alloc (.cells v.cells 3)) := V.iff r_box
theorem V_bx_37 {w : World} {v : Value} {K : Value → World → Prop} : V Tryd.prog (Instr.box 37 v) w K ↔ K (.pointer (some ⟨w.heap.size, 0, none⟩)) (w.alloc (.cells v.cells 37)) := V.iff r_box
theorem V_bx_44 {w : World} {v : Value} {K : Value → World → Prop} : V Tryd.prog (Instr.box 44 v) w K ↔ K (.pointer (some ⟨w.heap.size, 0, none⟩)) (w.alloc (.cells v.cells 44)) := V.iff r_box
theorem V_bx_70 {w : World} {v : Value} {K : Value → World → Prop} : V Tryd.prog (Instr.box 70 v) w K ↔ K (.pointer (some ⟨w.heap.size, 0, none⟩)) (w.alloc (.cells v.cells 70)) := V.iff r_box
theorem V_bx_76 {w : World} {v : Value} {K : Value → World → Prop} : V Tryd.prog (Instr.box 76 v) w K ↔ K (.pointer (some ⟨w.heap.size, 0, none⟩)) (w.alloc (.cells v.cells 76)) := V.iff r_box
theorem V_bx_82 {w : World} {v : Value} {K : Value → World → Prop} : V Tryd.prog (Instr.box 82 v) w K ↔ K (.pointer (some ⟨w.heap.size, 0, none⟩)) (w.alloc (.cells v.cells 82)) := V.iff r_box
theorem V_cv_126_2 {w : World} {k : IntKind} {n : Int} {K : Value → World → Prop} : V Tryd.prog (convert 126 2 (.int k n)) w K ↔ K (.int .i64 (IntKind.wrap .i64 n)) w := V.iff (r_convI Tryd.underlying126 Tryd.underlying2)
theorem V_cv_126_21 {w : World} {k : IntKind} {n : Int} {K : Value → World → Prop} : V Tryd.prog (convert 126 21 (.int k n)) w K ↔ K (.int .i32 (IntKind.wrap .i32 n)) w := V.iff (r_convI Tryd.underlying126 Tryd.underlying21)
theorem V_cv_127_21 {w : World} {k : IntKind} {n : Int} {K : Value → World → Prop} : V Tryd.prog (convert 127 21 (.int k n)) w K ↔ K (.int .i32 (IntKind.wrap .i32 n)) w := V.iff (r_convI Tryd.underlying127 Tryd.underlying21)
theorem V_cv_21_126 {w : World} {k : IntKind} {n : Int} {K : Value → World → Prop} : V Tryd.prog (convert 21 126 (.int k n)) w K ↔ K (.int .u32 (IntKind.wrap .u32 n)) w := V.iff (r_convI Tryd.underlying21 Tryd.underlying126)
theorem V_cv_21_2 {w : World} {k : IntKind} {n : Int} {K : Value → World → Prop} : V Tryd.prog (convert 21 2 (.int k n)) w K ↔ K (.int .i64 (IntKind.wrap .i64 n)) w := V.iff (r_convI Tryd.underlying21 Tryd.underlying2)
theorem V_cv_21_3 {w : World} {k : IntKind} {n : Int} {K : Value → World → Prop} : V Tryd.prog (convert 21 3 (.int k n)) w K ↔ K (.int .i64 (IntKind.wrap .i64 n)) w := V.iff (r_convI Tryd.underlying21 Tryd.underlying3)
theorem V_cv_2_127 {w : World} {k : IntKind} {n : Int} {K : Value → World → Prop} : V Tryd.prog (convert 2 127 (.int k n)) w K ↔ K (.int .u64 (IntKind.wrap .u64 n)) w := V.iff (r_convI Tryd.underlying2 Tryd.underlying127)
theorem V_cv_3_21 {w : World} {k : IntKind} {n : Int} {K : Value → World → Prop} : V Tryd.prog (convert 3 21 (.int k n)) w K ↔ K (.int .i32 (IntKind.wrap .i32 n)) w := V.iff (r_convI Tryd.underlying3 Tryd.underlying21)
theorem V_eqb_4 {w : World} {x y : Operand} {a b : Bool} {K : Value → World → Prop} : V Tryd.prog (do eqGuard .eql 4 x y (.bool a) (.bool b); binOp .eql 4 (.bool a) (.bool b)) w K ↔ K (.bool (a == b)) w := V.iff (r_eqBool Tryd.underlying4)
theorem V_eqni_52 {w : World} {x y : Operand} {t : TypeId} {v : Value} {K : Value → World → Prop} : V Tryd.prog (do eqGuard .eql 52 x y (.iface t v) .nilIface; binOp .eql 52 (.iface t v) .nilIface) w K ↔ K (.bool false) w := V.iff (r_eqNilIface Tryd.underlying52)
theorem V_eqnn_52 {w : World} {x : Operand} {c : Value} {K : Value → World → Prop} : V Tryd.prog (do eqGuard .eql 52 x (.const c) .nilIface .nilIface; binOp .eql 52 .nilIface .nilIface) w K ↔ K (.bool true) w := V.iff (r_eqNilNil Tryd.underlying52)
theorem V_eqns_23 {w : World} {x y : Operand} {a : Option Addr} {n c : Nat} {K : Value → World → Prop} : V Tryd.prog (do eqGuard .eql 23 x y (.slice a n c) (.slice none 0 0); binOp .eql 23 (.slice a n c) (.slice none 0 0)) w K ↔ K (.bool a.isNone) w := V.iff (r_eqNilSlice Tryd.underlying23)
theorem V_eqns_28 {w : World} {x y : Operand} {a : Option Addr} {n c : Nat} {K : Value → World → Prop} : V Tryd.prog (do eqGuard .eql 28 x y (.slice a n c) (.slice none 0 0); binOp .eql 28 (.slice a n c) (.slice none 0 0)) w K ↔ K (.bool a.isNone) w := V.iff (r_eqNilSlice Tryd.underlying28)
theorem V_eqns_35 {w : World} {x y : Operand} {a : Option Addr} {n c : Nat} {K : Value → World → Prop} : V Tryd.prog (do eqGuard .eql 35 x y (.slice a n c) (.slice none 0 0); binOp .eql 35 (.slice a n c) (.slice none 0 0)) w K ↔ K (.bool a.isNone) w := V.iff (r_eqNilSlice Tryd.underlying35)
theorem V_fd_108_0 {w : World} {b off : Nat} {K : Value → World → Prop} : V Tryd.prog (Instr.fieldAt 108 (.pointer (some ⟨b, off, none⟩)) 0) w K ↔ K (.pointer (some ⟨b, off + 0, none⟩)) w := V.iff (r_fd_108_0)
theorem V_fd_108_1 {w : World} {b off : Nat} {K : Value → World → Prop} : V Tryd.prog (Instr.fieldAt 108 (.pointer (some ⟨b, off, none⟩)) 1) w K ↔ K (.pointer (some ⟨b, off + 1, none⟩)) w := V.iff (r_fd_108_1)
theorem V_fd_110_0 {w : World} {b off : Nat} {K : Value → World → Prop} : V Tryd.prog (Instr.fieldAt 110 (.pointer (some ⟨b, off, none⟩)) 0) w K ↔ K (.pointer (some ⟨b, off + 0, none⟩)) w := V.iff (r_fd_110_0)
theorem V_fd_110_1 {w : World} {b off : Nat} {K : Value → World → Prop} : V Tryd.prog (Instr.fieldAt 110 (.pointer (some ⟨b, off, none⟩)) 1) w K ↔ K (.pointer (some ⟨b, off + 1, none⟩)) w := V.iff (r_fd_110_1)
theorem V_fd_112_0 {w : World} {b off : Nat} {K : Value → World → Prop} : V Tryd.prog (Instr.fieldAt 112 (.pointer (some ⟨b, off, none⟩)) 0) w K ↔ K (.pointer (some ⟨b, off + 0, none⟩)) w := V.iff (r_fd_112_0)
theorem V_fd_112_1 {w : World} {b off : Nat} {K : Value → World → Prop} : V Tryd.prog (Instr.fieldAt 112 (.pointer (some ⟨b, off, none⟩)) 1) w K ↔ K (.pointer (some ⟨b, off + 1, none⟩)) w := V.iff (r_fd_112_1)
theorem V_fd_112_2 {w : World} {b off : Nat} {K : Value → World → Prop} : V Tryd.prog (Instr.fieldAt 112 (.pointer (some ⟨b, off, none⟩)) 2) w K ↔ K (.pointer (some ⟨b, off + 2, none⟩)) w := V.iff (r_fd_112_2)
theorem V_fd_112_3 {w : World} {b off : Nat} {K : Value → World → Prop} : V Tryd.prog (Instr.fieldAt 112 (.pointer (some ⟨b, off, none⟩)) 3) w K ↔ K (.pointer (some ⟨b, off + 3, none⟩)) w := V.iff (r_fd_112_3)
theorem V_fd_112_4 {w : World} {b off : Nat} {K : Value → World → Prop} : V Tryd.prog (Instr.fieldAt 112 (.pointer (some ⟨b, off, none⟩)) 4) w K ↔ K (.pointer (some ⟨b, off + 4, none⟩)) w := V.iff (r_fd_112_4)
theorem V_fd_114_0 {w : World} {b off : Nat} {K : Value → World → Prop} : V Tryd.prog (Instr.fieldAt 114 (.pointer (some ⟨b, off, none⟩)) 0) w K ↔ K (.pointer (some ⟨b, off + 0, none⟩)) w := V.iff (r_fd_114_0)
theorem V_fd_114_1 {w : World} {b off : Nat} {K : Value → World → Prop} : V Tryd.prog (Instr.fieldAt 114 (.pointer (some ⟨b, off, none⟩)) 1) w K ↔ K (.pointer (some ⟨b, off + 1, none⟩)) w := V.iff (r_fd_114_1)
theorem V_fd_114_2 {w : World} {b off : Nat} {K : Value → World → Prop} : V Tryd.prog (Instr.fieldAt 114 (.pointer (some ⟨b, off, none⟩)) 2) w K ↔ K (.pointer (some ⟨b, off + 2, none⟩)) w := V.iff (r_fd_114_2)
theorem V_fd_116_0 {w : World} {b off : Nat} {K : Value → World → Prop} : V Tryd.prog (Instr.fieldAt 116 (.pointer (some ⟨b, off, none⟩)) 0) w K ↔ K (.pointer (some ⟨b, off + 0, none⟩)) w := V.iff (r_fd_116_0)
theorem V_fd_116_1 {w : World} {b off : Nat} {K : Value → World → Prop} : V Tryd.prog (Instr.fieldAt 116 (.pointer (some ⟨b, off, none⟩)) 1) w K ↔ K (.pointer (some ⟨b, off + 1, none⟩)) w := V.iff (r_fd_116_1)
theorem V_fd_116_2 {w : World} {b off : Nat} {K : Value → World → Prop} : V Tryd.prog (Instr.fieldAt 116 (.pointer (some ⟨b, off, none⟩)) 2) w K ↔ K (.pointer (some ⟨b, off + 2, none⟩)) w := V.iff (r_fd_116_2)
theorem V_fd_26_0 {w : World} {b off : Nat} {K : Value → World → Prop} : V Tryd.prog (Instr.fieldAt 26 (.pointer (some ⟨b, off, none⟩)) 0) w K ↔ K (.pointer (some ⟨b, off + 0, none⟩)) w := V.iff (r_fd_26_0)
theorem V_fd_26_1 {w : World} {b off : Nat} {K : Value → World → Prop} : V Tryd.prog (Instr.fieldAt 26 (.pointer (some ⟨b, off, none⟩)) 1) w K ↔ K (.pointer (some ⟨b, off + 1, none⟩)) w := V.iff (r_fd_26_1)
theorem V_fd_26_2 {w : World} {b off : Nat} {K : Value → World → Prop} : V Tryd.prog (Instr.fieldAt 26 (.pointer (some ⟨b, off, none⟩)) 2) w K ↔ K (.pointer (some ⟨b, off + 2, none⟩)) w := V.iff (r_fd_26_2)
theorem V_fd_37_0 {w : World} {b off : Nat} {K : Value → World → Prop} : V Tryd.prog (Instr.fieldAt 37 (.pointer (some ⟨b, off, none⟩)) 0) w K ↔ K (.pointer (some ⟨b, off + 0, none⟩)) w := V.iff (r_fd_37_0)
theorem V_fd_37_1 {w : World} {b off : Nat} {K : Value → World → Prop} : V Tryd.prog (Instr.fieldAt 37 (.pointer (some ⟨b, off, none⟩)) 1) w K ↔ K (.pointer (some ⟨b, off + 1, none⟩)) w := V.iff (r_fd_37_1)
theorem V_fd_44_0 {w : World} {b off : Nat} {K : Value → World → Prop} : V Tryd.prog (Instr.fieldAt 44 (.pointer (some ⟨b, off, none⟩)) 0) w K ↔ K (.pointer (some ⟨b, off + 0, none⟩)) w := V.iff (r_fd_44_0)
theorem V_fd_44_1 {w : World} {b off : Nat} {K : Value → World → Prop} : V Tryd.prog (Instr.fieldAt 44 (.pointer (some ⟨b, off, none⟩)) 1) w K ↔ K (.pointer (some ⟨b, off + 1, none⟩)) w := V.iff (r_fd_44_1)
theorem V_fd_44_2 {w : World} {b off : Nat} {K : Value → World → Prop} : V Tryd.prog (Instr.fieldAt 44 (.pointer (some ⟨b, off, none⟩)) 2) w K ↔ K (.pointer (some ⟨b, off + 2, none⟩)) w := V.iff (r_fd_44_2)
theorem V_fd_54_0 {w : World} {b off : Nat} {K : Value → World → Prop} : V Tryd.prog (Instr.fieldAt 54 (.pointer (some ⟨b, off, none⟩)) 0) w K ↔ K (.pointer (some ⟨b, off + 0, none⟩)) w := V.iff (r_fd_54_0)
theorem V_fd_61_0 {w : World} {b off : Nat} {K : Value → World → Prop} : V Tryd.prog (Instr.fieldAt 61 (.pointer (some ⟨b, off, none⟩)) 0) w K ↔ K (.pointer (some ⟨b, off + 0, none⟩)) w := V.iff (r_fd_61_0)
theorem V_fd_61_1 {w : World} {b off : Nat} {K : Value → World → Prop} : V Tryd.prog (Instr.fieldAt 61 (.pointer (some ⟨b, off, none⟩)) 1) w K ↔ K (.pointer (some ⟨b, off + 1, none⟩)) w := V.iff (r_fd_61_1)
theorem V_fd_68_0 {w : World} {b off : Nat} {K : Value → World → Prop} : V Tryd.prog (Instr.fieldAt 68 (.pointer (some ⟨b, off, none⟩)) 0) w K ↔ K (.pointer (some ⟨b, off + 0, none⟩)) w := V.iff (r_fd_68_0)
theorem V_fd_68_1 {w : World} {b off : Nat} {K : Value → World → Prop} : V Tryd.prog (Instr.fieldAt 68 (.pointer (some ⟨b, off, none⟩)) 1) w K ↔ K (.pointer (some ⟨b, off + 1, none⟩)) w := V.iff (r_fd_68_1)
theorem V_fd_68_2 {w : World} {b off : Nat} {K : Value → World → Prop} : V Tryd.prog (Instr.fieldAt 68 (.pointer (some ⟨b, off, none⟩)) 2) w K ↔ K (.pointer (some ⟨b, off + 2, none⟩)) w := V.iff (r_fd_68_2)
theorem V_fd_68_3 {w : World} {b off : Nat} {K : Value → World → Prop} : V Tryd.prog (Instr.fieldAt 68 (.pointer (some ⟨b, off, none⟩)) 3) w K ↔ K (.pointer (some ⟨b, off + 3, none⟩)) w := V.iff (r_fd_68_3)
theorem V_fd_70_0 {w : World} {b off : Nat} {K : Value → World → Prop} : V Tryd.prog (Instr.fieldAt 70 (.pointer (some ⟨b, off, none⟩)) 0) w K ↔ K (.pointer (some ⟨b, off + 0, none⟩)) w := V.iff (r_fd_70_0)
theorem V_fd_70_1 {w : World} {b off : Nat} {K : Value → World → Prop} : V Tryd.prog (Instr.fieldAt 70 (.pointer (some ⟨b, off, none⟩)) 1) w K ↔ K (.pointer (some ⟨b, off + 1, none⟩)) w := V.iff (r_fd_70_1)
theorem V_fd_70_2 {w : World} {b off : Nat} {K : Value → World → Prop} : V Tryd.prog (Instr.fieldAt 70 (.pointer (some ⟨b, off, none⟩)) 2) w K ↔ K (.pointer (some ⟨b, off + 2, none⟩)) w := V.iff (r_fd_70_2)
theorem V_fd_76_0 {w : World} {b off : Nat} {K : Value → World → Prop} : V Tryd.prog (Instr.fieldAt 76 (.pointer (some ⟨b, off, none⟩)) 0) w K ↔ K (.pointer (some ⟨b, off + 0, none⟩)) w := V.iff (r_fd_76_0)
theorem V_fd_76_1 {w : World} {b off : Nat} {K : Value → World → Prop} : V Tryd.prog (Instr.fieldAt 76 (.pointer (some ⟨b, off, none⟩)) 1) w K ↔ K (.pointer (some ⟨b, off + 1, none⟩)) w := V.iff (r_fd_76_1)
theorem V_fd_76_2 {w : World} {b off : Nat} {K : Value → World → Prop} : V Tryd.prog (Instr.fieldAt 76 (.pointer (some ⟨b, off, none⟩)) 2) w K ↔ K (.pointer (some ⟨b, off + 2, none⟩)) w := V.iff (r_fd_76_2)
theorem V_fd_76_3 {w : World} {b off : Nat} {K : Value → World → Prop} : V Tryd.prog (Instr.fieldAt 76 (.pointer (some ⟨b, off, none⟩)) 3) w K ↔ K (.pointer (some ⟨b, off + 3, none⟩)) w := V.iff (r_fd_76_3)
theorem V_fd_76_6 {w : World} {b off : Nat} {K : Value → World → Prop} : V Tryd.prog (Instr.fieldAt 76 (.pointer (some ⟨b, off, none⟩)) 6) w K ↔ K (.pointer (some ⟨b, off + 6, none⟩)) w := V.iff (r_fd_76_6)
theorem V_fd_76_7 {w : World} {b off : Nat} {K : Value → World → Prop} : V Tryd.prog (Instr.fieldAt 76 (.pointer (some ⟨b, off, none⟩)) 7) w K ↔ K (.pointer (some ⟨b, off + 7, none⟩)) w := V.iff (r_fd_76_7)
theorem V_fd_82_0 {w : World} {b off : Nat} {K : Value → World → Prop} : V Tryd.prog (Instr.fieldAt 82 (.pointer (some ⟨b, off, none⟩)) 0) w K ↔ K (.pointer (some ⟨b, off + 0, none⟩)) w := V.iff (r_fd_82_0)
theorem V_fd_82_1 {w : World} {b off : Nat} {K : Value → World → Prop} : V Tryd.prog (Instr.fieldAt 82 (.pointer (some ⟨b, off, none⟩)) 1) w K ↔ K (.pointer (some ⟨b, off + 1, none⟩)) w := V.iff (r_fd_82_1)
theorem V_fd_82_2 {w : World} {b off : Nat} {K : Value → World → Prop} : V Tryd.prog (Instr.fieldAt 82 (.pointer (some ⟨b, off, none⟩)) 2) w K ↔ K (.pointer (some ⟨b, off + 2, none⟩)) w := V.iff (r_fd_82_2)
theorem V_fd_82_3 {w : World} {b off : Nat} {K : Value → World → Prop} : V Tryd.prog (Instr.fieldAt 82 (.pointer (some ⟨b, off, none⟩)) 3) w K ↔ K (.pointer (some ⟨b, off + 3, none⟩)) w := V.iff (r_fd_82_3)
theorem V_fd_82_4 {w : World} {b off : Nat} {K : Value → World → Prop} : V Tryd.prog (Instr.fieldAt 82 (.pointer (some ⟨b, off, none⟩)) 4) w K ↔ K (.pointer (some ⟨b, off + 4, none⟩)) w := V.iff (r_fd_82_4)
theorem V_fd_82_5 {w : World} {b off : Nat} {K : Value → World → Prop} : V Tryd.prog (Instr.fieldAt 82 (.pointer (some ⟨b, off, none⟩)) 5) w K ↔ K (.pointer (some ⟨b, off + 5, none⟩)) w := V.iff (r_fd_82_5)
theorem V_fd_82_6 {w : World} {b off : Nat} {K : Value → World → Prop} : V Tryd.prog (Instr.fieldAt 82 (.pointer (some ⟨b, off, none⟩)) 6) w K ↔ K (.pointer (some ⟨b, off + 6, none⟩)) w := V.iff (r_fd_82_6)
theorem V_fd_82_7 {w : World} {b off : Nat} {K : Value → World → Prop} : V Tryd.prog (Instr.fieldAt 82 (.pointer (some ⟨b, off, none⟩)) 7) w K ↔ K (.pointer (some ⟨b, off + 7, none⟩)) w := V.iff (r_fd_82_7)
theorem V_fd_82_8 {w : World} {b off : Nat} {K : Value → World → Prop} : V Tryd.prog (Instr.fieldAt 82 (.pointer (some ⟨b, off, none⟩)) 8) w K ↔ K (.pointer (some ⟨b, off + 8, none⟩)) w := V.iff (r_fd_82_8)
theorem V_fd_91_0 {w : World} {b off : Nat} {K : Value → World → Prop} : V Tryd.prog (Instr.fieldAt 91 (.pointer (some ⟨b, off, none⟩)) 0) w K ↔ K (.pointer (some ⟨b, off + 0, none⟩)) w := V.iff (r_fd_91_0)
theorem V_fd_91_1 {w : World} {b off : Nat} {K : Value → World → Prop} : V Tryd.prog (Instr.fieldAt 91 (.pointer (some ⟨b, off, none⟩)) 1) w K ↔ K (.pointer (some ⟨b, off + 1, none⟩)) w := V.iff (r_fd_91_1)
theorem V_fd_93_0 {w : World} {b off : Nat} {K : Value → World → Prop} : V Tryd.prog (Instr.fieldAt 93 (.pointer (some ⟨b, off, none⟩)) 0) w K ↔ K (.pointer (some ⟨b, off + 0, none⟩)) w := V.iff (r_fd_93_0)
theorem V_fd_93_1 {w : World} {b off : Nat} {K : Value → World → Prop} : V Tryd.prog (Instr.fieldAt 93 (.pointer (some ⟨b, off, none⟩)) 1) w K ↔ K (.pointer (some ⟨b, off + 1, none⟩)) w := V.iff (r_fd_93_1)
theorem V_fd_93_2 {w : World} {b off : Nat} {K : Value → World → Prop} : V Tryd.prog (Instr.fieldAt 93 (.pointer (some ⟨b, off, none⟩)) 2) w K ↔ K (.pointer (some ⟨b, off + 2, none⟩)) w := V.iff (r_fd_93_2)
theorem V_fd_95_0 {w : World} {b off : Nat} {K : Value → World → Prop} : V Tryd.prog (Instr.fieldAt 95 (.pointer (some ⟨b, off, none⟩)) 0) w K ↔ K (.pointer (some ⟨b, off + 0, none⟩)) w := V.iff (r_fd_95_0)
theorem V_fd_95_1 {w : World} {b off : Nat} {K : Value → World → Prop} : V Tryd.prog (Instr.fieldAt 95 (.pointer (some ⟨b, off, none⟩)) 1) w K ↔ K (.pointer (some ⟨b, off + 1, none⟩)) w := V.iff (r_fd_95_1)
theorem V_fd_95_2 {w : World} {b off : Nat} {K : Value → World → Prop} : V Tryd.prog (Instr.fieldAt 95 (.pointer (some ⟨b, off, none⟩)) 2) w K ↔ K (.pointer (some ⟨b, off + 2, none⟩)) w := V.iff (r_fd_95_2)
theorem V_fd_95_3 {w : World} {b off : Nat} {K : Value → World → Prop} : V Tryd.prog (Instr.fieldAt 95 (.pointer (some ⟨b, off, none⟩)) 3) w K ↔ K (.pointer (some ⟨b, off + 3, none⟩)) w := V.iff (r_fd_95_3)
theorem V_fd_97_0 {w : World} {b off : Nat} {K : Value → World → Prop} : V Tryd.prog (Instr.fieldAt 97 (.pointer (some ⟨b, off, none⟩)) 0) w K ↔ K (.pointer (some ⟨b, off + 0, none⟩)) w := V.iff (r_fd_97_0)
theorem V_fd_99_0 {w : World} {b off : Nat} {K : Value → World → Prop} : V Tryd.prog (Instr.fieldAt 99 (.pointer (some ⟨b, off, none⟩)) 0) w K ↔ K (.pointer (some ⟨b, off + 0, none⟩)) w := V.iff (r_fd_99_0)
theorem V_fd_99_1 {w : World} {b off : Nat} {K : Value → World → Prop} : V Tryd.prog (Instr.fieldAt 99 (.pointer (some ⟨b, off, none⟩)) 1) w K ↔ K (.pointer (some ⟨b, off + 1, none⟩)) w := V.iff (r_fd_99_1)
theorem V_ix_22 {w : World} {b off len cap : Nat} {k : IntKind} {i : Int} {K : Value → World → Prop} (h0 : 0 ≤ i) (h1 : i < len) : V Tryd.prog (Instr.indexAt 22 (.slice (some ⟨b, off, none⟩) len cap) (.int k i)) w K ↔ K (.pointer (some ⟨b, off + i.toNat * 9, none⟩)) w := V.iff (r_ix_22 h0 h1)
theorem V_ix_23 {w : World} {b off len cap : Nat} {k : IntKind} {i : Int} {K : Value → World → Prop} (h0 : 0 ≤ i) (h1 : i < len) : V Tryd.prog (Instr.indexAt 23 (.slice (some ⟨b, off, none⟩) len cap) (.int k i)) w K ↔ K (.pointer (some ⟨b, off + i.toNat * 1, none⟩)) w := V.iff (r_ix_23 h0 h1)
theorem V_ix_24 {w : World} {b off len cap : Nat} {k : IntKind} {i : Int} {K : Value → World → Prop} (h0 : 0 ≤ i) (h1 : i < len) : V Tryd.prog (Instr.indexAt 24 (.slice (some ⟨b, off, none⟩) len cap) (.int k i)) w K ↔ K (.pointer (some ⟨b, off + i.toNat * 1, none⟩)) w := V.iff (r_ix_24 h0 h1)
theorem V_ix_28 {w : World} {b off len cap : Nat} {k : IntKind} {i : Int} {K : Value → World → Prop} (h0 : 0 ≤ i) (h1 : i < len) : V Tryd.prog (Instr.indexAt 28 (.slice (some ⟨b, off, none⟩) len cap) (.int k i)) w K ↔ K (.pointer (some ⟨b, off + i.toNat * 1, none⟩)) w := V.iff (r_ix_28 h0 h1)
theorem V_ix_35 {w : World} {b off len cap : Nat} {k : IntKind} {i : Int} {K : Value → World → Prop} (h0 : 0 ≤ i) (h1 : i < len) : V Tryd.prog (Instr.indexAt 35 (.slice (some ⟨b, off, none⟩) len cap) (.int k i)) w K ↔ K (.pointer (some ⟨b, off + i.toNat * 1, none⟩)) w := V.iff (r_ix_35 h0 h1)
theorem V_ix_42 {w : World} {b off len cap : Nat} {k : IntKind} {i : Int} {K : Value → World → Prop} (h0 : 0 ≤ i) (h1 : i < len) : V Tryd.prog (Instr.indexAt 42 (.slice (some ⟨b, off, none⟩) len cap) (.int k i)) w K ↔ K (.pointer (some ⟨b, off + i.toNat * 8, none⟩)) w := V.iff (r_ix_42 h0 h1)
theorem V_ix_58 {w : World} {b off len cap : Nat} {k : IntKind} {i : Int} {K : Value → World → Prop} (h0 : 0 ≤ i) (h1 : i < len) : V Tryd.prog (Instr.indexAt 58 (.slice (some ⟨b, off, none⟩) len cap) (.int k i)) w K ↔ K (.pointer (some ⟨b, off + i.toNat * 1, none⟩)) w := V.iff (r_ix_58 h0 h1)
theorem V_ld_21 {w : World} {a : Addr} {K : Value → World → Prop} : V Tryd.prog (Instr.loadAt 21 (.pointer (some a))) w K ↔ ldO Tryd.prog 21 a (w.cell? a) w K := V_load Tryd.underlying21 rfl
theorem V_ld_24 {w : World} {a : Addr} {K : Value → World → Prop} : V Tryd.prog (Instr.loadAt 24 (.pointer (some a))) w K ↔ ldO Tryd.prog 24 a (w.cell? a) w K := V_load Tryd.underlying24 rfl
theorem V_ld_28 {w : World} {a : Addr} {K : Value → World → Prop} : V Tryd.prog (Instr.loadAt 28 (.pointer (some a))) w K ↔ ldO Tryd.prog 28 a (w.cell? a) w K := V_load Tryd.underlying28 rfl
theorem V_ld_3 {w : World} {a : Addr} {K : Value → World → Prop} : V Tryd.prog (Instr.loadAt 3 (.pointer (some a))) w K ↔ ldO Tryd.prog 3 a (w.cell? a) w K := V_load Tryd.underlying3 rfl
theorem V_ld_35 {w : World} {a : Addr} {K : Value → World → Prop} : V Tryd.prog (Instr.loadAt 35 (.pointer (some a))) w K ↔ ldO Tryd.prog 35 a (w.cell? a) w K := V_load Tryd.underlying35 rfl
theorem V_ld_4 {w : World} {a : Addr} {K : Value → World → Prop} : V Tryd.prog (Instr.loadAt 4 (.pointer (some a))) w K ↔ ldO Tryd.prog 4 a (w.cell? a) w K := V_load Tryd.underlying4 rfl
theorem V_ld_42 {w : World} {a : Addr} {K : Value → World → Prop} : V Tryd.prog (Instr.loadAt 42 (.pointer (some a))) w K ↔ ldO Tryd.prog 42 a (w.cell? a) w K := V_load Tryd.underlying42 rfl
theorem V_ld_52 {w : World} {a : Addr} {K : Value → World → Prop} : V Tryd.prog (Instr.loadAt 52 (.pointer (some a))) w K ↔ ldO Tryd.prog 52 a (w.cell? a) w K := V_load Tryd.underlying52 rfl
theorem V_ld_58 {w : World} {a : Addr} {K : Value → World → Prop} : V Tryd.prog (Instr.loadAt 58 (.pointer (some a))) w K ↔ ldO Tryd.prog 58 a (w.cell? a) w K := V_load Tryd.underlying58 rfl
theorem V_ln_22 {w : World} {ty : TypeId} {a : Option Addr} {n c : Nat} {K : Value → World → Prop} : V Tryd.prog (Builtin.len_ #[22] ty #[.slice a n c]) w K ↔ K (.int .i64 n) w := V.iff (r_len Tryd.underlying22)
theorem V_ln_23 {w : World} {ty : TypeId} {a : Option Addr} {n c : Nat} {K : Value → World → Prop} : V Tryd.prog (Builtin.len_ #[23] ty #[.slice a n c]) w K ↔ K (.int .i64 n) w := V.iff (r_len Tryd.underlying23)
theorem V_ln_24 {w : World} {ty : TypeId} {a : Option Addr} {n c : Nat} {K : Value → World → Prop} : V Tryd.prog (Builtin.len_ #[24] ty #[.slice a n c]) w K ↔ K (.int .i64 n) w := V.iff (r_len Tryd.underlying24)
theorem V_ln_28 {w : World} {ty : TypeId} {a : Option Addr} {n c : Nat} {K : Value → World → Prop} : V Tryd.prog (Builtin.len_ #[28] ty #[.slice a n c]) w K ↔ K (.int .i64 n) w := V.iff (r_len Tryd.underlying28)
theorem V_ln_35 {w : World} {ty : TypeId} {a : Option Addr} {n c : Nat} {K : Value → World → Prop} : V Tryd.prog (Builtin.len_ #[35] ty #[.slice a n c]) w K ↔ K (.int .i64 n) w := V.iff (r_len Tryd.underlying35)
theorem V_ln_42 {w : World} {ty : TypeId} {a : Option Addr} {n c : Nat} {K : Value → World → Prop} : V Tryd.prog (Builtin.len_ #[42] ty #[.slice a n c]) w K ↔ K (.int .i64 n) w := V.iff (r_len Tryd.underlying42)
theorem V_ln_58 {w : World} {ty : TypeId} {a : Option Addr} {n c : Nat} {K : Value → World → Prop} : V Tryd.prog (Builtin.len_ #[58] ty #[.slice a n c]) w K ↔ K (.int .i64 n) w := V.iff (r_len Tryd.underlying58)
theorem V_neqni_52 {w : World} {x y : Operand} {t : TypeId} {v : Value} {K : Value → World → Prop} : V Tryd.prog (do eqGuard .neq 52 x y (.iface t v) .nilIface; binOp .neq 52 (.iface t v) .nilIface) w K ↔ K (.bool true) w := V.iff (r_neqNilIface Tryd.underlying52)
theorem V_neqnn_52 {w : World} {x : Operand} {c : Value} {K : Value → World → Prop} : V Tryd.prog (do eqGuard .neq 52 x (.const c) .nilIface .nilIface; binOp .neq 52 .nilIface .nilIface) w K ↔ K (.bool false) w := V.iff (r_neqNilNil Tryd.underlying52)
theorem V_ta_108 {w : World} {x t : TypeId} {v : Value} {K : Value → World → Prop} : V Tryd.prog (Instr.typeAssert (.iface t v) x 108 true) w K ↔ K (if t = 108 then .tuple #[v, .bool true] else .tuple #[(.agg #[(.int .i64 0), (.int .i64 0)]), .bool false]) w := V.iff (r_ta Tryd.underlying108 rfl inf108)
theorem V_ta_110 {w : World} {x t : TypeId} {v : Value} {K : Value → World → Prop} : V Tryd.prog (Instr.typeAssert (.iface t v) x 110 true) w K ↔ K (if t = 110 then .tuple #[v, .bool true] else .tuple #[(.agg #[(.int .i64 0), (.int .i64 0)]), .bool false]) w := V.iff (r_ta Tryd.underlying110 rfl inf110)
theorem V_ta_112 {w : World} {x t : TypeId} {v : Value} {K : Value → World → Prop} : V Tryd.prog (Instr.typeAssert (.iface t v) x 112 true) w K ↔ K (if t = 112 then .tuple #[v, .bool true] else .tuple #[(.agg #[(.int .i64 0), (.int .i64 0), (.int .i64 0), (.int .i64 0), (.slice none 0 0)]), .bool false]) w := V.iff (r_ta Tryd.underlying112 rfl inf112)
theorem V_ta_114 {w : World} {x t : TypeId} {v : Value} {K : Value → World → Prop} : V Tryd.prog (Instr.typeAssert (.iface t v) x 114 true) w K ↔ K (if t = 114 then .tuple #[v, .bool true] else .tuple #[(.agg #[(.int .i64 0), (.int .i64 0), (.slice none 0 0)]), .bool false]) w := V.iff (r_ta Tryd.underlying114 rfl inf114)
theorem V_ta_116 {w : World} {x t : TypeId} {v : Value} {K : Value → World → Prop} : V Tryd.prog (Instr.typeAssert (.iface t v) x 116 true) w K ↔ K (if t = 116 then .tuple #[v, .bool true] else .tuple #[(.agg #[(.int .i64 0), (.int .i64 0), (.slice none 0 0)]), .bool false]) w := V.iff (r_ta Tryd.underlying116 rfl inf116)
theorem V_ta_50 {w : World} {x t : TypeId} {v : Value} {K : Value → World → Prop} : V Tryd.prog (Instr.typeAssert (.iface t v) x 50 true) w K ↔ K (if t = 50 then .tuple #[v, .bool true] else .tuple #[(.agg #[]), .bool false]) w := V.iff (r_ta Tryd.underlying50 rfl inf50)
theorem V_ta_54 {w : World} {x t : TypeId} {v : Value} {K : Value → World → Prop} : V Tryd.prog (Instr.typeAssert (.iface t v) x 54 true) w K ↔ K (if t = 54 then .tuple #[v, .bool true] else .tuple #[(.agg #[(.int .i64 0)]), .bool false]) w := V.iff (r_ta Tryd.underlying54 rfl inf54)
theorem V_ta_61 {w : World} {x t : TypeId} {v : Value} {K : Value → World → Prop} : V Tryd.prog (Instr.typeAssert (.iface t v) x 61 true) w K ↔ K (if t = 61 then .tuple #[v, .bool true] else .tuple #[(.agg #[(.int .i64 0), (.int .i32 0)]), .bool false]) w := V.iff (r_ta Tryd.underlying61 rfl inf61)
theorem V_ta_68 {w : World} {x t : TypeId} {v : Value} {K : Value → World → Prop} : V Tryd.prog (Instr.typeAssert (.iface t v) x 68 true) w K ↔ K (if t = 68 then .tuple #[v, .bool true] else .tuple #[(.agg #[(.int .i64 0), (.int .i64 0), (.int .i64 0), (.int .i64 0)]), .bool false]) w := V.iff (r_ta Tryd.underlying68 rfl inf68)
theorem V_ta_91 {w : World} {x t : TypeId} {v : Value} {K : Value → World → Prop} : V Tryd.prog (Instr.typeAssert (.iface t v) x 91 true) w K ↔ K (if t = 91 then .tuple #[v, .bool true] else .tuple #[(.agg #[(.int .i64 0), (.int .i64 0)]), .bool false]) w := V.iff (r_ta Tryd.underlying91 rfl inf91)
theorem V_ta_93 {w : World} {x t : TypeId} {v : Value} {K : Value → World → Prop} : V Tryd.prog (Instr.typeAssert (.iface t v) x 93 true) w K ↔ K (if t = 93 then .tuple #[v, .bool true] else .tuple #[(.agg #[(.int .i64 0), (.int .i64 0), (.int .i64 0)]), .bool false]) w := V.iff (r_ta Tryd.underlying93 rfl inf93)
theorem V_ta_95 {w : World} {x t : TypeId} {v : Value} {K : Value → World → Prop} : V Tryd.prog (Instr.typeAssert (.iface t v) x 95 true) w K ↔ K (if t = 95 then .tuple #[v, .bool true] else .tuple #[(.agg #[(.int .i64 0), (.int .i64 0), (.int .i64 0), (.int .i64 0)]), .bool false]) w := V.iff (r_ta Tryd.underlying95 rfl inf95)
theorem V_ta_97 {w : World} {x t : TypeId} {v : Value} {K : Value → World → Prop} : V Tryd.prog (Instr.typeAssert (.iface t v) x 97 true) w K ↔ K (if t = 97 then .tuple #[v, .bool true] else .tuple #[(.agg #[(.int .i64 0)]), .bool false]) w := V.iff (r_ta Tryd.underlying97 rfl inf97)
theorem V_ta_99 {w : World} {x t : TypeId} {v : Value} {K : Value → World → Prop} : V Tryd.prog (Instr.typeAssert (.iface t v) x 99 true) w K ↔ K (if t = 99 then .tuple #[v, .bool true] else .tuple #[(.agg #[(.int .i64 0), (.int .i64 0)]), .bool false]) w := V.iff (r_ta Tryd.underlying99 rfl inf99)
theorem V_tn_108 {w : World} {x : TypeId} {K : Value → World → Prop} : V Tryd.prog (Instr.typeAssert .nilIface x 108 true) w K ↔ K (.tuple #[(.agg #[(.int .i64 0), (.int .i64 0)]), .bool false]) w := V.iff (r_tanil Tryd.underlying108 rfl inf108)
theorem V_tn_110 {w : World} {x : TypeId} {K : Value → World → Prop} : V Tryd.prog (Instr.typeAssert .nilIface x 110 true) w K ↔ K (.tuple #[(.agg #[(.int .i64 0), (.int .i64 0)]), .bool false]) w := V.iff (r_tanil Tryd.underlying110 rfl inf110)
theorem V_tn_112 {w : World} {x : TypeId} {K : Value → World → Prop} : V Tryd.prog (Instr.typeAssert .nilIface x 112 true) w K ↔ K (.tuple #[(.agg #[(.int .i64 0), (.int .i64 0), (.int .i64 0), (.int .i64 0), (.slice none 0 0)]), .bool false]) w := V.iff (r_tanil Tryd.underlying112 rfl inf112)
theorem V_tn_114 {w : World} {x : TypeId} {K : Value → World → Prop} : V Tryd.prog (Instr.typeAssert .nilIface x 114 true) w K ↔ K (.tuple #[(.agg #[(.int .i64 0), (.int .i64 0), (.slice none 0 0)]), .bool false]) w := V.iff (r_tanil Tryd.underlying114 rfl inf114)
theorem V_tn_116 {w : World} {x : TypeId} {K : Value → World → Prop} : V Tryd.prog (Instr.typeAssert .nilIface x 116 true) w K ↔ K (.tuple #[(.agg #[(.int .i64 0), (.int .i64 0), (.slice none 0 0)]), .bool false]) w := V.iff (r_tanil Tryd.underlying116 rfl inf116)
theorem V_tn_50 {w : World} {x : TypeId} {K : Value → World → Prop} : V Tryd.prog (Instr.typeAssert .nilIface x 50 true) w K ↔ K (.tuple #[(.agg #[]), .bool false]) w := V.iff (r_tanil Tryd.underlying50 rfl inf50)
theorem V_tn_54 {w : World} {x : TypeId} {K : Value → World → Prop} : V Tryd.prog (Instr.typeAssert .nilIface x 54 true) w K ↔ K (.tuple #[(.agg #[(.int .i64 0)]), .bool false]) w := V.iff (r_tanil Tryd.underlying54 rfl inf54)
theorem V_tn_61 {w : World} {x : TypeId} {K : Value → World → Prop} : V Tryd.prog (Instr.typeAssert .nilIface x 61 true) w K ↔ K (.tuple #[(.agg #[(.int .i64 0), (.int .i32 0)]), .bool false]) w := V.iff (r_tanil Tryd.underlying61 rfl inf61)
theorem V_tn_68 {w : World} {x : TypeId} {K : Value → World → Prop} : V Tryd.prog (Instr.typeAssert .nilIface x 68 true) w K ↔ K (.tuple #[(.agg #[(.int .i64 0), (.int .i64 0), (.int .i64 0), (.int .i64 0)]), .bool false]) w := V.iff (r_tanil Tryd.underlying68 rfl inf68)
theorem V_tn_91 {w : World} {x : TypeId} {K : Value → World → Prop} : V Tryd.prog (Instr.typeAssert .nilIface x 91 true) w K ↔ K (.tuple #[(.agg #[(.int .i64 0), (.int .i64 0)]), .bool false]) w := V.iff (r_tanil Tryd.underlying91 rfl inf91)
theorem V_tn_93 {w : World} {x : TypeId} {K : Value → World → Prop} : V Tryd.prog (Instr.typeAssert .nilIface x 93 true) w K ↔ K (.tuple #[(.agg #[(.int .i64 0), (.int .i64 0), (.int .i64 0)]), .bool false]) w := V.iff (r_tanil Tryd.underlying93 rfl inf93)
theorem V_tn_95 {w : World} {x : TypeId} {K : Value → World → Prop} : V Tryd.prog (Instr.typeAssert .nilIface x 95 true) w K ↔ K (.tuple #[(.agg #[(.int .i64 0), (.int .i64 0), (.int .i64 0), (.int .i64 0)]), .bool false]) w := V.iff (r_tanil Tryd.underlying95 rfl inf95)
theorem V_tn_97 {w : World} {x : TypeId} {K : Value → World → Prop} : V Tryd.prog (Instr.typeAssert .nilIface x 97 true) w K ↔ K (.tuple #[(.agg #[(.int .i64 0)]), .bool false]) w := V.iff (r_tanil Tryd.underlying97 rfl inf97)
theorem V_tn_99 {w : World} {x : TypeId} {K : Value → World → Prop} : V Tryd.prog (Instr.typeAssert .nilIface x 99 true) w K ↔ K (.tuple #[(.agg #[(.int .i64 0), (.int .i64 0)]), .bool false]) w := V.iff (r_tanil Tryd.underlying99 rfl inf99)
theorem sa_108 : SA Tryd.prog 108 2 := ⟨_, _, inf108, by decide⟩
theorem sa_110 : SA Tryd.prog 110 2 := ⟨_, _, inf110, by decide⟩
theorem sa_112 : SA Tryd.prog 112 5 := ⟨_, _, inf112, by decide⟩
theorem sa_114 : SA Tryd.prog 114 3 := ⟨_, _, inf114, by decide⟩
theorem sa_116 : SA Tryd.prog 116 3 := ⟨_, _, inf116, by decide⟩
theorem sa_120 : SA Tryd.prog 120 10 := ⟨_, _, inf120, by decide⟩
theorem sa_26 : SA Tryd.prog 26 3 := ⟨_, _, inf26, by decide⟩
theorem sa_28 : SA Tryd.prog 28 1 := ⟨_, _, inf28, by decide⟩
theorem sa_37 : SA Tryd.prog 37 2 := ⟨_, _, inf37, by decide⟩
theorem sa_44 : SA Tryd.prog 44 3 := ⟨_, _, inf44, by decide⟩
theorem sa_50 : SA Tryd.prog 50 0 := ⟨_, _, inf50, by decide⟩
theorem sa_54 : SA Tryd.prog 54 1 := ⟨_, _, inf54, by decide⟩
theorem sa_61 : SA Tryd.prog 61 2 := ⟨_, _, inf61, by decide⟩
theorem sa_68 : SA Tryd.prog 68 4 := ⟨_, _, inf68, by decide⟩
theorem sa_70 : SA Tryd.prog 70 3 := ⟨_, _, inf70, by decide⟩
theorem sa_76 : SA Tryd.prog 76 8 := ⟨_, _, inf76, by decide⟩
theorem sa_91 : SA Tryd.prog 91 2 := ⟨_, _, inf91, by decide⟩
theorem sa_93 : SA Tryd.prog 93 3 := ⟨_, _, inf93, by decide⟩
theorem sa_95 : SA Tryd.prog 95 4 := ⟨_, _, inf95, by decide⟩
theorem sa_97 : SA Tryd.prog 97 1 := ⟨_, _, inf97, by decide⟩
theorem sa_99 : SA Tryd.prog 99 2 := ⟨_, _, inf99, by decide⟩
theorem la_26 : ∃ d z by_, Program.underlying Tryd.prog 26 = some d ∧ aggB d = true ∧ Inf Tryd.prog 26 z 3 by_ := ⟨_, _, _, Tryd.underlying26, rfl, inf26⟩
theorem la_37 : ∃ d z by_, Program.underlying Tryd.prog 37 = some d ∧ aggB d = true ∧ Inf Tryd.prog 37 z 2 by_ := ⟨_, _, _, Tryd.underlying37, rfl, inf37⟩
theorem la_44 : ∃ d z by_, Program.underlying Tryd.prog 44 = some d ∧ aggB d = true ∧ Inf Tryd.prog 44 z 3 by_ := ⟨_, _, _, Tryd.underlying44, rfl, inf44⟩
theorem la_70 : ∃ d z by_, Program.underlying Tryd.prog 70 = some d ∧ aggB d = true ∧ Inf Tryd.prog 70 z 3 by_ := ⟨_, _, _, Tryd.underlying70, rfl, inf70⟩
theorem la_76 : ∃ d z by_, Program.underlying Tryd.prog 76 = some d ∧ aggB d = true ∧ Inf Tryd.prog 76 z 8 by_ := ⟨_, _, _, Tryd.underlying76, rfl, inf76⟩
theorem la_82 : ∃ d z by_, Program.underlying Tryd.prog 82 = some d ∧ aggB d = true ∧ Inf Tryd.prog 82 z 9 by_ := ⟨_, _, _, Tryd.underlying82, rfl, inf82⟩
theorem xa_22 : XA Tryd.prog 22 9 := ⟨_, _, _, Tryd.underlying22, inf82⟩
theorem xa_23 : XA Tryd.prog 23 1 := ⟨_, _, _, Tryd.underlying23, inf21⟩
theorem xa_24 : XA Tryd.prog 24 1 := ⟨_, _, _, Tryd.underlying24, inf52⟩
theorem xa_28 : XA Tryd.prog 28 1 := ⟨_, _, _, Tryd.underlying28, inf4⟩
theorem xa_35 : XA Tryd.prog 35 1 := ⟨_, _, _, Tryd.underlying35, inf3⟩
theorem xa_42 : XA Tryd.prog 42 8 := ⟨_, _, _, Tryd.underlying42, inf76⟩
theorem xa_58 : XA Tryd.prog 58 1 := ⟨_, _, _, Tryd.underlying58, inf28⟩
theorem fa_108_0 : FA Tryd.prog 108 0 0 := ⟨fun _ _ _ => r_field 3 0 Tryd.underlying108 rfl inf3 rfl⟩
theorem fa_108_1 : FA Tryd.prog 108 1 1 := ⟨fun _ _ _ => r_field 3 1 Tryd.underlying108 rfl inf3 rfl⟩
theorem fa_110_0 : FA Tryd.prog 110 0 0 := ⟨fun _ _ _ => r_field 3 0 Tryd.underlying110 rfl inf3 rfl⟩
theorem fa_110_1 : FA Tryd.prog 110 1 1 := ⟨fun _ _ _ => r_field 3 1 Tryd.underlying110 rfl inf3 rfl⟩
theorem fa_112_0 : FA Tryd.prog 112 0 0 := ⟨fun _ _ _ => r_field 3 0 Tryd.underlying112 rfl inf3 rfl⟩
theorem fa_112_1 : FA Tryd.prog 112 1 1 := ⟨fun _ _ _ => r_field 3 1 Tryd.underlying112 rfl inf3 rfl⟩
theorem fa_112_2 : FA Tryd.prog 112 2 2 := ⟨fun _ _ _ => r_field 3 2 Tryd.underlying112 rfl inf3 rfl⟩
theorem fa_112_3 : FA Tryd.prog 112 3 3 := ⟨fun _ _ _ => r_field 3 3 Tryd.underlying112 rfl inf3 rfl⟩
theorem fa_112_4 : FA Tryd.prog 112 4 4 := ⟨fun _ _ _ => r_field 35 4 Tryd.underlying112 rfl inf35 rfl⟩
theorem fa_114_0 : FA Tryd.prog 114 0 0 := ⟨fun _ _ _ => r_field 3 0 Tryd.underlying114 rfl inf3 rfl⟩
theorem fa_114_1 : FA Tryd.prog 114 1 1 := ⟨fun _ _ _ => r_field 3 1 Tryd.underlying114 rfl inf3 rfl⟩
theorem fa_114_2 : FA Tryd.prog 114 2 2 := ⟨fun _ _ _ => r_field 35 2 Tryd.underlying114 rfl inf35 rfl⟩
theorem fa_116_0 : FA Tryd.prog 116 0 0 := ⟨fun _ _ _ => r_field 3 0 Tryd.underlying116 rfl inf3 rfl⟩
theorem fa_116_1 : FA Tryd.prog 116 1 1 := ⟨fun _ _ _ => r_field 3 1 Tryd.underlying116 rfl inf3 rfl⟩
theorem fa_116_2 : FA Tryd.prog 116 2 2 := ⟨fun _ _ _ => r_field 35 2 Tryd.underlying116 rfl inf35 rfl⟩
theorem fa_26_0 : FA Tryd.prog 26 0 0 := ⟨fun _ _ _ => r_field 3 0 Tryd.underlying26 rfl inf3 rfl⟩
theorem fa_26_1 : FA Tryd.prog 26 1 1 := ⟨fun _ _ _ => r_field 3 1 Tryd.underlying26 rfl inf3 rfl⟩
theorem fa_26_2 : FA Tryd.prog 26 2 2 := ⟨fun _ _ _ => r_field 24 2 Tryd.underlying26 rfl inf24 rfl⟩
theorem fa_37_0 : FA Tryd.prog 37 0 0 := ⟨fun _ _ _ => r_field 35 0 Tryd.underlying37 rfl inf35 rfl⟩
theorem fa_37_1 : FA Tryd.prog 37 1 1 := ⟨fun _ _ _ => r_field 3 1 Tryd.underlying37 rfl inf3 rfl⟩
theorem fa_44_0 : FA Tryd.prog 44 0 0 := ⟨fun _ _ _ => r_field 3 0 Tryd.underlying44 rfl inf3 rfl⟩
theorem fa_44_1 : FA Tryd.prog 44 1 1 := ⟨fun _ _ _ => r_field 3 1 Tryd.underlying44 rfl inf3 rfl⟩
theorem fa_44_2 : FA Tryd.prog 44 2 2 := ⟨fun _ _ _ => r_field 42 2 Tryd.underlying44 rfl inf42 rfl⟩
theorem fa_54_0 : FA Tryd.prog 54 0 0 := ⟨fun _ _ _ => r_field 3 0 Tryd.underlying54 rfl inf3 rfl⟩
theorem fa_61_0 : FA Tryd.prog 61 0 0 := ⟨fun _ _ _ => r_field 3 0 Tryd.underlying61 rfl inf3 rfl⟩
theorem fa_61_1 : FA Tryd.prog 61 1 1 := ⟨fun _ _ _ => r_field 21 1 Tryd.underlying61 rfl inf21 rfl⟩
theorem fa_68_0 : FA Tryd.prog 68 0 0 := ⟨fun _ _ _ => r_field 3 0 Tryd.underlying68 rfl inf3 rfl⟩
theorem fa_68_1 : FA Tryd.prog 68 1 1 := ⟨fun _ _ _ => r_field 3 1 Tryd.underlying68 rfl inf3 rfl⟩
theorem fa_68_2 : FA Tryd.prog 68 2 2 := ⟨fun _ _ _ => r_field 3 2 Tryd.underlying68 rfl inf3 rfl⟩
theorem fa_68_3 : FA Tryd.prog 68 3 3 := ⟨fun _ _ _ => r_field 3 3 Tryd.underlying68 rfl inf3 rfl⟩
theorem fa_70_0 : FA Tryd.prog 70 0 0 := ⟨fun _ _ _ => r_field 58 0 Tryd.underlying70 rfl inf58 rfl⟩
theorem fa_70_1 : FA Tryd.prog 70 1 1 := ⟨fun _ _ _ => r_field 28 1 Tryd.underlying70 rfl inf28 rfl⟩
theorem fa_70_2 : FA Tryd.prog 70 2 2 := ⟨fun _ _ _ => r_field 35 2 Tryd.underlying70 rfl inf35 rfl⟩
theorem fa_76_0 : FA Tryd.prog 76 0 0 := ⟨fun _ _ _ => r_field 3 0 Tryd.underlying76 rfl inf3 rfl⟩
theorem fa_76_1 : FA Tryd.prog 76 1 1 := ⟨fun _ _ _ => r_field 3 1 Tryd.underlying76 rfl inf3 rfl⟩
theorem fa_76_2 : FA Tryd.prog 76 2 2 := ⟨fun _ _ _ => r_field 3 2 Tryd.underlying76 rfl inf3 rfl⟩
theorem fa_76_3 : FA Tryd.prog 76 3 3 := ⟨fun _ _ _ => r_field 3 3 Tryd.underlying76 rfl inf3 rfl⟩
theorem fa_76_6 : FA Tryd.prog 76 6 6 := ⟨fun _ _ _ => r_field 3 6 Tryd.underlying76 rfl inf3 rfl⟩
theorem fa_76_7 : FA Tryd.prog 76 7 7 := ⟨fun _ _ _ => r_field 35 7 Tryd.underlying76 rfl inf35 rfl⟩
theorem fa_82_0 : FA Tryd.prog 82 0 0 := ⟨fun _ _ _ => r_field 3 0 Tryd.underlying82 rfl inf3 rfl⟩
theorem fa_82_1 : FA Tryd.prog 82 1 1 := ⟨fun _ _ _ => r_field 3 1 Tryd.underlying82 rfl inf3 rfl⟩
theorem fa_82_2 : FA Tryd.prog 82 2 2 := ⟨fun _ _ _ => r_field 3 2 Tryd.underlying82 rfl inf3 rfl⟩
theorem fa_82_3 : FA Tryd.prog 82 3 3 := ⟨fun _ _ _ => r_field 3 3 Tryd.underlying82 rfl inf3 rfl⟩
theorem fa_82_4 : FA Tryd.prog 82 4 4 := ⟨fun _ _ _ => r_field 3 4 Tryd.underlying82 rfl inf3 rfl⟩
theorem fa_82_5 : FA Tryd.prog 82 5 5 := ⟨fun _ _ _ => r_field 3 5 Tryd.underlying82 rfl inf3 rfl⟩
theorem fa_82_6 : FA Tryd.prog 82 6 6 := ⟨fun _ _ _ => r_field 3 6 Tryd.underlying82 rfl inf3 rfl⟩
theorem fa_82_7 : FA Tryd.prog 82 7 7 := ⟨fun _ _ _ => r_field 3 7 Tryd.underlying82 rfl inf3 rfl⟩
theorem fa_82_8 : FA Tryd.prog 82 8 8 := ⟨fun _ _ _ => r_field 35 8 Tryd.underlying82 rfl inf35 rfl⟩
theorem fa_91_0 : FA Tryd.prog 91 0 0 := ⟨fun _ _ _ => r_field 3 0 Tryd.underlying91 rfl inf3 rfl⟩
theorem fa_91_1 : FA Tryd.prog 91 1 1 := ⟨fun _ _ _ => r_field 3 1 Tryd.underlying91 rfl inf3 rfl⟩
theorem fa_93_0 : FA Tryd.prog 93 0 0 := ⟨fun _ _ _ => r_field 3 0 Tryd.underlying93 rfl inf3 rfl⟩
theorem fa_93_1 : FA Tryd.prog 93 1 1 := ⟨fun _ _ _ => r_field 3 1 Tryd.underlying93 rfl inf3 rfl⟩
theorem fa_93_2 : FA Tryd.prog 93 2 2 := ⟨fun _ _ _ => r_field 3 2 Tryd.underlying93 rfl inf3 rfl⟩
theorem fa_95_0 : FA Tryd.prog 95 0 0 := ⟨fun _ _ _ => r_field 3 0 Tryd.underlying95 rfl inf3 rfl⟩
theorem fa_95_1 : FA Tryd.prog 95 1 1 := ⟨fun _ _ _ => r_field 3 1 Tryd.underlying95 rfl inf3 rfl⟩
theorem fa_95_2 : FA Tryd.prog 95 2 2 := ⟨fun _ _ _ => r_field 3 2 Tryd.underlying95 rfl inf3 rfl⟩
theorem fa_95_3 : FA Tryd.prog 95 3 3 := ⟨fun _ _ _ => r_field 3 3 Tryd.underlying95 rfl inf3 rfl⟩
theorem fa_97_0 : FA Tryd.prog 97 0 0 := ⟨fun _ _ _ => r_field 3 0 Tryd.underlying97 rfl inf3 rfl⟩
theorem fa_99_0 : FA Tryd.prog 99 0 0 := ⟨fun _ _ _ => r_field 3 0 Tryd.underlying99 rfl inf3 rfl⟩
theorem fa_99_1 : FA Tryd.prog 99 1 1 := ⟨fun _ _ _ => r_field 3 1 Tryd.underlying99 rfl inf3 rfl⟩
theorem l1_21 : L1 Tryd.prog 21 := ⟨_, Tryd.underlying21, rfl⟩
theorem l1_24 : L1 Tryd.prog 24 := ⟨_, Tryd.underlying24, rfl⟩
theorem l1_28 : L1 Tryd.prog 28 := ⟨_, Tryd.underlying28, rfl⟩
theorem l1_3 : L1 Tryd.prog 3 := ⟨_, Tryd.underlying3, rfl⟩
theorem l1_35 : L1 Tryd.prog 35 := ⟨_, Tryd.underlying35, rfl⟩
theorem l1_4 : L1 Tryd.prog 4 := ⟨_, Tryd.underlying4, rfl⟩
theorem l1_42 : L1 Tryd.prog 42 := ⟨_, Tryd.underlying42, rfl⟩
theorem l1_52 : L1 Tryd.prog 52 := ⟨_, Tryd.underlying52, rfl⟩
theorem l1_58 : L1 Tryd.prog 58 := ⟨_, Tryd.underlying58, rfl⟩
theorem xe_23 : XE Tryd.prog 23 21 4 := ⟨_, Tryd.underlying23, inf21, rfl⟩
theorem xe_24 : XE Tryd.prog 24 52 16 := ⟨_, Tryd.underlying24, inf52, rfl⟩
theorem xe_28 : XE Tryd.prog 28 4 1 := ⟨_, Tryd.underlying28, inf4, rfl⟩
theorem xe_35 : XE Tryd.prog 35 3 8 := ⟨_, Tryd.underlying35, inf3, rfl⟩
theorem xe_58 : XE Tryd.prog 58 28 24 := ⟨_, Tryd.underlying58, inf28, rfl⟩
theorem bd_108 : BD Tryd.prog 108 [(.int .i64 0), (.int .i64 0)] := ⟨_, _, Tryd.underlying108, inf108, fun w => by kernel_rfl⟩
theorem bd_110 : BD Tryd.prog 110 [(.int .i64 0), (.int .i64 0)] := ⟨_, _, Tryd.underlying110, inf110, fun w => by kernel_rfl⟩
theorem bd_112 : BD Tryd.prog 112 [(.int .i64 0), (.int .i64 0), (.int .i64 0), (.int .i64 0), (.slice none 0 0)] := ⟨_, _, Tryd.underlying112, inf112, fun w => by kernel_rfl⟩
theorem bd_114 : BD Tryd.prog 114 [(.int .i64 0), (.int .i64 0), (.slice none 0 0)] := ⟨_, _, Tryd.underlying114, inf114, fun w => by kernel_rfl⟩
theorem bd_116 : BD Tryd.prog 116 [(.int .i64 0), (.int .i64 0), (.slice none 0 0)] := ⟨_, _, Tryd.underlying116, inf116, fun w => by kernel_rfl⟩
theorem bd_26 : BD Tryd.prog 26 [(.int .i64 0), (.int .i64 0), (.slice none 0 0)] := ⟨_, _, Tryd.underlying26, inf26, fun w => by kernel_rfl⟩
theorem bd_37 : BD Tryd.prog 37 [(.slice none 0 0), (.int .i64 0)] := ⟨_, _, Tryd.underlying37, inf37, fun w => by kernel_rfl⟩
theorem bd_44 : BD Tryd.prog 44 [(.int .i64 0), (.int .i64 0), (.slice none 0 0)] := ⟨_, _, Tryd.underlying44, inf44, fun w => by kernel_rfl⟩
theorem bd_50 : BD Tryd.prog 50 [] := ⟨_, _, Tryd.underlying50, inf50, fun w => by kernel_rfl⟩
theorem bd_54 : BD Tryd.prog 54 [(.int .i64 0)] := ⟨_, _, Tryd.underlying54, inf54, fun w => by kernel_rfl⟩
theorem bd_61 : BD Tryd.prog 61 [(.int .i64 0), (.int .i32 0)] := ⟨_, _, Tryd.underlying61, inf61, fun w => by kernel_rfl⟩
theorem bd_68 : BD Tryd.prog 68 [(.int .i64 0), (.int .i64 0), (.int .i64 0), (.int .i64 0)] := ⟨_, _, Tryd.underlying68, inf68, fun w => by kernel_rfl⟩
theorem bd_70 : BD Tryd.prog 70 [(.slice none 0 0), (.slice none 0 0), (.slice none 0 0)] := ⟨_, _, Tryd.underlying70, inf70, fun w => by kernel_rfl⟩
theorem bd_76 : BD Tryd.prog 76 [(.int .i64 0), (.int .i64 0), (.int .i64 0), (.int .i64 0), (.int .i64 0), (.int .i64 0), (.int .i64 0), (.slice none 0 0)] := ⟨_, _, Tryd.underlying76, inf76, fun w => by kernel_rfl⟩
theorem bd_91 : BD Tryd.prog 91 [(.int .i64 0), (.int .i64 0)] := ⟨_, _, Tryd.underlying91, inf91, fun w => by kernel_rfl⟩
theorem bd_93 : BD Tryd.prog 93 [(.int .i64 0), (.int .i64 0), (.int .i64 0)] := ⟨_, _, Tryd.underlying93, inf93, fun w => by kernel_rfl⟩
theorem bd_95 : BD Tryd.prog 95 [(.int .i64 0), (.int .i64 0), (.int .i64 0), (.int .i64 0)] := ⟨_, _, Tryd.underlying95, inf95, fun w => by kernel_rfl⟩
theorem bd_97 : BD Tryd.prog 97 [(.int .i64 0)] := ⟨_, _, Tryd.underlying97, inf97, fun w => by kernel_rfl⟩
theorem bd_99 : BD Tryd.prog 99 [(.int .i64 0), (.int .i64 0)] := ⟨_, _, Tryd.underlying99, inf99, fun w => by kernel_rfl⟩
theorem mi_108 : MI Tryd.prog 108 := ⟨_, Tryd.underlying108, rfl⟩
theorem mi_110 : MI Tryd.prog 110 := ⟨_, Tryd.underlying110, rfl⟩
theorem mi_112 : MI Tryd.prog 112 := ⟨_, Tryd.underlying112, rfl⟩
theorem mi_114 : MI Tryd.prog 114 := ⟨_, Tryd.underlying114, rfl⟩
theorem mi_116 : MI Tryd.prog 116 := ⟨_, Tryd.underlying116, rfl⟩
theorem mi_50 : MI Tryd.prog 50 := ⟨_, Tryd.underlying50, rfl⟩
theorem mi_54 : MI Tryd.prog 54 := ⟨_, Tryd.underlying54, rfl⟩
theorem mi_61 : MI Tryd.prog 61 := ⟨_, Tryd.underlying61, rfl⟩
theorem mi_68 : MI Tryd.prog 68 := ⟨_, Tryd.underlying68, rfl⟩
theorem mi_91 : MI Tryd.prog 91 := ⟨_, Tryd.underlying91, rfl⟩
theorem mi_93 : MI Tryd.prog 93 := ⟨_, Tryd.underlying93, rfl⟩
theorem mi_95 : MI Tryd.prog 95 := ⟨_, Tryd.underlying95, rfl⟩
theorem mi_97 : MI Tryd.prog 97 := ⟨_, Tryd.underlying97, rfl⟩
theorem mi_99 : MI Tryd.prog 99 := ⟨_, Tryd.underlying99, rfl⟩
theorem ta_108 : TA Tryd.prog 108 := TA.mk' Tryd.underlying108 rfl inf108
theorem ta_110 : TA Tryd.prog 110 := TA.mk' Tryd.underlying110 rfl inf110
theorem ta_112 : TA Tryd.prog 112 := TA.mk' Tryd.underlying112 rfl inf112
theorem ta_114 : TA Tryd.prog 114 := TA.mk' Tryd.underlying114 rfl inf114
theorem ta_116 : TA Tryd.prog 116 := TA.mk' Tryd.underlying116 rfl inf116
theorem ta_50 : TA Tryd.prog 50 := TA.mk' Tryd.underlying50 rfl inf50
theorem ta_54 : TA Tryd.prog 54 := TA.mk' Tryd.underlying54 rfl inf54
theorem ta_61 : TA Tryd.prog 61 := TA.mk' Tryd.underlying61 rfl inf61
theorem ta_68 : TA Tryd.prog 68 := TA.mk' Tryd.underlying68 rfl inf68
theorem ta_91 : TA Tryd.prog 91 := TA.mk' Tryd.underlying91 rfl inf91
theorem ta_93 : TA Tryd.prog 93 := TA.mk' Tryd.underlying93 rfl inf93
theorem ta_95 : TA Tryd.prog 95 := TA.mk' Tryd.underlying95 rfl inf95
theorem ta_97 : TA Tryd.prog 97 := TA.mk' Tryd.underlying97 rfl inf97
theorem ta_99 : TA Tryd.prog 99 := TA.mk' Tryd.underlying99 rfl inf99
end Go.Proofs.YtendijaeihljeaaDoor
