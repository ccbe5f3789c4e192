/- The laws of single operations, at this program's types: by program (instgen.py). -/
import Derived.Test.YtgjmpnngheohbaaDoorLaws2
import Derived.Test.YtgjmpnngheohbaaDoorProg
import Derived.KernelRfl
namespace Go.Proofs.YtgjmpnngheohbaaDoor
open Go.Vc
theorem inf3 : Inf Tryd.prog 3 (.int .i64 0) 1 8 := by unfold Inf; kernel_rfl
theorem inf4 : Inf Tryd.prog 4 (.bool false) 1 1 := by unfold Inf; kernel_rfl
theorem inf5 : Inf Tryd.prog 5 (.int .u8 0) 1 1 := by unfold Inf; kernel_rfl
theorem inf21 : Inf Tryd.prog 21 (.int .i32 0) 1 4 := by unfold Inf; kernel_rfl
theorem inf23 : Inf Tryd.prog 23 (.pointer none) 1 8 := by unfold Inf; kernel_rfl
theorem inf29 : Inf Tryd.prog 29 (.agg #[(.int .i32 0), (.int .i32 0), (.int .i32 0), (.int .i32 0), (.int .i32 0), (.int .i32 0), (.int .i32 0), (.int .i32 0), (.int .i32 0), (.int .i32 0), (.int .i32 0), (.int .i32 0)]) 12 48 := by unfold Inf; kernel_rfl
theorem inf32 : Inf Tryd.prog 32 (.slice none 0 0) 1 24 := by unfold Inf; kernel_rfl
theorem inf33 : Inf Tryd.prog 33 (.slice none 0 0) 1 24 := by unfold Inf; kernel_rfl
theorem inf34 : Inf Tryd.prog 34 (.slice none 0 0) 1 24 := by unfold Inf; kernel_rfl
theorem inf36 : Inf Tryd.prog 36 (.agg #[(.string ByteArray.empty), (.slice none 0 0), (.slice none 0 0), (.slice none 0 0), (.slice none 0 0)]) 5 112 := by unfold Inf; kernel_rfl
theorem inf39 : Inf Tryd.prog 39 (.slice none 0 0) 1 24 := by unfold Inf; kernel_rfl
theorem inf40 : Inf Tryd.prog 40 (.slice none 0 0) 1 24 := by unfold Inf; kernel_rfl
theorem inf42 : Inf Tryd.prog 42 (.agg #[(.int .i64 0), (.int .i64 0), (.int .i64 0), (.int .i64 0), (.slice none 0 0), (.slice none 0 0), (.slice none 0 0)]) 7 104 := by unfold Inf; kernel_rfl
theorem inf50 : Inf Tryd.prog 50 (.pointer none) 1 8 := by unfold Inf; kernel_rfl
theorem inf55 : Inf Tryd.prog 55 (.slice none 0 0) 1 24 := by unfold Inf; kernel_rfl
theorem inf57 : Inf Tryd.prog 57 (.agg #[(.slice none 0 0)]) 1 24 := by unfold Inf; kernel_rfl
theorem inf59 : Inf Tryd.prog 59 (.pointer none) 1 8 := by unfold Inf; kernel_rfl
theorem inf60 : Inf Tryd.prog 60 (.slice none 0 0) 1 24 := by unfold Inf; kernel_rfl
theorem inf61 : Inf Tryd.prog 61 (.slice none 0 0) 1 24 := by unfold Inf; kernel_rfl
theorem inf63 : Inf Tryd.prog 63 (.agg #[(.pointer none), (.slice none 0 0), (.slice none 0 0), (.slice none 0 0), (.slice none 0 0)]) 5 104 := by unfold Inf; kernel_rfl
theorem inf74 : Inf Tryd.prog 74 (.agg #[(.int .i64 0), (.int .i64 0), (.int .i64 0), (.int .i64 0)]) 4 32 := by unfold Inf; kernel_rfl
theorem inf76 : Inf Tryd.prog 76 (.pointer none) 1 8 := by unfold Inf; kernel_rfl
theorem inf80 : Inf Tryd.prog 80 (.agg #[(.pointer none), (.slice none 0 0), (.slice none 0 0), (.slice none 0 0), (.slice none 0 0)]) 5 104 := by unfold Inf; kernel_rfl
theorem inf85 : Inf Tryd.prog 85 (.agg #[(.string ByteArray.empty), (.int .i64 0), (.slice none 0 0), (.int .i64 0)]) 4 56 := by unfold Inf; kernel_rfl
theorem inf86 : Inf Tryd.prog 86 (.slice none 0 0) 1 24 := by unfold Inf; kernel_rfl
theorem inf88 : Inf Tryd.prog 88 (.agg #[(.slice none 0 0), (.int .i64 0), (.slice none 0 0), (.slice none 0 0)]) 4 80 := by unfold Inf; kernel_rfl
theorem inf91 : Inf Tryd.prog 91 (.agg #[(.slice none 0 0)]) 1 24 := by unfold Inf; kernel_rfl
theorem inf95 : Inf Tryd.prog 95 (.agg #[(.pointer none), (.pointer none), (.int .i64 0), (.int .i64 0), (.int .i64 0), (.slice none 0 0)]) 6 64 := by unfold Inf; kernel_rfl
theorem inf105 : Inf Tryd.prog 105 (.agg #[(.int .i64 0), (.int .i64 0), (.int .i64 0), (.bool false), (.slice none 0 0)]) 5 56 := by unfold Inf; kernel_rfl
theorem inf114 : Inf Tryd.prog 114 (.slice none 0 0) 1 24 := by unfold Inf; kernel_rfl
theorem inf116 : Inf Tryd.prog 116 (.agg #[(.int .i64 0), (.slice none 0 0)]) 2 32 := by unfold Inf; kernel_rfl
theorem inf120 : Inf Tryd.prog 120 (.agg #[(.int .i64 0), (.slice none 0 0)]) 2 32 := by unfold Inf; kernel_rfl
theorem inf127 : Inf Tryd.prog 127 (.agg #[(.int .i64 0), (.int .i64 0), (.int .i64 0)]) 3 24 := by unfold Inf; kernel_rfl
theorem inf131 : Inf Tryd.prog 131 (.agg #[(.slice none 0 0), (.slice none 0 0), (.int .i64 0), (.slice none 0 0), (.int .i64 0)]) 5 88 := by unfold Inf; kernel_rfl
theorem inf133 : Inf Tryd.prog 133 (.agg #[(.int .i64 0), (.int .i64 0), (.int .i64 0), (.int .i64 0)]) 4 32 := by unfold Inf; kernel_rfl
theorem r_eqb_4 {w : World} {x y : Operand} {a b : Bool} : (do eqGuard .eql 4 x y (.bool a) (.bool b); binOp .eql 4 (.bool a) (.bool b)).run Tryd.prog w = .ok (.bool (a == b)) w := r_eqBool Tryd.underlying4
theorem r_fd_105_0 {w : World} {b off : Nat} : (Instr.fieldAt 105 (.pointer (some ⟨b, off, none⟩)) 0).run Tryd.prog w = .ok (.pointer (some ⟨b, off + 0, none⟩)) w := r_field 3 0 Tryd.underlying105 rfl inf3 rfl
theorem r_fd_105_1 {w : World} {b off : Nat} : (Instr.fieldAt 105 (.pointer (some ⟨b, off, none⟩)) 1).run Tryd.prog w = .ok (.pointer (some ⟨b, off + 1, none⟩)) w := r_field 3 1 Tryd.underlying105 rfl inf3 rfl
theorem r_fd_105_2 {w : World} {b off : Nat} : (Instr.fieldAt 105 (.pointer (some ⟨b, off, none⟩)) 2).run Tryd.prog w = .ok (.pointer (some ⟨b, off + 2, none⟩)) w := r_field 3 2 Tryd.underlying105 rfl inf3 rfl
theorem r_fd_105_3 {w : World} {b off : Nat} : (Instr.fieldAt 105 (.pointer (some ⟨b, off, none⟩)) 3).run Tryd.prog w = .ok (.pointer (some ⟨b, off + 3, none⟩)) w := r_field 4 3 Tryd.underlying105 rfl inf4 rfl
theorem r_fd_105_4 {w : World} {b off : Nat} : (Instr.fieldAt 105 (.pointer (some ⟨b, off, none⟩)) 4).run Tryd.prog w = .ok (.pointer (some ⟨b, off + 4, none⟩)) w := r_field 40 4 Tryd.underlying105 rfl inf40 rfl
theorem r_fd_116_0 {w : World} {b off : Nat} : (Instr.fieldAt 116 (.pointer (some ⟨b, off, none⟩)) 0).run Tryd.prog w = .ok (.pointer (some ⟨b, off + 0, none⟩)) w := r_field 3 0 Tryd.underlying116 rfl inf3 rfl
theorem r_fd_116_1 {w : World} {b off : Nat} : (Instr.fieldAt 116 (.pointer (some ⟨b, off, none⟩)) 1).run Tryd.prog w = .ok (.pointer (some ⟨b, off + 1, none⟩)) w := r_field 114 1 Tryd.underlying116 rfl inf114 rfl
theorem r_fd_120_0 {w : World} {b off : Nat} : (Instr.fieldAt 120 (.pointer (some ⟨b, off, none⟩)) 0).run Tryd.prog w = .ok (.pointer (some ⟨b, off + 0, none⟩)) w := r_field 3 0 Tryd.underlying120 rfl inf3 rfl
theorem r_fd_120_1 {w : World} {b off : Nat} : (Instr.fieldAt 120 (.pointer (some ⟨b, off, none⟩)) 1).run Tryd.prog w = .ok (.pointer (some ⟨b, off + 1, none⟩)) w := r_field 114 1 Tryd.underlying120 rfl inf114 rfl
theorem r_fd_127_0 {w : World} {b off : Nat} : (Instr.fieldAt 127 (.pointer (some ⟨b, off, none⟩)) 0).run Tryd.prog w = .ok (.pointer (some ⟨b, off + 0, none⟩)) w := r_field 3 0 Tryd.underlying127 rfl inf3 rfl
theorem r_fd_127_1 {w : World} {b off : Nat} : (Instr.fieldAt 127 (.pointer (some ⟨b, off, none⟩)) 1).run Tryd.prog w = .ok (.pointer (some ⟨b, off + 1, none⟩)) w := r_field 3 1 Tryd.underlying127 rfl inf3 rfl
theorem r_fd_131_0 {w : World} {b off : Nat} : (Instr.fieldAt 131 (.pointer (some ⟨b, off, none⟩)) 0).run Tryd.prog w = .ok (.pointer (some ⟨b, off + 0, none⟩)) w := r_field 86 0 Tryd.underlying131 rfl inf86 rfl
theorem r_fd_131_1 {w : World} {b off : Nat} : (Instr.fieldAt 131 (.pointer (some ⟨b, off, none⟩)) 1).run Tryd.prog w = .ok (.pointer (some ⟨b, off + 1, none⟩)) w := r_field 32 1 Tryd.underlying131 rfl inf32 rfl
theorem r_fd_131_2 {w : World} {b off : Nat} : (Instr.fieldAt 131 (.pointer (some ⟨b, off, none⟩)) 2).run Tryd.prog w = .ok (.pointer (some ⟨b, off + 2, none⟩)) w := r_field 3 2 Tryd.underlying131 rfl inf3 rfl
theorem r_fd_131_3 {w : World} {b off : Nat} : (Instr.fieldAt 131 (.pointer (some ⟨b, off, none⟩)) 3).run Tryd.prog w = .ok (.pointer (some ⟨b, off + 3, none⟩)) w := r_field 32 3 Tryd.underlying131 rfl inf32 rfl
theorem r_fd_131_4 {w : World} {b off : Nat} : (Instr.fieldAt 131 (.pointer (some ⟨b, off, none⟩)) 4).run Tryd.prog w = .ok (.pointer (some ⟨b, off + 4, none⟩)) w := r_field 3 4 Tryd.underlying131 rfl inf3 rfl
theorem r_fd_133_0 {w : World} {b off : Nat} : (Instr.fieldAt 133 (.pointer (some ⟨b, off, none⟩)) 0).run Tryd.prog w = .ok (.pointer (some ⟨b, off + 0, none⟩)) w := r_field 3 0 Tryd.underlying133 rfl inf3 rfl
theorem r_fd_133_1 {w : World} {b off : Nat} : (Instr.fieldAt 133 (.pointer (some ⟨b, off, none⟩)) 1).run Tryd.prog w = .ok (.pointer (some ⟨b, off + 1, none⟩)) w := r_field 3 1 Tryd.underlying133 rfl inf3 rfl
theorem r_fd_133_2 {w : World} {b off : Nat} : (Instr.fieldAt 133 (.pointer (some ⟨b, off, none⟩)) 2).run Tryd.prog w = .ok (.pointer (some ⟨b, off + 2, none⟩)) w := r_field 3 2 Tryd.underlying133 rfl inf3 rfl
theorem r_fd_133_3 {w : World} {b off : Nat} : (Instr.fieldAt 133 (.pointer (some ⟨b, off, none⟩)) 3).run Tryd.prog w = .ok (.pointer (some ⟨b, off + 3, none⟩)) w := r_field 3 3 Tryd.underlying133 rfl inf3 rfl
theorem r_fd_36_1 {w : World} {b off : Nat} : (Instr.fieldAt 36 (.pointer (some ⟨b, off, none⟩)) 1).run Tryd.prog w = .ok (.pointer (some ⟨b, off + 1, none⟩)) w := r_field 32 1 Tryd.underlying36 rfl inf32 rfl
theorem r_fd_36_2 {w : World} {b off : Nat} : (Instr.fieldAt 36 (.pointer (some ⟨b, off, none⟩)) 2).run Tryd.prog w = .ok (.pointer (some ⟨b, off + 2, none⟩)) w := r_field 33 2 Tryd.underlying36 rfl inf33 rfl
theorem r_fd_36_3 {w : World} {b off : Nat} : (Instr.fieldAt 36 (.pointer (some ⟨b, off, none⟩)) 3).run Tryd.prog w = .ok (.pointer (some ⟨b, off + 3, none⟩)) w := r_field 34 3 Tryd.underlying36 rfl inf34 rfl
theorem r_fd_36_4 {w : World} {b off : Nat} : (Instr.fieldAt 36 (.pointer (some ⟨b, off, none⟩)) 4).run Tryd.prog w = .ok (.pointer (some ⟨b, off + 4, none⟩)) w := r_field 32 4 Tryd.underlying36 rfl inf32 rfl
theorem r_fd_42_0 {w : World} {b off : Nat} : (Instr.fieldAt 42 (.pointer (some ⟨b, off, none⟩)) 0).run Tryd.prog w = .ok (.pointer (some ⟨b, off + 0, none⟩)) w := r_field 3 0 Tryd.underlying42 rfl inf3 rfl
theorem r_fd_42_1 {w : World} {b off : Nat} : (Instr.fieldAt 42 (.pointer (some ⟨b, off, none⟩)) 1).run Tryd.prog w = .ok (.pointer (some ⟨b, off + 1, none⟩)) w := r_field 3 1 Tryd.underlying42 rfl inf3 rfl
theorem r_fd_42_2 {w : World} {b off : Nat} : (Instr.fieldAt 42 (.pointer (some ⟨b, off, none⟩)) 2).run Tryd.prog w = .ok (.pointer (some ⟨b, off + 2, none⟩)) w := r_field 3 2 Tryd.underlying42 rfl inf3 rfl
theorem r_fd_42_3 {w : World} {b off : Nat} : (Instr.fieldAt 42 (.pointer (some ⟨b, off, none⟩)) 3).run Tryd.prog w = .ok (.pointer (some ⟨b, off + 3, none⟩)) w := r_field 3 3 Tryd.underlying42 rfl inf3 rfl
theorem r_fd_42_4 {w : World} {b off : Nat} : (Instr.fieldAt 42 (.pointer (some ⟨b, off, none⟩)) 4).run Tryd.prog w = .ok (.pointer (some ⟨b, off + 4, none⟩)) w := r_field 39 4 Tryd.underlying42 rfl inf39 rfl
theorem r_fd_42_5 {w : World} {b off : Nat} : (Instr.fieldAt 42 (.pointer (some ⟨b, off, none⟩)) 5).run Tryd.prog w = .ok (.pointer (some ⟨b, off + 5, none⟩)) w := r_field 40 5 Tryd.underlying42 rfl inf40 rfl
theorem r_fd_42_6 {w : World} {b off : Nat} : (Instr.fieldAt 42 (.pointer (some ⟨b, off, none⟩)) 6).run Tryd.prog w = .ok (.pointer (some ⟨b, off + 6, none⟩)) w := r_field 40 6 Tryd.underlying42 rfl inf40 rfl
theorem r_fd_57_0 {w : World} {b off : Nat} : (Instr.fieldAt 57 (.pointer (some ⟨b, off, none⟩)) 0).run Tryd.prog w = .ok (.pointer (some ⟨b, off + 0, none⟩)) w := r_field 55 0 Tryd.underlying57 rfl inf55 rfl
theorem r_fd_63_0 {w : World} {b off : Nat} : (Instr.fieldAt 63 (.pointer (some ⟨b, off, none⟩)) 0).run Tryd.prog w = .ok (.pointer (some ⟨b, off + 0, none⟩)) w := r_field 59 0 Tryd.underlying63 rfl inf59 rfl
theorem r_fd_63_1 {w : World} {b off : Nat} : (Instr.fieldAt 63 (.pointer (some ⟨b, off, none⟩)) 1).run Tryd.prog w = .ok (.pointer (some ⟨b, off + 1, none⟩)) w := r_field 60 1 Tryd.underlying63 rfl inf60 rfl
theorem r_fd_63_2 {w : World} {b off : Nat} : (Instr.fieldAt 63 (.pointer (some ⟨b, off, none⟩)) 2).run Tryd.prog w = .ok (.pointer (some ⟨b, off + 2, none⟩)) w := r_field 61 2 Tryd.underlying63 rfl inf61 rfl
theorem r_fd_63_3 {w : World} {b off : Nat} : (Instr.fieldAt 63 (.pointer (some ⟨b, off, none⟩)) 3).run Tryd.prog w = .ok (.pointer (some ⟨b, off + 3, none⟩)) w := r_field 40 3 Tryd.underlying63 rfl inf40 rfl
theorem r_fd_63_4 {w : World} {b off : Nat} : (Instr.fieldAt 63 (.pointer (some ⟨b, off, none⟩)) 4).run Tryd.prog w = .ok (.pointer (some ⟨b, off + 4, none⟩)) w := r_field 40 4 Tryd.underlying63 rfl inf40 rfl
theorem r_fd_80_0 {w : World} {b off : Nat} : (Instr.fieldAt 80 (.pointer (some ⟨b, off, none⟩)) 0).run Tryd.prog w = .ok (.pointer (some ⟨b, off + 0, none⟩)) w := r_field 76 0 Tryd.underlying80 rfl inf76 rfl
theorem r_fd_80_1 {w : World} {b off : Nat} : (Instr.fieldAt 80 (.pointer (some ⟨b, off, none⟩)) 1).run Tryd.prog w = .ok (.pointer (some ⟨b, off + 1, none⟩)) w := r_field 60 1 Tryd.underlying80 rfl inf60 rfl
theorem r_fd_80_2 {w : World} {b off : Nat} : (Instr.fieldAt 80 (.pointer (some ⟨b, off, none⟩)) 2).run Tryd.prog w = .ok (.pointer (some ⟨b, off + 2, none⟩)) w := r_field 61 2 Tryd.underlying80 rfl inf61 rfl
theorem r_fd_80_3 {w : World} {b off : Nat} : (Instr.fieldAt 80 (.pointer (some ⟨b, off, none⟩)) 3).run Tryd.prog w = .ok (.pointer (some ⟨b, off + 3, none⟩)) w := r_field 40 3 Tryd.underlying80 rfl inf40 rfl
theorem r_fd_80_4 {w : World} {b off : Nat} : (Instr.fieldAt 80 (.pointer (some ⟨b, off, none⟩)) 4).run Tryd.prog w = .ok (.pointer (some ⟨b, off + 4, none⟩)) w := r_field 40 4 Tryd.underlying80 rfl inf40 rfl
theorem r_fd_85_2 {w : World} {b off : Nat} : (Instr.fieldAt 85 (.pointer (some ⟨b, off, none⟩)) 2).run Tryd.prog w = .ok (.pointer (some ⟨b, off + 2, none⟩)) w := r_field 32 2 Tryd.underlying85 rfl inf32 rfl
theorem r_fd_85_3 {w : World} {b off : Nat} : (Instr.fieldAt 85 (.pointer (some ⟨b, off, none⟩)) 3).run Tryd.prog w = .ok (.pointer (some ⟨b, off + 3, none⟩)) w := r_field 3 3 Tryd.underlying85 rfl inf3 rfl
theorem r_fd_88_0 {w : World} {b off : Nat} : (Instr.fieldAt 88 (.pointer (some ⟨b, off, none⟩)) 0).run Tryd.prog w = .ok (.pointer (some ⟨b, off + 0, none⟩)) w := r_field 32 0 Tryd.underlying88 rfl inf32 rfl
theorem r_fd_88_1 {w : World} {b off : Nat} : (Instr.fieldAt 88 (.pointer (some ⟨b, off, none⟩)) 1).run Tryd.prog w = .ok (.pointer (some ⟨b, off + 1, none⟩)) w := r_field 3 1 Tryd.underlying88 rfl inf3 rfl
theorem r_fd_88_2 {w : World} {b off : Nat} : (Instr.fieldAt 88 (.pointer (some ⟨b, off, none⟩)) 2).run Tryd.prog w = .ok (.pointer (some ⟨b, off + 2, none⟩)) w := r_field 32 2 Tryd.underlying88 rfl inf32 rfl
theorem r_fd_88_3 {w : World} {b off : Nat} : (Instr.fieldAt 88 (.pointer (some ⟨b, off, none⟩)) 3).run Tryd.prog w = .ok (.pointer (some ⟨b, off + 3, none⟩)) w := r_field 86 3 Tryd.underlying88 rfl inf86 rfl
theorem r_fd_91_0 {w : World} {b off : Nat} : (Instr.fieldAt 91 (.pointer (some ⟨b, off, none⟩)) 0).run Tryd.prog w = .ok (.pointer (some ⟨b, off + 0, none⟩)) w := r_field 55 0 Tryd.underlying91 rfl inf55 rfl
theorem r_fd_95_0 {w : World} {b off : Nat} : (Instr.fieldAt 95 (.pointer (some ⟨b, off, none⟩)) 0).run Tryd.prog w = .ok (.pointer (some ⟨b, off + 0, none⟩)) w := r_field 23 0 Tryd.underlying95 rfl inf23 rfl
theorem r_fd_95_1 {w : World} {b off : Nat} : (Instr.fieldAt 95 (.pointer (some ⟨b, off, none⟩)) 1).run Tryd.prog w = .ok (.pointer (some ⟨b, off + 1, none⟩)) w := r_field 50 1 Tryd.underlying95 rfl inf50 rfl
theorem r_fd_95_2 {w : World} {b off : Nat} : (Instr.fieldAt 95 (.pointer (some ⟨b, off, none⟩)) 2).run Tryd.prog w = .ok (.pointer (some ⟨b, off + 2, none⟩)) w := r_field 3 2 Tryd.underlying95 rfl inf3 rfl
theorem r_fd_95_3 {w : World} {b off : Nat} : (Instr.fieldAt 95 (.pointer (some ⟨b, off, none⟩)) 3).run Tryd.prog w = .ok (.pointer (some ⟨b, off + 3, none⟩)) w := r_field 3 3 Tryd.underlying95 rfl inf3 rfl
theorem r_fd_95_4 {w : World} {b off : Nat} : (Instr.fieldAt 95 (.pointer (some ⟨b, off, none⟩)) 4).run Tryd.prog w = .ok (.pointer (some ⟨b, off + 4, none⟩)) w := r_field 3 4 Tryd.underlying95 rfl inf3 rfl
theorem r_fd_95_5 {w : World} {b off : Nat} : (Instr.fieldAt 95 (.pointer (some ⟨b, off, none⟩)) 5).run Tryd.prog w = .ok (.pointer (some ⟨b, off + 5, none⟩)) w := r_field 32 5 Tryd.underlying95 rfl inf32 rfl
theorem r_ix_114 {w : World} {b off len cap : Nat} {k : IntKind} {i : Int} (h0 : 0 ≤ i) (h1 : i < len) : (Instr.indexAt 114 (.slice (some ⟨b, off, none⟩) len cap) (.int k i)).run Tryd.prog w = .ok (.pointer (some ⟨b, off + i.toNat * 5, none⟩)) w := r_index Tryd.underlying114 inf105 h0 h1
theorem r_ix_22 {w : World} {b off len cap : Nat} {k : IntKind} {i : Int} (h0 : 0 ≤ i) (h1 : i < len) : (Instr.indexAt 22 (.slice (some ⟨b, off, none⟩) len cap) (.int k i)).run Tryd.prog w = .ok (.pointer (some ⟨b, off + i.toNat * 7, none⟩)) w := r_index Tryd.underlying22 inf42 h0 h1
theorem r_ix_32 {w : World} {b off len cap : Nat} {k : IntKind} {i : Int} (h0 : 0 ≤ i) (h1 : i < len) : (Instr.indexAt 32 (.slice (some ⟨b, off, none⟩) len cap) (.int k i)).run Tryd.prog w = .ok (.pointer (some ⟨b, off + i.toNat * 1, none⟩)) w := r_index Tryd.underlying32 inf3 h0 h1
theorem r_ix_33 {w : World} {b off len cap : Nat} {k : IntKind} {i : Int} (h0 : 0 ≤ i) (h1 : i < len) : (Instr.indexAt 33 (.slice (some ⟨b, off, none⟩) len cap) (.int k i)).run Tryd.prog w = .ok (.pointer (some ⟨b, off + i.toNat * 4, none⟩)) w := r_index Tryd.underlying33 inf85 h0 h1
theorem r_ix_34 {w : World} {b off len cap : Nat} {k : IntKind} {i : Int} (h0 : 0 ≤ i) (h1 : i < len) : (Instr.indexAt 34 (.slice (some ⟨b, off, none⟩) len cap) (.int k i)).run Tryd.prog w = .ok (.pointer (some ⟨b, off + i.toNat * 4, none⟩)) w := r_index Tryd.underlying34 inf88 h0 h1
theorem r_ix_39 {w : World} {b off len cap : Nat} {k : IntKind} {i : Int} (h0 : 0 ≤ i) (h1 : i < len) : (Instr.indexAt 39 (.slice (some ⟨b, off, none⟩) len cap) (.int k i)).run Tryd.prog w = .ok (.pointer (some ⟨b, off + i.toNat * 1, none⟩)) w := r_index Tryd.underlying39 inf21 h0 h1
theorem r_ix_40 {w : World} {b off len cap : Nat} {k : IntKind} {i : Int} (h0 : 0 ≤ i) (h1 : i < len) : (Instr.indexAt 40 (.slice (some ⟨b, off, none⟩) len cap) (.int k i)).run Tryd.prog w = .ok (.pointer (some ⟨b, off + i.toNat * 1, none⟩)) w := r_index Tryd.underlying40 inf5 h0 h1
theorem r_ix_55 {w : World} {b off len cap : Nat} {k : IntKind} {i : Int} (h0 : 0 ≤ i) (h1 : i < len) : (Instr.indexAt 55 (.slice (some ⟨b, off, none⟩) len cap) (.int k i)).run Tryd.prog w = .ok (.pointer (some ⟨b, off + i.toNat * 4, none⟩)) w := r_index Tryd.underlying55 inf74 h0 h1
theorem r_ix_60 {w : World} {b off len cap : Nat} {k : IntKind} {i : Int} (h0 : 0 ≤ i) (h1 : i < len) : (Instr.indexAt 60 (.slice (some ⟨b, off, none⟩) len cap) (.int k i)).run Tryd.prog w = .ok (.pointer (some ⟨b, off + i.toNat * 5, none⟩)) w := r_index Tryd.underlying60 inf36 h0 h1
theorem r_ix_61 {w : World} {b off len cap : Nat} {k : IntKind} {i : Int} (h0 : 0 ≤ i) (h1 : i < len) : (Instr.indexAt 61 (.slice (some ⟨b, off, none⟩) len cap) (.int k i)).run Tryd.prog w = .ok (.pointer (some ⟨b, off + i.toNat * 1, none⟩)) w := r_index Tryd.underlying61 inf39 h0 h1
theorem r_ix_82 {w : World} {b off len cap : Nat} {k : IntKind} {i : Int} (h0 : 0 ≤ i) (h1 : i < len) : (Instr.indexAt 82 (.slice (some ⟨b, off, none⟩) len cap) (.int k i)).run Tryd.prog w = .ok (.pointer (some ⟨b, off + i.toNat * 4, none⟩)) w := r_index Tryd.underlying82 inf133 h0 h1
theorem r_ix_86 {w : World} {b off len cap : Nat} {k : IntKind} {i : Int} (h0 : 0 ≤ i) (h1 : i < len) : (Instr.indexAt 86 (.slice (some ⟨b, off, none⟩) len cap) (.int k i)).run Tryd.prog w = .ok (.pointer (some ⟨b, off + i.toNat * 3, none⟩)) w := r_index Tryd.underlying86 inf127 h0 h1
theorem r_la_105 {w : World} {b off : Nat} {cs : List Value} (hl : cs.length = 5) (h : ∀ j (_ : j < cs.length), w.cell? ⟨b, off + j, none⟩ = cs[j]?) : (Instr.loadAt 105 (.pointer (some ⟨b, off, none⟩))).run Tryd.prog w = .ok (.agg cs.toArray) w := r_loadAgg Tryd.underlying105 rfl inf105 hl h
theorem r_la_133 {w : World} {b off : Nat} {cs : List Value} (hl : cs.length = 4) (h : ∀ j (_ : j < cs.length), w.cell? ⟨b, off + j, none⟩ = cs[j]?) : (Instr.loadAt 133 (.pointer (some ⟨b, off, none⟩))).run Tryd.prog w = .ok (.agg cs.toArray) w := r_loadAgg Tryd.underlying133 rfl inf133 hl h
theorem r_la_36 {w : World} {b off : Nat} {cs : List Value} (hl : cs.length = 5) (h : ∀ j (_ : j < cs.length), w.cell? ⟨b, off + j, none⟩ = cs[j]?) : (Instr.loadAt 36 (.pointer (some ⟨b, off, none⟩))).run Tryd.prog w = .ok (.agg cs.toArray) w := r_loadAgg Tryd.underlying36 rfl inf36 hl h
theorem r_la_42 {w : World} {b off : Nat} {cs : List Value} (hl : cs.length = 7) (h : ∀ j (_ : j < cs.length), w.cell? ⟨b, off + j, none⟩ = cs[j]?) : (Instr.loadAt 42 (.pointer (some ⟨b, off, none⟩))).run Tryd.prog w = .ok (.agg cs.toArray) w := r_loadAgg Tryd.underlying42 rfl inf42 hl h
theorem r_la_74 {w : World} {b off : Nat} {cs : List Value} (hl : cs.length = 4) (h : ∀ j (_ : j < cs.length), w.cell? ⟨b, off + j, none⟩ = cs[j]?) : (Instr.loadAt 74 (.pointer (some ⟨b, off, none⟩))).run Tryd.prog w = .ok (.agg cs.toArray) w := r_loadAgg Tryd.underlying74 rfl inf74 hl h
theorem r_la_88 {w : World} {b off : Nat} {cs : List Value} (hl : cs.length = 4) (h : ∀ j (_ : j < cs.length), w.cell? ⟨b, off + j, none⟩ = cs[j]?) : (Instr.loadAt 88 (.pointer (some ⟨b, off, none⟩))).run Tryd.prog w = .ok (.agg cs.toArray) w := r_loadAgg Tryd.underlying88 rfl inf88 hl h
theorem r_la_95 {w : World} {b off : Nat} {cs : List Value} (hl : cs.length = 6) (h : ∀ j (_ : j < cs.length), w.cell? ⟨b, off + j, none⟩ = cs[j]?) : (Instr.loadAt 95 (.pointer (some ⟨b, off, none⟩))).run Tryd.prog w = .ok (.agg cs.toArray) w := r_loadAgg Tryd.underlying95 rfl inf95 hl h
theorem r_ld_114 {w : World} {a : Addr} {v : Value} (h : w.cell? a = some v) : (Instr.loadAt 114 (.pointer (some a))).run Tryd.prog w = .ok v w := r_load Tryd.underlying114 rfl h
theorem r_ld_21 {w : World} {a : Addr} {v : Value} (h : w.cell? a = some v) : (Instr.loadAt 21 (.pointer (some a))).run Tryd.prog w = .ok v w := r_load Tryd.underlying21 rfl h
theorem r_ld_23 {w : World} {a : Addr} {v : Value} (h : w.cell? a = some v) : (Instr.loadAt 23 (.pointer (some a))).run Tryd.prog w = .ok v w := r_load Tryd.underlying23 rfl h
theorem r_ld_3 {w : World} {a : Addr} {v : Value} (h : w.cell? a = some v) : (Instr.loadAt 3 (.pointer (some a))).run Tryd.prog w = .ok v w := r_load Tryd.underlying3 rfl h
theorem r_ld_32 {w : World} {a : Addr} {v : Value} (h : w.cell? a = some v) : (Instr.loadAt 32 (.pointer (some a))).run Tryd.prog w = .ok v w := r_load Tryd.underlying32 rfl h
theorem r_ld_33 {w : World} {a : Addr} {v : Value} (h : w.cell? a = some v) : (Instr.loadAt 33 (.pointer (some a))).run Tryd.prog w = .ok v w := r_load Tryd.underlying33 rfl h
theorem r_ld_34 {w : World} {a : Addr} {v : Value} (h : w.cell? a = some v) : (Instr.loadAt 34 (.pointer (some a))).run Tryd.prog w = .ok v w := r_load Tryd.underlying34 rfl h
theorem r_ld_39 {w : World} {a : Addr} {v : Value} (h : w.cell? a = some v) : (Instr.loadAt 39 (.pointer (some a))).run Tryd.prog w = .ok v w := r_load Tryd.underlying39 rfl h
theorem r_ld_4 {w : World} {a : Addr} {v : Value} (h : w.cell? a = some v) : (Instr.loadAt 4 (.pointer (some a))).run Tryd.prog w = .ok v w := r_load Tryd.underlying4 rfl h
theorem r_ld_40 {w : World} {a : Addr} {v : Value} (h : w.cell? a = some v) : (Instr.loadAt 40 (.pointer (some a))).run Tryd.prog w = .ok v w := r_load Tryd.underlying40 rfl h
theorem r_ld_5 {w : World} {a : Addr} {v : Value} (h : w.cell? a = some v) : (Instr.loadAt 5 (.pointer (some a))).run Tryd.prog w = .ok v w := r_load Tryd.underlying5 rfl h
theorem r_ld_50 {w : World} {a : Addr} {v : Value} (h : w.cell? a = some v) : (Instr.loadAt 50 (.pointer (some a))).run Tryd.prog w = .ok v w := r_load Tryd.underlying50 rfl h
theorem r_ld_55 {w : World} {a : Addr} {v : Value} (h : w.cell? a = some v) : (Instr.loadAt 55 (.pointer (some a))).run Tryd.prog w = .ok v w := r_load Tryd.underlying55 rfl h
theorem r_ld_59 {w : World} {a : Addr} {v : Value} (h : w.cell? a = some v) : (Instr.loadAt 59 (.pointer (some a))).run Tryd.prog w = .ok v w := r_load Tryd.underlying59 rfl h
theorem r_ld_60 {w : World} {a : Addr} {v : Value} (h : w.cell? a = some v) : (Instr.loadAt 60 (.pointer (some a))).run Tryd.prog w = .ok v w := r_load Tryd.underlying60 rfl h
theorem r_ld_61 {w : World} {a : Addr} {v : Value} (h : w.cell? a = some v) : (Instr.loadAt 61 (.pointer (some a))).run Tryd.prog w = .ok v w := r_load Tryd.underlying61 rfl h
theorem r_ld_76 {w : World} {a : Addr} {v : Value} (h : w.cell? a = some v) : (Instr.loadAt 76 (.pointer (some a))).run Tryd.prog w = .ok v w := r_load Tryd.underlying76 rfl h
theorem r_ld_86 {w : World} {a : Addr} {v : Value} (h : w.cell? a = some v) : (Instr.loadAt 86 (.pointer (some a))).run Tryd.prog w = .ok v w := r_load Tryd.underlying86 rfl h
theorem r_neqb_4 {w : World} {x y : Operand} {a b : Bool} : (do eqGuard .neq 4 x y (.bool a) (.bool b); binOp .neq 4 (.bool a) (.bool b)).run Tryd.prog w = .ok (.bool (a != b)) w := r_neqBool Tryd.underlying4
theorem r_sn_105 {w : World} {t' : TypeId} {old : Array Value} {v : Value} (hn : v.cells.size = 5) (ho : old.size = 5) (h1 : ∀ u ∈ v.cells.toList, oneC u = true) : (Instr.storeAt 105 (.pointer (some ⟨w.heap.size, 0, none⟩)) v).run Tryd.prog (w.alloc (.cells old t')) = .ok () (w.alloc (.cells v.cells t')) := r_storeNew inf105 hn ho h1
theorem r_sn_36 {w : World} {t' : TypeId} {old : Array Value} {v : Value} (hn : v.cells.size = 5) (ho : old.size = 5) (h1 : ∀ u ∈ v.cells.toList, oneC u = true) : (Instr.storeAt 36 (.pointer (some ⟨w.heap.size, 0, none⟩)) v).run Tryd.prog (w.alloc (.cells old t')) = .ok () (w.alloc (.cells v.cells t')) := r_storeNew inf36 hn ho h1
theorem r_sn_42 {w : World} {t' : TypeId} {old : Array Value} {v : Value} (hn : v.cells.size = 7) (ho : old.size = 7) (h1 : ∀ u ∈ v.cells.toList, oneC u = true) : (Instr.storeAt 42 (.pointer (some ⟨w.heap.size, 0, none⟩)) v).run Tryd.prog (w.alloc (.cells old t')) = .ok () (w.alloc (.cells v.cells t')) := r_storeNew inf42 hn ho h1
theorem r_sn_95 {w : World} {t' : TypeId} {old : Array Value} {v : Value} (hn : v.cells.size = 6) (ho : old.size = 6) (h1 : ∀ u ∈ v.cells.toList, oneC u = true) : (Instr.storeAt 95 (.pointer (some ⟨w.heap.size, 0, none⟩)) v).run Tryd.prog (w.alloc (.cells old t')) = .ok () (w.alloc (.cells v.cells t')) := r_storeNew inf95 hn ho h1
theorem U_st_114 {w : World} {b off : Nat} {v : Value} {K : Value → World → Prop} (hv : oneC v = true) (h : (w.cell? ⟨b, off, none⟩).isSome = true) (hf : w.frozen? ⟨b, off, none⟩ = false) : U Tryd.prog (Instr.storeAt 114 (.pointer (some ⟨b, off, none⟩)) v) w K ↔ K undef (w.setCell ⟨b, off, none⟩ v) := V_store inf114 hv h hf
theorem U_st_21 {w : World} {b off : Nat} {v : Value} {K : Value → World → Prop} (hv : oneC v = true) (h : (w.cell? ⟨b, off, none⟩).isSome = true) (hf : w.frozen? ⟨b, off, none⟩ = false) : U Tryd.prog (Instr.storeAt 21 (.pointer (some ⟨b, off, none⟩)) v) w K ↔ K undef (w.setCell ⟨b, off, none⟩ v) := V_store inf21 hv h hf
theorem U_st_3 {w : World} {b off : Nat} {v : Value} {K : Value → World → Prop} (hv : oneC v = true) (h : (w.cell? ⟨b, off, none⟩).isSome = true) (hf : w.frozen? ⟨b, off, none⟩ = false) : U Tryd.prog (Instr.storeAt 3 (.pointer (some ⟨b, off, none⟩)) v) w K ↔ K undef (w.setCell ⟨b, off, none⟩ v) := V_store inf3 hv h hf
theorem U_st_32 {w : World} {b off : Nat} {v : Value} {K : Value → World → Prop} (hv : oneC v = true) (h : (w.cell? ⟨b, off, none⟩).isSome = true) (hf : w.frozen? ⟨b, off, none⟩ = false) : U Tryd.prog (Instr.storeAt 32 (.pointer (some ⟨b, off, none⟩)) v) w K ↔ K undef (w.setCell ⟨b, off, none⟩ v) := V_store inf32 hv h hf
theorem U_st_33 {w : World} {b off : Nat} {v : Value} {K : Value → World → Prop} (hv : oneC v = true) (h : (w.cell? ⟨b, off, none⟩).isSome = true) (hf : w.frozen? ⟨b, off, none⟩ = false) : U Tryd.prog (Instr.storeAt 33 (.pointer (some ⟨b, off, none⟩)) v) w K ↔ K undef (w.setCell ⟨b, off, none⟩ v) := V_store inf33 hv h hf
theorem U_st_34 {w : World} {b off : Nat} {v : Value} {K : Value → World → Prop} (hv : oneC v = true) (h : (w.cell? ⟨b, off, none⟩).isSome = true) (hf : w.frozen? ⟨b, off, none⟩ = false) : U Tryd.prog (Instr.storeAt 34 (.pointer (some ⟨b, off, none⟩)) v) w K ↔ K undef (w.setCell ⟨b, off, none⟩ v) := V_store inf34 hv h hf
theorem U_st_40 {w : World} {b off : Nat} {v : Value} {K : Value → World → Prop} (hv : oneC v = true) (h : (w.cell? ⟨b, off, none⟩).isSome = true) (hf : w.frozen? ⟨b, off, none⟩ = false) : U Tryd.prog (Instr.storeAt 40 (.pointer (some ⟨b, off, none⟩)) v) w K ↔ K undef (w.setCell ⟨b, off, none⟩ v) := V_store inf40 hv h hf
theorem U_st_5 {w : World} {b off : Nat} {v : Value} {K : Value → World → Prop} (hv : oneC v = true) (h : (w.cell? ⟨b, off, none⟩).isSome = true) (hf : w.frozen? ⟨b, off, none⟩ = false) : U Tryd.prog (Instr.storeAt 5 (.pointer (some ⟨b, off, none⟩)) v) w K ↔ K undef (w.setCell ⟨b, off, none⟩ v) := V_store inf5 hv h hf
theorem U_st_55 {w : World} {b off : Nat} {v : Value} {K : Value → World → Prop} (hv : oneC v = true) (h : (w.cell? ⟨b, off, none⟩).isSome = true) (hf : w.frozen? ⟨b, off, none⟩ = false) : U Tryd.prog (Instr.storeAt 55 (.pointer (some ⟨b, off, none⟩)) v) w K ↔ K undef (w.setCell ⟨b, off, none⟩ v) := V_store inf55 hv h hf
theorem U_st_60 {w : World} {b off : Nat} {v : Value} {K : Value → World → Prop} (hv : oneC v = true) (h : (w.cell? ⟨b, off, none⟩).isSome = true) (hf : w.frozen? ⟨b, off, none⟩ = false) : U Tryd.prog (Instr.storeAt 60 (.pointer (some ⟨b, off, none⟩)) v) w K ↔ K undef (w.setCell ⟨b, off, none⟩ v) := V_store inf60 hv h hf
theorem U_st_61 {w : World} {b off : Nat} {v : Value} {K : Value → World → Prop} (hv : oneC v = true) (h : (w.cell? ⟨b, off, none⟩).isSome = true) (hf : w.frozen? ⟨b, off, none⟩ = false) : U Tryd.prog (Instr.storeAt 61 (.pointer (some ⟨b, off, none⟩)) v) w K ↔ K undef (w.setCell ⟨b, off, none⟩ v) := V_store inf61 hv h hf
theorem U_st_86 {w : World} {b off : Nat} {v : Value} {K : Value → World → Prop} (hv : oneC v = true) (h : (w.cell? ⟨b, off, none⟩).isSome = true) (hf : w.frozen? ⟨b, off, none⟩ = false) : U Tryd.prog (Instr.storeAt 86 (.pointer (some ⟨b, off, none⟩)) v) w K ↔ K undef (w.setCell ⟨b, off, none⟩ v) := V_store inf86 hv h hf
theorem V_al_105 {w : World} {K : Value → World → Prop} : V Tryd.prog (Instr.alloc 105 true (.tuple #[])) w K ↔ K (.pointer (some ⟨w.heap.size, 0, none⟩)) (w.alloc (.cells (Value.cells (.agg #[(.int .i64 0), (.int .i64 0), (.int .i64 0), (.bool false), (.slice none 0 0)])) 105)) := V.iff (r_alloc inf105)
theorem V_al_29 {w : World} {K : Value → World → Prop} : V Tryd.prog (Instr.alloc 29 true (.tuple #[])) w K ↔ K (.pointer (some ⟨w.heap.size, 0, none⟩)) (w.alloc (.cells (Value.cells (.agg #[(.int .i32 0), (.int .i32 0), (.int .i32 0), (.int .i32 0), (.int .i32 0), (.int .i32 0), (.int .i32 0), (.int .i32 0), (.int .i32 0), (.int .i32 0), (.int .i32 0), (.int .i32 0)])) 29)) := V.iff (r_alloc inf29)
theorem V_al_36 {w : World} {K : Value → World → Prop} : V Tryd.prog (Instr.alloc 36 true (.tuple #[])) w K ↔ K (.pointer (some ⟨w.heap.size, 0, none⟩)) (w.alloc (.cells (Value.cells (.agg #[(.string ByteArray.empty), (.slice none 0 0), (.slice none 0 0), (.slice none 0 0), (.slice none 0 0)])) 36)) := V.iff (r_alloc inf36)
theorem V_al_42 {w : World} {K : Value → World → Prop} : V Tryd.prog (Instr.alloc 42 true (.tuple #[])) w K ↔ K (.pointer (some ⟨w.heap.size, 0, none⟩)) (w.alloc (.cells (Value.cells (.agg #[(.int .i64 0), (.int .i64 0), (.int .i64 0), (.int .i64 0), (.slice none 0 0), (.slice none 0 0), (.slice none 0 0)])) 42)) := V.iff (r_alloc inf42)
theorem V_al_95 {w : World} {K : Value → World → Prop} : V Tryd.prog (Instr.alloc 95 true (.tuple #[])) w K ↔ K (.pointer (some ⟨w.heap.size, 0, none⟩)) (w.alloc (.cells (Value.cells (.agg #[(.pointer none), (.pointer none), (.int .i64 0), (.int .i64 0), (.int .i64 0), (.slice none 0 0)])) 95)) := V.iff (r_alloc inf95)
theorem V_as_105 {w : World} {v : Value} {K : Value → World → Prop} (hn : v.cells.size = 5) (h1 : ∀ u ∈ v.cells.toList, oneC u = true) : V Tryd.prog (Instr.alloc 105 true (.tuple #[])) w (fun p w1 => U Tryd.prog (Instr.storeAt 105 p v) w1 fun _ w2 => K p w2) ↔ K (.pointer (some ⟨w.heap.size, 0, none⟩)) (w.alloc (.cells v.cells 105)) := V_allocStore inf105 (by decide) hn h1
theorem V_as_29 {w : World} {v : Value} {K : Value → World → Prop} (hn : v.cells.size = 12) (h1 : ∀ u ∈ v.cells.toList, oneC u = true) : V Tryd.prog (Instr.alloc 29 true (.tuple #[])) w (fun p w1 => U Tryd.prog (Instr.storeAt 29 p v) w1 fun _ w2 => K p w2) ↔ K (.pointer (some ⟨w.heap.size, 0, none⟩)) (w.alloc (.cells v.cells 29)) := V_allocStore inf29 (by decide) hn h1
theorem V_as_36 {w : World} {v : Value} {K : Value → World → Prop} (hn : v.cells.size = 5) (h1 : ∀ u ∈ v.cells.toList, oneC u = true) : V Tryd.prog (Instr.alloc 36 true (.tuple #[])) w (fun p w1 => U Tryd.prog (Instr.storeAt 36 p v) w1 fun _ w2 => K p w2) ↔ K (.pointer (some ⟨w.heap.size, 0, none⟩)) (w.alloc (.cells v.cells 36)) := V_allocStore inf36 (by decide) hn h1
theorem V_as_42 {w : World} {v : Value} {K : Value → World → Prop} (hn : v.cells.size = 7) (h1 : ∀ u ∈ v.cells.toList, oneC u = true) : V Tryd.prog (Instr.alloc 42 true (.tuple #[])) w (fun p w1 => U Tryd.prog (Instr.storeAt 42 p v) w1 fun _ w2 => K p w2) ↔ K (.pointer (some ⟨w.heap.size, 0, none⟩)) (w.alloc (.cells v.cells 42)) := V_allocStore inf42 (by decide) hn h1
theorem V_as_95 {w : World} {v : Value} {K : Value → World → Prop} (hn : v.cells.size = 6) (h1 : ∀ u ∈ v.cells.toList, oneC u = true) : V Tryd.prog (Instr.alloc 95 true (.tuple #[])) w (fun p w1 => U Tryd.prog (Instr.storeAt 95 p v) w1 fun _ w2 => K p w2) ↔ K (.pointer (some ⟨w.heap.size, 0, none⟩)) (w.alloc (.cells v.cells 95)) := V_allocStore inf95 (by decide) hn h1
theorem V_bs_32_0 {w : World} {K : Value → World → Prop} : V Tryd.prog (Instr.buildSlice 32 0 #[]) w K ↔ K (.slice (some ⟨w.heap.size, 0, none⟩) 0 0) (w.alloc (.cells #[] 3)) := V.iff (r_buildSlice Tryd.underlying32 inf3 rfl [] (by simp) (by simp))
theorem V_bs_32_1 {w : World} {v0 : Value} {K : Value → World → Prop} (h0 : oneC v0 = true) : V Tryd.prog (Instr.buildSlice 32 1 #[(0, v0)]) w K ↔ K (.slice (some ⟨w.heap.size, 0, none⟩) 1 1) (w.alloc (.cells #[v0] 3)) := V.iff (r_buildSlice Tryd.underlying32 inf3 rfl [v0] (by simp) (by simp [h0]))
theorem V_bs_32_2 {w : World} {v0 v1 : Value} {K : Value → World → Prop} (h0 : oneC v0 = true) (h1 : oneC v1 = true) : V Tryd.prog (Instr.buildSlice 32 2 #[(0, v0), (1, v1)]) w K ↔ K (.slice (some ⟨w.heap.size, 0, none⟩) 2 2) (w.alloc (.cells #[v0, v1] 3)) := V.iff (r_buildSlice Tryd.underlying32 inf3 rfl [v0, v1] (by simp) (by simp [h0, h1]))
theorem V_bs_32_3 {w : World} {v0 v1 v2 : Value} {K : Value → World → Prop} (h0 : oneC v0 = true) (h1 : oneC v1 = true) (h2 : oneC v2 = true) : V Tryd.prog (Instr.buildSlice 32 3 #[(0, v0), (1, v1), (2, v2)]) w K ↔ K (.slice (some ⟨w.heap.size, 0, none⟩) 3 3) (w.alloc (.cells #[v0, v1, v2] 3)) := V.iff (r_buildSlice Tryd.underlying32 inf3 rfl [v0, v1, v2] (by simp) (by simp [h0, h1, h2]))
theorem V_bs_32_4 {w : World} {v0 v1 v2 v3 : Value} {K : Value → World → Prop} (h0 : oneC v0 = true) (h1 : oneC v1 = true) (h2 : oneC v2 = true) (h3 : oneC v3 = true) : V Tryd.prog (Instr.buildSlice 32 4 #[(0, v0), (1, v1), (2, v2), (3, v3)]) w K ↔ K (.slice (some ⟨w.heap.size, 0, none⟩) 4 4) (w.alloc (.cells #[v0, v1, v2, v3] 3)) := V.iff (r_buildSlice Tryd.underlying32 inf3 rfl [v0, v1, v2, v3] (by simp) (by simp [h0, h1, h2, h3]))
theorem V_bs_39_1 {w : World} {v0 : Value} {K : Value → World → Prop} (h0 : oneC v0 = true) : V Tryd.prog (Instr.buildSlice 39 1 #[(0, v0)]) w K ↔ K (.slice (some ⟨w.heap.size, 0, none⟩) 1 1) (w.alloc (.cells #[v0] 21)) := V.iff (r_buildSlice Tryd.underlying39 inf21 rfl [v0] (by simp) (by simp [h0]))
theorem V_bs_39_2 {w : World} {v0 v1 : Value} {K : Value → World → Prop} (h0 : oneC v0 = true) (h1 : oneC v1 = true) : V Tryd.prog (Instr.buildSlice 39 2 #[(0, v0), (1, v1)]) w K ↔ K (.slice (some ⟨w.heap.size, 0, none⟩) 2 2) (w.alloc (.cells #[v0, v1] 21)) := V.iff (r_buildSlice Tryd.underlying39 inf21 rfl [v0, v1] (by simp) (by simp [h0, h1]))
theorem V_bs_40_0 {w : World} {K : Value → World → Prop} : V Tryd.prog (Instr.buildSlice 40 0 #[]) w K ↔ K (.slice (some ⟨w.heap.size, 0, none⟩) 0 0) (w.alloc (.cells #[] 5)) := V.iff (r_buildSlice Tryd.underlying40 inf5 rfl [] (by simp) (by simp))
theorem V_bs_40_1 {w : World} {v0 : Value} {K : Value → World → Prop} (h0 : oneC v0 = true) : V Tryd.prog (Instr.buildSlice 40 1 #[(0, v0)]) w K ↔ K (.slice (some ⟨w.heap.size, 0, none⟩) 1 1) (w.alloc (.cells #[v0] 5)) := V.iff (r_buildSlice Tryd.underlying40 inf5 rfl [v0] (by simp) (by simp [h0]))
theorem V_bs_61_0 {w : World} {K : Value → World → Prop} : V Tryd.prog (Instr.buildSlice 61 0 #[]) w K ↔ K (.slice (some ⟨w.heap.size, 0, none⟩) 0 0) (w.alloc (.cells #[] 39)) := V.iff (r_buildSlice Tryd.underlying61 inf39 rfl [] (by simp) (by simp))
theorem V_bs_61_1 {w : World} {v0 : Value} {K : Value → World → Prop} (h0 : oneC v0 = true) : V Tryd.prog (Instr.buildSlice 61 1 #[(0, v0)]) w K ↔ K (.slice (some ⟨w.heap.size, 0, none⟩) 1 1) (w.alloc (.cells #[v0] 39)) := V.iff (r_buildSlice Tryd.underlying61 inf39 rfl [v0] (by simp) (by simp [h0]))
theorem V_bx_105 {w : World} {v : Value} {K : Value → World → Prop} : V Tryd.prog (Instr.box 105 v) w K ↔ K (.pointer (some ⟨w.heap.size, 0, none⟩)) (w.alloc (.cells v.cells 105)) := V.iff r_box
theorem V_bx_116 {w : World} {v : Value} {K : Value → World → Prop} : V Tryd.prog (Instr.box 116 v) w K ↔ K (.pointer (some ⟨w.heap.size, 0, none⟩)) (w.alloc (.cells v.cells 116)) := V.iff r_box
theorem V_bx_120 {w : World} {v : Value} {K : Value → World → Prop} : V Tryd.prog (Instr.box 120 v) w K ↔ K (.pointer (some ⟨w.heap.size, 0, none⟩)) (w.alloc (.cells v.cells 120)) := V.iff r_box
theorem V_bx_131 {w : World} {v : Value} {K : Value → World → Prop} : V Tryd.prog (Instr.box 131 v) w K ↔ K (.pointer (some ⟨w.heap.size, 0, none⟩)) (w.alloc (.cells v.cells 131)) := V.iff r_box
theorem V_bx_133 {w : World} {v : Value} {K : Value → World → Prop} : V Tryd.prog (Instr.box 133 v) w K ↔ K (.pointer (some ⟨w.heap.size, 0, none⟩)) (w.alloc (.cells v.cells 133)) := V.iff r_box
theorem V_bx_36 {w : World} {v : Value} {K : Value → World → Prop} : V Tryd.prog (Instr.box 36 v) w K ↔ K (.pointer (some ⟨w.heap.size, 0, none⟩)) (w.alloc (.cells v.cells 36)) := V.iff r_box
theorem V_bx_57 {w : World} {v : Value} {K : Value → World → Prop} : V Tryd.prog (Instr.box 57 v) w K ↔ K (.pointer (some ⟨w.heap.size, 0, none⟩)) (w.alloc (.cells v.cells 57)) := V.iff r_box
theorem V_bx_63 {w : World} {v : Value} {K : Value → World → Prop} : V Tryd.prog (Instr.box 63 v) w K ↔ K (.pointer (some ⟨w.heap.size, 0, none⟩)) (w.alloc (.cells v.cells 63)) := V.iff r_box
theorem V_bx_74 {w : World} {v : Value} {K : Value → World → Prop} : V Tryd.prog (Instr.box 74 v) w K ↔ K (.pointer (some ⟨w.heap.size, 0, none⟩)) (w.alloc (.cells v.cells 74)) := V.iff r_box
theorem V_bx_80 {w : World} {v : Value} {K : Value → World → Prop} : V Tryd.prog (Instr.box 80 v) w K ↔ K (.pointer (some ⟨w.heap.size, 0, none⟩)) (w.alloc (.cells v.cells 80)) := V.iff r_box
theorem V_bx_88 {w : World} {v : Value} {K : Value → World → Prop} : V Tryd.prog (Instr.box 88 v) w K ↔ K (.pointer (some ⟨w.heap.size, 0, none⟩)) (w.alloc (.cells v.cells 88)) := V.iff r_box
theorem V_bx_91 {w : World} {v : Value} {K : Value → World → Prop} : V Tryd.prog (Instr.box 91 v) w K ↔ K (.pointer (some ⟨w.heap.size, 0, none⟩)) (w.alloc (.cells v.cells 91)) := V.iff r_box
theorem V_bx_95 {w : World} {v : Value} {K : Value → World → Prop} : V Tryd.prog (Instr.box 95 v) w K ↔ K (.pointer (some ⟨w.heap.size, 0, none⟩)) (w.alloc (.cells v.cells 95)) := V.iff r_box
theorem V_cv_149_21 {w : World} {k : IntKind} {n : Int} {K : Value → World → Prop} : V Tryd.prog (convert 149 21 (.int k n)) w K ↔ K (.int .i32 (IntKind.wrap .i32 n)) w := V.iff (r_convI Tryd.underlying149 Tryd.underlying21)
theorem V_cv_21_148 {w : World} {k : IntKind} {n : Int} {K : Value → World → Prop} : V Tryd.prog (convert 21 148 (.int k n)) w K ↔ K (.int .u64 (IntKind.wrap .u64 n)) w := V.iff (r_convI Tryd.underlying21 Tryd.underlying148)
theorem V_cv_21_149 {w : World} {k : IntKind} {n : Int} {K : Value → World → Prop} : V Tryd.prog (convert 21 149 (.int k n)) w K ↔ K (.int .u32 (IntKind.wrap .u32 n)) w := V.iff (r_convI Tryd.underlying21 Tryd.underlying149)
theorem V_cv_21_2 {w : World} {k : IntKind} {n : Int} {K : Value → World → Prop} : V Tryd.prog (convert 21 2 (.int k n)) w K ↔ K (.int .i64 (IntKind.wrap .i64 n)) w := V.iff (r_convI Tryd.underlying21 Tryd.underlying2)
theorem V_cv_21_3 {w : World} {k : IntKind} {n : Int} {K : Value → World → Prop} : V Tryd.prog (convert 21 3 (.int k n)) w K ↔ K (.int .i64 (IntKind.wrap .i64 n)) w := V.iff (r_convI Tryd.underlying21 Tryd.underlying3)
theorem V_cv_2_21 {w : World} {k : IntKind} {n : Int} {K : Value → World → Prop} : V Tryd.prog (convert 2 21 (.int k n)) w K ↔ K (.int .i32 (IntKind.wrap .i32 n)) w := V.iff (r_convI Tryd.underlying2 Tryd.underlying21)
theorem V_cv_3_21 {w : World} {k : IntKind} {n : Int} {K : Value → World → Prop} : V Tryd.prog (convert 3 21 (.int k n)) w K ↔ K (.int .i32 (IntKind.wrap .i32 n)) w := V.iff (r_convI Tryd.underlying3 Tryd.underlying21)
theorem V_cv_3_5 {w : World} {k : IntKind} {n : Int} {K : Value → World → Prop} : V Tryd.prog (convert 3 5 (.int k n)) w K ↔ K (.int .u8 (IntKind.wrap .u8 n)) w := V.iff (r_convI Tryd.underlying3 Tryd.underlying5)
theorem V_cv_5_21 {w : World} {k : IntKind} {n : Int} {K : Value → World → Prop} : V Tryd.prog (convert 5 21 (.int k n)) w K ↔ K (.int .i32 (IntKind.wrap .i32 n)) w := V.iff (r_convI Tryd.underlying5 Tryd.underlying21)
theorem V_eqb_4 {w : World} {x y : Operand} {a b : Bool} {K : Value → World → Prop} : V Tryd.prog (do eqGuard .eql 4 x y (.bool a) (.bool b); binOp .eql 4 (.bool a) (.bool b)) w K ↔ K (.bool (a == b)) w := V.iff (r_eqBool Tryd.underlying4)
theorem V_eqns_32 {w : World} {x y : Operand} {a : Option Addr} {n c : Nat} {K : Value → World → Prop} : V Tryd.prog (do eqGuard .eql 32 x y (.slice a n c) (.slice none 0 0); binOp .eql 32 (.slice a n c) (.slice none 0 0)) w K ↔ K (.bool a.isNone) w := V.iff (r_eqNilSlice Tryd.underlying32)
theorem V_eqns_33 {w : World} {x y : Operand} {a : Option Addr} {n c : Nat} {K : Value → World → Prop} : V Tryd.prog (do eqGuard .eql 33 x y (.slice a n c) (.slice none 0 0); binOp .eql 33 (.slice a n c) (.slice none 0 0)) w K ↔ K (.bool a.isNone) w := V.iff (r_eqNilSlice Tryd.underlying33)
theorem V_eqns_34 {w : World} {x y : Operand} {a : Option Addr} {n c : Nat} {K : Value → World → Prop} : V Tryd.prog (do eqGuard .eql 34 x y (.slice a n c) (.slice none 0 0); binOp .eql 34 (.slice a n c) (.slice none 0 0)) w K ↔ K (.bool a.isNone) w := V.iff (r_eqNilSlice Tryd.underlying34)
theorem V_eqns_40 {w : World} {x y : Operand} {a : Option Addr} {n c : Nat} {K : Value → World → Prop} : V Tryd.prog (do eqGuard .eql 40 x y (.slice a n c) (.slice none 0 0); binOp .eql 40 (.slice a n c) (.slice none 0 0)) w K ↔ K (.bool a.isNone) w := V.iff (r_eqNilSlice Tryd.underlying40)
theorem V_eqns_55 {w : World} {x y : Operand} {a : Option Addr} {n c : Nat} {K : Value → World → Prop} : V Tryd.prog (do eqGuard .eql 55 x y (.slice a n c) (.slice none 0 0); binOp .eql 55 (.slice a n c) (.slice none 0 0)) w K ↔ K (.bool a.isNone) w := V.iff (r_eqNilSlice Tryd.underlying55)
theorem V_eqns_86 {w : World} {x y : Operand} {a : Option Addr} {n c : Nat} {K : Value → World → Prop} : V Tryd.prog (do eqGuard .eql 86 x y (.slice a n c) (.slice none 0 0); binOp .eql 86 (.slice a n c) (.slice none 0 0)) w K ↔ K (.bool a.isNone) w := V.iff (r_eqNilSlice Tryd.underlying86)
theorem V_fd_105_0 {w : World} {b off : Nat} {K : Value → World → Prop} : V Tryd.prog (Instr.fieldAt 105 (.pointer (some ⟨b, off, none⟩)) 0) w K ↔ K (.pointer (some ⟨b, off + 0, none⟩)) w := V.iff (r_fd_105_0)
theorem V_fd_105_1 {w : World} {b off : Nat} {K : Value → World → Prop} : V Tryd.prog (Instr.fieldAt 105 (.pointer (some ⟨b, off, none⟩)) 1) w K ↔ K (.pointer (some ⟨b, off + 1, none⟩)) w := V.iff (r_fd_105_1)
theorem V_fd_105_2 {w : World} {b off : Nat} {K : Value → World → Prop} : V Tryd.prog (Instr.fieldAt 105 (.pointer (some ⟨b, off, none⟩)) 2) w K ↔ K (.pointer (some ⟨b, off + 2, none⟩)) w := V.iff (r_fd_105_2)
theorem V_fd_105_3 {w : World} {b off : Nat} {K : Value → World → Prop} : V Tryd.prog (Instr.fieldAt 105 (.pointer (some ⟨b, off, none⟩)) 3) w K ↔ K (.pointer (some ⟨b, off + 3, none⟩)) w := V.iff (r_fd_105_3)
theorem V_fd_105_4 {w : World} {b off : Nat} {K : Value → World → Prop} : V Tryd.prog (Instr.fieldAt 105 (.pointer (some ⟨b, off, none⟩)) 4) w K ↔ K (.pointer (some ⟨b, off + 4, none⟩)) w := V.iff (r_fd_105_4)
theorem V_fd_116_0 {w : World} {b off : Nat} {K : Value → World → Prop} : V Tryd.prog (Instr.fieldAt 116 (.pointer (some ⟨b, off, none⟩)) 0) w K ↔ K (.pointer (some ⟨b, off + 0, none⟩)) w := V.iff (r_fd_116_0)
theorem V_fd_116_1 {w : World} {b off : Nat} {K : Value → World → Prop} : V Tryd.prog (Instr.fieldAt 116 (.pointer (some ⟨b, off, none⟩)) 1) w K ↔ K (.pointer (some ⟨b, off + 1, none⟩)) w := V.iff (r_fd_116_1)
theorem V_fd_120_0 {w : World} {b off : Nat} {K : Value → World → Prop} : V Tryd.prog (Instr.fieldAt 120 (.pointer (some ⟨b, off, none⟩)) 0) w K ↔ K (.pointer (some ⟨b, off + 0, none⟩)) w := V.iff (r_fd_120_0)
theorem V_fd_120_1 {w : World} {b off : Nat} {K : Value → World → Prop} : V Tryd.prog (Instr.fieldAt 120 (.pointer (some ⟨b, off, none⟩)) 1) w K ↔ K (.pointer (some ⟨b, off + 1, none⟩)) w := V.iff (r_fd_120_1)
theorem V_fd_127_0 {w : World} {b off : Nat} {K : Value → World → Prop} : V Tryd.prog (Instr.fieldAt 127 (.pointer (some ⟨b, off, none⟩)) 0) w K ↔ K (.pointer (some ⟨b, off + 0, none⟩)) w := V.iff (r_fd_127_0)
theorem V_fd_127_1 {w : World} {b off : Nat} {K : Value → World → Prop} : V Tryd.prog (Instr.fieldAt 127 (.pointer (some ⟨b, off, none⟩)) 1) w K ↔ K (.pointer (some ⟨b, off + 1, none⟩)) w := V.iff (r_fd_127_1)
theorem V_fd_131_0 {w : World} {b off : Nat} {K : Value → World → Prop} : V Tryd.prog (Instr.fieldAt 131 (.pointer (some ⟨b, off, none⟩)) 0) w K ↔ K (.pointer (some ⟨b, off + 0, none⟩)) w := V.iff (r_fd_131_0)
theorem V_fd_131_1 {w : World} {b off : Nat} {K : Value → World → Prop} : V Tryd.prog (Instr.fieldAt 131 (.pointer (some ⟨b, off, none⟩)) 1) w K ↔ K (.pointer (some ⟨b, off + 1, none⟩)) w := V.iff (r_fd_131_1)
theorem V_fd_131_2 {w : World} {b off : Nat} {K : Value → World → Prop} : V Tryd.prog (Instr.fieldAt 131 (.pointer (some ⟨b, off, none⟩)) 2) w K ↔ K (.pointer (some ⟨b, off + 2, none⟩)) w := V.iff (r_fd_131_2)
theorem V_fd_131_3 {w : World} {b off : Nat} {K : Value → World → Prop} : V Tryd.prog (Instr.fieldAt 131 (.pointer (some ⟨b, off, none⟩)) 3) w K ↔ K (.pointer (some ⟨b, off + 3, none⟩)) w := V.iff (r_fd_131_3)
theorem V_fd_131_4 {w : World} {b off : Nat} {K : Value → World → Prop} : V Tryd.prog (Instr.fieldAt 131 (.pointer (some ⟨b, off, none⟩)) 4) w K ↔ K (.pointer (some ⟨b, off + 4, none⟩)) w := V.iff (r_fd_131_4)
theorem V_fd_133_0 {w : World} {b off : Nat} {K : Value → World → Prop} : V Tryd.prog (Instr.fieldAt 133 (.pointer (some ⟨b, off, none⟩)) 0) w K ↔ K (.pointer (some ⟨b, off + 0, none⟩)) w := V.iff (r_fd_133_0)
theorem V_fd_133_1 {w : World} {b off : Nat} {K : Value → World → Prop} : V Tryd.prog (Instr.fieldAt 133 (.pointer (some ⟨b, off, none⟩)) 1) w K ↔ K (.pointer (some ⟨b, off + 1, none⟩)) w := V.iff (r_fd_133_1)
theorem V_fd_133_2 {w : World} {b off : Nat} {K : Value → World → Prop} : V Tryd.prog (Instr.fieldAt 133 (.pointer (some ⟨b, off, none⟩)) 2) w K ↔ K (.pointer (some ⟨b, off + 2, none⟩)) w := V.iff (r_fd_133_2)
theorem V_fd_133_3 {w : World} {b off : Nat} {K : Value → World → Prop} : V Tryd.prog (Instr.fieldAt 133 (.pointer (some ⟨b, off, none⟩)) 3) w K ↔ K (.pointer (some ⟨b, off + 3, none⟩)) w := V.iff (r_fd_133_3)
theorem V_fd_36_1 {w : World} {b off : Nat} {K : Value → World → Prop} : V Tryd.prog (Instr.fieldAt 36 (.pointer (some ⟨b, off, none⟩)) 1) w K ↔ K (.pointer (some ⟨b, off + 1, none⟩)) w := V.iff (r_fd_36_1)
theorem V_fd_36_2 {w : World} {b off : Nat} {K : Value → World → Prop} : V Tryd.prog (Instr.fieldAt 36 (.pointer (some ⟨b, off, none⟩)) 2) w K ↔ K (.pointer (some ⟨b, off + 2, none⟩)) w := V.iff (r_fd_36_2)
theorem V_fd_36_3 {w : World} {b off : Nat} {K : Value → World → Prop} : V Tryd.prog (Instr.fieldAt 36 (.pointer (some ⟨b, off, none⟩)) 3) w K ↔ K (.pointer (some ⟨b, off + 3, none⟩)) w := V.iff (r_fd_36_3)
theorem V_fd_36_4 {w : World} {b off : Nat} {K : Value → World → Prop} : V Tryd.prog (Instr.fieldAt 36 (.pointer (some ⟨b, off, none⟩)) 4) w K ↔ K (.pointer (some ⟨b, off + 4, none⟩)) w := V.iff (r_fd_36_4)
theorem V_fd_42_0 {w : World} {b off : Nat} {K : Value → World → Prop} : V Tryd.prog (Instr.fieldAt 42 (.pointer (some ⟨b, off, none⟩)) 0) w K ↔ K (.pointer (some ⟨b, off + 0, none⟩)) w := V.iff (r_fd_42_0)
theorem V_fd_42_1 {w : World} {b off : Nat} {K : Value → World → Prop} : V Tryd.prog (Instr.fieldAt 42 (.pointer (some ⟨b, off, none⟩)) 1) w K ↔ K (.pointer (some ⟨b, off + 1, none⟩)) w := V.iff (r_fd_42_1)
theorem V_fd_42_2 {w : World} {b off : Nat} {K : Value → World → Prop} : V Tryd.prog (Instr.fieldAt 42 (.pointer (some ⟨b, off, none⟩)) 2) w K ↔ K (.pointer (some ⟨b, off + 2, none⟩)) w := V.iff (r_fd_42_2)
theorem V_fd_42_3 {w : World} {b off : Nat} {K : Value → World → Prop} : V Tryd.prog (Instr.fieldAt 42 (.pointer (some ⟨b, off, none⟩)) 3) w K ↔ K (.pointer (some ⟨b, off + 3, none⟩)) w := V.iff (r_fd_42_3)
theorem V_fd_42_4 {w : World} {b off : Nat} {K : Value → World → Prop} : V Tryd.prog (Instr.fieldAt 42 (.pointer (some ⟨b, off, none⟩)) 4) w K ↔ K (.pointer (some ⟨b, off + 4, none⟩)) w := V.iff (r_fd_42_4)
theorem V_fd_42_5 {w : World} {b off : Nat} {K : Value → World → Prop} : V Tryd.prog (Instr.fieldAt 42 (.pointer (some ⟨b, off, none⟩)) 5) w K ↔ K (.pointer (some ⟨b, off + 5, none⟩)) w := V.iff (r_fd_42_5)
theorem V_fd_42_6 {w : World} {b off : Nat} {K : Value → World → Prop} : V Tryd.prog (Instr.fieldAt 42 (.pointer (some ⟨b, off, none⟩)) 6) w K ↔ K (.pointer (some ⟨b, off + 6, none⟩)) w := V.iff (r_fd_42_6)
theorem V_fd_57_0 {w : World} {b off : Nat} {K : Value → World → Prop} : V Tryd.prog (Instr.fieldAt 57 (.pointer (some ⟨b, off, none⟩)) 0) w K ↔ K (.pointer (some ⟨b, off + 0, none⟩)) w := V.iff (r_fd_57_0)
theorem V_fd_63_0 {w : World} {b off : Nat} {K : Value → World → Prop} : V Tryd.prog (Instr.fieldAt 63 (.pointer (some ⟨b, off, none⟩)) 0) w K ↔ K (.pointer (some ⟨b, off + 0, none⟩)) w := V.iff (r_fd_63_0)
theorem V_fd_63_1 {w : World} {b off : Nat} {K : Value → World → Prop} : V Tryd.prog (Instr.fieldAt 63 (.pointer (some ⟨b, off, none⟩)) 1) w K ↔ K (.pointer (some ⟨b, off + 1, none⟩)) w := V.iff (r_fd_63_1)
theorem V_fd_63_2 {w : World} {b off : Nat} {K : Value → World → Prop} : V Tryd.prog (Instr.fieldAt 63 (.pointer (some ⟨b, off, none⟩)) 2) w K ↔ K (.pointer (some ⟨b, off + 2, none⟩)) w := V.iff (r_fd_63_2)
theorem V_fd_63_3 {w : World} {b off : Nat} {K : Value → World → Prop} : V Tryd.prog (Instr.fieldAt 63 (.pointer (some ⟨b, off, none⟩)) 3) w K ↔ K (.pointer (some ⟨b, off + 3, none⟩)) w := V.iff (r_fd_63_3)
theorem V_fd_63_4 {w : World} {b off : Nat} {K : Value → World → Prop} : V Tryd.prog (Instr.fieldAt 63 (.pointer (some ⟨b, off, none⟩)) 4) w K ↔ K (.pointer (some ⟨b, off + 4, none⟩)) w := V.iff (r_fd_63_4)
theorem V_fd_80_0 {w : World} {b off : Nat} {K : Value → World → Prop} : V Tryd.prog (Instr.fieldAt 80 (.pointer (some ⟨b, off, none⟩)) 0) w K ↔ K (.pointer (some ⟨b, off + 0, none⟩)) w := V.iff (r_fd_80_0)
theorem V_fd_80_1 {w : World} {b off : Nat} {K : Value → World → Prop} : V Tryd.prog (Instr.fieldAt 80 (.pointer (some ⟨b, off, none⟩)) 1) w K ↔ K (.pointer (some ⟨b, off + 1, none⟩)) w := V.iff (r_fd_80_1)
theorem V_fd_80_2 {w : World} {b off : Nat} {K : Value → World → Prop} : V Tryd.prog (Instr.fieldAt 80 (.pointer (some ⟨b, off, none⟩)) 2) w K ↔ K (.pointer (some ⟨b, off + 2, none⟩)) w := V.iff (r_fd_80_2)
theorem V_fd_80_3 {w : World} {b off : Nat} {K : Value → World → Prop} : V Tryd.prog (Instr.fieldAt 80 (.pointer (some ⟨b, off, none⟩)) 3) w K ↔ K (.pointer (some ⟨b, off + 3, none⟩)) w := V.iff (r_fd_80_3)
theorem V_fd_80_4 {w : World} {b off : Nat} {K : Value → World → Prop} : V Tryd.prog (Instr.fieldAt 80 (.pointer (some ⟨b, off, none⟩)) 4) w K ↔ K (.pointer (some ⟨b, off + 4, none⟩)) w := V.iff (r_fd_80_4)
theorem V_fd_85_2 {w : World} {b off : Nat} {K : Value → World → Prop} : V Tryd.prog (Instr.fieldAt 85 (.pointer (some ⟨b, off, none⟩)) 2) w K ↔ K (.pointer (some ⟨b, off + 2, none⟩)) w := V.iff (r_fd_85_2)
theorem V_fd_85_3 {w : World} {b off : Nat} {K : Value → World → Prop} : V Tryd.prog (Instr.fieldAt 85 (.pointer (some ⟨b, off, none⟩)) 3) w K ↔ K (.pointer (some ⟨b, off + 3, none⟩)) w := V.iff (r_fd_85_3)
theorem V_fd_88_0 {w : World} {b off : Nat} {K : Value → World → Prop} : V Tryd.prog (Instr.fieldAt 88 (.pointer (some ⟨b, off, none⟩)) 0) w K ↔ K (.pointer (some ⟨b, off + 0, none⟩)) w := V.iff (r_fd_88_0)
theorem V_fd_88_1 {w : World} {b off : Nat} {K : Value → World → Prop} : V Tryd.prog (Instr.fieldAt 88 (.pointer (some ⟨b, off, none⟩)) 1) w K ↔ K (.pointer (some ⟨b, off + 1, none⟩)) w := V.iff (r_fd_88_1)
theorem V_fd_88_2 {w : World} {b off : Nat} {K : Value → World → Prop} : V Tryd.prog (Instr.fieldAt 88 (.pointer (some ⟨b, off, none⟩)) 2) w K ↔ K (.pointer (some ⟨b, off + 2, none⟩)) w := V.iff (r_fd_88_2)
theorem V_fd_88_3 {w : World} {b off : Nat} {K : Value → World → Prop} : V Tryd.prog (Instr.fieldAt 88 (.pointer (some ⟨b, off, none⟩)) 3) w K ↔ K (.pointer (some ⟨b, off + 3, none⟩)) w := V.iff (r_fd_88_3)
theorem V_fd_91_0 {w : World} {b off : Nat} {K : Value → World → Prop} : V Tryd.prog (Instr.fieldAt 91 (.pointer (some ⟨b, off, none⟩)) 0) w K ↔ K (.pointer (some ⟨b, off + 0, none⟩)) w := V.iff (r_fd_91_0)
theorem V_fd_95_0 {w : World} {b off : Nat} {K : Value → World → Prop} : V Tryd.prog (Instr.fieldAt 95 (.pointer (some ⟨b, off, none⟩)) 0) w K ↔ K (.pointer (some ⟨b, off + 0, none⟩)) w := V.iff (r_fd_95_0)
theorem V_fd_95_1 {w : World} {b off : Nat} {K : Value → World → Prop} : V Tryd.prog (Instr.fieldAt 95 (.pointer (some ⟨b, off, none⟩)) 1) w K ↔ K (.pointer (some ⟨b, off + 1, none⟩)) w := V.iff (r_fd_95_1)
theorem V_fd_95_2 {w : World} {b off : Nat} {K : Value → World → Prop} : V Tryd.prog (Instr.fieldAt 95 (.pointer (some ⟨b, off, none⟩)) 2) w K ↔ K (.pointer (some ⟨b, off + 2, none⟩)) w := V.iff (r_fd_95_2)
theorem V_fd_95_3 {w : World} {b off : Nat} {K : Value → World → Prop} : V Tryd.prog (Instr.fieldAt 95 (.pointer (some ⟨b, off, none⟩)) 3) w K ↔ K (.pointer (some ⟨b, off + 3, none⟩)) w := V.iff (r_fd_95_3)
theorem V_fd_95_4 {w : World} {b off : Nat} {K : Value → World → Prop} : V Tryd.prog (Instr.fieldAt 95 (.pointer (some ⟨b, off, none⟩)) 4) w K ↔ K (.pointer (some ⟨b, off + 4, none⟩)) w := V.iff (r_fd_95_4)
theorem V_fd_95_5 {w : World} {b off : Nat} {K : Value → World → Prop} : V Tryd.prog (Instr.fieldAt 95 (.pointer (some ⟨b, off, none⟩)) 5) w K ↔ K (.pointer (some ⟨b, off + 5, none⟩)) w := V.iff (r_fd_95_5)
theorem V_ix_114 {w : World} {b off len cap : Nat} {k : IntKind} {i : Int} {K : Value → World → Prop} (h0 : 0 ≤ i) (h1 : i < len) : V Tryd.prog (Instr.indexAt 114 (.slice (some ⟨b, off, none⟩) len cap) (.int k i)) w K ↔ K (.pointer (some ⟨b, off + i.toNat * 5, none⟩)) w := V.iff (r_ix_114 h0 h1)
theorem V_ix_22 {w : World} {b off len cap : Nat} {k : IntKind} {i : Int} {K : Value → World → Prop} (h0 : 0 ≤ i) (h1 : i < len) : V Tryd.prog (Instr.indexAt 22 (.slice (some ⟨b, off, none⟩) len cap) (.int k i)) w K ↔ K (.pointer (some ⟨b, off + i.toNat * 7, none⟩)) w := V.iff (r_ix_22 h0 h1)
theorem V_ix_32 {w : World} {b off len cap : Nat} {k : IntKind} {i : Int} {K : Value → World → Prop} (h0 : 0 ≤ i) (h1 : i < len) : V Tryd.prog (Instr.indexAt 32 (.slice (some ⟨b, off, none⟩) len cap) (.int k i)) w K ↔ K (.pointer (some ⟨b, off + i.toNat * 1, none⟩)) w := V.iff (r_ix_32 h0 h1)
theorem V_ix_33 {w : World} {b off len cap : Nat} {k : IntKind} {i : Int} {K : Value → World → Prop} (h0 : 0 ≤ i) (h1 : i < len) : V Tryd.prog (Instr.indexAt 33 (.slice (some ⟨b, off, none⟩) len cap) (.int k i)) w K ↔ K (.pointer (some ⟨b, off + i.toNat * 4, none⟩)) w := V.iff (r_ix_33 h0 h1)
theorem V_ix_34 {w : World} {b off len cap : Nat} {k : IntKind} {i : Int} {K : Value → World → Prop} (h0 : 0 ≤ i) (h1 : i < len) : V Tryd.prog (Instr.indexAt 34 (.slice (some ⟨b, off, none⟩) len cap) (.int k i)) w K ↔ K (.pointer (some ⟨b, off + i.toNat * 4, none⟩)) w := V.iff (r_ix_34 h0 h1)
theorem V_ix_39 {w : World} {b off len cap : Nat} {k : IntKind} {i : Int} {K : Value → World → Prop} (h0 : 0 ≤ i) (h1 : i < len) : V Tryd.prog (Instr.indexAt 39 (.slice (some ⟨b, off, none⟩) len cap) (.int k i)) w K ↔ K (.pointer (some ⟨b, off + i.toNat * 1, none⟩)) w := V.iff (r_ix_39 h0 h1)
theorem V_ix_40 {w : World} {b off len cap : Nat} {k : IntKind} {i : Int} {K : Value → World → Prop} (h0 : 0 ≤ i) (h1 : i < len) : V Tryd.prog (Instr.indexAt 40 (.slice (some ⟨b, off, none⟩) len cap) (.int k i)) w K ↔ K (.pointer (some ⟨b, off + i.toNat * 1, none⟩)) w := V.iff (r_ix_40 h0 h1)
theorem V_ix_55 {w : World} {b off len cap : Nat} {k : IntKind} {i : Int} {K : Value → World → Prop} (h0 : 0 ≤ i) (h1 : i < len) : V Tryd.prog (Instr.indexAt 55 (.slice (some ⟨b, off, none⟩) len cap) (.int k i)) w K ↔ K (.pointer (some ⟨b, off + i.toNat * 4, none⟩)) w := V.iff (r_ix_55 h0 h1)
theorem V_ix_60 {w : World} {b off len cap : Nat} {k : IntKind} {i : Int} {K : Value → World → Prop} (h0 : 0 ≤ i) (h1 : i < len) : V Tryd.prog (Instr.indexAt 60 (.slice (some ⟨b, off, none⟩) len cap) (.int k i)) w K ↔ K (.pointer (some ⟨b, off + i.toNat * 5, none⟩)) w := V.iff (r_ix_60 h0 h1)
theorem V_ix_61 {w : World} {b off len cap : Nat} {k : IntKind} {i : Int} {K : Value → World → Prop} (h0 : 0 ≤ i) (h1 : i < len) : V Tryd.prog (Instr.indexAt 61 (.slice (some ⟨b, off, none⟩) len cap) (.int k i)) w K ↔ K (.pointer (some ⟨b, off + i.toNat * 1, none⟩)) w := V.iff (r_ix_61 h0 h1)
theorem V_ix_82 {w : World} {b off len cap : Nat} {k : IntKind} {i : Int} {K : Value → World → Prop} (h0 : 0 ≤ i) (h1 : i < len) : V Tryd.prog (Instr.indexAt 82 (.slice (some ⟨b, off, none⟩) len cap) (.int k i)) w K ↔ K (.pointer (some ⟨b, off + i.toNat * 4, none⟩)) w := V.iff (r_ix_82 h0 h1)
theorem V_ix_86 {w : World} {b off len cap : Nat} {k : IntKind} {i : Int} {K : Value → World → Prop} (h0 : 0 ≤ i) (h1 : i < len) : V Tryd.prog (Instr.indexAt 86 (.slice (some ⟨b, off, none⟩) len cap) (.int k i)) w K ↔ K (.pointer (some ⟨b, off + i.toNat * 3, none⟩)) w := V.iff (r_ix_86 h0 h1)
theorem V_ld_114 {w : World} {a : Addr} {K : Value → World → Prop} : V Tryd.prog (Instr.loadAt 114 (.pointer (some a))) w K ↔ ldO Tryd.prog 114 a (w.cell? a) w K := V_load Tryd.underlying114 rfl
theorem V_ld_21 {w : World} {a : Addr} {K : Value → World → Prop} : V Tryd.prog (Instr.loadAt 21 (.pointer (some a))) w K ↔ ldO Tryd.prog 21 a (w.cell? a) w K := V_load Tryd.underlying21 rfl
theorem V_ld_23 {w : World} {a : Addr} {K : Value → World → Prop} : V Tryd.prog (Instr.loadAt 23 (.pointer (some a))) w K ↔ ldO Tryd.prog 23 a (w.cell? a) w K := V_load Tryd.underlying23 rfl
theorem V_ld_3 {w : World} {a : Addr} {K : Value → World → Prop} : V Tryd.prog (Instr.loadAt 3 (.pointer (some a))) w K ↔ ldO Tryd.prog 3 a (w.cell? a) w K := V_load Tryd.underlying3 rfl
theorem V_ld_32 {w : World} {a : Addr} {K : Value → World → Prop} : V Tryd.prog (Instr.loadAt 32 (.pointer (some a))) w K ↔ ldO Tryd.prog 32 a (w.cell? a) w K := V_load Tryd.underlying32 rfl
theorem V_ld_33 {w : World} {a : Addr} {K : Value → World → Prop} : V Tryd.prog (Instr.loadAt 33 (.pointer (some a))) w K ↔ ldO Tryd.prog 33 a (w.cell? a) w K := V_load Tryd.underlying33 rfl
theorem V_ld_34 {w : World} {a : Addr} {K : Value → World → Prop} : V Tryd.prog (Instr.loadAt 34 (.pointer (some a))) w K ↔ ldO Tryd.prog 34 a (w.cell? a) w K := V_load Tryd.underlying34 rfl
theorem V_ld_39 {w : World} {a : Addr} {K : Value → World → Prop} : V Tryd.prog (Instr.loadAt 39 (.pointer (some a))) w K ↔ ldO Tryd.prog 39 a (w.cell? a) w K := V_load Tryd.underlying39 rfl
theorem V_ld_4 {w : World} {a : Addr} {K : Value → World → Prop} : V Tryd.prog (Instr.loadAt 4 (.pointer (some a))) w K ↔ ldO Tryd.prog 4 a (w.cell? a) w K := V_load Tryd.underlying4 rfl
theorem V_ld_40 {w : World} {a : Addr} {K : Value → World → Prop} : V Tryd.prog (Instr.loadAt 40 (.pointer (some a))) w K ↔ ldO Tryd.prog 40 a (w.cell? a) w K := V_load Tryd.underlying40 rfl
theorem V_ld_5 {w : World} {a : Addr} {K : Value → World → Prop} : V Tryd.prog (Instr.loadAt 5 (.pointer (some a))) w K ↔ ldO Tryd.prog 5 a (w.cell? a) w K := V_load Tryd.underlying5 rfl
theorem V_ld_50 {w : World} {a : Addr} {K : Value → World → Prop} : V Tryd.prog (Instr.loadAt 50 (.pointer (some a))) w K ↔ ldO Tryd.prog 50 a (w.cell? a) w K := V_load Tryd.underlying50 rfl
theorem V_ld_55 {w : World} {a : Addr} {K : Value → World → Prop} : V Tryd.prog (Instr.loadAt 55 (.pointer (some a))) w K ↔ ldO Tryd.prog 55 a (w.cell? a) w K := V_load Tryd.underlying55 rfl
theorem V_ld_59 {w : World} {a : Addr} {K : Value → World → Prop} : V Tryd.prog (Instr.loadAt 59 (.pointer (some a))) w K ↔ ldO Tryd.prog 59 a (w.cell? a) w K := V_load Tryd.underlying59 rfl
theorem V_ld_60 {w : World} {a : Addr} {K : Value → World → Prop} : V Tryd.prog (Instr.loadAt 60 (.pointer (some a))) w K ↔ ldO Tryd.prog 60 a (w.cell? a) w K := V_load Tryd.underlying60 rfl
theorem V_ld_61 {w : World} {a : Addr} {K : Value → World → Prop} : V Tryd.prog (Instr.loadAt 61 (.pointer (some a))) w K ↔ ldO Tryd.prog 61 a (w.cell? a) w K := V_load Tryd.underlying61 rfl
theorem V_ld_76 {w : World} {a : Addr} {K : Value → World → Prop} : V Tryd.prog (Instr.loadAt 76 (.pointer (some a))) w K ↔ ldO Tryd.prog 76 a (w.cell? a) w K := V_load Tryd.underlying76 rfl
theorem V_ld_86 {w : World} {a : Addr} {K : Value → World → Prop} : V Tryd.prog (Instr.loadAt 86 (.pointer (some a))) w K ↔ ldO Tryd.prog 86 a (w.cell? a) w K := V_load Tryd.underlying86 rfl
theorem V_ln_114 {w : World} {ty : TypeId} {a : Option Addr} {n c : Nat} {K : Value → World → Prop} : V Tryd.prog (Builtin.len_ #[114] ty #[.slice a n c]) w K ↔ K (.int .i64 n) w := V.iff (r_len Tryd.underlying114)
theorem V_ln_22 {w : World} {ty : TypeId} {a : Option Addr} {n c : Nat} {K : Value → World → Prop} : V Tryd.prog (Builtin.len_ #[22] ty #[.slice a n c]) w K ↔ K (.int .i64 n) w := V.iff (r_len Tryd.underlying22)
theorem V_ln_32 {w : World} {ty : TypeId} {a : Option Addr} {n c : Nat} {K : Value → World → Prop} : V Tryd.prog (Builtin.len_ #[32] ty #[.slice a n c]) w K ↔ K (.int .i64 n) w := V.iff (r_len Tryd.underlying32)
theorem V_ln_33 {w : World} {ty : TypeId} {a : Option Addr} {n c : Nat} {K : Value → World → Prop} : V Tryd.prog (Builtin.len_ #[33] ty #[.slice a n c]) w K ↔ K (.int .i64 n) w := V.iff (r_len Tryd.underlying33)
theorem V_ln_34 {w : World} {ty : TypeId} {a : Option Addr} {n c : Nat} {K : Value → World → Prop} : V Tryd.prog (Builtin.len_ #[34] ty #[.slice a n c]) w K ↔ K (.int .i64 n) w := V.iff (r_len Tryd.underlying34)
theorem V_ln_39 {w : World} {ty : TypeId} {a : Option Addr} {n c : Nat} {K : Value → World → Prop} : V Tryd.prog (Builtin.len_ #[39] ty #[.slice a n c]) w K ↔ K (.int .i64 n) w := V.iff (r_len Tryd.underlying39)
theorem V_ln_40 {w : World} {ty : TypeId} {a : Option Addr} {n c : Nat} {K : Value → World → Prop} : V Tryd.prog (Builtin.len_ #[40] ty #[.slice a n c]) w K ↔ K (.int .i64 n) w := V.iff (r_len Tryd.underlying40)
theorem V_ln_55 {w : World} {ty : TypeId} {a : Option Addr} {n c : Nat} {K : Value → World → Prop} : V Tryd.prog (Builtin.len_ #[55] ty #[.slice a n c]) w K ↔ K (.int .i64 n) w := V.iff (r_len Tryd.underlying55)
theorem V_ln_60 {w : World} {ty : TypeId} {a : Option Addr} {n c : Nat} {K : Value → World → Prop} : V Tryd.prog (Builtin.len_ #[60] ty #[.slice a n c]) w K ↔ K (.int .i64 n) w := V.iff (r_len Tryd.underlying60)
theorem V_ln_61 {w : World} {ty : TypeId} {a : Option Addr} {n c : Nat} {K : Value → World → Prop} : V Tryd.prog (Builtin.len_ #[61] ty #[.slice a n c]) w K ↔ K (.int .i64 n) w := V.iff (r_len Tryd.underlying61)
theorem V_ln_82 {w : World} {ty : TypeId} {a : Option Addr} {n c : Nat} {K : Value → World → Prop} : V Tryd.prog (Builtin.len_ #[82] ty #[.slice a n c]) w K ↔ K (.int .i64 n) w := V.iff (r_len Tryd.underlying82)
theorem V_ln_86 {w : World} {ty : TypeId} {a : Option Addr} {n c : Nat} {K : Value → World → Prop} : V Tryd.prog (Builtin.len_ #[86] ty #[.slice a n c]) w K ↔ K (.int .i64 n) w := V.iff (r_len Tryd.underlying86)
theorem V_neqb_4 {w : World} {x y : Operand} {a b : Bool} {K : Value → World → Prop} : V Tryd.prog (do eqGuard .neq 4 x y (.bool a) (.bool b); binOp .neq 4 (.bool a) (.bool b)) w K ↔ K (.bool (a != b)) w := V.iff (r_neqBool Tryd.underlying4)
theorem sa_105 : SA Tryd.prog 105 5 := ⟨_, _, inf105, by decide⟩
theorem sa_29 : SA Tryd.prog 29 12 := ⟨_, _, inf29, by decide⟩
theorem sa_36 : SA Tryd.prog 36 5 := ⟨_, _, inf36, by decide⟩
theorem sa_42 : SA Tryd.prog 42 7 := ⟨_, _, inf42, by decide⟩
theorem sa_95 : SA Tryd.prog 95 6 := ⟨_, _, inf95, by decide⟩
theorem xa_114 : XA Tryd.prog 114 5 := ⟨_, _, _, Tryd.underlying114, inf105⟩
theorem xa_22 : XA Tryd.prog 22 7 := ⟨_, _, _, Tryd.underlying22, inf42⟩
theorem xa_32 : XA Tryd.prog 32 1 := ⟨_, _, _, Tryd.underlying32, inf3⟩
theorem xa_33 : XA Tryd.prog 33 4 := ⟨_, _, _, Tryd.underlying33, inf85⟩
theorem xa_34 : XA Tryd.prog 34 4 := ⟨_, _, _, Tryd.underlying34, inf88⟩
theorem xa_39 : XA Tryd.prog 39 1 := ⟨_, _, _, Tryd.underlying39, inf21⟩
theorem xa_40 : XA Tryd.prog 40 1 := ⟨_, _, _, Tryd.underlying40, inf5⟩
theorem xa_55 : XA Tryd.prog 55 4 := ⟨_, _, _, Tryd.underlying55, inf74⟩
theorem xa_60 : XA Tryd.prog 60 5 := ⟨_, _, _, Tryd.underlying60, inf36⟩
theorem xa_61 : XA Tryd.prog 61 1 := ⟨_, _, _, Tryd.underlying61, inf39⟩
theorem xa_82 : XA Tryd.prog 82 4 := ⟨_, _, _, Tryd.underlying82, inf133⟩
theorem xa_86 : XA Tryd.prog 86 3 := ⟨_, _, _, Tryd.underlying86, inf127⟩
theorem fa_105_0 : FA Tryd.prog 105 0 0 := ⟨fun _ _ _ => r_field 3 0 Tryd.underlying105 rfl inf3 rfl⟩
theorem fa_105_1 : FA Tryd.prog 105 1 1 := ⟨fun _ _ _ => r_field 3 1 Tryd.underlying105 rfl inf3 rfl⟩
theorem fa_105_2 : FA Tryd.prog 105 2 2 := ⟨fun _ _ _ => r_field 3 2 Tryd.underlying105 rfl inf3 rfl⟩
theorem fa_105_3 : FA Tryd.prog 105 3 3 := ⟨fun _ _ _ => r_field 4 3 Tryd.underlying105 rfl inf4 rfl⟩
theorem fa_105_4 : FA Tryd.prog 105 4 4 := ⟨fun _ _ _ => r_field 40 4 Tryd.underlying105 rfl inf40 rfl⟩
theorem fa_116_0 : FA Tryd.prog 116 0 0 := ⟨fun _ _ _ => r_field 3 0 Tryd.underlying116 rfl inf3 rfl⟩
theorem fa_116_1 : FA Tryd.prog 116 1 1 := ⟨fun _ _ _ => r_field 114 1 Tryd.underlying116 rfl inf114 rfl⟩
theorem fa_120_0 : FA Tryd.prog 120 0 0 := ⟨fun _ _ _ => r_field 3 0 Tryd.underlying120 rfl inf3 rfl⟩
theorem fa_120_1 : FA Tryd.prog 120 1 1 := ⟨fun _ _ _ => r_field 114 1 Tryd.underlying120 rfl inf114 rfl⟩
theorem fa_127_0 : FA Tryd.prog 127 0 0 := ⟨fun _ _ _ => r_field 3 0 Tryd.underlying127 rfl inf3 rfl⟩
theorem fa_127_1 : FA Tryd.prog 127 1 1 := ⟨fun _ _ _ => r_field 3 1 Tryd.underlying127 rfl inf3 rfl⟩
theorem fa_131_0 : FA Tryd.prog 131 0 0 := ⟨fun _ _ _ => r_field 86 0 Tryd.underlying131 rfl inf86 rfl⟩
theorem fa_131_1 : FA Tryd.prog 131 1 1 := ⟨fun _ _ _ => r_field 32 1 Tryd.underlying131 rfl inf32 rfl⟩
theorem fa_131_2 : FA Tryd.prog 131 2 2 := ⟨fun _ _ _ => r_field 3 2 Tryd.underlying131 rfl inf3 rfl⟩
theorem fa_131_3 : FA Tryd.prog 131 3 3 := ⟨fun _ _ _ => r_field 32 3 Tryd.underlying131 rfl inf32 rfl⟩
theorem fa_131_4 : FA Tryd.prog 131 4 4 := ⟨fun _ _ _ => r_field 3 4 Tryd.underlying131 rfl inf3 rfl⟩
theorem fa_133_0 : FA Tryd.prog 133 0 0 := ⟨fun _ _ _ => r_field 3 0 Tryd.underlying133 rfl inf3 rfl⟩
theorem fa_133_1 : FA Tryd.prog 133 1 1 := ⟨fun _ _ _ => r_field 3 1 Tryd.underlying133 rfl inf3 rfl⟩
theorem fa_133_2 : FA Tryd.prog 133 2 2 := ⟨fun _ _ _ => r_field 3 2 Tryd.underlying133 rfl inf3 rfl⟩
theorem fa_133_3 : FA Tryd.prog 133 3 3 := ⟨fun _ _ _ => r_field 3 3 Tryd.underlying133 rfl inf3 rfl⟩
theorem fa_36_1 : FA Tryd.prog 36 1 1 := ⟨fun _ _ _ => r_field 32 1 Tryd.underlying36 rfl inf32 rfl⟩
theorem fa_36_2 : FA Tryd.prog 36 2 2 := ⟨fun _ _ _ => r_field 33 2 Tryd.underlying36 rfl inf33 rfl⟩
theorem fa_36_3 : FA Tryd.prog 36 3 3 := ⟨fun _ _ _ => r_field 34 3 Tryd.underlying36 rfl inf34 rfl⟩
theorem fa_36_4 : FA Tryd.prog 36 4 4 := ⟨fun _ _ _ => r_field 32 4 Tryd.underlying36 rfl inf32 rfl⟩
theorem fa_42_0 : FA Tryd.prog 42 0 0 := ⟨fun _ _ _ => r_field 3 0 Tryd.underlying42 rfl inf3 rfl⟩
theorem fa_42_1 : FA Tryd.prog 42 1 1 := ⟨fun _ _ _ => r_field 3 1 Tryd.underlying42 rfl inf3 rfl⟩
theorem fa_42_2 : FA Tryd.prog 42 2 2 := ⟨fun _ _ _ => r_field 3 2 Tryd.underlying42 rfl inf3 rfl⟩
theorem fa_42_3 : FA Tryd.prog 42 3 3 := ⟨fun _ _ _ => r_field 3 3 Tryd.underlying42 rfl inf3 rfl⟩
theorem fa_42_4 : FA Tryd.prog 42 4 4 := ⟨fun _ _ _ => r_field 39 4 Tryd.underlying42 rfl inf39 rfl⟩
theorem fa_42_5 : FA Tryd.prog 42 5 5 := ⟨fun _ _ _ => r_field 40 5 Tryd.underlying42 rfl inf40 rfl⟩
theorem fa_42_6 : FA Tryd.prog 42 6 6 := ⟨fun _ _ _ => r_field 40 6 Tryd.underlying42 rfl inf40 rfl⟩
theorem fa_57_0 : FA Tryd.prog 57 0 0 := ⟨fun _ _ _ => r_field 55 0 Tryd.underlying57 rfl inf55 rfl⟩
theorem fa_63_0 : FA Tryd.prog 63 0 0 := ⟨fun _ _ _ => r_field 59 0 Tryd.underlying63 rfl inf59 rfl⟩
theorem fa_63_1 : FA Tryd.prog 63 1 1 := ⟨fun _ _ _ => r_field 60 1 Tryd.underlying63 rfl inf60 rfl⟩
theorem fa_63_2 : FA Tryd.prog 63 2 2 := ⟨fun _ _ _ => r_field 61 2 Tryd.underlying63 rfl inf61 rfl⟩
theorem fa_63_3 : FA Tryd.prog 63 3 3 := ⟨fun _ _ _ => r_field 40 3 Tryd.underlying63 rfl inf40 rfl⟩
theorem fa_63_4 : FA Tryd.prog 63 4 4 := ⟨fun _ _ _ => r_field 40 4 Tryd.underlying63 rfl inf40 rfl⟩
theorem fa_80_0 : FA Tryd.prog 80 0 0 := ⟨fun _ _ _ => r_field 76 0 Tryd.underlying80 rfl inf76 rfl⟩
theorem fa_80_1 : FA Tryd.prog 80 1 1 := ⟨fun _ _ _ => r_field 60 1 Tryd.underlying80 rfl inf60 rfl⟩
theorem fa_80_2 : FA Tryd.prog 80 2 2 := ⟨fun _ _ _ => r_field 61 2 Tryd.underlying80 rfl inf61 rfl⟩
theorem fa_80_3 : FA Tryd.prog 80 3 3 := ⟨fun _ _ _ => r_field 40 3 Tryd.underlying80 rfl inf40 rfl⟩
theorem fa_80_4 : FA Tryd.prog 80 4 4 := ⟨fun _ _ _ => r_field 40 4 Tryd.underlying80 rfl inf40 rfl⟩
theorem fa_85_2 : FA Tryd.prog 85 2 2 := ⟨fun _ _ _ => r_field 32 2 Tryd.underlying85 rfl inf32 rfl⟩
theorem fa_85_3 : FA Tryd.prog 85 3 3 := ⟨fun _ _ _ => r_field 3 3 Tryd.underlying85 rfl inf3 rfl⟩
theorem fa_88_0 : FA Tryd.prog 88 0 0 := ⟨fun _ _ _ => r_field 32 0 Tryd.underlying88 rfl inf32 rfl⟩
theorem fa_88_1 : FA Tryd.prog 88 1 1 := ⟨fun _ _ _ => r_field 3 1 Tryd.underlying88 rfl inf3 rfl⟩
theorem fa_88_2 : FA Tryd.prog 88 2 2 := ⟨fun _ _ _ => r_field 32 2 Tryd.underlying88 rfl inf32 rfl⟩
theorem fa_88_3 : FA Tryd.prog 88 3 3 := ⟨fun _ _ _ => r_field 86 3 Tryd.underlying88 rfl inf86 rfl⟩
theorem fa_91_0 : FA Tryd.prog 91 0 0 := ⟨fun _ _ _ => r_field 55 0 Tryd.underlying91 rfl inf55 rfl⟩
theorem fa_95_0 : FA Tryd.prog 95 0 0 := ⟨fun _ _ _ => r_field 23 0 Tryd.underlying95 rfl inf23 rfl⟩
theorem fa_95_1 : FA Tryd.prog 95 1 1 := ⟨fun _ _ _ => r_field 50 1 Tryd.underlying95 rfl inf50 rfl⟩
theorem fa_95_2 : FA Tryd.prog 95 2 2 := ⟨fun _ _ _ => r_field 3 2 Tryd.underlying95 rfl inf3 rfl⟩
theorem fa_95_3 : FA Tryd.prog 95 3 3 := ⟨fun _ _ _ => r_field 3 3 Tryd.underlying95 rfl inf3 rfl⟩
theorem fa_95_4 : FA Tryd.prog 95 4 4 := ⟨fun _ _ _ => r_field 3 4 Tryd.underlying95 rfl inf3 rfl⟩
theorem fa_95_5 : FA Tryd.prog 95 5 5 := ⟨fun _ _ _ => r_field 32 5 Tryd.underlying95 rfl inf32 rfl⟩
theorem l1_114 : L1 Tryd.prog 114 := ⟨_, Tryd.underlying114, rfl⟩
theorem l1_21 : L1 Tryd.prog 21 := ⟨_, Tryd.underlying21, rfl⟩
theorem l1_23 : L1 Tryd.prog 23 := ⟨_, Tryd.underlying23, rfl⟩
theorem l1_3 : L1 Tryd.prog 3 := ⟨_, Tryd.underlying3, rfl⟩
theorem l1_32 : L1 Tryd.prog 32 := ⟨_, Tryd.underlying32, rfl⟩
theorem l1_33 : L1 Tryd.prog 33 := ⟨_, Tryd.underlying33, rfl⟩
theorem l1_34 : L1 Tryd.prog 34 := ⟨_, Tryd.underlying34, rfl⟩
theorem l1_39 : L1 Tryd.prog 39 := ⟨_, Tryd.underlying39, rfl⟩
theorem l1_4 : L1 Tryd.prog 4 := ⟨_, Tryd.underlying4, rfl⟩
theorem l1_40 : L1 Tryd.prog 40 := ⟨_, Tryd.underlying40, rfl⟩
theorem l1_5 : L1 Tryd.prog 5 := ⟨_, Tryd.underlying5, rfl⟩
theorem l1_50 : L1 Tryd.prog 50 := ⟨_, Tryd.underlying50, rfl⟩
theorem l1_55 : L1 Tryd.prog 55 := ⟨_, Tryd.underlying55, rfl⟩
theorem l1_59 : L1 Tryd.prog 59 := ⟨_, Tryd.underlying59, rfl⟩
theorem l1_60 : L1 Tryd.prog 60 := ⟨_, Tryd.underlying60, rfl⟩
theorem l1_61 : L1 Tryd.prog 61 := ⟨_, Tryd.underlying61, rfl⟩
theorem l1_76 : L1 Tryd.prog 76 := ⟨_, Tryd.underlying76, rfl⟩
theorem l1_86 : L1 Tryd.prog 86 := ⟨_, Tryd.underlying86, rfl⟩
theorem bd_105 : BD Tryd.prog 105 [(.int .i64 0), (.int .i64 0), (.int .i64 0), (.bool false), (.slice none 0 0)] := ⟨_, _, Tryd.underlying105, inf105, fun w => by kernel_rfl⟩
theorem bd_116 : BD Tryd.prog 116 [(.int .i64 0), (.slice none 0 0)] := ⟨_, _, Tryd.underlying116, inf116, fun w => by kernel_rfl⟩
theorem bd_120 : BD Tryd.prog 120 [(.int .i64 0), (.slice none 0 0)] := ⟨_, _, Tryd.underlying120, inf120, fun w => by kernel_rfl⟩
theorem bd_127 : BD Tryd.prog 127 [(.int .i64 0), (.int .i64 0), (.int .i64 0)] := ⟨_, _, Tryd.underlying127, inf127, fun w => by kernel_rfl⟩
theorem bd_131 : BD Tryd.prog 131 [(.slice none 0 0), (.slice none 0 0), (.int .i64 0), (.slice none 0 0), (.int .i64 0)] := ⟨_, _, Tryd.underlying131, inf131, fun w => by kernel_rfl⟩
theorem bd_36 : BD Tryd.prog 36 [(.string ByteArray.empty), (.slice none 0 0), (.slice none 0 0), (.slice none 0 0), (.slice none 0 0)] := ⟨_, _, Tryd.underlying36, inf36, fun w => by kernel_rfl⟩
theorem bd_57 : BD Tryd.prog 57 [(.slice none 0 0)] := ⟨_, _, Tryd.underlying57, inf57, fun w => by kernel_rfl⟩
theorem bd_63 : BD Tryd.prog 63 [(.pointer none), (.slice none 0 0), (.slice none 0 0), (.slice none 0 0), (.slice none 0 0)] := ⟨_, _, Tryd.underlying63, inf63, fun w => by kernel_rfl⟩
theorem bd_74 : BD Tryd.prog 74 [(.int .i64 0), (.int .i64 0), (.int .i64 0), (.int .i64 0)] := ⟨_, _, Tryd.underlying74, inf74, fun w => by kernel_rfl⟩
theorem bd_80 : BD Tryd.prog 80 [(.pointer none), (.slice none 0 0), (.slice none 0 0), (.slice none 0 0), (.slice none 0 0)] := ⟨_, _, Tryd.underlying80, inf80, fun w => by kernel_rfl⟩
theorem bd_85 : BD Tryd.prog 85 [(.string ByteArray.empty), (.int .i64 0), (.slice none 0 0), (.int .i64 0)] := ⟨_, _, Tryd.underlying85, inf85, fun w => by kernel_rfl⟩
theorem bd_88 : BD Tryd.prog 88 [(.slice none 0 0), (.int .i64 0), (.slice none 0 0), (.slice none 0 0)] := ⟨_, _, Tryd.underlying88, inf88, fun w => by kernel_rfl⟩
theorem bd_91 : BD Tryd.prog 91 [(.slice none 0 0)] := ⟨_, _, Tryd.underlying91, inf91, fun w => by kernel_rfl⟩
theorem bd_95 : BD Tryd.prog 95 [(.pointer none), (.pointer none), (.int .i64 0), (.int .i64 0), (.int .i64 0), (.slice none 0 0)] := ⟨_, _, Tryd.underlying95, inf95, fun w => by kernel_rfl⟩
theorem la_105 : ∃ d z by_, Program.underlying Tryd.prog 105 = some d ∧ aggB d = true ∧ Inf Tryd.prog 105 z 5 by_ := ⟨_, _, _, Tryd.underlying105, rfl, inf105⟩
theorem la_133 : ∃ d z by_, Program.underlying Tryd.prog 133 = some d ∧ aggB d = true ∧ Inf Tryd.prog 133 z 4 by_ := ⟨_, _, _, Tryd.underlying133, rfl, inf133⟩
theorem la_36 : ∃ d z by_, Program.underlying Tryd.prog 36 = some d ∧ aggB d = true ∧ Inf Tryd.prog 36 z 5 by_ := ⟨_, _, _, Tryd.underlying36, rfl, inf36⟩
theorem la_42 : ∃ d z by_, Program.underlying Tryd.prog 42 = some d ∧ aggB d = true ∧ Inf Tryd.prog 42 z 7 by_ := ⟨_, _, _, Tryd.underlying42, rfl, inf42⟩
theorem la_74 : ∃ d z by_, Program.underlying Tryd.prog 74 = some d ∧ aggB d = true ∧ Inf Tryd.prog 74 z 4 by_ := ⟨_, _, _, Tryd.underlying74, rfl, inf74⟩
theorem la_88 : ∃ d z by_, Program.underlying Tryd.prog 88 = some d ∧ aggB d = true ∧ Inf Tryd.prog 88 z 4 by_ := ⟨_, _, _, Tryd.underlying88, rfl, inf88⟩
theorem la_95 : ∃ d z by_, Program.underlying Tryd.prog 95 = some d ∧ aggB d = true ∧ Inf Tryd.prog 95 z 6 by_ := ⟨_, _, _, Tryd.underlying95, rfl, inf95⟩
theorem xe_32 : XE Tryd.prog 32 3 8 := ⟨_, Tryd.underlying32, inf3, rfl⟩
theorem xe_39 : XE Tryd.prog 39 21 4 := ⟨_, Tryd.underlying39, inf21, rfl⟩
theorem xe_40 : XE Tryd.prog 40 5 1 := ⟨_, Tryd.underlying40, inf5, rfl⟩
theorem xe_61 : XE Tryd.prog 61 39 24 := ⟨_, Tryd.underlying61, inf39, rfl⟩
end Go.Proofs.YtgjmpnngheohbaaDoor
