/- The laws of single operations, at this program's types: by program (instgen.py). -/
import Derived.Test.YtcnilchopponmaaDoorLaws2
import Derived.Test.YtcnilchopponmaaDoorProg
import Derived.KernelRfl
namespace Go.Proofs.YtcnilchopponmaaDoor
open Go.Vc
theorem inf3 : Inf Tryd.prog 3 (.int .i64 0) 1 8 := by unfold Inf; kernel_rfl
theorem inf4 : Inf Tryd.prog 4 (.bool false) 1 1 := by unfold Inf; kernel_rfl
theorem inf21 : Inf Tryd.prog 21 (.int .i32 0) 1 4 := by unfold Inf; kernel_rfl
theorem inf23 : Inf Tryd.prog 23 (.slice none 0 0) 1 24 := by unfold Inf; kernel_rfl
theorem inf25 : Inf Tryd.prog 25 (.agg #[(.int .i64 0), (.int .i64 0), (.slice none 0 0)]) 3 40 := by unfold Inf; kernel_rfl
theorem inf30 : Inf Tryd.prog 30 (.slice none 0 0) 1 24 := by unfold Inf; kernel_rfl
theorem inf31 : Inf Tryd.prog 31 (.slice none 0 0) 1 24 := by unfold Inf; kernel_rfl
theorem inf34 : Inf Tryd.prog 34 .nilIface 1 16 := by unfold Inf; kernel_rfl
theorem inf41 : Inf Tryd.prog 41 (.agg #[]) 0 0 := by unfold Inf; kernel_rfl
theorem inf43 : Inf Tryd.prog 43 (.agg #[(.int .i64 0)]) 1 8 := by unfold Inf; kernel_rfl
theorem inf45 : Inf Tryd.prog 45 (.slice none 0 0) 1 24 := by unfold Inf; kernel_rfl
theorem inf47 : Inf Tryd.prog 47 (.agg #[(.int .i64 0), (.int .i64 0), (.slice none 0 0)]) 3 40 := by unfold Inf; kernel_rfl
theorem inf51 : Inf Tryd.prog 51 (.agg #[(.int .i64 0), (.int .i32 0)]) 2 16 := by unfold Inf; kernel_rfl
theorem inf53 : Inf Tryd.prog 53 (.agg #[(.int .i64 0)]) 1 8 := by unfold Inf; kernel_rfl
theorem inf55 : Inf Tryd.prog 55 (.agg #[(.int .i64 0), (.int .i64 0)]) 2 16 := by unfold Inf; kernel_rfl
theorem inf57 : Inf Tryd.prog 57 (.agg #[(.int .i64 0), (.int .i64 0)]) 2 16 := by unfold Inf; kernel_rfl
theorem inf59 : Inf Tryd.prog 59 (.agg #[(.int .i64 0), (.int .i64 0), (.int .i64 0), (.int .i64 0)]) 4 32 := by unfold Inf; kernel_rfl
theorem inf61 : Inf Tryd.prog 61 (.agg #[(.int .i64 0), (.int .i64 0), (.int .i64 0)]) 3 24 := by unfold Inf; kernel_rfl
theorem inf63 : Inf Tryd.prog 63 (.agg #[(.int .i64 0), (.int .i64 0), (.int .i64 0), (.int .i64 0)]) 4 32 := by unfold Inf; kernel_rfl
theorem inf65 : Inf Tryd.prog 65 (.agg #[(.int .i64 0), (.int .i64 0)]) 2 16 := by unfold Inf; kernel_rfl
theorem inf67 : Inf Tryd.prog 67 (.agg #[(.int .i64 0), (.int .i64 0), (.int .i64 0), (.int .i64 0), (.slice none 0 0)]) 5 56 := by unfold Inf; kernel_rfl
theorem inf69 : Inf Tryd.prog 69 (.agg #[(.int .i64 0), (.int .i64 0), (.slice none 0 0)]) 3 40 := by unfold Inf; kernel_rfl
theorem inf71 : Inf Tryd.prog 71 (.agg #[(.int .i64 0), (.int .i64 0), (.slice none 0 0)]) 3 40 := by unfold Inf; kernel_rfl
theorem inf73 : Inf Tryd.prog 73 (.agg #[(.int .i64 0), (.int .i64 0)]) 2 16 := by unfold Inf; kernel_rfl
theorem inf81 : Inf Tryd.prog 81 (.agg #[(.int .i64 0), (.int .i64 0), (.int .i64 0), (.int .i64 0), (.int .i64 0), (.int .i64 0), (.int .i64 0), (.int .i64 0), (.slice none 0 0)]) 9 88 := by unfold Inf; kernel_rfl
theorem inf83 : Inf Tryd.prog 83 (.agg #[(.int .i64 0), (.int .i64 0), (.int .i64 0), (.int .i64 0), (.int .i64 0), (.int .i64 0), (.int .i64 0), (.slice none 0 0)]) 8 80 := by unfold Inf; kernel_rfl
theorem inf95 : Inf Tryd.prog 95 (.agg #[(.int .i64 0), (.int .i64 0), (.int .i64 0), (.int .i64 0), (.int .i64 0), (.int .i64 0), (.int .i64 0), (.int .i64 0), (.int .i64 0), (.int .i64 0)]) 10 80 := by unfold Inf; kernel_rfl
theorem r_fd_25_0 {w : World} {b off : Nat} : (Instr.fieldAt 25 (.pointer (some ⟨b, off, none⟩)) 0).run Tryd.prog w = .ok (.pointer (some ⟨b, off + 0, none⟩)) w := r_field 3 0 Tryd.underlying25 rfl inf3 rfl
theorem r_fd_25_1 {w : World} {b off : Nat} : (Instr.fieldAt 25 (.pointer (some ⟨b, off, none⟩)) 1).run Tryd.prog w = .ok (.pointer (some ⟨b, off + 1, none⟩)) w := r_field 3 1 Tryd.underlying25 rfl inf3 rfl
theorem r_fd_25_2 {w : World} {b off : Nat} : (Instr.fieldAt 25 (.pointer (some ⟨b, off, none⟩)) 2).run Tryd.prog w = .ok (.pointer (some ⟨b, off + 2, none⟩)) w := r_field 23 2 Tryd.underlying25 rfl inf23 rfl
theorem r_fd_43_0 {w : World} {b off : Nat} : (Instr.fieldAt 43 (.pointer (some ⟨b, off, none⟩)) 0).run Tryd.prog w = .ok (.pointer (some ⟨b, off + 0, none⟩)) w := r_field 3 0 Tryd.underlying43 rfl inf3 rfl
theorem r_fd_47_0 {w : World} {b off : Nat} : (Instr.fieldAt 47 (.pointer (some ⟨b, off, none⟩)) 0).run Tryd.prog w = .ok (.pointer (some ⟨b, off + 0, none⟩)) w := r_field 3 0 Tryd.underlying47 rfl inf3 rfl
theorem r_fd_47_1 {w : World} {b off : Nat} : (Instr.fieldAt 47 (.pointer (some ⟨b, off, none⟩)) 1).run Tryd.prog w = .ok (.pointer (some ⟨b, off + 1, none⟩)) w := r_field 3 1 Tryd.underlying47 rfl inf3 rfl
theorem r_fd_47_2 {w : World} {b off : Nat} : (Instr.fieldAt 47 (.pointer (some ⟨b, off, none⟩)) 2).run Tryd.prog w = .ok (.pointer (some ⟨b, off + 2, none⟩)) w := r_field 45 2 Tryd.underlying47 rfl inf45 rfl
theorem r_fd_51_0 {w : World} {b off : Nat} : (Instr.fieldAt 51 (.pointer (some ⟨b, off, none⟩)) 0).run Tryd.prog w = .ok (.pointer (some ⟨b, off + 0, none⟩)) w := r_field 3 0 Tryd.underlying51 rfl inf3 rfl
theorem r_fd_51_1 {w : World} {b off : Nat} : (Instr.fieldAt 51 (.pointer (some ⟨b, off, none⟩)) 1).run Tryd.prog w = .ok (.pointer (some ⟨b, off + 1, none⟩)) w := r_field 21 1 Tryd.underlying51 rfl inf21 rfl
theorem r_fd_53_0 {w : World} {b off : Nat} : (Instr.fieldAt 53 (.pointer (some ⟨b, off, none⟩)) 0).run Tryd.prog w = .ok (.pointer (some ⟨b, off + 0, none⟩)) w := r_field 3 0 Tryd.underlying53 rfl inf3 rfl
theorem r_fd_55_0 {w : World} {b off : Nat} : (Instr.fieldAt 55 (.pointer (some ⟨b, off, none⟩)) 0).run Tryd.prog w = .ok (.pointer (some ⟨b, off + 0, none⟩)) w := r_field 3 0 Tryd.underlying55 rfl inf3 rfl
theorem r_fd_55_1 {w : World} {b off : Nat} : (Instr.fieldAt 55 (.pointer (some ⟨b, off, none⟩)) 1).run Tryd.prog w = .ok (.pointer (some ⟨b, off + 1, none⟩)) w := r_field 3 1 Tryd.underlying55 rfl inf3 rfl
theorem r_fd_57_0 {w : World} {b off : Nat} : (Instr.fieldAt 57 (.pointer (some ⟨b, off, none⟩)) 0).run Tryd.prog w = .ok (.pointer (some ⟨b, off + 0, none⟩)) w := r_field 3 0 Tryd.underlying57 rfl inf3 rfl
theorem r_fd_57_1 {w : World} {b off : Nat} : (Instr.fieldAt 57 (.pointer (some ⟨b, off, none⟩)) 1).run Tryd.prog w = .ok (.pointer (some ⟨b, off + 1, none⟩)) w := r_field 3 1 Tryd.underlying57 rfl inf3 rfl
theorem r_fd_59_0 {w : World} {b off : Nat} : (Instr.fieldAt 59 (.pointer (some ⟨b, off, none⟩)) 0).run Tryd.prog w = .ok (.pointer (some ⟨b, off + 0, none⟩)) w := r_field 3 0 Tryd.underlying59 rfl inf3 rfl
theorem r_fd_59_1 {w : World} {b off : Nat} : (Instr.fieldAt 59 (.pointer (some ⟨b, off, none⟩)) 1).run Tryd.prog w = .ok (.pointer (some ⟨b, off + 1, none⟩)) w := r_field 3 1 Tryd.underlying59 rfl inf3 rfl
theorem r_fd_59_2 {w : World} {b off : Nat} : (Instr.fieldAt 59 (.pointer (some ⟨b, off, none⟩)) 2).run Tryd.prog w = .ok (.pointer (some ⟨b, off + 2, none⟩)) w := r_field 3 2 Tryd.underlying59 rfl inf3 rfl
theorem r_fd_59_3 {w : World} {b off : Nat} : (Instr.fieldAt 59 (.pointer (some ⟨b, off, none⟩)) 3).run Tryd.prog w = .ok (.pointer (some ⟨b, off + 3, none⟩)) w := r_field 3 3 Tryd.underlying59 rfl inf3 rfl
theorem r_fd_61_0 {w : World} {b off : Nat} : (Instr.fieldAt 61 (.pointer (some ⟨b, off, none⟩)) 0).run Tryd.prog w = .ok (.pointer (some ⟨b, off + 0, none⟩)) w := r_field 3 0 Tryd.underlying61 rfl inf3 rfl
theorem r_fd_61_1 {w : World} {b off : Nat} : (Instr.fieldAt 61 (.pointer (some ⟨b, off, none⟩)) 1).run Tryd.prog w = .ok (.pointer (some ⟨b, off + 1, none⟩)) w := r_field 3 1 Tryd.underlying61 rfl inf3 rfl
theorem r_fd_61_2 {w : World} {b off : Nat} : (Instr.fieldAt 61 (.pointer (some ⟨b, off, none⟩)) 2).run Tryd.prog w = .ok (.pointer (some ⟨b, off + 2, none⟩)) w := r_field 3 2 Tryd.underlying61 rfl inf3 rfl
theorem r_fd_63_0 {w : World} {b off : Nat} : (Instr.fieldAt 63 (.pointer (some ⟨b, off, none⟩)) 0).run Tryd.prog w = .ok (.pointer (some ⟨b, off + 0, none⟩)) w := r_field 3 0 Tryd.underlying63 rfl inf3 rfl
theorem r_fd_63_1 {w : World} {b off : Nat} : (Instr.fieldAt 63 (.pointer (some ⟨b, off, none⟩)) 1).run Tryd.prog w = .ok (.pointer (some ⟨b, off + 1, none⟩)) w := r_field 3 1 Tryd.underlying63 rfl inf3 rfl
theorem r_fd_63_2 {w : World} {b off : Nat} : (Instr.fieldAt 63 (.pointer (some ⟨b, off, none⟩)) 2).run Tryd.prog w = .ok (.pointer (some ⟨b, off + 2, none⟩)) w := r_field 3 2 Tryd.underlying63 rfl inf3 rfl
theorem r_fd_63_3 {w : World} {b off : Nat} : (Instr.fieldAt 63 (.pointer (some ⟨b, off, none⟩)) 3).run Tryd.prog w = .ok (.pointer (some ⟨b, off + 3, none⟩)) w := r_field 3 3 Tryd.underlying63 rfl inf3 rfl
theorem r_fd_65_0 {w : World} {b off : Nat} : (Instr.fieldAt 65 (.pointer (some ⟨b, off, none⟩)) 0).run Tryd.prog w = .ok (.pointer (some ⟨b, off + 0, none⟩)) w := r_field 3 0 Tryd.underlying65 rfl inf3 rfl
theorem r_fd_65_1 {w : World} {b off : Nat} : (Instr.fieldAt 65 (.pointer (some ⟨b, off, none⟩)) 1).run Tryd.prog w = .ok (.pointer (some ⟨b, off + 1, none⟩)) w := r_field 3 1 Tryd.underlying65 rfl inf3 rfl
theorem r_fd_67_0 {w : World} {b off : Nat} : (Instr.fieldAt 67 (.pointer (some ⟨b, off, none⟩)) 0).run Tryd.prog w = .ok (.pointer (some ⟨b, off + 0, none⟩)) w := r_field 3 0 Tryd.underlying67 rfl inf3 rfl
theorem r_fd_67_1 {w : World} {b off : Nat} : (Instr.fieldAt 67 (.pointer (some ⟨b, off, none⟩)) 1).run Tryd.prog w = .ok (.pointer (some ⟨b, off + 1, none⟩)) w := r_field 3 1 Tryd.underlying67 rfl inf3 rfl
theorem r_fd_67_2 {w : World} {b off : Nat} : (Instr.fieldAt 67 (.pointer (some ⟨b, off, none⟩)) 2).run Tryd.prog w = .ok (.pointer (some ⟨b, off + 2, none⟩)) w := r_field 3 2 Tryd.underlying67 rfl inf3 rfl
theorem r_fd_67_3 {w : World} {b off : Nat} : (Instr.fieldAt 67 (.pointer (some ⟨b, off, none⟩)) 3).run Tryd.prog w = .ok (.pointer (some ⟨b, off + 3, none⟩)) w := r_field 3 3 Tryd.underlying67 rfl inf3 rfl
theorem r_fd_67_4 {w : World} {b off : Nat} : (Instr.fieldAt 67 (.pointer (some ⟨b, off, none⟩)) 4).run Tryd.prog w = .ok (.pointer (some ⟨b, off + 4, none⟩)) w := r_field 31 4 Tryd.underlying67 rfl inf31 rfl
theorem r_fd_69_0 {w : World} {b off : Nat} : (Instr.fieldAt 69 (.pointer (some ⟨b, off, none⟩)) 0).run Tryd.prog w = .ok (.pointer (some ⟨b, off + 0, none⟩)) w := r_field 3 0 Tryd.underlying69 rfl inf3 rfl
theorem r_fd_69_1 {w : World} {b off : Nat} : (Instr.fieldAt 69 (.pointer (some ⟨b, off, none⟩)) 1).run Tryd.prog w = .ok (.pointer (some ⟨b, off + 1, none⟩)) w := r_field 3 1 Tryd.underlying69 rfl inf3 rfl
theorem r_fd_69_2 {w : World} {b off : Nat} : (Instr.fieldAt 69 (.pointer (some ⟨b, off, none⟩)) 2).run Tryd.prog w = .ok (.pointer (some ⟨b, off + 2, none⟩)) w := r_field 31 2 Tryd.underlying69 rfl inf31 rfl
theorem r_fd_71_0 {w : World} {b off : Nat} : (Instr.fieldAt 71 (.pointer (some ⟨b, off, none⟩)) 0).run Tryd.prog w = .ok (.pointer (some ⟨b, off + 0, none⟩)) w := r_field 3 0 Tryd.underlying71 rfl inf3 rfl
theorem r_fd_71_1 {w : World} {b off : Nat} : (Instr.fieldAt 71 (.pointer (some ⟨b, off, none⟩)) 1).run Tryd.prog w = .ok (.pointer (some ⟨b, off + 1, none⟩)) w := r_field 3 1 Tryd.underlying71 rfl inf3 rfl
theorem r_fd_71_2 {w : World} {b off : Nat} : (Instr.fieldAt 71 (.pointer (some ⟨b, off, none⟩)) 2).run Tryd.prog w = .ok (.pointer (some ⟨b, off + 2, none⟩)) w := r_field 31 2 Tryd.underlying71 rfl inf31 rfl
theorem r_fd_73_0 {w : World} {b off : Nat} : (Instr.fieldAt 73 (.pointer (some ⟨b, off, none⟩)) 0).run Tryd.prog w = .ok (.pointer (some ⟨b, off + 0, none⟩)) w := r_field 3 0 Tryd.underlying73 rfl inf3 rfl
theorem r_fd_73_1 {w : World} {b off : Nat} : (Instr.fieldAt 73 (.pointer (some ⟨b, off, none⟩)) 1).run Tryd.prog w = .ok (.pointer (some ⟨b, off + 1, none⟩)) w := r_field 3 1 Tryd.underlying73 rfl inf3 rfl
theorem r_fd_81_0 {w : World} {b off : Nat} : (Instr.fieldAt 81 (.pointer (some ⟨b, off, none⟩)) 0).run Tryd.prog w = .ok (.pointer (some ⟨b, off + 0, none⟩)) w := r_field 3 0 Tryd.underlying81 rfl inf3 rfl
theorem r_fd_81_1 {w : World} {b off : Nat} : (Instr.fieldAt 81 (.pointer (some ⟨b, off, none⟩)) 1).run Tryd.prog w = .ok (.pointer (some ⟨b, off + 1, none⟩)) w := r_field 3 1 Tryd.underlying81 rfl inf3 rfl
theorem r_fd_81_2 {w : World} {b off : Nat} : (Instr.fieldAt 81 (.pointer (some ⟨b, off, none⟩)) 2).run Tryd.prog w = .ok (.pointer (some ⟨b, off + 2, none⟩)) w := r_field 3 2 Tryd.underlying81 rfl inf3 rfl
theorem r_fd_81_3 {w : World} {b off : Nat} : (Instr.fieldAt 81 (.pointer (some ⟨b, off, none⟩)) 3).run Tryd.prog w = .ok (.pointer (some ⟨b, off + 3, none⟩)) w := r_field 3 3 Tryd.underlying81 rfl inf3 rfl
theorem r_fd_81_4 {w : World} {b off : Nat} : (Instr.fieldAt 81 (.pointer (some ⟨b, off, none⟩)) 4).run Tryd.prog w = .ok (.pointer (some ⟨b, off + 4, none⟩)) w := r_field 3 4 Tryd.underlying81 rfl inf3 rfl
theorem r_fd_81_5 {w : World} {b off : Nat} : (Instr.fieldAt 81 (.pointer (some ⟨b, off, none⟩)) 5).run Tryd.prog w = .ok (.pointer (some ⟨b, off + 5, none⟩)) w := r_field 3 5 Tryd.underlying81 rfl inf3 rfl
theorem r_fd_81_6 {w : World} {b off : Nat} : (Instr.fieldAt 81 (.pointer (some ⟨b, off, none⟩)) 6).run Tryd.prog w = .ok (.pointer (some ⟨b, off + 6, none⟩)) w := r_field 3 6 Tryd.underlying81 rfl inf3 rfl
theorem r_fd_81_7 {w : World} {b off : Nat} : (Instr.fieldAt 81 (.pointer (some ⟨b, off, none⟩)) 7).run Tryd.prog w = .ok (.pointer (some ⟨b, off + 7, none⟩)) w := r_field 3 7 Tryd.underlying81 rfl inf3 rfl
theorem r_fd_81_8 {w : World} {b off : Nat} : (Instr.fieldAt 81 (.pointer (some ⟨b, off, none⟩)) 8).run Tryd.prog w = .ok (.pointer (some ⟨b, off + 8, none⟩)) w := r_field 31 8 Tryd.underlying81 rfl inf31 rfl
theorem r_fd_83_0 {w : World} {b off : Nat} : (Instr.fieldAt 83 (.pointer (some ⟨b, off, none⟩)) 0).run Tryd.prog w = .ok (.pointer (some ⟨b, off + 0, none⟩)) w := r_field 3 0 Tryd.underlying83 rfl inf3 rfl
theorem r_fd_83_1 {w : World} {b off : Nat} : (Instr.fieldAt 83 (.pointer (some ⟨b, off, none⟩)) 1).run Tryd.prog w = .ok (.pointer (some ⟨b, off + 1, none⟩)) w := r_field 3 1 Tryd.underlying83 rfl inf3 rfl
theorem r_fd_83_2 {w : World} {b off : Nat} : (Instr.fieldAt 83 (.pointer (some ⟨b, off, none⟩)) 2).run Tryd.prog w = .ok (.pointer (some ⟨b, off + 2, none⟩)) w := r_field 3 2 Tryd.underlying83 rfl inf3 rfl
theorem r_fd_83_3 {w : World} {b off : Nat} : (Instr.fieldAt 83 (.pointer (some ⟨b, off, none⟩)) 3).run Tryd.prog w = .ok (.pointer (some ⟨b, off + 3, none⟩)) w := r_field 3 3 Tryd.underlying83 rfl inf3 rfl
theorem r_fd_83_6 {w : World} {b off : Nat} : (Instr.fieldAt 83 (.pointer (some ⟨b, off, none⟩)) 6).run Tryd.prog w = .ok (.pointer (some ⟨b, off + 6, none⟩)) w := r_field 3 6 Tryd.underlying83 rfl inf3 rfl
theorem r_fd_83_7 {w : World} {b off : Nat} : (Instr.fieldAt 83 (.pointer (some ⟨b, off, none⟩)) 7).run Tryd.prog w = .ok (.pointer (some ⟨b, off + 7, none⟩)) w := r_field 31 7 Tryd.underlying83 rfl inf31 rfl
theorem r_ix_22 {w : World} {b off len cap : Nat} {k : IntKind} {i : Int} (h0 : 0 ≤ i) (h1 : i < len) : (Instr.indexAt 22 (.slice (some ⟨b, off, none⟩) len cap) (.int k i)).run Tryd.prog w = .ok (.pointer (some ⟨b, off + i.toNat * 9, none⟩)) w := r_index Tryd.underlying22 inf81 h0 h1
theorem r_ix_23 {w : World} {b off len cap : Nat} {k : IntKind} {i : Int} (h0 : 0 ≤ i) (h1 : i < len) : (Instr.indexAt 23 (.slice (some ⟨b, off, none⟩) len cap) (.int k i)).run Tryd.prog w = .ok (.pointer (some ⟨b, off + i.toNat * 1, none⟩)) w := r_index Tryd.underlying23 inf34 h0 h1
theorem r_ix_27 {w : World} {b off len cap : Nat} {k : IntKind} {i : Int} (h0 : 0 ≤ i) (h1 : i < len) : (Instr.indexAt 27 (.slice (some ⟨b, off, none⟩) len cap) (.int k i)).run Tryd.prog w = .ok (.pointer (some ⟨b, off + i.toNat * 1, none⟩)) w := r_index Tryd.underlying27 inf30 h0 h1
theorem r_ix_30 {w : World} {b off len cap : Nat} {k : IntKind} {i : Int} (h0 : 0 ≤ i) (h1 : i < len) : (Instr.indexAt 30 (.slice (some ⟨b, off, none⟩) len cap) (.int k i)).run Tryd.prog w = .ok (.pointer (some ⟨b, off + i.toNat * 1, none⟩)) w := r_index Tryd.underlying30 inf4 h0 h1
theorem r_ix_31 {w : World} {b off len cap : Nat} {k : IntKind} {i : Int} (h0 : 0 ≤ i) (h1 : i < len) : (Instr.indexAt 31 (.slice (some ⟨b, off, none⟩) len cap) (.int k i)).run Tryd.prog w = .ok (.pointer (some ⟨b, off + i.toNat * 1, none⟩)) w := r_index Tryd.underlying31 inf3 h0 h1
theorem r_ix_45 {w : World} {b off len cap : Nat} {k : IntKind} {i : Int} (h0 : 0 ≤ i) (h1 : i < len) : (Instr.indexAt 45 (.slice (some ⟨b, off, none⟩) len cap) (.int k i)).run Tryd.prog w = .ok (.pointer (some ⟨b, off + i.toNat * 8, none⟩)) w := r_index Tryd.underlying45 inf83 h0 h1
theorem r_la_25 {w : World} {b off : Nat} {cs : List Value} (hl : cs.length = 3) (h : ∀ j (_ : j < cs.length), w.cell? ⟨b, off + j, none⟩ = cs[j]?) : (Instr.loadAt 25 (.pointer (some ⟨b, off, none⟩))).run Tryd.prog w = .ok (.agg cs.toArray) w := r_loadAgg Tryd.underlying25 rfl inf25 hl h
theorem r_la_47 {w : World} {b off : Nat} {cs : List Value} (hl : cs.length = 3) (h : ∀ j (_ : j < cs.length), w.cell? ⟨b, off + j, none⟩ = cs[j]?) : (Instr.loadAt 47 (.pointer (some ⟨b, off, none⟩))).run Tryd.prog w = .ok (.agg cs.toArray) w := r_loadAgg Tryd.underlying47 rfl inf47 hl h
theorem r_la_81 {w : World} {b off : Nat} {cs : List Value} (hl : cs.length = 9) (h : ∀ j (_ : j < cs.length), w.cell? ⟨b, off + j, none⟩ = cs[j]?) : (Instr.loadAt 81 (.pointer (some ⟨b, off, none⟩))).run Tryd.prog w = .ok (.agg cs.toArray) w := r_loadAgg Tryd.underlying81 rfl inf81 hl h
theorem r_la_83 {w : World} {b off : Nat} {cs : List Value} (hl : cs.length = 8) (h : ∀ j (_ : j < cs.length), w.cell? ⟨b, off + j, none⟩ = cs[j]?) : (Instr.loadAt 83 (.pointer (some ⟨b, off, none⟩))).run Tryd.prog w = .ok (.agg cs.toArray) w := r_loadAgg Tryd.underlying83 rfl inf83 hl h
theorem r_ld_21 {w : World} {a : Addr} {v : Value} (h : w.cell? a = some v) : (Instr.loadAt 21 (.pointer (some a))).run Tryd.prog w = .ok v w := r_load Tryd.underlying21 rfl h
theorem r_ld_23 {w : World} {a : Addr} {v : Value} (h : w.cell? a = some v) : (Instr.loadAt 23 (.pointer (some a))).run Tryd.prog w = .ok v w := r_load Tryd.underlying23 rfl h
theorem r_ld_3 {w : World} {a : Addr} {v : Value} (h : w.cell? a = some v) : (Instr.loadAt 3 (.pointer (some a))).run Tryd.prog w = .ok v w := r_load Tryd.underlying3 rfl h
theorem r_ld_30 {w : World} {a : Addr} {v : Value} (h : w.cell? a = some v) : (Instr.loadAt 30 (.pointer (some a))).run Tryd.prog w = .ok v w := r_load Tryd.underlying30 rfl h
theorem r_ld_31 {w : World} {a : Addr} {v : Value} (h : w.cell? a = some v) : (Instr.loadAt 31 (.pointer (some a))).run Tryd.prog w = .ok v w := r_load Tryd.underlying31 rfl h
theorem r_ld_34 {w : World} {a : Addr} {v : Value} (h : w.cell? a = some v) : (Instr.loadAt 34 (.pointer (some a))).run Tryd.prog w = .ok v w := r_load Tryd.underlying34 rfl h
theorem r_ld_4 {w : World} {a : Addr} {v : Value} (h : w.cell? a = some v) : (Instr.loadAt 4 (.pointer (some a))).run Tryd.prog w = .ok v w := r_load Tryd.underlying4 rfl h
theorem r_ld_45 {w : World} {a : Addr} {v : Value} (h : w.cell? a = some v) : (Instr.loadAt 45 (.pointer (some a))).run Tryd.prog w = .ok v w := r_load Tryd.underlying45 rfl h
theorem r_neqb_4 {w : World} {x y : Operand} {a b : Bool} : (do eqGuard .neq 4 x y (.bool a) (.bool b); binOp .neq 4 (.bool a) (.bool b)).run Tryd.prog w = .ok (.bool (a != b)) w := r_neqBool Tryd.underlying4
theorem r_sn_25 {w : World} {t' : TypeId} {old : Array Value} {v : Value} (hn : v.cells.size = 3) (ho : old.size = 3) (h1 : ∀ u ∈ v.cells.toList, oneC u = true) : (Instr.storeAt 25 (.pointer (some ⟨w.heap.size, 0, none⟩)) v).run Tryd.prog (w.alloc (.cells old t')) = .ok () (w.alloc (.cells v.cells t')) := r_storeNew inf25 hn ho h1
theorem r_sn_41 {w : World} {t' : TypeId} {old : Array Value} {v : Value} (hn : v.cells.size = 0) (ho : old.size = 0) (h1 : ∀ u ∈ v.cells.toList, oneC u = true) : (Instr.storeAt 41 (.pointer (some ⟨w.heap.size, 0, none⟩)) v).run Tryd.prog (w.alloc (.cells old t')) = .ok () (w.alloc (.cells v.cells t')) := r_storeNew inf41 hn ho h1
theorem r_sn_43 {w : World} {t' : TypeId} {old : Array Value} {v : Value} (hn : v.cells.size = 1) (ho : old.size = 1) (h1 : ∀ u ∈ v.cells.toList, oneC u = true) : (Instr.storeAt 43 (.pointer (some ⟨w.heap.size, 0, none⟩)) v).run Tryd.prog (w.alloc (.cells old t')) = .ok () (w.alloc (.cells v.cells t')) := r_storeNew inf43 hn ho h1
theorem r_sn_47 {w : World} {t' : TypeId} {old : Array Value} {v : Value} (hn : v.cells.size = 3) (ho : old.size = 3) (h1 : ∀ u ∈ v.cells.toList, oneC u = true) : (Instr.storeAt 47 (.pointer (some ⟨w.heap.size, 0, none⟩)) v).run Tryd.prog (w.alloc (.cells old t')) = .ok () (w.alloc (.cells v.cells t')) := r_storeNew inf47 hn ho h1
theorem r_sn_51 {w : World} {t' : TypeId} {old : Array Value} {v : Value} (hn : v.cells.size = 2) (ho : old.size = 2) (h1 : ∀ u ∈ v.cells.toList, oneC u = true) : (Instr.storeAt 51 (.pointer (some ⟨w.heap.size, 0, none⟩)) v).run Tryd.prog (w.alloc (.cells old t')) = .ok () (w.alloc (.cells v.cells t')) := r_storeNew inf51 hn ho h1
theorem r_sn_53 {w : World} {t' : TypeId} {old : Array Value} {v : Value} (hn : v.cells.size = 1) (ho : old.size = 1) (h1 : ∀ u ∈ v.cells.toList, oneC u = true) : (Instr.storeAt 53 (.pointer (some ⟨w.heap.size, 0, none⟩)) v).run Tryd.prog (w.alloc (.cells old t')) = .ok () (w.alloc (.cells v.cells t')) := r_storeNew inf53 hn ho h1
theorem r_sn_55 {w : World} {t' : TypeId} {old : Array Value} {v : Value} (hn : v.cells.size = 2) (ho : old.size = 2) (h1 : ∀ u ∈ v.cells.toList, oneC u = true) : (Instr.storeAt 55 (.pointer (some ⟨w.heap.size, 0, none⟩)) v).run Tryd.prog (w.alloc (.cells old t')) = .ok () (w.alloc (.cells v.cells t')) := r_storeNew inf55 hn ho h1
theorem r_sn_57 {w : World} {t' : TypeId} {old : Array Value} {v : Value} (hn : v.cells.size = 2) (ho : old.size = 2) (h1 : ∀ u ∈ v.cells.toList, oneC u = true) : (Instr.storeAt 57 (.pointer (some ⟨w.heap.size, 0, none⟩)) v).run Tryd.prog (w.alloc (.cells old t')) = .ok () (w.alloc (.cells v.cells t')) := r_storeNew inf57 hn ho h1
theorem r_sn_59 {w : World} {t' : TypeId} {old : Array Value} {v : Value} (hn : v.cells.size = 4) (ho : old.size = 4) (h1 : ∀ u ∈ v.cells.toList, oneC u = true) : (Instr.storeAt 59 (.pointer (some ⟨w.heap.size, 0, none⟩)) v).run Tryd.prog (w.alloc (.cells old t')) = .ok () (w.alloc (.cells v.cells t')) := r_storeNew inf59 hn ho h1
theorem r_sn_61 {w : World} {t' : TypeId} {old : Array Value} {v : Value} (hn : v.cells.size = 3) (ho : old.size = 3) (h1 : ∀ u ∈ v.cells.toList, oneC u = true) : (Instr.storeAt 61 (.pointer (some ⟨w.heap.size, 0, none⟩)) v).run Tryd.prog (w.alloc (.cells old t')) = .ok () (w.alloc (.cells v.cells t')) := r_storeNew inf61 hn ho h1
theorem r_sn_63 {w : World} {t' : TypeId} {old : Array Value} {v : Value} (hn : v.cells.size = 4) (ho : old.size = 4) (h1 : ∀ u ∈ v.cells.toList, oneC u = true) : (Instr.storeAt 63 (.pointer (some ⟨w.heap.size, 0, none⟩)) v).run Tryd.prog (w.alloc (.cells old t')) = .ok () (w.alloc (.cells v.cells t')) := r_storeNew inf63 hn ho h1
theorem r_sn_65 {w : World} {t' : TypeId} {old : Array Value} {v : Value} (hn : v.cells.size = 2) (ho : old.size = 2) (h1 : ∀ u ∈ v.cells.toList, oneC u = true) : (Instr.storeAt 65 (.pointer (some ⟨w.heap.size, 0, none⟩)) v).run Tryd.prog (w.alloc (.cells old t')) = .ok () (w.alloc (.cells v.cells t')) := r_storeNew inf65 hn ho h1
theorem r_sn_67 {w : World} {t' : TypeId} {old : Array Value} {v : Value} (hn : v.cells.size = 5) (ho : old.size = 5) (h1 : ∀ u ∈ v.cells.toList, oneC u = true) : (Instr.storeAt 67 (.pointer (some ⟨w.heap.size, 0, none⟩)) v).run Tryd.prog (w.alloc (.cells old t')) = .ok () (w.alloc (.cells v.cells t')) := r_storeNew inf67 hn ho h1
theorem r_sn_69 {w : World} {t' : TypeId} {old : Array Value} {v : Value} (hn : v.cells.size = 3) (ho : old.size = 3) (h1 : ∀ u ∈ v.cells.toList, oneC u = true) : (Instr.storeAt 69 (.pointer (some ⟨w.heap.size, 0, none⟩)) v).run Tryd.prog (w.alloc (.cells old t')) = .ok () (w.alloc (.cells v.cells t')) := r_storeNew inf69 hn ho h1
theorem r_sn_71 {w : World} {t' : TypeId} {old : Array Value} {v : Value} (hn : v.cells.size = 3) (ho : old.size = 3) (h1 : ∀ u ∈ v.cells.toList, oneC u = true) : (Instr.storeAt 71 (.pointer (some ⟨w.heap.size, 0, none⟩)) v).run Tryd.prog (w.alloc (.cells old t')) = .ok () (w.alloc (.cells v.cells t')) := r_storeNew inf71 hn ho h1
theorem r_sn_73 {w : World} {t' : TypeId} {old : Array Value} {v : Value} (hn : v.cells.size = 2) (ho : old.size = 2) (h1 : ∀ u ∈ v.cells.toList, oneC u = true) : (Instr.storeAt 73 (.pointer (some ⟨w.heap.size, 0, none⟩)) v).run Tryd.prog (w.alloc (.cells old t')) = .ok () (w.alloc (.cells v.cells t')) := r_storeNew inf73 hn ho h1
theorem r_sn_83 {w : World} {t' : TypeId} {old : Array Value} {v : Value} (hn : v.cells.size = 8) (ho : old.size = 8) (h1 : ∀ u ∈ v.cells.toList, oneC u = true) : (Instr.storeAt 83 (.pointer (some ⟨w.heap.size, 0, none⟩)) v).run Tryd.prog (w.alloc (.cells old t')) = .ok () (w.alloc (.cells v.cells t')) := r_storeNew inf83 hn ho h1
theorem r_sn_95 {w : World} {t' : TypeId} {old : Array Value} {v : Value} (hn : v.cells.size = 10) (ho : old.size = 10) (h1 : ∀ u ∈ v.cells.toList, oneC u = true) : (Instr.storeAt 95 (.pointer (some ⟨w.heap.size, 0, none⟩)) v).run Tryd.prog (w.alloc (.cells old t')) = .ok () (w.alloc (.cells v.cells t')) := r_storeNew inf95 hn ho h1
theorem U_st_23 {w : World} {b off : Nat} {v : Value} {K : Value → World → Prop} (hv : oneC v = true) (h : (w.cell? ⟨b, off, none⟩).isSome = true) (hf : w.frozen? ⟨b, off, none⟩ = false) : U Tryd.prog (Instr.storeAt 23 (.pointer (some ⟨b, off, none⟩)) v) w K ↔ K undef (w.setCell ⟨b, off, none⟩ v) := V_store inf23 hv h hf
theorem U_st_3 {w : World} {b off : Nat} {v : Value} {K : Value → World → Prop} (hv : oneC v = true) (h : (w.cell? ⟨b, off, none⟩).isSome = true) (hf : w.frozen? ⟨b, off, none⟩ = false) : U Tryd.prog (Instr.storeAt 3 (.pointer (some ⟨b, off, none⟩)) v) w K ↔ K undef (w.setCell ⟨b, off, none⟩ v) := V_store inf3 hv h hf
theorem U_st_30 {w : World} {b off : Nat} {v : Value} {K : Value → World → Prop} (hv : oneC v = true) (h : (w.cell? ⟨b, off, none⟩).isSome = true) (hf : w.frozen? ⟨b, off, none⟩ = false) : U Tryd.prog (Instr.storeAt 30 (.pointer (some ⟨b, off, none⟩)) v) w K ↔ K undef (w.setCell ⟨b, off, none⟩ v) := V_store inf30 hv h hf
theorem U_st_34 {w : World} {b off : Nat} {v : Value} {K : Value → World → Prop} (hv : oneC v = true) (h : (w.cell? ⟨b, off, none⟩).isSome = true) (hf : w.frozen? ⟨b, off, none⟩ = false) : U Tryd.prog (Instr.storeAt 34 (.pointer (some ⟨b, off, none⟩)) v) w K ↔ K undef (w.setCell ⟨b, off, none⟩ v) := V_store inf34 hv h hf
theorem U_st_4 {w : World} {b off : Nat} {v : Value} {K : Value → World → Prop} (hv : oneC v = true) (h : (w.cell? ⟨b, off, none⟩).isSome = true) (hf : w.frozen? ⟨b, off, none⟩ = false) : U Tryd.prog (Instr.storeAt 4 (.pointer (some ⟨b, off, none⟩)) v) w K ↔ K undef (w.setCell ⟨b, off, none⟩ v) := V_store inf4 hv h hf
theorem U_st_45 {w : World} {b off : Nat} {v : Value} {K : Value → World → Prop} (hv : oneC v = true) (h : (w.cell? ⟨b, off, none⟩).isSome = true) (hf : w.frozen? ⟨b, off, none⟩ = false) : U Tryd.prog (Instr.storeAt 45 (.pointer (some ⟨b, off, none⟩)) v) w K ↔ K undef (w.setCell ⟨b, off, none⟩ v) := V_store inf45 hv h hf
theorem V_al_25 {w : World} {K : Value → World → Prop} : V Tryd.prog (Instr.alloc 25 true (.tuple #[])) w K ↔ K (.pointer (some ⟨w.heap.size, 0, none⟩)) (w.alloc (.cells (Value.cells (.agg #[(.int .i64 0), (.int .i64 0), (.slice none 0 0)])) 25)) := V.iff (r_alloc inf25)
theorem V_al_41 {w : World} {K : Value → World → Prop} : V Tryd.prog (Instr.alloc 41 true (.tuple #[])) w K ↔ K (.pointer (some ⟨w.heap.size, 0, none⟩)) (w.alloc (.cells (Value.cells (.agg #[])) 41)) := V.iff (r_alloc inf41)
theorem V_al_43 {w : World} {K : Value → World → Prop} : V Tryd.prog (Instr.alloc 43 true (.tuple #[])) w K ↔ K (.pointer (some ⟨w.heap.size, 0, none⟩)) (w.alloc (.cells (Value.cells (.agg #[(.int .i64 0)])) 43)) := V.iff (r_alloc inf43)
theorem V_al_47 {w : World} {K : Value → World → Prop} : V Tryd.prog (Instr.alloc 47 true (.tuple #[])) w K ↔ K (.pointer (some ⟨w.heap.size, 0, none⟩)) (w.alloc (.cells (Value.cells (.agg #[(.int .i64 0), (.int .i64 0), (.slice none 0 0)])) 47)) := V.iff (r_alloc inf47)
theorem V_al_51 {w : World} {K : Value → World → Prop} : V Tryd.prog (Instr.alloc 51 true (.tuple #[])) w K ↔ K (.pointer (some ⟨w.heap.size, 0, none⟩)) (w.alloc (.cells (Value.cells (.agg #[(.int .i64 0), (.int .i32 0)])) 51)) := V.iff (r_alloc inf51)
theorem V_al_53 {w : World} {K : Value → World → Prop} : V Tryd.prog (Instr.alloc 53 true (.tuple #[])) w K ↔ K (.pointer (some ⟨w.heap.size, 0, none⟩)) (w.alloc (.cells (Value.cells (.agg #[(.int .i64 0)])) 53)) := V.iff (r_alloc inf53)
theorem V_al_55 {w : World} {K : Value → World → Prop} : V Tryd.prog (Instr.alloc 55 true (.tuple #[])) w K ↔ K (.pointer (some ⟨w.heap.size, 0, none⟩)) (w.alloc (.cells (Value.cells (.agg #[(.int .i64 0), (.int .i64 0)])) 55)) := V.iff (r_alloc inf55)
theorem V_al_57 {w : World} {K : Value → World → Prop} : V Tryd.prog (Instr.alloc 57 true (.tuple #[])) w K ↔ K (.pointer (some ⟨w.heap.size, 0, none⟩)) (w.alloc (.cells (Value.cells (.agg #[(.int .i64 0), (.int .i64 0)])) 57)) := V.iff (r_alloc inf57)
theorem V_al_59 {w : World} {K : Value → World → Prop} : V Tryd.prog (Instr.alloc 59 true (.tuple #[])) w K ↔ K (.pointer (some ⟨w.heap.size, 0, none⟩)) (w.alloc (.cells (Value.cells (.agg #[(.int .i64 0), (.int .i64 0), (.int .i64 0), (.int .i64 0)])) 59)) := V.iff (r_alloc inf59)
theorem V_al_61 {w : World} {K : Value → World → Prop} : V Tryd.prog (Instr.alloc 61 true (.tuple #[])) w K ↔ K (.pointer (some ⟨w.heap.size, 0, none⟩)) (w.alloc (.cells (Value.cells (.agg #[(.int .i64 0), (.int .i64 0), (.int .i64 0)])) 61)) := V.iff (r_alloc inf61)
theorem V_al_63 {w : World} {K : Value → World → Prop} : V Tryd.prog (Instr.alloc 63 true (.tuple #[])) w K ↔ K (.pointer (some ⟨w.heap.size, 0, none⟩)) (w.alloc (.cells (Value.cells (.agg #[(.int .i64 0), (.int .i64 0), (.int .i64 0), (.int .i64 0)])) 63)) := V.iff (r_alloc inf63)
theorem V_al_65 {w : World} {K : Value → World → Prop} : V Tryd.prog (Instr.alloc 65 true (.tuple #[])) w K ↔ K (.pointer (some ⟨w.heap.size, 0, none⟩)) (w.alloc (.cells (Value.cells (.agg #[(.int .i64 0), (.int .i64 0)])) 65)) := V.iff (r_alloc inf65)
theorem V_al_67 {w : World} {K : Value → World → Prop} : V Tryd.prog (Instr.alloc 67 true (.tuple #[])) w K ↔ K (.pointer (some ⟨w.heap.size, 0, none⟩)) (w.alloc (.cells (Value.cells (.agg #[(.int .i64 0), (.int .i64 0), (.int .i64 0), (.int .i64 0), (.slice none 0 0)])) 67)) := V.iff (r_alloc inf67)
theorem V_al_69 {w : World} {K : Value → World → Prop} : V Tryd.prog (Instr.alloc 69 true (.tuple #[])) w K ↔ K (.pointer (some ⟨w.heap.size, 0, none⟩)) (w.alloc (.cells (Value.cells (.agg #[(.int .i64 0), (.int .i64 0), (.slice none 0 0)])) 69)) := V.iff (r_alloc inf69)
theorem V_al_71 {w : World} {K : Value → World → Prop} : V Tryd.prog (Instr.alloc 71 true (.tuple #[])) w K ↔ K (.pointer (some ⟨w.heap.size, 0, none⟩)) (w.alloc (.cells (Value.cells (.agg #[(.int .i64 0), (.int .i64 0), (.slice none 0 0)])) 71)) := V.iff (r_alloc inf71)
theorem V_al_73 {w : World} {K : Value → World → Prop} : V Tryd.prog (Instr.alloc 73 true (.tuple #[])) w K ↔ K (.pointer (some ⟨w.heap.size, 0, none⟩)) (w.alloc (.cells (Value.cells (.agg #[(.int .i64 0), (.int .i64 0)])) 73)) := V.iff (r_alloc inf73)
theorem V_al_83 {w : World} {K : Value → World → Prop} : V Tryd.prog (Instr.alloc 83 true (.tuple #[])) w K ↔ K (.pointer (some ⟨w.heap.size, 0, none⟩)) (w.alloc (.cells (Value.cells (.agg #[(.int .i64 0), (.int .i64 0), (.int .i64 0), (.int .i64 0), (.int .i64 0), (.int .i64 0), (.int .i64 0), (.slice none 0 0)])) 83)) := V.iff (r_alloc inf83)
theorem V_al_95 {w : World} {K : Value → World → Prop} : V Tryd.prog (Instr.alloc 95 true (.tuple #[])) w K ↔ K (.pointer (some ⟨w.heap.size, 0, none⟩)) (w.alloc (.cells (Value.cells (.agg #[(.int .i64 0), (.int .i64 0), (.int .i64 0), (.int .i64 0), (.int .i64 0), (.int .i64 0), (.int .i64 0), (.int .i64 0), (.int .i64 0), (.int .i64 0)])) 95)) := V.iff (r_alloc inf95)
theorem V_as_25 {w : World} {v : Value} {K : Value → World → Prop} (hn : v.cells.size = 3) (h1 : ∀ u ∈ v.cells.toList, oneC u = true) : V Tryd.prog (Instr.alloc 25 true (.tuple #[])) w (fun p w1 => U Tryd.prog (Instr.storeAt 25 p v) w1 fun _ w2 => K p w2) ↔ K (.pointer (some ⟨w.heap.size, 0, none⟩)) (w.alloc (.cells v.cells 25)) := V_allocStore inf25 (by decide) hn h1
theorem V_as_41 {w : World} {v : Value} {K : Value → World → Prop} (hn : v.cells.size = 0) (h1 : ∀ u ∈ v.cells.toList, oneC u = true) : V Tryd.prog (Instr.alloc 41 true (.tuple #[])) w (fun p w1 => U Tryd.prog (Instr.storeAt 41 p v) w1 fun _ w2 => K p w2) ↔ K (.pointer (some ⟨w.heap.size, 0, none⟩)) (w.alloc (.cells v.cells 41)) := V_allocStore inf41 (by decide) hn h1
theorem V_as_43 {w : World} {v : Value} {K : Value → World → Prop} (hn : v.cells.size = 1) (h1 : ∀ u ∈ v.cells.toList, oneC u = true) : V Tryd.prog (Instr.alloc 43 true (.tuple #[])) w (fun p w1 => U Tryd.prog (Instr.storeAt 43 p v) w1 fun _ w2 => K p w2) ↔ K (.pointer (some ⟨w.heap.size, 0, none⟩)) (w.alloc (.cells v.cells 43)) := V_allocStore inf43 (by decide) hn h1
theorem V_as_47 {w : World} {v : Value} {K : Value → World → Prop} (hn : v.cells.size = 3) (h1 : ∀ u ∈ v.cells.toList, oneC u = true) : V Tryd.prog (Instr.alloc 47 true (.tuple #[])) w (fun p w1 => U Tryd.prog (Instr.storeAt 47 p v) w1 fun _ w2 => K p w2) ↔ K (.pointer (some ⟨w.heap.size, 0, none⟩)) (w.alloc (.cells v.cells 47)) := V_allocStore inf47 (by decide) hn h1
theorem V_as_51 {w : World} {v : Value} {K : Value → World → Prop} (hn : v.cells.size = 2) (h1 : ∀ u ∈ v.cells.toList, oneC u = true) : V Tryd.prog (Instr.alloc 51 true (.tuple #[])) w (fun p w1 => U Tryd.prog (Instr.storeAt 51 p v) w1 fun _ w2 => K p w2) ↔ K (.pointer (some ⟨w.heap.size, 0, none⟩)) (w.alloc (.cells v.cells 51)) := V_allocStore inf51 (by decide) hn h1
theorem V_as_53 {w : World} {v : Value} {K : Value → World → Prop} (hn : v.cells.size = 1) (h1 : ∀ u ∈ v.cells.toList, oneC u = true) : V Tryd.prog (Instr.alloc 53 true (.tuple #[])) w (fun p w1 => U Tryd.prog (Instr.storeAt 53 p v) w1 fun _ w2 => K p w2) ↔ K (.pointer (some ⟨w.heap.size, 0, none⟩)) (w.alloc (.cells v.cells 53)) := V_allocStore inf53 (by decide) hn h1
theorem V_as_55 {w : World} {v : Value} {K : Value → World → Prop} (hn : v.cells.size = 2) (h1 : ∀ u ∈ v.cells.toList, oneC u = true) : V Tryd.prog (Instr.alloc 55 true (.tuple #[])) w (fun p w1 => U Tryd.prog (Instr.storeAt 55 p v) w1 fun _ w2 => K p w2) ↔ K (.pointer (some ⟨w.heap.size, 0, none⟩)) (w.alloc (.cells v.cells 55)) := V_allocStore inf55 (by decide) hn h1
theorem V_as_57 {w : World} {v : Value} {K : Value → World → Prop} (hn : v.cells.size = 2) (h1 : ∀ u ∈ v.cells.toList, oneC u = true) : V Tryd.prog (Instr.alloc 57 true (.tuple #[])) w (fun p w1 => U Tryd.prog (Instr.storeAt 57 p v) w1 fun _ w2 => K p w2) ↔ K (.pointer (some ⟨w.heap.size, 0, none⟩)) (w.alloc (.cells v.cells 57)) := V_allocStore inf57 (by decide) hn h1
theorem V_as_59 {w : World} {v : Value} {K : Value → World → Prop} (hn : v.cells.size = 4) (h1 : ∀ u ∈ v.cells.toList, oneC u = true) : V Tryd.prog (Instr.alloc 59 true (.tuple #[])) w (fun p w1 => U Tryd.prog (Instr.storeAt 59 p v) w1 fun _ w2 => K p w2) ↔ K (.pointer (some ⟨w.heap.size, 0, none⟩)) (w.alloc (.cells v.cells 59)) := V_allocStore inf59 (by decide) hn h1
theorem V_as_61 {w : World} {v : Value} {K : Value → World → Prop} (hn : v.cells.size = 3) (h1 : ∀ u ∈ v.cells.toList, oneC u = true) : V Tryd.prog (Instr.alloc 61 true (.tuple #[])) w (fun p w1 => U Tryd.prog (Instr.storeAt 61 p v) w1 fun _ w2 => K p w2) ↔ K (.pointer (some ⟨w.heap.size, 0, none⟩)) (w.alloc (.cells v.cells 61)) := V_allocStore inf61 (by decide) hn h1
theorem V_as_63 {w : World} {v : Value} {K : Value → World → Prop} (hn : v.cells.size = 4) (h1 : ∀ u ∈ v.cells.toList, oneC u = true) : V Tryd.prog (Instr.alloc 63 true (.tuple #[])) w (fun p w1 => U Tryd.prog (Instr.storeAt 63 p v) w1 fun _ w2 => K p w2) ↔ K (.pointer (some ⟨w.heap.size, 0, none⟩)) (w.alloc (.cells v.cells 63)) := V_allocStore inf63 (by decide) hn h1
theorem V_as_65 {w : World} {v : Value} {K : Value → World → Prop} (hn : v.cells.size = 2) (h1 : ∀ u ∈ v.cells.toList, oneC u = true) : V Tryd.prog (Instr.alloc 65 true (.tuple #[])) w (fun p w1 => U Tryd.prog (Instr.storeAt 65 p v) w1 fun _ w2 => K p w2) ↔ K (.pointer (some ⟨w.heap.size, 0, none⟩)) (w.alloc (.cells v.cells 65)) := V_allocStore inf65 (by decide) hn h1
theorem V_as_67 {w : World} {v : Value} {K : Value → World → Prop} (hn : v.cells.size = 5) (h1 : ∀ u ∈ v.cells.toList, oneC u = true) : V Tryd.prog (Instr.alloc 67 true (.tuple #[])) w (fun p w1 => U Tryd.prog (Instr.storeAt 67 p v) w1 fun _ w2 => K p w2) ↔ K (.pointer (some ⟨w.heap.size, 0, none⟩)) (w.alloc (.cells v.cells 67)) := V_allocStore inf67 (by decide) hn h1
theorem V_as_69 {w : World} {v : Value} {K : Value → World → Prop} (hn : v.cells.size = 3) (h1 : ∀ u ∈ v.cells.toList, oneC u = true) : V Tryd.prog (Instr.alloc 69 true (.tuple #[])) w (fun p w1 => U Tryd.prog (Instr.storeAt 69 p v) w1 fun _ w2 => K p w2) ↔ K (.pointer (some ⟨w.heap.size, 0, none⟩)) (w.alloc (.cells v.cells 69)) := V_allocStore inf69 (by decide) hn h1
theorem V_as_71 {w : World} {v : Value} {K : Value → World → Prop} (hn : v.cells.size = 3) (h1 : ∀ u ∈ v.cells.toList, oneC u = true) : V Tryd.prog (Instr.alloc 71 true (.tuple #[])) w (fun p w1 => U Tryd.prog (Instr.storeAt 71 p v) w1 fun _ w2 => K p w2) ↔ K (.pointer (some ⟨w.heap.size, 0, none⟩)) (w.alloc (.cells v.cells 71)) := V_allocStore inf71 (by decide) hn h1
theorem V_as_73 {w : World} {v : Value} {K : Value → World → Prop} (hn : v.cells.size = 2) (h1 : ∀ u ∈ v.cells.toList, oneC u = true) : V Tryd.prog (Instr.alloc 73 true (.tuple #[])) w (fun p w1 => U Tryd.prog (Instr.storeAt 73 p v) w1 fun _ w2 => K p w2) ↔ K (.pointer (some ⟨w.heap.size, 0, none⟩)) (w.alloc (.cells v.cells 73)) := V_allocStore inf73 (by decide) hn h1
theorem V_as_83 {w : World} {v : Value} {K : Value → World → Prop} (hn : v.cells.size = 8) (h1 : ∀ u ∈ v.cells.toList, oneC u = true) : V Tryd.prog (Instr.alloc 83 true (.tuple #[])) w (fun p w1 => U Tryd.prog (Instr.storeAt 83 p v) w1 fun _ w2 => K p w2) ↔ K (.pointer (some ⟨w.heap.size, 0, none⟩)) (w.alloc (.cells v.cells 83)) := V_allocStore inf83 (by decide) hn h1
theorem V_as_95 {w : World} {v : Value} {K : Value → World → Prop} (hn : v.cells.size = 10) (h1 : ∀ u ∈ v.cells.toList, oneC u = true) : V Tryd.prog (Instr.alloc 95 true (.tuple #[])) w (fun p w1 => U Tryd.prog (Instr.storeAt 95 p v) w1 fun _ w2 => K p w2) ↔ K (.pointer (some ⟨w.heap.size, 0, none⟩)) (w.alloc (.cells v.cells 95)) := V_allocStore inf95 (by decide) hn h1
theorem V_bs_23_1 {w : World} {v0 : Value} {K : Value → World → Prop} (h0 : oneC v0 = true) : V Tryd.prog (Instr.buildSlice 23 1 #[(0, v0)]) w K ↔ K (.slice (some ⟨w.heap.size, 0, none⟩) 1 1) (w.alloc (.cells #[v0] 34)) := V.iff (r_buildSlice Tryd.underlying23 inf34 rfl [v0] (by simp) (by simp [h0]))
theorem V_bs_23_2 {w : World} {v0 v1 : Value} {K : Value → World → Prop} (h0 : oneC v0 = true) (h1 : oneC v1 = true) : V Tryd.prog (Instr.buildSlice 23 2 #[(0, v0), (1, v1)]) w K ↔ K (.slice (some ⟨w.heap.size, 0, none⟩) 2 2) (w.alloc (.cells #[v0, v1] 34)) := V.iff (r_buildSlice Tryd.underlying23 inf34 rfl [v0, v1] (by simp) (by simp [h0, h1]))
theorem V_bs_30_0 {w : World} {K : Value → World → Prop} : V Tryd.prog (Instr.buildSlice 30 0 #[]) w K ↔ K (.slice (some ⟨w.heap.size, 0, none⟩) 0 0) (w.alloc (.cells #[] 4)) := V.iff (r_buildSlice Tryd.underlying30 inf4 rfl [] (by simp) (by simp))
theorem V_bs_31_0 {w : World} {K : Value → World → Prop} : V Tryd.prog (Instr.buildSlice 31 0 #[]) w K ↔ K (.slice (some ⟨w.heap.size, 0, none⟩) 0 0) (w.alloc (.cells #[] 3)) := V.iff (r_buildSlice Tryd.underlying31 inf3 rfl [] (by simp) (by simp))
theorem V_bs_31_1 {w : World} {v0 : Value} {K : Value → World → Prop} (h0 : oneC v0 = true) : V Tryd.prog (Instr.buildSlice 31 1 #[(0, v0)]) w K ↔ K (.slice (some ⟨w.heap.size, 0, none⟩) 1 1) (w.alloc (.cells #[v0] 3)) := V.iff (r_buildSlice Tryd.underlying31 inf3 rfl [v0] (by simp) (by simp [h0]))
theorem V_bs_31_2 {w : World} {v0 v1 : Value} {K : Value → World → Prop} (h0 : oneC v0 = true) (h1 : oneC v1 = true) : V Tryd.prog (Instr.buildSlice 31 2 #[(0, v0), (1, v1)]) w K ↔ K (.slice (some ⟨w.heap.size, 0, none⟩) 2 2) (w.alloc (.cells #[v0, v1] 3)) := V.iff (r_buildSlice Tryd.underlying31 inf3 rfl [v0, v1] (by simp) (by simp [h0, h1]))
theorem V_bs_31_3 {w : World} {v0 v1 v2 : Value} {K : Value → World → Prop} (h0 : oneC v0 = true) (h1 : oneC v1 = true) (h2 : oneC v2 = true) : V Tryd.prog (Instr.buildSlice 31 3 #[(0, v0), (1, v1), (2, v2)]) w K ↔ K (.slice (some ⟨w.heap.size, 0, none⟩) 3 3) (w.alloc (.cells #[v0, v1, v2] 3)) := V.iff (r_buildSlice Tryd.underlying31 inf3 rfl [v0, v1, v2] (by simp) (by simp [h0, h1, h2]))
theorem V_bx_25 {w : World} {v : Value} {K : Value → World → Prop} : V Tryd.prog (Instr.box 25 v) w K ↔ K (.pointer (some ⟨w.heap.size, 0, none⟩)) (w.alloc (.cells v.cells 25)) := V.iff r_box
theorem V_bx_3 {w : World} {v : Value} {K : Value → World → Prop} : V Tryd.prog (Instr.box 3 v) w K ↔ K (.pointer (some ⟨w.heap.size, 0, none⟩)) (w.alloc (.cells v.cells 3)) := V.iff r_box
theorem V_bx_47 {w : World} {v : Value} {K : Value → World → Prop} : V Tryd.prog (Instr.box 47 v) w K ↔ K (.pointer (some ⟨w.heap.size, 0, none⟩)) (w.alloc (.cells v.cells 47)) := V.iff r_box
theorem V_bx_81 {w : World} {v : Value} {K : Value → World → Prop} : V Tryd.prog (Instr.box 81 v) w K ↔ K (.pointer (some ⟨w.heap.size, 0, none⟩)) (w.alloc (.cells v.cells 81)) := V.iff r_box
theorem V_bx_83 {w : World} {v : Value} {K : Value → World → Prop} : V Tryd.prog (Instr.box 83 v) w K ↔ K (.pointer (some ⟨w.heap.size, 0, none⟩)) (w.alloc (.cells v.cells 83)) := V.iff r_box
theorem V_cv_21_3 {w : World} {k : IntKind} {n : Int} {K : Value → World → Prop} : V Tryd.prog (convert 21 3 (.int k n)) w K ↔ K (.int .i64 (IntKind.wrap .i64 n)) w := V.iff (r_convI Tryd.underlying21 Tryd.underlying3)
theorem V_cv_3_21 {w : World} {k : IntKind} {n : Int} {K : Value → World → Prop} : V Tryd.prog (convert 3 21 (.int k n)) w K ↔ K (.int .i32 (IntKind.wrap .i32 n)) w := V.iff (r_convI Tryd.underlying3 Tryd.underlying21)
theorem V_eqni_34 {w : World} {x y : Operand} {t : TypeId} {v : Value} {K : Value → World → Prop} : V Tryd.prog (do eqGuard .eql 34 x y (.iface t v) .nilIface; binOp .eql 34 (.iface t v) .nilIface) w K ↔ K (.bool false) w := V.iff (r_eqNilIface Tryd.underlying34)
theorem V_eqnn_34 {w : World} {x : Operand} {c : Value} {K : Value → World → Prop} : V Tryd.prog (do eqGuard .eql 34 x (.const c) .nilIface .nilIface; binOp .eql 34 .nilIface .nilIface) w K ↔ K (.bool true) w := V.iff (r_eqNilNil Tryd.underlying34)
theorem V_eqns_30 {w : World} {x y : Operand} {a : Option Addr} {n c : Nat} {K : Value → World → Prop} : V Tryd.prog (do eqGuard .eql 30 x y (.slice a n c) (.slice none 0 0); binOp .eql 30 (.slice a n c) (.slice none 0 0)) w K ↔ K (.bool a.isNone) w := V.iff (r_eqNilSlice Tryd.underlying30)
theorem V_eqns_31 {w : World} {x y : Operand} {a : Option Addr} {n c : Nat} {K : Value → World → Prop} : V Tryd.prog (do eqGuard .eql 31 x y (.slice a n c) (.slice none 0 0); binOp .eql 31 (.slice a n c) (.slice none 0 0)) w K ↔ K (.bool a.isNone) w := V.iff (r_eqNilSlice Tryd.underlying31)
theorem V_fd_25_0 {w : World} {b off : Nat} {K : Value → World → Prop} : V Tryd.prog (Instr.fieldAt 25 (.pointer (some ⟨b, off, none⟩)) 0) w K ↔ K (.pointer (some ⟨b, off + 0, none⟩)) w := V.iff (r_fd_25_0)
theorem V_fd_25_1 {w : World} {b off : Nat} {K : Value → World → Prop} : V Tryd.prog (Instr.fieldAt 25 (.pointer (some ⟨b, off, none⟩)) 1) w K ↔ K (.pointer (some ⟨b, off + 1, none⟩)) w := V.iff (r_fd_25_1)
theorem V_fd_25_2 {w : World} {b off : Nat} {K : Value → World → Prop} : V Tryd.prog (Instr.fieldAt 25 (.pointer (some ⟨b, off, none⟩)) 2) w K ↔ K (.pointer (some ⟨b, off + 2, none⟩)) w := V.iff (r_fd_25_2)
theorem V_fd_43_0 {w : World} {b off : Nat} {K : Value → World → Prop} : V Tryd.prog (Instr.fieldAt 43 (.pointer (some ⟨b, off, none⟩)) 0) w K ↔ K (.pointer (some ⟨b, off + 0, none⟩)) w := V.iff (r_fd_43_0)
theorem V_fd_47_0 {w : World} {b off : Nat} {K : Value → World → Prop} : V Tryd.prog (Instr.fieldAt 47 (.pointer (some ⟨b, off, none⟩)) 0) w K ↔ K (.pointer (some ⟨b, off + 0, none⟩)) w := V.iff (r_fd_47_0)
theorem V_fd_47_1 {w : World} {b off : Nat} {K : Value → World → Prop} : V Tryd.prog (Instr.fieldAt 47 (.pointer (some ⟨b, off, none⟩)) 1) w K ↔ K (.pointer (some ⟨b, off + 1, none⟩)) w := V.iff (r_fd_47_1)
theorem V_fd_47_2 {w : World} {b off : Nat} {K : Value → World → Prop} : V Tryd.prog (Instr.fieldAt 47 (.pointer (some ⟨b, off, none⟩)) 2) w K ↔ K (.pointer (some ⟨b, off + 2, none⟩)) w := V.iff (r_fd_47_2)
theorem V_fd_51_0 {w : World} {b off : Nat} {K : Value → World → Prop} : V Tryd.prog (Instr.fieldAt 51 (.pointer (some ⟨b, off, none⟩)) 0) w K ↔ K (.pointer (some ⟨b, off + 0, none⟩)) w := V.iff (r_fd_51_0)
theorem V_fd_51_1 {w : World} {b off : Nat} {K : Value → World → Prop} : V Tryd.prog (Instr.fieldAt 51 (.pointer (some ⟨b, off, none⟩)) 1) w K ↔ K (.pointer (some ⟨b, off + 1, none⟩)) w := V.iff (r_fd_51_1)
theorem V_fd_53_0 {w : World} {b off : Nat} {K : Value → World → Prop} : V Tryd.prog (Instr.fieldAt 53 (.pointer (some ⟨b, off, none⟩)) 0) w K ↔ K (.pointer (some ⟨b, off + 0, none⟩)) w := V.iff (r_fd_53_0)
theorem V_fd_55_0 {w : World} {b off : Nat} {K : Value → World → Prop} : V Tryd.prog (Instr.fieldAt 55 (.pointer (some ⟨b, off, none⟩)) 0) w K ↔ K (.pointer (some ⟨b, off + 0, none⟩)) w := V.iff (r_fd_55_0)
theorem V_fd_55_1 {w : World} {b off : Nat} {K : Value → World → Prop} : V Tryd.prog (Instr.fieldAt 55 (.pointer (some ⟨b, off, none⟩)) 1) w K ↔ K (.pointer (some ⟨b, off + 1, none⟩)) w := V.iff (r_fd_55_1)
theorem V_fd_57_0 {w : World} {b off : Nat} {K : Value → World → Prop} : V Tryd.prog (Instr.fieldAt 57 (.pointer (some ⟨b, off, none⟩)) 0) w K ↔ K (.pointer (some ⟨b, off + 0, none⟩)) w := V.iff (r_fd_57_0)
theorem V_fd_57_1 {w : World} {b off : Nat} {K : Value → World → Prop} : V Tryd.prog (Instr.fieldAt 57 (.pointer (some ⟨b, off, none⟩)) 1) w K ↔ K (.pointer (some ⟨b, off + 1, none⟩)) w := V.iff (r_fd_57_1)
theorem V_fd_59_0 {w : World} {b off : Nat} {K : Value → World → Prop} : V Tryd.prog (Instr.fieldAt 59 (.pointer (some ⟨b, off, none⟩)) 0) w K ↔ K (.pointer (some ⟨b, off + 0, none⟩)) w := V.iff (r_fd_59_0)
theorem V_fd_59_1 {w : World} {b off : Nat} {K : Value → World → Prop} : V Tryd.prog (Instr.fieldAt 59 (.pointer (some ⟨b, off, none⟩)) 1) w K ↔ K (.pointer (some ⟨b, off + 1, none⟩)) w := V.iff (r_fd_59_1)
theorem V_fd_59_2 {w : World} {b off : Nat} {K : Value → World → Prop} : V Tryd.prog (Instr.fieldAt 59 (.pointer (some ⟨b, off, none⟩)) 2) w K ↔ K (.pointer (some ⟨b, off + 2, none⟩)) w := V.iff (r_fd_59_2)
theorem V_fd_59_3 {w : World} {b off : Nat} {K : Value → World → Prop} : V Tryd.prog (Instr.fieldAt 59 (.pointer (some ⟨b, off, none⟩)) 3) w K ↔ K (.pointer (some ⟨b, off + 3, none⟩)) w := V.iff (r_fd_59_3)
theorem V_fd_61_0 {w : World} {b off : Nat} {K : Value → World → Prop} : V Tryd.prog (Instr.fieldAt 61 (.pointer (some ⟨b, off, none⟩)) 0) w K ↔ K (.pointer (some ⟨b, off + 0, none⟩)) w := V.iff (r_fd_61_0)
theorem V_fd_61_1 {w : World} {b off : Nat} {K : Value → World → Prop} : V Tryd.prog (Instr.fieldAt 61 (.pointer (some ⟨b, off, none⟩)) 1) w K ↔ K (.pointer (some ⟨b, off + 1, none⟩)) w := V.iff (r_fd_61_1)
theorem V_fd_61_2 {w : World} {b off : Nat} {K : Value → World → Prop} : V Tryd.prog (Instr.fieldAt 61 (.pointer (some ⟨b, off, none⟩)) 2) w K ↔ K (.pointer (some ⟨b, off + 2, none⟩)) w := V.iff (r_fd_61_2)
theorem V_fd_63_0 {w : World} {b off : Nat} {K : Value → World → Prop} : V Tryd.prog (Instr.fieldAt 63 (.pointer (some ⟨b, off, none⟩)) 0) w K ↔ K (.pointer (some ⟨b, off + 0, none⟩)) w := V.iff (r_fd_63_0)
theorem V_fd_63_1 {w : World} {b off : Nat} {K : Value → World → Prop} : V Tryd.prog (Instr.fieldAt 63 (.pointer (some ⟨b, off, none⟩)) 1) w K ↔ K (.pointer (some ⟨b, off + 1, none⟩)) w := V.iff (r_fd_63_1)
theorem V_fd_63_2 {w : World} {b off : Nat} {K : Value → World → Prop} : V Tryd.prog (Instr.fieldAt 63 (.pointer (some ⟨b, off, none⟩)) 2) w K ↔ K (.pointer (some ⟨b, off + 2, none⟩)) w := V.iff (r_fd_63_2)
theorem V_fd_63_3 {w : World} {b off : Nat} {K : Value → World → Prop} : V Tryd.prog (Instr.fieldAt 63 (.pointer (some ⟨b, off, none⟩)) 3) w K ↔ K (.pointer (some ⟨b, off + 3, none⟩)) w := V.iff (r_fd_63_3)
theorem V_fd_65_0 {w : World} {b off : Nat} {K : Value → World → Prop} : V Tryd.prog (Instr.fieldAt 65 (.pointer (some ⟨b, off, none⟩)) 0) w K ↔ K (.pointer (some ⟨b, off + 0, none⟩)) w := V.iff (r_fd_65_0)
theorem V_fd_65_1 {w : World} {b off : Nat} {K : Value → World → Prop} : V Tryd.prog (Instr.fieldAt 65 (.pointer (some ⟨b, off, none⟩)) 1) w K ↔ K (.pointer (some ⟨b, off + 1, none⟩)) w := V.iff (r_fd_65_1)
theorem V_fd_67_0 {w : World} {b off : Nat} {K : Value → World → Prop} : V Tryd.prog (Instr.fieldAt 67 (.pointer (some ⟨b, off, none⟩)) 0) w K ↔ K (.pointer (some ⟨b, off + 0, none⟩)) w := V.iff (r_fd_67_0)
theorem V_fd_67_1 {w : World} {b off : Nat} {K : Value → World → Prop} : V Tryd.prog (Instr.fieldAt 67 (.pointer (some ⟨b, off, none⟩)) 1) w K ↔ K (.pointer (some ⟨b, off + 1, none⟩)) w := V.iff (r_fd_67_1)
theorem V_fd_67_2 {w : World} {b off : Nat} {K : Value → World → Prop} : V Tryd.prog (Instr.fieldAt 67 (.pointer (some ⟨b, off, none⟩)) 2) w K ↔ K (.pointer (some ⟨b, off + 2, none⟩)) w := V.iff (r_fd_67_2)
theorem V_fd_67_3 {w : World} {b off : Nat} {K : Value → World → Prop} : V Tryd.prog (Instr.fieldAt 67 (.pointer (some ⟨b, off, none⟩)) 3) w K ↔ K (.pointer (some ⟨b, off + 3, none⟩)) w := V.iff (r_fd_67_3)
theorem V_fd_67_4 {w : World} {b off : Nat} {K : Value → World → Prop} : V Tryd.prog (Instr.fieldAt 67 (.pointer (some ⟨b, off, none⟩)) 4) w K ↔ K (.pointer (some ⟨b, off + 4, none⟩)) w := V.iff (r_fd_67_4)
theorem V_fd_69_0 {w : World} {b off : Nat} {K : Value → World → Prop} : V Tryd.prog (Instr.fieldAt 69 (.pointer (some ⟨b, off, none⟩)) 0) w K ↔ K (.pointer (some ⟨b, off + 0, none⟩)) w := V.iff (r_fd_69_0)
theorem V_fd_69_1 {w : World} {b off : Nat} {K : Value → World → Prop} : V Tryd.prog (Instr.fieldAt 69 (.pointer (some ⟨b, off, none⟩)) 1) w K ↔ K (.pointer (some ⟨b, off + 1, none⟩)) w := V.iff (r_fd_69_1)
theorem V_fd_69_2 {w : World} {b off : Nat} {K : Value → World → Prop} : V Tryd.prog (Instr.fieldAt 69 (.pointer (some ⟨b, off, none⟩)) 2) w K ↔ K (.pointer (some ⟨b, off + 2, none⟩)) w := V.iff (r_fd_69_2)
theorem V_fd_71_0 {w : World} {b off : Nat} {K : Value → World → Prop} : V Tryd.prog (Instr.fieldAt 71 (.pointer (some ⟨b, off, none⟩)) 0) w K ↔ K (.pointer (some ⟨b, off + 0, none⟩)) w := V.iff (r_fd_71_0)
theorem V_fd_71_1 {w : World} {b off : Nat} {K : Value → World → Prop} : V Tryd.prog (Instr.fieldAt 71 (.pointer (some ⟨b, off, none⟩)) 1) w K ↔ K (.pointer (some ⟨b, off + 1, none⟩)) w := V.iff (r_fd_71_1)
theorem V_fd_71_2 {w : World} {b off : Nat} {K : Value → World → Prop} : V Tryd.prog (Instr.fieldAt 71 (.pointer (some ⟨b, off, none⟩)) 2) w K ↔ K (.pointer (some ⟨b, off + 2, none⟩)) w := V.iff (r_fd_71_2)
theorem V_fd_73_0 {w : World} {b off : Nat} {K : Value → World → Prop} : V Tryd.prog (Instr.fieldAt 73 (.pointer (some ⟨b, off, none⟩)) 0) w K ↔ K (.pointer (some ⟨b, off + 0, none⟩)) w := V.iff (r_fd_73_0)
theorem V_fd_73_1 {w : World} {b off : Nat} {K : Value → World → Prop} : V Tryd.prog (Instr.fieldAt 73 (.pointer (some ⟨b, off, none⟩)) 1) w K ↔ K (.pointer (some ⟨b, off + 1, none⟩)) w := V.iff (r_fd_73_1)
theorem V_fd_81_0 {w : World} {b off : Nat} {K : Value → World → Prop} : V Tryd.prog (Instr.fieldAt 81 (.pointer (some ⟨b, off, none⟩)) 0) w K ↔ K (.pointer (some ⟨b, off + 0, none⟩)) w := V.iff (r_fd_81_0)
theorem V_fd_81_1 {w : World} {b off : Nat} {K : Value → World → Prop} : V Tryd.prog (Instr.fieldAt 81 (.pointer (some ⟨b, off, none⟩)) 1) w K ↔ K (.pointer (some ⟨b, off + 1, none⟩)) w := V.iff (r_fd_81_1)
theorem V_fd_81_2 {w : World} {b off : Nat} {K : Value → World → Prop} : V Tryd.prog (Instr.fieldAt 81 (.pointer (some ⟨b, off, none⟩)) 2) w K ↔ K (.pointer (some ⟨b, off + 2, none⟩)) w := V.iff (r_fd_81_2)
theorem V_fd_81_3 {w : World} {b off : Nat} {K : Value → World → Prop} : V Tryd.prog (Instr.fieldAt 81 (.pointer (some ⟨b, off, none⟩)) 3) w K ↔ K (.pointer (some ⟨b, off + 3, none⟩)) w := V.iff (r_fd_81_3)
theorem V_fd_81_4 {w : World} {b off : Nat} {K : Value → World → Prop} : V Tryd.prog (Instr.fieldAt 81 (.pointer (some ⟨b, off, none⟩)) 4) w K ↔ K (.pointer (some ⟨b, off + 4, none⟩)) w := V.iff (r_fd_81_4)
theorem V_fd_81_5 {w : World} {b off : Nat} {K : Value → World → Prop} : V Tryd.prog (Instr.fieldAt 81 (.pointer (some ⟨b, off, none⟩)) 5) w K ↔ K (.pointer (some ⟨b, off + 5, none⟩)) w := V.iff (r_fd_81_5)
theorem V_fd_81_6 {w : World} {b off : Nat} {K : Value → World → Prop} : V Tryd.prog (Instr.fieldAt 81 (.pointer (some ⟨b, off, none⟩)) 6) w K ↔ K (.pointer (some ⟨b, off + 6, none⟩)) w := V.iff (r_fd_81_6)
theorem V_fd_81_7 {w : World} {b off : Nat} {K : Value → World → Prop} : V Tryd.prog (Instr.fieldAt 81 (.pointer (some ⟨b, off, none⟩)) 7) w K ↔ K (.pointer (some ⟨b, off + 7, none⟩)) w := V.iff (r_fd_81_7)
theorem V_fd_81_8 {w : World} {b off : Nat} {K : Value → World → Prop} : V Tryd.prog (Instr.fieldAt 81 (.pointer (some ⟨b, off, none⟩)) 8) w K ↔ K (.pointer (some ⟨b, off + 8, none⟩)) w := V.iff (r_fd_81_8)
theorem V_fd_83_0 {w : World} {b off : Nat} {K : Value → World → Prop} : V Tryd.prog (Instr.fieldAt 83 (.pointer (some ⟨b, off, none⟩)) 0) w K ↔ K (.pointer (some ⟨b, off + 0, none⟩)) w := V.iff (r_fd_83_0)
theorem V_fd_83_1 {w : World} {b off : Nat} {K : Value → World → Prop} : V Tryd.prog (Instr.fieldAt 83 (.pointer (some ⟨b, off, none⟩)) 1) w K ↔ K (.pointer (some ⟨b, off + 1, none⟩)) w := V.iff (r_fd_83_1)
theorem V_fd_83_2 {w : World} {b off : Nat} {K : Value → World → Prop} : V Tryd.prog (Instr.fieldAt 83 (.pointer (some ⟨b, off, none⟩)) 2) w K ↔ K (.pointer (some ⟨b, off + 2, none⟩)) w := V.iff (r_fd_83_2)
theorem V_fd_83_3 {w : World} {b off : Nat} {K : Value → World → Prop} : V Tryd.prog (Instr.fieldAt 83 (.pointer (some ⟨b, off, none⟩)) 3) w K ↔ K (.pointer (some ⟨b, off + 3, none⟩)) w := V.iff (r_fd_83_3)
theorem V_fd_83_6 {w : World} {b off : Nat} {K : Value → World → Prop} : V Tryd.prog (Instr.fieldAt 83 (.pointer (some ⟨b, off, none⟩)) 6) w K ↔ K (.pointer (some ⟨b, off + 6, none⟩)) w := V.iff (r_fd_83_6)
theorem V_fd_83_7 {w : World} {b off : Nat} {K : Value → World → Prop} : V Tryd.prog (Instr.fieldAt 83 (.pointer (some ⟨b, off, none⟩)) 7) w K ↔ K (.pointer (some ⟨b, off + 7, none⟩)) w := V.iff (r_fd_83_7)
theorem V_ix_22 {w : World} {b off len cap : Nat} {k : IntKind} {i : Int} {K : Value → World → Prop} (h0 : 0 ≤ i) (h1 : i < len) : V Tryd.prog (Instr.indexAt 22 (.slice (some ⟨b, off, none⟩) len cap) (.int k i)) w K ↔ K (.pointer (some ⟨b, off + i.toNat * 9, none⟩)) w := V.iff (r_ix_22 h0 h1)
theorem V_ix_23 {w : World} {b off len cap : Nat} {k : IntKind} {i : Int} {K : Value → World → Prop} (h0 : 0 ≤ i) (h1 : i < len) : V Tryd.prog (Instr.indexAt 23 (.slice (some ⟨b, off, none⟩) len cap) (.int k i)) w K ↔ K (.pointer (some ⟨b, off + i.toNat * 1, none⟩)) w := V.iff (r_ix_23 h0 h1)
theorem V_ix_27 {w : World} {b off len cap : Nat} {k : IntKind} {i : Int} {K : Value → World → Prop} (h0 : 0 ≤ i) (h1 : i < len) : V Tryd.prog (Instr.indexAt 27 (.slice (some ⟨b, off, none⟩) len cap) (.int k i)) w K ↔ K (.pointer (some ⟨b, off + i.toNat * 1, none⟩)) w := V.iff (r_ix_27 h0 h1)
theorem V_ix_30 {w : World} {b off len cap : Nat} {k : IntKind} {i : Int} {K : Value → World → Prop} (h0 : 0 ≤ i) (h1 : i < len) : V Tryd.prog (Instr.indexAt 30 (.slice (some ⟨b, off, none⟩) len cap) (.int k i)) w K ↔ K (.pointer (some ⟨b, off + i.toNat * 1, none⟩)) w := V.iff (r_ix_30 h0 h1)
theorem V_ix_31 {w : World} {b off len cap : Nat} {k : IntKind} {i : Int} {K : Value → World → Prop} (h0 : 0 ≤ i) (h1 : i < len) : V Tryd.prog (Instr.indexAt 31 (.slice (some ⟨b, off, none⟩) len cap) (.int k i)) w K ↔ K (.pointer (some ⟨b, off + i.toNat * 1, none⟩)) w := V.iff (r_ix_31 h0 h1)
theorem V_ix_45 {w : World} {b off len cap : Nat} {k : IntKind} {i : Int} {K : Value → World → Prop} (h0 : 0 ≤ i) (h1 : i < len) : V Tryd.prog (Instr.indexAt 45 (.slice (some ⟨b, off, none⟩) len cap) (.int k i)) w K ↔ K (.pointer (some ⟨b, off + i.toNat * 8, none⟩)) w := V.iff (r_ix_45 h0 h1)
theorem V_ld_21 {w : World} {a : Addr} {K : Value → World → Prop} : V Tryd.prog (Instr.loadAt 21 (.pointer (some a))) w K ↔ ldO Tryd.prog 21 a (w.cell? a) w K := V_load Tryd.underlying21 rfl
theorem V_ld_23 {w : World} {a : Addr} {K : Value → World → Prop} : V Tryd.prog (Instr.loadAt 23 (.pointer (some a))) w K ↔ ldO Tryd.prog 23 a (w.cell? a) w K := V_load Tryd.underlying23 rfl
theorem V_ld_3 {w : World} {a : Addr} {K : Value → World → Prop} : V Tryd.prog (Instr.loadAt 3 (.pointer (some a))) w K ↔ ldO Tryd.prog 3 a (w.cell? a) w K := V_load Tryd.underlying3 rfl
theorem V_ld_30 {w : World} {a : Addr} {K : Value → World → Prop} : V Tryd.prog (Instr.loadAt 30 (.pointer (some a))) w K ↔ ldO Tryd.prog 30 a (w.cell? a) w K := V_load Tryd.underlying30 rfl
theorem V_ld_31 {w : World} {a : Addr} {K : Value → World → Prop} : V Tryd.prog (Instr.loadAt 31 (.pointer (some a))) w K ↔ ldO Tryd.prog 31 a (w.cell? a) w K := V_load Tryd.underlying31 rfl
theorem V_ld_34 {w : World} {a : Addr} {K : Value → World → Prop} : V Tryd.prog (Instr.loadAt 34 (.pointer (some a))) w K ↔ ldO Tryd.prog 34 a (w.cell? a) w K := V_load Tryd.underlying34 rfl
theorem V_ld_4 {w : World} {a : Addr} {K : Value → World → Prop} : V Tryd.prog (Instr.loadAt 4 (.pointer (some a))) w K ↔ ldO Tryd.prog 4 a (w.cell? a) w K := V_load Tryd.underlying4 rfl
theorem V_ld_45 {w : World} {a : Addr} {K : Value → World → Prop} : V Tryd.prog (Instr.loadAt 45 (.pointer (some a))) w K ↔ ldO Tryd.prog 45 a (w.cell? a) w K := V_load Tryd.underlying45 rfl
theorem V_ln_22 {w : World} {ty : TypeId} {a : Option Addr} {n c : Nat} {K : Value → World → Prop} : V Tryd.prog (Builtin.len_ #[22] ty #[.slice a n c]) w K ↔ K (.int .i64 n) w := V.iff (r_len Tryd.underlying22)
theorem V_ln_23 {w : World} {ty : TypeId} {a : Option Addr} {n c : Nat} {K : Value → World → Prop} : V Tryd.prog (Builtin.len_ #[23] ty #[.slice a n c]) w K ↔ K (.int .i64 n) w := V.iff (r_len Tryd.underlying23)
theorem V_ln_27 {w : World} {ty : TypeId} {a : Option Addr} {n c : Nat} {K : Value → World → Prop} : V Tryd.prog (Builtin.len_ #[27] ty #[.slice a n c]) w K ↔ K (.int .i64 n) w := V.iff (r_len Tryd.underlying27)
theorem V_ln_30 {w : World} {ty : TypeId} {a : Option Addr} {n c : Nat} {K : Value → World → Prop} : V Tryd.prog (Builtin.len_ #[30] ty #[.slice a n c]) w K ↔ K (.int .i64 n) w := V.iff (r_len Tryd.underlying30)
theorem V_ln_31 {w : World} {ty : TypeId} {a : Option Addr} {n c : Nat} {K : Value → World → Prop} : V Tryd.prog (Builtin.len_ #[31] ty #[.slice a n c]) w K ↔ K (.int .i64 n) w := V.iff (r_len Tryd.underlying31)
theorem V_ln_45 {w : World} {ty : TypeId} {a : Option Addr} {n c : Nat} {K : Value → World → Prop} : V Tryd.prog (Builtin.len_ #[45] ty #[.slice a n c]) w K ↔ K (.int .i64 n) w := V.iff (r_len Tryd.underlying45)
theorem V_neqb_4 {w : World} {x y : Operand} {a b : Bool} {K : Value → World → Prop} : V Tryd.prog (do eqGuard .neq 4 x y (.bool a) (.bool b); binOp .neq 4 (.bool a) (.bool b)) w K ↔ K (.bool (a != b)) w := V.iff (r_neqBool Tryd.underlying4)
theorem V_neqni_34 {w : World} {x y : Operand} {t : TypeId} {v : Value} {K : Value → World → Prop} : V Tryd.prog (do eqGuard .neq 34 x y (.iface t v) .nilIface; binOp .neq 34 (.iface t v) .nilIface) w K ↔ K (.bool true) w := V.iff (r_neqNilIface Tryd.underlying34)
theorem V_neqnn_34 {w : World} {x : Operand} {c : Value} {K : Value → World → Prop} : V Tryd.prog (do eqGuard .neq 34 x (.const c) .nilIface .nilIface; binOp .neq 34 .nilIface .nilIface) w K ↔ K (.bool false) w := V.iff (r_neqNilNil Tryd.underlying34)
theorem V_ta_41 {w : World} {x t : TypeId} {v : Value} {K : Value → World → Prop} : V Tryd.prog (Instr.typeAssert (.iface t v) x 41 true) w K ↔ K (if t = 41 then .tuple #[v, .bool true] else .tuple #[(.agg #[]), .bool false]) w := V.iff (r_ta Tryd.underlying41 rfl inf41)
theorem V_ta_43 {w : World} {x t : TypeId} {v : Value} {K : Value → World → Prop} : V Tryd.prog (Instr.typeAssert (.iface t v) x 43 true) w K ↔ K (if t = 43 then .tuple #[v, .bool true] else .tuple #[(.agg #[(.int .i64 0)]), .bool false]) w := V.iff (r_ta Tryd.underlying43 rfl inf43)
theorem V_ta_51 {w : World} {x t : TypeId} {v : Value} {K : Value → World → Prop} : V Tryd.prog (Instr.typeAssert (.iface t v) x 51 true) w K ↔ K (if t = 51 then .tuple #[v, .bool true] else .tuple #[(.agg #[(.int .i64 0), (.int .i32 0)]), .bool false]) w := V.iff (r_ta Tryd.underlying51 rfl inf51)
theorem V_ta_53 {w : World} {x t : TypeId} {v : Value} {K : Value → World → Prop} : V Tryd.prog (Instr.typeAssert (.iface t v) x 53 true) w K ↔ K (if t = 53 then .tuple #[v, .bool true] else .tuple #[(.agg #[(.int .i64 0)]), .bool false]) w := V.iff (r_ta Tryd.underlying53 rfl inf53)
theorem V_ta_55 {w : World} {x t : TypeId} {v : Value} {K : Value → World → Prop} : V Tryd.prog (Instr.typeAssert (.iface t v) x 55 true) w K ↔ K (if t = 55 then .tuple #[v, .bool true] else .tuple #[(.agg #[(.int .i64 0), (.int .i64 0)]), .bool false]) w := V.iff (r_ta Tryd.underlying55 rfl inf55)
theorem V_ta_57 {w : World} {x t : TypeId} {v : Value} {K : Value → World → Prop} : V Tryd.prog (Instr.typeAssert (.iface t v) x 57 true) w K ↔ K (if t = 57 then .tuple #[v, .bool true] else .tuple #[(.agg #[(.int .i64 0), (.int .i64 0)]), .bool false]) w := V.iff (r_ta Tryd.underlying57 rfl inf57)
theorem V_ta_59 {w : World} {x t : TypeId} {v : Value} {K : Value → World → Prop} : V Tryd.prog (Instr.typeAssert (.iface t v) x 59 true) w K ↔ K (if t = 59 then .tuple #[v, .bool true] else .tuple #[(.agg #[(.int .i64 0), (.int .i64 0), (.int .i64 0), (.int .i64 0)]), .bool false]) w := V.iff (r_ta Tryd.underlying59 rfl inf59)
theorem V_ta_61 {w : World} {x t : TypeId} {v : Value} {K : Value → World → Prop} : V Tryd.prog (Instr.typeAssert (.iface t v) x 61 true) w K ↔ K (if t = 61 then .tuple #[v, .bool true] else .tuple #[(.agg #[(.int .i64 0), (.int .i64 0), (.int .i64 0)]), .bool false]) w := V.iff (r_ta Tryd.underlying61 rfl inf61)
theorem V_ta_63 {w : World} {x t : TypeId} {v : Value} {K : Value → World → Prop} : V Tryd.prog (Instr.typeAssert (.iface t v) x 63 true) w K ↔ K (if t = 63 then .tuple #[v, .bool true] else .tuple #[(.agg #[(.int .i64 0), (.int .i64 0), (.int .i64 0), (.int .i64 0)]), .bool false]) w := V.iff (r_ta Tryd.underlying63 rfl inf63)
theorem V_ta_65 {w : World} {x t : TypeId} {v : Value} {K : Value → World → Prop} : V Tryd.prog (Instr.typeAssert (.iface t v) x 65 true) w K ↔ K (if t = 65 then .tuple #[v, .bool true] else .tuple #[(.agg #[(.int .i64 0), (.int .i64 0)]), .bool false]) w := V.iff (r_ta Tryd.underlying65 rfl inf65)
theorem V_ta_67 {w : World} {x t : TypeId} {v : Value} {K : Value → World → Prop} : V Tryd.prog (Instr.typeAssert (.iface t v) x 67 true) w K ↔ K (if t = 67 then .tuple #[v, .bool true] else .tuple #[(.agg #[(.int .i64 0), (.int .i64 0), (.int .i64 0), (.int .i64 0), (.slice none 0 0)]), .bool false]) w := V.iff (r_ta Tryd.underlying67 rfl inf67)
theorem V_ta_69 {w : World} {x t : TypeId} {v : Value} {K : Value → World → Prop} : V Tryd.prog (Instr.typeAssert (.iface t v) x 69 true) w K ↔ K (if t = 69 then .tuple #[v, .bool true] else .tuple #[(.agg #[(.int .i64 0), (.int .i64 0), (.slice none 0 0)]), .bool false]) w := V.iff (r_ta Tryd.underlying69 rfl inf69)
theorem V_ta_71 {w : World} {x t : TypeId} {v : Value} {K : Value → World → Prop} : V Tryd.prog (Instr.typeAssert (.iface t v) x 71 true) w K ↔ K (if t = 71 then .tuple #[v, .bool true] else .tuple #[(.agg #[(.int .i64 0), (.int .i64 0), (.slice none 0 0)]), .bool false]) w := V.iff (r_ta Tryd.underlying71 rfl inf71)
theorem V_ta_73 {w : World} {x t : TypeId} {v : Value} {K : Value → World → Prop} : V Tryd.prog (Instr.typeAssert (.iface t v) x 73 true) w K ↔ K (if t = 73 then .tuple #[v, .bool true] else .tuple #[(.agg #[(.int .i64 0), (.int .i64 0)]), .bool false]) w := V.iff (r_ta Tryd.underlying73 rfl inf73)
theorem V_tn_41 {w : World} {x : TypeId} {K : Value → World → Prop} : V Tryd.prog (Instr.typeAssert .nilIface x 41 true) w K ↔ K (.tuple #[(.agg #[]), .bool false]) w := V.iff (r_tanil Tryd.underlying41 rfl inf41)
theorem V_tn_43 {w : World} {x : TypeId} {K : Value → World → Prop} : V Tryd.prog (Instr.typeAssert .nilIface x 43 true) w K ↔ K (.tuple #[(.agg #[(.int .i64 0)]), .bool false]) w := V.iff (r_tanil Tryd.underlying43 rfl inf43)
theorem V_tn_51 {w : World} {x : TypeId} {K : Value → World → Prop} : V Tryd.prog (Instr.typeAssert .nilIface x 51 true) w K ↔ K (.tuple #[(.agg #[(.int .i64 0), (.int .i32 0)]), .bool false]) w := V.iff (r_tanil Tryd.underlying51 rfl inf51)
theorem V_tn_53 {w : World} {x : TypeId} {K : Value → World → Prop} : V Tryd.prog (Instr.typeAssert .nilIface x 53 true) w K ↔ K (.tuple #[(.agg #[(.int .i64 0)]), .bool false]) w := V.iff (r_tanil Tryd.underlying53 rfl inf53)
theorem V_tn_55 {w : World} {x : TypeId} {K : Value → World → Prop} : V Tryd.prog (Instr.typeAssert .nilIface x 55 true) w K ↔ K (.tuple #[(.agg #[(.int .i64 0), (.int .i64 0)]), .bool false]) w := V.iff (r_tanil Tryd.underlying55 rfl inf55)
theorem V_tn_57 {w : World} {x : TypeId} {K : Value → World → Prop} : V Tryd.prog (Instr.typeAssert .nilIface x 57 true) w K ↔ K (.tuple #[(.agg #[(.int .i64 0), (.int .i64 0)]), .bool false]) w := V.iff (r_tanil Tryd.underlying57 rfl inf57)
theorem V_tn_59 {w : World} {x : TypeId} {K : Value → World → Prop} : V Tryd.prog (Instr.typeAssert .nilIface x 59 true) w K ↔ K (.tuple #[(.agg #[(.int .i64 0), (.int .i64 0), (.int .i64 0), (.int .i64 0)]), .bool false]) w := V.iff (r_tanil Tryd.underlying59 rfl inf59)
theorem V_tn_61 {w : World} {x : TypeId} {K : Value → World → Prop} : V Tryd.prog (Instr.typeAssert .nilIface x 61 true) w K ↔ K (.tuple #[(.agg #[(.int .i64 0), (.int .i64 0), (.int .i64 0)]), .bool false]) w := V.iff (r_tanil Tryd.underlying61 rfl inf61)
theorem V_tn_63 {w : World} {x : TypeId} {K : Value → World → Prop} : V Tryd.prog (Instr.typeAssert .nilIface x 63 true) w K ↔ K (.tuple #[(.agg #[(.int .i64 0), (.int .i64 0), (.int .i64 0), (.int .i64 0)]), .bool false]) w := V.iff (r_tanil Tryd.underlying63 rfl inf63)
theorem V_tn_65 {w : World} {x : TypeId} {K : Value → World → Prop} : V Tryd.prog (Instr.typeAssert .nilIface x 65 true) w K ↔ K (.tuple #[(.agg #[(.int .i64 0), (.int .i64 0)]), .bool false]) w := V.iff (r_tanil Tryd.underlying65 rfl inf65)
theorem V_tn_67 {w : World} {x : TypeId} {K : Value → World → Prop} : V Tryd.prog (Instr.typeAssert .nilIface x 67 true) w K ↔ K (.tuple #[(.agg #[(.int .i64 0), (.int .i64 0), (.int .i64 0), (.int .i64 0), (.slice none 0 0)]), .bool false]) w := V.iff (r_tanil Tryd.underlying67 rfl inf67)
theorem V_tn_69 {w : World} {x : TypeId} {K : Value → World → Prop} : V Tryd.prog (Instr.typeAssert .nilIface x 69 true) w K ↔ K (.tuple #[(.agg #[(.int .i64 0), (.int .i64 0), (.slice none 0 0)]), .bool false]) w := V.iff (r_tanil Tryd.underlying69 rfl inf69)
theorem V_tn_71 {w : World} {x : TypeId} {K : Value → World → Prop} : V Tryd.prog (Instr.typeAssert .nilIface x 71 true) w K ↔ K (.tuple #[(.agg #[(.int .i64 0), (.int .i64 0), (.slice none 0 0)]), .bool false]) w := V.iff (r_tanil Tryd.underlying71 rfl inf71)
theorem V_tn_73 {w : World} {x : TypeId} {K : Value → World → Prop} : V Tryd.prog (Instr.typeAssert .nilIface x 73 true) w K ↔ K (.tuple #[(.agg #[(.int .i64 0), (.int .i64 0)]), .bool false]) w := V.iff (r_tanil Tryd.underlying73 rfl inf73)
theorem sa_25 : SA Tryd.prog 25 3 := ⟨_, _, inf25, by decide⟩
theorem sa_41 : SA Tryd.prog 41 0 := ⟨_, _, inf41, by decide⟩
theorem sa_43 : SA Tryd.prog 43 1 := ⟨_, _, inf43, by decide⟩
theorem sa_47 : SA Tryd.prog 47 3 := ⟨_, _, inf47, by decide⟩
theorem sa_51 : SA Tryd.prog 51 2 := ⟨_, _, inf51, by decide⟩
theorem sa_53 : SA Tryd.prog 53 1 := ⟨_, _, inf53, by decide⟩
theorem sa_55 : SA Tryd.prog 55 2 := ⟨_, _, inf55, by decide⟩
theorem sa_57 : SA Tryd.prog 57 2 := ⟨_, _, inf57, by decide⟩
theorem sa_59 : SA Tryd.prog 59 4 := ⟨_, _, inf59, by decide⟩
theorem sa_61 : SA Tryd.prog 61 3 := ⟨_, _, inf61, by decide⟩
theorem sa_63 : SA Tryd.prog 63 4 := ⟨_, _, inf63, by decide⟩
theorem sa_65 : SA Tryd.prog 65 2 := ⟨_, _, inf65, by decide⟩
theorem sa_67 : SA Tryd.prog 67 5 := ⟨_, _, inf67, by decide⟩
theorem sa_69 : SA Tryd.prog 69 3 := ⟨_, _, inf69, by decide⟩
theorem sa_71 : SA Tryd.prog 71 3 := ⟨_, _, inf71, by decide⟩
theorem sa_73 : SA Tryd.prog 73 2 := ⟨_, _, inf73, by decide⟩
theorem sa_83 : SA Tryd.prog 83 8 := ⟨_, _, inf83, by decide⟩
theorem sa_95 : SA Tryd.prog 95 10 := ⟨_, _, inf95, by decide⟩
theorem la_25 : ∃ d z by_, Program.underlying Tryd.prog 25 = some d ∧ aggB d = true ∧ Inf Tryd.prog 25 z 3 by_ := ⟨_, _, _, Tryd.underlying25, rfl, inf25⟩
theorem la_47 : ∃ d z by_, Program.underlying Tryd.prog 47 = some d ∧ aggB d = true ∧ Inf Tryd.prog 47 z 3 by_ := ⟨_, _, _, Tryd.underlying47, rfl, inf47⟩
theorem la_81 : ∃ d z by_, Program.underlying Tryd.prog 81 = some d ∧ aggB d = true ∧ Inf Tryd.prog 81 z 9 by_ := ⟨_, _, _, Tryd.underlying81, rfl, inf81⟩
theorem la_83 : ∃ d z by_, Program.underlying Tryd.prog 83 = some d ∧ aggB d = true ∧ Inf Tryd.prog 83 z 8 by_ := ⟨_, _, _, Tryd.underlying83, rfl, inf83⟩
theorem xa_22 : XA Tryd.prog 22 9 := ⟨_, _, _, Tryd.underlying22, inf81⟩
theorem xa_23 : XA Tryd.prog 23 1 := ⟨_, _, _, Tryd.underlying23, inf34⟩
theorem xa_27 : XA Tryd.prog 27 1 := ⟨_, _, _, Tryd.underlying27, inf30⟩
theorem xa_30 : XA Tryd.prog 30 1 := ⟨_, _, _, Tryd.underlying30, inf4⟩
theorem xa_31 : XA Tryd.prog 31 1 := ⟨_, _, _, Tryd.underlying31, inf3⟩
theorem xa_45 : XA Tryd.prog 45 8 := ⟨_, _, _, Tryd.underlying45, inf83⟩
theorem fa_25_0 : FA Tryd.prog 25 0 0 := ⟨fun _ _ _ => r_field 3 0 Tryd.underlying25 rfl inf3 rfl⟩
theorem fa_25_1 : FA Tryd.prog 25 1 1 := ⟨fun _ _ _ => r_field 3 1 Tryd.underlying25 rfl inf3 rfl⟩
theorem fa_25_2 : FA Tryd.prog 25 2 2 := ⟨fun _ _ _ => r_field 23 2 Tryd.underlying25 rfl inf23 rfl⟩
theorem fa_43_0 : FA Tryd.prog 43 0 0 := ⟨fun _ _ _ => r_field 3 0 Tryd.underlying43 rfl inf3 rfl⟩
theorem fa_47_0 : FA Tryd.prog 47 0 0 := ⟨fun _ _ _ => r_field 3 0 Tryd.underlying47 rfl inf3 rfl⟩
theorem fa_47_1 : FA Tryd.prog 47 1 1 := ⟨fun _ _ _ => r_field 3 1 Tryd.underlying47 rfl inf3 rfl⟩
theorem fa_47_2 : FA Tryd.prog 47 2 2 := ⟨fun _ _ _ => r_field 45 2 Tryd.underlying47 rfl inf45 rfl⟩
theorem fa_51_0 : FA Tryd.prog 51 0 0 := ⟨fun _ _ _ => r_field 3 0 Tryd.underlying51 rfl inf3 rfl⟩
theorem fa_51_1 : FA Tryd.prog 51 1 1 := ⟨fun _ _ _ => r_field 21 1 Tryd.underlying51 rfl inf21 rfl⟩
theorem fa_53_0 : FA Tryd.prog 53 0 0 := ⟨fun _ _ _ => r_field 3 0 Tryd.underlying53 rfl inf3 rfl⟩
theorem fa_55_0 : FA Tryd.prog 55 0 0 := ⟨fun _ _ _ => r_field 3 0 Tryd.underlying55 rfl inf3 rfl⟩
theorem fa_55_1 : FA Tryd.prog 55 1 1 := ⟨fun _ _ _ => r_field 3 1 Tryd.underlying55 rfl inf3 rfl⟩
theorem fa_57_0 : FA Tryd.prog 57 0 0 := ⟨fun _ _ _ => r_field 3 0 Tryd.underlying57 rfl inf3 rfl⟩
theorem fa_57_1 : FA Tryd.prog 57 1 1 := ⟨fun _ _ _ => r_field 3 1 Tryd.underlying57 rfl inf3 rfl⟩
theorem fa_59_0 : FA Tryd.prog 59 0 0 := ⟨fun _ _ _ => r_field 3 0 Tryd.underlying59 rfl inf3 rfl⟩
theorem fa_59_1 : FA Tryd.prog 59 1 1 := ⟨fun _ _ _ => r_field 3 1 Tryd.underlying59 rfl inf3 rfl⟩
theorem fa_59_2 : FA Tryd.prog 59 2 2 := ⟨fun _ _ _ => r_field 3 2 Tryd.underlying59 rfl inf3 rfl⟩
theorem fa_59_3 : FA Tryd.prog 59 3 3 := ⟨fun _ _ _ => r_field 3 3 Tryd.underlying59 rfl inf3 rfl⟩
theorem fa_61_0 : FA Tryd.prog 61 0 0 := ⟨fun _ _ _ => r_field 3 0 Tryd.underlying61 rfl inf3 rfl⟩
theorem fa_61_1 : FA Tryd.prog 61 1 1 := ⟨fun _ _ _ => r_field 3 1 Tryd.underlying61 rfl inf3 rfl⟩
theorem fa_61_2 : FA Tryd.prog 61 2 2 := ⟨fun _ _ _ => r_field 3 2 Tryd.underlying61 rfl inf3 rfl⟩
theorem fa_63_0 : FA Tryd.prog 63 0 0 := ⟨fun _ _ _ => r_field 3 0 Tryd.underlying63 rfl inf3 rfl⟩
theorem fa_63_1 : FA Tryd.prog 63 1 1 := ⟨fun _ _ _ => r_field 3 1 Tryd.underlying63 rfl inf3 rfl⟩
theorem fa_63_2 : FA Tryd.prog 63 2 2 := ⟨fun _ _ _ => r_field 3 2 Tryd.underlying63 rfl inf3 rfl⟩
theorem fa_63_3 : FA Tryd.prog 63 3 3 := ⟨fun _ _ _ => r_field 3 3 Tryd.underlying63 rfl inf3 rfl⟩
theorem fa_65_0 : FA Tryd.prog 65 0 0 := ⟨fun _ _ _ => r_field 3 0 Tryd.underlying65 rfl inf3 rfl⟩
theorem fa_65_1 : FA Tryd.prog 65 1 1 := ⟨fun _ _ _ => r_field 3 1 Tryd.underlying65 rfl inf3 rfl⟩
theorem fa_67_0 : FA Tryd.prog 67 0 0 := ⟨fun _ _ _ => r_field 3 0 Tryd.underlying67 rfl inf3 rfl⟩
theorem fa_67_1 : FA Tryd.prog 67 1 1 := ⟨fun _ _ _ => r_field 3 1 Tryd.underlying67 rfl inf3 rfl⟩
theorem fa_67_2 : FA Tryd.prog 67 2 2 := ⟨fun _ _ _ => r_field 3 2 Tryd.underlying67 rfl inf3 rfl⟩
theorem fa_67_3 : FA Tryd.prog 67 3 3 := ⟨fun _ _ _ => r_field 3 3 Tryd.underlying67 rfl inf3 rfl⟩
theorem fa_67_4 : FA Tryd.prog 67 4 4 := ⟨fun _ _ _ => r_field 31 4 Tryd.underlying67 rfl inf31 rfl⟩
theorem fa_69_0 : FA Tryd.prog 69 0 0 := ⟨fun _ _ _ => r_field 3 0 Tryd.underlying69 rfl inf3 rfl⟩
theorem fa_69_1 : FA Tryd.prog 69 1 1 := ⟨fun _ _ _ => r_field 3 1 Tryd.underlying69 rfl inf3 rfl⟩
theorem fa_69_2 : FA Tryd.prog 69 2 2 := ⟨fun _ _ _ => r_field 31 2 Tryd.underlying69 rfl inf31 rfl⟩
theorem fa_71_0 : FA Tryd.prog 71 0 0 := ⟨fun _ _ _ => r_field 3 0 Tryd.underlying71 rfl inf3 rfl⟩
theorem fa_71_1 : FA Tryd.prog 71 1 1 := ⟨fun _ _ _ => r_field 3 1 Tryd.underlying71 rfl inf3 rfl⟩
theorem fa_71_2 : FA Tryd.prog 71 2 2 := ⟨fun _ _ _ => r_field 31 2 Tryd.underlying71 rfl inf31 rfl⟩
theorem fa_73_0 : FA Tryd.prog 73 0 0 := ⟨fun _ _ _ => r_field 3 0 Tryd.underlying73 rfl inf3 rfl⟩
theorem fa_73_1 : FA Tryd.prog 73 1 1 := ⟨fun _ _ _ => r_field 3 1 Tryd.underlying73 rfl inf3 rfl⟩
theorem fa_81_0 : FA Tryd.prog 81 0 0 := ⟨fun _ _ _ => r_field 3 0 Tryd.underlying81 rfl inf3 rfl⟩
theorem fa_81_1 : FA Tryd.prog 81 1 1 := ⟨fun _ _ _ => r_field 3 1 Tryd.underlying81 rfl inf3 rfl⟩
theorem fa_81_2 : FA Tryd.prog 81 2 2 := ⟨fun _ _ _ => r_field 3 2 Tryd.underlying81 rfl inf3 rfl⟩
theorem fa_81_3 : FA Tryd.prog 81 3 3 := ⟨fun _ _ _ => r_field 3 3 Tryd.underlying81 rfl inf3 rfl⟩
theorem fa_81_4 : FA Tryd.prog 81 4 4 := ⟨fun _ _ _ => r_field 3 4 Tryd.underlying81 rfl inf3 rfl⟩
theorem fa_81_5 : FA Tryd.prog 81 5 5 := ⟨fun _ _ _ => r_field 3 5 Tryd.underlying81 rfl inf3 rfl⟩
theorem fa_81_6 : FA Tryd.prog 81 6 6 := ⟨fun _ _ _ => r_field 3 6 Tryd.underlying81 rfl inf3 rfl⟩
theorem fa_81_7 : FA Tryd.prog 81 7 7 := ⟨fun _ _ _ => r_field 3 7 Tryd.underlying81 rfl inf3 rfl⟩
theorem fa_81_8 : FA Tryd.prog 81 8 8 := ⟨fun _ _ _ => r_field 31 8 Tryd.underlying81 rfl inf31 rfl⟩
theorem fa_83_0 : FA Tryd.prog 83 0 0 := ⟨fun _ _ _ => r_field 3 0 Tryd.underlying83 rfl inf3 rfl⟩
theorem fa_83_1 : FA Tryd.prog 83 1 1 := ⟨fun _ _ _ => r_field 3 1 Tryd.underlying83 rfl inf3 rfl⟩
theorem fa_83_2 : FA Tryd.prog 83 2 2 := ⟨fun _ _ _ => r_field 3 2 Tryd.underlying83 rfl inf3 rfl⟩
theorem fa_83_3 : FA Tryd.prog 83 3 3 := ⟨fun _ _ _ => r_field 3 3 Tryd.underlying83 rfl inf3 rfl⟩
theorem fa_83_6 : FA Tryd.prog 83 6 6 := ⟨fun _ _ _ => r_field 3 6 Tryd.underlying83 rfl inf3 rfl⟩
theorem fa_83_7 : FA Tryd.prog 83 7 7 := ⟨fun _ _ _ => r_field 31 7 Tryd.underlying83 rfl inf31 rfl⟩
theorem l1_21 : L1 Tryd.prog 21 := ⟨_, Tryd.underlying21, rfl⟩
theorem l1_23 : L1 Tryd.prog 23 := ⟨_, Tryd.underlying23, rfl⟩
theorem l1_3 : L1 Tryd.prog 3 := ⟨_, Tryd.underlying3, rfl⟩
theorem l1_30 : L1 Tryd.prog 30 := ⟨_, Tryd.underlying30, rfl⟩
theorem l1_31 : L1 Tryd.prog 31 := ⟨_, Tryd.underlying31, rfl⟩
theorem l1_34 : L1 Tryd.prog 34 := ⟨_, Tryd.underlying34, rfl⟩
theorem l1_4 : L1 Tryd.prog 4 := ⟨_, Tryd.underlying4, rfl⟩
theorem l1_45 : L1 Tryd.prog 45 := ⟨_, Tryd.underlying45, rfl⟩
theorem xe_23 : XE Tryd.prog 23 34 16 := ⟨_, Tryd.underlying23, inf34, rfl⟩
theorem xe_27 : XE Tryd.prog 27 30 24 := ⟨_, Tryd.underlying27, inf30, rfl⟩
theorem xe_30 : XE Tryd.prog 30 4 1 := ⟨_, Tryd.underlying30, inf4, rfl⟩
theorem xe_31 : XE Tryd.prog 31 3 8 := ⟨_, Tryd.underlying31, inf3, rfl⟩
theorem bd_25 : BD Tryd.prog 25 [(.int .i64 0), (.int .i64 0), (.slice none 0 0)] := ⟨_, _, Tryd.underlying25, inf25, fun w => by kernel_rfl⟩
theorem bd_41 : BD Tryd.prog 41 [] := ⟨_, _, Tryd.underlying41, inf41, fun w => by kernel_rfl⟩
theorem bd_43 : BD Tryd.prog 43 [(.int .i64 0)] := ⟨_, _, Tryd.underlying43, inf43, fun w => by kernel_rfl⟩
theorem bd_47 : BD Tryd.prog 47 [(.int .i64 0), (.int .i64 0), (.slice none 0 0)] := ⟨_, _, Tryd.underlying47, inf47, fun w => by kernel_rfl⟩
theorem bd_51 : BD Tryd.prog 51 [(.int .i64 0), (.int .i32 0)] := ⟨_, _, Tryd.underlying51, inf51, fun w => by kernel_rfl⟩
theorem bd_53 : BD Tryd.prog 53 [(.int .i64 0)] := ⟨_, _, Tryd.underlying53, inf53, fun w => by kernel_rfl⟩
theorem bd_55 : BD Tryd.prog 55 [(.int .i64 0), (.int .i64 0)] := ⟨_, _, Tryd.underlying55, inf55, fun w => by kernel_rfl⟩
theorem bd_57 : BD Tryd.prog 57 [(.int .i64 0), (.int .i64 0)] := ⟨_, _, Tryd.underlying57, inf57, fun w => by kernel_rfl⟩
theorem bd_59 : BD Tryd.prog 59 [(.int .i64 0), (.int .i64 0), (.int .i64 0), (.int .i64 0)] := ⟨_, _, Tryd.underlying59, inf59, fun w => by kernel_rfl⟩
theorem bd_61 : BD Tryd.prog 61 [(.int .i64 0), (.int .i64 0), (.int .i64 0)] := ⟨_, _, Tryd.underlying61, inf61, fun w => by kernel_rfl⟩
theorem bd_63 : BD Tryd.prog 63 [(.int .i64 0), (.int .i64 0), (.int .i64 0), (.int .i64 0)] := ⟨_, _, Tryd.underlying63, inf63, fun w => by kernel_rfl⟩
theorem bd_65 : BD Tryd.prog 65 [(.int .i64 0), (.int .i64 0)] := ⟨_, _, Tryd.underlying65, inf65, fun w => by kernel_rfl⟩
theorem bd_67 : BD Tryd.prog 67 [(.int .i64 0), (.int .i64 0), (.int .i64 0), (.int .i64 0), (.slice none 0 0)] := ⟨_, _, Tryd.underlying67, inf67, fun w => by kernel_rfl⟩
theorem bd_69 : BD Tryd.prog 69 [(.int .i64 0), (.int .i64 0), (.slice none 0 0)] := ⟨_, _, Tryd.underlying69, inf69, fun w => by kernel_rfl⟩
theorem bd_71 : BD Tryd.prog 71 [(.int .i64 0), (.int .i64 0), (.slice none 0 0)] := ⟨_, _, Tryd.underlying71, inf71, fun w => by kernel_rfl⟩
theorem bd_73 : BD Tryd.prog 73 [(.int .i64 0), (.int .i64 0)] := ⟨_, _, Tryd.underlying73, inf73, fun w => by kernel_rfl⟩
theorem bd_83 : BD Tryd.prog 83 [(.int .i64 0), (.int .i64 0), (.int .i64 0), (.int .i64 0), (.int .i64 0), (.int .i64 0), (.int .i64 0), (.slice none 0 0)] := ⟨_, _, Tryd.underlying83, inf83, fun w => by kernel_rfl⟩
theorem mi_41 : MI Tryd.prog 41 := ⟨_, Tryd.underlying41, rfl⟩
theorem mi_43 : MI Tryd.prog 43 := ⟨_, Tryd.underlying43, rfl⟩
theorem mi_51 : MI Tryd.prog 51 := ⟨_, Tryd.underlying51, rfl⟩
theorem mi_53 : MI Tryd.prog 53 := ⟨_, Tryd.underlying53, rfl⟩
theorem mi_55 : MI Tryd.prog 55 := ⟨_, Tryd.underlying55, rfl⟩
theorem mi_57 : MI Tryd.prog 57 := ⟨_, Tryd.underlying57, rfl⟩
theorem mi_59 : MI Tryd.prog 59 := ⟨_, Tryd.underlying59, rfl⟩
theorem mi_61 : MI Tryd.prog 61 := ⟨_, Tryd.underlying61, rfl⟩
theorem mi_63 : MI Tryd.prog 63 := ⟨_, Tryd.underlying63, rfl⟩
theorem mi_65 : MI Tryd.prog 65 := ⟨_, Tryd.underlying65, rfl⟩
theorem mi_67 : MI Tryd.prog 67 := ⟨_, Tryd.underlying67, rfl⟩
theorem mi_69 : MI Tryd.prog 69 := ⟨_, Tryd.underlying69, rfl⟩
theorem mi_71 : MI Tryd.prog 71 := ⟨_, Tryd.underlying71, rfl⟩
theorem mi_73 : MI Tryd.prog 73 := ⟨_, Tryd.underlying73, rfl⟩
theorem ta_41 : TA Tryd.prog 41 := TA.mk' Tryd.underlying41 rfl inf41
theorem ta_43 : TA Tryd.prog 43 := TA.mk' Tryd.underlying43 rfl inf43
theorem ta_51 : TA Tryd.prog 51 := TA.mk' Tryd.underlying51 rfl inf51
theorem ta_53 : TA Tryd.prog 53 := TA.mk' Tryd.underlying53 rfl inf53
theorem ta_55 : TA Tryd.prog 55 := TA.mk' Tryd.underlying55 rfl inf55
theorem ta_57 : TA Tryd.prog 57 := TA.mk' Tryd.underlying57 rfl inf57
theorem ta_59 : TA Tryd.prog 59 := TA.mk' Tryd.underlying59 rfl inf59
theorem ta_61 : TA Tryd.prog 61 := TA.mk' Tryd.underlying61 rfl inf61
theorem ta_63 : TA Tryd.prog 63 := TA.mk' Tryd.underlying63 rfl inf63
theorem ta_65 : TA Tryd.prog 65 := TA.mk' Tryd.underlying65 rfl inf65
theorem ta_67 : TA Tryd.prog 67 := TA.mk' Tryd.underlying67 rfl inf67
theorem ta_69 : TA Tryd.prog 69 := TA.mk' Tryd.underlying69 rfl inf69
theorem ta_71 : TA Tryd.prog 71 := TA.mk' Tryd.underlying71 rfl inf71
theorem ta_73 : TA Tryd.prog 73 := TA.mk' Tryd.underlying73 rfl inf73
end Go.Proofs.YtcnilchopponmaaDoor
