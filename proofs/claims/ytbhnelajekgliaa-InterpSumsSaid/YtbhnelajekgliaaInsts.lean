/- The laws of single operations, at this program's types: by program (instgen.py). -/
import Derived.Test.YtbhnelajekgliaaLaws2
import Derived.Test.YtbhnelajekgliaaProg
import Derived.KernelRfl
namespace Go.Proofs.Ytbhnelajekgliaa
open Go.Vc
theorem inf3 : Inf Try.prog 3 (.int .i64 0) 1 8 := by unfold Inf; kernel_rfl
theorem inf4 : Inf Try.prog 4 (.bool false) 1 1 := by unfold Inf; kernel_rfl
theorem inf5 : Inf Try.prog 5 (.int .u8 0) 1 1 := by unfold Inf; kernel_rfl
theorem inf9 : Inf Try.prog 9 (.string ByteArray.empty) 1 16 := by unfold Inf; kernel_rfl
theorem inf21 : Inf Try.prog 21 (.int .i32 0) 1 4 := by unfold Inf; kernel_rfl
theorem inf22 : Inf Try.prog 22 (.slice none 0 0) 1 24 := by unfold Inf; kernel_rfl
theorem inf23 : Inf Try.prog 23 (.slice none 0 0) 1 24 := by unfold Inf; kernel_rfl
theorem inf24 : Inf Try.prog 24 (.slice none 0 0) 1 24 := by unfold Inf; kernel_rfl
theorem inf25 : Inf Try.prog 25 (.agg #[(.int .i64 0), (.int .i64 0), (.int .i64 0), (.int .i64 0), (.int .i64 0), (.int .i64 0), (.int .i64 0), (.int .i64 0), (.int .i64 0), (.int .i64 0)]) 10 80 := by unfold Inf; kernel_rfl
theorem inf27 : Inf Try.prog 27 (.agg #[(.int .i64 0), (.int .i64 0), (.int .i64 0)]) 3 24 := by unfold Inf; kernel_rfl
theorem inf31 : Inf Try.prog 31 (.pointer none) 1 8 := by unfold Inf; kernel_rfl
theorem inf48 : Inf Try.prog 48 (.agg #[(.slice none 0 0), (.int .i64 0), (.slice none 0 0), (.slice none 0 0)]) 4 80 := by unfold Inf; kernel_rfl
theorem inf49 : Inf Try.prog 49 (.slice none 0 0) 1 24 := by unfold Inf; kernel_rfl
theorem inf50 : Inf Try.prog 50 (.slice none 0 0) 1 24 := by unfold Inf; kernel_rfl
theorem inf52 : Inf Try.prog 52 (.agg #[(.string ByteArray.empty), (.slice none 0 0), (.slice none 0 0), (.slice none 0 0), (.slice none 0 0)]) 5 112 := by unfold Inf; kernel_rfl
theorem inf55 : Inf Try.prog 55 (.pointer none) 1 8 := by unfold Inf; kernel_rfl
theorem inf56 : Inf Try.prog 56 (.slice none 0 0) 1 24 := by unfold Inf; kernel_rfl
theorem inf57 : Inf Try.prog 57 (.slice none 0 0) 1 24 := by unfold Inf; kernel_rfl
theorem inf58 : Inf Try.prog 58 (.slice none 0 0) 1 24 := by unfold Inf; kernel_rfl
theorem inf60 : Inf Try.prog 60 (.agg #[(.pointer none), (.slice none 0 0), (.slice none 0 0), (.slice none 0 0), (.slice none 0 0)]) 5 104 := by unfold Inf; kernel_rfl
theorem inf61 : Inf Try.prog 61 (.pointer none) 1 8 := by unfold Inf; kernel_rfl
theorem inf62 : Inf Try.prog 62 (.slice none 0 0) 1 24 := by unfold Inf; kernel_rfl
theorem inf64 : Inf Try.prog 64 (.agg #[(.pointer none), (.pointer none), (.slice none 0 0), (.int .i64 0), (.int .i64 0)]) 5 56 := by unfold Inf; kernel_rfl
theorem inf71 : Inf Try.prog 71 (.agg #[(.int .i64 0), (.int .i64 0), (.int .i64 0), (.bool false), (.slice none 0 0)]) 5 56 := by unfold Inf; kernel_rfl
theorem inf72 : Inf Try.prog 72 (.slice none 0 0) 1 24 := by unfold Inf; kernel_rfl
theorem inf74 : Inf Try.prog 74 (.agg #[(.int .i64 0), (.slice none 0 0)]) 2 32 := by unfold Inf; kernel_rfl
theorem inf78 : Inf Try.prog 78 (.agg #[(.string ByteArray.empty), (.int .i64 0), (.slice none 0 0), (.int .i64 0)]) 4 56 := by unfold Inf; kernel_rfl
theorem inf82 : Inf Try.prog 82 (.slice none 0 0) 1 24 := by unfold Inf; kernel_rfl
theorem inf84 : Inf Try.prog 84 (.agg #[(.slice none 0 0)]) 1 24 := by unfold Inf; kernel_rfl
theorem inf87 : Inf Try.prog 87 (.pointer none) 1 8 := by unfold Inf; kernel_rfl
theorem inf95 : Inf Try.prog 95 (.agg #[(.int .i64 0), (.int .i64 0), (.int .i64 0), (.int .i64 0)]) 4 32 := by unfold Inf; kernel_rfl
theorem inf115 : Inf Try.prog 115 (.agg #[(.pointer none), (.pointer none), (.int .i64 0), (.int .i64 0), (.int .i64 0), (.slice none 0 0)]) 6 64 := by unfold Inf; kernel_rfl
theorem r_fd_115_0 {w : World} {b off : Nat} : (Instr.fieldAt 115 (.pointer (some ⟨b, off, none⟩)) 0).run Try.prog w = .ok (.pointer (some ⟨b, off + 0, none⟩)) w := r_field 31 0 Try.underlying115 rfl inf31 rfl
theorem r_fd_115_1 {w : World} {b off : Nat} : (Instr.fieldAt 115 (.pointer (some ⟨b, off, none⟩)) 1).run Try.prog w = .ok (.pointer (some ⟨b, off + 1, none⟩)) w := r_field 61 1 Try.underlying115 rfl inf61 rfl
theorem r_fd_115_2 {w : World} {b off : Nat} : (Instr.fieldAt 115 (.pointer (some ⟨b, off, none⟩)) 2).run Try.prog w = .ok (.pointer (some ⟨b, off + 2, none⟩)) w := r_field 3 2 Try.underlying115 rfl inf3 rfl
theorem r_fd_115_3 {w : World} {b off : Nat} : (Instr.fieldAt 115 (.pointer (some ⟨b, off, none⟩)) 3).run Try.prog w = .ok (.pointer (some ⟨b, off + 3, none⟩)) w := r_field 3 3 Try.underlying115 rfl inf3 rfl
theorem r_fd_115_4 {w : World} {b off : Nat} : (Instr.fieldAt 115 (.pointer (some ⟨b, off, none⟩)) 4).run Try.prog w = .ok (.pointer (some ⟨b, off + 4, none⟩)) w := r_field 3 4 Try.underlying115 rfl inf3 rfl
theorem r_fd_115_5 {w : World} {b off : Nat} : (Instr.fieldAt 115 (.pointer (some ⟨b, off, none⟩)) 5).run Try.prog w = .ok (.pointer (some ⟨b, off + 5, none⟩)) w := r_field 23 5 Try.underlying115 rfl inf23 rfl
theorem r_fd_27_0 {w : World} {b off : Nat} : (Instr.fieldAt 27 (.pointer (some ⟨b, off, none⟩)) 0).run Try.prog w = .ok (.pointer (some ⟨b, off + 0, none⟩)) w := r_field 3 0 Try.underlying27 rfl inf3 rfl
theorem r_fd_27_1 {w : World} {b off : Nat} : (Instr.fieldAt 27 (.pointer (some ⟨b, off, none⟩)) 1).run Try.prog w = .ok (.pointer (some ⟨b, off + 1, none⟩)) w := r_field 3 1 Try.underlying27 rfl inf3 rfl
theorem r_fd_27_2 {w : World} {b off : Nat} : (Instr.fieldAt 27 (.pointer (some ⟨b, off, none⟩)) 2).run Try.prog w = .ok (.pointer (some ⟨b, off + 2, none⟩)) w := r_field 3 2 Try.underlying27 rfl inf3 rfl
theorem r_fd_48_0 {w : World} {b off : Nat} : (Instr.fieldAt 48 (.pointer (some ⟨b, off, none⟩)) 0).run Try.prog w = .ok (.pointer (some ⟨b, off + 0, none⟩)) w := r_field 23 0 Try.underlying48 rfl inf23 rfl
theorem r_fd_48_1 {w : World} {b off : Nat} : (Instr.fieldAt 48 (.pointer (some ⟨b, off, none⟩)) 1).run Try.prog w = .ok (.pointer (some ⟨b, off + 1, none⟩)) w := r_field 3 1 Try.underlying48 rfl inf3 rfl
theorem r_fd_48_2 {w : World} {b off : Nat} : (Instr.fieldAt 48 (.pointer (some ⟨b, off, none⟩)) 2).run Try.prog w = .ok (.pointer (some ⟨b, off + 2, none⟩)) w := r_field 23 2 Try.underlying48 rfl inf23 rfl
theorem r_fd_48_3 {w : World} {b off : Nat} : (Instr.fieldAt 48 (.pointer (some ⟨b, off, none⟩)) 3).run Try.prog w = .ok (.pointer (some ⟨b, off + 3, none⟩)) w := r_field 24 3 Try.underlying48 rfl inf24 rfl
theorem r_fd_52_0 {w : World} {b off : Nat} : (Instr.fieldAt 52 (.pointer (some ⟨b, off, none⟩)) 0).run Try.prog w = .ok (.pointer (some ⟨b, off + 0, none⟩)) w := r_field 9 0 Try.underlying52 rfl inf9 rfl
theorem r_fd_52_1 {w : World} {b off : Nat} : (Instr.fieldAt 52 (.pointer (some ⟨b, off, none⟩)) 1).run Try.prog w = .ok (.pointer (some ⟨b, off + 1, none⟩)) w := r_field 23 1 Try.underlying52 rfl inf23 rfl
theorem r_fd_52_2 {w : World} {b off : Nat} : (Instr.fieldAt 52 (.pointer (some ⟨b, off, none⟩)) 2).run Try.prog w = .ok (.pointer (some ⟨b, off + 2, none⟩)) w := r_field 50 2 Try.underlying52 rfl inf50 rfl
theorem r_fd_52_3 {w : World} {b off : Nat} : (Instr.fieldAt 52 (.pointer (some ⟨b, off, none⟩)) 3).run Try.prog w = .ok (.pointer (some ⟨b, off + 3, none⟩)) w := r_field 49 3 Try.underlying52 rfl inf49 rfl
theorem r_fd_52_4 {w : World} {b off : Nat} : (Instr.fieldAt 52 (.pointer (some ⟨b, off, none⟩)) 4).run Try.prog w = .ok (.pointer (some ⟨b, off + 4, none⟩)) w := r_field 23 4 Try.underlying52 rfl inf23 rfl
theorem r_fd_60_0 {w : World} {b off : Nat} : (Instr.fieldAt 60 (.pointer (some ⟨b, off, none⟩)) 0).run Try.prog w = .ok (.pointer (some ⟨b, off + 0, none⟩)) w := r_field 55 0 Try.underlying60 rfl inf55 rfl
theorem r_fd_60_1 {w : World} {b off : Nat} : (Instr.fieldAt 60 (.pointer (some ⟨b, off, none⟩)) 1).run Try.prog w = .ok (.pointer (some ⟨b, off + 1, none⟩)) w := r_field 56 1 Try.underlying60 rfl inf56 rfl
theorem r_fd_60_2 {w : World} {b off : Nat} : (Instr.fieldAt 60 (.pointer (some ⟨b, off, none⟩)) 2).run Try.prog w = .ok (.pointer (some ⟨b, off + 2, none⟩)) w := r_field 57 2 Try.underlying60 rfl inf57 rfl
theorem r_fd_60_3 {w : World} {b off : Nat} : (Instr.fieldAt 60 (.pointer (some ⟨b, off, none⟩)) 3).run Try.prog w = .ok (.pointer (some ⟨b, off + 3, none⟩)) w := r_field 58 3 Try.underlying60 rfl inf58 rfl
theorem r_fd_60_4 {w : World} {b off : Nat} : (Instr.fieldAt 60 (.pointer (some ⟨b, off, none⟩)) 4).run Try.prog w = .ok (.pointer (some ⟨b, off + 4, none⟩)) w := r_field 58 4 Try.underlying60 rfl inf58 rfl
theorem r_fd_64_0 {w : World} {b off : Nat} : (Instr.fieldAt 64 (.pointer (some ⟨b, off, none⟩)) 0).run Try.prog w = .ok (.pointer (some ⟨b, off + 0, none⟩)) w := r_field 31 0 Try.underlying64 rfl inf31 rfl
theorem r_fd_64_1 {w : World} {b off : Nat} : (Instr.fieldAt 64 (.pointer (some ⟨b, off, none⟩)) 1).run Try.prog w = .ok (.pointer (some ⟨b, off + 1, none⟩)) w := r_field 61 1 Try.underlying64 rfl inf61 rfl
theorem r_fd_64_2 {w : World} {b off : Nat} : (Instr.fieldAt 64 (.pointer (some ⟨b, off, none⟩)) 2).run Try.prog w = .ok (.pointer (some ⟨b, off + 2, none⟩)) w := r_field 62 2 Try.underlying64 rfl inf62 rfl
theorem r_fd_64_3 {w : World} {b off : Nat} : (Instr.fieldAt 64 (.pointer (some ⟨b, off, none⟩)) 3).run Try.prog w = .ok (.pointer (some ⟨b, off + 3, none⟩)) w := r_field 3 3 Try.underlying64 rfl inf3 rfl
theorem r_fd_64_4 {w : World} {b off : Nat} : (Instr.fieldAt 64 (.pointer (some ⟨b, off, none⟩)) 4).run Try.prog w = .ok (.pointer (some ⟨b, off + 4, none⟩)) w := r_field 3 4 Try.underlying64 rfl inf3 rfl
theorem r_fd_71_0 {w : World} {b off : Nat} : (Instr.fieldAt 71 (.pointer (some ⟨b, off, none⟩)) 0).run Try.prog w = .ok (.pointer (some ⟨b, off + 0, none⟩)) w := r_field 3 0 Try.underlying71 rfl inf3 rfl
theorem r_fd_71_3 {w : World} {b off : Nat} : (Instr.fieldAt 71 (.pointer (some ⟨b, off, none⟩)) 3).run Try.prog w = .ok (.pointer (some ⟨b, off + 3, none⟩)) w := r_field 4 3 Try.underlying71 rfl inf4 rfl
theorem r_fd_71_4 {w : World} {b off : Nat} : (Instr.fieldAt 71 (.pointer (some ⟨b, off, none⟩)) 4).run Try.prog w = .ok (.pointer (some ⟨b, off + 4, none⟩)) w := r_field 58 4 Try.underlying71 rfl inf58 rfl
theorem r_fd_74_0 {w : World} {b off : Nat} : (Instr.fieldAt 74 (.pointer (some ⟨b, off, none⟩)) 0).run Try.prog w = .ok (.pointer (some ⟨b, off + 0, none⟩)) w := r_field 3 0 Try.underlying74 rfl inf3 rfl
theorem r_fd_74_1 {w : World} {b off : Nat} : (Instr.fieldAt 74 (.pointer (some ⟨b, off, none⟩)) 1).run Try.prog w = .ok (.pointer (some ⟨b, off + 1, none⟩)) w := r_field 72 1 Try.underlying74 rfl inf72 rfl
theorem r_fd_78_0 {w : World} {b off : Nat} : (Instr.fieldAt 78 (.pointer (some ⟨b, off, none⟩)) 0).run Try.prog w = .ok (.pointer (some ⟨b, off + 0, none⟩)) w := r_field 9 0 Try.underlying78 rfl inf9 rfl
theorem r_fd_78_1 {w : World} {b off : Nat} : (Instr.fieldAt 78 (.pointer (some ⟨b, off, none⟩)) 1).run Try.prog w = .ok (.pointer (some ⟨b, off + 1, none⟩)) w := r_field 3 1 Try.underlying78 rfl inf3 rfl
theorem r_fd_78_2 {w : World} {b off : Nat} : (Instr.fieldAt 78 (.pointer (some ⟨b, off, none⟩)) 2).run Try.prog w = .ok (.pointer (some ⟨b, off + 2, none⟩)) w := r_field 23 2 Try.underlying78 rfl inf23 rfl
theorem r_fd_78_3 {w : World} {b off : Nat} : (Instr.fieldAt 78 (.pointer (some ⟨b, off, none⟩)) 3).run Try.prog w = .ok (.pointer (some ⟨b, off + 3, none⟩)) w := r_field 3 3 Try.underlying78 rfl inf3 rfl
theorem r_fd_84_0 {w : World} {b off : Nat} : (Instr.fieldAt 84 (.pointer (some ⟨b, off, none⟩)) 0).run Try.prog w = .ok (.pointer (some ⟨b, off + 0, none⟩)) w := r_field 82 0 Try.underlying84 rfl inf82 rfl
theorem r_fd_89_0 {w : World} {b off : Nat} : (Instr.fieldAt 89 (.pointer (some ⟨b, off, none⟩)) 0).run Try.prog w = .ok (.pointer (some ⟨b, off + 0, none⟩)) w := r_field 3 0 Try.underlying89 rfl inf3 rfl
theorem r_fd_89_1 {w : World} {b off : Nat} : (Instr.fieldAt 89 (.pointer (some ⟨b, off, none⟩)) 1).run Try.prog w = .ok (.pointer (some ⟨b, off + 1, none⟩)) w := r_field 3 1 Try.underlying89 rfl inf3 rfl
theorem r_fd_89_2 {w : World} {b off : Nat} : (Instr.fieldAt 89 (.pointer (some ⟨b, off, none⟩)) 2).run Try.prog w = .ok (.pointer (some ⟨b, off + 2, none⟩)) w := r_field 3 2 Try.underlying89 rfl inf3 rfl
theorem r_fd_89_3 {w : World} {b off : Nat} : (Instr.fieldAt 89 (.pointer (some ⟨b, off, none⟩)) 3).run Try.prog w = .ok (.pointer (some ⟨b, off + 3, none⟩)) w := r_field 48 3 Try.underlying89 rfl inf48 rfl
theorem r_fd_89_4 {w : World} {b off : Nat} : (Instr.fieldAt 89 (.pointer (some ⟨b, off, none⟩)) 4).run Try.prog w = .ok (.pointer (some ⟨b, off + 7, none⟩)) w := r_field 22 7 Try.underlying89 rfl inf22 rfl
theorem r_fd_89_5 {w : World} {b off : Nat} : (Instr.fieldAt 89 (.pointer (some ⟨b, off, none⟩)) 5).run Try.prog w = .ok (.pointer (some ⟨b, off + 8, none⟩)) w := r_field 22 8 Try.underlying89 rfl inf22 rfl
theorem r_ix_22 {w : World} {b off len cap : Nat} {k : IntKind} {i : Int} (h0 : 0 ≤ i) (h1 : i < len) : (Instr.indexAt 22 (.slice (some ⟨b, off, none⟩) len cap) (.int k i)).run Try.prog w = .ok (.pointer (some ⟨b, off + i.toNat * 1, none⟩)) w := r_index Try.underlying22 inf21 h0 h1
theorem r_ix_23 {w : World} {b off len cap : Nat} {k : IntKind} {i : Int} (h0 : 0 ≤ i) (h1 : i < len) : (Instr.indexAt 23 (.slice (some ⟨b, off, none⟩) len cap) (.int k i)).run Try.prog w = .ok (.pointer (some ⟨b, off + i.toNat * 1, none⟩)) w := r_index Try.underlying23 inf3 h0 h1
theorem r_ix_24 {w : World} {b off len cap : Nat} {k : IntKind} {i : Int} (h0 : 0 ≤ i) (h1 : i < len) : (Instr.indexAt 24 (.slice (some ⟨b, off, none⟩) len cap) (.int k i)).run Try.prog w = .ok (.pointer (some ⟨b, off + i.toNat * 3, none⟩)) w := r_index Try.underlying24 inf27 h0 h1
theorem r_ix_49 {w : World} {b off len cap : Nat} {k : IntKind} {i : Int} (h0 : 0 ≤ i) (h1 : i < len) : (Instr.indexAt 49 (.slice (some ⟨b, off, none⟩) len cap) (.int k i)).run Try.prog w = .ok (.pointer (some ⟨b, off + i.toNat * 4, none⟩)) w := r_index Try.underlying49 inf48 h0 h1
theorem r_ix_50 {w : World} {b off len cap : Nat} {k : IntKind} {i : Int} (h0 : 0 ≤ i) (h1 : i < len) : (Instr.indexAt 50 (.slice (some ⟨b, off, none⟩) len cap) (.int k i)).run Try.prog w = .ok (.pointer (some ⟨b, off + i.toNat * 4, none⟩)) w := r_index Try.underlying50 inf78 h0 h1
theorem r_ix_56 {w : World} {b off len cap : Nat} {k : IntKind} {i : Int} (h0 : 0 ≤ i) (h1 : i < len) : (Instr.indexAt 56 (.slice (some ⟨b, off, none⟩) len cap) (.int k i)).run Try.prog w = .ok (.pointer (some ⟨b, off + i.toNat * 5, none⟩)) w := r_index Try.underlying56 inf52 h0 h1
theorem r_ix_57 {w : World} {b off len cap : Nat} {k : IntKind} {i : Int} (h0 : 0 ≤ i) (h1 : i < len) : (Instr.indexAt 57 (.slice (some ⟨b, off, none⟩) len cap) (.int k i)).run Try.prog w = .ok (.pointer (some ⟨b, off + i.toNat * 1, none⟩)) w := r_index Try.underlying57 inf22 h0 h1
theorem r_ix_58 {w : World} {b off len cap : Nat} {k : IntKind} {i : Int} (h0 : 0 ≤ i) (h1 : i < len) : (Instr.indexAt 58 (.slice (some ⟨b, off, none⟩) len cap) (.int k i)).run Try.prog w = .ok (.pointer (some ⟨b, off + i.toNat * 1, none⟩)) w := r_index Try.underlying58 inf5 h0 h1
theorem r_ix_62 {w : World} {b off len cap : Nat} {k : IntKind} {i : Int} (h0 : 0 ≤ i) (h1 : i < len) : (Instr.indexAt 62 (.slice (some ⟨b, off, none⟩) len cap) (.int k i)).run Try.prog w = .ok (.pointer (some ⟨b, off + i.toNat * 1, none⟩)) w := r_index Try.underlying62 inf87 h0 h1
theorem r_ix_72 {w : World} {b off len cap : Nat} {k : IntKind} {i : Int} (h0 : 0 ≤ i) (h1 : i < len) : (Instr.indexAt 72 (.slice (some ⟨b, off, none⟩) len cap) (.int k i)).run Try.prog w = .ok (.pointer (some ⟨b, off + i.toNat * 5, none⟩)) w := r_index Try.underlying72 inf71 h0 h1
theorem r_la_115 {w : World} {b off : Nat} {cs : List Value} (hl : cs.length = 6) (h : ∀ j (_ : j < cs.length), w.cell? ⟨b, off + j, none⟩ = cs[j]?) : (Instr.loadAt 115 (.pointer (some ⟨b, off, none⟩))).run Try.prog w = .ok (.agg cs.toArray) w := r_loadAgg Try.underlying115 rfl inf115 hl h
theorem r_la_27 {w : World} {b off : Nat} {cs : List Value} (hl : cs.length = 3) (h : ∀ j (_ : j < cs.length), w.cell? ⟨b, off + j, none⟩ = cs[j]?) : (Instr.loadAt 27 (.pointer (some ⟨b, off, none⟩))).run Try.prog w = .ok (.agg cs.toArray) w := r_loadAgg Try.underlying27 rfl inf27 hl h
theorem r_la_48 {w : World} {b off : Nat} {cs : List Value} (hl : cs.length = 4) (h : ∀ j (_ : j < cs.length), w.cell? ⟨b, off + j, none⟩ = cs[j]?) : (Instr.loadAt 48 (.pointer (some ⟨b, off, none⟩))).run Try.prog w = .ok (.agg cs.toArray) w := r_loadAgg Try.underlying48 rfl inf48 hl h
theorem r_la_52 {w : World} {b off : Nat} {cs : List Value} (hl : cs.length = 5) (h : ∀ j (_ : j < cs.length), w.cell? ⟨b, off + j, none⟩ = cs[j]?) : (Instr.loadAt 52 (.pointer (some ⟨b, off, none⟩))).run Try.prog w = .ok (.agg cs.toArray) w := r_loadAgg Try.underlying52 rfl inf52 hl h
theorem r_la_71 {w : World} {b off : Nat} {cs : List Value} (hl : cs.length = 5) (h : ∀ j (_ : j < cs.length), w.cell? ⟨b, off + j, none⟩ = cs[j]?) : (Instr.loadAt 71 (.pointer (some ⟨b, off, none⟩))).run Try.prog w = .ok (.agg cs.toArray) w := r_loadAgg Try.underlying71 rfl inf71 hl h
theorem r_la_78 {w : World} {b off : Nat} {cs : List Value} (hl : cs.length = 4) (h : ∀ j (_ : j < cs.length), w.cell? ⟨b, off + j, none⟩ = cs[j]?) : (Instr.loadAt 78 (.pointer (some ⟨b, off, none⟩))).run Try.prog w = .ok (.agg cs.toArray) w := r_loadAgg Try.underlying78 rfl inf78 hl h
theorem r_ld_21 {w : World} {a : Addr} {v : Value} (h : w.cell? a = some v) : (Instr.loadAt 21 (.pointer (some a))).run Try.prog w = .ok v w := r_load Try.underlying21 rfl h
theorem r_ld_22 {w : World} {a : Addr} {v : Value} (h : w.cell? a = some v) : (Instr.loadAt 22 (.pointer (some a))).run Try.prog w = .ok v w := r_load Try.underlying22 rfl h
theorem r_ld_23 {w : World} {a : Addr} {v : Value} (h : w.cell? a = some v) : (Instr.loadAt 23 (.pointer (some a))).run Try.prog w = .ok v w := r_load Try.underlying23 rfl h
theorem r_ld_24 {w : World} {a : Addr} {v : Value} (h : w.cell? a = some v) : (Instr.loadAt 24 (.pointer (some a))).run Try.prog w = .ok v w := r_load Try.underlying24 rfl h
theorem r_ld_3 {w : World} {a : Addr} {v : Value} (h : w.cell? a = some v) : (Instr.loadAt 3 (.pointer (some a))).run Try.prog w = .ok v w := r_load Try.underlying3 rfl h
theorem r_ld_31 {w : World} {a : Addr} {v : Value} (h : w.cell? a = some v) : (Instr.loadAt 31 (.pointer (some a))).run Try.prog w = .ok v w := r_load Try.underlying31 rfl h
theorem r_ld_4 {w : World} {a : Addr} {v : Value} (h : w.cell? a = some v) : (Instr.loadAt 4 (.pointer (some a))).run Try.prog w = .ok v w := r_load Try.underlying4 rfl h
theorem r_ld_49 {w : World} {a : Addr} {v : Value} (h : w.cell? a = some v) : (Instr.loadAt 49 (.pointer (some a))).run Try.prog w = .ok v w := r_load Try.underlying49 rfl h
theorem r_ld_5 {w : World} {a : Addr} {v : Value} (h : w.cell? a = some v) : (Instr.loadAt 5 (.pointer (some a))).run Try.prog w = .ok v w := r_load Try.underlying5 rfl h
theorem r_ld_50 {w : World} {a : Addr} {v : Value} (h : w.cell? a = some v) : (Instr.loadAt 50 (.pointer (some a))).run Try.prog w = .ok v w := r_load Try.underlying50 rfl h
theorem r_ld_55 {w : World} {a : Addr} {v : Value} (h : w.cell? a = some v) : (Instr.loadAt 55 (.pointer (some a))).run Try.prog w = .ok v w := r_load Try.underlying55 rfl h
theorem r_ld_56 {w : World} {a : Addr} {v : Value} (h : w.cell? a = some v) : (Instr.loadAt 56 (.pointer (some a))).run Try.prog w = .ok v w := r_load Try.underlying56 rfl h
theorem r_ld_57 {w : World} {a : Addr} {v : Value} (h : w.cell? a = some v) : (Instr.loadAt 57 (.pointer (some a))).run Try.prog w = .ok v w := r_load Try.underlying57 rfl h
theorem r_ld_58 {w : World} {a : Addr} {v : Value} (h : w.cell? a = some v) : (Instr.loadAt 58 (.pointer (some a))).run Try.prog w = .ok v w := r_load Try.underlying58 rfl h
theorem r_ld_61 {w : World} {a : Addr} {v : Value} (h : w.cell? a = some v) : (Instr.loadAt 61 (.pointer (some a))).run Try.prog w = .ok v w := r_load Try.underlying61 rfl h
theorem r_ld_62 {w : World} {a : Addr} {v : Value} (h : w.cell? a = some v) : (Instr.loadAt 62 (.pointer (some a))).run Try.prog w = .ok v w := r_load Try.underlying62 rfl h
theorem r_ld_72 {w : World} {a : Addr} {v : Value} (h : w.cell? a = some v) : (Instr.loadAt 72 (.pointer (some a))).run Try.prog w = .ok v w := r_load Try.underlying72 rfl h
theorem r_ld_82 {w : World} {a : Addr} {v : Value} (h : w.cell? a = some v) : (Instr.loadAt 82 (.pointer (some a))).run Try.prog w = .ok v w := r_load Try.underlying82 rfl h
theorem r_ld_87 {w : World} {a : Addr} {v : Value} (h : w.cell? a = some v) : (Instr.loadAt 87 (.pointer (some a))).run Try.prog w = .ok v w := r_load Try.underlying87 rfl h
theorem r_ld_9 {w : World} {a : Addr} {v : Value} (h : w.cell? a = some v) : (Instr.loadAt 9 (.pointer (some a))).run Try.prog w = .ok v w := r_load Try.underlying9 rfl h
theorem r_sn_115 {w : World} {t' : TypeId} {old : Array Value} {v : Value} (hn : v.cells.size = 6) (ho : old.size = 6) (h1 : ∀ u ∈ v.cells.toList, oneC u = true) : (Instr.storeAt 115 (.pointer (some ⟨w.heap.size, 0, none⟩)) v).run Try.prog (w.alloc (.cells old t')) = .ok () (w.alloc (.cells v.cells t')) := r_storeNew inf115 hn ho h1
theorem r_sn_25 {w : World} {t' : TypeId} {old : Array Value} {v : Value} (hn : v.cells.size = 10) (ho : old.size = 10) (h1 : ∀ u ∈ v.cells.toList, oneC u = true) : (Instr.storeAt 25 (.pointer (some ⟨w.heap.size, 0, none⟩)) v).run Try.prog (w.alloc (.cells old t')) = .ok () (w.alloc (.cells v.cells t')) := r_storeNew inf25 hn ho h1
theorem r_sn_27 {w : World} {t' : TypeId} {old : Array Value} {v : Value} (hn : v.cells.size = 3) (ho : old.size = 3) (h1 : ∀ u ∈ v.cells.toList, oneC u = true) : (Instr.storeAt 27 (.pointer (some ⟨w.heap.size, 0, none⟩)) v).run Try.prog (w.alloc (.cells old t')) = .ok () (w.alloc (.cells v.cells t')) := r_storeNew inf27 hn ho h1
theorem r_sn_48 {w : World} {t' : TypeId} {old : Array Value} {v : Value} (hn : v.cells.size = 4) (ho : old.size = 4) (h1 : ∀ u ∈ v.cells.toList, oneC u = true) : (Instr.storeAt 48 (.pointer (some ⟨w.heap.size, 0, none⟩)) v).run Try.prog (w.alloc (.cells old t')) = .ok () (w.alloc (.cells v.cells t')) := r_storeNew inf48 hn ho h1
theorem r_sn_52 {w : World} {t' : TypeId} {old : Array Value} {v : Value} (hn : v.cells.size = 5) (ho : old.size = 5) (h1 : ∀ u ∈ v.cells.toList, oneC u = true) : (Instr.storeAt 52 (.pointer (some ⟨w.heap.size, 0, none⟩)) v).run Try.prog (w.alloc (.cells old t')) = .ok () (w.alloc (.cells v.cells t')) := r_storeNew inf52 hn ho h1
theorem r_sn_71 {w : World} {t' : TypeId} {old : Array Value} {v : Value} (hn : v.cells.size = 5) (ho : old.size = 5) (h1 : ∀ u ∈ v.cells.toList, oneC u = true) : (Instr.storeAt 71 (.pointer (some ⟨w.heap.size, 0, none⟩)) v).run Try.prog (w.alloc (.cells old t')) = .ok () (w.alloc (.cells v.cells t')) := r_storeNew inf71 hn ho h1
theorem r_sn_78 {w : World} {t' : TypeId} {old : Array Value} {v : Value} (hn : v.cells.size = 4) (ho : old.size = 4) (h1 : ∀ u ∈ v.cells.toList, oneC u = true) : (Instr.storeAt 78 (.pointer (some ⟨w.heap.size, 0, none⟩)) v).run Try.prog (w.alloc (.cells old t')) = .ok () (w.alloc (.cells v.cells t')) := r_storeNew inf78 hn ho h1
theorem U_st_21 {w : World} {b off : Nat} {v : Value} {K : Value → World → Prop} (hv : oneC v = true) (h : (w.cell? ⟨b, off, none⟩).isSome = true) (hf : w.frozen? ⟨b, off, none⟩ = false) : U Try.prog (Instr.storeAt 21 (.pointer (some ⟨b, off, none⟩)) v) w K ↔ K undef (w.setCell ⟨b, off, none⟩ v) := V_store inf21 hv h hf
theorem U_st_22 {w : World} {b off : Nat} {v : Value} {K : Value → World → Prop} (hv : oneC v = true) (h : (w.cell? ⟨b, off, none⟩).isSome = true) (hf : w.frozen? ⟨b, off, none⟩ = false) : U Try.prog (Instr.storeAt 22 (.pointer (some ⟨b, off, none⟩)) v) w K ↔ K undef (w.setCell ⟨b, off, none⟩ v) := V_store inf22 hv h hf
theorem U_st_23 {w : World} {b off : Nat} {v : Value} {K : Value → World → Prop} (hv : oneC v = true) (h : (w.cell? ⟨b, off, none⟩).isSome = true) (hf : w.frozen? ⟨b, off, none⟩ = false) : U Try.prog (Instr.storeAt 23 (.pointer (some ⟨b, off, none⟩)) v) w K ↔ K undef (w.setCell ⟨b, off, none⟩ v) := V_store inf23 hv h hf
theorem U_st_24 {w : World} {b off : Nat} {v : Value} {K : Value → World → Prop} (hv : oneC v = true) (h : (w.cell? ⟨b, off, none⟩).isSome = true) (hf : w.frozen? ⟨b, off, none⟩ = false) : U Try.prog (Instr.storeAt 24 (.pointer (some ⟨b, off, none⟩)) v) w K ↔ K undef (w.setCell ⟨b, off, none⟩ v) := V_store inf24 hv h hf
theorem U_st_3 {w : World} {b off : Nat} {v : Value} {K : Value → World → Prop} (hv : oneC v = true) (h : (w.cell? ⟨b, off, none⟩).isSome = true) (hf : w.frozen? ⟨b, off, none⟩ = false) : U Try.prog (Instr.storeAt 3 (.pointer (some ⟨b, off, none⟩)) v) w K ↔ K undef (w.setCell ⟨b, off, none⟩ v) := V_store inf3 hv h hf
theorem U_st_49 {w : World} {b off : Nat} {v : Value} {K : Value → World → Prop} (hv : oneC v = true) (h : (w.cell? ⟨b, off, none⟩).isSome = true) (hf : w.frozen? ⟨b, off, none⟩ = false) : U Try.prog (Instr.storeAt 49 (.pointer (some ⟨b, off, none⟩)) v) w K ↔ K undef (w.setCell ⟨b, off, none⟩ v) := V_store inf49 hv h hf
theorem U_st_5 {w : World} {b off : Nat} {v : Value} {K : Value → World → Prop} (hv : oneC v = true) (h : (w.cell? ⟨b, off, none⟩).isSome = true) (hf : w.frozen? ⟨b, off, none⟩ = false) : U Try.prog (Instr.storeAt 5 (.pointer (some ⟨b, off, none⟩)) v) w K ↔ K undef (w.setCell ⟨b, off, none⟩ v) := V_store inf5 hv h hf
theorem U_st_50 {w : World} {b off : Nat} {v : Value} {K : Value → World → Prop} (hv : oneC v = true) (h : (w.cell? ⟨b, off, none⟩).isSome = true) (hf : w.frozen? ⟨b, off, none⟩ = false) : U Try.prog (Instr.storeAt 50 (.pointer (some ⟨b, off, none⟩)) v) w K ↔ K undef (w.setCell ⟨b, off, none⟩ v) := V_store inf50 hv h hf
theorem U_st_56 {w : World} {b off : Nat} {v : Value} {K : Value → World → Prop} (hv : oneC v = true) (h : (w.cell? ⟨b, off, none⟩).isSome = true) (hf : w.frozen? ⟨b, off, none⟩ = false) : U Try.prog (Instr.storeAt 56 (.pointer (some ⟨b, off, none⟩)) v) w K ↔ K undef (w.setCell ⟨b, off, none⟩ v) := V_store inf56 hv h hf
theorem U_st_57 {w : World} {b off : Nat} {v : Value} {K : Value → World → Prop} (hv : oneC v = true) (h : (w.cell? ⟨b, off, none⟩).isSome = true) (hf : w.frozen? ⟨b, off, none⟩ = false) : U Try.prog (Instr.storeAt 57 (.pointer (some ⟨b, off, none⟩)) v) w K ↔ K undef (w.setCell ⟨b, off, none⟩ v) := V_store inf57 hv h hf
theorem U_st_58 {w : World} {b off : Nat} {v : Value} {K : Value → World → Prop} (hv : oneC v = true) (h : (w.cell? ⟨b, off, none⟩).isSome = true) (hf : w.frozen? ⟨b, off, none⟩ = false) : U Try.prog (Instr.storeAt 58 (.pointer (some ⟨b, off, none⟩)) v) w K ↔ K undef (w.setCell ⟨b, off, none⟩ v) := V_store inf58 hv h hf
theorem U_st_62 {w : World} {b off : Nat} {v : Value} {K : Value → World → Prop} (hv : oneC v = true) (h : (w.cell? ⟨b, off, none⟩).isSome = true) (hf : w.frozen? ⟨b, off, none⟩ = false) : U Try.prog (Instr.storeAt 62 (.pointer (some ⟨b, off, none⟩)) v) w K ↔ K undef (w.setCell ⟨b, off, none⟩ v) := V_store inf62 hv h hf
theorem U_st_72 {w : World} {b off : Nat} {v : Value} {K : Value → World → Prop} (hv : oneC v = true) (h : (w.cell? ⟨b, off, none⟩).isSome = true) (hf : w.frozen? ⟨b, off, none⟩ = false) : U Try.prog (Instr.storeAt 72 (.pointer (some ⟨b, off, none⟩)) v) w K ↔ K undef (w.setCell ⟨b, off, none⟩ v) := V_store inf72 hv h hf
theorem U_st_82 {w : World} {b off : Nat} {v : Value} {K : Value → World → Prop} (hv : oneC v = true) (h : (w.cell? ⟨b, off, none⟩).isSome = true) (hf : w.frozen? ⟨b, off, none⟩ = false) : U Try.prog (Instr.storeAt 82 (.pointer (some ⟨b, off, none⟩)) v) w K ↔ K undef (w.setCell ⟨b, off, none⟩ v) := V_store inf82 hv h hf
theorem V_al_115 {w : World} {K : Value → World → Prop} : V Try.prog (Instr.alloc 115 true (.tuple #[])) w K ↔ K (.pointer (some ⟨w.heap.size, 0, none⟩)) (w.alloc (.cells (Value.cells (.agg #[(.pointer none), (.pointer none), (.int .i64 0), (.int .i64 0), (.int .i64 0), (.slice none 0 0)])) 115)) := V.iff (r_alloc inf115)
theorem V_al_25 {w : World} {K : Value → World → Prop} : V Try.prog (Instr.alloc 25 true (.tuple #[])) w K ↔ K (.pointer (some ⟨w.heap.size, 0, none⟩)) (w.alloc (.cells (Value.cells (.agg #[(.int .i64 0), (.int .i64 0), (.int .i64 0), (.int .i64 0), (.int .i64 0), (.int .i64 0), (.int .i64 0), (.int .i64 0), (.int .i64 0), (.int .i64 0)])) 25)) := V.iff (r_alloc inf25)
theorem V_al_27 {w : World} {K : Value → World → Prop} : V Try.prog (Instr.alloc 27 true (.tuple #[])) w K ↔ K (.pointer (some ⟨w.heap.size, 0, none⟩)) (w.alloc (.cells (Value.cells (.agg #[(.int .i64 0), (.int .i64 0), (.int .i64 0)])) 27)) := V.iff (r_alloc inf27)
theorem V_al_48 {w : World} {K : Value → World → Prop} : V Try.prog (Instr.alloc 48 true (.tuple #[])) w K ↔ K (.pointer (some ⟨w.heap.size, 0, none⟩)) (w.alloc (.cells (Value.cells (.agg #[(.slice none 0 0), (.int .i64 0), (.slice none 0 0), (.slice none 0 0)])) 48)) := V.iff (r_alloc inf48)
theorem V_al_52 {w : World} {K : Value → World → Prop} : V Try.prog (Instr.alloc 52 true (.tuple #[])) w K ↔ K (.pointer (some ⟨w.heap.size, 0, none⟩)) (w.alloc (.cells (Value.cells (.agg #[(.string ByteArray.empty), (.slice none 0 0), (.slice none 0 0), (.slice none 0 0), (.slice none 0 0)])) 52)) := V.iff (r_alloc inf52)
theorem V_al_71 {w : World} {K : Value → World → Prop} : V Try.prog (Instr.alloc 71 true (.tuple #[])) w K ↔ K (.pointer (some ⟨w.heap.size, 0, none⟩)) (w.alloc (.cells (Value.cells (.agg #[(.int .i64 0), (.int .i64 0), (.int .i64 0), (.bool false), (.slice none 0 0)])) 71)) := V.iff (r_alloc inf71)
theorem V_al_78 {w : World} {K : Value → World → Prop} : V Try.prog (Instr.alloc 78 true (.tuple #[])) w K ↔ K (.pointer (some ⟨w.heap.size, 0, none⟩)) (w.alloc (.cells (Value.cells (.agg #[(.string ByteArray.empty), (.int .i64 0), (.slice none 0 0), (.int .i64 0)])) 78)) := V.iff (r_alloc inf78)
theorem V_as_115 {w : World} {v : Value} {K : Value → World → Prop} (hn : v.cells.size = 6) (h1 : ∀ u ∈ v.cells.toList, oneC u = true) : V Try.prog (Instr.alloc 115 true (.tuple #[])) w (fun p w1 => U Try.prog (Instr.storeAt 115 p v) w1 fun _ w2 => K p w2) ↔ K (.pointer (some ⟨w.heap.size, 0, none⟩)) (w.alloc (.cells v.cells 115)) := V_allocStore inf115 (by decide) hn h1
theorem V_as_25 {w : World} {v : Value} {K : Value → World → Prop} (hn : v.cells.size = 10) (h1 : ∀ u ∈ v.cells.toList, oneC u = true) : V Try.prog (Instr.alloc 25 true (.tuple #[])) w (fun p w1 => U Try.prog (Instr.storeAt 25 p v) w1 fun _ w2 => K p w2) ↔ K (.pointer (some ⟨w.heap.size, 0, none⟩)) (w.alloc (.cells v.cells 25)) := V_allocStore inf25 (by decide) hn h1
theorem V_as_27 {w : World} {v : Value} {K : Value → World → Prop} (hn : v.cells.size = 3) (h1 : ∀ u ∈ v.cells.toList, oneC u = true) : V Try.prog (Instr.alloc 27 true (.tuple #[])) w (fun p w1 => U Try.prog (Instr.storeAt 27 p v) w1 fun _ w2 => K p w2) ↔ K (.pointer (some ⟨w.heap.size, 0, none⟩)) (w.alloc (.cells v.cells 27)) := V_allocStore inf27 (by decide) hn h1
theorem V_as_48 {w : World} {v : Value} {K : Value → World → Prop} (hn : v.cells.size = 4) (h1 : ∀ u ∈ v.cells.toList, oneC u = true) : V Try.prog (Instr.alloc 48 true (.tuple #[])) w (fun p w1 => U Try.prog (Instr.storeAt 48 p v) w1 fun _ w2 => K p w2) ↔ K (.pointer (some ⟨w.heap.size, 0, none⟩)) (w.alloc (.cells v.cells 48)) := V_allocStore inf48 (by decide) hn h1
theorem V_as_52 {w : World} {v : Value} {K : Value → World → Prop} (hn : v.cells.size = 5) (h1 : ∀ u ∈ v.cells.toList, oneC u = true) : V Try.prog (Instr.alloc 52 true (.tuple #[])) w (fun p w1 => U Try.prog (Instr.storeAt 52 p v) w1 fun _ w2 => K p w2) ↔ K (.pointer (some ⟨w.heap.size, 0, none⟩)) (w.alloc (.cells v.cells 52)) := V_allocStore inf52 (by decide) hn h1
theorem V_as_71 {w : World} {v : Value} {K : Value → World → Prop} (hn : v.cells.size = 5) (h1 : ∀ u ∈ v.cells.toList, oneC u = true) : V Try.prog (Instr.alloc 71 true (.tuple #[])) w (fun p w1 => U Try.prog (Instr.storeAt 71 p v) w1 fun _ w2 => K p w2) ↔ K (.pointer (some ⟨w.heap.size, 0, none⟩)) (w.alloc (.cells v.cells 71)) := V_allocStore inf71 (by decide) hn h1
theorem V_as_78 {w : World} {v : Value} {K : Value → World → Prop} (hn : v.cells.size = 4) (h1 : ∀ u ∈ v.cells.toList, oneC u = true) : V Try.prog (Instr.alloc 78 true (.tuple #[])) w (fun p w1 => U Try.prog (Instr.storeAt 78 p v) w1 fun _ w2 => K p w2) ↔ K (.pointer (some ⟨w.heap.size, 0, none⟩)) (w.alloc (.cells v.cells 78)) := V_allocStore inf78 (by decide) hn h1
theorem V_bs_22_0 {w : World} {K : Value → World → Prop} : V Try.prog (Instr.buildSlice 22 0 #[]) w K ↔ K (.slice (some ⟨w.heap.size, 0, none⟩) 0 0) (w.alloc (.cells #[] 21)) := V.iff (r_buildSlice Try.underlying22 inf21 rfl [] (by simp) (by simp))
theorem V_bs_22_1 {w : World} {v0 : Value} {K : Value → World → Prop} (h0 : oneC v0 = true) : V Try.prog (Instr.buildSlice 22 1 #[(0, v0)]) w K ↔ K (.slice (some ⟨w.heap.size, 0, none⟩) 1 1) (w.alloc (.cells #[v0] 21)) := V.iff (r_buildSlice Try.underlying22 inf21 rfl [v0] (by simp) (by simp [h0]))
theorem V_bs_23_0 {w : World} {K : Value → World → Prop} : V Try.prog (Instr.buildSlice 23 0 #[]) w K ↔ K (.slice (some ⟨w.heap.size, 0, none⟩) 0 0) (w.alloc (.cells #[] 3)) := V.iff (r_buildSlice Try.underlying23 inf3 rfl [] (by simp) (by simp))
theorem V_bs_23_1 {w : World} {v0 : Value} {K : Value → World → Prop} (h0 : oneC v0 = true) : V Try.prog (Instr.buildSlice 23 1 #[(0, v0)]) w K ↔ K (.slice (some ⟨w.heap.size, 0, none⟩) 1 1) (w.alloc (.cells #[v0] 3)) := V.iff (r_buildSlice Try.underlying23 inf3 rfl [v0] (by simp) (by simp [h0]))
theorem V_bs_57_1 {w : World} {v0 : Value} {K : Value → World → Prop} (h0 : oneC v0 = true) : V Try.prog (Instr.buildSlice 57 1 #[(0, v0)]) w K ↔ K (.slice (some ⟨w.heap.size, 0, none⟩) 1 1) (w.alloc (.cells #[v0] 22)) := V.iff (r_buildSlice Try.underlying57 inf22 rfl [v0] (by simp) (by simp [h0]))
theorem V_bs_58_0 {w : World} {K : Value → World → Prop} : V Try.prog (Instr.buildSlice 58 0 #[]) w K ↔ K (.slice (some ⟨w.heap.size, 0, none⟩) 0 0) (w.alloc (.cells #[] 5)) := V.iff (r_buildSlice Try.underlying58 inf5 rfl [] (by simp) (by simp))
theorem V_bs_62_1 {w : World} {v0 : Value} {K : Value → World → Prop} (h0 : oneC v0 = true) : V Try.prog (Instr.buildSlice 62 1 #[(0, v0)]) w K ↔ K (.slice (some ⟨w.heap.size, 0, none⟩) 1 1) (w.alloc (.cells #[v0] 87)) := V.iff (r_buildSlice Try.underlying62 inf87 rfl [v0] (by simp) (by simp [h0]))
theorem V_bx_115 {w : World} {v : Value} {K : Value → World → Prop} : V Try.prog (Instr.box 115 v) w K ↔ K (.pointer (some ⟨w.heap.size, 0, none⟩)) (w.alloc (.cells v.cells 115)) := V.iff r_box
theorem V_bx_27 {w : World} {v : Value} {K : Value → World → Prop} : V Try.prog (Instr.box 27 v) w K ↔ K (.pointer (some ⟨w.heap.size, 0, none⟩)) (w.alloc (.cells v.cells 27)) := V.iff r_box
theorem V_bx_52 {w : World} {v : Value} {K : Value → World → Prop} : V Try.prog (Instr.box 52 v) w K ↔ K (.pointer (some ⟨w.heap.size, 0, none⟩)) (w.alloc (.cells v.cells 52)) := V.iff r_box
theorem V_bx_60 {w : World} {v : Value} {K : Value → World → Prop} : V Try.prog (Instr.box 60 v) w K ↔ K (.pointer (some ⟨w.heap.size, 0, none⟩)) (w.alloc (.cells v.cells 60)) := V.iff r_box
theorem V_bx_64 {w : World} {v : Value} {K : Value → World → Prop} : V Try.prog (Instr.box 64 v) w K ↔ K (.pointer (some ⟨w.heap.size, 0, none⟩)) (w.alloc (.cells v.cells 64)) := V.iff r_box
theorem V_bx_71 {w : World} {v : Value} {K : Value → World → Prop} : V Try.prog (Instr.box 71 v) w K ↔ K (.pointer (some ⟨w.heap.size, 0, none⟩)) (w.alloc (.cells v.cells 71)) := V.iff r_box
theorem V_bx_74 {w : World} {v : Value} {K : Value → World → Prop} : V Try.prog (Instr.box 74 v) w K ↔ K (.pointer (some ⟨w.heap.size, 0, none⟩)) (w.alloc (.cells v.cells 74)) := V.iff r_box
theorem V_bx_84 {w : World} {v : Value} {K : Value → World → Prop} : V Try.prog (Instr.box 84 v) w K ↔ K (.pointer (some ⟨w.heap.size, 0, none⟩)) (w.alloc (.cells v.cells 84)) := V.iff r_box
theorem V_bx_89 {w : World} {v : Value} {K : Value → World → Prop} : V Try.prog (Instr.box 89 v) w K ↔ K (.pointer (some ⟨w.heap.size, 0, none⟩)) (w.alloc (.cells v.cells 89)) := V.iff r_box
theorem V_bx_9 {w : World} {v : Value} {K : Value → World → Prop} : V Try.prog (Instr.box 9 v) w K ↔ K (.pointer (some ⟨w.heap.size, 0, none⟩)) (w.alloc (.cells v.cells 9)) := V.iff r_box
theorem V_cv_142_21 {w : World} {k : IntKind} {n : Int} {K : Value → World → Prop} : V Try.prog (convert 142 21 (.int k n)) w K ↔ K (.int .i32 (IntKind.wrap .i32 n)) w := V.iff (r_convI Try.underlying142 Try.underlying21)
theorem V_cv_21_2 {w : World} {k : IntKind} {n : Int} {K : Value → World → Prop} : V Try.prog (convert 21 2 (.int k n)) w K ↔ K (.int .i64 (IntKind.wrap .i64 n)) w := V.iff (r_convI Try.underlying21 Try.underlying2)
theorem V_cv_21_3 {w : World} {k : IntKind} {n : Int} {K : Value → World → Prop} : V Try.prog (convert 21 3 (.int k n)) w K ↔ K (.int .i64 (IntKind.wrap .i64 n)) w := V.iff (r_convI Try.underlying21 Try.underlying3)
theorem V_cv_21_39 {w : World} {k : IntKind} {n : Int} {K : Value → World → Prop} : V Try.prog (convert 21 39 (.int k n)) w K ↔ K (.int .u64 (IntKind.wrap .u64 n)) w := V.iff (r_convI Try.underlying21 Try.underlying39)
theorem V_cv_21_40 {w : World} {k : IntKind} {n : Int} {K : Value → World → Prop} : V Try.prog (convert 21 40 (.int k n)) w K ↔ K (.int .u32 (IntKind.wrap .u32 n)) w := V.iff (r_convI Try.underlying21 Try.underlying40)
theorem V_cv_2_142 {w : World} {k : IntKind} {n : Int} {K : Value → World → Prop} : V Try.prog (convert 2 142 (.int k n)) w K ↔ K (.int .u64 (IntKind.wrap .u64 n)) w := V.iff (r_convI Try.underlying2 Try.underlying142)
theorem V_cv_2_21 {w : World} {k : IntKind} {n : Int} {K : Value → World → Prop} : V Try.prog (convert 2 21 (.int k n)) w K ↔ K (.int .i32 (IntKind.wrap .i32 n)) w := V.iff (r_convI Try.underlying2 Try.underlying21)
theorem V_cv_3_21 {w : World} {k : IntKind} {n : Int} {K : Value → World → Prop} : V Try.prog (convert 3 21 (.int k n)) w K ↔ K (.int .i32 (IntKind.wrap .i32 n)) w := V.iff (r_convI Try.underlying3 Try.underlying21)
theorem V_cv_3_5 {w : World} {k : IntKind} {n : Int} {K : Value → World → Prop} : V Try.prog (convert 3 5 (.int k n)) w K ↔ K (.int .u8 (IntKind.wrap .u8 n)) w := V.iff (r_convI Try.underlying3 Try.underlying5)
theorem V_cv_40_2 {w : World} {k : IntKind} {n : Int} {K : Value → World → Prop} : V Try.prog (convert 40 2 (.int k n)) w K ↔ K (.int .i64 (IntKind.wrap .i64 n)) w := V.iff (r_convI Try.underlying40 Try.underlying2)
theorem V_cv_40_21 {w : World} {k : IntKind} {n : Int} {K : Value → World → Prop} : V Try.prog (convert 40 21 (.int k n)) w K ↔ K (.int .i32 (IntKind.wrap .i32 n)) w := V.iff (r_convI Try.underlying40 Try.underlying21)
theorem V_cv_5_21 {w : World} {k : IntKind} {n : Int} {K : Value → World → Prop} : V Try.prog (convert 5 21 (.int k n)) w K ↔ K (.int .i32 (IntKind.wrap .i32 n)) w := V.iff (r_convI Try.underlying5 Try.underlying21)
theorem V_eqns_22 {w : World} {x y : Operand} {a : Option Addr} {n c : Nat} {K : Value → World → Prop} : V Try.prog (do eqGuard .eql 22 x y (.slice a n c) (.slice none 0 0); binOp .eql 22 (.slice a n c) (.slice none 0 0)) w K ↔ K (.bool a.isNone) w := V.iff (r_eqNilSlice Try.underlying22)
theorem V_eqns_23 {w : World} {x y : Operand} {a : Option Addr} {n c : Nat} {K : Value → World → Prop} : V Try.prog (do eqGuard .eql 23 x y (.slice a n c) (.slice none 0 0); binOp .eql 23 (.slice a n c) (.slice none 0 0)) w K ↔ K (.bool a.isNone) w := V.iff (r_eqNilSlice Try.underlying23)
theorem V_eqns_24 {w : World} {x y : Operand} {a : Option Addr} {n c : Nat} {K : Value → World → Prop} : V Try.prog (do eqGuard .eql 24 x y (.slice a n c) (.slice none 0 0); binOp .eql 24 (.slice a n c) (.slice none 0 0)) w K ↔ K (.bool a.isNone) w := V.iff (r_eqNilSlice Try.underlying24)
theorem V_eqns_49 {w : World} {x y : Operand} {a : Option Addr} {n c : Nat} {K : Value → World → Prop} : V Try.prog (do eqGuard .eql 49 x y (.slice a n c) (.slice none 0 0); binOp .eql 49 (.slice a n c) (.slice none 0 0)) w K ↔ K (.bool a.isNone) w := V.iff (r_eqNilSlice Try.underlying49)
theorem V_eqns_50 {w : World} {x y : Operand} {a : Option Addr} {n c : Nat} {K : Value → World → Prop} : V Try.prog (do eqGuard .eql 50 x y (.slice a n c) (.slice none 0 0); binOp .eql 50 (.slice a n c) (.slice none 0 0)) w K ↔ K (.bool a.isNone) w := V.iff (r_eqNilSlice Try.underlying50)
theorem V_eqns_58 {w : World} {x y : Operand} {a : Option Addr} {n c : Nat} {K : Value → World → Prop} : V Try.prog (do eqGuard .eql 58 x y (.slice a n c) (.slice none 0 0); binOp .eql 58 (.slice a n c) (.slice none 0 0)) w K ↔ K (.bool a.isNone) w := V.iff (r_eqNilSlice Try.underlying58)
theorem V_fd_115_0 {w : World} {b off : Nat} {K : Value → World → Prop} : V Try.prog (Instr.fieldAt 115 (.pointer (some ⟨b, off, none⟩)) 0) w K ↔ K (.pointer (some ⟨b, off + 0, none⟩)) w := V.iff (r_fd_115_0)
theorem V_fd_115_1 {w : World} {b off : Nat} {K : Value → World → Prop} : V Try.prog (Instr.fieldAt 115 (.pointer (some ⟨b, off, none⟩)) 1) w K ↔ K (.pointer (some ⟨b, off + 1, none⟩)) w := V.iff (r_fd_115_1)
theorem V_fd_115_2 {w : World} {b off : Nat} {K : Value → World → Prop} : V Try.prog (Instr.fieldAt 115 (.pointer (some ⟨b, off, none⟩)) 2) w K ↔ K (.pointer (some ⟨b, off + 2, none⟩)) w := V.iff (r_fd_115_2)
theorem V_fd_115_3 {w : World} {b off : Nat} {K : Value → World → Prop} : V Try.prog (Instr.fieldAt 115 (.pointer (some ⟨b, off, none⟩)) 3) w K ↔ K (.pointer (some ⟨b, off + 3, none⟩)) w := V.iff (r_fd_115_3)
theorem V_fd_115_4 {w : World} {b off : Nat} {K : Value → World → Prop} : V Try.prog (Instr.fieldAt 115 (.pointer (some ⟨b, off, none⟩)) 4) w K ↔ K (.pointer (some ⟨b, off + 4, none⟩)) w := V.iff (r_fd_115_4)
theorem V_fd_115_5 {w : World} {b off : Nat} {K : Value → World → Prop} : V Try.prog (Instr.fieldAt 115 (.pointer (some ⟨b, off, none⟩)) 5) w K ↔ K (.pointer (some ⟨b, off + 5, none⟩)) w := V.iff (r_fd_115_5)
theorem V_fd_27_0 {w : World} {b off : Nat} {K : Value → World → Prop} : V Try.prog (Instr.fieldAt 27 (.pointer (some ⟨b, off, none⟩)) 0) w K ↔ K (.pointer (some ⟨b, off + 0, none⟩)) w := V.iff (r_fd_27_0)
theorem V_fd_27_1 {w : World} {b off : Nat} {K : Value → World → Prop} : V Try.prog (Instr.fieldAt 27 (.pointer (some ⟨b, off, none⟩)) 1) w K ↔ K (.pointer (some ⟨b, off + 1, none⟩)) w := V.iff (r_fd_27_1)
theorem V_fd_27_2 {w : World} {b off : Nat} {K : Value → World → Prop} : V Try.prog (Instr.fieldAt 27 (.pointer (some ⟨b, off, none⟩)) 2) w K ↔ K (.pointer (some ⟨b, off + 2, none⟩)) w := V.iff (r_fd_27_2)
theorem V_fd_48_0 {w : World} {b off : Nat} {K : Value → World → Prop} : V Try.prog (Instr.fieldAt 48 (.pointer (some ⟨b, off, none⟩)) 0) w K ↔ K (.pointer (some ⟨b, off + 0, none⟩)) w := V.iff (r_fd_48_0)
theorem V_fd_48_1 {w : World} {b off : Nat} {K : Value → World → Prop} : V Try.prog (Instr.fieldAt 48 (.pointer (some ⟨b, off, none⟩)) 1) w K ↔ K (.pointer (some ⟨b, off + 1, none⟩)) w := V.iff (r_fd_48_1)
theorem V_fd_48_2 {w : World} {b off : Nat} {K : Value → World → Prop} : V Try.prog (Instr.fieldAt 48 (.pointer (some ⟨b, off, none⟩)) 2) w K ↔ K (.pointer (some ⟨b, off + 2, none⟩)) w := V.iff (r_fd_48_2)
theorem V_fd_48_3 {w : World} {b off : Nat} {K : Value → World → Prop} : V Try.prog (Instr.fieldAt 48 (.pointer (some ⟨b, off, none⟩)) 3) w K ↔ K (.pointer (some ⟨b, off + 3, none⟩)) w := V.iff (r_fd_48_3)
theorem V_fd_52_0 {w : World} {b off : Nat} {K : Value → World → Prop} : V Try.prog (Instr.fieldAt 52 (.pointer (some ⟨b, off, none⟩)) 0) w K ↔ K (.pointer (some ⟨b, off + 0, none⟩)) w := V.iff (r_fd_52_0)
theorem V_fd_52_1 {w : World} {b off : Nat} {K : Value → World → Prop} : V Try.prog (Instr.fieldAt 52 (.pointer (some ⟨b, off, none⟩)) 1) w K ↔ K (.pointer (some ⟨b, off + 1, none⟩)) w := V.iff (r_fd_52_1)
theorem V_fd_52_2 {w : World} {b off : Nat} {K : Value → World → Prop} : V Try.prog (Instr.fieldAt 52 (.pointer (some ⟨b, off, none⟩)) 2) w K ↔ K (.pointer (some ⟨b, off + 2, none⟩)) w := V.iff (r_fd_52_2)
theorem V_fd_52_3 {w : World} {b off : Nat} {K : Value → World → Prop} : V Try.prog (Instr.fieldAt 52 (.pointer (some ⟨b, off, none⟩)) 3) w K ↔ K (.pointer (some ⟨b, off + 3, none⟩)) w := V.iff (r_fd_52_3)
theorem V_fd_52_4 {w : World} {b off : Nat} {K : Value → World → Prop} : V Try.prog (Instr.fieldAt 52 (.pointer (some ⟨b, off, none⟩)) 4) w K ↔ K (.pointer (some ⟨b, off + 4, none⟩)) w := V.iff (r_fd_52_4)
theorem V_fd_60_0 {w : World} {b off : Nat} {K : Value → World → Prop} : V Try.prog (Instr.fieldAt 60 (.pointer (some ⟨b, off, none⟩)) 0) w K ↔ K (.pointer (some ⟨b, off + 0, none⟩)) w := V.iff (r_fd_60_0)
theorem V_fd_60_1 {w : World} {b off : Nat} {K : Value → World → Prop} : V Try.prog (Instr.fieldAt 60 (.pointer (some ⟨b, off, none⟩)) 1) w K ↔ K (.pointer (some ⟨b, off + 1, none⟩)) w := V.iff (r_fd_60_1)
theorem V_fd_60_2 {w : World} {b off : Nat} {K : Value → World → Prop} : V Try.prog (Instr.fieldAt 60 (.pointer (some ⟨b, off, none⟩)) 2) w K ↔ K (.pointer (some ⟨b, off + 2, none⟩)) w := V.iff (r_fd_60_2)
theorem V_fd_60_3 {w : World} {b off : Nat} {K : Value → World → Prop} : V Try.prog (Instr.fieldAt 60 (.pointer (some ⟨b, off, none⟩)) 3) w K ↔ K (.pointer (some ⟨b, off + 3, none⟩)) w := V.iff (r_fd_60_3)
theorem V_fd_60_4 {w : World} {b off : Nat} {K : Value → World → Prop} : V Try.prog (Instr.fieldAt 60 (.pointer (some ⟨b, off, none⟩)) 4) w K ↔ K (.pointer (some ⟨b, off + 4, none⟩)) w := V.iff (r_fd_60_4)
theorem V_fd_64_0 {w : World} {b off : Nat} {K : Value → World → Prop} : V Try.prog (Instr.fieldAt 64 (.pointer (some ⟨b, off, none⟩)) 0) w K ↔ K (.pointer (some ⟨b, off + 0, none⟩)) w := V.iff (r_fd_64_0)
theorem V_fd_64_1 {w : World} {b off : Nat} {K : Value → World → Prop} : V Try.prog (Instr.fieldAt 64 (.pointer (some ⟨b, off, none⟩)) 1) w K ↔ K (.pointer (some ⟨b, off + 1, none⟩)) w := V.iff (r_fd_64_1)
theorem V_fd_64_2 {w : World} {b off : Nat} {K : Value → World → Prop} : V Try.prog (Instr.fieldAt 64 (.pointer (some ⟨b, off, none⟩)) 2) w K ↔ K (.pointer (some ⟨b, off + 2, none⟩)) w := V.iff (r_fd_64_2)
theorem V_fd_64_3 {w : World} {b off : Nat} {K : Value → World → Prop} : V Try.prog (Instr.fieldAt 64 (.pointer (some ⟨b, off, none⟩)) 3) w K ↔ K (.pointer (some ⟨b, off + 3, none⟩)) w := V.iff (r_fd_64_3)
theorem V_fd_64_4 {w : World} {b off : Nat} {K : Value → World → Prop} : V Try.prog (Instr.fieldAt 64 (.pointer (some ⟨b, off, none⟩)) 4) w K ↔ K (.pointer (some ⟨b, off + 4, none⟩)) w := V.iff (r_fd_64_4)
theorem V_fd_71_0 {w : World} {b off : Nat} {K : Value → World → Prop} : V Try.prog (Instr.fieldAt 71 (.pointer (some ⟨b, off, none⟩)) 0) w K ↔ K (.pointer (some ⟨b, off + 0, none⟩)) w := V.iff (r_fd_71_0)
theorem V_fd_71_3 {w : World} {b off : Nat} {K : Value → World → Prop} : V Try.prog (Instr.fieldAt 71 (.pointer (some ⟨b, off, none⟩)) 3) w K ↔ K (.pointer (some ⟨b, off + 3, none⟩)) w := V.iff (r_fd_71_3)
theorem V_fd_71_4 {w : World} {b off : Nat} {K : Value → World → Prop} : V Try.prog (Instr.fieldAt 71 (.pointer (some ⟨b, off, none⟩)) 4) w K ↔ K (.pointer (some ⟨b, off + 4, none⟩)) w := V.iff (r_fd_71_4)
theorem V_fd_74_0 {w : World} {b off : Nat} {K : Value → World → Prop} : V Try.prog (Instr.fieldAt 74 (.pointer (some ⟨b, off, none⟩)) 0) w K ↔ K (.pointer (some ⟨b, off + 0, none⟩)) w := V.iff (r_fd_74_0)
theorem V_fd_74_1 {w : World} {b off : Nat} {K : Value → World → Prop} : V Try.prog (Instr.fieldAt 74 (.pointer (some ⟨b, off, none⟩)) 1) w K ↔ K (.pointer (some ⟨b, off + 1, none⟩)) w := V.iff (r_fd_74_1)
theorem V_fd_78_0 {w : World} {b off : Nat} {K : Value → World → Prop} : V Try.prog (Instr.fieldAt 78 (.pointer (some ⟨b, off, none⟩)) 0) w K ↔ K (.pointer (some ⟨b, off + 0, none⟩)) w := V.iff (r_fd_78_0)
theorem V_fd_78_1 {w : World} {b off : Nat} {K : Value → World → Prop} : V Try.prog (Instr.fieldAt 78 (.pointer (some ⟨b, off, none⟩)) 1) w K ↔ K (.pointer (some ⟨b, off + 1, none⟩)) w := V.iff (r_fd_78_1)
theorem V_fd_78_2 {w : World} {b off : Nat} {K : Value → World → Prop} : V Try.prog (Instr.fieldAt 78 (.pointer (some ⟨b, off, none⟩)) 2) w K ↔ K (.pointer (some ⟨b, off + 2, none⟩)) w := V.iff (r_fd_78_2)
theorem V_fd_78_3 {w : World} {b off : Nat} {K : Value → World → Prop} : V Try.prog (Instr.fieldAt 78 (.pointer (some ⟨b, off, none⟩)) 3) w K ↔ K (.pointer (some ⟨b, off + 3, none⟩)) w := V.iff (r_fd_78_3)
theorem V_fd_84_0 {w : World} {b off : Nat} {K : Value → World → Prop} : V Try.prog (Instr.fieldAt 84 (.pointer (some ⟨b, off, none⟩)) 0) w K ↔ K (.pointer (some ⟨b, off + 0, none⟩)) w := V.iff (r_fd_84_0)
theorem V_fd_89_0 {w : World} {b off : Nat} {K : Value → World → Prop} : V Try.prog (Instr.fieldAt 89 (.pointer (some ⟨b, off, none⟩)) 0) w K ↔ K (.pointer (some ⟨b, off + 0, none⟩)) w := V.iff (r_fd_89_0)
theorem V_fd_89_1 {w : World} {b off : Nat} {K : Value → World → Prop} : V Try.prog (Instr.fieldAt 89 (.pointer (some ⟨b, off, none⟩)) 1) w K ↔ K (.pointer (some ⟨b, off + 1, none⟩)) w := V.iff (r_fd_89_1)
theorem V_fd_89_2 {w : World} {b off : Nat} {K : Value → World → Prop} : V Try.prog (Instr.fieldAt 89 (.pointer (some ⟨b, off, none⟩)) 2) w K ↔ K (.pointer (some ⟨b, off + 2, none⟩)) w := V.iff (r_fd_89_2)
theorem V_fd_89_3 {w : World} {b off : Nat} {K : Value → World → Prop} : V Try.prog (Instr.fieldAt 89 (.pointer (some ⟨b, off, none⟩)) 3) w K ↔ K (.pointer (some ⟨b, off + 3, none⟩)) w := V.iff (r_fd_89_3)
theorem V_fd_89_4 {w : World} {b off : Nat} {K : Value → World → Prop} : V Try.prog (Instr.fieldAt 89 (.pointer (some ⟨b, off, none⟩)) 4) w K ↔ K (.pointer (some ⟨b, off + 7, none⟩)) w := V.iff (r_fd_89_4)
theorem V_fd_89_5 {w : World} {b off : Nat} {K : Value → World → Prop} : V Try.prog (Instr.fieldAt 89 (.pointer (some ⟨b, off, none⟩)) 5) w K ↔ K (.pointer (some ⟨b, off + 8, none⟩)) w := V.iff (r_fd_89_5)
theorem V_ix_22 {w : World} {b off len cap : Nat} {k : IntKind} {i : Int} {K : Value → World → Prop} (h0 : 0 ≤ i) (h1 : i < len) : V Try.prog (Instr.indexAt 22 (.slice (some ⟨b, off, none⟩) len cap) (.int k i)) w K ↔ K (.pointer (some ⟨b, off + i.toNat * 1, none⟩)) w := V.iff (r_ix_22 h0 h1)
theorem V_ix_23 {w : World} {b off len cap : Nat} {k : IntKind} {i : Int} {K : Value → World → Prop} (h0 : 0 ≤ i) (h1 : i < len) : V Try.prog (Instr.indexAt 23 (.slice (some ⟨b, off, none⟩) len cap) (.int k i)) w K ↔ K (.pointer (some ⟨b, off + i.toNat * 1, none⟩)) w := V.iff (r_ix_23 h0 h1)
theorem V_ix_24 {w : World} {b off len cap : Nat} {k : IntKind} {i : Int} {K : Value → World → Prop} (h0 : 0 ≤ i) (h1 : i < len) : V Try.prog (Instr.indexAt 24 (.slice (some ⟨b, off, none⟩) len cap) (.int k i)) w K ↔ K (.pointer (some ⟨b, off + i.toNat * 3, none⟩)) w := V.iff (r_ix_24 h0 h1)
theorem V_ix_49 {w : World} {b off len cap : Nat} {k : IntKind} {i : Int} {K : Value → World → Prop} (h0 : 0 ≤ i) (h1 : i < len) : V Try.prog (Instr.indexAt 49 (.slice (some ⟨b, off, none⟩) len cap) (.int k i)) w K ↔ K (.pointer (some ⟨b, off + i.toNat * 4, none⟩)) w := V.iff (r_ix_49 h0 h1)
theorem V_ix_50 {w : World} {b off len cap : Nat} {k : IntKind} {i : Int} {K : Value → World → Prop} (h0 : 0 ≤ i) (h1 : i < len) : V Try.prog (Instr.indexAt 50 (.slice (some ⟨b, off, none⟩) len cap) (.int k i)) w K ↔ K (.pointer (some ⟨b, off + i.toNat * 4, none⟩)) w := V.iff (r_ix_50 h0 h1)
theorem V_ix_56 {w : World} {b off len cap : Nat} {k : IntKind} {i : Int} {K : Value → World → Prop} (h0 : 0 ≤ i) (h1 : i < len) : V Try.prog (Instr.indexAt 56 (.slice (some ⟨b, off, none⟩) len cap) (.int k i)) w K ↔ K (.pointer (some ⟨b, off + i.toNat * 5, none⟩)) w := V.iff (r_ix_56 h0 h1)
theorem V_ix_57 {w : World} {b off len cap : Nat} {k : IntKind} {i : Int} {K : Value → World → Prop} (h0 : 0 ≤ i) (h1 : i < len) : V Try.prog (Instr.indexAt 57 (.slice (some ⟨b, off, none⟩) len cap) (.int k i)) w K ↔ K (.pointer (some ⟨b, off + i.toNat * 1, none⟩)) w := V.iff (r_ix_57 h0 h1)
theorem V_ix_58 {w : World} {b off len cap : Nat} {k : IntKind} {i : Int} {K : Value → World → Prop} (h0 : 0 ≤ i) (h1 : i < len) : V Try.prog (Instr.indexAt 58 (.slice (some ⟨b, off, none⟩) len cap) (.int k i)) w K ↔ K (.pointer (some ⟨b, off + i.toNat * 1, none⟩)) w := V.iff (r_ix_58 h0 h1)
theorem V_ix_62 {w : World} {b off len cap : Nat} {k : IntKind} {i : Int} {K : Value → World → Prop} (h0 : 0 ≤ i) (h1 : i < len) : V Try.prog (Instr.indexAt 62 (.slice (some ⟨b, off, none⟩) len cap) (.int k i)) w K ↔ K (.pointer (some ⟨b, off + i.toNat * 1, none⟩)) w := V.iff (r_ix_62 h0 h1)
theorem V_ix_72 {w : World} {b off len cap : Nat} {k : IntKind} {i : Int} {K : Value → World → Prop} (h0 : 0 ≤ i) (h1 : i < len) : V Try.prog (Instr.indexAt 72 (.slice (some ⟨b, off, none⟩) len cap) (.int k i)) w K ↔ K (.pointer (some ⟨b, off + i.toNat * 5, none⟩)) w := V.iff (r_ix_72 h0 h1)
theorem V_ld_21 {w : World} {a : Addr} {K : Value → World → Prop} : V Try.prog (Instr.loadAt 21 (.pointer (some a))) w K ↔ ldO Try.prog 21 a (w.cell? a) w K := V_load Try.underlying21 rfl
theorem V_ld_22 {w : World} {a : Addr} {K : Value → World → Prop} : V Try.prog (Instr.loadAt 22 (.pointer (some a))) w K ↔ ldO Try.prog 22 a (w.cell? a) w K := V_load Try.underlying22 rfl
theorem V_ld_23 {w : World} {a : Addr} {K : Value → World → Prop} : V Try.prog (Instr.loadAt 23 (.pointer (some a))) w K ↔ ldO Try.prog 23 a (w.cell? a) w K := V_load Try.underlying23 rfl
theorem V_ld_24 {w : World} {a : Addr} {K : Value → World → Prop} : V Try.prog (Instr.loadAt 24 (.pointer (some a))) w K ↔ ldO Try.prog 24 a (w.cell? a) w K := V_load Try.underlying24 rfl
theorem V_ld_3 {w : World} {a : Addr} {K : Value → World → Prop} : V Try.prog (Instr.loadAt 3 (.pointer (some a))) w K ↔ ldO Try.prog 3 a (w.cell? a) w K := V_load Try.underlying3 rfl
theorem V_ld_31 {w : World} {a : Addr} {K : Value → World → Prop} : V Try.prog (Instr.loadAt 31 (.pointer (some a))) w K ↔ ldO Try.prog 31 a (w.cell? a) w K := V_load Try.underlying31 rfl
theorem V_ld_4 {w : World} {a : Addr} {K : Value → World → Prop} : V Try.prog (Instr.loadAt 4 (.pointer (some a))) w K ↔ ldO Try.prog 4 a (w.cell? a) w K := V_load Try.underlying4 rfl
theorem V_ld_49 {w : World} {a : Addr} {K : Value → World → Prop} : V Try.prog (Instr.loadAt 49 (.pointer (some a))) w K ↔ ldO Try.prog 49 a (w.cell? a) w K := V_load Try.underlying49 rfl
theorem V_ld_5 {w : World} {a : Addr} {K : Value → World → Prop} : V Try.prog (Instr.loadAt 5 (.pointer (some a))) w K ↔ ldO Try.prog 5 a (w.cell? a) w K := V_load Try.underlying5 rfl
theorem V_ld_50 {w : World} {a : Addr} {K : Value → World → Prop} : V Try.prog (Instr.loadAt 50 (.pointer (some a))) w K ↔ ldO Try.prog 50 a (w.cell? a) w K := V_load Try.underlying50 rfl
theorem V_ld_55 {w : World} {a : Addr} {K : Value → World → Prop} : V Try.prog (Instr.loadAt 55 (.pointer (some a))) w K ↔ ldO Try.prog 55 a (w.cell? a) w K := V_load Try.underlying55 rfl
theorem V_ld_56 {w : World} {a : Addr} {K : Value → World → Prop} : V Try.prog (Instr.loadAt 56 (.pointer (some a))) w K ↔ ldO Try.prog 56 a (w.cell? a) w K := V_load Try.underlying56 rfl
theorem V_ld_57 {w : World} {a : Addr} {K : Value → World → Prop} : V Try.prog (Instr.loadAt 57 (.pointer (some a))) w K ↔ ldO Try.prog 57 a (w.cell? a) w K := V_load Try.underlying57 rfl
theorem V_ld_58 {w : World} {a : Addr} {K : Value → World → Prop} : V Try.prog (Instr.loadAt 58 (.pointer (some a))) w K ↔ ldO Try.prog 58 a (w.cell? a) w K := V_load Try.underlying58 rfl
theorem V_ld_61 {w : World} {a : Addr} {K : Value → World → Prop} : V Try.prog (Instr.loadAt 61 (.pointer (some a))) w K ↔ ldO Try.prog 61 a (w.cell? a) w K := V_load Try.underlying61 rfl
theorem V_ld_62 {w : World} {a : Addr} {K : Value → World → Prop} : V Try.prog (Instr.loadAt 62 (.pointer (some a))) w K ↔ ldO Try.prog 62 a (w.cell? a) w K := V_load Try.underlying62 rfl
theorem V_ld_72 {w : World} {a : Addr} {K : Value → World → Prop} : V Try.prog (Instr.loadAt 72 (.pointer (some a))) w K ↔ ldO Try.prog 72 a (w.cell? a) w K := V_load Try.underlying72 rfl
theorem V_ld_82 {w : World} {a : Addr} {K : Value → World → Prop} : V Try.prog (Instr.loadAt 82 (.pointer (some a))) w K ↔ ldO Try.prog 82 a (w.cell? a) w K := V_load Try.underlying82 rfl
theorem V_ld_87 {w : World} {a : Addr} {K : Value → World → Prop} : V Try.prog (Instr.loadAt 87 (.pointer (some a))) w K ↔ ldO Try.prog 87 a (w.cell? a) w K := V_load Try.underlying87 rfl
theorem V_ld_9 {w : World} {a : Addr} {K : Value → World → Prop} : V Try.prog (Instr.loadAt 9 (.pointer (some a))) w K ↔ ldO Try.prog 9 a (w.cell? a) w K := V_load Try.underlying9 rfl
theorem V_ln_22 {w : World} {ty : TypeId} {a : Option Addr} {n c : Nat} {K : Value → World → Prop} : V Try.prog (Builtin.len_ #[22] ty #[.slice a n c]) w K ↔ K (.int .i64 n) w := V.iff (r_len Try.underlying22)
theorem V_ln_23 {w : World} {ty : TypeId} {a : Option Addr} {n c : Nat} {K : Value → World → Prop} : V Try.prog (Builtin.len_ #[23] ty #[.slice a n c]) w K ↔ K (.int .i64 n) w := V.iff (r_len Try.underlying23)
theorem V_ln_24 {w : World} {ty : TypeId} {a : Option Addr} {n c : Nat} {K : Value → World → Prop} : V Try.prog (Builtin.len_ #[24] ty #[.slice a n c]) w K ↔ K (.int .i64 n) w := V.iff (r_len Try.underlying24)
theorem V_ln_49 {w : World} {ty : TypeId} {a : Option Addr} {n c : Nat} {K : Value → World → Prop} : V Try.prog (Builtin.len_ #[49] ty #[.slice a n c]) w K ↔ K (.int .i64 n) w := V.iff (r_len Try.underlying49)
theorem V_ln_50 {w : World} {ty : TypeId} {a : Option Addr} {n c : Nat} {K : Value → World → Prop} : V Try.prog (Builtin.len_ #[50] ty #[.slice a n c]) w K ↔ K (.int .i64 n) w := V.iff (r_len Try.underlying50)
theorem V_ln_56 {w : World} {ty : TypeId} {a : Option Addr} {n c : Nat} {K : Value → World → Prop} : V Try.prog (Builtin.len_ #[56] ty #[.slice a n c]) w K ↔ K (.int .i64 n) w := V.iff (r_len Try.underlying56)
theorem V_ln_57 {w : World} {ty : TypeId} {a : Option Addr} {n c : Nat} {K : Value → World → Prop} : V Try.prog (Builtin.len_ #[57] ty #[.slice a n c]) w K ↔ K (.int .i64 n) w := V.iff (r_len Try.underlying57)
theorem V_ln_58 {w : World} {ty : TypeId} {a : Option Addr} {n c : Nat} {K : Value → World → Prop} : V Try.prog (Builtin.len_ #[58] ty #[.slice a n c]) w K ↔ K (.int .i64 n) w := V.iff (r_len Try.underlying58)
theorem V_ln_62 {w : World} {ty : TypeId} {a : Option Addr} {n c : Nat} {K : Value → World → Prop} : V Try.prog (Builtin.len_ #[62] ty #[.slice a n c]) w K ↔ K (.int .i64 n) w := V.iff (r_len Try.underlying62)
theorem V_ln_72 {w : World} {ty : TypeId} {a : Option Addr} {n c : Nat} {K : Value → World → Prop} : V Try.prog (Builtin.len_ #[72] ty #[.slice a n c]) w K ↔ K (.int .i64 n) w := V.iff (r_len Try.underlying72)
theorem V_ln_82 {w : World} {ty : TypeId} {a : Option Addr} {n c : Nat} {K : Value → World → Prop} : V Try.prog (Builtin.len_ #[82] ty #[.slice a n c]) w K ↔ K (.int .i64 n) w := V.iff (r_len Try.underlying82)
theorem sa_115 : SA Try.prog 115 6 := ⟨_, _, inf115, by decide⟩
theorem sa_25 : SA Try.prog 25 10 := ⟨_, _, inf25, by decide⟩
theorem sa_27 : SA Try.prog 27 3 := ⟨_, _, inf27, by decide⟩
theorem sa_48 : SA Try.prog 48 4 := ⟨_, _, inf48, by decide⟩
theorem sa_52 : SA Try.prog 52 5 := ⟨_, _, inf52, by decide⟩
theorem sa_71 : SA Try.prog 71 5 := ⟨_, _, inf71, by decide⟩
theorem sa_78 : SA Try.prog 78 4 := ⟨_, _, inf78, by decide⟩
theorem xa_22 : XA Try.prog 22 1 := ⟨_, _, _, Try.underlying22, inf21⟩
theorem xa_23 : XA Try.prog 23 1 := ⟨_, _, _, Try.underlying23, inf3⟩
theorem xa_24 : XA Try.prog 24 3 := ⟨_, _, _, Try.underlying24, inf27⟩
theorem xa_49 : XA Try.prog 49 4 := ⟨_, _, _, Try.underlying49, inf48⟩
theorem xa_50 : XA Try.prog 50 4 := ⟨_, _, _, Try.underlying50, inf78⟩
theorem xa_56 : XA Try.prog 56 5 := ⟨_, _, _, Try.underlying56, inf52⟩
theorem xa_57 : XA Try.prog 57 1 := ⟨_, _, _, Try.underlying57, inf22⟩
theorem xa_58 : XA Try.prog 58 1 := ⟨_, _, _, Try.underlying58, inf5⟩
theorem xa_62 : XA Try.prog 62 1 := ⟨_, _, _, Try.underlying62, inf87⟩
theorem xa_72 : XA Try.prog 72 5 := ⟨_, _, _, Try.underlying72, inf71⟩
theorem xa_82 : XA Try.prog 82 4 := ⟨_, _, _, Try.underlying82, inf95⟩
theorem xe_22 : XE Try.prog 22 21 4 := ⟨_, Try.underlying22, inf21, rfl⟩
theorem xe_23 : XE Try.prog 23 3 8 := ⟨_, Try.underlying23, inf3, rfl⟩
theorem xe_57 : XE Try.prog 57 22 24 := ⟨_, Try.underlying57, inf22, rfl⟩
theorem xe_58 : XE Try.prog 58 5 1 := ⟨_, Try.underlying58, inf5, rfl⟩
theorem xe_62 : XE Try.prog 62 87 8 := ⟨_, Try.underlying62, inf87, rfl⟩
theorem l1_21 : L1 Try.prog 21 := ⟨_, Try.underlying21, rfl⟩
theorem l1_22 : L1 Try.prog 22 := ⟨_, Try.underlying22, rfl⟩
theorem l1_23 : L1 Try.prog 23 := ⟨_, Try.underlying23, rfl⟩
theorem l1_24 : L1 Try.prog 24 := ⟨_, Try.underlying24, rfl⟩
theorem l1_3 : L1 Try.prog 3 := ⟨_, Try.underlying3, rfl⟩
theorem l1_31 : L1 Try.prog 31 := ⟨_, Try.underlying31, rfl⟩
theorem l1_4 : L1 Try.prog 4 := ⟨_, Try.underlying4, rfl⟩
theorem l1_49 : L1 Try.prog 49 := ⟨_, Try.underlying49, rfl⟩
theorem l1_5 : L1 Try.prog 5 := ⟨_, Try.underlying5, rfl⟩
theorem l1_50 : L1 Try.prog 50 := ⟨_, Try.underlying50, rfl⟩
theorem l1_55 : L1 Try.prog 55 := ⟨_, Try.underlying55, rfl⟩
theorem l1_56 : L1 Try.prog 56 := ⟨_, Try.underlying56, rfl⟩
theorem l1_57 : L1 Try.prog 57 := ⟨_, Try.underlying57, rfl⟩
theorem l1_58 : L1 Try.prog 58 := ⟨_, Try.underlying58, rfl⟩
theorem l1_61 : L1 Try.prog 61 := ⟨_, Try.underlying61, rfl⟩
theorem l1_62 : L1 Try.prog 62 := ⟨_, Try.underlying62, rfl⟩
theorem l1_72 : L1 Try.prog 72 := ⟨_, Try.underlying72, rfl⟩
theorem l1_82 : L1 Try.prog 82 := ⟨_, Try.underlying82, rfl⟩
theorem l1_87 : L1 Try.prog 87 := ⟨_, Try.underlying87, rfl⟩
theorem l1_9 : L1 Try.prog 9 := ⟨_, Try.underlying9, rfl⟩
theorem bd_115 : BD Try.prog 115 [(.pointer none), (.pointer none), (.int .i64 0), (.int .i64 0), (.int .i64 0), (.slice none 0 0)] := ⟨_, _, Try.underlying115, inf115, fun w => by kernel_rfl⟩
theorem bd_27 : BD Try.prog 27 [(.int .i64 0), (.int .i64 0), (.int .i64 0)] := ⟨_, _, Try.underlying27, inf27, fun w => by kernel_rfl⟩
theorem bd_48 : BD Try.prog 48 [(.slice none 0 0), (.int .i64 0), (.slice none 0 0), (.slice none 0 0)] := ⟨_, _, Try.underlying48, inf48, fun w => by kernel_rfl⟩
theorem bd_52 : BD Try.prog 52 [(.string ByteArray.empty), (.slice none 0 0), (.slice none 0 0), (.slice none 0 0), (.slice none 0 0)] := ⟨_, _, Try.underlying52, inf52, fun w => by kernel_rfl⟩
theorem bd_60 : BD Try.prog 60 [(.pointer none), (.slice none 0 0), (.slice none 0 0), (.slice none 0 0), (.slice none 0 0)] := ⟨_, _, Try.underlying60, inf60, fun w => by kernel_rfl⟩
theorem bd_64 : BD Try.prog 64 [(.pointer none), (.pointer none), (.slice none 0 0), (.int .i64 0), (.int .i64 0)] := ⟨_, _, Try.underlying64, inf64, fun w => by kernel_rfl⟩
theorem bd_71 : BD Try.prog 71 [(.int .i64 0), (.int .i64 0), (.int .i64 0), (.bool false), (.slice none 0 0)] := ⟨_, _, Try.underlying71, inf71, fun w => by kernel_rfl⟩
theorem bd_74 : BD Try.prog 74 [(.int .i64 0), (.slice none 0 0)] := ⟨_, _, Try.underlying74, inf74, fun w => by kernel_rfl⟩
theorem bd_84 : BD Try.prog 84 [(.slice none 0 0)] := ⟨_, _, Try.underlying84, inf84, fun w => by kernel_rfl⟩
theorem bd_95 : BD Try.prog 95 [(.int .i64 0), (.int .i64 0), (.int .i64 0), (.int .i64 0)] := ⟨_, _, Try.underlying95, inf95, fun w => by kernel_rfl⟩
theorem fa_115_0 : FA Try.prog 115 0 0 := ⟨fun _ _ _ => r_field 31 0 Try.underlying115 rfl inf31 rfl⟩
theorem fa_115_1 : FA Try.prog 115 1 1 := ⟨fun _ _ _ => r_field 61 1 Try.underlying115 rfl inf61 rfl⟩
theorem fa_115_2 : FA Try.prog 115 2 2 := ⟨fun _ _ _ => r_field 3 2 Try.underlying115 rfl inf3 rfl⟩
theorem fa_115_3 : FA Try.prog 115 3 3 := ⟨fun _ _ _ => r_field 3 3 Try.underlying115 rfl inf3 rfl⟩
theorem fa_115_4 : FA Try.prog 115 4 4 := ⟨fun _ _ _ => r_field 3 4 Try.underlying115 rfl inf3 rfl⟩
theorem fa_115_5 : FA Try.prog 115 5 5 := ⟨fun _ _ _ => r_field 23 5 Try.underlying115 rfl inf23 rfl⟩
theorem fa_27_0 : FA Try.prog 27 0 0 := ⟨fun _ _ _ => r_field 3 0 Try.underlying27 rfl inf3 rfl⟩
theorem fa_27_1 : FA Try.prog 27 1 1 := ⟨fun _ _ _ => r_field 3 1 Try.underlying27 rfl inf3 rfl⟩
theorem fa_27_2 : FA Try.prog 27 2 2 := ⟨fun _ _ _ => r_field 3 2 Try.underlying27 rfl inf3 rfl⟩
theorem fa_48_0 : FA Try.prog 48 0 0 := ⟨fun _ _ _ => r_field 23 0 Try.underlying48 rfl inf23 rfl⟩
theorem fa_48_1 : FA Try.prog 48 1 1 := ⟨fun _ _ _ => r_field 3 1 Try.underlying48 rfl inf3 rfl⟩
theorem fa_48_2 : FA Try.prog 48 2 2 := ⟨fun _ _ _ => r_field 23 2 Try.underlying48 rfl inf23 rfl⟩
theorem fa_48_3 : FA Try.prog 48 3 3 := ⟨fun _ _ _ => r_field 24 3 Try.underlying48 rfl inf24 rfl⟩
theorem fa_52_0 : FA Try.prog 52 0 0 := ⟨fun _ _ _ => r_field 9 0 Try.underlying52 rfl inf9 rfl⟩
theorem fa_52_1 : FA Try.prog 52 1 1 := ⟨fun _ _ _ => r_field 23 1 Try.underlying52 rfl inf23 rfl⟩
theorem fa_52_2 : FA Try.prog 52 2 2 := ⟨fun _ _ _ => r_field 50 2 Try.underlying52 rfl inf50 rfl⟩
theorem fa_52_3 : FA Try.prog 52 3 3 := ⟨fun _ _ _ => r_field 49 3 Try.underlying52 rfl inf49 rfl⟩
theorem fa_52_4 : FA Try.prog 52 4 4 := ⟨fun _ _ _ => r_field 23 4 Try.underlying52 rfl inf23 rfl⟩
theorem fa_60_0 : FA Try.prog 60 0 0 := ⟨fun _ _ _ => r_field 55 0 Try.underlying60 rfl inf55 rfl⟩
theorem fa_60_1 : FA Try.prog 60 1 1 := ⟨fun _ _ _ => r_field 56 1 Try.underlying60 rfl inf56 rfl⟩
theorem fa_60_2 : FA Try.prog 60 2 2 := ⟨fun _ _ _ => r_field 57 2 Try.underlying60 rfl inf57 rfl⟩
theorem fa_60_3 : FA Try.prog 60 3 3 := ⟨fun _ _ _ => r_field 58 3 Try.underlying60 rfl inf58 rfl⟩
theorem fa_60_4 : FA Try.prog 60 4 4 := ⟨fun _ _ _ => r_field 58 4 Try.underlying60 rfl inf58 rfl⟩
theorem fa_64_0 : FA Try.prog 64 0 0 := ⟨fun _ _ _ => r_field 31 0 Try.underlying64 rfl inf31 rfl⟩
theorem fa_64_1 : FA Try.prog 64 1 1 := ⟨fun _ _ _ => r_field 61 1 Try.underlying64 rfl inf61 rfl⟩
theorem fa_64_2 : FA Try.prog 64 2 2 := ⟨fun _ _ _ => r_field 62 2 Try.underlying64 rfl inf62 rfl⟩
theorem fa_64_3 : FA Try.prog 64 3 3 := ⟨fun _ _ _ => r_field 3 3 Try.underlying64 rfl inf3 rfl⟩
theorem fa_64_4 : FA Try.prog 64 4 4 := ⟨fun _ _ _ => r_field 3 4 Try.underlying64 rfl inf3 rfl⟩
theorem fa_71_0 : FA Try.prog 71 0 0 := ⟨fun _ _ _ => r_field 3 0 Try.underlying71 rfl inf3 rfl⟩
theorem fa_71_3 : FA Try.prog 71 3 3 := ⟨fun _ _ _ => r_field 4 3 Try.underlying71 rfl inf4 rfl⟩
theorem fa_71_4 : FA Try.prog 71 4 4 := ⟨fun _ _ _ => r_field 58 4 Try.underlying71 rfl inf58 rfl⟩
theorem fa_74_0 : FA Try.prog 74 0 0 := ⟨fun _ _ _ => r_field 3 0 Try.underlying74 rfl inf3 rfl⟩
theorem fa_74_1 : FA Try.prog 74 1 1 := ⟨fun _ _ _ => r_field 72 1 Try.underlying74 rfl inf72 rfl⟩
theorem fa_78_0 : FA Try.prog 78 0 0 := ⟨fun _ _ _ => r_field 9 0 Try.underlying78 rfl inf9 rfl⟩
theorem fa_78_1 : FA Try.prog 78 1 1 := ⟨fun _ _ _ => r_field 3 1 Try.underlying78 rfl inf3 rfl⟩
theorem fa_78_2 : FA Try.prog 78 2 2 := ⟨fun _ _ _ => r_field 23 2 Try.underlying78 rfl inf23 rfl⟩
theorem fa_78_3 : FA Try.prog 78 3 3 := ⟨fun _ _ _ => r_field 3 3 Try.underlying78 rfl inf3 rfl⟩
theorem fa_84_0 : FA Try.prog 84 0 0 := ⟨fun _ _ _ => r_field 82 0 Try.underlying84 rfl inf82 rfl⟩
theorem fa_89_0 : FA Try.prog 89 0 0 := ⟨fun _ _ _ => r_field 3 0 Try.underlying89 rfl inf3 rfl⟩
theorem fa_89_1 : FA Try.prog 89 1 1 := ⟨fun _ _ _ => r_field 3 1 Try.underlying89 rfl inf3 rfl⟩
theorem fa_89_2 : FA Try.prog 89 2 2 := ⟨fun _ _ _ => r_field 3 2 Try.underlying89 rfl inf3 rfl⟩
theorem fa_89_3 : FA Try.prog 89 3 3 := ⟨fun _ _ _ => r_field 48 3 Try.underlying89 rfl inf48 rfl⟩
theorem fa_89_4 : FA Try.prog 89 4 7 := ⟨fun _ _ _ => r_field 22 7 Try.underlying89 rfl inf22 rfl⟩
theorem fa_89_5 : FA Try.prog 89 5 8 := ⟨fun _ _ _ => r_field 22 8 Try.underlying89 rfl inf22 rfl⟩
theorem la_115 : ∃ d z by_, Program.underlying Try.prog 115 = some d ∧ aggB d = true ∧ Inf Try.prog 115 z 6 by_ := ⟨_, _, _, Try.underlying115, rfl, inf115⟩
theorem la_27 : ∃ d z by_, Program.underlying Try.prog 27 = some d ∧ aggB d = true ∧ Inf Try.prog 27 z 3 by_ := ⟨_, _, _, Try.underlying27, rfl, inf27⟩
theorem la_48 : ∃ d z by_, Program.underlying Try.prog 48 = some d ∧ aggB d = true ∧ Inf Try.prog 48 z 4 by_ := ⟨_, _, _, Try.underlying48, rfl, inf48⟩
theorem la_52 : ∃ d z by_, Program.underlying Try.prog 52 = some d ∧ aggB d = true ∧ Inf Try.prog 52 z 5 by_ := ⟨_, _, _, Try.underlying52, rfl, inf52⟩
theorem la_71 : ∃ d z by_, Program.underlying Try.prog 71 = some d ∧ aggB d = true ∧ Inf Try.prog 71 z 5 by_ := ⟨_, _, _, Try.underlying71, rfl, inf71⟩
theorem la_78 : ∃ d z by_, Program.underlying Try.prog 78 = some d ∧ aggB d = true ∧ Inf Try.prog 78 z 4 by_ := ⟨_, _, _, Try.underlying78, rfl, inf78⟩
end Go.Proofs.Ytbhnelajekgliaa
