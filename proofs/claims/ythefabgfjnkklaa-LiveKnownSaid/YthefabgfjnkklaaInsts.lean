/- The laws of single operations, at this program's types: by program (instgen.py). -/
import Derived.Test.YthefabgfjnkklaaLaws2
import Derived.Test.YthefabgfjnkklaaProg
import Derived.KernelRfl
namespace Go.Proofs.Ythefabgfjnkklaa
open Go.Vc
theorem inf3 : Inf Try.prog 3 (.int .i64 0) 1 8 := by unfold Inf; kernel_rfl
theorem inf4 : Inf Try.prog 4 (.bool false) 1 1 := by unfold Inf; kernel_rfl
theorem inf23 : Inf Try.prog 23 (.agg #[(.int .i64 0), (.int .i64 0)]) 2 16 := by unfold Inf; kernel_rfl
theorem inf25 : Inf Try.prog 25 (.agg #[(.int .i64 0), (.int .i64 0)]) 2 16 := by unfold Inf; kernel_rfl
theorem inf27 : Inf Try.prog 27 (.agg #[(.int .i64 0), (.int .i32 0)]) 2 16 := by unfold Inf; kernel_rfl
theorem inf29 : Inf Try.prog 29 (.agg #[(.int .i64 0)]) 1 8 := by unfold Inf; kernel_rfl
theorem inf30 : Inf Try.prog 30 (.slice none 0 0) 1 24 := by unfold Inf; kernel_rfl
theorem inf32 : Inf Try.prog 32 (.agg #[(.int .i64 0), (.int .i64 0), (.slice none 0 0)]) 3 40 := by unfold Inf; kernel_rfl
theorem inf33 : Inf Try.prog 33 (.slice none 0 0) 1 24 := by unfold Inf; kernel_rfl
theorem inf35 : Inf Try.prog 35 (.slice none 0 0) 1 24 := by unfold Inf; kernel_rfl
theorem inf38 : Inf Try.prog 38 (.slice none 0 0) 1 24 := by unfold Inf; kernel_rfl
theorem inf40 : Inf Try.prog 40 (.agg #[(.int .i64 0), (.int .i64 0), (.slice none 0 0)]) 3 40 := by unfold Inf; kernel_rfl
theorem inf43 : Inf Try.prog 43 (.agg #[(.slice none 0 0), (.int .i64 0)]) 2 32 := by unfold Inf; kernel_rfl
theorem inf46 : Inf Try.prog 46 (.agg #[(.int .i64 0), (.int .i64 0), (.int .i64 0)]) 3 24 := by unfold Inf; kernel_rfl
theorem inf48 : Inf Try.prog 48 (.agg #[]) 0 0 := by unfold Inf; kernel_rfl
theorem inf50 : Inf Try.prog 50 (.agg #[(.int .i64 0), (.int .i64 0), (.int .i64 0), (.int .i64 0)]) 4 32 := by unfold Inf; kernel_rfl
theorem inf56 : Inf Try.prog 56 .nilIface 1 16 := by unfold Inf; kernel_rfl
theorem inf59 : Inf Try.prog 59 (.agg #[(.slice none 0 0), (.slice none 0 0), (.slice none 0 0)]) 3 72 := by unfold Inf; kernel_rfl
theorem inf65 : Inf Try.prog 65 (.agg #[(.int .i64 0)]) 1 8 := by unfold Inf; kernel_rfl
theorem inf74 : Inf Try.prog 74 (.agg #[(.int .i64 0), (.int .i64 0), (.int .i64 0), (.int .i64 0)]) 4 32 := by unfold Inf; kernel_rfl
theorem inf76 : Inf Try.prog 76 (.agg #[(.int .i64 0), (.int .i64 0)]) 2 16 := by unfold Inf; kernel_rfl
theorem inf78 : Inf Try.prog 78 (.agg #[(.int .i64 0), (.int .i64 0), (.int .i64 0), (.int .i64 0), (.slice none 0 0)]) 5 56 := by unfold Inf; kernel_rfl
theorem inf80 : Inf Try.prog 80 (.agg #[(.int .i64 0), (.int .i64 0), (.slice none 0 0)]) 3 40 := by unfold Inf; kernel_rfl
theorem inf82 : Inf Try.prog 82 (.agg #[(.int .i64 0), (.int .i64 0)]) 2 16 := by unfold Inf; kernel_rfl
theorem r_fd_23_0 {w : World} {b off : Nat} : (Instr.fieldAt 23 (.pointer (some ⟨b, off, none⟩)) 0).run Try.prog w = .ok (.pointer (some ⟨b, off + 0, none⟩)) w := r_field 3 0 Try.underlying23 rfl inf3 rfl
theorem r_fd_23_1 {w : World} {b off : Nat} : (Instr.fieldAt 23 (.pointer (some ⟨b, off, none⟩)) 1).run Try.prog w = .ok (.pointer (some ⟨b, off + 1, none⟩)) w := r_field 3 1 Try.underlying23 rfl inf3 rfl
theorem r_fd_25_0 {w : World} {b off : Nat} : (Instr.fieldAt 25 (.pointer (some ⟨b, off, none⟩)) 0).run Try.prog w = .ok (.pointer (some ⟨b, off + 0, none⟩)) w := r_field 3 0 Try.underlying25 rfl inf3 rfl
theorem r_fd_25_1 {w : World} {b off : Nat} : (Instr.fieldAt 25 (.pointer (some ⟨b, off, none⟩)) 1).run Try.prog w = .ok (.pointer (some ⟨b, off + 1, none⟩)) w := r_field 3 1 Try.underlying25 rfl inf3 rfl
theorem r_fd_27_0 {w : World} {b off : Nat} : (Instr.fieldAt 27 (.pointer (some ⟨b, off, none⟩)) 0).run Try.prog w = .ok (.pointer (some ⟨b, off + 0, none⟩)) w := r_field 3 0 Try.underlying27 rfl inf3 rfl
theorem r_fd_29_0 {w : World} {b off : Nat} : (Instr.fieldAt 29 (.pointer (some ⟨b, off, none⟩)) 0).run Try.prog w = .ok (.pointer (some ⟨b, off + 0, none⟩)) w := r_field 3 0 Try.underlying29 rfl inf3 rfl
theorem r_fd_32_0 {w : World} {b off : Nat} : (Instr.fieldAt 32 (.pointer (some ⟨b, off, none⟩)) 0).run Try.prog w = .ok (.pointer (some ⟨b, off + 0, none⟩)) w := r_field 3 0 Try.underlying32 rfl inf3 rfl
theorem r_fd_32_1 {w : World} {b off : Nat} : (Instr.fieldAt 32 (.pointer (some ⟨b, off, none⟩)) 1).run Try.prog w = .ok (.pointer (some ⟨b, off + 1, none⟩)) w := r_field 3 1 Try.underlying32 rfl inf3 rfl
theorem r_fd_32_2 {w : World} {b off : Nat} : (Instr.fieldAt 32 (.pointer (some ⟨b, off, none⟩)) 2).run Try.prog w = .ok (.pointer (some ⟨b, off + 2, none⟩)) w := r_field 30 2 Try.underlying32 rfl inf30 rfl
theorem r_fd_40_0 {w : World} {b off : Nat} : (Instr.fieldAt 40 (.pointer (some ⟨b, off, none⟩)) 0).run Try.prog w = .ok (.pointer (some ⟨b, off + 0, none⟩)) w := r_field 3 0 Try.underlying40 rfl inf3 rfl
theorem r_fd_40_1 {w : World} {b off : Nat} : (Instr.fieldAt 40 (.pointer (some ⟨b, off, none⟩)) 1).run Try.prog w = .ok (.pointer (some ⟨b, off + 1, none⟩)) w := r_field 3 1 Try.underlying40 rfl inf3 rfl
theorem r_fd_40_2 {w : World} {b off : Nat} : (Instr.fieldAt 40 (.pointer (some ⟨b, off, none⟩)) 2).run Try.prog w = .ok (.pointer (some ⟨b, off + 2, none⟩)) w := r_field 38 2 Try.underlying40 rfl inf38 rfl
theorem r_fd_43_0 {w : World} {b off : Nat} : (Instr.fieldAt 43 (.pointer (some ⟨b, off, none⟩)) 0).run Try.prog w = .ok (.pointer (some ⟨b, off + 0, none⟩)) w := r_field 38 0 Try.underlying43 rfl inf38 rfl
theorem r_fd_43_1 {w : World} {b off : Nat} : (Instr.fieldAt 43 (.pointer (some ⟨b, off, none⟩)) 1).run Try.prog w = .ok (.pointer (some ⟨b, off + 1, none⟩)) w := r_field 3 1 Try.underlying43 rfl inf3 rfl
theorem r_fd_46_0 {w : World} {b off : Nat} : (Instr.fieldAt 46 (.pointer (some ⟨b, off, none⟩)) 0).run Try.prog w = .ok (.pointer (some ⟨b, off + 0, none⟩)) w := r_field 3 0 Try.underlying46 rfl inf3 rfl
theorem r_fd_46_1 {w : World} {b off : Nat} : (Instr.fieldAt 46 (.pointer (some ⟨b, off, none⟩)) 1).run Try.prog w = .ok (.pointer (some ⟨b, off + 1, none⟩)) w := r_field 3 1 Try.underlying46 rfl inf3 rfl
theorem r_fd_46_2 {w : World} {b off : Nat} : (Instr.fieldAt 46 (.pointer (some ⟨b, off, none⟩)) 2).run Try.prog w = .ok (.pointer (some ⟨b, off + 2, none⟩)) w := r_field 3 2 Try.underlying46 rfl inf3 rfl
theorem r_fd_50_0 {w : World} {b off : Nat} : (Instr.fieldAt 50 (.pointer (some ⟨b, off, none⟩)) 0).run Try.prog w = .ok (.pointer (some ⟨b, off + 0, none⟩)) w := r_field 3 0 Try.underlying50 rfl inf3 rfl
theorem r_fd_50_1 {w : World} {b off : Nat} : (Instr.fieldAt 50 (.pointer (some ⟨b, off, none⟩)) 1).run Try.prog w = .ok (.pointer (some ⟨b, off + 1, none⟩)) w := r_field 3 1 Try.underlying50 rfl inf3 rfl
theorem r_fd_50_2 {w : World} {b off : Nat} : (Instr.fieldAt 50 (.pointer (some ⟨b, off, none⟩)) 2).run Try.prog w = .ok (.pointer (some ⟨b, off + 2, none⟩)) w := r_field 3 2 Try.underlying50 rfl inf3 rfl
theorem r_fd_50_3 {w : World} {b off : Nat} : (Instr.fieldAt 50 (.pointer (some ⟨b, off, none⟩)) 3).run Try.prog w = .ok (.pointer (some ⟨b, off + 3, none⟩)) w := r_field 3 3 Try.underlying50 rfl inf3 rfl
theorem r_fd_59_0 {w : World} {b off : Nat} : (Instr.fieldAt 59 (.pointer (some ⟨b, off, none⟩)) 0).run Try.prog w = .ok (.pointer (some ⟨b, off + 0, none⟩)) w := r_field 33 0 Try.underlying59 rfl inf33 rfl
theorem r_fd_59_1 {w : World} {b off : Nat} : (Instr.fieldAt 59 (.pointer (some ⟨b, off, none⟩)) 1).run Try.prog w = .ok (.pointer (some ⟨b, off + 1, none⟩)) w := r_field 35 1 Try.underlying59 rfl inf35 rfl
theorem r_fd_59_2 {w : World} {b off : Nat} : (Instr.fieldAt 59 (.pointer (some ⟨b, off, none⟩)) 2).run Try.prog w = .ok (.pointer (some ⟨b, off + 2, none⟩)) w := r_field 38 2 Try.underlying59 rfl inf38 rfl
theorem r_fd_65_0 {w : World} {b off : Nat} : (Instr.fieldAt 65 (.pointer (some ⟨b, off, none⟩)) 0).run Try.prog w = .ok (.pointer (some ⟨b, off + 0, none⟩)) w := r_field 3 0 Try.underlying65 rfl inf3 rfl
theorem r_fd_74_0 {w : World} {b off : Nat} : (Instr.fieldAt 74 (.pointer (some ⟨b, off, none⟩)) 0).run Try.prog w = .ok (.pointer (some ⟨b, off + 0, none⟩)) w := r_field 3 0 Try.underlying74 rfl inf3 rfl
theorem r_fd_74_1 {w : World} {b off : Nat} : (Instr.fieldAt 74 (.pointer (some ⟨b, off, none⟩)) 1).run Try.prog w = .ok (.pointer (some ⟨b, off + 1, none⟩)) w := r_field 3 1 Try.underlying74 rfl inf3 rfl
theorem r_fd_74_2 {w : World} {b off : Nat} : (Instr.fieldAt 74 (.pointer (some ⟨b, off, none⟩)) 2).run Try.prog w = .ok (.pointer (some ⟨b, off + 2, none⟩)) w := r_field 3 2 Try.underlying74 rfl inf3 rfl
theorem r_fd_74_3 {w : World} {b off : Nat} : (Instr.fieldAt 74 (.pointer (some ⟨b, off, none⟩)) 3).run Try.prog w = .ok (.pointer (some ⟨b, off + 3, none⟩)) w := r_field 3 3 Try.underlying74 rfl inf3 rfl
theorem r_fd_76_0 {w : World} {b off : Nat} : (Instr.fieldAt 76 (.pointer (some ⟨b, off, none⟩)) 0).run Try.prog w = .ok (.pointer (some ⟨b, off + 0, none⟩)) w := r_field 3 0 Try.underlying76 rfl inf3 rfl
theorem r_fd_76_1 {w : World} {b off : Nat} : (Instr.fieldAt 76 (.pointer (some ⟨b, off, none⟩)) 1).run Try.prog w = .ok (.pointer (some ⟨b, off + 1, none⟩)) w := r_field 3 1 Try.underlying76 rfl inf3 rfl
theorem r_fd_78_0 {w : World} {b off : Nat} : (Instr.fieldAt 78 (.pointer (some ⟨b, off, none⟩)) 0).run Try.prog w = .ok (.pointer (some ⟨b, off + 0, none⟩)) w := r_field 3 0 Try.underlying78 rfl inf3 rfl
theorem r_fd_78_3 {w : World} {b off : Nat} : (Instr.fieldAt 78 (.pointer (some ⟨b, off, none⟩)) 3).run Try.prog w = .ok (.pointer (some ⟨b, off + 3, none⟩)) w := r_field 3 3 Try.underlying78 rfl inf3 rfl
theorem r_fd_78_4 {w : World} {b off : Nat} : (Instr.fieldAt 78 (.pointer (some ⟨b, off, none⟩)) 4).run Try.prog w = .ok (.pointer (some ⟨b, off + 4, none⟩)) w := r_field 38 4 Try.underlying78 rfl inf38 rfl
theorem r_fd_80_0 {w : World} {b off : Nat} : (Instr.fieldAt 80 (.pointer (some ⟨b, off, none⟩)) 0).run Try.prog w = .ok (.pointer (some ⟨b, off + 0, none⟩)) w := r_field 3 0 Try.underlying80 rfl inf3 rfl
theorem r_fd_80_1 {w : World} {b off : Nat} : (Instr.fieldAt 80 (.pointer (some ⟨b, off, none⟩)) 1).run Try.prog w = .ok (.pointer (some ⟨b, off + 1, none⟩)) w := r_field 3 1 Try.underlying80 rfl inf3 rfl
theorem r_fd_80_2 {w : World} {b off : Nat} : (Instr.fieldAt 80 (.pointer (some ⟨b, off, none⟩)) 2).run Try.prog w = .ok (.pointer (some ⟨b, off + 2, none⟩)) w := r_field 38 2 Try.underlying80 rfl inf38 rfl
theorem r_fd_82_0 {w : World} {b off : Nat} : (Instr.fieldAt 82 (.pointer (some ⟨b, off, none⟩)) 0).run Try.prog w = .ok (.pointer (some ⟨b, off + 0, none⟩)) w := r_field 3 0 Try.underlying82 rfl inf3 rfl
theorem r_fd_82_1 {w : World} {b off : Nat} : (Instr.fieldAt 82 (.pointer (some ⟨b, off, none⟩)) 1).run Try.prog w = .ok (.pointer (some ⟨b, off + 1, none⟩)) w := r_field 3 1 Try.underlying82 rfl inf3 rfl
theorem r_ix_30 {w : World} {b off len cap : Nat} {k : IntKind} {i : Int} (h0 : 0 ≤ i) (h1 : i < len) : (Instr.indexAt 30 (.slice (some ⟨b, off, none⟩) len cap) (.int k i)).run Try.prog w = .ok (.pointer (some ⟨b, off + i.toNat * 1, none⟩)) w := r_index Try.underlying30 inf56 h0 h1
theorem r_ix_33 {w : World} {b off len cap : Nat} {k : IntKind} {i : Int} (h0 : 0 ≤ i) (h1 : i < len) : (Instr.indexAt 33 (.slice (some ⟨b, off, none⟩) len cap) (.int k i)).run Try.prog w = .ok (.pointer (some ⟨b, off + i.toNat * 1, none⟩)) w := r_index Try.underlying33 inf35 h0 h1
theorem r_ix_35 {w : World} {b off len cap : Nat} {k : IntKind} {i : Int} (h0 : 0 ≤ i) (h1 : i < len) : (Instr.indexAt 35 (.slice (some ⟨b, off, none⟩) len cap) (.int k i)).run Try.prog w = .ok (.pointer (some ⟨b, off + i.toNat * 1, none⟩)) w := r_index Try.underlying35 inf4 h0 h1
theorem r_ix_38 {w : World} {b off len cap : Nat} {k : IntKind} {i : Int} (h0 : 0 ≤ i) (h1 : i < len) : (Instr.indexAt 38 (.slice (some ⟨b, off, none⟩) len cap) (.int k i)).run Try.prog w = .ok (.pointer (some ⟨b, off + i.toNat * 1, none⟩)) w := r_index Try.underlying38 inf3 h0 h1
theorem r_la_32 {w : World} {b off : Nat} {cs : List Value} (hl : cs.length = 3) (h : ∀ j (_ : j < cs.length), w.cell? ⟨b, off + j, none⟩ = cs[j]?) : (Instr.loadAt 32 (.pointer (some ⟨b, off, none⟩))).run Try.prog w = .ok (.agg cs.toArray) w := r_loadAgg Try.underlying32 rfl inf32 hl h
theorem r_la_43 {w : World} {b off : Nat} {cs : List Value} (hl : cs.length = 2) (h : ∀ j (_ : j < cs.length), w.cell? ⟨b, off + j, none⟩ = cs[j]?) : (Instr.loadAt 43 (.pointer (some ⟨b, off, none⟩))).run Try.prog w = .ok (.agg cs.toArray) w := r_loadAgg Try.underlying43 rfl inf43 hl h
theorem r_la_59 {w : World} {b off : Nat} {cs : List Value} (hl : cs.length = 3) (h : ∀ j (_ : j < cs.length), w.cell? ⟨b, off + j, none⟩ = cs[j]?) : (Instr.loadAt 59 (.pointer (some ⟨b, off, none⟩))).run Try.prog w = .ok (.agg cs.toArray) w := r_loadAgg Try.underlying59 rfl inf59 hl h
theorem r_ld_3 {w : World} {a : Addr} {v : Value} (h : w.cell? a = some v) : (Instr.loadAt 3 (.pointer (some a))).run Try.prog w = .ok v w := r_load Try.underlying3 rfl h
theorem r_ld_30 {w : World} {a : Addr} {v : Value} (h : w.cell? a = some v) : (Instr.loadAt 30 (.pointer (some a))).run Try.prog w = .ok v w := r_load Try.underlying30 rfl h
theorem r_ld_33 {w : World} {a : Addr} {v : Value} (h : w.cell? a = some v) : (Instr.loadAt 33 (.pointer (some a))).run Try.prog w = .ok v w := r_load Try.underlying33 rfl h
theorem r_ld_35 {w : World} {a : Addr} {v : Value} (h : w.cell? a = some v) : (Instr.loadAt 35 (.pointer (some a))).run Try.prog w = .ok v w := r_load Try.underlying35 rfl h
theorem r_ld_38 {w : World} {a : Addr} {v : Value} (h : w.cell? a = some v) : (Instr.loadAt 38 (.pointer (some a))).run Try.prog w = .ok v w := r_load Try.underlying38 rfl h
theorem r_ld_4 {w : World} {a : Addr} {v : Value} (h : w.cell? a = some v) : (Instr.loadAt 4 (.pointer (some a))).run Try.prog w = .ok v w := r_load Try.underlying4 rfl h
theorem r_ld_56 {w : World} {a : Addr} {v : Value} (h : w.cell? a = some v) : (Instr.loadAt 56 (.pointer (some a))).run Try.prog w = .ok v w := r_load Try.underlying56 rfl h
theorem r_sn_23 {w : World} {t' : TypeId} {old : Array Value} {v : Value} (hn : v.cells.size = 2) (ho : old.size = 2) (h1 : ∀ u ∈ v.cells.toList, oneC u = true) : (Instr.storeAt 23 (.pointer (some ⟨w.heap.size, 0, none⟩)) v).run Try.prog (w.alloc (.cells old t')) = .ok () (w.alloc (.cells v.cells t')) := r_storeNew inf23 hn ho h1
theorem r_sn_25 {w : World} {t' : TypeId} {old : Array Value} {v : Value} (hn : v.cells.size = 2) (ho : old.size = 2) (h1 : ∀ u ∈ v.cells.toList, oneC u = true) : (Instr.storeAt 25 (.pointer (some ⟨w.heap.size, 0, none⟩)) v).run Try.prog (w.alloc (.cells old t')) = .ok () (w.alloc (.cells v.cells t')) := r_storeNew inf25 hn ho h1
theorem r_sn_27 {w : World} {t' : TypeId} {old : Array Value} {v : Value} (hn : v.cells.size = 2) (ho : old.size = 2) (h1 : ∀ u ∈ v.cells.toList, oneC u = true) : (Instr.storeAt 27 (.pointer (some ⟨w.heap.size, 0, none⟩)) v).run Try.prog (w.alloc (.cells old t')) = .ok () (w.alloc (.cells v.cells t')) := r_storeNew inf27 hn ho h1
theorem r_sn_29 {w : World} {t' : TypeId} {old : Array Value} {v : Value} (hn : v.cells.size = 1) (ho : old.size = 1) (h1 : ∀ u ∈ v.cells.toList, oneC u = true) : (Instr.storeAt 29 (.pointer (some ⟨w.heap.size, 0, none⟩)) v).run Try.prog (w.alloc (.cells old t')) = .ok () (w.alloc (.cells v.cells t')) := r_storeNew inf29 hn ho h1
theorem r_sn_32 {w : World} {t' : TypeId} {old : Array Value} {v : Value} (hn : v.cells.size = 3) (ho : old.size = 3) (h1 : ∀ u ∈ v.cells.toList, oneC u = true) : (Instr.storeAt 32 (.pointer (some ⟨w.heap.size, 0, none⟩)) v).run Try.prog (w.alloc (.cells old t')) = .ok () (w.alloc (.cells v.cells t')) := r_storeNew inf32 hn ho h1
theorem r_sn_40 {w : World} {t' : TypeId} {old : Array Value} {v : Value} (hn : v.cells.size = 3) (ho : old.size = 3) (h1 : ∀ u ∈ v.cells.toList, oneC u = true) : (Instr.storeAt 40 (.pointer (some ⟨w.heap.size, 0, none⟩)) v).run Try.prog (w.alloc (.cells old t')) = .ok () (w.alloc (.cells v.cells t')) := r_storeNew inf40 hn ho h1
theorem r_sn_43 {w : World} {t' : TypeId} {old : Array Value} {v : Value} (hn : v.cells.size = 2) (ho : old.size = 2) (h1 : ∀ u ∈ v.cells.toList, oneC u = true) : (Instr.storeAt 43 (.pointer (some ⟨w.heap.size, 0, none⟩)) v).run Try.prog (w.alloc (.cells old t')) = .ok () (w.alloc (.cells v.cells t')) := r_storeNew inf43 hn ho h1
theorem r_sn_46 {w : World} {t' : TypeId} {old : Array Value} {v : Value} (hn : v.cells.size = 3) (ho : old.size = 3) (h1 : ∀ u ∈ v.cells.toList, oneC u = true) : (Instr.storeAt 46 (.pointer (some ⟨w.heap.size, 0, none⟩)) v).run Try.prog (w.alloc (.cells old t')) = .ok () (w.alloc (.cells v.cells t')) := r_storeNew inf46 hn ho h1
theorem r_sn_50 {w : World} {t' : TypeId} {old : Array Value} {v : Value} (hn : v.cells.size = 4) (ho : old.size = 4) (h1 : ∀ u ∈ v.cells.toList, oneC u = true) : (Instr.storeAt 50 (.pointer (some ⟨w.heap.size, 0, none⟩)) v).run Try.prog (w.alloc (.cells old t')) = .ok () (w.alloc (.cells v.cells t')) := r_storeNew inf50 hn ho h1
theorem r_sn_59 {w : World} {t' : TypeId} {old : Array Value} {v : Value} (hn : v.cells.size = 3) (ho : old.size = 3) (h1 : ∀ u ∈ v.cells.toList, oneC u = true) : (Instr.storeAt 59 (.pointer (some ⟨w.heap.size, 0, none⟩)) v).run Try.prog (w.alloc (.cells old t')) = .ok () (w.alloc (.cells v.cells t')) := r_storeNew inf59 hn ho h1
theorem r_sn_65 {w : World} {t' : TypeId} {old : Array Value} {v : Value} (hn : v.cells.size = 1) (ho : old.size = 1) (h1 : ∀ u ∈ v.cells.toList, oneC u = true) : (Instr.storeAt 65 (.pointer (some ⟨w.heap.size, 0, none⟩)) v).run Try.prog (w.alloc (.cells old t')) = .ok () (w.alloc (.cells v.cells t')) := r_storeNew inf65 hn ho h1
theorem r_sn_74 {w : World} {t' : TypeId} {old : Array Value} {v : Value} (hn : v.cells.size = 4) (ho : old.size = 4) (h1 : ∀ u ∈ v.cells.toList, oneC u = true) : (Instr.storeAt 74 (.pointer (some ⟨w.heap.size, 0, none⟩)) v).run Try.prog (w.alloc (.cells old t')) = .ok () (w.alloc (.cells v.cells t')) := r_storeNew inf74 hn ho h1
theorem r_sn_76 {w : World} {t' : TypeId} {old : Array Value} {v : Value} (hn : v.cells.size = 2) (ho : old.size = 2) (h1 : ∀ u ∈ v.cells.toList, oneC u = true) : (Instr.storeAt 76 (.pointer (some ⟨w.heap.size, 0, none⟩)) v).run Try.prog (w.alloc (.cells old t')) = .ok () (w.alloc (.cells v.cells t')) := r_storeNew inf76 hn ho h1
theorem r_sn_78 {w : World} {t' : TypeId} {old : Array Value} {v : Value} (hn : v.cells.size = 5) (ho : old.size = 5) (h1 : ∀ u ∈ v.cells.toList, oneC u = true) : (Instr.storeAt 78 (.pointer (some ⟨w.heap.size, 0, none⟩)) v).run Try.prog (w.alloc (.cells old t')) = .ok () (w.alloc (.cells v.cells t')) := r_storeNew inf78 hn ho h1
theorem r_sn_80 {w : World} {t' : TypeId} {old : Array Value} {v : Value} (hn : v.cells.size = 3) (ho : old.size = 3) (h1 : ∀ u ∈ v.cells.toList, oneC u = true) : (Instr.storeAt 80 (.pointer (some ⟨w.heap.size, 0, none⟩)) v).run Try.prog (w.alloc (.cells old t')) = .ok () (w.alloc (.cells v.cells t')) := r_storeNew inf80 hn ho h1
theorem r_sn_82 {w : World} {t' : TypeId} {old : Array Value} {v : Value} (hn : v.cells.size = 2) (ho : old.size = 2) (h1 : ∀ u ∈ v.cells.toList, oneC u = true) : (Instr.storeAt 82 (.pointer (some ⟨w.heap.size, 0, none⟩)) v).run Try.prog (w.alloc (.cells old t')) = .ok () (w.alloc (.cells v.cells t')) := r_storeNew inf82 hn ho h1
theorem U_st_3 {w : World} {b off : Nat} {v : Value} {K : Value → World → Prop} (hv : oneC v = true) (h : (w.cell? ⟨b, off, none⟩).isSome = true) (hf : w.frozen? ⟨b, off, none⟩ = false) : U Try.prog (Instr.storeAt 3 (.pointer (some ⟨b, off, none⟩)) v) w K ↔ K undef (w.setCell ⟨b, off, none⟩ v) := V_store inf3 hv h hf
theorem U_st_30 {w : World} {b off : Nat} {v : Value} {K : Value → World → Prop} (hv : oneC v = true) (h : (w.cell? ⟨b, off, none⟩).isSome = true) (hf : w.frozen? ⟨b, off, none⟩ = false) : U Try.prog (Instr.storeAt 30 (.pointer (some ⟨b, off, none⟩)) v) w K ↔ K undef (w.setCell ⟨b, off, none⟩ v) := V_store inf30 hv h hf
theorem U_st_35 {w : World} {b off : Nat} {v : Value} {K : Value → World → Prop} (hv : oneC v = true) (h : (w.cell? ⟨b, off, none⟩).isSome = true) (hf : w.frozen? ⟨b, off, none⟩ = false) : U Try.prog (Instr.storeAt 35 (.pointer (some ⟨b, off, none⟩)) v) w K ↔ K undef (w.setCell ⟨b, off, none⟩ v) := V_store inf35 hv h hf
theorem U_st_38 {w : World} {b off : Nat} {v : Value} {K : Value → World → Prop} (hv : oneC v = true) (h : (w.cell? ⟨b, off, none⟩).isSome = true) (hf : w.frozen? ⟨b, off, none⟩ = false) : U Try.prog (Instr.storeAt 38 (.pointer (some ⟨b, off, none⟩)) v) w K ↔ K undef (w.setCell ⟨b, off, none⟩ v) := V_store inf38 hv h hf
theorem U_st_4 {w : World} {b off : Nat} {v : Value} {K : Value → World → Prop} (hv : oneC v = true) (h : (w.cell? ⟨b, off, none⟩).isSome = true) (hf : w.frozen? ⟨b, off, none⟩ = false) : U Try.prog (Instr.storeAt 4 (.pointer (some ⟨b, off, none⟩)) v) w K ↔ K undef (w.setCell ⟨b, off, none⟩ v) := V_store inf4 hv h hf
theorem V_al_23 {w : World} {K : Value → World → Prop} : V Try.prog (Instr.alloc 23 true (.tuple #[])) w K ↔ K (.pointer (some ⟨w.heap.size, 0, none⟩)) (w.alloc (.cells (Value.cells (.agg #[(.int .i64 0), (.int .i64 0)])) 23)) := V.iff (r_alloc inf23)
theorem V_al_25 {w : World} {K : Value → World → Prop} : V Try.prog (Instr.alloc 25 true (.tuple #[])) w K ↔ K (.pointer (some ⟨w.heap.size, 0, none⟩)) (w.alloc (.cells (Value.cells (.agg #[(.int .i64 0), (.int .i64 0)])) 25)) := V.iff (r_alloc inf25)
theorem V_al_27 {w : World} {K : Value → World → Prop} : V Try.prog (Instr.alloc 27 true (.tuple #[])) w K ↔ K (.pointer (some ⟨w.heap.size, 0, none⟩)) (w.alloc (.cells (Value.cells (.agg #[(.int .i64 0), (.int .i32 0)])) 27)) := V.iff (r_alloc inf27)
theorem V_al_29 {w : World} {K : Value → World → Prop} : V Try.prog (Instr.alloc 29 true (.tuple #[])) w K ↔ K (.pointer (some ⟨w.heap.size, 0, none⟩)) (w.alloc (.cells (Value.cells (.agg #[(.int .i64 0)])) 29)) := V.iff (r_alloc inf29)
theorem V_al_32 {w : World} {K : Value → World → Prop} : V Try.prog (Instr.alloc 32 true (.tuple #[])) w K ↔ K (.pointer (some ⟨w.heap.size, 0, none⟩)) (w.alloc (.cells (Value.cells (.agg #[(.int .i64 0), (.int .i64 0), (.slice none 0 0)])) 32)) := V.iff (r_alloc inf32)
theorem V_al_35 {w : World} {K : Value → World → Prop} : V Try.prog (Instr.alloc 35 true (.tuple #[])) w K ↔ K (.pointer (some ⟨w.heap.size, 0, none⟩)) (w.alloc (.cells (Value.cells (.slice none 0 0)) 35)) := V.iff (r_alloc inf35)
theorem V_al_40 {w : World} {K : Value → World → Prop} : V Try.prog (Instr.alloc 40 true (.tuple #[])) w K ↔ K (.pointer (some ⟨w.heap.size, 0, none⟩)) (w.alloc (.cells (Value.cells (.agg #[(.int .i64 0), (.int .i64 0), (.slice none 0 0)])) 40)) := V.iff (r_alloc inf40)
theorem V_al_43 {w : World} {K : Value → World → Prop} : V Try.prog (Instr.alloc 43 true (.tuple #[])) w K ↔ K (.pointer (some ⟨w.heap.size, 0, none⟩)) (w.alloc (.cells (Value.cells (.agg #[(.slice none 0 0), (.int .i64 0)])) 43)) := V.iff (r_alloc inf43)
theorem V_al_46 {w : World} {K : Value → World → Prop} : V Try.prog (Instr.alloc 46 true (.tuple #[])) w K ↔ K (.pointer (some ⟨w.heap.size, 0, none⟩)) (w.alloc (.cells (Value.cells (.agg #[(.int .i64 0), (.int .i64 0), (.int .i64 0)])) 46)) := V.iff (r_alloc inf46)
theorem V_al_50 {w : World} {K : Value → World → Prop} : V Try.prog (Instr.alloc 50 true (.tuple #[])) w K ↔ K (.pointer (some ⟨w.heap.size, 0, none⟩)) (w.alloc (.cells (Value.cells (.agg #[(.int .i64 0), (.int .i64 0), (.int .i64 0), (.int .i64 0)])) 50)) := V.iff (r_alloc inf50)
theorem V_al_59 {w : World} {K : Value → World → Prop} : V Try.prog (Instr.alloc 59 true (.tuple #[])) w K ↔ K (.pointer (some ⟨w.heap.size, 0, none⟩)) (w.alloc (.cells (Value.cells (.agg #[(.slice none 0 0), (.slice none 0 0), (.slice none 0 0)])) 59)) := V.iff (r_alloc inf59)
theorem V_al_65 {w : World} {K : Value → World → Prop} : V Try.prog (Instr.alloc 65 true (.tuple #[])) w K ↔ K (.pointer (some ⟨w.heap.size, 0, none⟩)) (w.alloc (.cells (Value.cells (.agg #[(.int .i64 0)])) 65)) := V.iff (r_alloc inf65)
theorem V_al_74 {w : World} {K : Value → World → Prop} : V Try.prog (Instr.alloc 74 true (.tuple #[])) w K ↔ K (.pointer (some ⟨w.heap.size, 0, none⟩)) (w.alloc (.cells (Value.cells (.agg #[(.int .i64 0), (.int .i64 0), (.int .i64 0), (.int .i64 0)])) 74)) := V.iff (r_alloc inf74)
theorem V_al_76 {w : World} {K : Value → World → Prop} : V Try.prog (Instr.alloc 76 true (.tuple #[])) w K ↔ K (.pointer (some ⟨w.heap.size, 0, none⟩)) (w.alloc (.cells (Value.cells (.agg #[(.int .i64 0), (.int .i64 0)])) 76)) := V.iff (r_alloc inf76)
theorem V_al_78 {w : World} {K : Value → World → Prop} : V Try.prog (Instr.alloc 78 true (.tuple #[])) w K ↔ K (.pointer (some ⟨w.heap.size, 0, none⟩)) (w.alloc (.cells (Value.cells (.agg #[(.int .i64 0), (.int .i64 0), (.int .i64 0), (.int .i64 0), (.slice none 0 0)])) 78)) := V.iff (r_alloc inf78)
theorem V_al_80 {w : World} {K : Value → World → Prop} : V Try.prog (Instr.alloc 80 true (.tuple #[])) w K ↔ K (.pointer (some ⟨w.heap.size, 0, none⟩)) (w.alloc (.cells (Value.cells (.agg #[(.int .i64 0), (.int .i64 0), (.slice none 0 0)])) 80)) := V.iff (r_alloc inf80)
theorem V_al_82 {w : World} {K : Value → World → Prop} : V Try.prog (Instr.alloc 82 true (.tuple #[])) w K ↔ K (.pointer (some ⟨w.heap.size, 0, none⟩)) (w.alloc (.cells (Value.cells (.agg #[(.int .i64 0), (.int .i64 0)])) 82)) := V.iff (r_alloc inf82)
theorem V_as_23 {w : World} {v : Value} {K : Value → World → Prop} (hn : v.cells.size = 2) (h1 : ∀ u ∈ v.cells.toList, oneC u = true) : V Try.prog (Instr.alloc 23 true (.tuple #[])) w (fun p w1 => U Try.prog (Instr.storeAt 23 p v) w1 fun _ w2 => K p w2) ↔ K (.pointer (some ⟨w.heap.size, 0, none⟩)) (w.alloc (.cells v.cells 23)) := V_allocStore inf23 (by decide) hn h1
theorem V_as_25 {w : World} {v : Value} {K : Value → World → Prop} (hn : v.cells.size = 2) (h1 : ∀ u ∈ v.cells.toList, oneC u = true) : V Try.prog (Instr.alloc 25 true (.tuple #[])) w (fun p w1 => U Try.prog (Instr.storeAt 25 p v) w1 fun _ w2 => K p w2) ↔ K (.pointer (some ⟨w.heap.size, 0, none⟩)) (w.alloc (.cells v.cells 25)) := V_allocStore inf25 (by decide) hn h1
theorem V_as_27 {w : World} {v : Value} {K : Value → World → Prop} (hn : v.cells.size = 2) (h1 : ∀ u ∈ v.cells.toList, oneC u = true) : V Try.prog (Instr.alloc 27 true (.tuple #[])) w (fun p w1 => U Try.prog (Instr.storeAt 27 p v) w1 fun _ w2 => K p w2) ↔ K (.pointer (some ⟨w.heap.size, 0, none⟩)) (w.alloc (.cells v.cells 27)) := V_allocStore inf27 (by decide) hn h1
theorem V_as_29 {w : World} {v : Value} {K : Value → World → Prop} (hn : v.cells.size = 1) (h1 : ∀ u ∈ v.cells.toList, oneC u = true) : V Try.prog (Instr.alloc 29 true (.tuple #[])) w (fun p w1 => U Try.prog (Instr.storeAt 29 p v) w1 fun _ w2 => K p w2) ↔ K (.pointer (some ⟨w.heap.size, 0, none⟩)) (w.alloc (.cells v.cells 29)) := V_allocStore inf29 (by decide) hn h1
theorem V_as_32 {w : World} {v : Value} {K : Value → World → Prop} (hn : v.cells.size = 3) (h1 : ∀ u ∈ v.cells.toList, oneC u = true) : V Try.prog (Instr.alloc 32 true (.tuple #[])) w (fun p w1 => U Try.prog (Instr.storeAt 32 p v) w1 fun _ w2 => K p w2) ↔ K (.pointer (some ⟨w.heap.size, 0, none⟩)) (w.alloc (.cells v.cells 32)) := V_allocStore inf32 (by decide) hn h1
theorem V_as_40 {w : World} {v : Value} {K : Value → World → Prop} (hn : v.cells.size = 3) (h1 : ∀ u ∈ v.cells.toList, oneC u = true) : V Try.prog (Instr.alloc 40 true (.tuple #[])) w (fun p w1 => U Try.prog (Instr.storeAt 40 p v) w1 fun _ w2 => K p w2) ↔ K (.pointer (some ⟨w.heap.size, 0, none⟩)) (w.alloc (.cells v.cells 40)) := V_allocStore inf40 (by decide) hn h1
theorem V_as_43 {w : World} {v : Value} {K : Value → World → Prop} (hn : v.cells.size = 2) (h1 : ∀ u ∈ v.cells.toList, oneC u = true) : V Try.prog (Instr.alloc 43 true (.tuple #[])) w (fun p w1 => U Try.prog (Instr.storeAt 43 p v) w1 fun _ w2 => K p w2) ↔ K (.pointer (some ⟨w.heap.size, 0, none⟩)) (w.alloc (.cells v.cells 43)) := V_allocStore inf43 (by decide) hn h1
theorem V_as_46 {w : World} {v : Value} {K : Value → World → Prop} (hn : v.cells.size = 3) (h1 : ∀ u ∈ v.cells.toList, oneC u = true) : V Try.prog (Instr.alloc 46 true (.tuple #[])) w (fun p w1 => U Try.prog (Instr.storeAt 46 p v) w1 fun _ w2 => K p w2) ↔ K (.pointer (some ⟨w.heap.size, 0, none⟩)) (w.alloc (.cells v.cells 46)) := V_allocStore inf46 (by decide) hn h1
theorem V_as_50 {w : World} {v : Value} {K : Value → World → Prop} (hn : v.cells.size = 4) (h1 : ∀ u ∈ v.cells.toList, oneC u = true) : V Try.prog (Instr.alloc 50 true (.tuple #[])) w (fun p w1 => U Try.prog (Instr.storeAt 50 p v) w1 fun _ w2 => K p w2) ↔ K (.pointer (some ⟨w.heap.size, 0, none⟩)) (w.alloc (.cells v.cells 50)) := V_allocStore inf50 (by decide) hn h1
theorem V_as_59 {w : World} {v : Value} {K : Value → World → Prop} (hn : v.cells.size = 3) (h1 : ∀ u ∈ v.cells.toList, oneC u = true) : V Try.prog (Instr.alloc 59 true (.tuple #[])) w (fun p w1 => U Try.prog (Instr.storeAt 59 p v) w1 fun _ w2 => K p w2) ↔ K (.pointer (some ⟨w.heap.size, 0, none⟩)) (w.alloc (.cells v.cells 59)) := V_allocStore inf59 (by decide) hn h1
theorem V_as_65 {w : World} {v : Value} {K : Value → World → Prop} (hn : v.cells.size = 1) (h1 : ∀ u ∈ v.cells.toList, oneC u = true) : V Try.prog (Instr.alloc 65 true (.tuple #[])) w (fun p w1 => U Try.prog (Instr.storeAt 65 p v) w1 fun _ w2 => K p w2) ↔ K (.pointer (some ⟨w.heap.size, 0, none⟩)) (w.alloc (.cells v.cells 65)) := V_allocStore inf65 (by decide) hn h1
theorem V_as_74 {w : World} {v : Value} {K : Value → World → Prop} (hn : v.cells.size = 4) (h1 : ∀ u ∈ v.cells.toList, oneC u = true) : V Try.prog (Instr.alloc 74 true (.tuple #[])) w (fun p w1 => U Try.prog (Instr.storeAt 74 p v) w1 fun _ w2 => K p w2) ↔ K (.pointer (some ⟨w.heap.size, 0, none⟩)) (w.alloc (.cells v.cells 74)) := V_allocStore inf74 (by decide) hn h1
theorem V_as_76 {w : World} {v : Value} {K : Value → World → Prop} (hn : v.cells.size = 2) (h1 : ∀ u ∈ v.cells.toList, oneC u = true) : V Try.prog (Instr.alloc 76 true (.tuple #[])) w (fun p w1 => U Try.prog (Instr.storeAt 76 p v) w1 fun _ w2 => K p w2) ↔ K (.pointer (some ⟨w.heap.size, 0, none⟩)) (w.alloc (.cells v.cells 76)) := V_allocStore inf76 (by decide) hn h1
theorem V_as_78 {w : World} {v : Value} {K : Value → World → Prop} (hn : v.cells.size = 5) (h1 : ∀ u ∈ v.cells.toList, oneC u = true) : V Try.prog (Instr.alloc 78 true (.tuple #[])) w (fun p w1 => U Try.prog (Instr.storeAt 78 p v) w1 fun _ w2 => K p w2) ↔ K (.pointer (some ⟨w.heap.size, 0, none⟩)) (w.alloc (.cells v.cells 78)) := V_allocStore inf78 (by decide) hn h1
theorem V_as_80 {w : World} {v : Value} {K : Value → World → Prop} (hn : v.cells.size = 3) (h1 : ∀ u ∈ v.cells.toList, oneC u = true) : V Try.prog (Instr.alloc 80 true (.tuple #[])) w (fun p w1 => U Try.prog (Instr.storeAt 80 p v) w1 fun _ w2 => K p w2) ↔ K (.pointer (some ⟨w.heap.size, 0, none⟩)) (w.alloc (.cells v.cells 80)) := V_allocStore inf80 (by decide) hn h1
theorem V_as_82 {w : World} {v : Value} {K : Value → World → Prop} (hn : v.cells.size = 2) (h1 : ∀ u ∈ v.cells.toList, oneC u = true) : V Try.prog (Instr.alloc 82 true (.tuple #[])) w (fun p w1 => U Try.prog (Instr.storeAt 82 p v) w1 fun _ w2 => K p w2) ↔ K (.pointer (some ⟨w.heap.size, 0, none⟩)) (w.alloc (.cells v.cells 82)) := V_allocStore inf82 (by decide) hn h1
theorem V_bs_30_1 {w : World} {v0 : Value} {K : Value → World → Prop} (h0 : oneC v0 = true) : V Try.prog (Instr.buildSlice 30 1 #[(0, v0)]) w K ↔ K (.slice (some ⟨w.heap.size, 0, none⟩) 1 1) (w.alloc (.cells #[v0] 56)) := V.iff (r_buildSlice Try.underlying30 inf56 rfl [v0] (by simp) (by simp [h0]))
theorem V_bs_30_2 {w : World} {v0 v1 : Value} {K : Value → World → Prop} (h0 : oneC v0 = true) (h1 : oneC v1 = true) : V Try.prog (Instr.buildSlice 30 2 #[(0, v0), (1, v1)]) w K ↔ K (.slice (some ⟨w.heap.size, 0, none⟩) 2 2) (w.alloc (.cells #[v0, v1] 56)) := V.iff (r_buildSlice Try.underlying30 inf56 rfl [v0, v1] (by simp) (by simp [h0, h1]))
theorem V_bs_30_4 {w : World} {v0 v1 v2 v3 : Value} {K : Value → World → Prop} (h0 : oneC v0 = true) (h1 : oneC v1 = true) (h2 : oneC v2 = true) (h3 : oneC v3 = true) : V Try.prog (Instr.buildSlice 30 4 #[(0, v0), (1, v1), (2, v2), (3, v3)]) w K ↔ K (.slice (some ⟨w.heap.size, 0, none⟩) 4 4) (w.alloc (.cells #[v0, v1, v2, v3] 56)) := V.iff (r_buildSlice Try.underlying30 inf56 rfl [v0, v1, v2, v3] (by simp) (by simp [h0, h1, h2, h3]))
theorem V_bs_35_0 {w : World} {K : Value → World → Prop} : V Try.prog (Instr.buildSlice 35 0 #[]) w K ↔ K (.slice (some ⟨w.heap.size, 0, none⟩) 0 0) (w.alloc (.cells #[] 4)) := V.iff (r_buildSlice Try.underlying35 inf4 rfl [] (by simp) (by simp))
theorem V_bs_38_0 {w : World} {K : Value → World → Prop} : V Try.prog (Instr.buildSlice 38 0 #[]) w K ↔ K (.slice (some ⟨w.heap.size, 0, none⟩) 0 0) (w.alloc (.cells #[] 3)) := V.iff (r_buildSlice Try.underlying38 inf3 rfl [] (by simp) (by simp))
theorem V_bs_38_1 {w : World} {v0 : Value} {K : Value → World → Prop} (h0 : oneC v0 = true) : V Try.prog (Instr.buildSlice 38 1 #[(0, v0)]) w K ↔ K (.slice (some ⟨w.heap.size, 0, none⟩) 1 1) (w.alloc (.cells #[v0] 3)) := V.iff (r_buildSlice Try.underlying38 inf3 rfl [v0] (by simp) (by simp [h0]))
theorem V_bs_38_2 {w : World} {v0 v1 : Value} {K : Value → World → Prop} (h0 : oneC v0 = true) (h1 : oneC v1 = true) : V Try.prog (Instr.buildSlice 38 2 #[(0, v0), (1, v1)]) w K ↔ K (.slice (some ⟨w.heap.size, 0, none⟩) 2 2) (w.alloc (.cells #[v0, v1] 3)) := V.iff (r_buildSlice Try.underlying38 inf3 rfl [v0, v1] (by simp) (by simp [h0, h1]))
theorem V_bs_38_3 {w : World} {v0 v1 v2 : Value} {K : Value → World → Prop} (h0 : oneC v0 = true) (h1 : oneC v1 = true) (h2 : oneC v2 = true) : V Try.prog (Instr.buildSlice 38 3 #[(0, v0), (1, v1), (2, v2)]) w K ↔ K (.slice (some ⟨w.heap.size, 0, none⟩) 3 3) (w.alloc (.cells #[v0, v1, v2] 3)) := V.iff (r_buildSlice Try.underlying38 inf3 rfl [v0, v1, v2] (by simp) (by simp [h0, h1, h2]))
theorem V_bx_32 {w : World} {v : Value} {K : Value → World → Prop} : V Try.prog (Instr.box 32 v) w K ↔ K (.pointer (some ⟨w.heap.size, 0, none⟩)) (w.alloc (.cells v.cells 32)) := V.iff r_box
theorem V_bx_43 {w : World} {v : Value} {K : Value → World → Prop} : V Try.prog (Instr.box 43 v) w K ↔ K (.pointer (some ⟨w.heap.size, 0, none⟩)) (w.alloc (.cells v.cells 43)) := V.iff r_box
theorem V_bx_59 {w : World} {v : Value} {K : Value → World → Prop} : V Try.prog (Instr.box 59 v) w K ↔ K (.pointer (some ⟨w.heap.size, 0, none⟩)) (w.alloc (.cells v.cells 59)) := V.iff r_box
theorem V_cv_3_21 {w : World} {k : IntKind} {n : Int} {K : Value → World → Prop} : V Try.prog (convert 3 21 (.int k n)) w K ↔ K (.int .i32 (IntKind.wrap .i32 n)) w := V.iff (r_convI Try.underlying3 Try.underlying21)
theorem V_eqni_56 {w : World} {x y : Operand} {t : TypeId} {v : Value} {K : Value → World → Prop} : V Try.prog (do eqGuard .eql 56 x y (.iface t v) .nilIface; binOp .eql 56 (.iface t v) .nilIface) w K ↔ K (.bool false) w := V.iff (r_eqNilIface Try.underlying56)
theorem V_eqnn_56 {w : World} {x : Operand} {c : Value} {K : Value → World → Prop} : V Try.prog (do eqGuard .eql 56 x (.const c) .nilIface .nilIface; binOp .eql 56 .nilIface .nilIface) w K ↔ K (.bool true) w := V.iff (r_eqNilNil Try.underlying56)
theorem V_eqns_35 {w : World} {x y : Operand} {a : Option Addr} {n c : Nat} {K : Value → World → Prop} : V Try.prog (do eqGuard .eql 35 x y (.slice a n c) (.slice none 0 0); binOp .eql 35 (.slice a n c) (.slice none 0 0)) w K ↔ K (.bool a.isNone) w := V.iff (r_eqNilSlice Try.underlying35)
theorem V_eqns_38 {w : World} {x y : Operand} {a : Option Addr} {n c : Nat} {K : Value → World → Prop} : V Try.prog (do eqGuard .eql 38 x y (.slice a n c) (.slice none 0 0); binOp .eql 38 (.slice a n c) (.slice none 0 0)) w K ↔ K (.bool a.isNone) w := V.iff (r_eqNilSlice Try.underlying38)
theorem V_fd_23_0 {w : World} {b off : Nat} {K : Value → World → Prop} : V Try.prog (Instr.fieldAt 23 (.pointer (some ⟨b, off, none⟩)) 0) w K ↔ K (.pointer (some ⟨b, off + 0, none⟩)) w := V.iff (r_fd_23_0)
theorem V_fd_23_1 {w : World} {b off : Nat} {K : Value → World → Prop} : V Try.prog (Instr.fieldAt 23 (.pointer (some ⟨b, off, none⟩)) 1) w K ↔ K (.pointer (some ⟨b, off + 1, none⟩)) w := V.iff (r_fd_23_1)
theorem V_fd_25_0 {w : World} {b off : Nat} {K : Value → World → Prop} : V Try.prog (Instr.fieldAt 25 (.pointer (some ⟨b, off, none⟩)) 0) w K ↔ K (.pointer (some ⟨b, off + 0, none⟩)) w := V.iff (r_fd_25_0)
theorem V_fd_25_1 {w : World} {b off : Nat} {K : Value → World → Prop} : V Try.prog (Instr.fieldAt 25 (.pointer (some ⟨b, off, none⟩)) 1) w K ↔ K (.pointer (some ⟨b, off + 1, none⟩)) w := V.iff (r_fd_25_1)
theorem V_fd_27_0 {w : World} {b off : Nat} {K : Value → World → Prop} : V Try.prog (Instr.fieldAt 27 (.pointer (some ⟨b, off, none⟩)) 0) w K ↔ K (.pointer (some ⟨b, off + 0, none⟩)) w := V.iff (r_fd_27_0)
theorem V_fd_29_0 {w : World} {b off : Nat} {K : Value → World → Prop} : V Try.prog (Instr.fieldAt 29 (.pointer (some ⟨b, off, none⟩)) 0) w K ↔ K (.pointer (some ⟨b, off + 0, none⟩)) w := V.iff (r_fd_29_0)
theorem V_fd_32_0 {w : World} {b off : Nat} {K : Value → World → Prop} : V Try.prog (Instr.fieldAt 32 (.pointer (some ⟨b, off, none⟩)) 0) w K ↔ K (.pointer (some ⟨b, off + 0, none⟩)) w := V.iff (r_fd_32_0)
theorem V_fd_32_1 {w : World} {b off : Nat} {K : Value → World → Prop} : V Try.prog (Instr.fieldAt 32 (.pointer (some ⟨b, off, none⟩)) 1) w K ↔ K (.pointer (some ⟨b, off + 1, none⟩)) w := V.iff (r_fd_32_1)
theorem V_fd_32_2 {w : World} {b off : Nat} {K : Value → World → Prop} : V Try.prog (Instr.fieldAt 32 (.pointer (some ⟨b, off, none⟩)) 2) w K ↔ K (.pointer (some ⟨b, off + 2, none⟩)) w := V.iff (r_fd_32_2)
theorem V_fd_40_0 {w : World} {b off : Nat} {K : Value → World → Prop} : V Try.prog (Instr.fieldAt 40 (.pointer (some ⟨b, off, none⟩)) 0) w K ↔ K (.pointer (some ⟨b, off + 0, none⟩)) w := V.iff (r_fd_40_0)
theorem V_fd_40_1 {w : World} {b off : Nat} {K : Value → World → Prop} : V Try.prog (Instr.fieldAt 40 (.pointer (some ⟨b, off, none⟩)) 1) w K ↔ K (.pointer (some ⟨b, off + 1, none⟩)) w := V.iff (r_fd_40_1)
theorem V_fd_40_2 {w : World} {b off : Nat} {K : Value → World → Prop} : V Try.prog (Instr.fieldAt 40 (.pointer (some ⟨b, off, none⟩)) 2) w K ↔ K (.pointer (some ⟨b, off + 2, none⟩)) w := V.iff (r_fd_40_2)
theorem V_fd_43_0 {w : World} {b off : Nat} {K : Value → World → Prop} : V Try.prog (Instr.fieldAt 43 (.pointer (some ⟨b, off, none⟩)) 0) w K ↔ K (.pointer (some ⟨b, off + 0, none⟩)) w := V.iff (r_fd_43_0)
theorem V_fd_43_1 {w : World} {b off : Nat} {K : Value → World → Prop} : V Try.prog (Instr.fieldAt 43 (.pointer (some ⟨b, off, none⟩)) 1) w K ↔ K (.pointer (some ⟨b, off + 1, none⟩)) w := V.iff (r_fd_43_1)
theorem V_fd_46_0 {w : World} {b off : Nat} {K : Value → World → Prop} : V Try.prog (Instr.fieldAt 46 (.pointer (some ⟨b, off, none⟩)) 0) w K ↔ K (.pointer (some ⟨b, off + 0, none⟩)) w := V.iff (r_fd_46_0)
theorem V_fd_46_1 {w : World} {b off : Nat} {K : Value → World → Prop} : V Try.prog (Instr.fieldAt 46 (.pointer (some ⟨b, off, none⟩)) 1) w K ↔ K (.pointer (some ⟨b, off + 1, none⟩)) w := V.iff (r_fd_46_1)
theorem V_fd_46_2 {w : World} {b off : Nat} {K : Value → World → Prop} : V Try.prog (Instr.fieldAt 46 (.pointer (some ⟨b, off, none⟩)) 2) w K ↔ K (.pointer (some ⟨b, off + 2, none⟩)) w := V.iff (r_fd_46_2)
theorem V_fd_50_0 {w : World} {b off : Nat} {K : Value → World → Prop} : V Try.prog (Instr.fieldAt 50 (.pointer (some ⟨b, off, none⟩)) 0) w K ↔ K (.pointer (some ⟨b, off + 0, none⟩)) w := V.iff (r_fd_50_0)
theorem V_fd_50_1 {w : World} {b off : Nat} {K : Value → World → Prop} : V Try.prog (Instr.fieldAt 50 (.pointer (some ⟨b, off, none⟩)) 1) w K ↔ K (.pointer (some ⟨b, off + 1, none⟩)) w := V.iff (r_fd_50_1)
theorem V_fd_50_2 {w : World} {b off : Nat} {K : Value → World → Prop} : V Try.prog (Instr.fieldAt 50 (.pointer (some ⟨b, off, none⟩)) 2) w K ↔ K (.pointer (some ⟨b, off + 2, none⟩)) w := V.iff (r_fd_50_2)
theorem V_fd_50_3 {w : World} {b off : Nat} {K : Value → World → Prop} : V Try.prog (Instr.fieldAt 50 (.pointer (some ⟨b, off, none⟩)) 3) w K ↔ K (.pointer (some ⟨b, off + 3, none⟩)) w := V.iff (r_fd_50_3)
theorem V_fd_59_0 {w : World} {b off : Nat} {K : Value → World → Prop} : V Try.prog (Instr.fieldAt 59 (.pointer (some ⟨b, off, none⟩)) 0) w K ↔ K (.pointer (some ⟨b, off + 0, none⟩)) w := V.iff (r_fd_59_0)
theorem V_fd_59_1 {w : World} {b off : Nat} {K : Value → World → Prop} : V Try.prog (Instr.fieldAt 59 (.pointer (some ⟨b, off, none⟩)) 1) w K ↔ K (.pointer (some ⟨b, off + 1, none⟩)) w := V.iff (r_fd_59_1)
theorem V_fd_59_2 {w : World} {b off : Nat} {K : Value → World → Prop} : V Try.prog (Instr.fieldAt 59 (.pointer (some ⟨b, off, none⟩)) 2) w K ↔ K (.pointer (some ⟨b, off + 2, none⟩)) w := V.iff (r_fd_59_2)
theorem V_fd_65_0 {w : World} {b off : Nat} {K : Value → World → Prop} : V Try.prog (Instr.fieldAt 65 (.pointer (some ⟨b, off, none⟩)) 0) w K ↔ K (.pointer (some ⟨b, off + 0, none⟩)) w := V.iff (r_fd_65_0)
theorem V_fd_74_0 {w : World} {b off : Nat} {K : Value → World → Prop} : V Try.prog (Instr.fieldAt 74 (.pointer (some ⟨b, off, none⟩)) 0) w K ↔ K (.pointer (some ⟨b, off + 0, none⟩)) w := V.iff (r_fd_74_0)
theorem V_fd_74_1 {w : World} {b off : Nat} {K : Value → World → Prop} : V Try.prog (Instr.fieldAt 74 (.pointer (some ⟨b, off, none⟩)) 1) w K ↔ K (.pointer (some ⟨b, off + 1, none⟩)) w := V.iff (r_fd_74_1)
theorem V_fd_74_2 {w : World} {b off : Nat} {K : Value → World → Prop} : V Try.prog (Instr.fieldAt 74 (.pointer (some ⟨b, off, none⟩)) 2) w K ↔ K (.pointer (some ⟨b, off + 2, none⟩)) w := V.iff (r_fd_74_2)
theorem V_fd_74_3 {w : World} {b off : Nat} {K : Value → World → Prop} : V Try.prog (Instr.fieldAt 74 (.pointer (some ⟨b, off, none⟩)) 3) w K ↔ K (.pointer (some ⟨b, off + 3, none⟩)) w := V.iff (r_fd_74_3)
theorem V_fd_76_0 {w : World} {b off : Nat} {K : Value → World → Prop} : V Try.prog (Instr.fieldAt 76 (.pointer (some ⟨b, off, none⟩)) 0) w K ↔ K (.pointer (some ⟨b, off + 0, none⟩)) w := V.iff (r_fd_76_0)
theorem V_fd_76_1 {w : World} {b off : Nat} {K : Value → World → Prop} : V Try.prog (Instr.fieldAt 76 (.pointer (some ⟨b, off, none⟩)) 1) w K ↔ K (.pointer (some ⟨b, off + 1, none⟩)) w := V.iff (r_fd_76_1)
theorem V_fd_78_0 {w : World} {b off : Nat} {K : Value → World → Prop} : V Try.prog (Instr.fieldAt 78 (.pointer (some ⟨b, off, none⟩)) 0) w K ↔ K (.pointer (some ⟨b, off + 0, none⟩)) w := V.iff (r_fd_78_0)
theorem V_fd_78_3 {w : World} {b off : Nat} {K : Value → World → Prop} : V Try.prog (Instr.fieldAt 78 (.pointer (some ⟨b, off, none⟩)) 3) w K ↔ K (.pointer (some ⟨b, off + 3, none⟩)) w := V.iff (r_fd_78_3)
theorem V_fd_78_4 {w : World} {b off : Nat} {K : Value → World → Prop} : V Try.prog (Instr.fieldAt 78 (.pointer (some ⟨b, off, none⟩)) 4) w K ↔ K (.pointer (some ⟨b, off + 4, none⟩)) w := V.iff (r_fd_78_4)
theorem V_fd_80_0 {w : World} {b off : Nat} {K : Value → World → Prop} : V Try.prog (Instr.fieldAt 80 (.pointer (some ⟨b, off, none⟩)) 0) w K ↔ K (.pointer (some ⟨b, off + 0, none⟩)) w := V.iff (r_fd_80_0)
theorem V_fd_80_1 {w : World} {b off : Nat} {K : Value → World → Prop} : V Try.prog (Instr.fieldAt 80 (.pointer (some ⟨b, off, none⟩)) 1) w K ↔ K (.pointer (some ⟨b, off + 1, none⟩)) w := V.iff (r_fd_80_1)
theorem V_fd_80_2 {w : World} {b off : Nat} {K : Value → World → Prop} : V Try.prog (Instr.fieldAt 80 (.pointer (some ⟨b, off, none⟩)) 2) w K ↔ K (.pointer (some ⟨b, off + 2, none⟩)) w := V.iff (r_fd_80_2)
theorem V_fd_82_0 {w : World} {b off : Nat} {K : Value → World → Prop} : V Try.prog (Instr.fieldAt 82 (.pointer (some ⟨b, off, none⟩)) 0) w K ↔ K (.pointer (some ⟨b, off + 0, none⟩)) w := V.iff (r_fd_82_0)
theorem V_fd_82_1 {w : World} {b off : Nat} {K : Value → World → Prop} : V Try.prog (Instr.fieldAt 82 (.pointer (some ⟨b, off, none⟩)) 1) w K ↔ K (.pointer (some ⟨b, off + 1, none⟩)) w := V.iff (r_fd_82_1)
theorem V_ix_30 {w : World} {b off len cap : Nat} {k : IntKind} {i : Int} {K : Value → World → Prop} (h0 : 0 ≤ i) (h1 : i < len) : V Try.prog (Instr.indexAt 30 (.slice (some ⟨b, off, none⟩) len cap) (.int k i)) w K ↔ K (.pointer (some ⟨b, off + i.toNat * 1, none⟩)) w := V.iff (r_ix_30 h0 h1)
theorem V_ix_33 {w : World} {b off len cap : Nat} {k : IntKind} {i : Int} {K : Value → World → Prop} (h0 : 0 ≤ i) (h1 : i < len) : V Try.prog (Instr.indexAt 33 (.slice (some ⟨b, off, none⟩) len cap) (.int k i)) w K ↔ K (.pointer (some ⟨b, off + i.toNat * 1, none⟩)) w := V.iff (r_ix_33 h0 h1)
theorem V_ix_35 {w : World} {b off len cap : Nat} {k : IntKind} {i : Int} {K : Value → World → Prop} (h0 : 0 ≤ i) (h1 : i < len) : V Try.prog (Instr.indexAt 35 (.slice (some ⟨b, off, none⟩) len cap) (.int k i)) w K ↔ K (.pointer (some ⟨b, off + i.toNat * 1, none⟩)) w := V.iff (r_ix_35 h0 h1)
theorem V_ix_38 {w : World} {b off len cap : Nat} {k : IntKind} {i : Int} {K : Value → World → Prop} (h0 : 0 ≤ i) (h1 : i < len) : V Try.prog (Instr.indexAt 38 (.slice (some ⟨b, off, none⟩) len cap) (.int k i)) w K ↔ K (.pointer (some ⟨b, off + i.toNat * 1, none⟩)) w := V.iff (r_ix_38 h0 h1)
theorem V_ld_3 {w : World} {a : Addr} {K : Value → World → Prop} : V Try.prog (Instr.loadAt 3 (.pointer (some a))) w K ↔ ldO Try.prog 3 a (w.cell? a) w K := V_load Try.underlying3 rfl
theorem V_ld_30 {w : World} {a : Addr} {K : Value → World → Prop} : V Try.prog (Instr.loadAt 30 (.pointer (some a))) w K ↔ ldO Try.prog 30 a (w.cell? a) w K := V_load Try.underlying30 rfl
theorem V_ld_33 {w : World} {a : Addr} {K : Value → World → Prop} : V Try.prog (Instr.loadAt 33 (.pointer (some a))) w K ↔ ldO Try.prog 33 a (w.cell? a) w K := V_load Try.underlying33 rfl
theorem V_ld_35 {w : World} {a : Addr} {K : Value → World → Prop} : V Try.prog (Instr.loadAt 35 (.pointer (some a))) w K ↔ ldO Try.prog 35 a (w.cell? a) w K := V_load Try.underlying35 rfl
theorem V_ld_38 {w : World} {a : Addr} {K : Value → World → Prop} : V Try.prog (Instr.loadAt 38 (.pointer (some a))) w K ↔ ldO Try.prog 38 a (w.cell? a) w K := V_load Try.underlying38 rfl
theorem V_ld_4 {w : World} {a : Addr} {K : Value → World → Prop} : V Try.prog (Instr.loadAt 4 (.pointer (some a))) w K ↔ ldO Try.prog 4 a (w.cell? a) w K := V_load Try.underlying4 rfl
theorem V_ld_56 {w : World} {a : Addr} {K : Value → World → Prop} : V Try.prog (Instr.loadAt 56 (.pointer (some a))) w K ↔ ldO Try.prog 56 a (w.cell? a) w K := V_load Try.underlying56 rfl
theorem V_ln_30 {w : World} {ty : TypeId} {a : Option Addr} {n c : Nat} {K : Value → World → Prop} : V Try.prog (Builtin.len_ #[30] ty #[.slice a n c]) w K ↔ K (.int .i64 n) w := V.iff (r_len Try.underlying30)
theorem V_ln_33 {w : World} {ty : TypeId} {a : Option Addr} {n c : Nat} {K : Value → World → Prop} : V Try.prog (Builtin.len_ #[33] ty #[.slice a n c]) w K ↔ K (.int .i64 n) w := V.iff (r_len Try.underlying33)
theorem V_ln_35 {w : World} {ty : TypeId} {a : Option Addr} {n c : Nat} {K : Value → World → Prop} : V Try.prog (Builtin.len_ #[35] ty #[.slice a n c]) w K ↔ K (.int .i64 n) w := V.iff (r_len Try.underlying35)
theorem V_ln_38 {w : World} {ty : TypeId} {a : Option Addr} {n c : Nat} {K : Value → World → Prop} : V Try.prog (Builtin.len_ #[38] ty #[.slice a n c]) w K ↔ K (.int .i64 n) w := V.iff (r_len Try.underlying38)
theorem V_neqni_56 {w : World} {x y : Operand} {t : TypeId} {v : Value} {K : Value → World → Prop} : V Try.prog (do eqGuard .neq 56 x y (.iface t v) .nilIface; binOp .neq 56 (.iface t v) .nilIface) w K ↔ K (.bool true) w := V.iff (r_neqNilIface Try.underlying56)
theorem V_neqnn_56 {w : World} {x : Operand} {c : Value} {K : Value → World → Prop} : V Try.prog (do eqGuard .neq 56 x (.const c) .nilIface .nilIface; binOp .neq 56 .nilIface .nilIface) w K ↔ K (.bool false) w := V.iff (r_neqNilNil Try.underlying56)
theorem V_ta_23 {w : World} {x t : TypeId} {v : Value} {K : Value → World → Prop} : V Try.prog (Instr.typeAssert (.iface t v) x 23 true) w K ↔ K (if t = 23 then .tuple #[v, .bool true] else .tuple #[(.agg #[(.int .i64 0), (.int .i64 0)]), .bool false]) w := V.iff (r_ta Try.underlying23 rfl inf23)
theorem V_ta_25 {w : World} {x t : TypeId} {v : Value} {K : Value → World → Prop} : V Try.prog (Instr.typeAssert (.iface t v) x 25 true) w K ↔ K (if t = 25 then .tuple #[v, .bool true] else .tuple #[(.agg #[(.int .i64 0), (.int .i64 0)]), .bool false]) w := V.iff (r_ta Try.underlying25 rfl inf25)
theorem V_ta_27 {w : World} {x t : TypeId} {v : Value} {K : Value → World → Prop} : V Try.prog (Instr.typeAssert (.iface t v) x 27 true) w K ↔ K (if t = 27 then .tuple #[v, .bool true] else .tuple #[(.agg #[(.int .i64 0), (.int .i32 0)]), .bool false]) w := V.iff (r_ta Try.underlying27 rfl inf27)
theorem V_ta_29 {w : World} {x t : TypeId} {v : Value} {K : Value → World → Prop} : V Try.prog (Instr.typeAssert (.iface t v) x 29 true) w K ↔ K (if t = 29 then .tuple #[v, .bool true] else .tuple #[(.agg #[(.int .i64 0)]), .bool false]) w := V.iff (r_ta Try.underlying29 rfl inf29)
theorem V_ta_40 {w : World} {x t : TypeId} {v : Value} {K : Value → World → Prop} : V Try.prog (Instr.typeAssert (.iface t v) x 40 true) w K ↔ K (if t = 40 then .tuple #[v, .bool true] else .tuple #[(.agg #[(.int .i64 0), (.int .i64 0), (.slice none 0 0)]), .bool false]) w := V.iff (r_ta Try.underlying40 rfl inf40)
theorem V_ta_46 {w : World} {x t : TypeId} {v : Value} {K : Value → World → Prop} : V Try.prog (Instr.typeAssert (.iface t v) x 46 true) w K ↔ K (if t = 46 then .tuple #[v, .bool true] else .tuple #[(.agg #[(.int .i64 0), (.int .i64 0), (.int .i64 0)]), .bool false]) w := V.iff (r_ta Try.underlying46 rfl inf46)
theorem V_ta_48 {w : World} {x t : TypeId} {v : Value} {K : Value → World → Prop} : V Try.prog (Instr.typeAssert (.iface t v) x 48 true) w K ↔ K (if t = 48 then .tuple #[v, .bool true] else .tuple #[(.agg #[]), .bool false]) w := V.iff (r_ta Try.underlying48 rfl inf48)
theorem V_ta_50 {w : World} {x t : TypeId} {v : Value} {K : Value → World → Prop} : V Try.prog (Instr.typeAssert (.iface t v) x 50 true) w K ↔ K (if t = 50 then .tuple #[v, .bool true] else .tuple #[(.agg #[(.int .i64 0), (.int .i64 0), (.int .i64 0), (.int .i64 0)]), .bool false]) w := V.iff (r_ta Try.underlying50 rfl inf50)
theorem V_ta_65 {w : World} {x t : TypeId} {v : Value} {K : Value → World → Prop} : V Try.prog (Instr.typeAssert (.iface t v) x 65 true) w K ↔ K (if t = 65 then .tuple #[v, .bool true] else .tuple #[(.agg #[(.int .i64 0)]), .bool false]) w := V.iff (r_ta Try.underlying65 rfl inf65)
theorem V_ta_74 {w : World} {x t : TypeId} {v : Value} {K : Value → World → Prop} : V Try.prog (Instr.typeAssert (.iface t v) x 74 true) w K ↔ K (if t = 74 then .tuple #[v, .bool true] else .tuple #[(.agg #[(.int .i64 0), (.int .i64 0), (.int .i64 0), (.int .i64 0)]), .bool false]) w := V.iff (r_ta Try.underlying74 rfl inf74)
theorem V_ta_76 {w : World} {x t : TypeId} {v : Value} {K : Value → World → Prop} : V Try.prog (Instr.typeAssert (.iface t v) x 76 true) w K ↔ K (if t = 76 then .tuple #[v, .bool true] else .tuple #[(.agg #[(.int .i64 0), (.int .i64 0)]), .bool false]) w := V.iff (r_ta Try.underlying76 rfl inf76)
theorem V_ta_78 {w : World} {x t : TypeId} {v : Value} {K : Value → World → Prop} : V Try.prog (Instr.typeAssert (.iface t v) x 78 true) w K ↔ K (if t = 78 then .tuple #[v, .bool true] else .tuple #[(.agg #[(.int .i64 0), (.int .i64 0), (.int .i64 0), (.int .i64 0), (.slice none 0 0)]), .bool false]) w := V.iff (r_ta Try.underlying78 rfl inf78)
theorem V_ta_80 {w : World} {x t : TypeId} {v : Value} {K : Value → World → Prop} : V Try.prog (Instr.typeAssert (.iface t v) x 80 true) w K ↔ K (if t = 80 then .tuple #[v, .bool true] else .tuple #[(.agg #[(.int .i64 0), (.int .i64 0), (.slice none 0 0)]), .bool false]) w := V.iff (r_ta Try.underlying80 rfl inf80)
theorem V_ta_82 {w : World} {x t : TypeId} {v : Value} {K : Value → World → Prop} : V Try.prog (Instr.typeAssert (.iface t v) x 82 true) w K ↔ K (if t = 82 then .tuple #[v, .bool true] else .tuple #[(.agg #[(.int .i64 0), (.int .i64 0)]), .bool false]) w := V.iff (r_ta Try.underlying82 rfl inf82)
theorem V_tn_23 {w : World} {x : TypeId} {K : Value → World → Prop} : V Try.prog (Instr.typeAssert .nilIface x 23 true) w K ↔ K (.tuple #[(.agg #[(.int .i64 0), (.int .i64 0)]), .bool false]) w := V.iff (r_tanil Try.underlying23 rfl inf23)
theorem V_tn_25 {w : World} {x : TypeId} {K : Value → World → Prop} : V Try.prog (Instr.typeAssert .nilIface x 25 true) w K ↔ K (.tuple #[(.agg #[(.int .i64 0), (.int .i64 0)]), .bool false]) w := V.iff (r_tanil Try.underlying25 rfl inf25)
theorem V_tn_27 {w : World} {x : TypeId} {K : Value → World → Prop} : V Try.prog (Instr.typeAssert .nilIface x 27 true) w K ↔ K (.tuple #[(.agg #[(.int .i64 0), (.int .i32 0)]), .bool false]) w := V.iff (r_tanil Try.underlying27 rfl inf27)
theorem V_tn_29 {w : World} {x : TypeId} {K : Value → World → Prop} : V Try.prog (Instr.typeAssert .nilIface x 29 true) w K ↔ K (.tuple #[(.agg #[(.int .i64 0)]), .bool false]) w := V.iff (r_tanil Try.underlying29 rfl inf29)
theorem V_tn_40 {w : World} {x : TypeId} {K : Value → World → Prop} : V Try.prog (Instr.typeAssert .nilIface x 40 true) w K ↔ K (.tuple #[(.agg #[(.int .i64 0), (.int .i64 0), (.slice none 0 0)]), .bool false]) w := V.iff (r_tanil Try.underlying40 rfl inf40)
theorem V_tn_46 {w : World} {x : TypeId} {K : Value → World → Prop} : V Try.prog (Instr.typeAssert .nilIface x 46 true) w K ↔ K (.tuple #[(.agg #[(.int .i64 0), (.int .i64 0), (.int .i64 0)]), .bool false]) w := V.iff (r_tanil Try.underlying46 rfl inf46)
theorem V_tn_48 {w : World} {x : TypeId} {K : Value → World → Prop} : V Try.prog (Instr.typeAssert .nilIface x 48 true) w K ↔ K (.tuple #[(.agg #[]), .bool false]) w := V.iff (r_tanil Try.underlying48 rfl inf48)
theorem V_tn_50 {w : World} {x : TypeId} {K : Value → World → Prop} : V Try.prog (Instr.typeAssert .nilIface x 50 true) w K ↔ K (.tuple #[(.agg #[(.int .i64 0), (.int .i64 0), (.int .i64 0), (.int .i64 0)]), .bool false]) w := V.iff (r_tanil Try.underlying50 rfl inf50)
theorem V_tn_65 {w : World} {x : TypeId} {K : Value → World → Prop} : V Try.prog (Instr.typeAssert .nilIface x 65 true) w K ↔ K (.tuple #[(.agg #[(.int .i64 0)]), .bool false]) w := V.iff (r_tanil Try.underlying65 rfl inf65)
theorem V_tn_74 {w : World} {x : TypeId} {K : Value → World → Prop} : V Try.prog (Instr.typeAssert .nilIface x 74 true) w K ↔ K (.tuple #[(.agg #[(.int .i64 0), (.int .i64 0), (.int .i64 0), (.int .i64 0)]), .bool false]) w := V.iff (r_tanil Try.underlying74 rfl inf74)
theorem V_tn_76 {w : World} {x : TypeId} {K : Value → World → Prop} : V Try.prog (Instr.typeAssert .nilIface x 76 true) w K ↔ K (.tuple #[(.agg #[(.int .i64 0), (.int .i64 0)]), .bool false]) w := V.iff (r_tanil Try.underlying76 rfl inf76)
theorem V_tn_78 {w : World} {x : TypeId} {K : Value → World → Prop} : V Try.prog (Instr.typeAssert .nilIface x 78 true) w K ↔ K (.tuple #[(.agg #[(.int .i64 0), (.int .i64 0), (.int .i64 0), (.int .i64 0), (.slice none 0 0)]), .bool false]) w := V.iff (r_tanil Try.underlying78 rfl inf78)
theorem V_tn_80 {w : World} {x : TypeId} {K : Value → World → Prop} : V Try.prog (Instr.typeAssert .nilIface x 80 true) w K ↔ K (.tuple #[(.agg #[(.int .i64 0), (.int .i64 0), (.slice none 0 0)]), .bool false]) w := V.iff (r_tanil Try.underlying80 rfl inf80)
theorem V_tn_82 {w : World} {x : TypeId} {K : Value → World → Prop} : V Try.prog (Instr.typeAssert .nilIface x 82 true) w K ↔ K (.tuple #[(.agg #[(.int .i64 0), (.int .i64 0)]), .bool false]) w := V.iff (r_tanil Try.underlying82 rfl inf82)
theorem bd_23 : BD Try.prog 23 [(.int .i64 0), (.int .i64 0)] := ⟨_, _, Try.underlying23, inf23, fun w => by kernel_rfl⟩
theorem bd_25 : BD Try.prog 25 [(.int .i64 0), (.int .i64 0)] := ⟨_, _, Try.underlying25, inf25, fun w => by kernel_rfl⟩
theorem bd_27 : BD Try.prog 27 [(.int .i64 0), (.int .i32 0)] := ⟨_, _, Try.underlying27, inf27, fun w => by kernel_rfl⟩
theorem bd_29 : BD Try.prog 29 [(.int .i64 0)] := ⟨_, _, Try.underlying29, inf29, fun w => by kernel_rfl⟩
theorem bd_32 : BD Try.prog 32 [(.int .i64 0), (.int .i64 0), (.slice none 0 0)] := ⟨_, _, Try.underlying32, inf32, fun w => by kernel_rfl⟩
theorem bd_40 : BD Try.prog 40 [(.int .i64 0), (.int .i64 0), (.slice none 0 0)] := ⟨_, _, Try.underlying40, inf40, fun w => by kernel_rfl⟩
theorem bd_43 : BD Try.prog 43 [(.slice none 0 0), (.int .i64 0)] := ⟨_, _, Try.underlying43, inf43, fun w => by kernel_rfl⟩
theorem bd_46 : BD Try.prog 46 [(.int .i64 0), (.int .i64 0), (.int .i64 0)] := ⟨_, _, Try.underlying46, inf46, fun w => by kernel_rfl⟩
theorem bd_48 : BD Try.prog 48 [] := ⟨_, _, Try.underlying48, inf48, fun w => by kernel_rfl⟩
theorem bd_50 : BD Try.prog 50 [(.int .i64 0), (.int .i64 0), (.int .i64 0), (.int .i64 0)] := ⟨_, _, Try.underlying50, inf50, fun w => by kernel_rfl⟩
theorem bd_59 : BD Try.prog 59 [(.slice none 0 0), (.slice none 0 0), (.slice none 0 0)] := ⟨_, _, Try.underlying59, inf59, fun w => by kernel_rfl⟩
theorem mi_23 : MI Try.prog 23 := ⟨_, Try.underlying23, rfl⟩
theorem mi_25 : MI Try.prog 25 := ⟨_, Try.underlying25, rfl⟩
theorem mi_27 : MI Try.prog 27 := ⟨_, Try.underlying27, rfl⟩
theorem mi_29 : MI Try.prog 29 := ⟨_, Try.underlying29, rfl⟩
theorem mi_40 : MI Try.prog 40 := ⟨_, Try.underlying40, rfl⟩
theorem mi_46 : MI Try.prog 46 := ⟨_, Try.underlying46, rfl⟩
theorem mi_48 : MI Try.prog 48 := ⟨_, Try.underlying48, rfl⟩
theorem mi_50 : MI Try.prog 50 := ⟨_, Try.underlying50, rfl⟩
theorem xe_30 : XE Try.prog 30 56 16 := ⟨_, Try.underlying30, inf56, rfl⟩
theorem xe_33 : XE Try.prog 33 35 24 := ⟨_, Try.underlying33, inf35, rfl⟩
theorem xe_35 : XE Try.prog 35 4 1 := ⟨_, Try.underlying35, inf4, rfl⟩
theorem xe_38 : XE Try.prog 38 3 8 := ⟨_, Try.underlying38, inf3, rfl⟩
theorem sa_23 : SA Try.prog 23 2 := ⟨_, _, inf23, by decide⟩
theorem sa_25 : SA Try.prog 25 2 := ⟨_, _, inf25, by decide⟩
theorem sa_27 : SA Try.prog 27 2 := ⟨_, _, inf27, by decide⟩
theorem sa_29 : SA Try.prog 29 1 := ⟨_, _, inf29, by decide⟩
theorem sa_32 : SA Try.prog 32 3 := ⟨_, _, inf32, by decide⟩
theorem sa_35 : SA Try.prog 35 1 := ⟨_, _, inf35, by decide⟩
theorem sa_40 : SA Try.prog 40 3 := ⟨_, _, inf40, by decide⟩
theorem sa_43 : SA Try.prog 43 2 := ⟨_, _, inf43, by decide⟩
theorem sa_46 : SA Try.prog 46 3 := ⟨_, _, inf46, by decide⟩
theorem sa_50 : SA Try.prog 50 4 := ⟨_, _, inf50, by decide⟩
theorem sa_59 : SA Try.prog 59 3 := ⟨_, _, inf59, by decide⟩
theorem sa_65 : SA Try.prog 65 1 := ⟨_, _, inf65, by decide⟩
theorem sa_74 : SA Try.prog 74 4 := ⟨_, _, inf74, by decide⟩
theorem sa_76 : SA Try.prog 76 2 := ⟨_, _, inf76, by decide⟩
theorem sa_78 : SA Try.prog 78 5 := ⟨_, _, inf78, by decide⟩
theorem sa_80 : SA Try.prog 80 3 := ⟨_, _, inf80, by decide⟩
theorem sa_82 : SA Try.prog 82 2 := ⟨_, _, inf82, by decide⟩
theorem la_32 : ∃ d z by_, Program.underlying Try.prog 32 = some d ∧ aggB d = true ∧ Inf Try.prog 32 z 3 by_ := ⟨_, _, _, Try.underlying32, rfl, inf32⟩
theorem la_43 : ∃ d z by_, Program.underlying Try.prog 43 = some d ∧ aggB d = true ∧ Inf Try.prog 43 z 2 by_ := ⟨_, _, _, Try.underlying43, rfl, inf43⟩
theorem la_59 : ∃ d z by_, Program.underlying Try.prog 59 = some d ∧ aggB d = true ∧ Inf Try.prog 59 z 3 by_ := ⟨_, _, _, Try.underlying59, rfl, inf59⟩
theorem xa_30 : XA Try.prog 30 1 := ⟨_, _, _, Try.underlying30, inf56⟩
theorem xa_33 : XA Try.prog 33 1 := ⟨_, _, _, Try.underlying33, inf35⟩
theorem xa_35 : XA Try.prog 35 1 := ⟨_, _, _, Try.underlying35, inf4⟩
theorem xa_38 : XA Try.prog 38 1 := ⟨_, _, _, Try.underlying38, inf3⟩
theorem l1_3 : L1 Try.prog 3 := ⟨_, Try.underlying3, rfl⟩
theorem l1_30 : L1 Try.prog 30 := ⟨_, Try.underlying30, rfl⟩
theorem l1_33 : L1 Try.prog 33 := ⟨_, Try.underlying33, rfl⟩
theorem l1_35 : L1 Try.prog 35 := ⟨_, Try.underlying35, rfl⟩
theorem l1_38 : L1 Try.prog 38 := ⟨_, Try.underlying38, rfl⟩
theorem l1_4 : L1 Try.prog 4 := ⟨_, Try.underlying4, rfl⟩
theorem l1_56 : L1 Try.prog 56 := ⟨_, Try.underlying56, rfl⟩
theorem fa_23_0 : FA Try.prog 23 0 0 := ⟨fun _ _ _ => r_field 3 0 Try.underlying23 rfl inf3 rfl⟩
theorem fa_23_1 : FA Try.prog 23 1 1 := ⟨fun _ _ _ => r_field 3 1 Try.underlying23 rfl inf3 rfl⟩
theorem fa_25_0 : FA Try.prog 25 0 0 := ⟨fun _ _ _ => r_field 3 0 Try.underlying25 rfl inf3 rfl⟩
theorem fa_25_1 : FA Try.prog 25 1 1 := ⟨fun _ _ _ => r_field 3 1 Try.underlying25 rfl inf3 rfl⟩
theorem fa_27_0 : FA Try.prog 27 0 0 := ⟨fun _ _ _ => r_field 3 0 Try.underlying27 rfl inf3 rfl⟩
theorem fa_29_0 : FA Try.prog 29 0 0 := ⟨fun _ _ _ => r_field 3 0 Try.underlying29 rfl inf3 rfl⟩
theorem fa_32_0 : FA Try.prog 32 0 0 := ⟨fun _ _ _ => r_field 3 0 Try.underlying32 rfl inf3 rfl⟩
theorem fa_32_1 : FA Try.prog 32 1 1 := ⟨fun _ _ _ => r_field 3 1 Try.underlying32 rfl inf3 rfl⟩
theorem fa_32_2 : FA Try.prog 32 2 2 := ⟨fun _ _ _ => r_field 30 2 Try.underlying32 rfl inf30 rfl⟩
theorem fa_40_0 : FA Try.prog 40 0 0 := ⟨fun _ _ _ => r_field 3 0 Try.underlying40 rfl inf3 rfl⟩
theorem fa_40_1 : FA Try.prog 40 1 1 := ⟨fun _ _ _ => r_field 3 1 Try.underlying40 rfl inf3 rfl⟩
theorem fa_40_2 : FA Try.prog 40 2 2 := ⟨fun _ _ _ => r_field 38 2 Try.underlying40 rfl inf38 rfl⟩
theorem fa_43_0 : FA Try.prog 43 0 0 := ⟨fun _ _ _ => r_field 38 0 Try.underlying43 rfl inf38 rfl⟩
theorem fa_43_1 : FA Try.prog 43 1 1 := ⟨fun _ _ _ => r_field 3 1 Try.underlying43 rfl inf3 rfl⟩
theorem fa_46_0 : FA Try.prog 46 0 0 := ⟨fun _ _ _ => r_field 3 0 Try.underlying46 rfl inf3 rfl⟩
theorem fa_46_1 : FA Try.prog 46 1 1 := ⟨fun _ _ _ => r_field 3 1 Try.underlying46 rfl inf3 rfl⟩
theorem fa_46_2 : FA Try.prog 46 2 2 := ⟨fun _ _ _ => r_field 3 2 Try.underlying46 rfl inf3 rfl⟩
theorem fa_50_0 : FA Try.prog 50 0 0 := ⟨fun _ _ _ => r_field 3 0 Try.underlying50 rfl inf3 rfl⟩
theorem fa_50_1 : FA Try.prog 50 1 1 := ⟨fun _ _ _ => r_field 3 1 Try.underlying50 rfl inf3 rfl⟩
theorem fa_50_2 : FA Try.prog 50 2 2 := ⟨fun _ _ _ => r_field 3 2 Try.underlying50 rfl inf3 rfl⟩
theorem fa_50_3 : FA Try.prog 50 3 3 := ⟨fun _ _ _ => r_field 3 3 Try.underlying50 rfl inf3 rfl⟩
theorem fa_59_0 : FA Try.prog 59 0 0 := ⟨fun _ _ _ => r_field 33 0 Try.underlying59 rfl inf33 rfl⟩
theorem fa_59_1 : FA Try.prog 59 1 1 := ⟨fun _ _ _ => r_field 35 1 Try.underlying59 rfl inf35 rfl⟩
theorem fa_59_2 : FA Try.prog 59 2 2 := ⟨fun _ _ _ => r_field 38 2 Try.underlying59 rfl inf38 rfl⟩
theorem fa_65_0 : FA Try.prog 65 0 0 := ⟨fun _ _ _ => r_field 3 0 Try.underlying65 rfl inf3 rfl⟩
theorem fa_74_0 : FA Try.prog 74 0 0 := ⟨fun _ _ _ => r_field 3 0 Try.underlying74 rfl inf3 rfl⟩
theorem fa_74_1 : FA Try.prog 74 1 1 := ⟨fun _ _ _ => r_field 3 1 Try.underlying74 rfl inf3 rfl⟩
theorem fa_74_2 : FA Try.prog 74 2 2 := ⟨fun _ _ _ => r_field 3 2 Try.underlying74 rfl inf3 rfl⟩
theorem fa_74_3 : FA Try.prog 74 3 3 := ⟨fun _ _ _ => r_field 3 3 Try.underlying74 rfl inf3 rfl⟩
theorem fa_76_0 : FA Try.prog 76 0 0 := ⟨fun _ _ _ => r_field 3 0 Try.underlying76 rfl inf3 rfl⟩
theorem fa_76_1 : FA Try.prog 76 1 1 := ⟨fun _ _ _ => r_field 3 1 Try.underlying76 rfl inf3 rfl⟩
theorem fa_78_0 : FA Try.prog 78 0 0 := ⟨fun _ _ _ => r_field 3 0 Try.underlying78 rfl inf3 rfl⟩
theorem fa_78_3 : FA Try.prog 78 3 3 := ⟨fun _ _ _ => r_field 3 3 Try.underlying78 rfl inf3 rfl⟩
theorem fa_78_4 : FA Try.prog 78 4 4 := ⟨fun _ _ _ => r_field 38 4 Try.underlying78 rfl inf38 rfl⟩
theorem fa_80_0 : FA Try.prog 80 0 0 := ⟨fun _ _ _ => r_field 3 0 Try.underlying80 rfl inf3 rfl⟩
theorem fa_80_1 : FA Try.prog 80 1 1 := ⟨fun _ _ _ => r_field 3 1 Try.underlying80 rfl inf3 rfl⟩
theorem fa_80_2 : FA Try.prog 80 2 2 := ⟨fun _ _ _ => r_field 38 2 Try.underlying80 rfl inf38 rfl⟩
theorem fa_82_0 : FA Try.prog 82 0 0 := ⟨fun _ _ _ => r_field 3 0 Try.underlying82 rfl inf3 rfl⟩
theorem fa_82_1 : FA Try.prog 82 1 1 := ⟨fun _ _ _ => r_field 3 1 Try.underlying82 rfl inf3 rfl⟩
theorem ta_23 : TA Try.prog 23 := TA.mk' Try.underlying23 rfl inf23
theorem ta_25 : TA Try.prog 25 := TA.mk' Try.underlying25 rfl inf25
theorem ta_27 : TA Try.prog 27 := TA.mk' Try.underlying27 rfl inf27
theorem ta_29 : TA Try.prog 29 := TA.mk' Try.underlying29 rfl inf29
theorem ta_40 : TA Try.prog 40 := TA.mk' Try.underlying40 rfl inf40
theorem ta_46 : TA Try.prog 46 := TA.mk' Try.underlying46 rfl inf46
theorem ta_48 : TA Try.prog 48 := TA.mk' Try.underlying48 rfl inf48
theorem ta_50 : TA Try.prog 50 := TA.mk' Try.underlying50 rfl inf50
theorem ta_65 : TA Try.prog 65 := TA.mk' Try.underlying65 rfl inf65
theorem ta_74 : TA Try.prog 74 := TA.mk' Try.underlying74 rfl inf74
theorem ta_76 : TA Try.prog 76 := TA.mk' Try.underlying76 rfl inf76
theorem ta_78 : TA Try.prog 78 := TA.mk' Try.underlying78 rfl inf78
theorem ta_80 : TA Try.prog 80 := TA.mk' Try.underlying80 rfl inf80
theorem ta_82 : TA Try.prog 82 := TA.mk' Try.underlying82 rfl inf82
end Go.Proofs.Ythefabgfjnkklaa
