/- The laws of single operations, at this program's types: by program (instgen.py). -/
import Derived.Test.YtendijaeihljeaaLaws2
import Derived.Test.YtendijaeihljeaaProg
import Derived.KernelRfl
namespace Go.Proofs.Ytendijaeihljeaa
open Go.Vc
theorem inf3 : Inf Try.prog 3 (.int .i64 0) 1 8 := by unfold Inf; kernel_rfl
theorem inf4 : Inf Try.prog 4 (.bool false) 1 1 := by unfold Inf; kernel_rfl
theorem inf22 : Inf Try.prog 22 (.slice none 0 0) 1 24 := by unfold Inf; kernel_rfl
theorem inf23 : Inf Try.prog 23 (.slice none 0 0) 1 24 := by unfold Inf; kernel_rfl
theorem inf25 : Inf Try.prog 25 (.agg #[(.int .i64 0), (.int .i64 0), (.slice none 0 0)]) 3 40 := by unfold Inf; kernel_rfl
theorem inf27 : Inf Try.prog 27 (.agg #[(.int .i64 0), (.int .i32 0)]) 2 16 := by unfold Inf; kernel_rfl
theorem inf30 : Inf Try.prog 30 (.agg #[(.int .i64 0), (.int .i64 0), (.int .i64 0)]) 3 24 := by unfold Inf; kernel_rfl
theorem inf32 : Inf Try.prog 32 (.agg #[]) 0 0 := by unfold Inf; kernel_rfl
theorem inf34 : Inf Try.prog 34 (.agg #[(.int .i64 0), (.int .i64 0)]) 2 16 := by unfold Inf; kernel_rfl
theorem inf36 : Inf Try.prog 36 (.agg #[(.int .i64 0), (.int .i64 0), (.int .i64 0), (.int .i64 0)]) 4 32 := by unfold Inf; kernel_rfl
theorem inf38 : Inf Try.prog 38 (.agg #[(.int .i64 0)]) 1 8 := by unfold Inf; kernel_rfl
theorem inf40 : Inf Try.prog 40 (.agg #[(.slice none 0 0), (.int .i64 0)]) 2 32 := by unfold Inf; kernel_rfl
theorem inf46 : Inf Try.prog 46 (.slice none 0 0) 1 24 := by unfold Inf; kernel_rfl
theorem inf47 : Inf Try.prog 47 (.slice none 0 0) 1 24 := by unfold Inf; kernel_rfl
theorem inf49 : Inf Try.prog 49 (.agg #[(.slice none 0 0), (.slice none 0 0), (.slice none 0 0)]) 3 72 := by unfold Inf; kernel_rfl
theorem inf54 : Inf Try.prog 54 .nilIface 1 16 := by unfold Inf; kernel_rfl
theorem inf68 : Inf Try.prog 68 (.agg #[(.int .i64 0), (.int .i64 0), (.int .i64 0), (.int .i64 0)]) 4 32 := by unfold Inf; kernel_rfl
theorem inf70 : Inf Try.prog 70 (.agg #[(.int .i64 0), (.int .i64 0)]) 2 16 := by unfold Inf; kernel_rfl
theorem inf72 : Inf Try.prog 72 (.agg #[(.int .i64 0), (.int .i64 0), (.int .i64 0), (.int .i64 0), (.slice none 0 0)]) 5 56 := by unfold Inf; kernel_rfl
theorem inf74 : Inf Try.prog 74 (.agg #[(.int .i64 0), (.int .i64 0), (.slice none 0 0)]) 3 40 := by unfold Inf; kernel_rfl
theorem inf76 : Inf Try.prog 76 (.agg #[(.int .i64 0), (.int .i64 0), (.slice none 0 0)]) 3 40 := by unfold Inf; kernel_rfl
theorem inf78 : Inf Try.prog 78 (.agg #[(.int .i64 0), (.int .i64 0)]) 2 16 := by unfold Inf; kernel_rfl
theorem inf82 : Inf Try.prog 82 (.agg #[(.int .i64 0), (.int .i64 0)]) 2 16 := by unfold Inf; kernel_rfl
theorem inf85 : Inf Try.prog 85 (.agg #[(.int .i64 0)]) 1 8 := by unfold Inf; kernel_rfl
theorem r_fd_25_0 {w : World} {b off : Nat} : (Instr.fieldAt 25 (.pointer (some ⟨b, off, none⟩)) 0).run Try.prog w = .ok (.pointer (some ⟨b, off + 0, none⟩)) w := r_field 3 0 Try.underlying25 rfl inf3 rfl
theorem r_fd_25_1 {w : World} {b off : Nat} : (Instr.fieldAt 25 (.pointer (some ⟨b, off, none⟩)) 1).run Try.prog w = .ok (.pointer (some ⟨b, off + 1, none⟩)) w := r_field 3 1 Try.underlying25 rfl inf3 rfl
theorem r_fd_25_2 {w : World} {b off : Nat} : (Instr.fieldAt 25 (.pointer (some ⟨b, off, none⟩)) 2).run Try.prog w = .ok (.pointer (some ⟨b, off + 2, none⟩)) w := r_field 23 2 Try.underlying25 rfl inf23 rfl
theorem r_fd_27_0 {w : World} {b off : Nat} : (Instr.fieldAt 27 (.pointer (some ⟨b, off, none⟩)) 0).run Try.prog w = .ok (.pointer (some ⟨b, off + 0, none⟩)) w := r_field 3 0 Try.underlying27 rfl inf3 rfl
theorem r_fd_30_0 {w : World} {b off : Nat} : (Instr.fieldAt 30 (.pointer (some ⟨b, off, none⟩)) 0).run Try.prog w = .ok (.pointer (some ⟨b, off + 0, none⟩)) w := r_field 3 0 Try.underlying30 rfl inf3 rfl
theorem r_fd_30_1 {w : World} {b off : Nat} : (Instr.fieldAt 30 (.pointer (some ⟨b, off, none⟩)) 1).run Try.prog w = .ok (.pointer (some ⟨b, off + 1, none⟩)) w := r_field 3 1 Try.underlying30 rfl inf3 rfl
theorem r_fd_30_2 {w : World} {b off : Nat} : (Instr.fieldAt 30 (.pointer (some ⟨b, off, none⟩)) 2).run Try.prog w = .ok (.pointer (some ⟨b, off + 2, none⟩)) w := r_field 3 2 Try.underlying30 rfl inf3 rfl
theorem r_fd_34_0 {w : World} {b off : Nat} : (Instr.fieldAt 34 (.pointer (some ⟨b, off, none⟩)) 0).run Try.prog w = .ok (.pointer (some ⟨b, off + 0, none⟩)) w := r_field 3 0 Try.underlying34 rfl inf3 rfl
theorem r_fd_34_1 {w : World} {b off : Nat} : (Instr.fieldAt 34 (.pointer (some ⟨b, off, none⟩)) 1).run Try.prog w = .ok (.pointer (some ⟨b, off + 1, none⟩)) w := r_field 3 1 Try.underlying34 rfl inf3 rfl
theorem r_fd_36_0 {w : World} {b off : Nat} : (Instr.fieldAt 36 (.pointer (some ⟨b, off, none⟩)) 0).run Try.prog w = .ok (.pointer (some ⟨b, off + 0, none⟩)) w := r_field 3 0 Try.underlying36 rfl inf3 rfl
theorem r_fd_36_1 {w : World} {b off : Nat} : (Instr.fieldAt 36 (.pointer (some ⟨b, off, none⟩)) 1).run Try.prog w = .ok (.pointer (some ⟨b, off + 1, none⟩)) w := r_field 3 1 Try.underlying36 rfl inf3 rfl
theorem r_fd_36_2 {w : World} {b off : Nat} : (Instr.fieldAt 36 (.pointer (some ⟨b, off, none⟩)) 2).run Try.prog w = .ok (.pointer (some ⟨b, off + 2, none⟩)) w := r_field 3 2 Try.underlying36 rfl inf3 rfl
theorem r_fd_36_3 {w : World} {b off : Nat} : (Instr.fieldAt 36 (.pointer (some ⟨b, off, none⟩)) 3).run Try.prog w = .ok (.pointer (some ⟨b, off + 3, none⟩)) w := r_field 3 3 Try.underlying36 rfl inf3 rfl
theorem r_fd_38_0 {w : World} {b off : Nat} : (Instr.fieldAt 38 (.pointer (some ⟨b, off, none⟩)) 0).run Try.prog w = .ok (.pointer (some ⟨b, off + 0, none⟩)) w := r_field 3 0 Try.underlying38 rfl inf3 rfl
theorem r_fd_40_0 {w : World} {b off : Nat} : (Instr.fieldAt 40 (.pointer (some ⟨b, off, none⟩)) 0).run Try.prog w = .ok (.pointer (some ⟨b, off + 0, none⟩)) w := r_field 22 0 Try.underlying40 rfl inf22 rfl
theorem r_fd_40_1 {w : World} {b off : Nat} : (Instr.fieldAt 40 (.pointer (some ⟨b, off, none⟩)) 1).run Try.prog w = .ok (.pointer (some ⟨b, off + 1, none⟩)) w := r_field 3 1 Try.underlying40 rfl inf3 rfl
theorem r_fd_49_0 {w : World} {b off : Nat} : (Instr.fieldAt 49 (.pointer (some ⟨b, off, none⟩)) 0).run Try.prog w = .ok (.pointer (some ⟨b, off + 0, none⟩)) w := r_field 46 0 Try.underlying49 rfl inf46 rfl
theorem r_fd_49_1 {w : World} {b off : Nat} : (Instr.fieldAt 49 (.pointer (some ⟨b, off, none⟩)) 1).run Try.prog w = .ok (.pointer (some ⟨b, off + 1, none⟩)) w := r_field 47 1 Try.underlying49 rfl inf47 rfl
theorem r_fd_49_2 {w : World} {b off : Nat} : (Instr.fieldAt 49 (.pointer (some ⟨b, off, none⟩)) 2).run Try.prog w = .ok (.pointer (some ⟨b, off + 2, none⟩)) w := r_field 22 2 Try.underlying49 rfl inf22 rfl
theorem r_fd_68_0 {w : World} {b off : Nat} : (Instr.fieldAt 68 (.pointer (some ⟨b, off, none⟩)) 0).run Try.prog w = .ok (.pointer (some ⟨b, off + 0, none⟩)) w := r_field 3 0 Try.underlying68 rfl inf3 rfl
theorem r_fd_68_1 {w : World} {b off : Nat} : (Instr.fieldAt 68 (.pointer (some ⟨b, off, none⟩)) 1).run Try.prog w = .ok (.pointer (some ⟨b, off + 1, none⟩)) w := r_field 3 1 Try.underlying68 rfl inf3 rfl
theorem r_fd_68_2 {w : World} {b off : Nat} : (Instr.fieldAt 68 (.pointer (some ⟨b, off, none⟩)) 2).run Try.prog w = .ok (.pointer (some ⟨b, off + 2, none⟩)) w := r_field 3 2 Try.underlying68 rfl inf3 rfl
theorem r_fd_68_3 {w : World} {b off : Nat} : (Instr.fieldAt 68 (.pointer (some ⟨b, off, none⟩)) 3).run Try.prog w = .ok (.pointer (some ⟨b, off + 3, none⟩)) w := r_field 3 3 Try.underlying68 rfl inf3 rfl
theorem r_fd_70_0 {w : World} {b off : Nat} : (Instr.fieldAt 70 (.pointer (some ⟨b, off, none⟩)) 0).run Try.prog w = .ok (.pointer (some ⟨b, off + 0, none⟩)) w := r_field 3 0 Try.underlying70 rfl inf3 rfl
theorem r_fd_70_1 {w : World} {b off : Nat} : (Instr.fieldAt 70 (.pointer (some ⟨b, off, none⟩)) 1).run Try.prog w = .ok (.pointer (some ⟨b, off + 1, none⟩)) w := r_field 3 1 Try.underlying70 rfl inf3 rfl
theorem r_fd_72_0 {w : World} {b off : Nat} : (Instr.fieldAt 72 (.pointer (some ⟨b, off, none⟩)) 0).run Try.prog w = .ok (.pointer (some ⟨b, off + 0, none⟩)) w := r_field 3 0 Try.underlying72 rfl inf3 rfl
theorem r_fd_72_3 {w : World} {b off : Nat} : (Instr.fieldAt 72 (.pointer (some ⟨b, off, none⟩)) 3).run Try.prog w = .ok (.pointer (some ⟨b, off + 3, none⟩)) w := r_field 3 3 Try.underlying72 rfl inf3 rfl
theorem r_fd_72_4 {w : World} {b off : Nat} : (Instr.fieldAt 72 (.pointer (some ⟨b, off, none⟩)) 4).run Try.prog w = .ok (.pointer (some ⟨b, off + 4, none⟩)) w := r_field 22 4 Try.underlying72 rfl inf22 rfl
theorem r_fd_74_0 {w : World} {b off : Nat} : (Instr.fieldAt 74 (.pointer (some ⟨b, off, none⟩)) 0).run Try.prog w = .ok (.pointer (some ⟨b, off + 0, none⟩)) w := r_field 3 0 Try.underlying74 rfl inf3 rfl
theorem r_fd_74_1 {w : World} {b off : Nat} : (Instr.fieldAt 74 (.pointer (some ⟨b, off, none⟩)) 1).run Try.prog w = .ok (.pointer (some ⟨b, off + 1, none⟩)) w := r_field 3 1 Try.underlying74 rfl inf3 rfl
theorem r_fd_74_2 {w : World} {b off : Nat} : (Instr.fieldAt 74 (.pointer (some ⟨b, off, none⟩)) 2).run Try.prog w = .ok (.pointer (some ⟨b, off + 2, none⟩)) w := r_field 22 2 Try.underlying74 rfl inf22 rfl
theorem r_fd_76_0 {w : World} {b off : Nat} : (Instr.fieldAt 76 (.pointer (some ⟨b, off, none⟩)) 0).run Try.prog w = .ok (.pointer (some ⟨b, off + 0, none⟩)) w := r_field 3 0 Try.underlying76 rfl inf3 rfl
theorem r_fd_76_1 {w : World} {b off : Nat} : (Instr.fieldAt 76 (.pointer (some ⟨b, off, none⟩)) 1).run Try.prog w = .ok (.pointer (some ⟨b, off + 1, none⟩)) w := r_field 3 1 Try.underlying76 rfl inf3 rfl
theorem r_fd_76_2 {w : World} {b off : Nat} : (Instr.fieldAt 76 (.pointer (some ⟨b, off, none⟩)) 2).run Try.prog w = .ok (.pointer (some ⟨b, off + 2, none⟩)) w := r_field 22 2 Try.underlying76 rfl inf22 rfl
theorem r_fd_78_0 {w : World} {b off : Nat} : (Instr.fieldAt 78 (.pointer (some ⟨b, off, none⟩)) 0).run Try.prog w = .ok (.pointer (some ⟨b, off + 0, none⟩)) w := r_field 3 0 Try.underlying78 rfl inf3 rfl
theorem r_fd_78_1 {w : World} {b off : Nat} : (Instr.fieldAt 78 (.pointer (some ⟨b, off, none⟩)) 1).run Try.prog w = .ok (.pointer (some ⟨b, off + 1, none⟩)) w := r_field 3 1 Try.underlying78 rfl inf3 rfl
theorem r_fd_82_0 {w : World} {b off : Nat} : (Instr.fieldAt 82 (.pointer (some ⟨b, off, none⟩)) 0).run Try.prog w = .ok (.pointer (some ⟨b, off + 0, none⟩)) w := r_field 3 0 Try.underlying82 rfl inf3 rfl
theorem r_fd_82_1 {w : World} {b off : Nat} : (Instr.fieldAt 82 (.pointer (some ⟨b, off, none⟩)) 1).run Try.prog w = .ok (.pointer (some ⟨b, off + 1, none⟩)) w := r_field 3 1 Try.underlying82 rfl inf3 rfl
theorem r_fd_85_0 {w : World} {b off : Nat} : (Instr.fieldAt 85 (.pointer (some ⟨b, off, none⟩)) 0).run Try.prog w = .ok (.pointer (some ⟨b, off + 0, none⟩)) w := r_field 3 0 Try.underlying85 rfl inf3 rfl
theorem r_ix_22 {w : World} {b off len cap : Nat} {k : IntKind} {i : Int} (h0 : 0 ≤ i) (h1 : i < len) : (Instr.indexAt 22 (.slice (some ⟨b, off, none⟩) len cap) (.int k i)).run Try.prog w = .ok (.pointer (some ⟨b, off + i.toNat * 1, none⟩)) w := r_index Try.underlying22 inf3 h0 h1
theorem r_ix_23 {w : World} {b off len cap : Nat} {k : IntKind} {i : Int} (h0 : 0 ≤ i) (h1 : i < len) : (Instr.indexAt 23 (.slice (some ⟨b, off, none⟩) len cap) (.int k i)).run Try.prog w = .ok (.pointer (some ⟨b, off + i.toNat * 1, none⟩)) w := r_index Try.underlying23 inf54 h0 h1
theorem r_ix_46 {w : World} {b off len cap : Nat} {k : IntKind} {i : Int} (h0 : 0 ≤ i) (h1 : i < len) : (Instr.indexAt 46 (.slice (some ⟨b, off, none⟩) len cap) (.int k i)).run Try.prog w = .ok (.pointer (some ⟨b, off + i.toNat * 1, none⟩)) w := r_index Try.underlying46 inf47 h0 h1
theorem r_ix_47 {w : World} {b off len cap : Nat} {k : IntKind} {i : Int} (h0 : 0 ≤ i) (h1 : i < len) : (Instr.indexAt 47 (.slice (some ⟨b, off, none⟩) len cap) (.int k i)).run Try.prog w = .ok (.pointer (some ⟨b, off + i.toNat * 1, none⟩)) w := r_index Try.underlying47 inf4 h0 h1
theorem r_la_25 {w : World} {b off : Nat} {cs : List Value} (hl : cs.length = 3) (h : ∀ j (_ : j < cs.length), w.cell? ⟨b, off + j, none⟩ = cs[j]?) : (Instr.loadAt 25 (.pointer (some ⟨b, off, none⟩))).run Try.prog w = .ok (.agg cs.toArray) w := r_loadAgg Try.underlying25 rfl inf25 hl h
theorem r_la_40 {w : World} {b off : Nat} {cs : List Value} (hl : cs.length = 2) (h : ∀ j (_ : j < cs.length), w.cell? ⟨b, off + j, none⟩ = cs[j]?) : (Instr.loadAt 40 (.pointer (some ⟨b, off, none⟩))).run Try.prog w = .ok (.agg cs.toArray) w := r_loadAgg Try.underlying40 rfl inf40 hl h
theorem r_la_49 {w : World} {b off : Nat} {cs : List Value} (hl : cs.length = 3) (h : ∀ j (_ : j < cs.length), w.cell? ⟨b, off + j, none⟩ = cs[j]?) : (Instr.loadAt 49 (.pointer (some ⟨b, off, none⟩))).run Try.prog w = .ok (.agg cs.toArray) w := r_loadAgg Try.underlying49 rfl inf49 hl h
theorem r_ld_22 {w : World} {a : Addr} {v : Value} (h : w.cell? a = some v) : (Instr.loadAt 22 (.pointer (some a))).run Try.prog w = .ok v w := r_load Try.underlying22 rfl h
theorem r_ld_23 {w : World} {a : Addr} {v : Value} (h : w.cell? a = some v) : (Instr.loadAt 23 (.pointer (some a))).run Try.prog w = .ok v w := r_load Try.underlying23 rfl h
theorem r_ld_3 {w : World} {a : Addr} {v : Value} (h : w.cell? a = some v) : (Instr.loadAt 3 (.pointer (some a))).run Try.prog w = .ok v w := r_load Try.underlying3 rfl h
theorem r_ld_4 {w : World} {a : Addr} {v : Value} (h : w.cell? a = some v) : (Instr.loadAt 4 (.pointer (some a))).run Try.prog w = .ok v w := r_load Try.underlying4 rfl h
theorem r_ld_46 {w : World} {a : Addr} {v : Value} (h : w.cell? a = some v) : (Instr.loadAt 46 (.pointer (some a))).run Try.prog w = .ok v w := r_load Try.underlying46 rfl h
theorem r_ld_47 {w : World} {a : Addr} {v : Value} (h : w.cell? a = some v) : (Instr.loadAt 47 (.pointer (some a))).run Try.prog w = .ok v w := r_load Try.underlying47 rfl h
theorem r_ld_54 {w : World} {a : Addr} {v : Value} (h : w.cell? a = some v) : (Instr.loadAt 54 (.pointer (some a))).run Try.prog w = .ok v w := r_load Try.underlying54 rfl h
theorem r_sn_25 {w : World} {t' : TypeId} {old : Array Value} {v : Value} (hn : v.cells.size = 3) (ho : old.size = 3) (h1 : ∀ u ∈ v.cells.toList, oneC u = true) : (Instr.storeAt 25 (.pointer (some ⟨w.heap.size, 0, none⟩)) v).run Try.prog (w.alloc (.cells old t')) = .ok () (w.alloc (.cells v.cells t')) := r_storeNew inf25 hn ho h1
theorem r_sn_27 {w : World} {t' : TypeId} {old : Array Value} {v : Value} (hn : v.cells.size = 2) (ho : old.size = 2) (h1 : ∀ u ∈ v.cells.toList, oneC u = true) : (Instr.storeAt 27 (.pointer (some ⟨w.heap.size, 0, none⟩)) v).run Try.prog (w.alloc (.cells old t')) = .ok () (w.alloc (.cells v.cells t')) := r_storeNew inf27 hn ho h1
theorem r_sn_30 {w : World} {t' : TypeId} {old : Array Value} {v : Value} (hn : v.cells.size = 3) (ho : old.size = 3) (h1 : ∀ u ∈ v.cells.toList, oneC u = true) : (Instr.storeAt 30 (.pointer (some ⟨w.heap.size, 0, none⟩)) v).run Try.prog (w.alloc (.cells old t')) = .ok () (w.alloc (.cells v.cells t')) := r_storeNew inf30 hn ho h1
theorem r_sn_34 {w : World} {t' : TypeId} {old : Array Value} {v : Value} (hn : v.cells.size = 2) (ho : old.size = 2) (h1 : ∀ u ∈ v.cells.toList, oneC u = true) : (Instr.storeAt 34 (.pointer (some ⟨w.heap.size, 0, none⟩)) v).run Try.prog (w.alloc (.cells old t')) = .ok () (w.alloc (.cells v.cells t')) := r_storeNew inf34 hn ho h1
theorem r_sn_36 {w : World} {t' : TypeId} {old : Array Value} {v : Value} (hn : v.cells.size = 4) (ho : old.size = 4) (h1 : ∀ u ∈ v.cells.toList, oneC u = true) : (Instr.storeAt 36 (.pointer (some ⟨w.heap.size, 0, none⟩)) v).run Try.prog (w.alloc (.cells old t')) = .ok () (w.alloc (.cells v.cells t')) := r_storeNew inf36 hn ho h1
theorem r_sn_38 {w : World} {t' : TypeId} {old : Array Value} {v : Value} (hn : v.cells.size = 1) (ho : old.size = 1) (h1 : ∀ u ∈ v.cells.toList, oneC u = true) : (Instr.storeAt 38 (.pointer (some ⟨w.heap.size, 0, none⟩)) v).run Try.prog (w.alloc (.cells old t')) = .ok () (w.alloc (.cells v.cells t')) := r_storeNew inf38 hn ho h1
theorem r_sn_40 {w : World} {t' : TypeId} {old : Array Value} {v : Value} (hn : v.cells.size = 2) (ho : old.size = 2) (h1 : ∀ u ∈ v.cells.toList, oneC u = true) : (Instr.storeAt 40 (.pointer (some ⟨w.heap.size, 0, none⟩)) v).run Try.prog (w.alloc (.cells old t')) = .ok () (w.alloc (.cells v.cells t')) := r_storeNew inf40 hn ho h1
theorem r_sn_49 {w : World} {t' : TypeId} {old : Array Value} {v : Value} (hn : v.cells.size = 3) (ho : old.size = 3) (h1 : ∀ u ∈ v.cells.toList, oneC u = true) : (Instr.storeAt 49 (.pointer (some ⟨w.heap.size, 0, none⟩)) v).run Try.prog (w.alloc (.cells old t')) = .ok () (w.alloc (.cells v.cells t')) := r_storeNew inf49 hn ho h1
theorem r_sn_68 {w : World} {t' : TypeId} {old : Array Value} {v : Value} (hn : v.cells.size = 4) (ho : old.size = 4) (h1 : ∀ u ∈ v.cells.toList, oneC u = true) : (Instr.storeAt 68 (.pointer (some ⟨w.heap.size, 0, none⟩)) v).run Try.prog (w.alloc (.cells old t')) = .ok () (w.alloc (.cells v.cells t')) := r_storeNew inf68 hn ho h1
theorem r_sn_70 {w : World} {t' : TypeId} {old : Array Value} {v : Value} (hn : v.cells.size = 2) (ho : old.size = 2) (h1 : ∀ u ∈ v.cells.toList, oneC u = true) : (Instr.storeAt 70 (.pointer (some ⟨w.heap.size, 0, none⟩)) v).run Try.prog (w.alloc (.cells old t')) = .ok () (w.alloc (.cells v.cells t')) := r_storeNew inf70 hn ho h1
theorem r_sn_72 {w : World} {t' : TypeId} {old : Array Value} {v : Value} (hn : v.cells.size = 5) (ho : old.size = 5) (h1 : ∀ u ∈ v.cells.toList, oneC u = true) : (Instr.storeAt 72 (.pointer (some ⟨w.heap.size, 0, none⟩)) v).run Try.prog (w.alloc (.cells old t')) = .ok () (w.alloc (.cells v.cells t')) := r_storeNew inf72 hn ho h1
theorem r_sn_74 {w : World} {t' : TypeId} {old : Array Value} {v : Value} (hn : v.cells.size = 3) (ho : old.size = 3) (h1 : ∀ u ∈ v.cells.toList, oneC u = true) : (Instr.storeAt 74 (.pointer (some ⟨w.heap.size, 0, none⟩)) v).run Try.prog (w.alloc (.cells old t')) = .ok () (w.alloc (.cells v.cells t')) := r_storeNew inf74 hn ho h1
theorem r_sn_76 {w : World} {t' : TypeId} {old : Array Value} {v : Value} (hn : v.cells.size = 3) (ho : old.size = 3) (h1 : ∀ u ∈ v.cells.toList, oneC u = true) : (Instr.storeAt 76 (.pointer (some ⟨w.heap.size, 0, none⟩)) v).run Try.prog (w.alloc (.cells old t')) = .ok () (w.alloc (.cells v.cells t')) := r_storeNew inf76 hn ho h1
theorem r_sn_78 {w : World} {t' : TypeId} {old : Array Value} {v : Value} (hn : v.cells.size = 2) (ho : old.size = 2) (h1 : ∀ u ∈ v.cells.toList, oneC u = true) : (Instr.storeAt 78 (.pointer (some ⟨w.heap.size, 0, none⟩)) v).run Try.prog (w.alloc (.cells old t')) = .ok () (w.alloc (.cells v.cells t')) := r_storeNew inf78 hn ho h1
theorem r_sn_82 {w : World} {t' : TypeId} {old : Array Value} {v : Value} (hn : v.cells.size = 2) (ho : old.size = 2) (h1 : ∀ u ∈ v.cells.toList, oneC u = true) : (Instr.storeAt 82 (.pointer (some ⟨w.heap.size, 0, none⟩)) v).run Try.prog (w.alloc (.cells old t')) = .ok () (w.alloc (.cells v.cells t')) := r_storeNew inf82 hn ho h1
theorem r_sn_85 {w : World} {t' : TypeId} {old : Array Value} {v : Value} (hn : v.cells.size = 1) (ho : old.size = 1) (h1 : ∀ u ∈ v.cells.toList, oneC u = true) : (Instr.storeAt 85 (.pointer (some ⟨w.heap.size, 0, none⟩)) v).run Try.prog (w.alloc (.cells old t')) = .ok () (w.alloc (.cells v.cells t')) := r_storeNew inf85 hn ho h1
theorem U_st_22 {w : World} {b off : Nat} {v : Value} {K : Value → World → Prop} (hv : oneC v = true) (h : (w.cell? ⟨b, off, none⟩).isSome = true) (hf : w.frozen? ⟨b, off, none⟩ = false) : U Try.prog (Instr.storeAt 22 (.pointer (some ⟨b, off, none⟩)) v) w K ↔ K undef (w.setCell ⟨b, off, none⟩ v) := V_store inf22 hv h hf
theorem U_st_23 {w : World} {b off : Nat} {v : Value} {K : Value → World → Prop} (hv : oneC v = true) (h : (w.cell? ⟨b, off, none⟩).isSome = true) (hf : w.frozen? ⟨b, off, none⟩ = false) : U Try.prog (Instr.storeAt 23 (.pointer (some ⟨b, off, none⟩)) v) w K ↔ K undef (w.setCell ⟨b, off, none⟩ v) := V_store inf23 hv h hf
theorem U_st_3 {w : World} {b off : Nat} {v : Value} {K : Value → World → Prop} (hv : oneC v = true) (h : (w.cell? ⟨b, off, none⟩).isSome = true) (hf : w.frozen? ⟨b, off, none⟩ = false) : U Try.prog (Instr.storeAt 3 (.pointer (some ⟨b, off, none⟩)) v) w K ↔ K undef (w.setCell ⟨b, off, none⟩ v) := V_store inf3 hv h hf
theorem U_st_4 {w : World} {b off : Nat} {v : Value} {K : Value → World → Prop} (hv : oneC v = true) (h : (w.cell? ⟨b, off, none⟩).isSome = true) (hf : w.frozen? ⟨b, off, none⟩ = false) : U Try.prog (Instr.storeAt 4 (.pointer (some ⟨b, off, none⟩)) v) w K ↔ K undef (w.setCell ⟨b, off, none⟩ v) := V_store inf4 hv h hf
theorem U_st_47 {w : World} {b off : Nat} {v : Value} {K : Value → World → Prop} (hv : oneC v = true) (h : (w.cell? ⟨b, off, none⟩).isSome = true) (hf : w.frozen? ⟨b, off, none⟩ = false) : U Try.prog (Instr.storeAt 47 (.pointer (some ⟨b, off, none⟩)) v) w K ↔ K undef (w.setCell ⟨b, off, none⟩ v) := V_store inf47 hv h hf
theorem V_al_25 {w : World} {K : Value → World → Prop} : V Try.prog (Instr.alloc 25 true (.tuple #[])) w K ↔ K (.pointer (some ⟨w.heap.size, 0, none⟩)) (w.alloc (.cells (Value.cells (.agg #[(.int .i64 0), (.int .i64 0), (.slice none 0 0)])) 25)) := V.iff (r_alloc inf25)
theorem V_al_27 {w : World} {K : Value → World → Prop} : V Try.prog (Instr.alloc 27 true (.tuple #[])) w K ↔ K (.pointer (some ⟨w.heap.size, 0, none⟩)) (w.alloc (.cells (Value.cells (.agg #[(.int .i64 0), (.int .i32 0)])) 27)) := V.iff (r_alloc inf27)
theorem V_al_30 {w : World} {K : Value → World → Prop} : V Try.prog (Instr.alloc 30 true (.tuple #[])) w K ↔ K (.pointer (some ⟨w.heap.size, 0, none⟩)) (w.alloc (.cells (Value.cells (.agg #[(.int .i64 0), (.int .i64 0), (.int .i64 0)])) 30)) := V.iff (r_alloc inf30)
theorem V_al_34 {w : World} {K : Value → World → Prop} : V Try.prog (Instr.alloc 34 true (.tuple #[])) w K ↔ K (.pointer (some ⟨w.heap.size, 0, none⟩)) (w.alloc (.cells (Value.cells (.agg #[(.int .i64 0), (.int .i64 0)])) 34)) := V.iff (r_alloc inf34)
theorem V_al_36 {w : World} {K : Value → World → Prop} : V Try.prog (Instr.alloc 36 true (.tuple #[])) w K ↔ K (.pointer (some ⟨w.heap.size, 0, none⟩)) (w.alloc (.cells (Value.cells (.agg #[(.int .i64 0), (.int .i64 0), (.int .i64 0), (.int .i64 0)])) 36)) := V.iff (r_alloc inf36)
theorem V_al_38 {w : World} {K : Value → World → Prop} : V Try.prog (Instr.alloc 38 true (.tuple #[])) w K ↔ K (.pointer (some ⟨w.heap.size, 0, none⟩)) (w.alloc (.cells (Value.cells (.agg #[(.int .i64 0)])) 38)) := V.iff (r_alloc inf38)
theorem V_al_40 {w : World} {K : Value → World → Prop} : V Try.prog (Instr.alloc 40 true (.tuple #[])) w K ↔ K (.pointer (some ⟨w.heap.size, 0, none⟩)) (w.alloc (.cells (Value.cells (.agg #[(.slice none 0 0), (.int .i64 0)])) 40)) := V.iff (r_alloc inf40)
theorem V_al_47 {w : World} {K : Value → World → Prop} : V Try.prog (Instr.alloc 47 true (.tuple #[])) w K ↔ K (.pointer (some ⟨w.heap.size, 0, none⟩)) (w.alloc (.cells (Value.cells (.slice none 0 0)) 47)) := V.iff (r_alloc inf47)
theorem V_al_49 {w : World} {K : Value → World → Prop} : V Try.prog (Instr.alloc 49 true (.tuple #[])) w K ↔ K (.pointer (some ⟨w.heap.size, 0, none⟩)) (w.alloc (.cells (Value.cells (.agg #[(.slice none 0 0), (.slice none 0 0), (.slice none 0 0)])) 49)) := V.iff (r_alloc inf49)
theorem V_al_68 {w : World} {K : Value → World → Prop} : V Try.prog (Instr.alloc 68 true (.tuple #[])) w K ↔ K (.pointer (some ⟨w.heap.size, 0, none⟩)) (w.alloc (.cells (Value.cells (.agg #[(.int .i64 0), (.int .i64 0), (.int .i64 0), (.int .i64 0)])) 68)) := V.iff (r_alloc inf68)
theorem V_al_70 {w : World} {K : Value → World → Prop} : V Try.prog (Instr.alloc 70 true (.tuple #[])) w K ↔ K (.pointer (some ⟨w.heap.size, 0, none⟩)) (w.alloc (.cells (Value.cells (.agg #[(.int .i64 0), (.int .i64 0)])) 70)) := V.iff (r_alloc inf70)
theorem V_al_72 {w : World} {K : Value → World → Prop} : V Try.prog (Instr.alloc 72 true (.tuple #[])) w K ↔ K (.pointer (some ⟨w.heap.size, 0, none⟩)) (w.alloc (.cells (Value.cells (.agg #[(.int .i64 0), (.int .i64 0), (.int .i64 0), (.int .i64 0), (.slice none 0 0)])) 72)) := V.iff (r_alloc inf72)
theorem V_al_74 {w : World} {K : Value → World → Prop} : V Try.prog (Instr.alloc 74 true (.tuple #[])) w K ↔ K (.pointer (some ⟨w.heap.size, 0, none⟩)) (w.alloc (.cells (Value.cells (.agg #[(.int .i64 0), (.int .i64 0), (.slice none 0 0)])) 74)) := V.iff (r_alloc inf74)
theorem V_al_76 {w : World} {K : Value → World → Prop} : V Try.prog (Instr.alloc 76 true (.tuple #[])) w K ↔ K (.pointer (some ⟨w.heap.size, 0, none⟩)) (w.alloc (.cells (Value.cells (.agg #[(.int .i64 0), (.int .i64 0), (.slice none 0 0)])) 76)) := V.iff (r_alloc inf76)
theorem V_al_78 {w : World} {K : Value → World → Prop} : V Try.prog (Instr.alloc 78 true (.tuple #[])) w K ↔ K (.pointer (some ⟨w.heap.size, 0, none⟩)) (w.alloc (.cells (Value.cells (.agg #[(.int .i64 0), (.int .i64 0)])) 78)) := V.iff (r_alloc inf78)
theorem V_al_82 {w : World} {K : Value → World → Prop} : V Try.prog (Instr.alloc 82 true (.tuple #[])) w K ↔ K (.pointer (some ⟨w.heap.size, 0, none⟩)) (w.alloc (.cells (Value.cells (.agg #[(.int .i64 0), (.int .i64 0)])) 82)) := V.iff (r_alloc inf82)
theorem V_al_85 {w : World} {K : Value → World → Prop} : V Try.prog (Instr.alloc 85 true (.tuple #[])) w K ↔ K (.pointer (some ⟨w.heap.size, 0, none⟩)) (w.alloc (.cells (Value.cells (.agg #[(.int .i64 0)])) 85)) := V.iff (r_alloc inf85)
theorem V_as_25 {w : World} {v : Value} {K : Value → World → Prop} (hn : v.cells.size = 3) (h1 : ∀ u ∈ v.cells.toList, oneC u = true) : V Try.prog (Instr.alloc 25 true (.tuple #[])) w (fun p w1 => U Try.prog (Instr.storeAt 25 p v) w1 fun _ w2 => K p w2) ↔ K (.pointer (some ⟨w.heap.size, 0, none⟩)) (w.alloc (.cells v.cells 25)) := V_allocStore inf25 (by decide) hn h1
theorem V_as_27 {w : World} {v : Value} {K : Value → World → Prop} (hn : v.cells.size = 2) (h1 : ∀ u ∈ v.cells.toList, oneC u = true) : V Try.prog (Instr.alloc 27 true (.tuple #[])) w (fun p w1 => U Try.prog (Instr.storeAt 27 p v) w1 fun _ w2 => K p w2) ↔ K (.pointer (some ⟨w.heap.size, 0, none⟩)) (w.alloc (.cells v.cells 27)) := V_allocStore inf27 (by decide) hn h1
theorem V_as_30 {w : World} {v : Value} {K : Value → World → Prop} (hn : v.cells.size = 3) (h1 : ∀ u ∈ v.cells.toList, oneC u = true) : V Try.prog (Instr.alloc 30 true (.tuple #[])) w (fun p w1 => U Try.prog (Instr.storeAt 30 p v) w1 fun _ w2 => K p w2) ↔ K (.pointer (some ⟨w.heap.size, 0, none⟩)) (w.alloc (.cells v.cells 30)) := V_allocStore inf30 (by decide) hn h1
theorem V_as_34 {w : World} {v : Value} {K : Value → World → Prop} (hn : v.cells.size = 2) (h1 : ∀ u ∈ v.cells.toList, oneC u = true) : V Try.prog (Instr.alloc 34 true (.tuple #[])) w (fun p w1 => U Try.prog (Instr.storeAt 34 p v) w1 fun _ w2 => K p w2) ↔ K (.pointer (some ⟨w.heap.size, 0, none⟩)) (w.alloc (.cells v.cells 34)) := V_allocStore inf34 (by decide) hn h1
theorem V_as_36 {w : World} {v : Value} {K : Value → World → Prop} (hn : v.cells.size = 4) (h1 : ∀ u ∈ v.cells.toList, oneC u = true) : V Try.prog (Instr.alloc 36 true (.tuple #[])) w (fun p w1 => U Try.prog (Instr.storeAt 36 p v) w1 fun _ w2 => K p w2) ↔ K (.pointer (some ⟨w.heap.size, 0, none⟩)) (w.alloc (.cells v.cells 36)) := V_allocStore inf36 (by decide) hn h1
theorem V_as_38 {w : World} {v : Value} {K : Value → World → Prop} (hn : v.cells.size = 1) (h1 : ∀ u ∈ v.cells.toList, oneC u = true) : V Try.prog (Instr.alloc 38 true (.tuple #[])) w (fun p w1 => U Try.prog (Instr.storeAt 38 p v) w1 fun _ w2 => K p w2) ↔ K (.pointer (some ⟨w.heap.size, 0, none⟩)) (w.alloc (.cells v.cells 38)) := V_allocStore inf38 (by decide) hn h1
theorem V_as_40 {w : World} {v : Value} {K : Value → World → Prop} (hn : v.cells.size = 2) (h1 : ∀ u ∈ v.cells.toList, oneC u = true) : V Try.prog (Instr.alloc 40 true (.tuple #[])) w (fun p w1 => U Try.prog (Instr.storeAt 40 p v) w1 fun _ w2 => K p w2) ↔ K (.pointer (some ⟨w.heap.size, 0, none⟩)) (w.alloc (.cells v.cells 40)) := V_allocStore inf40 (by decide) hn h1
theorem V_as_49 {w : World} {v : Value} {K : Value → World → Prop} (hn : v.cells.size = 3) (h1 : ∀ u ∈ v.cells.toList, oneC u = true) : V Try.prog (Instr.alloc 49 true (.tuple #[])) w (fun p w1 => U Try.prog (Instr.storeAt 49 p v) w1 fun _ w2 => K p w2) ↔ K (.pointer (some ⟨w.heap.size, 0, none⟩)) (w.alloc (.cells v.cells 49)) := V_allocStore inf49 (by decide) hn h1
theorem V_as_68 {w : World} {v : Value} {K : Value → World → Prop} (hn : v.cells.size = 4) (h1 : ∀ u ∈ v.cells.toList, oneC u = true) : V Try.prog (Instr.alloc 68 true (.tuple #[])) w (fun p w1 => U Try.prog (Instr.storeAt 68 p v) w1 fun _ w2 => K p w2) ↔ K (.pointer (some ⟨w.heap.size, 0, none⟩)) (w.alloc (.cells v.cells 68)) := V_allocStore inf68 (by decide) hn h1
theorem V_as_70 {w : World} {v : Value} {K : Value → World → Prop} (hn : v.cells.size = 2) (h1 : ∀ u ∈ v.cells.toList, oneC u = true) : V Try.prog (Instr.alloc 70 true (.tuple #[])) w (fun p w1 => U Try.prog (Instr.storeAt 70 p v) w1 fun _ w2 => K p w2) ↔ K (.pointer (some ⟨w.heap.size, 0, none⟩)) (w.alloc (.cells v.cells 70)) := V_allocStore inf70 (by decide) hn h1
theorem V_as_72 {w : World} {v : Value} {K : Value → World → Prop} (hn : v.cells.size = 5) (h1 : ∀ u ∈ v.cells.toList, oneC u = true) : V Try.prog (Instr.alloc 72 true (.tuple #[])) w (fun p w1 => U Try.prog (Instr.storeAt 72 p v) w1 fun _ w2 => K p w2) ↔ K (.pointer (some ⟨w.heap.size, 0, none⟩)) (w.alloc (.cells v.cells 72)) := V_allocStore inf72 (by decide) hn h1
theorem V_as_74 {w : World} {v : Value} {K : Value → World → Prop} (hn : v.cells.size = 3) (h1 : ∀ u ∈ v.cells.toList, oneC u = true) : V Try.prog (Instr.alloc 74 true (.tuple #[])) w (fun p w1 => U Try.prog (Instr.storeAt 74 p v) w1 fun _ w2 => K p w2) ↔ K (.pointer (some ⟨w.heap.size, 0, none⟩)) (w.alloc (.cells v.cells 74)) := V_allocStore inf74 (by decide) hn h1
theorem V_as_76 {w : World} {v : Value} {K : Value → World → Prop} (hn : v.cells.size = 3) (h1 : ∀ u ∈ v.cells.toList, oneC u = true) : V Try.prog (Instr.alloc 76 true (.tuple #[])) w (fun p w1 => U Try.prog (Instr.storeAt 76 p v) w1 fun _ w2 => K p w2) ↔ K (.pointer (some ⟨w.heap.size, 0, none⟩)) (w.alloc (.cells v.cells 76)) := V_allocStore inf76 (by decide) hn h1
theorem V_as_78 {w : World} {v : Value} {K : Value → World → Prop} (hn : v.cells.size = 2) (h1 : ∀ u ∈ v.cells.toList, oneC u = true) : V Try.prog (Instr.alloc 78 true (.tuple #[])) w (fun p w1 => U Try.prog (Instr.storeAt 78 p v) w1 fun _ w2 => K p w2) ↔ K (.pointer (some ⟨w.heap.size, 0, none⟩)) (w.alloc (.cells v.cells 78)) := V_allocStore inf78 (by decide) hn h1
theorem V_as_82 {w : World} {v : Value} {K : Value → World → Prop} (hn : v.cells.size = 2) (h1 : ∀ u ∈ v.cells.toList, oneC u = true) : V Try.prog (Instr.alloc 82 true (.tuple #[])) w (fun p w1 => U Try.prog (Instr.storeAt 82 p v) w1 fun _ w2 => K p w2) ↔ K (.pointer (some ⟨w.heap.size, 0, none⟩)) (w.alloc (.cells v.cells 82)) := V_allocStore inf82 (by decide) hn h1
theorem V_as_85 {w : World} {v : Value} {K : Value → World → Prop} (hn : v.cells.size = 1) (h1 : ∀ u ∈ v.cells.toList, oneC u = true) : V Try.prog (Instr.alloc 85 true (.tuple #[])) w (fun p w1 => U Try.prog (Instr.storeAt 85 p v) w1 fun _ w2 => K p w2) ↔ K (.pointer (some ⟨w.heap.size, 0, none⟩)) (w.alloc (.cells v.cells 85)) := V_allocStore inf85 (by decide) hn h1
theorem V_bs_22_0 {w : World} {K : Value → World → Prop} : V Try.prog (Instr.buildSlice 22 0 #[]) w K ↔ K (.slice (some ⟨w.heap.size, 0, none⟩) 0 0) (w.alloc (.cells #[] 3)) := V.iff (r_buildSlice Try.underlying22 inf3 rfl [] (by simp) (by simp))
theorem V_bs_22_1 {w : World} {v0 : Value} {K : Value → World → Prop} (h0 : oneC v0 = true) : V Try.prog (Instr.buildSlice 22 1 #[(0, v0)]) w K ↔ K (.slice (some ⟨w.heap.size, 0, none⟩) 1 1) (w.alloc (.cells #[v0] 3)) := V.iff (r_buildSlice Try.underlying22 inf3 rfl [v0] (by simp) (by simp [h0]))
theorem V_bs_22_2 {w : World} {v0 v1 : Value} {K : Value → World → Prop} (h0 : oneC v0 = true) (h1 : oneC v1 = true) : V Try.prog (Instr.buildSlice 22 2 #[(0, v0), (1, v1)]) w K ↔ K (.slice (some ⟨w.heap.size, 0, none⟩) 2 2) (w.alloc (.cells #[v0, v1] 3)) := V.iff (r_buildSlice Try.underlying22 inf3 rfl [v0, v1] (by simp) (by simp [h0, h1]))
theorem V_bs_22_3 {w : World} {v0 v1 v2 : Value} {K : Value → World → Prop} (h0 : oneC v0 = true) (h1 : oneC v1 = true) (h2 : oneC v2 = true) : V Try.prog (Instr.buildSlice 22 3 #[(0, v0), (1, v1), (2, v2)]) w K ↔ K (.slice (some ⟨w.heap.size, 0, none⟩) 3 3) (w.alloc (.cells #[v0, v1, v2] 3)) := V.iff (r_buildSlice Try.underlying22 inf3 rfl [v0, v1, v2] (by simp) (by simp [h0, h1, h2]))
theorem V_bs_23_1 {w : World} {v0 : Value} {K : Value → World → Prop} (h0 : oneC v0 = true) : V Try.prog (Instr.buildSlice 23 1 #[(0, v0)]) w K ↔ K (.slice (some ⟨w.heap.size, 0, none⟩) 1 1) (w.alloc (.cells #[v0] 54)) := V.iff (r_buildSlice Try.underlying23 inf54 rfl [v0] (by simp) (by simp [h0]))
theorem V_bs_23_2 {w : World} {v0 v1 : Value} {K : Value → World → Prop} (h0 : oneC v0 = true) (h1 : oneC v1 = true) : V Try.prog (Instr.buildSlice 23 2 #[(0, v0), (1, v1)]) w K ↔ K (.slice (some ⟨w.heap.size, 0, none⟩) 2 2) (w.alloc (.cells #[v0, v1] 54)) := V.iff (r_buildSlice Try.underlying23 inf54 rfl [v0, v1] (by simp) (by simp [h0, h1]))
theorem V_bs_23_4 {w : World} {v0 v1 v2 v3 : Value} {K : Value → World → Prop} (h0 : oneC v0 = true) (h1 : oneC v1 = true) (h2 : oneC v2 = true) (h3 : oneC v3 = true) : V Try.prog (Instr.buildSlice 23 4 #[(0, v0), (1, v1), (2, v2), (3, v3)]) w K ↔ K (.slice (some ⟨w.heap.size, 0, none⟩) 4 4) (w.alloc (.cells #[v0, v1, v2, v3] 54)) := V.iff (r_buildSlice Try.underlying23 inf54 rfl [v0, v1, v2, v3] (by simp) (by simp [h0, h1, h2, h3]))
theorem V_bs_47_0 {w : World} {K : Value → World → Prop} : V Try.prog (Instr.buildSlice 47 0 #[]) w K ↔ K (.slice (some ⟨w.heap.size, 0, none⟩) 0 0) (w.alloc (.cells #[] 4)) := V.iff (r_buildSlice Try.underlying47 inf4 rfl [] (by simp) (by simp))
theorem V_bx_25 {w : World} {v : Value} {K : Value → World → Prop} : V Try.prog (Instr.box 25 v) w K ↔ K (.pointer (some ⟨w.heap.size, 0, none⟩)) (w.alloc (.cells v.cells 25)) := V.iff r_box
theorem V_bx_40 {w : World} {v : Value} {K : Value → World → Prop} : V Try.prog (Instr.box 40 v) w K ↔ K (.pointer (some ⟨w.heap.size, 0, none⟩)) (w.alloc (.cells v.cells 40)) := V.iff r_box
theorem V_bx_49 {w : World} {v : Value} {K : Value → World → Prop} : V Try.prog (Instr.box 49 v) w K ↔ K (.pointer (some ⟨w.heap.size, 0, none⟩)) (w.alloc (.cells v.cells 49)) := V.iff r_box
theorem V_cv_3_21 {w : World} {k : IntKind} {n : Int} {K : Value → World → Prop} : V Try.prog (convert 3 21 (.int k n)) w K ↔ K (.int .i32 (IntKind.wrap .i32 n)) w := V.iff (r_convI Try.underlying3 Try.underlying21)
theorem V_eqni_54 {w : World} {x y : Operand} {t : TypeId} {v : Value} {K : Value → World → Prop} : V Try.prog (do eqGuard .eql 54 x y (.iface t v) .nilIface; binOp .eql 54 (.iface t v) .nilIface) w K ↔ K (.bool false) w := V.iff (r_eqNilIface Try.underlying54)
theorem V_eqnn_54 {w : World} {x : Operand} {c : Value} {K : Value → World → Prop} : V Try.prog (do eqGuard .eql 54 x (.const c) .nilIface .nilIface; binOp .eql 54 .nilIface .nilIface) w K ↔ K (.bool true) w := V.iff (r_eqNilNil Try.underlying54)
theorem V_eqns_22 {w : World} {x y : Operand} {a : Option Addr} {n c : Nat} {K : Value → World → Prop} : V Try.prog (do eqGuard .eql 22 x y (.slice a n c) (.slice none 0 0); binOp .eql 22 (.slice a n c) (.slice none 0 0)) w K ↔ K (.bool a.isNone) w := V.iff (r_eqNilSlice Try.underlying22)
theorem V_eqns_47 {w : World} {x y : Operand} {a : Option Addr} {n c : Nat} {K : Value → World → Prop} : V Try.prog (do eqGuard .eql 47 x y (.slice a n c) (.slice none 0 0); binOp .eql 47 (.slice a n c) (.slice none 0 0)) w K ↔ K (.bool a.isNone) w := V.iff (r_eqNilSlice Try.underlying47)
theorem V_fd_25_0 {w : World} {b off : Nat} {K : Value → World → Prop} : V Try.prog (Instr.fieldAt 25 (.pointer (some ⟨b, off, none⟩)) 0) w K ↔ K (.pointer (some ⟨b, off + 0, none⟩)) w := V.iff (r_fd_25_0)
theorem V_fd_25_1 {w : World} {b off : Nat} {K : Value → World → Prop} : V Try.prog (Instr.fieldAt 25 (.pointer (some ⟨b, off, none⟩)) 1) w K ↔ K (.pointer (some ⟨b, off + 1, none⟩)) w := V.iff (r_fd_25_1)
theorem V_fd_25_2 {w : World} {b off : Nat} {K : Value → World → Prop} : V Try.prog (Instr.fieldAt 25 (.pointer (some ⟨b, off, none⟩)) 2) w K ↔ K (.pointer (some ⟨b, off + 2, none⟩)) w := V.iff (r_fd_25_2)
theorem V_fd_27_0 {w : World} {b off : Nat} {K : Value → World → Prop} : V Try.prog (Instr.fieldAt 27 (.pointer (some ⟨b, off, none⟩)) 0) w K ↔ K (.pointer (some ⟨b, off + 0, none⟩)) w := V.iff (r_fd_27_0)
theorem V_fd_30_0 {w : World} {b off : Nat} {K : Value → World → Prop} : V Try.prog (Instr.fieldAt 30 (.pointer (some ⟨b, off, none⟩)) 0) w K ↔ K (.pointer (some ⟨b, off + 0, none⟩)) w := V.iff (r_fd_30_0)
theorem V_fd_30_1 {w : World} {b off : Nat} {K : Value → World → Prop} : V Try.prog (Instr.fieldAt 30 (.pointer (some ⟨b, off, none⟩)) 1) w K ↔ K (.pointer (some ⟨b, off + 1, none⟩)) w := V.iff (r_fd_30_1)
theorem V_fd_30_2 {w : World} {b off : Nat} {K : Value → World → Prop} : V Try.prog (Instr.fieldAt 30 (.pointer (some ⟨b, off, none⟩)) 2) w K ↔ K (.pointer (some ⟨b, off + 2, none⟩)) w := V.iff (r_fd_30_2)
theorem V_fd_34_0 {w : World} {b off : Nat} {K : Value → World → Prop} : V Try.prog (Instr.fieldAt 34 (.pointer (some ⟨b, off, none⟩)) 0) w K ↔ K (.pointer (some ⟨b, off + 0, none⟩)) w := V.iff (r_fd_34_0)
theorem V_fd_34_1 {w : World} {b off : Nat} {K : Value → World → Prop} : V Try.prog (Instr.fieldAt 34 (.pointer (some ⟨b, off, none⟩)) 1) w K ↔ K (.pointer (some ⟨b, off + 1, none⟩)) w := V.iff (r_fd_34_1)
theorem V_fd_36_0 {w : World} {b off : Nat} {K : Value → World → Prop} : V Try.prog (Instr.fieldAt 36 (.pointer (some ⟨b, off, none⟩)) 0) w K ↔ K (.pointer (some ⟨b, off + 0, none⟩)) w := V.iff (r_fd_36_0)
theorem V_fd_36_1 {w : World} {b off : Nat} {K : Value → World → Prop} : V Try.prog (Instr.fieldAt 36 (.pointer (some ⟨b, off, none⟩)) 1) w K ↔ K (.pointer (some ⟨b, off + 1, none⟩)) w := V.iff (r_fd_36_1)
theorem V_fd_36_2 {w : World} {b off : Nat} {K : Value → World → Prop} : V Try.prog (Instr.fieldAt 36 (.pointer (some ⟨b, off, none⟩)) 2) w K ↔ K (.pointer (some ⟨b, off + 2, none⟩)) w := V.iff (r_fd_36_2)
theorem V_fd_36_3 {w : World} {b off : Nat} {K : Value → World → Prop} : V Try.prog (Instr.fieldAt 36 (.pointer (some ⟨b, off, none⟩)) 3) w K ↔ K (.pointer (some ⟨b, off + 3, none⟩)) w := V.iff (r_fd_36_3)
theorem V_fd_38_0 {w : World} {b off : Nat} {K : Value → World → Prop} : V Try.prog (Instr.fieldAt 38 (.pointer (some ⟨b, off, none⟩)) 0) w K ↔ K (.pointer (some ⟨b, off + 0, none⟩)) w := V.iff (r_fd_38_0)
theorem V_fd_40_0 {w : World} {b off : Nat} {K : Value → World → Prop} : V Try.prog (Instr.fieldAt 40 (.pointer (some ⟨b, off, none⟩)) 0) w K ↔ K (.pointer (some ⟨b, off + 0, none⟩)) w := V.iff (r_fd_40_0)
theorem V_fd_40_1 {w : World} {b off : Nat} {K : Value → World → Prop} : V Try.prog (Instr.fieldAt 40 (.pointer (some ⟨b, off, none⟩)) 1) w K ↔ K (.pointer (some ⟨b, off + 1, none⟩)) w := V.iff (r_fd_40_1)
theorem V_fd_49_0 {w : World} {b off : Nat} {K : Value → World → Prop} : V Try.prog (Instr.fieldAt 49 (.pointer (some ⟨b, off, none⟩)) 0) w K ↔ K (.pointer (some ⟨b, off + 0, none⟩)) w := V.iff (r_fd_49_0)
theorem V_fd_49_1 {w : World} {b off : Nat} {K : Value → World → Prop} : V Try.prog (Instr.fieldAt 49 (.pointer (some ⟨b, off, none⟩)) 1) w K ↔ K (.pointer (some ⟨b, off + 1, none⟩)) w := V.iff (r_fd_49_1)
theorem V_fd_49_2 {w : World} {b off : Nat} {K : Value → World → Prop} : V Try.prog (Instr.fieldAt 49 (.pointer (some ⟨b, off, none⟩)) 2) w K ↔ K (.pointer (some ⟨b, off + 2, none⟩)) w := V.iff (r_fd_49_2)
theorem V_fd_68_0 {w : World} {b off : Nat} {K : Value → World → Prop} : V Try.prog (Instr.fieldAt 68 (.pointer (some ⟨b, off, none⟩)) 0) w K ↔ K (.pointer (some ⟨b, off + 0, none⟩)) w := V.iff (r_fd_68_0)
theorem V_fd_68_1 {w : World} {b off : Nat} {K : Value → World → Prop} : V Try.prog (Instr.fieldAt 68 (.pointer (some ⟨b, off, none⟩)) 1) w K ↔ K (.pointer (some ⟨b, off + 1, none⟩)) w := V.iff (r_fd_68_1)
theorem V_fd_68_2 {w : World} {b off : Nat} {K : Value → World → Prop} : V Try.prog (Instr.fieldAt 68 (.pointer (some ⟨b, off, none⟩)) 2) w K ↔ K (.pointer (some ⟨b, off + 2, none⟩)) w := V.iff (r_fd_68_2)
theorem V_fd_68_3 {w : World} {b off : Nat} {K : Value → World → Prop} : V Try.prog (Instr.fieldAt 68 (.pointer (some ⟨b, off, none⟩)) 3) w K ↔ K (.pointer (some ⟨b, off + 3, none⟩)) w := V.iff (r_fd_68_3)
theorem V_fd_70_0 {w : World} {b off : Nat} {K : Value → World → Prop} : V Try.prog (Instr.fieldAt 70 (.pointer (some ⟨b, off, none⟩)) 0) w K ↔ K (.pointer (some ⟨b, off + 0, none⟩)) w := V.iff (r_fd_70_0)
theorem V_fd_70_1 {w : World} {b off : Nat} {K : Value → World → Prop} : V Try.prog (Instr.fieldAt 70 (.pointer (some ⟨b, off, none⟩)) 1) w K ↔ K (.pointer (some ⟨b, off + 1, none⟩)) w := V.iff (r_fd_70_1)
theorem V_fd_72_0 {w : World} {b off : Nat} {K : Value → World → Prop} : V Try.prog (Instr.fieldAt 72 (.pointer (some ⟨b, off, none⟩)) 0) w K ↔ K (.pointer (some ⟨b, off + 0, none⟩)) w := V.iff (r_fd_72_0)
theorem V_fd_72_3 {w : World} {b off : Nat} {K : Value → World → Prop} : V Try.prog (Instr.fieldAt 72 (.pointer (some ⟨b, off, none⟩)) 3) w K ↔ K (.pointer (some ⟨b, off + 3, none⟩)) w := V.iff (r_fd_72_3)
theorem V_fd_72_4 {w : World} {b off : Nat} {K : Value → World → Prop} : V Try.prog (Instr.fieldAt 72 (.pointer (some ⟨b, off, none⟩)) 4) w K ↔ K (.pointer (some ⟨b, off + 4, none⟩)) w := V.iff (r_fd_72_4)
theorem V_fd_74_0 {w : World} {b off : Nat} {K : Value → World → Prop} : V Try.prog (Instr.fieldAt 74 (.pointer (some ⟨b, off, none⟩)) 0) w K ↔ K (.pointer (some ⟨b, off + 0, none⟩)) w := V.iff (r_fd_74_0)
theorem V_fd_74_1 {w : World} {b off : Nat} {K : Value → World → Prop} : V Try.prog (Instr.fieldAt 74 (.pointer (some ⟨b, off, none⟩)) 1) w K ↔ K (.pointer (some ⟨b, off + 1, none⟩)) w := V.iff (r_fd_74_1)
theorem V_fd_74_2 {w : World} {b off : Nat} {K : Value → World → Prop} : V Try.prog (Instr.fieldAt 74 (.pointer (some ⟨b, off, none⟩)) 2) w K ↔ K (.pointer (some ⟨b, off + 2, none⟩)) w := V.iff (r_fd_74_2)
theorem V_fd_76_0 {w : World} {b off : Nat} {K : Value → World → Prop} : V Try.prog (Instr.fieldAt 76 (.pointer (some ⟨b, off, none⟩)) 0) w K ↔ K (.pointer (some ⟨b, off + 0, none⟩)) w := V.iff (r_fd_76_0)
theorem V_fd_76_1 {w : World} {b off : Nat} {K : Value → World → Prop} : V Try.prog (Instr.fieldAt 76 (.pointer (some ⟨b, off, none⟩)) 1) w K ↔ K (.pointer (some ⟨b, off + 1, none⟩)) w := V.iff (r_fd_76_1)
theorem V_fd_76_2 {w : World} {b off : Nat} {K : Value → World → Prop} : V Try.prog (Instr.fieldAt 76 (.pointer (some ⟨b, off, none⟩)) 2) w K ↔ K (.pointer (some ⟨b, off + 2, none⟩)) w := V.iff (r_fd_76_2)
theorem V_fd_78_0 {w : World} {b off : Nat} {K : Value → World → Prop} : V Try.prog (Instr.fieldAt 78 (.pointer (some ⟨b, off, none⟩)) 0) w K ↔ K (.pointer (some ⟨b, off + 0, none⟩)) w := V.iff (r_fd_78_0)
theorem V_fd_78_1 {w : World} {b off : Nat} {K : Value → World → Prop} : V Try.prog (Instr.fieldAt 78 (.pointer (some ⟨b, off, none⟩)) 1) w K ↔ K (.pointer (some ⟨b, off + 1, none⟩)) w := V.iff (r_fd_78_1)
theorem V_fd_82_0 {w : World} {b off : Nat} {K : Value → World → Prop} : V Try.prog (Instr.fieldAt 82 (.pointer (some ⟨b, off, none⟩)) 0) w K ↔ K (.pointer (some ⟨b, off + 0, none⟩)) w := V.iff (r_fd_82_0)
theorem V_fd_82_1 {w : World} {b off : Nat} {K : Value → World → Prop} : V Try.prog (Instr.fieldAt 82 (.pointer (some ⟨b, off, none⟩)) 1) w K ↔ K (.pointer (some ⟨b, off + 1, none⟩)) w := V.iff (r_fd_82_1)
theorem V_fd_85_0 {w : World} {b off : Nat} {K : Value → World → Prop} : V Try.prog (Instr.fieldAt 85 (.pointer (some ⟨b, off, none⟩)) 0) w K ↔ K (.pointer (some ⟨b, off + 0, none⟩)) w := V.iff (r_fd_85_0)
theorem V_ix_22 {w : World} {b off len cap : Nat} {k : IntKind} {i : Int} {K : Value → World → Prop} (h0 : 0 ≤ i) (h1 : i < len) : V Try.prog (Instr.indexAt 22 (.slice (some ⟨b, off, none⟩) len cap) (.int k i)) w K ↔ K (.pointer (some ⟨b, off + i.toNat * 1, none⟩)) w := V.iff (r_ix_22 h0 h1)
theorem V_ix_23 {w : World} {b off len cap : Nat} {k : IntKind} {i : Int} {K : Value → World → Prop} (h0 : 0 ≤ i) (h1 : i < len) : V Try.prog (Instr.indexAt 23 (.slice (some ⟨b, off, none⟩) len cap) (.int k i)) w K ↔ K (.pointer (some ⟨b, off + i.toNat * 1, none⟩)) w := V.iff (r_ix_23 h0 h1)
theorem V_ix_46 {w : World} {b off len cap : Nat} {k : IntKind} {i : Int} {K : Value → World → Prop} (h0 : 0 ≤ i) (h1 : i < len) : V Try.prog (Instr.indexAt 46 (.slice (some ⟨b, off, none⟩) len cap) (.int k i)) w K ↔ K (.pointer (some ⟨b, off + i.toNat * 1, none⟩)) w := V.iff (r_ix_46 h0 h1)
theorem V_ix_47 {w : World} {b off len cap : Nat} {k : IntKind} {i : Int} {K : Value → World → Prop} (h0 : 0 ≤ i) (h1 : i < len) : V Try.prog (Instr.indexAt 47 (.slice (some ⟨b, off, none⟩) len cap) (.int k i)) w K ↔ K (.pointer (some ⟨b, off + i.toNat * 1, none⟩)) w := V.iff (r_ix_47 h0 h1)
theorem V_ld_22 {w : World} {a : Addr} {K : Value → World → Prop} : V Try.prog (Instr.loadAt 22 (.pointer (some a))) w K ↔ ldO Try.prog 22 a (w.cell? a) w K := V_load Try.underlying22 rfl
theorem V_ld_23 {w : World} {a : Addr} {K : Value → World → Prop} : V Try.prog (Instr.loadAt 23 (.pointer (some a))) w K ↔ ldO Try.prog 23 a (w.cell? a) w K := V_load Try.underlying23 rfl
theorem V_ld_3 {w : World} {a : Addr} {K : Value → World → Prop} : V Try.prog (Instr.loadAt 3 (.pointer (some a))) w K ↔ ldO Try.prog 3 a (w.cell? a) w K := V_load Try.underlying3 rfl
theorem V_ld_4 {w : World} {a : Addr} {K : Value → World → Prop} : V Try.prog (Instr.loadAt 4 (.pointer (some a))) w K ↔ ldO Try.prog 4 a (w.cell? a) w K := V_load Try.underlying4 rfl
theorem V_ld_46 {w : World} {a : Addr} {K : Value → World → Prop} : V Try.prog (Instr.loadAt 46 (.pointer (some a))) w K ↔ ldO Try.prog 46 a (w.cell? a) w K := V_load Try.underlying46 rfl
theorem V_ld_47 {w : World} {a : Addr} {K : Value → World → Prop} : V Try.prog (Instr.loadAt 47 (.pointer (some a))) w K ↔ ldO Try.prog 47 a (w.cell? a) w K := V_load Try.underlying47 rfl
theorem V_ld_54 {w : World} {a : Addr} {K : Value → World → Prop} : V Try.prog (Instr.loadAt 54 (.pointer (some a))) w K ↔ ldO Try.prog 54 a (w.cell? a) w K := V_load Try.underlying54 rfl
theorem V_ln_22 {w : World} {ty : TypeId} {a : Option Addr} {n c : Nat} {K : Value → World → Prop} : V Try.prog (Builtin.len_ #[22] ty #[.slice a n c]) w K ↔ K (.int .i64 n) w := V.iff (r_len Try.underlying22)
theorem V_ln_23 {w : World} {ty : TypeId} {a : Option Addr} {n c : Nat} {K : Value → World → Prop} : V Try.prog (Builtin.len_ #[23] ty #[.slice a n c]) w K ↔ K (.int .i64 n) w := V.iff (r_len Try.underlying23)
theorem V_ln_46 {w : World} {ty : TypeId} {a : Option Addr} {n c : Nat} {K : Value → World → Prop} : V Try.prog (Builtin.len_ #[46] ty #[.slice a n c]) w K ↔ K (.int .i64 n) w := V.iff (r_len Try.underlying46)
theorem V_ln_47 {w : World} {ty : TypeId} {a : Option Addr} {n c : Nat} {K : Value → World → Prop} : V Try.prog (Builtin.len_ #[47] ty #[.slice a n c]) w K ↔ K (.int .i64 n) w := V.iff (r_len Try.underlying47)
theorem V_neqni_54 {w : World} {x y : Operand} {t : TypeId} {v : Value} {K : Value → World → Prop} : V Try.prog (do eqGuard .neq 54 x y (.iface t v) .nilIface; binOp .neq 54 (.iface t v) .nilIface) w K ↔ K (.bool true) w := V.iff (r_neqNilIface Try.underlying54)
theorem V_neqnn_54 {w : World} {x : Operand} {c : Value} {K : Value → World → Prop} : V Try.prog (do eqGuard .neq 54 x (.const c) .nilIface .nilIface; binOp .neq 54 .nilIface .nilIface) w K ↔ K (.bool false) w := V.iff (r_neqNilNil Try.underlying54)
theorem V_ta_27 {w : World} {x t : TypeId} {v : Value} {K : Value → World → Prop} : V Try.prog (Instr.typeAssert (.iface t v) x 27 true) w K ↔ K (if t = 27 then .tuple #[v, .bool true] else .tuple #[(.agg #[(.int .i64 0), (.int .i32 0)]), .bool false]) w := V.iff (r_ta Try.underlying27 rfl inf27)
theorem V_ta_30 {w : World} {x t : TypeId} {v : Value} {K : Value → World → Prop} : V Try.prog (Instr.typeAssert (.iface t v) x 30 true) w K ↔ K (if t = 30 then .tuple #[v, .bool true] else .tuple #[(.agg #[(.int .i64 0), (.int .i64 0), (.int .i64 0)]), .bool false]) w := V.iff (r_ta Try.underlying30 rfl inf30)
theorem V_ta_32 {w : World} {x t : TypeId} {v : Value} {K : Value → World → Prop} : V Try.prog (Instr.typeAssert (.iface t v) x 32 true) w K ↔ K (if t = 32 then .tuple #[v, .bool true] else .tuple #[(.agg #[]), .bool false]) w := V.iff (r_ta Try.underlying32 rfl inf32)
theorem V_ta_34 {w : World} {x t : TypeId} {v : Value} {K : Value → World → Prop} : V Try.prog (Instr.typeAssert (.iface t v) x 34 true) w K ↔ K (if t = 34 then .tuple #[v, .bool true] else .tuple #[(.agg #[(.int .i64 0), (.int .i64 0)]), .bool false]) w := V.iff (r_ta Try.underlying34 rfl inf34)
theorem V_ta_36 {w : World} {x t : TypeId} {v : Value} {K : Value → World → Prop} : V Try.prog (Instr.typeAssert (.iface t v) x 36 true) w K ↔ K (if t = 36 then .tuple #[v, .bool true] else .tuple #[(.agg #[(.int .i64 0), (.int .i64 0), (.int .i64 0), (.int .i64 0)]), .bool false]) w := V.iff (r_ta Try.underlying36 rfl inf36)
theorem V_ta_38 {w : World} {x t : TypeId} {v : Value} {K : Value → World → Prop} : V Try.prog (Instr.typeAssert (.iface t v) x 38 true) w K ↔ K (if t = 38 then .tuple #[v, .bool true] else .tuple #[(.agg #[(.int .i64 0)]), .bool false]) w := V.iff (r_ta Try.underlying38 rfl inf38)
theorem V_ta_68 {w : World} {x t : TypeId} {v : Value} {K : Value → World → Prop} : V Try.prog (Instr.typeAssert (.iface t v) x 68 true) w K ↔ K (if t = 68 then .tuple #[v, .bool true] else .tuple #[(.agg #[(.int .i64 0), (.int .i64 0), (.int .i64 0), (.int .i64 0)]), .bool false]) w := V.iff (r_ta Try.underlying68 rfl inf68)
theorem V_ta_70 {w : World} {x t : TypeId} {v : Value} {K : Value → World → Prop} : V Try.prog (Instr.typeAssert (.iface t v) x 70 true) w K ↔ K (if t = 70 then .tuple #[v, .bool true] else .tuple #[(.agg #[(.int .i64 0), (.int .i64 0)]), .bool false]) w := V.iff (r_ta Try.underlying70 rfl inf70)
theorem V_ta_72 {w : World} {x t : TypeId} {v : Value} {K : Value → World → Prop} : V Try.prog (Instr.typeAssert (.iface t v) x 72 true) w K ↔ K (if t = 72 then .tuple #[v, .bool true] else .tuple #[(.agg #[(.int .i64 0), (.int .i64 0), (.int .i64 0), (.int .i64 0), (.slice none 0 0)]), .bool false]) w := V.iff (r_ta Try.underlying72 rfl inf72)
theorem V_ta_74 {w : World} {x t : TypeId} {v : Value} {K : Value → World → Prop} : V Try.prog (Instr.typeAssert (.iface t v) x 74 true) w K ↔ K (if t = 74 then .tuple #[v, .bool true] else .tuple #[(.agg #[(.int .i64 0), (.int .i64 0), (.slice none 0 0)]), .bool false]) w := V.iff (r_ta Try.underlying74 rfl inf74)
theorem V_ta_76 {w : World} {x t : TypeId} {v : Value} {K : Value → World → Prop} : V Try.prog (Instr.typeAssert (.iface t v) x 76 true) w K ↔ K (if t = 76 then .tuple #[v, .bool true] else .tuple #[(.agg #[(.int .i64 0), (.int .i64 0), (.slice none 0 0)]), .bool false]) w := V.iff (r_ta Try.underlying76 rfl inf76)
theorem V_ta_78 {w : World} {x t : TypeId} {v : Value} {K : Value → World → Prop} : V Try.prog (Instr.typeAssert (.iface t v) x 78 true) w K ↔ K (if t = 78 then .tuple #[v, .bool true] else .tuple #[(.agg #[(.int .i64 0), (.int .i64 0)]), .bool false]) w := V.iff (r_ta Try.underlying78 rfl inf78)
theorem V_ta_82 {w : World} {x t : TypeId} {v : Value} {K : Value → World → Prop} : V Try.prog (Instr.typeAssert (.iface t v) x 82 true) w K ↔ K (if t = 82 then .tuple #[v, .bool true] else .tuple #[(.agg #[(.int .i64 0), (.int .i64 0)]), .bool false]) w := V.iff (r_ta Try.underlying82 rfl inf82)
theorem V_ta_85 {w : World} {x t : TypeId} {v : Value} {K : Value → World → Prop} : V Try.prog (Instr.typeAssert (.iface t v) x 85 true) w K ↔ K (if t = 85 then .tuple #[v, .bool true] else .tuple #[(.agg #[(.int .i64 0)]), .bool false]) w := V.iff (r_ta Try.underlying85 rfl inf85)
theorem V_tn_27 {w : World} {x : TypeId} {K : Value → World → Prop} : V Try.prog (Instr.typeAssert .nilIface x 27 true) w K ↔ K (.tuple #[(.agg #[(.int .i64 0), (.int .i32 0)]), .bool false]) w := V.iff (r_tanil Try.underlying27 rfl inf27)
theorem V_tn_30 {w : World} {x : TypeId} {K : Value → World → Prop} : V Try.prog (Instr.typeAssert .nilIface x 30 true) w K ↔ K (.tuple #[(.agg #[(.int .i64 0), (.int .i64 0), (.int .i64 0)]), .bool false]) w := V.iff (r_tanil Try.underlying30 rfl inf30)
theorem V_tn_32 {w : World} {x : TypeId} {K : Value → World → Prop} : V Try.prog (Instr.typeAssert .nilIface x 32 true) w K ↔ K (.tuple #[(.agg #[]), .bool false]) w := V.iff (r_tanil Try.underlying32 rfl inf32)
theorem V_tn_34 {w : World} {x : TypeId} {K : Value → World → Prop} : V Try.prog (Instr.typeAssert .nilIface x 34 true) w K ↔ K (.tuple #[(.agg #[(.int .i64 0), (.int .i64 0)]), .bool false]) w := V.iff (r_tanil Try.underlying34 rfl inf34)
theorem V_tn_36 {w : World} {x : TypeId} {K : Value → World → Prop} : V Try.prog (Instr.typeAssert .nilIface x 36 true) w K ↔ K (.tuple #[(.agg #[(.int .i64 0), (.int .i64 0), (.int .i64 0), (.int .i64 0)]), .bool false]) w := V.iff (r_tanil Try.underlying36 rfl inf36)
theorem V_tn_38 {w : World} {x : TypeId} {K : Value → World → Prop} : V Try.prog (Instr.typeAssert .nilIface x 38 true) w K ↔ K (.tuple #[(.agg #[(.int .i64 0)]), .bool false]) w := V.iff (r_tanil Try.underlying38 rfl inf38)
theorem V_tn_68 {w : World} {x : TypeId} {K : Value → World → Prop} : V Try.prog (Instr.typeAssert .nilIface x 68 true) w K ↔ K (.tuple #[(.agg #[(.int .i64 0), (.int .i64 0), (.int .i64 0), (.int .i64 0)]), .bool false]) w := V.iff (r_tanil Try.underlying68 rfl inf68)
theorem V_tn_70 {w : World} {x : TypeId} {K : Value → World → Prop} : V Try.prog (Instr.typeAssert .nilIface x 70 true) w K ↔ K (.tuple #[(.agg #[(.int .i64 0), (.int .i64 0)]), .bool false]) w := V.iff (r_tanil Try.underlying70 rfl inf70)
theorem V_tn_72 {w : World} {x : TypeId} {K : Value → World → Prop} : V Try.prog (Instr.typeAssert .nilIface x 72 true) w K ↔ K (.tuple #[(.agg #[(.int .i64 0), (.int .i64 0), (.int .i64 0), (.int .i64 0), (.slice none 0 0)]), .bool false]) w := V.iff (r_tanil Try.underlying72 rfl inf72)
theorem V_tn_74 {w : World} {x : TypeId} {K : Value → World → Prop} : V Try.prog (Instr.typeAssert .nilIface x 74 true) w K ↔ K (.tuple #[(.agg #[(.int .i64 0), (.int .i64 0), (.slice none 0 0)]), .bool false]) w := V.iff (r_tanil Try.underlying74 rfl inf74)
theorem V_tn_76 {w : World} {x : TypeId} {K : Value → World → Prop} : V Try.prog (Instr.typeAssert .nilIface x 76 true) w K ↔ K (.tuple #[(.agg #[(.int .i64 0), (.int .i64 0), (.slice none 0 0)]), .bool false]) w := V.iff (r_tanil Try.underlying76 rfl inf76)
theorem V_tn_78 {w : World} {x : TypeId} {K : Value → World → Prop} : V Try.prog (Instr.typeAssert .nilIface x 78 true) w K ↔ K (.tuple #[(.agg #[(.int .i64 0), (.int .i64 0)]), .bool false]) w := V.iff (r_tanil Try.underlying78 rfl inf78)
theorem V_tn_82 {w : World} {x : TypeId} {K : Value → World → Prop} : V Try.prog (Instr.typeAssert .nilIface x 82 true) w K ↔ K (.tuple #[(.agg #[(.int .i64 0), (.int .i64 0)]), .bool false]) w := V.iff (r_tanil Try.underlying82 rfl inf82)
theorem V_tn_85 {w : World} {x : TypeId} {K : Value → World → Prop} : V Try.prog (Instr.typeAssert .nilIface x 85 true) w K ↔ K (.tuple #[(.agg #[(.int .i64 0)]), .bool false]) w := V.iff (r_tanil Try.underlying85 rfl inf85)
theorem bd_25 : BD Try.prog 25 [(.int .i64 0), (.int .i64 0), (.slice none 0 0)] := ⟨_, _, Try.underlying25, inf25, fun w => by kernel_rfl⟩
theorem bd_27 : BD Try.prog 27 [(.int .i64 0), (.int .i32 0)] := ⟨_, _, Try.underlying27, inf27, fun w => by kernel_rfl⟩
theorem bd_30 : BD Try.prog 30 [(.int .i64 0), (.int .i64 0), (.int .i64 0)] := ⟨_, _, Try.underlying30, inf30, fun w => by kernel_rfl⟩
theorem bd_32 : BD Try.prog 32 [] := ⟨_, _, Try.underlying32, inf32, fun w => by kernel_rfl⟩
theorem bd_34 : BD Try.prog 34 [(.int .i64 0), (.int .i64 0)] := ⟨_, _, Try.underlying34, inf34, fun w => by kernel_rfl⟩
theorem bd_36 : BD Try.prog 36 [(.int .i64 0), (.int .i64 0), (.int .i64 0), (.int .i64 0)] := ⟨_, _, Try.underlying36, inf36, fun w => by kernel_rfl⟩
theorem bd_38 : BD Try.prog 38 [(.int .i64 0)] := ⟨_, _, Try.underlying38, inf38, fun w => by kernel_rfl⟩
theorem bd_40 : BD Try.prog 40 [(.slice none 0 0), (.int .i64 0)] := ⟨_, _, Try.underlying40, inf40, fun w => by kernel_rfl⟩
theorem bd_49 : BD Try.prog 49 [(.slice none 0 0), (.slice none 0 0), (.slice none 0 0)] := ⟨_, _, Try.underlying49, inf49, fun w => by kernel_rfl⟩
theorem sa_25 : SA Try.prog 25 3 := ⟨_, _, inf25, by decide⟩
theorem sa_27 : SA Try.prog 27 2 := ⟨_, _, inf27, by decide⟩
theorem sa_30 : SA Try.prog 30 3 := ⟨_, _, inf30, by decide⟩
theorem sa_34 : SA Try.prog 34 2 := ⟨_, _, inf34, by decide⟩
theorem sa_36 : SA Try.prog 36 4 := ⟨_, _, inf36, by decide⟩
theorem sa_38 : SA Try.prog 38 1 := ⟨_, _, inf38, by decide⟩
theorem sa_40 : SA Try.prog 40 2 := ⟨_, _, inf40, by decide⟩
theorem sa_47 : SA Try.prog 47 1 := ⟨_, _, inf47, by decide⟩
theorem sa_49 : SA Try.prog 49 3 := ⟨_, _, inf49, by decide⟩
theorem sa_68 : SA Try.prog 68 4 := ⟨_, _, inf68, by decide⟩
theorem sa_70 : SA Try.prog 70 2 := ⟨_, _, inf70, by decide⟩
theorem sa_72 : SA Try.prog 72 5 := ⟨_, _, inf72, by decide⟩
theorem sa_74 : SA Try.prog 74 3 := ⟨_, _, inf74, by decide⟩
theorem sa_76 : SA Try.prog 76 3 := ⟨_, _, inf76, by decide⟩
theorem sa_78 : SA Try.prog 78 2 := ⟨_, _, inf78, by decide⟩
theorem sa_82 : SA Try.prog 82 2 := ⟨_, _, inf82, by decide⟩
theorem sa_85 : SA Try.prog 85 1 := ⟨_, _, inf85, by decide⟩
theorem fa_25_0 : FA Try.prog 25 0 0 := ⟨fun _ _ _ => r_field 3 0 Try.underlying25 rfl inf3 rfl⟩
theorem fa_25_1 : FA Try.prog 25 1 1 := ⟨fun _ _ _ => r_field 3 1 Try.underlying25 rfl inf3 rfl⟩
theorem fa_25_2 : FA Try.prog 25 2 2 := ⟨fun _ _ _ => r_field 23 2 Try.underlying25 rfl inf23 rfl⟩
theorem fa_27_0 : FA Try.prog 27 0 0 := ⟨fun _ _ _ => r_field 3 0 Try.underlying27 rfl inf3 rfl⟩
theorem fa_30_0 : FA Try.prog 30 0 0 := ⟨fun _ _ _ => r_field 3 0 Try.underlying30 rfl inf3 rfl⟩
theorem fa_30_1 : FA Try.prog 30 1 1 := ⟨fun _ _ _ => r_field 3 1 Try.underlying30 rfl inf3 rfl⟩
theorem fa_30_2 : FA Try.prog 30 2 2 := ⟨fun _ _ _ => r_field 3 2 Try.underlying30 rfl inf3 rfl⟩
theorem fa_34_0 : FA Try.prog 34 0 0 := ⟨fun _ _ _ => r_field 3 0 Try.underlying34 rfl inf3 rfl⟩
theorem fa_34_1 : FA Try.prog 34 1 1 := ⟨fun _ _ _ => r_field 3 1 Try.underlying34 rfl inf3 rfl⟩
theorem fa_36_0 : FA Try.prog 36 0 0 := ⟨fun _ _ _ => r_field 3 0 Try.underlying36 rfl inf3 rfl⟩
theorem fa_36_1 : FA Try.prog 36 1 1 := ⟨fun _ _ _ => r_field 3 1 Try.underlying36 rfl inf3 rfl⟩
theorem fa_36_2 : FA Try.prog 36 2 2 := ⟨fun _ _ _ => r_field 3 2 Try.underlying36 rfl inf3 rfl⟩
theorem fa_36_3 : FA Try.prog 36 3 3 := ⟨fun _ _ _ => r_field 3 3 Try.underlying36 rfl inf3 rfl⟩
theorem fa_38_0 : FA Try.prog 38 0 0 := ⟨fun _ _ _ => r_field 3 0 Try.underlying38 rfl inf3 rfl⟩
theorem fa_40_0 : FA Try.prog 40 0 0 := ⟨fun _ _ _ => r_field 22 0 Try.underlying40 rfl inf22 rfl⟩
theorem fa_40_1 : FA Try.prog 40 1 1 := ⟨fun _ _ _ => r_field 3 1 Try.underlying40 rfl inf3 rfl⟩
theorem fa_49_0 : FA Try.prog 49 0 0 := ⟨fun _ _ _ => r_field 46 0 Try.underlying49 rfl inf46 rfl⟩
theorem fa_49_1 : FA Try.prog 49 1 1 := ⟨fun _ _ _ => r_field 47 1 Try.underlying49 rfl inf47 rfl⟩
theorem fa_49_2 : FA Try.prog 49 2 2 := ⟨fun _ _ _ => r_field 22 2 Try.underlying49 rfl inf22 rfl⟩
theorem fa_68_0 : FA Try.prog 68 0 0 := ⟨fun _ _ _ => r_field 3 0 Try.underlying68 rfl inf3 rfl⟩
theorem fa_68_1 : FA Try.prog 68 1 1 := ⟨fun _ _ _ => r_field 3 1 Try.underlying68 rfl inf3 rfl⟩
theorem fa_68_2 : FA Try.prog 68 2 2 := ⟨fun _ _ _ => r_field 3 2 Try.underlying68 rfl inf3 rfl⟩
theorem fa_68_3 : FA Try.prog 68 3 3 := ⟨fun _ _ _ => r_field 3 3 Try.underlying68 rfl inf3 rfl⟩
theorem fa_70_0 : FA Try.prog 70 0 0 := ⟨fun _ _ _ => r_field 3 0 Try.underlying70 rfl inf3 rfl⟩
theorem fa_70_1 : FA Try.prog 70 1 1 := ⟨fun _ _ _ => r_field 3 1 Try.underlying70 rfl inf3 rfl⟩
theorem fa_72_0 : FA Try.prog 72 0 0 := ⟨fun _ _ _ => r_field 3 0 Try.underlying72 rfl inf3 rfl⟩
theorem fa_72_3 : FA Try.prog 72 3 3 := ⟨fun _ _ _ => r_field 3 3 Try.underlying72 rfl inf3 rfl⟩
theorem fa_72_4 : FA Try.prog 72 4 4 := ⟨fun _ _ _ => r_field 22 4 Try.underlying72 rfl inf22 rfl⟩
theorem fa_74_0 : FA Try.prog 74 0 0 := ⟨fun _ _ _ => r_field 3 0 Try.underlying74 rfl inf3 rfl⟩
theorem fa_74_1 : FA Try.prog 74 1 1 := ⟨fun _ _ _ => r_field 3 1 Try.underlying74 rfl inf3 rfl⟩
theorem fa_74_2 : FA Try.prog 74 2 2 := ⟨fun _ _ _ => r_field 22 2 Try.underlying74 rfl inf22 rfl⟩
theorem fa_76_0 : FA Try.prog 76 0 0 := ⟨fun _ _ _ => r_field 3 0 Try.underlying76 rfl inf3 rfl⟩
theorem fa_76_1 : FA Try.prog 76 1 1 := ⟨fun _ _ _ => r_field 3 1 Try.underlying76 rfl inf3 rfl⟩
theorem fa_76_2 : FA Try.prog 76 2 2 := ⟨fun _ _ _ => r_field 22 2 Try.underlying76 rfl inf22 rfl⟩
theorem fa_78_0 : FA Try.prog 78 0 0 := ⟨fun _ _ _ => r_field 3 0 Try.underlying78 rfl inf3 rfl⟩
theorem fa_78_1 : FA Try.prog 78 1 1 := ⟨fun _ _ _ => r_field 3 1 Try.underlying78 rfl inf3 rfl⟩
theorem fa_82_0 : FA Try.prog 82 0 0 := ⟨fun _ _ _ => r_field 3 0 Try.underlying82 rfl inf3 rfl⟩
theorem fa_82_1 : FA Try.prog 82 1 1 := ⟨fun _ _ _ => r_field 3 1 Try.underlying82 rfl inf3 rfl⟩
theorem fa_85_0 : FA Try.prog 85 0 0 := ⟨fun _ _ _ => r_field 3 0 Try.underlying85 rfl inf3 rfl⟩
theorem l1_22 : L1 Try.prog 22 := ⟨_, Try.underlying22, rfl⟩
theorem l1_23 : L1 Try.prog 23 := ⟨_, Try.underlying23, rfl⟩
theorem l1_3 : L1 Try.prog 3 := ⟨_, Try.underlying3, rfl⟩
theorem l1_4 : L1 Try.prog 4 := ⟨_, Try.underlying4, rfl⟩
theorem l1_46 : L1 Try.prog 46 := ⟨_, Try.underlying46, rfl⟩
theorem l1_47 : L1 Try.prog 47 := ⟨_, Try.underlying47, rfl⟩
theorem l1_54 : L1 Try.prog 54 := ⟨_, Try.underlying54, rfl⟩
theorem mi_27 : MI Try.prog 27 := ⟨_, Try.underlying27, rfl⟩
theorem mi_30 : MI Try.prog 30 := ⟨_, Try.underlying30, rfl⟩
theorem mi_32 : MI Try.prog 32 := ⟨_, Try.underlying32, rfl⟩
theorem mi_34 : MI Try.prog 34 := ⟨_, Try.underlying34, rfl⟩
theorem mi_36 : MI Try.prog 36 := ⟨_, Try.underlying36, rfl⟩
theorem mi_38 : MI Try.prog 38 := ⟨_, Try.underlying38, rfl⟩
theorem xe_22 : XE Try.prog 22 3 8 := ⟨_, Try.underlying22, inf3, rfl⟩
theorem xe_23 : XE Try.prog 23 54 16 := ⟨_, Try.underlying23, inf54, rfl⟩
theorem xe_46 : XE Try.prog 46 47 24 := ⟨_, Try.underlying46, inf47, rfl⟩
theorem xe_47 : XE Try.prog 47 4 1 := ⟨_, Try.underlying47, inf4, rfl⟩
theorem xa_22 : XA Try.prog 22 1 := ⟨_, _, _, Try.underlying22, inf3⟩
theorem xa_23 : XA Try.prog 23 1 := ⟨_, _, _, Try.underlying23, inf54⟩
theorem xa_46 : XA Try.prog 46 1 := ⟨_, _, _, Try.underlying46, inf47⟩
theorem xa_47 : XA Try.prog 47 1 := ⟨_, _, _, Try.underlying47, inf4⟩
theorem la_25 : ∃ d z by_, Program.underlying Try.prog 25 = some d ∧ aggB d = true ∧ Inf Try.prog 25 z 3 by_ := ⟨_, _, _, Try.underlying25, rfl, inf25⟩
theorem la_40 : ∃ d z by_, Program.underlying Try.prog 40 = some d ∧ aggB d = true ∧ Inf Try.prog 40 z 2 by_ := ⟨_, _, _, Try.underlying40, rfl, inf40⟩
theorem la_49 : ∃ d z by_, Program.underlying Try.prog 49 = some d ∧ aggB d = true ∧ Inf Try.prog 49 z 3 by_ := ⟨_, _, _, Try.underlying49, rfl, inf49⟩
theorem ta_27 : TA Try.prog 27 := TA.mk' Try.underlying27 rfl inf27
theorem ta_30 : TA Try.prog 30 := TA.mk' Try.underlying30 rfl inf30
theorem ta_32 : TA Try.prog 32 := TA.mk' Try.underlying32 rfl inf32
theorem ta_34 : TA Try.prog 34 := TA.mk' Try.underlying34 rfl inf34
theorem ta_36 : TA Try.prog 36 := TA.mk' Try.underlying36 rfl inf36
theorem ta_38 : TA Try.prog 38 := TA.mk' Try.underlying38 rfl inf38
theorem ta_68 : TA Try.prog 68 := TA.mk' Try.underlying68 rfl inf68
theorem ta_70 : TA Try.prog 70 := TA.mk' Try.underlying70 rfl inf70
theorem ta_72 : TA Try.prog 72 := TA.mk' Try.underlying72 rfl inf72
theorem ta_74 : TA Try.prog 74 := TA.mk' Try.underlying74 rfl inf74
theorem ta_76 : TA Try.prog 76 := TA.mk' Try.underlying76 rfl inf76
theorem ta_78 : TA Try.prog 78 := TA.mk' Try.underlying78 rfl inf78
theorem ta_82 : TA Try.prog 82 := TA.mk' Try.underlying82 rfl inf82
theorem ta_85 : TA Try.prog 85 := TA.mk' Try.underlying85 rfl inf85
end Go.Proofs.Ytendijaeihljeaa
