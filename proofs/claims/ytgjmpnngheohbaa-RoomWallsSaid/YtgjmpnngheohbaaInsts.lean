/- The laws of single operations, at this program's types: by program (instgen.py). -/
import Derived.Test.YtgjmpnngheohbaaLaws2
import Derived.Test.YtgjmpnngheohbaaProg
import Derived.KernelRfl
namespace Go.Proofs.Ytgjmpnngheohbaa
open Go.Vc
theorem inf3 : Inf Try.prog 3 (.int .i64 0) 1 8 := by unfold Inf; kernel_rfl
theorem inf4 : Inf Try.prog 4 (.bool false) 1 1 := by unfold Inf; kernel_rfl
theorem inf5 : Inf Try.prog 5 (.int .u8 0) 1 1 := by unfold Inf; kernel_rfl
theorem inf9 : Inf Try.prog 9 (.string ByteArray.empty) 1 16 := by unfold Inf; kernel_rfl
theorem inf21 : Inf Try.prog 21 (.int .i32 0) 1 4 := by unfold Inf; kernel_rfl
theorem inf22 : Inf Try.prog 22 (.slice none 0 0) 1 24 := by unfold Inf; kernel_rfl
theorem inf23 : Inf Try.prog 23 (.pointer none) 1 8 := by unfold Inf; kernel_rfl
theorem inf29 : Inf Try.prog 29 (.pointer none) 1 8 := by unfold Inf; kernel_rfl
theorem inf35 : Inf Try.prog 35 (.slice none 0 0) 1 24 := by unfold Inf; kernel_rfl
theorem inf37 : Inf Try.prog 37 (.agg #[(.int .i64 0), (.int .i64 0), (.int .i64 0), (.bool false), (.slice none 0 0)]) 5 56 := by unfold Inf; kernel_rfl
theorem inf42 : Inf Try.prog 42 (.agg #[(.string ByteArray.empty), (.string ByteArray.empty)]) 2 32 := by unfold Inf; kernel_rfl
theorem inf44 : Inf Try.prog 44 (.agg #[(.int .i64 0), (.int .i64 0), (.int .i64 0), (.int .i64 0), (.slice none 0 0), (.slice none 0 0), (.slice none 0 0)]) 7 104 := by unfold Inf; kernel_rfl
theorem inf59 : Inf Try.prog 59 (.agg #[(.pointer none), (.slice none 0 0), (.slice none 0 0), (.slice none 0 0), (.slice none 0 0)]) 5 104 := by unfold Inf; kernel_rfl
theorem inf61 : Inf Try.prog 61 (.pointer none) 1 8 := by unfold Inf; kernel_rfl
theorem inf62 : Inf Try.prog 62 (.slice none 0 0) 1 24 := by unfold Inf; kernel_rfl
theorem inf64 : Inf Try.prog 64 (.agg #[(.pointer none), (.pointer none), (.int .i64 0), (.int .i64 0), (.int .i64 0), (.slice none 0 0)]) 6 64 := by unfold Inf; kernel_rfl
theorem inf72 : Inf Try.prog 72 (.slice none 0 0) 1 24 := by unfold Inf; kernel_rfl
theorem inf74 : Inf Try.prog 74 (.agg #[(.int .i64 0), (.slice none 0 0)]) 2 32 := by unfold Inf; kernel_rfl
theorem inf91 : Inf Try.prog 91 (.slice none 0 0) 1 24 := by unfold Inf; kernel_rfl
theorem inf95 : Inf Try.prog 95 (.agg #[(.int .i64 0), (.int .i64 0), (.int .i64 0), (.int .i64 0)]) 4 32 := by unfold Inf; kernel_rfl
theorem r_eqb_4 {w : World} {x y : Operand} {a b : Bool} : (do eqGuard .eql 4 x y (.bool a) (.bool b); binOp .eql 4 (.bool a) (.bool b)).run Try.prog w = .ok (.bool (a == b)) w := r_eqBool Try.underlying4
theorem r_fd_37_0 {w : World} {b off : Nat} : (Instr.fieldAt 37 (.pointer (some ⟨b, off, none⟩)) 0).run Try.prog w = .ok (.pointer (some ⟨b, off + 0, none⟩)) w := r_field 3 0 Try.underlying37 rfl inf3 rfl
theorem r_fd_37_1 {w : World} {b off : Nat} : (Instr.fieldAt 37 (.pointer (some ⟨b, off, none⟩)) 1).run Try.prog w = .ok (.pointer (some ⟨b, off + 1, none⟩)) w := r_field 3 1 Try.underlying37 rfl inf3 rfl
theorem r_fd_37_2 {w : World} {b off : Nat} : (Instr.fieldAt 37 (.pointer (some ⟨b, off, none⟩)) 2).run Try.prog w = .ok (.pointer (some ⟨b, off + 2, none⟩)) w := r_field 3 2 Try.underlying37 rfl inf3 rfl
theorem r_fd_37_3 {w : World} {b off : Nat} : (Instr.fieldAt 37 (.pointer (some ⟨b, off, none⟩)) 3).run Try.prog w = .ok (.pointer (some ⟨b, off + 3, none⟩)) w := r_field 4 3 Try.underlying37 rfl inf4 rfl
theorem r_fd_37_4 {w : World} {b off : Nat} : (Instr.fieldAt 37 (.pointer (some ⟨b, off, none⟩)) 4).run Try.prog w = .ok (.pointer (some ⟨b, off + 4, none⟩)) w := r_field 22 4 Try.underlying37 rfl inf22 rfl
theorem r_fd_44_0 {w : World} {b off : Nat} : (Instr.fieldAt 44 (.pointer (some ⟨b, off, none⟩)) 0).run Try.prog w = .ok (.pointer (some ⟨b, off + 0, none⟩)) w := r_field 3 0 Try.underlying44 rfl inf3 rfl
theorem r_fd_44_1 {w : World} {b off : Nat} : (Instr.fieldAt 44 (.pointer (some ⟨b, off, none⟩)) 1).run Try.prog w = .ok (.pointer (some ⟨b, off + 1, none⟩)) w := r_field 3 1 Try.underlying44 rfl inf3 rfl
theorem r_fd_44_2 {w : World} {b off : Nat} : (Instr.fieldAt 44 (.pointer (some ⟨b, off, none⟩)) 2).run Try.prog w = .ok (.pointer (some ⟨b, off + 2, none⟩)) w := r_field 3 2 Try.underlying44 rfl inf3 rfl
theorem r_fd_44_3 {w : World} {b off : Nat} : (Instr.fieldAt 44 (.pointer (some ⟨b, off, none⟩)) 3).run Try.prog w = .ok (.pointer (some ⟨b, off + 3, none⟩)) w := r_field 3 3 Try.underlying44 rfl inf3 rfl
theorem r_fd_44_4 {w : World} {b off : Nat} : (Instr.fieldAt 44 (.pointer (some ⟨b, off, none⟩)) 4).run Try.prog w = .ok (.pointer (some ⟨b, off + 4, none⟩)) w := r_field 35 4 Try.underlying44 rfl inf35 rfl
theorem r_fd_59_0 {w : World} {b off : Nat} : (Instr.fieldAt 59 (.pointer (some ⟨b, off, none⟩)) 0).run Try.prog w = .ok (.pointer (some ⟨b, off + 0, none⟩)) w := r_field 29 0 Try.underlying59 rfl inf29 rfl
theorem r_fd_59_3 {w : World} {b off : Nat} : (Instr.fieldAt 59 (.pointer (some ⟨b, off, none⟩)) 3).run Try.prog w = .ok (.pointer (some ⟨b, off + 3, none⟩)) w := r_field 22 3 Try.underlying59 rfl inf22 rfl
theorem r_fd_59_4 {w : World} {b off : Nat} : (Instr.fieldAt 59 (.pointer (some ⟨b, off, none⟩)) 4).run Try.prog w = .ok (.pointer (some ⟨b, off + 4, none⟩)) w := r_field 22 4 Try.underlying59 rfl inf22 rfl
theorem r_fd_64_0 {w : World} {b off : Nat} : (Instr.fieldAt 64 (.pointer (some ⟨b, off, none⟩)) 0).run Try.prog w = .ok (.pointer (some ⟨b, off + 0, none⟩)) w := r_field 23 0 Try.underlying64 rfl inf23 rfl
theorem r_fd_64_1 {w : World} {b off : Nat} : (Instr.fieldAt 64 (.pointer (some ⟨b, off, none⟩)) 1).run Try.prog w = .ok (.pointer (some ⟨b, off + 1, none⟩)) w := r_field 61 1 Try.underlying64 rfl inf61 rfl
theorem r_fd_64_2 {w : World} {b off : Nat} : (Instr.fieldAt 64 (.pointer (some ⟨b, off, none⟩)) 2).run Try.prog w = .ok (.pointer (some ⟨b, off + 2, none⟩)) w := r_field 3 2 Try.underlying64 rfl inf3 rfl
theorem r_fd_64_3 {w : World} {b off : Nat} : (Instr.fieldAt 64 (.pointer (some ⟨b, off, none⟩)) 3).run Try.prog w = .ok (.pointer (some ⟨b, off + 3, none⟩)) w := r_field 3 3 Try.underlying64 rfl inf3 rfl
theorem r_fd_64_4 {w : World} {b off : Nat} : (Instr.fieldAt 64 (.pointer (some ⟨b, off, none⟩)) 4).run Try.prog w = .ok (.pointer (some ⟨b, off + 4, none⟩)) w := r_field 3 4 Try.underlying64 rfl inf3 rfl
theorem r_fd_64_5 {w : World} {b off : Nat} : (Instr.fieldAt 64 (.pointer (some ⟨b, off, none⟩)) 5).run Try.prog w = .ok (.pointer (some ⟨b, off + 5, none⟩)) w := r_field 62 5 Try.underlying64 rfl inf62 rfl
theorem r_fd_74_0 {w : World} {b off : Nat} : (Instr.fieldAt 74 (.pointer (some ⟨b, off, none⟩)) 0).run Try.prog w = .ok (.pointer (some ⟨b, off + 0, none⟩)) w := r_field 3 0 Try.underlying74 rfl inf3 rfl
theorem r_fd_74_1 {w : World} {b off : Nat} : (Instr.fieldAt 74 (.pointer (some ⟨b, off, none⟩)) 1).run Try.prog w = .ok (.pointer (some ⟨b, off + 1, none⟩)) w := r_field 72 1 Try.underlying74 rfl inf72 rfl
theorem r_fd_93_0 {w : World} {b off : Nat} : (Instr.fieldAt 93 (.pointer (some ⟨b, off, none⟩)) 0).run Try.prog w = .ok (.pointer (some ⟨b, off + 0, none⟩)) w := r_field 91 0 Try.underlying93 rfl inf91 rfl
theorem r_ix_22 {w : World} {b off len cap : Nat} {k : IntKind} {i : Int} (h0 : 0 ≤ i) (h1 : i < len) : (Instr.indexAt 22 (.slice (some ⟨b, off, none⟩) len cap) (.int k i)).run Try.prog w = .ok (.pointer (some ⟨b, off + i.toNat * 1, none⟩)) w := r_index Try.underlying22 inf5 h0 h1
theorem r_ix_35 {w : World} {b off len cap : Nat} {k : IntKind} {i : Int} (h0 : 0 ≤ i) (h1 : i < len) : (Instr.indexAt 35 (.slice (some ⟨b, off, none⟩) len cap) (.int k i)).run Try.prog w = .ok (.pointer (some ⟨b, off + i.toNat * 1, none⟩)) w := r_index Try.underlying35 inf21 h0 h1
theorem r_ix_41 {w : World} {b off len cap : Nat} {k : IntKind} {i : Int} (h0 : 0 ≤ i) (h1 : i < len) : (Instr.indexAt 41 (.slice (some ⟨b, off, none⟩) len cap) (.int k i)).run Try.prog w = .ok (.pointer (some ⟨b, off + i.toNat * 7, none⟩)) w := r_index Try.underlying41 inf44 h0 h1
theorem r_ix_62 {w : World} {b off len cap : Nat} {k : IntKind} {i : Int} (h0 : 0 ≤ i) (h1 : i < len) : (Instr.indexAt 62 (.slice (some ⟨b, off, none⟩) len cap) (.int k i)).run Try.prog w = .ok (.pointer (some ⟨b, off + i.toNat * 1, none⟩)) w := r_index Try.underlying62 inf3 h0 h1
theorem r_ix_72 {w : World} {b off len cap : Nat} {k : IntKind} {i : Int} (h0 : 0 ≤ i) (h1 : i < len) : (Instr.indexAt 72 (.slice (some ⟨b, off, none⟩) len cap) (.int k i)).run Try.prog w = .ok (.pointer (some ⟨b, off + i.toNat * 5, none⟩)) w := r_index Try.underlying72 inf37 h0 h1
theorem r_la_37 {w : World} {b off : Nat} {cs : List Value} (hl : cs.length = 5) (h : ∀ j (_ : j < cs.length), w.cell? ⟨b, off + j, none⟩ = cs[j]?) : (Instr.loadAt 37 (.pointer (some ⟨b, off, none⟩))).run Try.prog w = .ok (.agg cs.toArray) w := r_loadAgg Try.underlying37 rfl inf37 hl h
theorem r_la_44 {w : World} {b off : Nat} {cs : List Value} (hl : cs.length = 7) (h : ∀ j (_ : j < cs.length), w.cell? ⟨b, off + j, none⟩ = cs[j]?) : (Instr.loadAt 44 (.pointer (some ⟨b, off, none⟩))).run Try.prog w = .ok (.agg cs.toArray) w := r_loadAgg Try.underlying44 rfl inf44 hl h
theorem r_la_64 {w : World} {b off : Nat} {cs : List Value} (hl : cs.length = 6) (h : ∀ j (_ : j < cs.length), w.cell? ⟨b, off + j, none⟩ = cs[j]?) : (Instr.loadAt 64 (.pointer (some ⟨b, off, none⟩))).run Try.prog w = .ok (.agg cs.toArray) w := r_loadAgg Try.underlying64 rfl inf64 hl h
theorem r_ld_21 {w : World} {a : Addr} {v : Value} (h : w.cell? a = some v) : (Instr.loadAt 21 (.pointer (some a))).run Try.prog w = .ok v w := r_load Try.underlying21 rfl h
theorem r_ld_22 {w : World} {a : Addr} {v : Value} (h : w.cell? a = some v) : (Instr.loadAt 22 (.pointer (some a))).run Try.prog w = .ok v w := r_load Try.underlying22 rfl h
theorem r_ld_23 {w : World} {a : Addr} {v : Value} (h : w.cell? a = some v) : (Instr.loadAt 23 (.pointer (some a))).run Try.prog w = .ok v w := r_load Try.underlying23 rfl h
theorem r_ld_29 {w : World} {a : Addr} {v : Value} (h : w.cell? a = some v) : (Instr.loadAt 29 (.pointer (some a))).run Try.prog w = .ok v w := r_load Try.underlying29 rfl h
theorem r_ld_3 {w : World} {a : Addr} {v : Value} (h : w.cell? a = some v) : (Instr.loadAt 3 (.pointer (some a))).run Try.prog w = .ok v w := r_load Try.underlying3 rfl h
theorem r_ld_35 {w : World} {a : Addr} {v : Value} (h : w.cell? a = some v) : (Instr.loadAt 35 (.pointer (some a))).run Try.prog w = .ok v w := r_load Try.underlying35 rfl h
theorem r_ld_4 {w : World} {a : Addr} {v : Value} (h : w.cell? a = some v) : (Instr.loadAt 4 (.pointer (some a))).run Try.prog w = .ok v w := r_load Try.underlying4 rfl h
theorem r_ld_5 {w : World} {a : Addr} {v : Value} (h : w.cell? a = some v) : (Instr.loadAt 5 (.pointer (some a))).run Try.prog w = .ok v w := r_load Try.underlying5 rfl h
theorem r_ld_61 {w : World} {a : Addr} {v : Value} (h : w.cell? a = some v) : (Instr.loadAt 61 (.pointer (some a))).run Try.prog w = .ok v w := r_load Try.underlying61 rfl h
theorem r_ld_62 {w : World} {a : Addr} {v : Value} (h : w.cell? a = some v) : (Instr.loadAt 62 (.pointer (some a))).run Try.prog w = .ok v w := r_load Try.underlying62 rfl h
theorem r_ld_72 {w : World} {a : Addr} {v : Value} (h : w.cell? a = some v) : (Instr.loadAt 72 (.pointer (some a))).run Try.prog w = .ok v w := r_load Try.underlying72 rfl h
theorem r_ld_9 {w : World} {a : Addr} {v : Value} (h : w.cell? a = some v) : (Instr.loadAt 9 (.pointer (some a))).run Try.prog w = .ok v w := r_load Try.underlying9 rfl h
theorem r_ld_91 {w : World} {a : Addr} {v : Value} (h : w.cell? a = some v) : (Instr.loadAt 91 (.pointer (some a))).run Try.prog w = .ok v w := r_load Try.underlying91 rfl h
theorem r_neqb_4 {w : World} {x y : Operand} {a b : Bool} : (do eqGuard .neq 4 x y (.bool a) (.bool b); binOp .neq 4 (.bool a) (.bool b)).run Try.prog w = .ok (.bool (a != b)) w := r_neqBool Try.underlying4
theorem r_sn_37 {w : World} {t' : TypeId} {old : Array Value} {v : Value} (hn : v.cells.size = 5) (ho : old.size = 5) (h1 : ∀ u ∈ v.cells.toList, oneC u = true) : (Instr.storeAt 37 (.pointer (some ⟨w.heap.size, 0, none⟩)) v).run Try.prog (w.alloc (.cells old t')) = .ok () (w.alloc (.cells v.cells t')) := r_storeNew inf37 hn ho h1
theorem r_sn_44 {w : World} {t' : TypeId} {old : Array Value} {v : Value} (hn : v.cells.size = 7) (ho : old.size = 7) (h1 : ∀ u ∈ v.cells.toList, oneC u = true) : (Instr.storeAt 44 (.pointer (some ⟨w.heap.size, 0, none⟩)) v).run Try.prog (w.alloc (.cells old t')) = .ok () (w.alloc (.cells v.cells t')) := r_storeNew inf44 hn ho h1
theorem r_sn_64 {w : World} {t' : TypeId} {old : Array Value} {v : Value} (hn : v.cells.size = 6) (ho : old.size = 6) (h1 : ∀ u ∈ v.cells.toList, oneC u = true) : (Instr.storeAt 64 (.pointer (some ⟨w.heap.size, 0, none⟩)) v).run Try.prog (w.alloc (.cells old t')) = .ok () (w.alloc (.cells v.cells t')) := r_storeNew inf64 hn ho h1
theorem U_st_22 {w : World} {b off : Nat} {v : Value} {K : Value → World → Prop} (hv : oneC v = true) (h : (w.cell? ⟨b, off, none⟩).isSome = true) (hf : w.frozen? ⟨b, off, none⟩ = false) : U Try.prog (Instr.storeAt 22 (.pointer (some ⟨b, off, none⟩)) v) w K ↔ K undef (w.setCell ⟨b, off, none⟩ v) := V_store inf22 hv h hf
theorem U_st_5 {w : World} {b off : Nat} {v : Value} {K : Value → World → Prop} (hv : oneC v = true) (h : (w.cell? ⟨b, off, none⟩).isSome = true) (hf : w.frozen? ⟨b, off, none⟩ = false) : U Try.prog (Instr.storeAt 5 (.pointer (some ⟨b, off, none⟩)) v) w K ↔ K undef (w.setCell ⟨b, off, none⟩ v) := V_store inf5 hv h hf
theorem U_st_62 {w : World} {b off : Nat} {v : Value} {K : Value → World → Prop} (hv : oneC v = true) (h : (w.cell? ⟨b, off, none⟩).isSome = true) (hf : w.frozen? ⟨b, off, none⟩ = false) : U Try.prog (Instr.storeAt 62 (.pointer (some ⟨b, off, none⟩)) v) w K ↔ K undef (w.setCell ⟨b, off, none⟩ v) := V_store inf62 hv h hf
theorem U_st_72 {w : World} {b off : Nat} {v : Value} {K : Value → World → Prop} (hv : oneC v = true) (h : (w.cell? ⟨b, off, none⟩).isSome = true) (hf : w.frozen? ⟨b, off, none⟩ = false) : U Try.prog (Instr.storeAt 72 (.pointer (some ⟨b, off, none⟩)) v) w K ↔ K undef (w.setCell ⟨b, off, none⟩ v) := V_store inf72 hv h hf
theorem U_st_9 {w : World} {b off : Nat} {v : Value} {K : Value → World → Prop} (hv : oneC v = true) (h : (w.cell? ⟨b, off, none⟩).isSome = true) (hf : w.frozen? ⟨b, off, none⟩ = false) : U Try.prog (Instr.storeAt 9 (.pointer (some ⟨b, off, none⟩)) v) w K ↔ K undef (w.setCell ⟨b, off, none⟩ v) := V_store inf9 hv h hf
theorem U_st_91 {w : World} {b off : Nat} {v : Value} {K : Value → World → Prop} (hv : oneC v = true) (h : (w.cell? ⟨b, off, none⟩).isSome = true) (hf : w.frozen? ⟨b, off, none⟩ = false) : U Try.prog (Instr.storeAt 91 (.pointer (some ⟨b, off, none⟩)) v) w K ↔ K undef (w.setCell ⟨b, off, none⟩ v) := V_store inf91 hv h hf
theorem V_al_37 {w : World} {K : Value → World → Prop} : V Try.prog (Instr.alloc 37 true (.tuple #[])) w K ↔ K (.pointer (some ⟨w.heap.size, 0, none⟩)) (w.alloc (.cells (Value.cells (.agg #[(.int .i64 0), (.int .i64 0), (.int .i64 0), (.bool false), (.slice none 0 0)])) 37)) := V.iff (r_alloc inf37)
theorem V_al_42 {w : World} {K : Value → World → Prop} : V Try.prog (Instr.alloc 42 true (.tuple #[])) w K ↔ K (.pointer (some ⟨w.heap.size, 0, none⟩)) (w.alloc (.cells (Value.cells (.agg #[(.string ByteArray.empty), (.string ByteArray.empty)])) 42)) := V.iff (r_alloc inf42)
theorem V_al_44 {w : World} {K : Value → World → Prop} : V Try.prog (Instr.alloc 44 true (.tuple #[])) w K ↔ K (.pointer (some ⟨w.heap.size, 0, none⟩)) (w.alloc (.cells (Value.cells (.agg #[(.int .i64 0), (.int .i64 0), (.int .i64 0), (.int .i64 0), (.slice none 0 0), (.slice none 0 0), (.slice none 0 0)])) 44)) := V.iff (r_alloc inf44)
theorem V_al_64 {w : World} {K : Value → World → Prop} : V Try.prog (Instr.alloc 64 true (.tuple #[])) w K ↔ K (.pointer (some ⟨w.heap.size, 0, none⟩)) (w.alloc (.cells (Value.cells (.agg #[(.pointer none), (.pointer none), (.int .i64 0), (.int .i64 0), (.int .i64 0), (.slice none 0 0)])) 64)) := V.iff (r_alloc inf64)
theorem V_as_37 {w : World} {v : Value} {K : Value → World → Prop} (hn : v.cells.size = 5) (h1 : ∀ u ∈ v.cells.toList, oneC u = true) : V Try.prog (Instr.alloc 37 true (.tuple #[])) w (fun p w1 => U Try.prog (Instr.storeAt 37 p v) w1 fun _ w2 => K p w2) ↔ K (.pointer (some ⟨w.heap.size, 0, none⟩)) (w.alloc (.cells v.cells 37)) := V_allocStore inf37 (by decide) hn h1
theorem V_as_42 {w : World} {v : Value} {K : Value → World → Prop} (hn : v.cells.size = 2) (h1 : ∀ u ∈ v.cells.toList, oneC u = true) : V Try.prog (Instr.alloc 42 true (.tuple #[])) w (fun p w1 => U Try.prog (Instr.storeAt 42 p v) w1 fun _ w2 => K p w2) ↔ K (.pointer (some ⟨w.heap.size, 0, none⟩)) (w.alloc (.cells v.cells 42)) := V_allocStore inf42 (by decide) hn h1
theorem V_as_44 {w : World} {v : Value} {K : Value → World → Prop} (hn : v.cells.size = 7) (h1 : ∀ u ∈ v.cells.toList, oneC u = true) : V Try.prog (Instr.alloc 44 true (.tuple #[])) w (fun p w1 => U Try.prog (Instr.storeAt 44 p v) w1 fun _ w2 => K p w2) ↔ K (.pointer (some ⟨w.heap.size, 0, none⟩)) (w.alloc (.cells v.cells 44)) := V_allocStore inf44 (by decide) hn h1
theorem V_as_64 {w : World} {v : Value} {K : Value → World → Prop} (hn : v.cells.size = 6) (h1 : ∀ u ∈ v.cells.toList, oneC u = true) : V Try.prog (Instr.alloc 64 true (.tuple #[])) w (fun p w1 => U Try.prog (Instr.storeAt 64 p v) w1 fun _ w2 => K p w2) ↔ K (.pointer (some ⟨w.heap.size, 0, none⟩)) (w.alloc (.cells v.cells 64)) := V_allocStore inf64 (by decide) hn h1
theorem V_bs_22_0 {w : World} {K : Value → World → Prop} : V Try.prog (Instr.buildSlice 22 0 #[]) w K ↔ K (.slice (some ⟨w.heap.size, 0, none⟩) 0 0) (w.alloc (.cells #[] 5)) := V.iff (r_buildSlice Try.underlying22 inf5 rfl [] (by simp) (by simp))
theorem V_bs_35_1 {w : World} {v0 : Value} {K : Value → World → Prop} (h0 : oneC v0 = true) : V Try.prog (Instr.buildSlice 35 1 #[(0, v0)]) w K ↔ K (.slice (some ⟨w.heap.size, 0, none⟩) 1 1) (w.alloc (.cells #[v0] 21)) := V.iff (r_buildSlice Try.underlying35 inf21 rfl [v0] (by simp) (by simp [h0]))
theorem V_bs_35_2 {w : World} {v0 v1 : Value} {K : Value → World → Prop} (h0 : oneC v0 = true) (h1 : oneC v1 = true) : V Try.prog (Instr.buildSlice 35 2 #[(0, v0), (1, v1)]) w K ↔ K (.slice (some ⟨w.heap.size, 0, none⟩) 2 2) (w.alloc (.cells #[v0, v1] 21)) := V.iff (r_buildSlice Try.underlying35 inf21 rfl [v0, v1] (by simp) (by simp [h0, h1]))
theorem V_bs_35_3 {w : World} {v0 v1 v2 : Value} {K : Value → World → Prop} (h0 : oneC v0 = true) (h1 : oneC v1 = true) (h2 : oneC v2 = true) : V Try.prog (Instr.buildSlice 35 3 #[(0, v0), (1, v1), (2, v2)]) w K ↔ K (.slice (some ⟨w.heap.size, 0, none⟩) 3 3) (w.alloc (.cells #[v0, v1, v2] 21)) := V.iff (r_buildSlice Try.underlying35 inf21 rfl [v0, v1, v2] (by simp) (by simp [h0, h1, h2]))
theorem V_bs_35_5 {w : World} {v0 v1 v2 v3 v4 : Value} {K : Value → World → Prop} (h0 : oneC v0 = true) (h1 : oneC v1 = true) (h2 : oneC v2 = true) (h3 : oneC v3 = true) (h4 : oneC v4 = true) : V Try.prog (Instr.buildSlice 35 5 #[(0, v0), (1, v1), (2, v2), (3, v3), (4, v4)]) w K ↔ K (.slice (some ⟨w.heap.size, 0, none⟩) 5 5) (w.alloc (.cells #[v0, v1, v2, v3, v4] 21)) := V.iff (r_buildSlice Try.underlying35 inf21 rfl [v0, v1, v2, v3, v4] (by simp) (by simp [h0, h1, h2, h3, h4]))
theorem V_bs_62_1 {w : World} {v0 : Value} {K : Value → World → Prop} (h0 : oneC v0 = true) : V Try.prog (Instr.buildSlice 62 1 #[(0, v0)]) w K ↔ K (.slice (some ⟨w.heap.size, 0, none⟩) 1 1) (w.alloc (.cells #[v0] 3)) := V.iff (r_buildSlice Try.underlying62 inf3 rfl [v0] (by simp) (by simp [h0]))
theorem V_bx_37 {w : World} {v : Value} {K : Value → World → Prop} : V Try.prog (Instr.box 37 v) w K ↔ K (.pointer (some ⟨w.heap.size, 0, none⟩)) (w.alloc (.cells v.cells 37)) := V.iff r_box
theorem V_bx_59 {w : World} {v : Value} {K : Value → World → Prop} : V Try.prog (Instr.box 59 v) w K ↔ K (.pointer (some ⟨w.heap.size, 0, none⟩)) (w.alloc (.cells v.cells 59)) := V.iff r_box
theorem V_bx_64 {w : World} {v : Value} {K : Value → World → Prop} : V Try.prog (Instr.box 64 v) w K ↔ K (.pointer (some ⟨w.heap.size, 0, none⟩)) (w.alloc (.cells v.cells 64)) := V.iff r_box
theorem V_bx_74 {w : World} {v : Value} {K : Value → World → Prop} : V Try.prog (Instr.box 74 v) w K ↔ K (.pointer (some ⟨w.heap.size, 0, none⟩)) (w.alloc (.cells v.cells 74)) := V.iff r_box
theorem V_cv_21_2 {w : World} {k : IntKind} {n : Int} {K : Value → World → Prop} : V Try.prog (convert 21 2 (.int k n)) w K ↔ K (.int .i64 (IntKind.wrap .i64 n)) w := V.iff (r_convI Try.underlying21 Try.underlying2)
theorem V_cv_21_3 {w : World} {k : IntKind} {n : Int} {K : Value → World → Prop} : V Try.prog (convert 21 3 (.int k n)) w K ↔ K (.int .i64 (IntKind.wrap .i64 n)) w := V.iff (r_convI Try.underlying21 Try.underlying3)
theorem V_cv_21_97 {w : World} {k : IntKind} {n : Int} {K : Value → World → Prop} : V Try.prog (convert 21 97 (.int k n)) w K ↔ K (.int .u32 (IntKind.wrap .u32 n)) w := V.iff (r_convI Try.underlying21 Try.underlying97)
theorem V_cv_2_21 {w : World} {k : IntKind} {n : Int} {K : Value → World → Prop} : V Try.prog (convert 2 21 (.int k n)) w K ↔ K (.int .i32 (IntKind.wrap .i32 n)) w := V.iff (r_convI Try.underlying2 Try.underlying21)
theorem V_cv_3_21 {w : World} {k : IntKind} {n : Int} {K : Value → World → Prop} : V Try.prog (convert 3 21 (.int k n)) w K ↔ K (.int .i32 (IntKind.wrap .i32 n)) w := V.iff (r_convI Try.underlying3 Try.underlying21)
theorem V_cv_3_5 {w : World} {k : IntKind} {n : Int} {K : Value → World → Prop} : V Try.prog (convert 3 5 (.int k n)) w K ↔ K (.int .u8 (IntKind.wrap .u8 n)) w := V.iff (r_convI Try.underlying3 Try.underlying5)
theorem V_cv_5_21 {w : World} {k : IntKind} {n : Int} {K : Value → World → Prop} : V Try.prog (convert 5 21 (.int k n)) w K ↔ K (.int .i32 (IntKind.wrap .i32 n)) w := V.iff (r_convI Try.underlying5 Try.underlying21)
theorem V_cv_97_21 {w : World} {k : IntKind} {n : Int} {K : Value → World → Prop} : V Try.prog (convert 97 21 (.int k n)) w K ↔ K (.int .i32 (IntKind.wrap .i32 n)) w := V.iff (r_convI Try.underlying97 Try.underlying21)
theorem V_eqb_4 {w : World} {x y : Operand} {a b : Bool} {K : Value → World → Prop} : V Try.prog (do eqGuard .eql 4 x y (.bool a) (.bool b); binOp .eql 4 (.bool a) (.bool b)) w K ↔ K (.bool (a == b)) w := V.iff (r_eqBool Try.underlying4)
theorem V_eqns_22 {w : World} {x y : Operand} {a : Option Addr} {n c : Nat} {K : Value → World → Prop} : V Try.prog (do eqGuard .eql 22 x y (.slice a n c) (.slice none 0 0); binOp .eql 22 (.slice a n c) (.slice none 0 0)) w K ↔ K (.bool a.isNone) w := V.iff (r_eqNilSlice Try.underlying22)
theorem V_fd_37_0 {w : World} {b off : Nat} {K : Value → World → Prop} : V Try.prog (Instr.fieldAt 37 (.pointer (some ⟨b, off, none⟩)) 0) w K ↔ K (.pointer (some ⟨b, off + 0, none⟩)) w := V.iff (r_fd_37_0)
theorem V_fd_37_1 {w : World} {b off : Nat} {K : Value → World → Prop} : V Try.prog (Instr.fieldAt 37 (.pointer (some ⟨b, off, none⟩)) 1) w K ↔ K (.pointer (some ⟨b, off + 1, none⟩)) w := V.iff (r_fd_37_1)
theorem V_fd_37_2 {w : World} {b off : Nat} {K : Value → World → Prop} : V Try.prog (Instr.fieldAt 37 (.pointer (some ⟨b, off, none⟩)) 2) w K ↔ K (.pointer (some ⟨b, off + 2, none⟩)) w := V.iff (r_fd_37_2)
theorem V_fd_37_3 {w : World} {b off : Nat} {K : Value → World → Prop} : V Try.prog (Instr.fieldAt 37 (.pointer (some ⟨b, off, none⟩)) 3) w K ↔ K (.pointer (some ⟨b, off + 3, none⟩)) w := V.iff (r_fd_37_3)
theorem V_fd_37_4 {w : World} {b off : Nat} {K : Value → World → Prop} : V Try.prog (Instr.fieldAt 37 (.pointer (some ⟨b, off, none⟩)) 4) w K ↔ K (.pointer (some ⟨b, off + 4, none⟩)) w := V.iff (r_fd_37_4)
theorem V_fd_44_0 {w : World} {b off : Nat} {K : Value → World → Prop} : V Try.prog (Instr.fieldAt 44 (.pointer (some ⟨b, off, none⟩)) 0) w K ↔ K (.pointer (some ⟨b, off + 0, none⟩)) w := V.iff (r_fd_44_0)
theorem V_fd_44_1 {w : World} {b off : Nat} {K : Value → World → Prop} : V Try.prog (Instr.fieldAt 44 (.pointer (some ⟨b, off, none⟩)) 1) w K ↔ K (.pointer (some ⟨b, off + 1, none⟩)) w := V.iff (r_fd_44_1)
theorem V_fd_44_2 {w : World} {b off : Nat} {K : Value → World → Prop} : V Try.prog (Instr.fieldAt 44 (.pointer (some ⟨b, off, none⟩)) 2) w K ↔ K (.pointer (some ⟨b, off + 2, none⟩)) w := V.iff (r_fd_44_2)
theorem V_fd_44_3 {w : World} {b off : Nat} {K : Value → World → Prop} : V Try.prog (Instr.fieldAt 44 (.pointer (some ⟨b, off, none⟩)) 3) w K ↔ K (.pointer (some ⟨b, off + 3, none⟩)) w := V.iff (r_fd_44_3)
theorem V_fd_44_4 {w : World} {b off : Nat} {K : Value → World → Prop} : V Try.prog (Instr.fieldAt 44 (.pointer (some ⟨b, off, none⟩)) 4) w K ↔ K (.pointer (some ⟨b, off + 4, none⟩)) w := V.iff (r_fd_44_4)
theorem V_fd_59_0 {w : World} {b off : Nat} {K : Value → World → Prop} : V Try.prog (Instr.fieldAt 59 (.pointer (some ⟨b, off, none⟩)) 0) w K ↔ K (.pointer (some ⟨b, off + 0, none⟩)) w := V.iff (r_fd_59_0)
theorem V_fd_59_3 {w : World} {b off : Nat} {K : Value → World → Prop} : V Try.prog (Instr.fieldAt 59 (.pointer (some ⟨b, off, none⟩)) 3) w K ↔ K (.pointer (some ⟨b, off + 3, none⟩)) w := V.iff (r_fd_59_3)
theorem V_fd_59_4 {w : World} {b off : Nat} {K : Value → World → Prop} : V Try.prog (Instr.fieldAt 59 (.pointer (some ⟨b, off, none⟩)) 4) w K ↔ K (.pointer (some ⟨b, off + 4, none⟩)) w := V.iff (r_fd_59_4)
theorem V_fd_64_0 {w : World} {b off : Nat} {K : Value → World → Prop} : V Try.prog (Instr.fieldAt 64 (.pointer (some ⟨b, off, none⟩)) 0) w K ↔ K (.pointer (some ⟨b, off + 0, none⟩)) w := V.iff (r_fd_64_0)
theorem V_fd_64_1 {w : World} {b off : Nat} {K : Value → World → Prop} : V Try.prog (Instr.fieldAt 64 (.pointer (some ⟨b, off, none⟩)) 1) w K ↔ K (.pointer (some ⟨b, off + 1, none⟩)) w := V.iff (r_fd_64_1)
theorem V_fd_64_2 {w : World} {b off : Nat} {K : Value → World → Prop} : V Try.prog (Instr.fieldAt 64 (.pointer (some ⟨b, off, none⟩)) 2) w K ↔ K (.pointer (some ⟨b, off + 2, none⟩)) w := V.iff (r_fd_64_2)
theorem V_fd_64_3 {w : World} {b off : Nat} {K : Value → World → Prop} : V Try.prog (Instr.fieldAt 64 (.pointer (some ⟨b, off, none⟩)) 3) w K ↔ K (.pointer (some ⟨b, off + 3, none⟩)) w := V.iff (r_fd_64_3)
theorem V_fd_64_4 {w : World} {b off : Nat} {K : Value → World → Prop} : V Try.prog (Instr.fieldAt 64 (.pointer (some ⟨b, off, none⟩)) 4) w K ↔ K (.pointer (some ⟨b, off + 4, none⟩)) w := V.iff (r_fd_64_4)
theorem V_fd_64_5 {w : World} {b off : Nat} {K : Value → World → Prop} : V Try.prog (Instr.fieldAt 64 (.pointer (some ⟨b, off, none⟩)) 5) w K ↔ K (.pointer (some ⟨b, off + 5, none⟩)) w := V.iff (r_fd_64_5)
theorem V_fd_74_0 {w : World} {b off : Nat} {K : Value → World → Prop} : V Try.prog (Instr.fieldAt 74 (.pointer (some ⟨b, off, none⟩)) 0) w K ↔ K (.pointer (some ⟨b, off + 0, none⟩)) w := V.iff (r_fd_74_0)
theorem V_fd_74_1 {w : World} {b off : Nat} {K : Value → World → Prop} : V Try.prog (Instr.fieldAt 74 (.pointer (some ⟨b, off, none⟩)) 1) w K ↔ K (.pointer (some ⟨b, off + 1, none⟩)) w := V.iff (r_fd_74_1)
theorem V_fd_93_0 {w : World} {b off : Nat} {K : Value → World → Prop} : V Try.prog (Instr.fieldAt 93 (.pointer (some ⟨b, off, none⟩)) 0) w K ↔ K (.pointer (some ⟨b, off + 0, none⟩)) w := V.iff (r_fd_93_0)
theorem V_ix_22 {w : World} {b off len cap : Nat} {k : IntKind} {i : Int} {K : Value → World → Prop} (h0 : 0 ≤ i) (h1 : i < len) : V Try.prog (Instr.indexAt 22 (.slice (some ⟨b, off, none⟩) len cap) (.int k i)) w K ↔ K (.pointer (some ⟨b, off + i.toNat * 1, none⟩)) w := V.iff (r_ix_22 h0 h1)
theorem V_ix_35 {w : World} {b off len cap : Nat} {k : IntKind} {i : Int} {K : Value → World → Prop} (h0 : 0 ≤ i) (h1 : i < len) : V Try.prog (Instr.indexAt 35 (.slice (some ⟨b, off, none⟩) len cap) (.int k i)) w K ↔ K (.pointer (some ⟨b, off + i.toNat * 1, none⟩)) w := V.iff (r_ix_35 h0 h1)
theorem V_ix_41 {w : World} {b off len cap : Nat} {k : IntKind} {i : Int} {K : Value → World → Prop} (h0 : 0 ≤ i) (h1 : i < len) : V Try.prog (Instr.indexAt 41 (.slice (some ⟨b, off, none⟩) len cap) (.int k i)) w K ↔ K (.pointer (some ⟨b, off + i.toNat * 7, none⟩)) w := V.iff (r_ix_41 h0 h1)
theorem V_ix_62 {w : World} {b off len cap : Nat} {k : IntKind} {i : Int} {K : Value → World → Prop} (h0 : 0 ≤ i) (h1 : i < len) : V Try.prog (Instr.indexAt 62 (.slice (some ⟨b, off, none⟩) len cap) (.int k i)) w K ↔ K (.pointer (some ⟨b, off + i.toNat * 1, none⟩)) w := V.iff (r_ix_62 h0 h1)
theorem V_ix_72 {w : World} {b off len cap : Nat} {k : IntKind} {i : Int} {K : Value → World → Prop} (h0 : 0 ≤ i) (h1 : i < len) : V Try.prog (Instr.indexAt 72 (.slice (some ⟨b, off, none⟩) len cap) (.int k i)) w K ↔ K (.pointer (some ⟨b, off + i.toNat * 5, none⟩)) w := V.iff (r_ix_72 h0 h1)
theorem V_ld_21 {w : World} {a : Addr} {K : Value → World → Prop} : V Try.prog (Instr.loadAt 21 (.pointer (some a))) w K ↔ ldO Try.prog 21 a (w.cell? a) w K := V_load Try.underlying21 rfl
theorem V_ld_22 {w : World} {a : Addr} {K : Value → World → Prop} : V Try.prog (Instr.loadAt 22 (.pointer (some a))) w K ↔ ldO Try.prog 22 a (w.cell? a) w K := V_load Try.underlying22 rfl
theorem V_ld_23 {w : World} {a : Addr} {K : Value → World → Prop} : V Try.prog (Instr.loadAt 23 (.pointer (some a))) w K ↔ ldO Try.prog 23 a (w.cell? a) w K := V_load Try.underlying23 rfl
theorem V_ld_29 {w : World} {a : Addr} {K : Value → World → Prop} : V Try.prog (Instr.loadAt 29 (.pointer (some a))) w K ↔ ldO Try.prog 29 a (w.cell? a) w K := V_load Try.underlying29 rfl
theorem V_ld_3 {w : World} {a : Addr} {K : Value → World → Prop} : V Try.prog (Instr.loadAt 3 (.pointer (some a))) w K ↔ ldO Try.prog 3 a (w.cell? a) w K := V_load Try.underlying3 rfl
theorem V_ld_35 {w : World} {a : Addr} {K : Value → World → Prop} : V Try.prog (Instr.loadAt 35 (.pointer (some a))) w K ↔ ldO Try.prog 35 a (w.cell? a) w K := V_load Try.underlying35 rfl
theorem V_ld_4 {w : World} {a : Addr} {K : Value → World → Prop} : V Try.prog (Instr.loadAt 4 (.pointer (some a))) w K ↔ ldO Try.prog 4 a (w.cell? a) w K := V_load Try.underlying4 rfl
theorem V_ld_5 {w : World} {a : Addr} {K : Value → World → Prop} : V Try.prog (Instr.loadAt 5 (.pointer (some a))) w K ↔ ldO Try.prog 5 a (w.cell? a) w K := V_load Try.underlying5 rfl
theorem V_ld_61 {w : World} {a : Addr} {K : Value → World → Prop} : V Try.prog (Instr.loadAt 61 (.pointer (some a))) w K ↔ ldO Try.prog 61 a (w.cell? a) w K := V_load Try.underlying61 rfl
theorem V_ld_62 {w : World} {a : Addr} {K : Value → World → Prop} : V Try.prog (Instr.loadAt 62 (.pointer (some a))) w K ↔ ldO Try.prog 62 a (w.cell? a) w K := V_load Try.underlying62 rfl
theorem V_ld_72 {w : World} {a : Addr} {K : Value → World → Prop} : V Try.prog (Instr.loadAt 72 (.pointer (some a))) w K ↔ ldO Try.prog 72 a (w.cell? a) w K := V_load Try.underlying72 rfl
theorem V_ld_9 {w : World} {a : Addr} {K : Value → World → Prop} : V Try.prog (Instr.loadAt 9 (.pointer (some a))) w K ↔ ldO Try.prog 9 a (w.cell? a) w K := V_load Try.underlying9 rfl
theorem V_ld_91 {w : World} {a : Addr} {K : Value → World → Prop} : V Try.prog (Instr.loadAt 91 (.pointer (some a))) w K ↔ ldO Try.prog 91 a (w.cell? a) w K := V_load Try.underlying91 rfl
theorem V_ln_22 {w : World} {ty : TypeId} {a : Option Addr} {n c : Nat} {K : Value → World → Prop} : V Try.prog (Builtin.len_ #[22] ty #[.slice a n c]) w K ↔ K (.int .i64 n) w := V.iff (r_len Try.underlying22)
theorem V_ln_35 {w : World} {ty : TypeId} {a : Option Addr} {n c : Nat} {K : Value → World → Prop} : V Try.prog (Builtin.len_ #[35] ty #[.slice a n c]) w K ↔ K (.int .i64 n) w := V.iff (r_len Try.underlying35)
theorem V_ln_41 {w : World} {ty : TypeId} {a : Option Addr} {n c : Nat} {K : Value → World → Prop} : V Try.prog (Builtin.len_ #[41] ty #[.slice a n c]) w K ↔ K (.int .i64 n) w := V.iff (r_len Try.underlying41)
theorem V_ln_72 {w : World} {ty : TypeId} {a : Option Addr} {n c : Nat} {K : Value → World → Prop} : V Try.prog (Builtin.len_ #[72] ty #[.slice a n c]) w K ↔ K (.int .i64 n) w := V.iff (r_len Try.underlying72)
theorem V_ln_91 {w : World} {ty : TypeId} {a : Option Addr} {n c : Nat} {K : Value → World → Prop} : V Try.prog (Builtin.len_ #[91] ty #[.slice a n c]) w K ↔ K (.int .i64 n) w := V.iff (r_len Try.underlying91)
theorem V_neqb_4 {w : World} {x y : Operand} {a b : Bool} {K : Value → World → Prop} : V Try.prog (do eqGuard .neq 4 x y (.bool a) (.bool b); binOp .neq 4 (.bool a) (.bool b)) w K ↔ K (.bool (a != b)) w := V.iff (r_neqBool Try.underlying4)
theorem xa_22 : XA Try.prog 22 1 := ⟨_, _, _, Try.underlying22, inf5⟩
theorem xa_35 : XA Try.prog 35 1 := ⟨_, _, _, Try.underlying35, inf21⟩
theorem xa_41 : XA Try.prog 41 7 := ⟨_, _, _, Try.underlying41, inf44⟩
theorem xa_62 : XA Try.prog 62 1 := ⟨_, _, _, Try.underlying62, inf3⟩
theorem xa_72 : XA Try.prog 72 5 := ⟨_, _, _, Try.underlying72, inf37⟩
theorem xa_91 : XA Try.prog 91 4 := ⟨_, _, _, Try.underlying91, inf95⟩
theorem xe_22 : XE Try.prog 22 5 1 := ⟨_, Try.underlying22, inf5, rfl⟩
theorem xe_35 : XE Try.prog 35 21 4 := ⟨_, Try.underlying35, inf21, rfl⟩
theorem xe_62 : XE Try.prog 62 3 8 := ⟨_, Try.underlying62, inf3, rfl⟩
theorem sa_37 : SA Try.prog 37 5 := ⟨_, _, inf37, by decide⟩
theorem sa_42 : SA Try.prog 42 2 := ⟨_, _, inf42, by decide⟩
theorem sa_44 : SA Try.prog 44 7 := ⟨_, _, inf44, by decide⟩
theorem sa_64 : SA Try.prog 64 6 := ⟨_, _, inf64, by decide⟩
theorem fa_37_0 : FA Try.prog 37 0 0 := ⟨fun _ _ _ => r_field 3 0 Try.underlying37 rfl inf3 rfl⟩
theorem fa_37_1 : FA Try.prog 37 1 1 := ⟨fun _ _ _ => r_field 3 1 Try.underlying37 rfl inf3 rfl⟩
theorem fa_37_2 : FA Try.prog 37 2 2 := ⟨fun _ _ _ => r_field 3 2 Try.underlying37 rfl inf3 rfl⟩
theorem fa_37_3 : FA Try.prog 37 3 3 := ⟨fun _ _ _ => r_field 4 3 Try.underlying37 rfl inf4 rfl⟩
theorem fa_37_4 : FA Try.prog 37 4 4 := ⟨fun _ _ _ => r_field 22 4 Try.underlying37 rfl inf22 rfl⟩
theorem fa_44_0 : FA Try.prog 44 0 0 := ⟨fun _ _ _ => r_field 3 0 Try.underlying44 rfl inf3 rfl⟩
theorem fa_44_1 : FA Try.prog 44 1 1 := ⟨fun _ _ _ => r_field 3 1 Try.underlying44 rfl inf3 rfl⟩
theorem fa_44_2 : FA Try.prog 44 2 2 := ⟨fun _ _ _ => r_field 3 2 Try.underlying44 rfl inf3 rfl⟩
theorem fa_44_3 : FA Try.prog 44 3 3 := ⟨fun _ _ _ => r_field 3 3 Try.underlying44 rfl inf3 rfl⟩
theorem fa_44_4 : FA Try.prog 44 4 4 := ⟨fun _ _ _ => r_field 35 4 Try.underlying44 rfl inf35 rfl⟩
theorem fa_59_0 : FA Try.prog 59 0 0 := ⟨fun _ _ _ => r_field 29 0 Try.underlying59 rfl inf29 rfl⟩
theorem fa_59_3 : FA Try.prog 59 3 3 := ⟨fun _ _ _ => r_field 22 3 Try.underlying59 rfl inf22 rfl⟩
theorem fa_59_4 : FA Try.prog 59 4 4 := ⟨fun _ _ _ => r_field 22 4 Try.underlying59 rfl inf22 rfl⟩
theorem fa_64_0 : FA Try.prog 64 0 0 := ⟨fun _ _ _ => r_field 23 0 Try.underlying64 rfl inf23 rfl⟩
theorem fa_64_1 : FA Try.prog 64 1 1 := ⟨fun _ _ _ => r_field 61 1 Try.underlying64 rfl inf61 rfl⟩
theorem fa_64_2 : FA Try.prog 64 2 2 := ⟨fun _ _ _ => r_field 3 2 Try.underlying64 rfl inf3 rfl⟩
theorem fa_64_3 : FA Try.prog 64 3 3 := ⟨fun _ _ _ => r_field 3 3 Try.underlying64 rfl inf3 rfl⟩
theorem fa_64_4 : FA Try.prog 64 4 4 := ⟨fun _ _ _ => r_field 3 4 Try.underlying64 rfl inf3 rfl⟩
theorem fa_64_5 : FA Try.prog 64 5 5 := ⟨fun _ _ _ => r_field 62 5 Try.underlying64 rfl inf62 rfl⟩
theorem fa_74_0 : FA Try.prog 74 0 0 := ⟨fun _ _ _ => r_field 3 0 Try.underlying74 rfl inf3 rfl⟩
theorem fa_74_1 : FA Try.prog 74 1 1 := ⟨fun _ _ _ => r_field 72 1 Try.underlying74 rfl inf72 rfl⟩
theorem fa_93_0 : FA Try.prog 93 0 0 := ⟨fun _ _ _ => r_field 91 0 Try.underlying93 rfl inf91 rfl⟩
theorem l1_21 : L1 Try.prog 21 := ⟨_, Try.underlying21, rfl⟩
theorem l1_22 : L1 Try.prog 22 := ⟨_, Try.underlying22, rfl⟩
theorem l1_23 : L1 Try.prog 23 := ⟨_, Try.underlying23, rfl⟩
theorem l1_29 : L1 Try.prog 29 := ⟨_, Try.underlying29, rfl⟩
theorem l1_3 : L1 Try.prog 3 := ⟨_, Try.underlying3, rfl⟩
theorem l1_35 : L1 Try.prog 35 := ⟨_, Try.underlying35, rfl⟩
theorem l1_4 : L1 Try.prog 4 := ⟨_, Try.underlying4, rfl⟩
theorem l1_5 : L1 Try.prog 5 := ⟨_, Try.underlying5, rfl⟩
theorem l1_61 : L1 Try.prog 61 := ⟨_, Try.underlying61, rfl⟩
theorem l1_62 : L1 Try.prog 62 := ⟨_, Try.underlying62, rfl⟩
theorem l1_72 : L1 Try.prog 72 := ⟨_, Try.underlying72, rfl⟩
theorem l1_9 : L1 Try.prog 9 := ⟨_, Try.underlying9, rfl⟩
theorem l1_91 : L1 Try.prog 91 := ⟨_, Try.underlying91, rfl⟩
theorem la_37 : ∃ d z by_, Program.underlying Try.prog 37 = some d ∧ aggB d = true ∧ Inf Try.prog 37 z 5 by_ := ⟨_, _, _, Try.underlying37, rfl, inf37⟩
theorem la_44 : ∃ d z by_, Program.underlying Try.prog 44 = some d ∧ aggB d = true ∧ Inf Try.prog 44 z 7 by_ := ⟨_, _, _, Try.underlying44, rfl, inf44⟩
theorem la_64 : ∃ d z by_, Program.underlying Try.prog 64 = some d ∧ aggB d = true ∧ Inf Try.prog 64 z 6 by_ := ⟨_, _, _, Try.underlying64, rfl, inf64⟩
theorem bd_37 : BD Try.prog 37 [(.int .i64 0), (.int .i64 0), (.int .i64 0), (.bool false), (.slice none 0 0)] := ⟨_, _, Try.underlying37, inf37, fun w => by kernel_rfl⟩
theorem bd_59 : BD Try.prog 59 [(.pointer none), (.slice none 0 0), (.slice none 0 0), (.slice none 0 0), (.slice none 0 0)] := ⟨_, _, Try.underlying59, inf59, fun w => by kernel_rfl⟩
theorem bd_64 : BD Try.prog 64 [(.pointer none), (.pointer none), (.int .i64 0), (.int .i64 0), (.int .i64 0), (.slice none 0 0)] := ⟨_, _, Try.underlying64, inf64, fun w => by kernel_rfl⟩
theorem bd_74 : BD Try.prog 74 [(.int .i64 0), (.slice none 0 0)] := ⟨_, _, Try.underlying74, inf74, fun w => by kernel_rfl⟩
theorem bd_95 : BD Try.prog 95 [(.int .i64 0), (.int .i64 0), (.int .i64 0), (.int .i64 0)] := ⟨_, _, Try.underlying95, inf95, fun w => by kernel_rfl⟩
end Go.Proofs.Ytgjmpnngheohbaa
