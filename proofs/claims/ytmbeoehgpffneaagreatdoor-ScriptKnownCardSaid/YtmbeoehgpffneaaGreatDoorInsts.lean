/- The laws of single operations, at this program's types: by program (instgen.py). -/
import Derived.Test.YtmbeoehgpffneaaGreatDoorLaws2
import Derived.Test.YtmbeoehgpffneaaGreatDoorProg
import Derived.KernelRfl
namespace Go.Proofs.YtmbeoehgpffneaaGreatDoor
open Go.Vc
theorem inf3 : Inf Tryz.prog 3 (.int .i64 0) 1 8 := by unfold Inf; kernel_rfl
theorem inf5 : Inf Tryz.prog 5 (.int .u8 0) 1 1 := by unfold Inf; kernel_rfl
theorem inf9 : Inf Tryz.prog 9 (.string ByteArray.empty) 1 16 := by unfold Inf; kernel_rfl
theorem inf25 : Inf Tryz.prog 25 (.slice none 0 0) 1 24 := by unfold Inf; kernel_rfl
theorem inf27 : Inf Tryz.prog 27 (.agg #[(.int .i64 0), (.slice none 0 0), (.string ByteArray.empty), (.slice none 0 0), (.slice none 0 0), (.int .i64 0)]) 6 104 := by unfold Inf; kernel_rfl
theorem inf35 : Inf Tryz.prog 35 (.agg #[(.int .i64 0), (.slice none 0 0), (.slice none 0 0)]) 3 56 := by unfold Inf; kernel_rfl
theorem inf44 : Inf Tryz.prog 44 (.agg #[(.pointer none), (.slice none 0 0)]) 2 32 := by unfold Inf; kernel_rfl
theorem r_fd_27_0 {w : World} {b off : Nat} : (Instr.fieldAt 27 (.pointer (some ⟨b, off, none⟩)) 0).run Tryz.prog w = .ok (.pointer (some ⟨b, off + 0, none⟩)) w := r_field 3 0 Tryz.underlying27 rfl inf3 rfl
theorem r_fd_27_1 {w : World} {b off : Nat} : (Instr.fieldAt 27 (.pointer (some ⟨b, off, none⟩)) 1).run Tryz.prog w = .ok (.pointer (some ⟨b, off + 1, none⟩)) w := r_field 25 1 Tryz.underlying27 rfl inf25 rfl
theorem r_fd_27_2 {w : World} {b off : Nat} : (Instr.fieldAt 27 (.pointer (some ⟨b, off, none⟩)) 2).run Tryz.prog w = .ok (.pointer (some ⟨b, off + 2, none⟩)) w := r_field 9 2 Tryz.underlying27 rfl inf9 rfl
theorem r_fd_27_3 {w : World} {b off : Nat} : (Instr.fieldAt 27 (.pointer (some ⟨b, off, none⟩)) 3).run Tryz.prog w = .ok (.pointer (some ⟨b, off + 3, none⟩)) w := r_field 25 3 Tryz.underlying27 rfl inf25 rfl
theorem r_fd_27_4 {w : World} {b off : Nat} : (Instr.fieldAt 27 (.pointer (some ⟨b, off, none⟩)) 4).run Tryz.prog w = .ok (.pointer (some ⟨b, off + 4, none⟩)) w := r_field 25 4 Tryz.underlying27 rfl inf25 rfl
theorem r_fd_27_5 {w : World} {b off : Nat} : (Instr.fieldAt 27 (.pointer (some ⟨b, off, none⟩)) 5).run Tryz.prog w = .ok (.pointer (some ⟨b, off + 5, none⟩)) w := r_field 3 5 Tryz.underlying27 rfl inf3 rfl
theorem r_fd_35_0 {w : World} {b off : Nat} : (Instr.fieldAt 35 (.pointer (some ⟨b, off, none⟩)) 0).run Tryz.prog w = .ok (.pointer (some ⟨b, off + 0, none⟩)) w := r_field 3 0 Tryz.underlying35 rfl inf3 rfl
theorem r_fd_35_1 {w : World} {b off : Nat} : (Instr.fieldAt 35 (.pointer (some ⟨b, off, none⟩)) 1).run Tryz.prog w = .ok (.pointer (some ⟨b, off + 1, none⟩)) w := r_field 25 1 Tryz.underlying35 rfl inf25 rfl
theorem r_fd_35_2 {w : World} {b off : Nat} : (Instr.fieldAt 35 (.pointer (some ⟨b, off, none⟩)) 2).run Tryz.prog w = .ok (.pointer (some ⟨b, off + 2, none⟩)) w := r_field 25 2 Tryz.underlying35 rfl inf25 rfl
theorem r_ix_25 {w : World} {b off len cap : Nat} {k : IntKind} {i : Int} (h0 : 0 ≤ i) (h1 : i < len) : (Instr.indexAt 25 (.slice (some ⟨b, off, none⟩) len cap) (.int k i)).run Tryz.prog w = .ok (.pointer (some ⟨b, off + i.toNat * 1, none⟩)) w := r_index Tryz.underlying25 inf5 h0 h1
theorem r_ix_36 {w : World} {b off len cap : Nat} {k : IntKind} {i : Int} (h0 : 0 ≤ i) (h1 : i < len) : (Instr.indexAt 36 (.slice (some ⟨b, off, none⟩) len cap) (.int k i)).run Tryz.prog w = .ok (.pointer (some ⟨b, off + i.toNat * 1, none⟩)) w := r_index Tryz.underlying36 inf9 h0 h1
theorem r_ix_38 {w : World} {b off len cap : Nat} {k : IntKind} {i : Int} (h0 : 0 ≤ i) (h1 : i < len) : (Instr.indexAt 38 (.slice (some ⟨b, off, none⟩) len cap) (.int k i)).run Tryz.prog w = .ok (.pointer (some ⟨b, off + i.toNat * 6, none⟩)) w := r_index Tryz.underlying38 inf27 h0 h1
theorem r_la_27 {w : World} {b off : Nat} {cs : List Value} (hl : cs.length = 6) (h : ∀ j (_ : j < cs.length), w.cell? ⟨b, off + j, none⟩ = cs[j]?) : (Instr.loadAt 27 (.pointer (some ⟨b, off, none⟩))).run Tryz.prog w = .ok (.agg cs.toArray) w := r_loadAgg Tryz.underlying27 rfl inf27 hl h
theorem r_ld_25 {w : World} {a : Addr} {v : Value} (h : w.cell? a = some v) : (Instr.loadAt 25 (.pointer (some a))).run Tryz.prog w = .ok v w := r_load Tryz.underlying25 rfl h
theorem r_ld_3 {w : World} {a : Addr} {v : Value} (h : w.cell? a = some v) : (Instr.loadAt 3 (.pointer (some a))).run Tryz.prog w = .ok v w := r_load Tryz.underlying3 rfl h
theorem r_ld_5 {w : World} {a : Addr} {v : Value} (h : w.cell? a = some v) : (Instr.loadAt 5 (.pointer (some a))).run Tryz.prog w = .ok v w := r_load Tryz.underlying5 rfl h
theorem r_ld_9 {w : World} {a : Addr} {v : Value} (h : w.cell? a = some v) : (Instr.loadAt 9 (.pointer (some a))).run Tryz.prog w = .ok v w := r_load Tryz.underlying9 rfl h
theorem r_sn_27 {w : World} {t' : TypeId} {old : Array Value} {v : Value} (hn : v.cells.size = 6) (ho : old.size = 6) (h1 : ∀ u ∈ v.cells.toList, oneC u = true) : (Instr.storeAt 27 (.pointer (some ⟨w.heap.size, 0, none⟩)) v).run Tryz.prog (w.alloc (.cells old t')) = .ok () (w.alloc (.cells v.cells t')) := r_storeNew inf27 hn ho h1
theorem U_st_9 {w : World} {b off : Nat} {v : Value} {K : Value → World → Prop} (hv : oneC v = true) (h : (w.cell? ⟨b, off, none⟩).isSome = true) (hf : w.frozen? ⟨b, off, none⟩ = false) : U Tryz.prog (Instr.storeAt 9 (.pointer (some ⟨b, off, none⟩)) v) w K ↔ K undef (w.setCell ⟨b, off, none⟩ v) := V_store inf9 hv h hf
theorem V_al_27 {w : World} {K : Value → World → Prop} : V Tryz.prog (Instr.alloc 27 true (.tuple #[])) w K ↔ K (.pointer (some ⟨w.heap.size, 0, none⟩)) (w.alloc (.cells (Value.cells (.agg #[(.int .i64 0), (.slice none 0 0), (.string ByteArray.empty), (.slice none 0 0), (.slice none 0 0), (.int .i64 0)])) 27)) := V.iff (r_alloc inf27)
theorem V_al_44 {w : World} {K : Value → World → Prop} : V Tryz.prog (Instr.alloc 44 true (.tuple #[])) w K ↔ K (.pointer (some ⟨w.heap.size, 0, none⟩)) (w.alloc (.cells (Value.cells (.agg #[(.pointer none), (.slice none 0 0)])) 44)) := V.iff (r_alloc inf44)
theorem V_as_27 {w : World} {v : Value} {K : Value → World → Prop} (hn : v.cells.size = 6) (h1 : ∀ u ∈ v.cells.toList, oneC u = true) : V Tryz.prog (Instr.alloc 27 true (.tuple #[])) w (fun p w1 => U Tryz.prog (Instr.storeAt 27 p v) w1 fun _ w2 => K p w2) ↔ K (.pointer (some ⟨w.heap.size, 0, none⟩)) (w.alloc (.cells v.cells 27)) := V_allocStore inf27 (by decide) hn h1
theorem V_as_44 {w : World} {v : Value} {K : Value → World → Prop} (hn : v.cells.size = 2) (h1 : ∀ u ∈ v.cells.toList, oneC u = true) : V Tryz.prog (Instr.alloc 44 true (.tuple #[])) w (fun p w1 => U Tryz.prog (Instr.storeAt 44 p v) w1 fun _ w2 => K p w2) ↔ K (.pointer (some ⟨w.heap.size, 0, none⟩)) (w.alloc (.cells v.cells 44)) := V_allocStore inf44 (by decide) hn h1
theorem V_bs_25_1 {w : World} {v0 : Value} {K : Value → World → Prop} (h0 : oneC v0 = true) : V Tryz.prog (Instr.buildSlice 25 1 #[(0, v0)]) w K ↔ K (.slice (some ⟨w.heap.size, 0, none⟩) 1 1) (w.alloc (.cells #[v0] 5)) := V.iff (r_buildSlice Tryz.underlying25 inf5 rfl [v0] (by simp) (by simp [h0]))
theorem V_bs_36_1 {w : World} {v0 : Value} {K : Value → World → Prop} (h0 : oneC v0 = true) : V Tryz.prog (Instr.buildSlice 36 1 #[(0, v0)]) w K ↔ K (.slice (some ⟨w.heap.size, 0, none⟩) 1 1) (w.alloc (.cells #[v0] 9)) := V.iff (r_buildSlice Tryz.underlying36 inf9 rfl [v0] (by simp) (by simp [h0]))
theorem V_bx_27 {w : World} {v : Value} {K : Value → World → Prop} : V Tryz.prog (Instr.box 27 v) w K ↔ K (.pointer (some ⟨w.heap.size, 0, none⟩)) (w.alloc (.cells v.cells 27)) := V.iff r_box
theorem V_bx_35 {w : World} {v : Value} {K : Value → World → Prop} : V Tryz.prog (Instr.box 35 v) w K ↔ K (.pointer (some ⟨w.heap.size, 0, none⟩)) (w.alloc (.cells v.cells 35)) := V.iff r_box
theorem V_cv_21_3 {w : World} {k : IntKind} {n : Int} {K : Value → World → Prop} : V Tryz.prog (convert 21 3 (.int k n)) w K ↔ K (.int .i64 (IntKind.wrap .i64 n)) w := V.iff (r_convI Tryz.underlying21 Tryz.underlying3)
theorem V_cv_21_5 {w : World} {k : IntKind} {n : Int} {K : Value → World → Prop} : V Tryz.prog (convert 21 5 (.int k n)) w K ↔ K (.int .u8 (IntKind.wrap .u8 n)) w := V.iff (r_convI Tryz.underlying21 Tryz.underlying5)
theorem V_cv_3_5 {w : World} {k : IntKind} {n : Int} {K : Value → World → Prop} : V Tryz.prog (convert 3 5 (.int k n)) w K ↔ K (.int .u8 (IntKind.wrap .u8 n)) w := V.iff (r_convI Tryz.underlying3 Tryz.underlying5)
theorem V_fd_27_0 {w : World} {b off : Nat} {K : Value → World → Prop} : V Tryz.prog (Instr.fieldAt 27 (.pointer (some ⟨b, off, none⟩)) 0) w K ↔ K (.pointer (some ⟨b, off + 0, none⟩)) w := V.iff (r_fd_27_0)
theorem V_fd_27_1 {w : World} {b off : Nat} {K : Value → World → Prop} : V Tryz.prog (Instr.fieldAt 27 (.pointer (some ⟨b, off, none⟩)) 1) w K ↔ K (.pointer (some ⟨b, off + 1, none⟩)) w := V.iff (r_fd_27_1)
theorem V_fd_27_2 {w : World} {b off : Nat} {K : Value → World → Prop} : V Tryz.prog (Instr.fieldAt 27 (.pointer (some ⟨b, off, none⟩)) 2) w K ↔ K (.pointer (some ⟨b, off + 2, none⟩)) w := V.iff (r_fd_27_2)
theorem V_fd_27_3 {w : World} {b off : Nat} {K : Value → World → Prop} : V Tryz.prog (Instr.fieldAt 27 (.pointer (some ⟨b, off, none⟩)) 3) w K ↔ K (.pointer (some ⟨b, off + 3, none⟩)) w := V.iff (r_fd_27_3)
theorem V_fd_27_4 {w : World} {b off : Nat} {K : Value → World → Prop} : V Tryz.prog (Instr.fieldAt 27 (.pointer (some ⟨b, off, none⟩)) 4) w K ↔ K (.pointer (some ⟨b, off + 4, none⟩)) w := V.iff (r_fd_27_4)
theorem V_fd_27_5 {w : World} {b off : Nat} {K : Value → World → Prop} : V Tryz.prog (Instr.fieldAt 27 (.pointer (some ⟨b, off, none⟩)) 5) w K ↔ K (.pointer (some ⟨b, off + 5, none⟩)) w := V.iff (r_fd_27_5)
theorem V_fd_35_0 {w : World} {b off : Nat} {K : Value → World → Prop} : V Tryz.prog (Instr.fieldAt 35 (.pointer (some ⟨b, off, none⟩)) 0) w K ↔ K (.pointer (some ⟨b, off + 0, none⟩)) w := V.iff (r_fd_35_0)
theorem V_fd_35_1 {w : World} {b off : Nat} {K : Value → World → Prop} : V Tryz.prog (Instr.fieldAt 35 (.pointer (some ⟨b, off, none⟩)) 1) w K ↔ K (.pointer (some ⟨b, off + 1, none⟩)) w := V.iff (r_fd_35_1)
theorem V_fd_35_2 {w : World} {b off : Nat} {K : Value → World → Prop} : V Tryz.prog (Instr.fieldAt 35 (.pointer (some ⟨b, off, none⟩)) 2) w K ↔ K (.pointer (some ⟨b, off + 2, none⟩)) w := V.iff (r_fd_35_2)
theorem V_ix_25 {w : World} {b off len cap : Nat} {k : IntKind} {i : Int} {K : Value → World → Prop} (h0 : 0 ≤ i) (h1 : i < len) : V Tryz.prog (Instr.indexAt 25 (.slice (some ⟨b, off, none⟩) len cap) (.int k i)) w K ↔ K (.pointer (some ⟨b, off + i.toNat * 1, none⟩)) w := V.iff (r_ix_25 h0 h1)
theorem V_ix_36 {w : World} {b off len cap : Nat} {k : IntKind} {i : Int} {K : Value → World → Prop} (h0 : 0 ≤ i) (h1 : i < len) : V Tryz.prog (Instr.indexAt 36 (.slice (some ⟨b, off, none⟩) len cap) (.int k i)) w K ↔ K (.pointer (some ⟨b, off + i.toNat * 1, none⟩)) w := V.iff (r_ix_36 h0 h1)
theorem V_ix_38 {w : World} {b off len cap : Nat} {k : IntKind} {i : Int} {K : Value → World → Prop} (h0 : 0 ≤ i) (h1 : i < len) : V Tryz.prog (Instr.indexAt 38 (.slice (some ⟨b, off, none⟩) len cap) (.int k i)) w K ↔ K (.pointer (some ⟨b, off + i.toNat * 6, none⟩)) w := V.iff (r_ix_38 h0 h1)
theorem V_ld_25 {w : World} {a : Addr} {K : Value → World → Prop} : V Tryz.prog (Instr.loadAt 25 (.pointer (some a))) w K ↔ ldO Tryz.prog 25 a (w.cell? a) w K := V_load Tryz.underlying25 rfl
theorem V_ld_3 {w : World} {a : Addr} {K : Value → World → Prop} : V Tryz.prog (Instr.loadAt 3 (.pointer (some a))) w K ↔ ldO Tryz.prog 3 a (w.cell? a) w K := V_load Tryz.underlying3 rfl
theorem V_ld_5 {w : World} {a : Addr} {K : Value → World → Prop} : V Tryz.prog (Instr.loadAt 5 (.pointer (some a))) w K ↔ ldO Tryz.prog 5 a (w.cell? a) w K := V_load Tryz.underlying5 rfl
theorem V_ld_9 {w : World} {a : Addr} {K : Value → World → Prop} : V Tryz.prog (Instr.loadAt 9 (.pointer (some a))) w K ↔ ldO Tryz.prog 9 a (w.cell? a) w K := V_load Tryz.underlying9 rfl
theorem V_ln_25 {w : World} {ty : TypeId} {a : Option Addr} {n c : Nat} {K : Value → World → Prop} : V Tryz.prog (Builtin.len_ #[25] ty #[.slice a n c]) w K ↔ K (.int .i64 n) w := V.iff (r_len Tryz.underlying25)
theorem V_ln_36 {w : World} {ty : TypeId} {a : Option Addr} {n c : Nat} {K : Value → World → Prop} : V Tryz.prog (Builtin.len_ #[36] ty #[.slice a n c]) w K ↔ K (.int .i64 n) w := V.iff (r_len Tryz.underlying36)
theorem V_ln_38 {w : World} {ty : TypeId} {a : Option Addr} {n c : Nat} {K : Value → World → Prop} : V Tryz.prog (Builtin.len_ #[38] ty #[.slice a n c]) w K ↔ K (.int .i64 n) w := V.iff (r_len Tryz.underlying38)
theorem sa_27 : SA Tryz.prog 27 6 := ⟨_, _, inf27, by decide⟩
theorem sa_44 : SA Tryz.prog 44 2 := ⟨_, _, inf44, by decide⟩
theorem xe_25 : XE Tryz.prog 25 5 1 := ⟨_, Tryz.underlying25, inf5, rfl⟩
theorem xe_36 : XE Tryz.prog 36 9 16 := ⟨_, Tryz.underlying36, inf9, rfl⟩
theorem bd_27 : BD Tryz.prog 27 [(.int .i64 0), (.slice none 0 0), (.string ByteArray.empty), (.slice none 0 0), (.slice none 0 0), (.int .i64 0)] := ⟨_, _, Tryz.underlying27, inf27, fun w => by kernel_rfl⟩
theorem bd_35 : BD Tryz.prog 35 [(.int .i64 0), (.slice none 0 0), (.slice none 0 0)] := ⟨_, _, Tryz.underlying35, inf35, fun w => by kernel_rfl⟩
theorem fa_27_0 : FA Tryz.prog 27 0 0 := ⟨fun _ _ _ => r_field 3 0 Tryz.underlying27 rfl inf3 rfl⟩
theorem fa_27_1 : FA Tryz.prog 27 1 1 := ⟨fun _ _ _ => r_field 25 1 Tryz.underlying27 rfl inf25 rfl⟩
theorem fa_27_2 : FA Tryz.prog 27 2 2 := ⟨fun _ _ _ => r_field 9 2 Tryz.underlying27 rfl inf9 rfl⟩
theorem fa_27_3 : FA Tryz.prog 27 3 3 := ⟨fun _ _ _ => r_field 25 3 Tryz.underlying27 rfl inf25 rfl⟩
theorem fa_27_4 : FA Tryz.prog 27 4 4 := ⟨fun _ _ _ => r_field 25 4 Tryz.underlying27 rfl inf25 rfl⟩
theorem fa_27_5 : FA Tryz.prog 27 5 5 := ⟨fun _ _ _ => r_field 3 5 Tryz.underlying27 rfl inf3 rfl⟩
theorem fa_35_0 : FA Tryz.prog 35 0 0 := ⟨fun _ _ _ => r_field 3 0 Tryz.underlying35 rfl inf3 rfl⟩
theorem fa_35_1 : FA Tryz.prog 35 1 1 := ⟨fun _ _ _ => r_field 25 1 Tryz.underlying35 rfl inf25 rfl⟩
theorem fa_35_2 : FA Tryz.prog 35 2 2 := ⟨fun _ _ _ => r_field 25 2 Tryz.underlying35 rfl inf25 rfl⟩
theorem l1_25 : L1 Tryz.prog 25 := ⟨_, Tryz.underlying25, rfl⟩
theorem l1_3 : L1 Tryz.prog 3 := ⟨_, Tryz.underlying3, rfl⟩
theorem l1_5 : L1 Tryz.prog 5 := ⟨_, Tryz.underlying5, rfl⟩
theorem l1_9 : L1 Tryz.prog 9 := ⟨_, Tryz.underlying9, rfl⟩
theorem xa_25 : XA Tryz.prog 25 1 := ⟨_, _, _, Tryz.underlying25, inf5⟩
theorem xa_36 : XA Tryz.prog 36 1 := ⟨_, _, _, Tryz.underlying36, inf9⟩
theorem xa_38 : XA Tryz.prog 38 6 := ⟨_, _, _, Tryz.underlying38, inf27⟩
theorem la_27 : ∃ d z by_, Program.underlying Tryz.prog 27 = some d ∧ aggB d = true ∧ Inf Tryz.prog 27 z 6 by_ := ⟨_, _, _, Tryz.underlying27, rfl, inf27⟩
end Go.Proofs.YtmbeoehgpffneaaGreatDoor
