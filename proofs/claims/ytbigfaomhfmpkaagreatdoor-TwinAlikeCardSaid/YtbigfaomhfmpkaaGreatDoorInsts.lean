/- The laws of single operations, at this program's types: by program (instgen.py). -/
import Derived.Test.YtbigfaomhfmpkaaGreatDoorLaws2
import Derived.Test.YtbigfaomhfmpkaaGreatDoorProg
import Derived.KernelRfl
namespace Go.Proofs.YtbigfaomhfmpkaaGreatDoor
open Go.Vc
theorem inf3 : Inf Tryz.prog 3 (.int .i64 0) 1 8 := by unfold Inf; kernel_rfl
theorem inf5 : Inf Tryz.prog 5 (.int .u8 0) 1 1 := by unfold Inf; kernel_rfl
theorem inf22 : Inf Tryz.prog 22 (.slice none 0 0) 1 24 := by unfold Inf; kernel_rfl
theorem inf24 : Inf Tryz.prog 24 (.agg #[(.int .i64 0), (.slice none 0 0), (.slice none 0 0)]) 3 56 := by unfold Inf; kernel_rfl
theorem r_eqb_4 {w : World} {x y : Operand} {a b : Bool} : (do eqGuard .eql 4 x y (.bool a) (.bool b); binOp .eql 4 (.bool a) (.bool b)).run Tryz.prog w = .ok (.bool (a == b)) w := r_eqBool Tryz.underlying4
theorem r_fd_24_0 {w : World} {b off : Nat} : (Instr.fieldAt 24 (.pointer (some ⟨b, off, none⟩)) 0).run Tryz.prog w = .ok (.pointer (some ⟨b, off + 0, none⟩)) w := r_field 3 0 Tryz.underlying24 rfl inf3 rfl
theorem r_fd_24_1 {w : World} {b off : Nat} : (Instr.fieldAt 24 (.pointer (some ⟨b, off, none⟩)) 1).run Tryz.prog w = .ok (.pointer (some ⟨b, off + 1, none⟩)) w := r_field 22 1 Tryz.underlying24 rfl inf22 rfl
theorem r_fd_24_2 {w : World} {b off : Nat} : (Instr.fieldAt 24 (.pointer (some ⟨b, off, none⟩)) 2).run Tryz.prog w = .ok (.pointer (some ⟨b, off + 2, none⟩)) w := r_field 22 2 Tryz.underlying24 rfl inf22 rfl
theorem r_la_24 {w : World} {b off : Nat} {cs : List Value} (hl : cs.length = 3) (h : ∀ j (_ : j < cs.length), w.cell? ⟨b, off + j, none⟩ = cs[j]?) : (Instr.loadAt 24 (.pointer (some ⟨b, off, none⟩))).run Tryz.prog w = .ok (.agg cs.toArray) w := r_loadAgg Tryz.underlying24 rfl inf24 hl h
theorem r_ld_22 {w : World} {a : Addr} {v : Value} (h : w.cell? a = some v) : (Instr.loadAt 22 (.pointer (some a))).run Tryz.prog w = .ok v w := r_load Tryz.underlying22 rfl h
theorem r_ld_3 {w : World} {a : Addr} {v : Value} (h : w.cell? a = some v) : (Instr.loadAt 3 (.pointer (some a))).run Tryz.prog w = .ok v w := r_load Tryz.underlying3 rfl h
theorem r_sn_24 {w : World} {t' : TypeId} {old : Array Value} {v : Value} (hn : v.cells.size = 3) (ho : old.size = 3) (h1 : ∀ u ∈ v.cells.toList, oneC u = true) : (Instr.storeAt 24 (.pointer (some ⟨w.heap.size, 0, none⟩)) v).run Tryz.prog (w.alloc (.cells old t')) = .ok () (w.alloc (.cells v.cells t')) := r_storeNew inf24 hn ho h1
theorem V_bx_24 {w : World} {v : Value} {K : Value → World → Prop} : V Tryz.prog (Instr.box 24 v) w K ↔ K (.pointer (some ⟨w.heap.size, 0, none⟩)) (w.alloc (.cells v.cells 24)) := V.iff r_box
theorem V_eqb_4 {w : World} {x y : Operand} {a b : Bool} {K : Value → World → Prop} : V Tryz.prog (do eqGuard .eql 4 x y (.bool a) (.bool b); binOp .eql 4 (.bool a) (.bool b)) w K ↔ K (.bool (a == b)) w := V.iff (r_eqBool Tryz.underlying4)
theorem V_fd_24_0 {w : World} {b off : Nat} {K : Value → World → Prop} : V Tryz.prog (Instr.fieldAt 24 (.pointer (some ⟨b, off, none⟩)) 0) w K ↔ K (.pointer (some ⟨b, off + 0, none⟩)) w := V.iff (r_fd_24_0)
theorem V_fd_24_1 {w : World} {b off : Nat} {K : Value → World → Prop} : V Tryz.prog (Instr.fieldAt 24 (.pointer (some ⟨b, off, none⟩)) 1) w K ↔ K (.pointer (some ⟨b, off + 1, none⟩)) w := V.iff (r_fd_24_1)
theorem V_fd_24_2 {w : World} {b off : Nat} {K : Value → World → Prop} : V Tryz.prog (Instr.fieldAt 24 (.pointer (some ⟨b, off, none⟩)) 2) w K ↔ K (.pointer (some ⟨b, off + 2, none⟩)) w := V.iff (r_fd_24_2)
theorem V_ld_22 {w : World} {a : Addr} {K : Value → World → Prop} : V Tryz.prog (Instr.loadAt 22 (.pointer (some a))) w K ↔ ldO Tryz.prog 22 a (w.cell? a) w K := V_load Tryz.underlying22 rfl
theorem V_ld_3 {w : World} {a : Addr} {K : Value → World → Prop} : V Tryz.prog (Instr.loadAt 3 (.pointer (some a))) w K ↔ ldO Tryz.prog 3 a (w.cell? a) w K := V_load Tryz.underlying3 rfl
theorem V_ln_22 {w : World} {ty : TypeId} {a : Option Addr} {n c : Nat} {K : Value → World → Prop} : V Tryz.prog (Builtin.len_ #[22] ty #[.slice a n c]) w K ↔ K (.int .i64 n) w := V.iff (r_len Tryz.underlying22)
theorem fa_24_0 : FA Tryz.prog 24 0 0 := ⟨fun _ _ _ => r_field 3 0 Tryz.underlying24 rfl inf3 rfl⟩
theorem fa_24_1 : FA Tryz.prog 24 1 1 := ⟨fun _ _ _ => r_field 22 1 Tryz.underlying24 rfl inf22 rfl⟩
theorem fa_24_2 : FA Tryz.prog 24 2 2 := ⟨fun _ _ _ => r_field 22 2 Tryz.underlying24 rfl inf22 rfl⟩
theorem l1_22 : L1 Tryz.prog 22 := ⟨_, Tryz.underlying22, rfl⟩
theorem l1_3 : L1 Tryz.prog 3 := ⟨_, Tryz.underlying3, rfl⟩
theorem xa_22 : XA Tryz.prog 22 1 := ⟨_, _, _, Tryz.underlying22, inf5⟩
theorem xe_22 : XE Tryz.prog 22 5 1 := ⟨_, Tryz.underlying22, inf5, rfl⟩
theorem bd_24 : BD Tryz.prog 24 [(.int .i64 0), (.slice none 0 0), (.slice none 0 0)] := ⟨_, _, Tryz.underlying24, inf24, fun w => by kernel_rfl⟩
theorem la_24 : ∃ d z by_, Program.underlying Tryz.prog 24 = some d ∧ aggB d = true ∧ Inf Tryz.prog 24 z 3 by_ := ⟨_, _, _, Tryz.underlying24, rfl, inf24⟩
end Go.Proofs.YtbigfaomhfmpkaaGreatDoor
