/- The laws of single operations, at this program's types: by program (instgen.py). -/
import Derived.Test.YtgjmpnngheohbaaDoorLaws2
import Derived.Test.YtgjmpnngheohbaaDoorProg
import Derived.KernelRfl
namespace Go.Proofs.YtgjmpnngheohbaaDoor
open Go.Vc
theorem inf3 : Inf Tryd.prog 3 (.int .i64 0) 1 8 := by unfold Inf; kernel_rfl
theorem inf4 : Inf Tryd.prog 4 (.bool false) 1 1 := by unfold Inf; kernel_rfl
theorem inf5 : Inf Tryd.prog 5 (.int .u8 0) 1 1 := by unfold Inf; kernel_rfl
theorem inf21 : Inf Tryd.prog 21 (.int .i32 0) 1 4 := by unfold Inf; kernel_rfl
theorem inf23 : Inf Tryd.prog 23 (.pointer none) 1 8 := by unfold Inf; kernel_rfl
theorem inf32 : Inf Tryd.prog 32 (.slice none 0 0) 1 24 := by unfold Inf; kernel_rfl
theorem inf39 : Inf Tryd.prog 39 (.slice none 0 0) 1 24 := by unfold Inf; kernel_rfl
theorem inf40 : Inf Tryd.prog 40 (.slice none 0 0) 1 24 := by unfold Inf; kernel_rfl
theorem inf42 : Inf Tryd.prog 42 (.agg #[(.int .i64 0), (.int .i64 0), (.int .i64 0), (.int .i64 0), (.slice none 0 0), (.slice none 0 0), (.slice none 0 0)]) 7 104 := by unfold Inf; kernel_rfl
theorem inf50 : Inf Tryd.prog 50 (.pointer none) 1 8 := by unfold Inf; kernel_rfl
theorem inf55 : Inf Tryd.prog 55 (.slice none 0 0) 1 24 := by unfold Inf; kernel_rfl
theorem inf57 : Inf Tryd.prog 57 (.agg #[(.slice none 0 0)]) 1 24 := by unfold Inf; kernel_rfl
theorem inf59 : Inf Tryd.prog 59 (.pointer none) 1 8 := by unfold Inf; kernel_rfl
theorem inf61 : Inf Tryd.prog 61 (.slice none 0 0) 1 24 := by unfold Inf; kernel_rfl
theorem inf63 : Inf Tryd.prog 63 (.agg #[(.pointer none), (.slice none 0 0), (.slice none 0 0), (.slice none 0 0), (.slice none 0 0)]) 5 104 := by unfold Inf; kernel_rfl
theorem inf74 : Inf Tryd.prog 74 (.agg #[(.int .i64 0), (.int .i64 0), (.int .i64 0), (.int .i64 0)]) 4 32 := by unfold Inf; kernel_rfl
theorem inf76 : Inf Tryd.prog 76 (.pointer none) 1 8 := by unfold Inf; kernel_rfl
theorem inf80 : Inf Tryd.prog 80 (.agg #[(.pointer none), (.slice none 0 0), (.slice none 0 0), (.slice none 0 0), (.slice none 0 0)]) 5 104 := by unfold Inf; kernel_rfl
theorem inf91 : Inf Tryd.prog 91 (.agg #[(.slice none 0 0)]) 1 24 := by unfold Inf; kernel_rfl
theorem inf95 : Inf Tryd.prog 95 (.agg #[(.pointer none), (.pointer none), (.int .i64 0), (.int .i64 0), (.int .i64 0), (.slice none 0 0)]) 6 64 := by unfold Inf; kernel_rfl
theorem inf105 : Inf Tryd.prog 105 (.agg #[(.int .i64 0), (.int .i64 0), (.int .i64 0), (.bool false), (.slice none 0 0)]) 5 56 := by unfold Inf; kernel_rfl
theorem inf114 : Inf Tryd.prog 114 (.slice none 0 0) 1 24 := by unfold Inf; kernel_rfl
theorem inf116 : Inf Tryd.prog 116 (.agg #[(.int .i64 0), (.slice none 0 0)]) 2 32 := by unfold Inf; kernel_rfl
theorem inf120 : Inf Tryd.prog 120 (.agg #[(.int .i64 0), (.slice none 0 0)]) 2 32 := by unfold Inf; kernel_rfl
theorem r_fd_105_4 {w : World} {b off : Nat} : (Instr.fieldAt 105 (.pointer (some ⟨b, off, none⟩)) 4).run Tryd.prog w = .ok (.pointer (some ⟨b, off + 4, none⟩)) w := r_field 40 4 Tryd.underlying105 rfl inf40 rfl
theorem r_fd_116_1 {w : World} {b off : Nat} : (Instr.fieldAt 116 (.pointer (some ⟨b, off, none⟩)) 1).run Tryd.prog w = .ok (.pointer (some ⟨b, off + 1, none⟩)) w := r_field 114 1 Tryd.underlying116 rfl inf114 rfl
theorem r_fd_120_1 {w : World} {b off : Nat} : (Instr.fieldAt 120 (.pointer (some ⟨b, off, none⟩)) 1).run Tryd.prog w = .ok (.pointer (some ⟨b, off + 1, none⟩)) w := r_field 114 1 Tryd.underlying120 rfl inf114 rfl
theorem r_fd_57_0 {w : World} {b off : Nat} : (Instr.fieldAt 57 (.pointer (some ⟨b, off, none⟩)) 0).run Tryd.prog w = .ok (.pointer (some ⟨b, off + 0, none⟩)) w := r_field 55 0 Tryd.underlying57 rfl inf55 rfl
theorem r_fd_63_3 {w : World} {b off : Nat} : (Instr.fieldAt 63 (.pointer (some ⟨b, off, none⟩)) 3).run Tryd.prog w = .ok (.pointer (some ⟨b, off + 3, none⟩)) w := r_field 40 3 Tryd.underlying63 rfl inf40 rfl
theorem r_fd_63_4 {w : World} {b off : Nat} : (Instr.fieldAt 63 (.pointer (some ⟨b, off, none⟩)) 4).run Tryd.prog w = .ok (.pointer (some ⟨b, off + 4, none⟩)) w := r_field 40 4 Tryd.underlying63 rfl inf40 rfl
theorem r_fd_80_3 {w : World} {b off : Nat} : (Instr.fieldAt 80 (.pointer (some ⟨b, off, none⟩)) 3).run Tryd.prog w = .ok (.pointer (some ⟨b, off + 3, none⟩)) w := r_field 40 3 Tryd.underlying80 rfl inf40 rfl
theorem r_fd_80_4 {w : World} {b off : Nat} : (Instr.fieldAt 80 (.pointer (some ⟨b, off, none⟩)) 4).run Tryd.prog w = .ok (.pointer (some ⟨b, off + 4, none⟩)) w := r_field 40 4 Tryd.underlying80 rfl inf40 rfl
theorem r_fd_91_0 {w : World} {b off : Nat} : (Instr.fieldAt 91 (.pointer (some ⟨b, off, none⟩)) 0).run Tryd.prog w = .ok (.pointer (some ⟨b, off + 0, none⟩)) w := r_field 55 0 Tryd.underlying91 rfl inf55 rfl
theorem r_ix_114 {w : World} {b off len cap : Nat} {k : IntKind} {i : Int} (h0 : 0 ≤ i) (h1 : i < len) : (Instr.indexAt 114 (.slice (some ⟨b, off, none⟩) len cap) (.int k i)).run Tryd.prog w = .ok (.pointer (some ⟨b, off + i.toNat * 5, none⟩)) w := r_index Tryd.underlying114 inf105 h0 h1
theorem r_la_105 {w : World} {b off : Nat} {cs : List Value} (hl : cs.length = 5) (h : ∀ j (_ : j < cs.length), w.cell? ⟨b, off + j, none⟩ = cs[j]?) : (Instr.loadAt 105 (.pointer (some ⟨b, off, none⟩))).run Tryd.prog w = .ok (.agg cs.toArray) w := r_loadAgg Tryd.underlying105 rfl inf105 hl h
theorem r_ld_40 {w : World} {a : Addr} {v : Value} (h : w.cell? a = some v) : (Instr.loadAt 40 (.pointer (some a))).run Tryd.prog w = .ok v w := r_load Tryd.underlying40 rfl h
theorem V_ln_114 {w : World} {ty : TypeId} {a : Option Addr} {n c : Nat} {K : Value → World → Prop} : V Tryd.prog (Builtin.len_ #[114] ty #[.slice a n c]) w K ↔ K (.int .i64 n) w := V.iff (r_len Tryd.underlying114)
theorem V_ln_22 {w : World} {ty : TypeId} {a : Option Addr} {n c : Nat} {K : Value → World → Prop} : V Tryd.prog (Builtin.len_ #[22] ty #[.slice a n c]) w K ↔ K (.int .i64 n) w := V.iff (r_len Tryd.underlying22)
theorem V_ln_39 {w : World} {ty : TypeId} {a : Option Addr} {n c : Nat} {K : Value → World → Prop} : V Tryd.prog (Builtin.len_ #[39] ty #[.slice a n c]) w K ↔ K (.int .i64 n) w := V.iff (r_len Tryd.underlying39)
theorem V_ln_40 {w : World} {ty : TypeId} {a : Option Addr} {n c : Nat} {K : Value → World → Prop} : V Tryd.prog (Builtin.len_ #[40] ty #[.slice a n c]) w K ↔ K (.int .i64 n) w := V.iff (r_len Tryd.underlying40)
theorem V_ln_61 {w : World} {ty : TypeId} {a : Option Addr} {n c : Nat} {K : Value → World → Prop} : V Tryd.prog (Builtin.len_ #[61] ty #[.slice a n c]) w K ↔ K (.int .i64 n) w := V.iff (r_len Tryd.underlying61)
theorem sa_105 : SA Tryd.prog 105 5 := ⟨_, _, inf105, by decide⟩
theorem sa_42 : SA Tryd.prog 42 7 := ⟨_, _, inf42, by decide⟩
theorem sa_95 : SA Tryd.prog 95 6 := ⟨_, _, inf95, by decide⟩
theorem xa_114 : XA Tryd.prog 114 5 := ⟨_, _, _, Tryd.underlying114, inf105⟩
theorem xa_22 : XA Tryd.prog 22 7 := ⟨_, _, _, Tryd.underlying22, inf42⟩
theorem xa_32 : XA Tryd.prog 32 1 := ⟨_, _, _, Tryd.underlying32, inf3⟩
theorem xa_39 : XA Tryd.prog 39 1 := ⟨_, _, _, Tryd.underlying39, inf21⟩
theorem xa_40 : XA Tryd.prog 40 1 := ⟨_, _, _, Tryd.underlying40, inf5⟩
theorem xa_55 : XA Tryd.prog 55 4 := ⟨_, _, _, Tryd.underlying55, inf74⟩
theorem xa_61 : XA Tryd.prog 61 1 := ⟨_, _, _, Tryd.underlying61, inf39⟩
theorem fa_105_0 : FA Tryd.prog 105 0 0 := ⟨fun _ _ _ => r_field 3 0 Tryd.underlying105 rfl inf3 rfl⟩
theorem fa_105_1 : FA Tryd.prog 105 1 1 := ⟨fun _ _ _ => r_field 3 1 Tryd.underlying105 rfl inf3 rfl⟩
theorem fa_105_2 : FA Tryd.prog 105 2 2 := ⟨fun _ _ _ => r_field 3 2 Tryd.underlying105 rfl inf3 rfl⟩
theorem fa_105_3 : FA Tryd.prog 105 3 3 := ⟨fun _ _ _ => r_field 4 3 Tryd.underlying105 rfl inf4 rfl⟩
theorem fa_105_4 : FA Tryd.prog 105 4 4 := ⟨fun _ _ _ => r_field 40 4 Tryd.underlying105 rfl inf40 rfl⟩
theorem fa_116_0 : FA Tryd.prog 116 0 0 := ⟨fun _ _ _ => r_field 3 0 Tryd.underlying116 rfl inf3 rfl⟩
theorem fa_116_1 : FA Tryd.prog 116 1 1 := ⟨fun _ _ _ => r_field 114 1 Tryd.underlying116 rfl inf114 rfl⟩
theorem fa_120_0 : FA Tryd.prog 120 0 0 := ⟨fun _ _ _ => r_field 3 0 Tryd.underlying120 rfl inf3 rfl⟩
theorem fa_120_1 : FA Tryd.prog 120 1 1 := ⟨fun _ _ _ => r_field 114 1 Tryd.underlying120 rfl inf114 rfl⟩
theorem fa_42_0 : FA Tryd.prog 42 0 0 := ⟨fun _ _ _ => r_field 3 0 Tryd.underlying42 rfl inf3 rfl⟩
theorem fa_42_1 : FA Tryd.prog 42 1 1 := ⟨fun _ _ _ => r_field 3 1 Tryd.underlying42 rfl inf3 rfl⟩
theorem fa_42_2 : FA Tryd.prog 42 2 2 := ⟨fun _ _ _ => r_field 3 2 Tryd.underlying42 rfl inf3 rfl⟩
theorem fa_42_3 : FA Tryd.prog 42 3 3 := ⟨fun _ _ _ => r_field 3 3 Tryd.underlying42 rfl inf3 rfl⟩
theorem fa_42_4 : FA Tryd.prog 42 4 4 := ⟨fun _ _ _ => r_field 39 4 Tryd.underlying42 rfl inf39 rfl⟩
theorem fa_42_5 : FA Tryd.prog 42 5 5 := ⟨fun _ _ _ => r_field 40 5 Tryd.underlying42 rfl inf40 rfl⟩
theorem fa_42_6 : FA Tryd.prog 42 6 6 := ⟨fun _ _ _ => r_field 40 6 Tryd.underlying42 rfl inf40 rfl⟩
theorem fa_57_0 : FA Tryd.prog 57 0 0 := ⟨fun _ _ _ => r_field 55 0 Tryd.underlying57 rfl inf55 rfl⟩
theorem fa_63_0 : FA Tryd.prog 63 0 0 := ⟨fun _ _ _ => r_field 59 0 Tryd.underlying63 rfl inf59 rfl⟩
theorem fa_63_2 : FA Tryd.prog 63 2 2 := ⟨fun _ _ _ => r_field 61 2 Tryd.underlying63 rfl inf61 rfl⟩
theorem fa_63_3 : FA Tryd.prog 63 3 3 := ⟨fun _ _ _ => r_field 40 3 Tryd.underlying63 rfl inf40 rfl⟩
theorem fa_63_4 : FA Tryd.prog 63 4 4 := ⟨fun _ _ _ => r_field 40 4 Tryd.underlying63 rfl inf40 rfl⟩
theorem fa_80_0 : FA Tryd.prog 80 0 0 := ⟨fun _ _ _ => r_field 76 0 Tryd.underlying80 rfl inf76 rfl⟩
theorem fa_80_2 : FA Tryd.prog 80 2 2 := ⟨fun _ _ _ => r_field 61 2 Tryd.underlying80 rfl inf61 rfl⟩
theorem fa_80_3 : FA Tryd.prog 80 3 3 := ⟨fun _ _ _ => r_field 40 3 Tryd.underlying80 rfl inf40 rfl⟩
theorem fa_80_4 : FA Tryd.prog 80 4 4 := ⟨fun _ _ _ => r_field 40 4 Tryd.underlying80 rfl inf40 rfl⟩
theorem fa_91_0 : FA Tryd.prog 91 0 0 := ⟨fun _ _ _ => r_field 55 0 Tryd.underlying91 rfl inf55 rfl⟩
theorem fa_95_0 : FA Tryd.prog 95 0 0 := ⟨fun _ _ _ => r_field 23 0 Tryd.underlying95 rfl inf23 rfl⟩
theorem fa_95_1 : FA Tryd.prog 95 1 1 := ⟨fun _ _ _ => r_field 50 1 Tryd.underlying95 rfl inf50 rfl⟩
theorem fa_95_2 : FA Tryd.prog 95 2 2 := ⟨fun _ _ _ => r_field 3 2 Tryd.underlying95 rfl inf3 rfl⟩
theorem fa_95_3 : FA Tryd.prog 95 3 3 := ⟨fun _ _ _ => r_field 3 3 Tryd.underlying95 rfl inf3 rfl⟩
theorem fa_95_4 : FA Tryd.prog 95 4 4 := ⟨fun _ _ _ => r_field 3 4 Tryd.underlying95 rfl inf3 rfl⟩
theorem fa_95_5 : FA Tryd.prog 95 5 5 := ⟨fun _ _ _ => r_field 32 5 Tryd.underlying95 rfl inf32 rfl⟩
theorem l1_114 : L1 Tryd.prog 114 := ⟨_, Tryd.underlying114, rfl⟩
theorem l1_21 : L1 Tryd.prog 21 := ⟨_, Tryd.underlying21, rfl⟩
theorem l1_23 : L1 Tryd.prog 23 := ⟨_, Tryd.underlying23, rfl⟩
theorem l1_3 : L1 Tryd.prog 3 := ⟨_, Tryd.underlying3, rfl⟩
theorem l1_32 : L1 Tryd.prog 32 := ⟨_, Tryd.underlying32, rfl⟩
theorem l1_39 : L1 Tryd.prog 39 := ⟨_, Tryd.underlying39, rfl⟩
theorem l1_4 : L1 Tryd.prog 4 := ⟨_, Tryd.underlying4, rfl⟩
theorem l1_40 : L1 Tryd.prog 40 := ⟨_, Tryd.underlying40, rfl⟩
theorem l1_5 : L1 Tryd.prog 5 := ⟨_, Tryd.underlying5, rfl⟩
theorem l1_50 : L1 Tryd.prog 50 := ⟨_, Tryd.underlying50, rfl⟩
theorem l1_55 : L1 Tryd.prog 55 := ⟨_, Tryd.underlying55, rfl⟩
theorem l1_59 : L1 Tryd.prog 59 := ⟨_, Tryd.underlying59, rfl⟩
theorem l1_61 : L1 Tryd.prog 61 := ⟨_, Tryd.underlying61, rfl⟩
theorem l1_76 : L1 Tryd.prog 76 := ⟨_, Tryd.underlying76, rfl⟩
theorem bd_105 : BD Tryd.prog 105 [(.int .i64 0), (.int .i64 0), (.int .i64 0), (.bool false), (.slice none 0 0)] := ⟨_, _, Tryd.underlying105, inf105, fun w => by kernel_rfl⟩
theorem bd_116 : BD Tryd.prog 116 [(.int .i64 0), (.slice none 0 0)] := ⟨_, _, Tryd.underlying116, inf116, fun w => by kernel_rfl⟩
theorem bd_120 : BD Tryd.prog 120 [(.int .i64 0), (.slice none 0 0)] := ⟨_, _, Tryd.underlying120, inf120, fun w => by kernel_rfl⟩
theorem bd_57 : BD Tryd.prog 57 [(.slice none 0 0)] := ⟨_, _, Tryd.underlying57, inf57, fun w => by kernel_rfl⟩
theorem bd_63 : BD Tryd.prog 63 [(.pointer none), (.slice none 0 0), (.slice none 0 0), (.slice none 0 0), (.slice none 0 0)] := ⟨_, _, Tryd.underlying63, inf63, fun w => by kernel_rfl⟩
theorem bd_74 : BD Tryd.prog 74 [(.int .i64 0), (.int .i64 0), (.int .i64 0), (.int .i64 0)] := ⟨_, _, Tryd.underlying74, inf74, fun w => by kernel_rfl⟩
theorem bd_80 : BD Tryd.prog 80 [(.pointer none), (.slice none 0 0), (.slice none 0 0), (.slice none 0 0), (.slice none 0 0)] := ⟨_, _, Tryd.underlying80, inf80, fun w => by kernel_rfl⟩
theorem bd_91 : BD Tryd.prog 91 [(.slice none 0 0)] := ⟨_, _, Tryd.underlying91, inf91, fun w => by kernel_rfl⟩
theorem bd_95 : BD Tryd.prog 95 [(.pointer none), (.pointer none), (.int .i64 0), (.int .i64 0), (.int .i64 0), (.slice none 0 0)] := ⟨_, _, Tryd.underlying95, inf95, fun w => by kernel_rfl⟩
theorem la_105 : ∃ d z by_, Program.underlying Tryd.prog 105 = some d ∧ aggB d = true ∧ Inf Tryd.prog 105 z 5 by_ := ⟨_, _, _, Tryd.underlying105, rfl, inf105⟩
theorem la_42 : ∃ d z by_, Program.underlying Tryd.prog 42 = some d ∧ aggB d = true ∧ Inf Tryd.prog 42 z 7 by_ := ⟨_, _, _, Tryd.underlying42, rfl, inf42⟩
theorem la_74 : ∃ d z by_, Program.underlying Tryd.prog 74 = some d ∧ aggB d = true ∧ Inf Tryd.prog 74 z 4 by_ := ⟨_, _, _, Tryd.underlying74, rfl, inf74⟩
theorem la_95 : ∃ d z by_, Program.underlying Tryd.prog 95 = some d ∧ aggB d = true ∧ Inf Tryd.prog 95 z 6 by_ := ⟨_, _, _, Tryd.underlying95, rfl, inf95⟩
theorem xe_32 : XE Tryd.prog 32 3 8 := ⟨_, Tryd.underlying32, inf3, rfl⟩
theorem xe_39 : XE Tryd.prog 39 21 4 := ⟨_, Tryd.underlying39, inf21, rfl⟩
theorem xe_40 : XE Tryd.prog 40 5 1 := ⟨_, Tryd.underlying40, inf5, rfl⟩
end Go.Proofs.YtgjmpnngheohbaaDoor
