/- InterpSums: the machine's store, for codes of some lengths. -/
import Derived.Test.YtbhnelajekgliaaIp1
namespace Go.Proofs.Ytbhnelajekgliaa
open Go.Ab Go.Vc
noncomputable section
def FM (m : Nat) : Prop := ∀ o a : Nat → Int, (preM m o a).map (fun y => (y.1, y.2.1, objL y.2.2 24, objL y.2.2 2, objL y.2.2 23, objL y.2.2 41, objL y.2.2 39, objL y.2.2 35, objL y.2.2 22, objL y.2.2 20)) =
    some (pt 2, pt 24, some [pt 2, pt 23, .slice (some ⟨41, 0, none⟩) 1 1, .int .i64 200, .int .i64 0], some [pt 1, .slice (some ⟨19, 0, none⟩) 1 5, .slice (some ⟨22, 0, none⟩) 1 1, nl, nl], some [nl], some [pt 39],
      some [.int .i64 0, .int .i64 0, .int .i64 0, nl, .int .i64 0, .slice (some ⟨33, 0, none⟩) 1 1, .slice (some ⟨35, 0, none⟩) m 3, .slice (some ⟨38, 0, none⟩) 1 1, nl], some (codeV m o a), some [.slice (some ⟨20, 0, none⟩) 1 1], some [.int .i32 0])
set_option maxRecDepth 1000000 in
theorem fm3 : FM 3 := fun o a => by kernel_rfl
set_option maxRecDepth 1000000 in
theorem fm5 : FM 5 := fun o a => by kernel_rfl
set_option maxRecDepth 1000000 in
theorem fm7 : FM 7 := fun o a => by kernel_rfl
set_option maxRecDepth 1000000 in
theorem fm9 : FM 9 := fun o a => by kernel_rfl
set_option maxRecDepth 1000000 in
theorem fm11 : FM 11 := fun o a => by kernel_rfl
set_option maxRecDepth 1000000 in
theorem fm13 : FM 13 := fun o a => by kernel_rfl
set_option maxRecDepth 1000000 in
theorem fm15 : FM 15 := fun o a => by kernel_rfl
set_option maxRecDepth 1000000 in
theorem fm17 : FM 17 := fun o a => by kernel_rfl
set_option maxRecDepth 1000000 in
theorem fm19 : FM 19 := fun o a => by kernel_rfl
end
end Go.Proofs.Ytbhnelajekgliaa
