/- InterpSums: the machine's store, for codes of some lengths. -/
import Derived.Test.YtbhnelajekgliaaIp3
namespace Go.Proofs.Ytbhnelajekgliaa
open Go.Ab Go.Vc
noncomputable section
set_option maxRecDepth 1000000 in
theorem fm37 : FM 37 := fun o a => by kernel_rfl
set_option maxRecDepth 1000000 in
theorem fm39 : FM 39 := fun o a => by kernel_rfl
set_option maxRecDepth 1000000 in
theorem fm41 : FM 41 := fun o a => by kernel_rfl
set_option maxRecDepth 1000000 in
theorem fm43 : FM 43 := fun o a => by kernel_rfl
set_option maxRecDepth 1000000 in
theorem fm45 : FM 45 := fun o a => by kernel_rfl
set_option maxRecDepth 1000000 in
theorem fm47 : FM 47 := fun o a => by kernel_rfl
set_option maxRecDepth 1000000 in
theorem fm49 : FM 49 := fun o a => by kernel_rfl
set_option maxRecDepth 1000000 in
theorem fm51 : FM 51 := fun o a => by kernel_rfl
theorem fm_all {m : Nat} (h : m % 2 = 1) (h3 : 3 ≤ m) (h51 : m ≤ 51) : FM m := by
  have hc : m = 3 ∨ m = 5 ∨ m = 7 ∨ m = 9 ∨ m = 11 ∨ m = 13 ∨ m = 15 ∨ m = 17 ∨ m = 19 ∨ m = 21 ∨ m = 23 ∨ m = 25 ∨ m = 27 ∨ m = 29 ∨ m = 31 ∨ m = 33 ∨ m = 35 ∨ m = 37 ∨ m = 39 ∨ m = 41 ∨ m = 43 ∨ m = 45 ∨ m = 47 ∨ m = 49 ∨ m = 51 := by omega
  rcases hc with rfl | rfl | rfl | rfl | rfl | rfl | rfl | rfl | rfl | rfl | rfl | rfl | rfl | rfl | rfl | rfl | rfl | rfl | rfl | rfl | rfl | rfl | rfl | rfl | rfl
  · exact fm3
  · exact fm5
  · exact fm7
  · exact fm9
  · exact fm11
  · exact fm13
  · exact fm15
  · exact fm17
  · exact fm19
  · exact fm21
  · exact fm23
  · exact fm25
  · exact fm27
  · exact fm29
  · exact fm31
  · exact fm33
  · exact fm35
  · exact fm37
  · exact fm39
  · exact fm41
  · exact fm43
  · exact fm45
  · exact fm47
  · exact fm49
  · exact fm51
end
end Go.Proofs.Ytbhnelajekgliaa
