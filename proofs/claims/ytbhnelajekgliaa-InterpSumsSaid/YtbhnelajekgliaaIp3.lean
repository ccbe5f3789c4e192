/- InterpSums: the machine's store, for codes of some lengths. -/
import Derived.Test.YtbhnelajekgliaaIp2
namespace Go.Proofs.Ytbhnelajekgliaa
open Go.Ab Go.Vc
noncomputable section
set_option maxRecDepth 1000000 in
theorem fm21 : FM 21 := fun o a => by kernel_rfl
set_option maxRecDepth 1000000 in
theorem fm23 : FM 23 := fun o a => by kernel_rfl
set_option maxRecDepth 1000000 in
theorem fm25 : FM 25 := fun o a => by kernel_rfl
set_option maxRecDepth 1000000 in
theorem fm27 : FM 27 := fun o a => by kernel_rfl
set_option maxRecDepth 1000000 in
theorem fm29 : FM 29 := fun o a => by kernel_rfl
set_option maxRecDepth 1000000 in
theorem fm31 : FM 31 := fun o a => by kernel_rfl
set_option maxRecDepth 1000000 in
theorem fm33 : FM 33 := fun o a => by kernel_rfl
set_option maxRecDepth 1000000 in
theorem fm35 : FM 35 := fun o a => by kernel_rfl
end
end Go.Proofs.Ytbhnelajekgliaa
