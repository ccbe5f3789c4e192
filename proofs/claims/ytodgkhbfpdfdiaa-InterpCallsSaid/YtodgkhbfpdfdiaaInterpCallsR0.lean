/- The law's run, at 0, 1, 2: evaluated by the kernel. -/
import Derived.Test.YtodgkhbfpdfdiaaPickC
namespace Go.Proofs.Ytodgkhbfpdfdiaa.interpCalls
set_option maxRecDepth 1000000
theorem run0 (n : Int) : Go.Ab.okTrue (Go.Ab.step2 Try.prog Go.Ab.noG 100000 2 (Go.Ab.callS (fun _ => 0) 5 12) (Go.Ab.callT (fun f => Nat.beq f 7) Try.prog Go.Ab.noG 100000 100) 3 [.int .i64 n] ⟨0, .e⟩) = true := by kernel_rfl
theorem run1 (n : Int) : Go.Ab.okTrue (Go.Ab.step2 Try.prog Go.Ab.noG 100000 2 (Go.Ab.callS (fun _ => 1) 5 12) (Go.Ab.callT (fun f => Nat.beq f 7) Try.prog Go.Ab.noG 100000 100) 3 [.int .i64 n] ⟨0, .e⟩) = true := by kernel_rfl
theorem run2 (n : Int) : Go.Ab.okTrue (Go.Ab.step2 Try.prog Go.Ab.noG 100000 2 (Go.Ab.callS (fun _ => 2) 5 12) (Go.Ab.callT (fun f => Nat.beq f 7) Try.prog Go.Ab.noG 100000 100) 3 [.int .i64 n] ⟨0, .e⟩) = true := by kernel_rfl
end Go.Proofs.Ytodgkhbfpdfdiaa.interpCalls
