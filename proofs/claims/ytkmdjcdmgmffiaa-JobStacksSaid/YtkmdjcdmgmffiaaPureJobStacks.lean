/- JobStacks: tasks are pushed and popped, the last one first; what is set is the last one. Conditions: none (every input that can be read). -/
import Derived.Test.YtkmdjcdmgmffiaaHJob13
set_option linter.unusedVariables false
namespace Go.Proofs.Ytkmdjcdmgmffiaa.M
open Go Go.RowKit Go.Proofs.YtkmdjcdmgmffiaaW.PrintWords Go.Proofs.Ytkmdjcdmgmffiaa.P
theorem JobStacks_calls (w : World) (A0 : Option Addr) (c0 : Nat) (l0 : List ByteArray) (A1 : Option Addr) (c1 : Nat) (l1 : List Int) (h : Kd.C Kd.string w A0 l0.length l0) (hc : l0.length ≤ c0) (h1 : Kd.C (Kd.int .i64) w A1 l1.length l1) (hc1 : l1.length ≤ c1) : Calls Try.prog 5 #[.slice A0 l0.length c0, .slice A1 l1.length c1] w fun e w' => e = .returned (.bool true) ∧ Below w.heap.size w w' :=
  stacks_walk w A0 c0 l0 A1 c1 l1 h hc h1 hc1
end Go.Proofs.Ytkmdjcdmgmffiaa.M
