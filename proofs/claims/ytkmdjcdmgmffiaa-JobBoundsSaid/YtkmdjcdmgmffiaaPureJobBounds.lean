/- JobBounds: a job spends its budget, chases and pushes just as often as it may. Conditions: none (every input that can be read). -/
import Derived.Test.YtkmdjcdmgmffiaaHJob10
set_option linter.unusedVariables false
namespace Go.Proofs.Ytkmdjcdmgmffiaa.M
open Go Go.RowKit Go.Proofs.YtkmdjcdmgmffiaaW.PrintWords Go.Proofs.Ytkmdjcdmgmffiaa.P
theorem JobBounds_calls (w : World) (a0 a1 a2 : Int) : Calls Try.prog 3 #[.int .i64 a0, .int .i64 a1, .int .i64 a2] w fun e w' => e = .returned (.bool true) ∧ Below w.heap.size w w' :=
  bounds_walk w a0 a1 a2
end Go.Proofs.Ytkmdjcdmgmffiaa.M
