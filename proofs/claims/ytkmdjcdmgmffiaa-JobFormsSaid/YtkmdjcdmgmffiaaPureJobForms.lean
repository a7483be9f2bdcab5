/- JobForms: each part of a config that may not be is told so. Conditions: none (every input that can be read). -/
import Derived.Test.YtkmdjcdmgmffiaaHJob11
set_option linter.unusedVariables false
namespace Go.Proofs.Ytkmdjcdmgmffiaa.M
open Go Go.RowKit Go.Proofs.YtkmdjcdmgmffiaaW.PrintWords Go.Proofs.Ytkmdjcdmgmffiaa.P
theorem JobForms_calls (w : World) (a0 a1 : Int) : Calls Try.prog 4 #[.int .i64 a0, .int .i64 a1] w fun e w' => e = .returned (.bool true) ∧ Below w.heap.size w w' :=
  forms_walk w a0 a1
end Go.Proofs.Ytkmdjcdmgmffiaa.M
