/- TableForms: questions out of form or in a full table are refused. Conditions: none (every input that can be read). -/
import Derived.Test.YtojjkgnkdcekpaaHTab13
set_option linter.unusedVariables false
namespace Go.Proofs.Ytojjkgnkdcekpaa.M
open Go Go.RowKit Go.Proofs.YtojjkgnkdcekpaaW.PrintWords Go.Proofs.Ytojjkgnkdcekpaa.P
theorem TableForms_calls (w : World) (a0 a1 : Int) : Calls Try.prog 5 #[.int .i64 a0, .int .i64 a1] w fun e w' => e = .returned (.bool true) ∧ Below w.heap.size w w' :=
  tforms_walk w a0 a1
end Go.Proofs.Ytojjkgnkdcekpaa.M
