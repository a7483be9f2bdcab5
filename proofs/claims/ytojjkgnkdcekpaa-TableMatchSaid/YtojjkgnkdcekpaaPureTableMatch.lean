/- TableMatch: a reply is taken just if its address, number, name, type and class are what was asked. Conditions: none (every input that can be read). -/
import Derived.Test.YtojjkgnkdcekpaaHTab12
set_option linter.unusedVariables false
namespace Go.Proofs.Ytojjkgnkdcekpaa.M
open Go Go.RowKit Go.Proofs.YtojjkgnkdcekpaaW.PrintWords Go.Proofs.Ytojjkgnkdcekpaa.P
theorem TableMatch_calls (w : World) (a0 a1 : Int) : Calls Try.prog 6 #[.int .i64 a0, .int .i64 a1] w fun e w' => e = .returned (.bool true) ∧ Below w.heap.size w w' :=
  match_walk w a0 a1
end Go.Proofs.Ytojjkgnkdcekpaa.M
