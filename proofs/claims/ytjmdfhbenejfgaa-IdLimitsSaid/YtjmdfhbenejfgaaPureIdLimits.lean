/- IdLimits: how many may be drawn; each is what it was modulo 2^16. Conditions: none (every input that can be read). -/
import Derived.Test.YtjmdfhbenejfgaaHLimits
set_option linter.unusedVariables false
set_option linter.unusedSimpArgs false
namespace Go.Proofs.Ytjmdfhbenejfgaa.M
open Go Go.RowKit
theorem IdLimits_calls (w : World) (many x : Int) : Calls Try.prog 5 #[.int .i64 many, .int .i64 x] w fun e w' => e = .returned (.bool true) ∧ Below w.heap.size w w' := limits_walk many x w
end Go.Proofs.Ytjmdfhbenejfgaa.M
