/- TableActs: what is waited for under any calls: each answer and all that is held are the document's. Conditions: none (every input that can be read). -/
import Derived.Test.YtojjkgnkdcekpaaHTab25
set_option linter.unusedVariables false
namespace Go.Proofs.Ytojjkgnkdcekpaa.M
open Go Go.RowKit Go.Proofs.YtojjkgnkdcekpaaW.PrintWords Go.Proofs.Ytojjkgnkdcekpaa.P
theorem TableActs_calls (w : World) (most : Int) (A1 : Option Addr) (c1 : Nat) (l1 : List S39) (h1 : Kd.C k39 w A1 l1.length l1) (hc1 : l1.length ≤ c1) (hz : ∀ x ∈ l1, Ok39 x) : Calls Try.prog 3 #[.int .i64 most, .slice A1 l1.length c1] w fun e w' => e = .returned (.bool true) ∧ Below w.heap.size w w' :=
  acts_walk w most A1 c1 l1 h1 hc1 hz
end Go.Proofs.Ytojjkgnkdcekpaa.M
