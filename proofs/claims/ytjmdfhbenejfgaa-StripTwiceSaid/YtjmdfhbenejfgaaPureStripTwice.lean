/- StripTwice: stripped again is stripped; what is no client's address stays, in its row. Conditions: none (every input that can be read). -/
import Derived.Test.YtjmdfhbenejfgaaHEcs4
set_option linter.unusedVariables false
set_option linter.unusedSimpArgs false
namespace Go.Proofs.Ytjmdfhbenejfgaa.M
open Go Go.RowKit Go.Proofs.YtjmdfhbenejfgaaW.PrintWords Go.Proofs.Ytjmdfhbenejfgaa.P
theorem StripTwice_calls (w : World) (f0 f1 f2 : Int) (f3 : Bool) (f4 : Int) (A : Option Addr) (c : Nat) (xs : List S52) (h : Kd.C k52 w A xs.length xs) (hc : xs.length ≤ c) (hl : xs.length < 5864062014805) : Calls Try.prog 7 #[.agg #[.int .i64 f0, .int .i64 f1, .int .i64 f2, .bool f3, .int .i64 f4, .slice A xs.length c]] w fun e w' => e = .returned (.bool true) ∧ Below w.heap.size w w' := twice_walk w f0 f1 f2 f3 f4 A c xs h hc hl
end Go.Proofs.Ytjmdfhbenejfgaa.M
