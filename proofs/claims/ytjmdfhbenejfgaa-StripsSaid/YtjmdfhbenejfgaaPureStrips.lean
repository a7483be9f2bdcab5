/- Strips: any OPT: each Strip and Has; what is handed in stays, what is answered is new. Conditions: none (every input that can be read). -/
import Derived.Test.YtjmdfhbenejfgaaHEcs6
set_option linter.unusedVariables false
set_option linter.unusedSimpArgs false
namespace Go.Proofs.Ytjmdfhbenejfgaa.M
open Go Go.RowKit Go.Proofs.YtjmdfhbenejfgaaW.PrintWords Go.Proofs.Ytjmdfhbenejfgaa.P
theorem Strips_calls (w : World) (f0 f1 f2 : Int) (f3 : Bool) (f4 : Int) (A : Option Addr) (c : Nat) (xs : List S52) (h : Kd.C k52 w A xs.length xs) (hc : xs.length ≤ c) (hl : xs.length < 5864062014800) : Calls Try.prog 6 #[.agg #[.int .i64 f0, .int .i64 f1, .int .i64 f2, .bool f3, .int .i64 f4, .slice A xs.length c]] w fun e w' => e = .returned (.bool true) ∧ Below w.heap.size w w' := strips_walk w f0 f1 f2 f3 f4 A c xs h hc hl
end Go.Proofs.Ytjmdfhbenejfgaa.M
