/- IdRows: any drawn numbers, one by one. Conditions: none (every input that can be read). -/
import Derived.Test.YtjmdfhbenejfgaaHIdRows
set_option linter.unusedVariables false
set_option linter.unusedSimpArgs false
namespace Go.Proofs.Ytjmdfhbenejfgaa.M
open Go Go.RowKit Go.Proofs.YtjmdfhbenejfgaaW.PrintWords
theorem IdRows_calls (w : World) (A0 : Option Addr) (c0 : Nat) (zs : List Int) (h0 : Kd.C (Kd.int .i64) w A0 zs.length zs) (hc0 : zs.length ≤ c0) (hl : zs.length < 17592186044410) : Calls Try.prog 4 #[.slice A0 zs.length c0] w fun e w' => e = .returned (.bool true) ∧ Below w.heap.size w w' := rows_walk A0 c0 zs w h0 hc0 hl
end Go.Proofs.Ytjmdfhbenejfgaa.M
