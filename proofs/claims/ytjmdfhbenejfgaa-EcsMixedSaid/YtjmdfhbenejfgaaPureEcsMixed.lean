/- EcsMixed: clients' addresses among other options, in any places, go; all else stays, each with its bytes. Conditions: none (every input that can be read). -/
import Derived.Test.YtjmdfhbenejfgaaHEcs7
set_option linter.unusedVariables false
set_option linter.unusedSimpArgs false
namespace Go.Proofs.Ytjmdfhbenejfgaa.M
open Go Go.RowKit Go.Proofs.YtjmdfhbenejfgaaW.PrintWords Go.Proofs.Ytjmdfhbenejfgaa.P
theorem EcsMixed_calls (w : World) (A : Option Addr) (c : Nat) (xs : List Int) (s : ByteArray) (h : Kd.C (Kd.int .i64) w A xs.length xs) (hc : xs.length ≤ c) (hl : xs.length ≤ 17592186044416) (hs : s.size ≤ 140737488351232) : Calls Try.prog 8 #[.slice A xs.length c, .string s] w fun e w' => e = .returned (.bool true) ∧ Below w.heap.size w w' := mixed_walk w A c xs s h hc hs
end Go.Proofs.Ytjmdfhbenejfgaa.M
