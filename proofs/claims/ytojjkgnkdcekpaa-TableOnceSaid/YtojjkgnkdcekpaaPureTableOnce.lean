/- TableOnce: what was added is taken once, or is due once, whichever comes first. Conditions: none (every input that can be read). -/
import Derived.Test.YtojjkgnkdcekpaaHTab17
set_option linter.unusedVariables false
namespace Go.Proofs.Ytojjkgnkdcekpaa.M
open Go Go.RowKit Go.Proofs.YtojjkgnkdcekpaaW.PrintWords Go.Proofs.Ytojjkgnkdcekpaa.P
theorem TableOnce_calls (w : World) (A0 : Option Addr) (c0 : Nat) (l0 : List Int) (A1 : Option Addr) (c1 : Nat) (l1 : List Int) (now : Int) (h : Kd.C (Kd.int .i64) w A0 l0.length l0) (hc : l0.length ≤ c0) (h1 : Kd.C (Kd.int .i64) w A1 l1.length l1) (hc1 : l1.length ≤ c1) : Calls Try.prog 4 #[.slice A0 l0.length c0, .slice A1 l1.length c1, .int .i64 now] w fun e w' => e = .returned (.bool true) ∧ Below w.heap.size w w' :=
  once_walk w A0 c0 l0 A1 c1 l1 now h hc h1 hc1
end Go.Proofs.Ytojjkgnkdcekpaa.M
