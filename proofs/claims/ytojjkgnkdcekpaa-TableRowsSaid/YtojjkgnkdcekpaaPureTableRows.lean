/- TableRows: questions with one key are answered in the order in which they were asked. Conditions: none (every input that can be read). -/
import Derived.Test.YtojjkgnkdcekpaaHTab14
set_option linter.unusedVariables false
namespace Go.Proofs.Ytojjkgnkdcekpaa.M
open Go Go.RowKit Go.Proofs.YtojjkgnkdcekpaaW.PrintWords Go.Proofs.Ytojjkgnkdcekpaa.P
theorem TableRows_calls (w : World) (A0 : Option Addr) (c0 : Nat) (l0 : List Int) (h : Kd.C (Kd.int .i64) w A0 l0.length l0) (hc : l0.length ≤ c0) : Calls Try.prog 7 #[.slice A0 l0.length c0] w fun e w' => e = .returned (.bool true) ∧ Below w.heap.size w w' :=
  trows_walk w A0 c0 l0 h hc
end Go.Proofs.Ytojjkgnkdcekpaa.M
