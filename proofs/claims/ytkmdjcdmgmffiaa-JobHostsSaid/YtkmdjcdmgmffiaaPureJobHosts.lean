/- JobHosts: a host was tried just if it was asked of before, in whatever case. Conditions: none (every input that can be read). -/
import Derived.Test.YtkmdjcdmgmffiaaHJob12
set_option linter.unusedVariables false
namespace Go.Proofs.Ytkmdjcdmgmffiaa.M
open Go Go.RowKit Go.Proofs.YtkmdjcdmgmffiaaW.PrintWords Go.Proofs.Ytkmdjcdmgmffiaa.P
theorem JobHosts_calls (w : World) (A0 : Option Addr) (c0 : Nat) (l0 : List ByteArray) (h : Kd.C Kd.string w A0 l0.length l0) (hc : l0.length ≤ c0) : Calls Try.prog 6 #[.slice A0 l0.length c0] w fun e w' => e = .returned (.bool true) ∧ Below w.heap.size w w' :=
  hosts_walk w A0 c0 l0 h hc
end Go.Proofs.Ytkmdjcdmgmffiaa.M
