/- ServeOnce: each address is there once, in the row of its first binding; whoever has one is not wanting. Conditions: none (every input that can be read). -/
import Derived.Test.YtimkafkiphfacaaSServe3
set_option linter.unusedVariables false
namespace Go.Proofs.Ytimkafkiphfacaa.M
open Go Go.RowKit Go.Proofs.YtimkafkiphfacaaW.PrintWords Go.Proofs.Ytimkafkiphfacaa.P
theorem ServeOnce_calls (w : World) (A0 : Option Addr) (c0 : Nat) (l0 : List ByteArray) (A1 : Option Addr) (c1 : Nat) (l1 : List S61) (h : Kd.C Kd.string w A0 l0.length l0) (hc : l0.length ≤ c0) (hz : ∀ x ∈ l0, x.size ≤ 9223372036854775807) (h1 : Kd.C k61 w A1 l1.length l1) (hc1 : l1.length ≤ c1) (hz1 : ∀ x ∈ l1, (Lit.int .i64 x.f2).wf = true) (hl : l0.length ≤ 8796093021952) (hl1 : l1.length ≤ 2199023255488) : Calls Try.prog 8 #[.slice A0 l0.length c0, .slice A1 l1.length c1] w fun e w' => e = .returned (.bool true) ∧ Below w.heap.size w w' := by
  obtain ⟨k, hk⟩ := Ev.rounds (ServeOnce_ev l0 l1 hl hl1 hz hz1)
  exact wimplelaw16_ServeOnce.calls k A0 c0 l0 A1 c1 l1 true w h hc h1 hc1 hk
end Go.Proofs.Ytimkafkiphfacaa.M
