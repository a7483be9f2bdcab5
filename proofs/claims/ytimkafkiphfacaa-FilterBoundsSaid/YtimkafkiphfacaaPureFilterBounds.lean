/- FilterBounds: what is left is beneath the cut, what went is not; under a deeper cut less is left. Conditions: none (every input that can be read). -/
import Derived.Test.YtimkafkiphfacaaHBounds
set_option linter.unusedVariables false
set_option linter.unusedSimpArgs false
namespace Go.Proofs.Ytimkafkiphfacaa.M
open Go Go.RowKit Go.Proofs.YtimkafkiphfacaaW.PrintWords Go.Proofs.Ytimkafkiphfacaa.P
theorem FilterBounds_calls (w : World) (h0 : Int) (h1 : Bool) (h2 : Int) (h3 h4 h5 h6 : Bool) (h7 h8 : Int) (A9 : Option Addr) (c9 : Nat) (q : List S71) (A10 : Option Addr) (c10 : Nat) (a : List S42) (A11 : Option Addr) (c11 : Nat) (n : List S42) (A12 : Option Addr) (c12 : Nat) (r : List S42) (cut deeper : ByteArray)
    (R9 : Kd.C k71 w A9 q.length q) (L9 : q.length ≤ c9) (R10 : Kd.C k42 w A10 a.length a) (L10 : a.length ≤ c10) (R11 : Kd.C k42 w A11 n.length n) (L11 : n.length ≤ c11) (R12 : Kd.C k42 w A12 r.length r) (L12 : r.length ≤ c12)
    (hq : q.length ≤ 4398046510976) (ha : a.length ≤ 2513169434843) (hn : n.length ≤ 2513169434843) (hr : r.length ≤ 2513169434843) :
    Calls Try.prog 4 #[.agg #[.int .i64 h0, .bool h1, .int .i64 h2, .bool h3, .bool h4, .bool h5, .bool h6, .int .i64 h7, .int .i64 h8, .slice A9 q.length c9, .slice A10 a.length c10, .slice A11 n.length c11, .slice A12 r.length c12], .string cut, .string deeper] w fun e w' => e = .returned (.bool true) ∧ Below w.heap.size w w' := by
  cases hc : (nm (B cut)).isSome with
  | true => exact bounds_walk w h0 h1 h2 h3 h4 h5 h6 h7 h8 A9 c9 q A10 c10 a A11 c11 n A12 c12 r cut deeper ⟨hc⟩ ⟨R9⟩ ⟨L9⟩ ⟨R10⟩ ⟨L10⟩ ⟨R11⟩ ⟨L11⟩ ⟨R12⟩ ⟨L12⟩ ⟨hq⟩ ⟨ha⟩ ⟨hn⟩ ⟨hr⟩
  | false => exact bounds_none w h0 h1 h2 h3 h4 h5 h6 h7 h8 A9 c9 q A10 c10 a A11 c11 n A12 c12 r cut deeper ⟨hc⟩ ⟨R9⟩ ⟨L9⟩ ⟨R10⟩ ⟨L10⟩ ⟨R11⟩ ⟨L11⟩ ⟨R12⟩ ⟨L12⟩ ⟨hq⟩ ⟨ha⟩ ⟨hn⟩ ⟨hr⟩
end Go.Proofs.Ytimkafkiphfacaa.M
