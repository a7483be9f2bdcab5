/- FilterTwice: filtered again is filtered; parts do not turn one another. Conditions: none (every input that can be read). -/
import Derived.Test.YtimkafkiphfacaaSAwake12
import Derived.Test.YtimkafkiphfacaaHTwice
set_option linter.unusedVariables false
set_option linter.unusedSimpArgs false
namespace Go.Proofs.Ytimkafkiphfacaa.M
open Go Go.RowKit Go.Proofs.YtimkafkiphfacaaW.PrintWords Go.Proofs.Ytimkafkiphfacaa.P
theorem FilterTwice_calls (w : World) (h0 : Int) (h1 : Bool) (h2 : Int) (h3 h4 h5 h6 : Bool) (h7 h8 : Int) (A9 : Option Addr) (c9 : Nat) (q : List S71) (A10 : Option Addr) (c10 : Nat) (a : List S42) (A11 : Option Addr) (c11 : Nat) (n : List S42) (A12 : Option Addr) (c12 : Nat) (r : List S42) (cut : ByteArray)
    (R9 : Kd.C k71 w A9 q.length q) (L9 : q.length ≤ c9) (R10 : Kd.C k42 w A10 a.length a) (L10 : a.length ≤ c10) (R11 : Kd.C k42 w A11 n.length n) (L11 : n.length ≤ c11) (R12 : Kd.C k42 w A12 r.length r) (L12 : r.length ≤ c12)
    (hq : q.length ≤ 4398046510976) (ha : a.length ≤ 2513169434843) (hn : n.length ≤ 2513169434843) (hr : r.length ≤ 2513169434843) :
    Calls Try.prog 6 #[.agg #[.int .i64 h0, .bool h1, .int .i64 h2, .bool h3, .bool h4, .bool h5, .bool h6, .int .i64 h7, .int .i64 h8, .slice A9 q.length c9, .slice A10 a.length c10, .slice A11 n.length c11, .slice A12 r.length c12], .string cut] w fun e w' => e = .returned (.bool true) ∧ Below w.heap.size w w' := by
  obtain ⟨k0, e0⟩ := awake_ev
  cases hc : (nm (B cut)).isSome with
  | true =>
    have La : (keepS (B cut) a).length ≤ 2513169434843 := Nat.le_trans (keepS_le _ _) ha
    have Ln : (keepS (B cut) n).length ≤ 2513169434843 := Nat.le_trans (keepS_le _ _) hn
    have Lr : (keepS (B cut) r).length ≤ 2513169434843 := Nat.le_trans (keepS_le _ _) hr
    have F2 := Filter_ok h0 h1 h2 h3 h4 h5 h6 h7 h8 q (keepS (B cut) a) (keepS (B cut) n) (keepS (B cut) r) cut hc hq La Ln Lr
    rw [keepS_twice, keepS_twice, keepS_twice] at F2
    obtain ⟨k1, e1⟩ := Filter_ok h0 h1 h2 h3 h4 h5 h6 h7 h8 q a n r cut hc hq ha hn hr
    obtain ⟨k2, e2⟩ := F2
    obtain ⟨k3, e3⟩ := Filter_ok h0 h1 h2 h3 h4 h5 h6 h7 h8 q [] n r cut hc hq (by simp) hn hr
    obtain ⟨k4, e4⟩ := SameM_refl h0 h1 h2 h3 h4 h5 h6 h7 h8 q (keepS (B cut) a) (keepS (B cut) n) (keepS (B cut) r) hq La Ln Lr
    obtain ⟨k5, e5⟩ := SameR_refl (keepS (B cut) n) Ln
    obtain ⟨k6, e6⟩ := SameR_refl (keepS (B cut) r) Lr
    exact twice_walk (k0 + k1 + k2 + k3 + k4 + k5 + k6) w h0 h1 h2 h3 h4 h5 h6 h7 h8 A9 c9 q A10 c10 a A11 c11 n A12 c12 r cut (keepS (B cut) a) (keepS (B cut) n) (keepS (B cut) r) ⟨R9⟩ ⟨L9⟩ ⟨R10⟩ ⟨L10⟩ ⟨R11⟩ ⟨L11⟩ ⟨R12⟩ ⟨L12⟩
      ⟨e0 _ (by omega)⟩ ⟨e1 _ (by omega)⟩ ⟨e2 _ (by omega)⟩ ⟨e3 _ (by omega)⟩ ⟨e4 _ (by omega)⟩ ⟨e5 _ (by omega)⟩ ⟨e6 _ (by omega)⟩ ⟨keepS_le _ _⟩
  | false =>
    obtain ⟨k1, e1⟩ := Filter_no h0 h1 h2 h3 h4 h5 h6 h7 h8 q a n r cut hc
    obtain ⟨k2, e2⟩ := Filter_no 0 false 0 false false false false 0 0 [] [] [] [] cut hc
    obtain ⟨k3, e3⟩ := Filter_no h0 h1 h2 h3 h4 h5 h6 h7 h8 q [] n r cut hc
    exact twice_none (k0 + k1 + k2 + k3) w h0 h1 h2 h3 h4 h5 h6 h7 h8 A9 c9 q A10 c10 a A11 c11 n A12 c12 r cut ⟨R9⟩ ⟨L9⟩ ⟨R10⟩ ⟨L10⟩ ⟨R11⟩ ⟨L11⟩ ⟨R12⟩ ⟨L12⟩
      ⟨e0 _ (by omega)⟩ ⟨e1 _ (by omega)⟩ ⟨e2 _ (by omega)⟩ ⟨e3 _ (by omega)⟩
end Go.Proofs.Ytimkafkiphfacaa.M
