/- Filters: any message under any cut: each Filter; the message stays, what is answered is new. Conditions: none (every input that can be read). -/
import Derived.Test.YtimkafkiphfacaaHFilters
set_option linter.unusedVariables false
set_option linter.unusedSimpArgs false
namespace Go.Proofs.Ytimkafkiphfacaa.M
open Go Go.RowKit Go.Proofs.YtimkafkiphfacaaW.PrintWords Go.Proofs.Ytimkafkiphfacaa.P
theorem Filters_calls (w : World) (h0 : Int) (h1 : Bool) (h2 : Int) (h3 h4 h5 h6 : Bool) (h7 h8 : Int) (A9 : Option Addr) (c9 : Nat) (q : List S71) (A10 : Option Addr) (c10 : Nat) (a : List S42) (A11 : Option Addr) (c11 : Nat) (n : List S42) (A12 : Option Addr) (c12 : Nat) (r : List S42) (cut : ByteArray)
    (R9 : Kd.C k71 w A9 q.length q) (L9 : q.length ≤ c9) (R10 : Kd.C k42 w A10 a.length a) (L10 : a.length ≤ c10) (R11 : Kd.C k42 w A11 n.length n) (L11 : n.length ≤ c11) (R12 : Kd.C k42 w A12 r.length r) (L12 : r.length ≤ c12)
    (hq : q.length ≤ 4398046510976) (ha : a.length ≤ 2513169434843) (hn : n.length ≤ 2513169434843) (hr : r.length ≤ 2513169434843) :
    Calls Try.prog 3 #[.agg #[.int .i64 h0, .bool h1, .int .i64 h2, .bool h3, .bool h4, .bool h5, .bool h6, .int .i64 h7, .int .i64 h8, .slice A9 q.length c9, .slice A10 a.length c10, .slice A11 n.length c11, .slice A12 r.length c12], .string cut] w fun e w' => e = .returned (.bool true) ∧ Below w.heap.size w w' := by
  obtain ⟨k0, e0⟩ := Ev.rounds awake_ev
  obtain ⟨k4, e4⟩ := Ev.rounds (SameM_refl h0 h1 h2 h3 h4 h5 h6 h7 h8 q a n r hq ha hn hr)
  have e9 := copyM_f h0 h1 h2 h3 h4 h5 h6 h7 h8 q a n r hq ha hn hr
  cases hc : (nm (B cut)).isSome with
  | true =>
    have La : (keepS (B cut) a).length ≤ 2513169434843 := Nat.le_trans (keepS_le _ _) ha
    have Ln : (keepS (B cut) n).length ≤ 2513169434843 := Nat.le_trans (keepS_le _ _) hn
    have Lr : (keepS (B cut) r).length ≤ 2513169434843 := Nat.le_trans (keepS_le _ _) hr
    obtain ⟨k1, e1⟩ := Ev.rounds (Filter_ok h0 h1 h2 h3 h4 h5 h6 h7 h8 q a n r cut hc hq ha hn hr)
    obtain ⟨k2, e2⟩ := Ev.rounds (RefFilter_ok h0 h1 h2 h3 h4 h5 h6 h7 h8 q a n r cut hc hq ha hn hr)
    obtain ⟨k3, e3⟩ := Ev.rounds (SameM_refl h0 h1 h2 h3 h4 h5 h6 h7 h8 q (keepS (B cut) a) (keepS (B cut) n) (keepS (B cut) r) hq La Ln Lr)
    obtain ⟨k5, e5⟩ := spM h0 h1 h2 h3 h4 h5 h6 h7 h8 q (keepS (B cut) a) (keepS (B cut) n) (keepS (B cut) r) (by omega) (by omega) (by omega) (by omega)
    exact filters_walk w h0 h1 h2 h3 h4 h5 h6 h7 h8 A9 c9 q A10 c10 a A11 c11 n A12 c12 r cut h0 h1 h2 h3 h4 h5 h6 h7 h8 q (keepS (B cut) a) (keepS (B cut) n) (keepS (B cut) r) 0 k1 k2 k3 k4 k5 k0 ⟨R9⟩ ⟨L9⟩ ⟨R10⟩ ⟨L10⟩ ⟨R11⟩ ⟨L11⟩ ⟨R12⟩ ⟨L12⟩
      ⟨e9⟩ ⟨e1⟩ ⟨e2⟩ ⟨e3⟩ ⟨e4⟩ ⟨e5⟩ ⟨e0⟩
  | false =>
    obtain ⟨k1, e1⟩ := Ev.rounds (Filter_no h0 h1 h2 h3 h4 h5 h6 h7 h8 q a n r cut hc)
    obtain ⟨k2, e2⟩ := Ev.rounds (RefFilter_no h0 h1 h2 h3 h4 h5 h6 h7 h8 q a n r cut hc)
    obtain ⟨k3, e3⟩ := Ev.rounds (SameM_refl 0 false 0 false false false false 0 0 [] [] [] [] (by simp) (by simp) (by simp) (by simp))
    obtain ⟨k5, e5⟩ := spM 0 false 0 false false false false 0 0 [] [] [] [] (by simp) (by simp) (by simp) (by simp)
    exact filters_walk w h0 h1 h2 h3 h4 h5 h6 h7 h8 A9 c9 q A10 c10 a A11 c11 n A12 c12 r cut 0 false 0 false false false false 0 0 [] [] [] [] 1200 k1 k2 k3 k4 k5 k0 ⟨R9⟩ ⟨L9⟩ ⟨R10⟩ ⟨L10⟩ ⟨R11⟩ ⟨L11⟩ ⟨R12⟩ ⟨L12⟩
      ⟨e9⟩ ⟨e1⟩ ⟨e2⟩ ⟨e3⟩ ⟨e4⟩ ⟨e5⟩ ⟨e0⟩
end Go.Proofs.Ytimkafkiphfacaa.M
