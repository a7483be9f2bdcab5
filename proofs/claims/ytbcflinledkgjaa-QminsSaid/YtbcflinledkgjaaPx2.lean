-- Written by a program of this session's prover (over the kit's printer, with contracts of the session's own); Lean checks it.
import Derived.Test.YtbcflinledkgjaaPx0
namespace Go.Proofs.Ytbcflinledkgjaa.P
open Go.RowKit Go.Proofs.YtbcflinledkgjaaW.PrintWords Go.Proofs.YtbcflinledkgjaaW.PrintLast Go.Proofs.YtbcflinledkgjaaW.PrintMore
attribute [local go_sem] max2_int min2_int max_two min_two max_three min_three max_four min_four   -- for this text's walks alone
set_option linter.unusedVariables false
set_option linter.unusedSimpArgs false

/-! ### qmin_Size: function 10 -/
def qmin_Size.f (a0 : Int) (a1 : Int) (a2 : Int) (a3 : Int) : Option (Int × Int) :=
  if (a0 < 0 ∨ 1000 < a0) ∨ (a1 < 0 ∨ 1000 < a1) ∨ (a2 < 0 ∨ 1000 < a2) ∨ (a3 < 0 ∨ 1000 < a3) then some (0, 1700)
  else if a1 = 0 then some (0, 1700)
  else if a0 < a3 ∨ a1 ≤ a2 - a0 then some (1, 0)
  else if a2 ≤ a0 then some (a1, 0)
  else some (Int.tdiv (a1 + a2 - a0 - 1) (a2 - a0), 0)

theorem qmin_Size.at0 (a0 a1 a2 a3 : Int) (w : World) : (Instr.index 52 (.agg #[.int .i64 a0, .int .i64 a1, .int .i64 a2, .int .i64 a3]) (.int .i64 0)).run Try.prog w = .ok (.int .i64 a0) w := by
  first | kernel_rfl | (simp [Instr.index, run_underlying Try.underlying52, asIntOf, Instr.part, go_sem])
theorem qmin_Size.at1 (a0 a1 a2 a3 : Int) (w : World) : (Instr.index 52 (.agg #[.int .i64 a0, .int .i64 a1, .int .i64 a2, .int .i64 a3]) (.int .i64 1)).run Try.prog w = .ok (.int .i64 a1) w := by
  first | kernel_rfl | (simp [Instr.index, run_underlying Try.underlying52, asIntOf, Instr.part, go_sem])
theorem qmin_Size.at2 (a0 a1 a2 a3 : Int) (w : World) : (Instr.index 52 (.agg #[.int .i64 a0, .int .i64 a1, .int .i64 a2, .int .i64 a3]) (.int .i64 2)).run Try.prog w = .ok (.int .i64 a2) w := by
  first | kernel_rfl | (simp [Instr.index, run_underlying Try.underlying52, asIntOf, Instr.part, go_sem])
theorem qmin_Size.at3 (a0 a1 a2 a3 : Int) (w : World) : (Instr.index 52 (.agg #[.int .i64 a0, .int .i64 a1, .int .i64 a2, .int .i64 a3]) (.int .i64 3)).run Try.prog w = .ok (.int .i64 a3) w := by
  first | kernel_rfl | (simp [Instr.index, run_underlying Try.underlying52, asIntOf, Instr.part, go_sem])
set_option maxHeartbeats 4000000 in
set_option maxRecDepth 100000 in
theorem qmin_Size.calls (a0 : Int) (a1 : Int) (a2 : Int) (a3 : Int) (r1 : Int) (r2 : Int) (w : World) (h : qmin_Size.f a0 a1 a2 a3 = some (r1, r2)) :
    Calls Try.prog 10 #[.int .i64 a0, .int .i64 a1, .int .i64 a2, .int .i64 a3] w fun e w' => e = .returned (.tuple #[.int .i64 r1, .int .i64 r2]) ∧ Below w.heap.size w w' := by
  have HB := Below.refl w.heap.size w
  unfold qmin_Size.f at h
  have H := Aside0.mk h
  clear h
  go_enter Try.func10, Try.ntmps10
  go_wp2
  go_loopw [17] (fun v17 wr => ∃ i : Nat, i ≤ 4 ∧ v17 = .int .i64 i ∧ (1 ≤ i → ¬ (a0 < 0 ∨ 1000 < a0)) ∧ (2 ≤ i → ¬ (a1 < 0 ∨ 1000 < a1)) ∧ (3 ≤ i → ¬ (a2 < 0 ∨ 1000 < a2)) ∧ (4 ≤ i → ¬ (a3 < 0 ∨ 1000 < a3)) ∧ wr = w) (fun v17 _ => 4 - (intOf v17).toNat)
  case atStart => exact ⟨0, by omega, rfl, by omega, by omega, by omega, by omega, rfl⟩
  case round =>
    obtain ⟨i, hi, rfl, b0, b1, b2, b3, rfl⟩ := hrel
    have hcase : i = 0 ∨ i = 1 ∨ i = 2 ∨ i = 3 ∨ i = 4 := by omega
    clear hi
    rcases hcase with rfl | rfl | rfl | rfl | rfl
    · have IX := qmin_Size.at0 a0 a1 a2 a3 wr
      have key : a0 < 0 ∨ (¬ a0 < 0 ∧ 1000 < a0) ∨ (¬ a0 < 0 ∧ ¬ 1000 < a0) := by omega
      have BB := Aside0.mk (And.intro b0 (And.intro b1 (And.intro b2 b3)))
      clear b0 b1 b2 b3
      rcases key with q | ⟨q0, q⟩ | ⟨q0, q⟩
      · have e := H.out
        rw [if_pos (by omega)] at e
        have q1 : decide (a0 < 0) = true := decide_eq_true q
        clear q
        go_wp2
        go_ret2
        obtain ⟨rfl, rfl⟩ := Prod.mk.inj (Option.some.inj e)
        exact ⟨rfl, HB⟩
      · have e := H.out
        rw [if_pos (by omega)] at e
        have q1 : decide (a0 < 0) = false := decide_eq_false q0
        have q2 : decide (1000 < a0) = true := decide_eq_true q
        have Q0 := Aside0.mk q0
        clear q q0
        go_wp2
        go_ret2
        obtain ⟨rfl, rfl⟩ := Prod.mk.inj (Option.some.inj e)
        exact ⟨rfl, HB⟩
      · have q1 : decide (a0 < 0) = false := decide_eq_false q0
        have q2 : decide (1000 < a0) = false := decide_eq_false q
        have Q := Aside0.mk (And.intro q0 q)
        clear q q0
        go_wp2
        go_roundw
        case rel => exact ⟨1, by omega, by first | rfl | (simp; done), by have := BB.out; have := Q.out; omega, by have := BB.out; have := Q.out; omega, by have := BB.out; have := Q.out; omega, by have := BB.out; have := Q.out; omega, by first | rfl | trivial⟩
        case measure => simp [intOf]
    · have IX := qmin_Size.at1 a0 a1 a2 a3 wr
      have key : a1 < 0 ∨ (¬ a1 < 0 ∧ 1000 < a1) ∨ (¬ a1 < 0 ∧ ¬ 1000 < a1) := by omega
      have BB := Aside0.mk (And.intro b0 (And.intro b1 (And.intro b2 b3)))
      clear b0 b1 b2 b3
      rcases key with q | ⟨q0, q⟩ | ⟨q0, q⟩
      · have e := H.out
        rw [if_pos (by omega)] at e
        have q1 : decide (a1 < 0) = true := decide_eq_true q
        clear q
        go_wp2
        go_ret2
        obtain ⟨rfl, rfl⟩ := Prod.mk.inj (Option.some.inj e)
        exact ⟨rfl, HB⟩
      · have e := H.out
        rw [if_pos (by omega)] at e
        have q1 : decide (a1 < 0) = false := decide_eq_false q0
        have q2 : decide (1000 < a1) = true := decide_eq_true q
        have Q0 := Aside0.mk q0
        clear q q0
        go_wp2
        go_ret2
        obtain ⟨rfl, rfl⟩ := Prod.mk.inj (Option.some.inj e)
        exact ⟨rfl, HB⟩
      · have q1 : decide (a1 < 0) = false := decide_eq_false q0
        have q2 : decide (1000 < a1) = false := decide_eq_false q
        have Q := Aside0.mk (And.intro q0 q)
        clear q q0
        go_wp2
        go_roundw
        case rel => exact ⟨2, by omega, by first | rfl | (simp; done), by have := BB.out; have := Q.out; omega, by have := BB.out; have := Q.out; omega, by have := BB.out; have := Q.out; omega, by have := BB.out; have := Q.out; omega, by first | rfl | trivial⟩
        case measure => simp [intOf]
    · have IX := qmin_Size.at2 a0 a1 a2 a3 wr
      have key : a2 < 0 ∨ (¬ a2 < 0 ∧ 1000 < a2) ∨ (¬ a2 < 0 ∧ ¬ 1000 < a2) := by omega
      have BB := Aside0.mk (And.intro b0 (And.intro b1 (And.intro b2 b3)))
      clear b0 b1 b2 b3
      rcases key with q | ⟨q0, q⟩ | ⟨q0, q⟩
      · have e := H.out
        rw [if_pos (by omega)] at e
        have q1 : decide (a2 < 0) = true := decide_eq_true q
        clear q
        go_wp2
        go_ret2
        obtain ⟨rfl, rfl⟩ := Prod.mk.inj (Option.some.inj e)
        exact ⟨rfl, HB⟩
      · have e := H.out
        rw [if_pos (by omega)] at e
        have q1 : decide (a2 < 0) = false := decide_eq_false q0
        have q2 : decide (1000 < a2) = true := decide_eq_true q
        have Q0 := Aside0.mk q0
        clear q q0
        go_wp2
        go_ret2
        obtain ⟨rfl, rfl⟩ := Prod.mk.inj (Option.some.inj e)
        exact ⟨rfl, HB⟩
      · have q1 : decide (a2 < 0) = false := decide_eq_false q0
        have q2 : decide (1000 < a2) = false := decide_eq_false q
        have Q := Aside0.mk (And.intro q0 q)
        clear q q0
        go_wp2
        go_roundw
        case rel => exact ⟨3, by omega, by first | rfl | (simp; done), by have := BB.out; have := Q.out; omega, by have := BB.out; have := Q.out; omega, by have := BB.out; have := Q.out; omega, by have := BB.out; have := Q.out; omega, by first | rfl | trivial⟩
        case measure => simp [intOf]
    · have IX := qmin_Size.at3 a0 a1 a2 a3 wr
      have key : a3 < 0 ∨ (¬ a3 < 0 ∧ 1000 < a3) ∨ (¬ a3 < 0 ∧ ¬ 1000 < a3) := by omega
      have BB := Aside0.mk (And.intro b0 (And.intro b1 (And.intro b2 b3)))
      clear b0 b1 b2 b3
      rcases key with q | ⟨q0, q⟩ | ⟨q0, q⟩
      · have e := H.out
        rw [if_pos (by omega)] at e
        have q1 : decide (a3 < 0) = true := decide_eq_true q
        clear q
        go_wp2
        go_ret2
        obtain ⟨rfl, rfl⟩ := Prod.mk.inj (Option.some.inj e)
        exact ⟨rfl, HB⟩
      · have e := H.out
        rw [if_pos (by omega)] at e
        have q1 : decide (a3 < 0) = false := decide_eq_false q0
        have q2 : decide (1000 < a3) = true := decide_eq_true q
        have Q0 := Aside0.mk q0
        clear q q0
        go_wp2
        go_ret2
        obtain ⟨rfl, rfl⟩ := Prod.mk.inj (Option.some.inj e)
        exact ⟨rfl, HB⟩
      · have q1 : decide (a3 < 0) = false := decide_eq_false q0
        have q2 : decide (1000 < a3) = false := decide_eq_false q
        have Q := Aside0.mk (And.intro q0 q)
        clear q q0
        go_wp2
        go_roundw
        case rel => exact ⟨4, by omega, by first | rfl | (simp; done), by have := BB.out; have := Q.out; omega, by have := BB.out; have := Q.out; omega, by have := BB.out; have := Q.out; omega, by have := BB.out; have := Q.out; omega, by first | rfl | trivial⟩
        case measure => simp [intOf]
    · have g0 := b0 (by omega)
      have g1 := b1 (by omega)
      have g2 := b2 (by omega)
      have g3 := b3 (by omega)
      clear b0 b1 b2 b3
      have e := H.out
      rw [if_neg (by omega)] at e
      clear H
      obtain ⟨d, hd, hd2⟩ : ∃ d, IntKind.i64.wrap (a2 - a0) = d ∧ d = a2 - a0 := ⟨_, rfl, by rw [i64_w]; unfold wrap64; omega⟩
      obtain ⟨s1, hs1, hs1b⟩ : ∃ d, IntKind.i64.wrap (a1 + a2) = d ∧ d = a1 + a2 := ⟨_, rfl, by rw [i64_w]; unfold wrap64; omega⟩
      obtain ⟨s2, hs2, hs2b⟩ : ∃ d, IntKind.i64.wrap (s1 - a0) = d ∧ d = a1 + a2 - a0 := ⟨_, rfl, by rw [i64_w]; unfold wrap64; omega⟩
      obtain ⟨s3, hs3, hs3b⟩ : ∃ d, IntKind.i64.wrap (s2 - 1) = d ∧ d = a1 + a2 - a0 - 1 := ⟨_, rfl, by rw [i64_w]; unfold wrap64; omega⟩
      rw [← hd2, ← hs3b] at e
      have G := Aside0.mk (And.intro g0 (And.intro g1 (And.intro g2 (And.intro g3 (And.intro hd2 hs3b)))))
      have E := Aside0.mk e
      clear g0 g1 g2 g3 hs1b hs2b e
      by_cases z : a1 = 0
      · have e := E.out
        rw [if_pos z] at e
        subst z
        clear hd2 hs3b
        go_wp2
        go_ret2
        obtain ⟨rfl, rfl⟩ := Prod.mk.inj (Option.some.inj e)
        exact ⟨rfl, HB⟩
      have e := E.out
      rw [if_neg z] at e
      have z1 : (a1 == 0) = false := beq_eq_false_iff_ne.mpr z
      clear z
      have key : a0 < a3 ∨ (¬ a0 < a3 ∧ a1 ≤ d) ∨ (¬ a0 < a3 ∧ ¬ a1 ≤ d ∧ a2 ≤ a0) ∨ (¬ a0 < a3 ∧ ¬ a1 ≤ d ∧ ¬ a2 ≤ a0) := by omega
      clear hs3b E
      rcases key with q | ⟨q, q'⟩ | ⟨q, q', q''⟩ | ⟨q, q', q''⟩
      · rw [if_pos (Or.inl q)] at e
        have q1 : decide (a0 < a3) = true := decide_eq_true q
        clear q hd2
        go_wp2
        go_ret2
        obtain ⟨rfl, rfl⟩ := Prod.mk.inj (Option.some.inj e)
        exact ⟨rfl, HB⟩
      · rw [if_pos (Or.inr q')] at e
        have q1 : decide (a0 < a3) = false := decide_eq_false q
        have q2 : decide (a1 ≤ d) = true := decide_eq_true q'
        clear q q' hd2
        go_wp2
        go_ret2
        obtain ⟨rfl, rfl⟩ := Prod.mk.inj (Option.some.inj e)
        exact ⟨rfl, HB⟩
      · rw [if_neg (by omega), if_pos q''] at e
        have q1 : decide (a0 < a3) = false := decide_eq_false q
        have q2 : decide (a1 ≤ d) = false := decide_eq_false q'
        have q3 : decide (a2 ≤ a0) = true := decide_eq_true q''
        clear q q' q'' hd2
        go_wp2
        go_ret2
        obtain ⟨rfl, rfl⟩ := Prod.mk.inj (Option.some.inj e)
        exact ⟨rfl, HB⟩
      · rw [if_neg (by omega), if_neg q''] at e
        have q1 : decide (a0 < a3) = false := decide_eq_false q
        have q2 : decide (a1 ≤ d) = false := decide_eq_false q'
        have q3 : decide (a2 ≤ a0) = false := decide_eq_false q''
        have dpos : 1 ≤ d := by omega
        have dz : (d = 0) = False := eq_false (by omega)
        have dz2 : (d == 0) = false := beq_eq_false_iff_ne.mpr (by omega)
        have hb : 0 ≤ s3 ∧ s3 ≤ 3000 := by have := G.out; omega
        have hq : IntKind.i64.wrap (Int.tdiv s3 d) = Int.tdiv s3 d := by
          rw [i64_w, Int.tdiv_eq_ediv_of_nonneg hb.1]
          have h1 := Int.ediv_le_self d hb.1
          have h2 := Int.ediv_nonneg hb.1 (show 0 ≤ d by omega)
          unfold wrap64; omega
        obtain ⟨q, hq1, hq2⟩ : ∃ q, IntKind.i64.wrap (Int.tdiv s3 d) = q ∧ q = Int.tdiv s3 d := ⟨_, hq, rfl⟩
        rw [← hq2] at e
        have E2 := Aside0.mk e
        clear q' q'' hd2 hq hq2 hb dpos e
        go_wp2
        go_ret2
        obtain ⟨rfl, rfl⟩ := Prod.mk.inj (Option.some.inj E2.out)
        exact ⟨rfl, HB⟩


end Go.Proofs.Ytbcflinledkgjaa.P
