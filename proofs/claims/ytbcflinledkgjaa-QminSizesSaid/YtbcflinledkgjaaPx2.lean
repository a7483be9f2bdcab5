-- Written by a program of this session's prover (over the kit's printer, with contracts of the session's own); Lean checks it.
import Derived.Test.YtbcflinledkgjaaPx0
namespace Go.Proofs.Ytbcflinledkgjaa.P
open Go.RowKit Go.Proofs.YtbcflinledkgjaaW.PrintWords Go.Proofs.YtbcflinledkgjaaW.PrintLast Go.Proofs.YtbcflinledkgjaaW.PrintMore
attribute [local go_sem] max2_int min2_int max_two min_two max_three min_three max_four min_four   -- for this text's walks alone
set_option linter.unusedVariables false
set_option linter.unusedSimpArgs false

/-! ### qmin_Size: function 10 -/
def qmin_Size.f (a0 : Int) (a1 : Int) (a2 : Int) (a3 : Int) : Option (Int × Int) :=
  if (a0 < 0 ∨ 1000 < a0) ∨ (a1 < 0 ∨ 1000 < a1) ∨ (a2 < 0 ∨ 1000 < a2) ∨ (a3 < 0 ∨ 1000 < a3) then some (0, 1700)
  else if a1 = 0 then some (0, 1700)
  else if a0 < a3 ∨ a1 ≤ a2 - a0 then some (1, 0)
  else if a2 ≤ a0 then some (a1, 0)
  else some (Int.tdiv (a1 + a2 - a0 - 1) (a2 - a0), 0)

theorem qmin_Size.at0 (a0 a1 a2 a3 : Int) (w : World) : (Instr.index 52 (.agg #[.int .i64 a0, .int .i64 a1, .int .i64 a2, .int .i64 a3]) (.int .i64 0)).run Try.prog w = .ok (.int .i64 a0) w := by
  first | kernel_rfl | (simp [Instr.index, run_underlying Try.underlying52, asIntOf, Instr.part, go_sem])
theorem qmin_Size.at1 (a0 a1 a2 a3 : Int) (w : World) : (Instr.index 52 (.agg #[.int .i64 a0, .int .i64 a1, .int .i64 a2, .int .i64 a3]) (.int .i64 1)).run Try.prog w = .ok (.int .i64 a1) w := by
  first | kernel_rfl | (simp [Instr.index, run_underlying Try.underlying52, asIntOf, Instr.part, go_sem])
theorem qmin_Size.at2 (a0 a1 a2 a3 : Int) (w : World) : (Instr.index 52 (.agg #[.int .i64 a0, .int .i64 a1, .int .i64 a2, .int .i64 a3]) (.int .i64 2)).run Try.prog w = .ok (.int .i64 a2) w := by
  first | kernel_rfl | (simp [Instr.index, run_underlying Try.underlying52, asIntOf, Instr.part, go_sem])
theorem qmin_Size.at3 (a0 a1 a2 a3 : Int) (w : World) : (Instr.index 52 (.agg #[.int .i64 a0, .int .i64 a1, .int .i64 a2, .int .i64 a3]) (.int .i64 3)).run Try.prog w = .ok (.int .i64 a3) w := by
  first | kernel_rfl | (simp [Instr.index, run_underlying Try.underlying52, asIntOf, Instr.part, go_sem])
set_option maxHeartbeats 4000000 in
set_option maxRecDepth 100000 in
theorem qmin_Size.calls (a0 : Int) (a1 : Int) (a2 : Int) (a3 : Int) (r1 : Int) (r2 : Int) (w : World) (h : qmin_Size.f a0 a1 a2 a3 = some (r1, r2)) :
    Calls Try.prog 10 #[.int .i64 a0, .int .i64 a1, .int .i64 a2, .int .i64 a3] w fun e w' => e = .returned (.tuple #[.int .i64 r1, .int .i64 r2]) ∧ Below w.heap.size w w' := by
  have HB := Below.refl w.heap.size w
  unfold qmin_Size.f at h
  have H := Aside0.mk h
  clear h
  go_enter Try.func10, Try.ntmps10
  go_wp2
  go_loopw [17] (fun v17 wr => ∃ i : Nat, i ≤ 4 ∧ v17 = .int .i64 i ∧ (1 ≤ i → ¬ (a0 < 0 ∨ 1000 < a0)) ∧ (2 ≤ i → ¬ (a1 < 0 ∨ 1000 < a1)) ∧ (3 ≤ i → ¬ (a2 < 0 ∨ 1000 < a2)) ∧ (4 ≤ i → ¬ (a3 < 0 ∨ 1000 < a3)) ∧ wr = w) (fun v17 _ => 4 - (intOf v17).toNat)
  case atStart => exact ⟨0, by omega, rfl, by omega, by omega, by omega, by omega, rfl⟩
  case round =>
    obtain ⟨i, hi, rfl, b0, b1, b2, b3, rfl⟩ := hrel
    have hcase : i = 0 ∨ i = 1 ∨ i = 2 ∨ i = 3 ∨ i = 4 := by omega
    clear hi
    rcases hcase with rfl | rfl | rfl | rfl | rfl
    · have IX := qmin_Size.at0 a0 a1 a2 a3 wr
      have key : a0 < 0 ∨ (¬ a0 < 0 ∧ 1000 < a0) ∨ (¬ a0 < 0 ∧ ¬ 1000 < a0) := by omega
      have BB := Aside0.mk (And.intro b0 (And.intro b1 (And.intro b2 b3)))
      clear b0 b1 b2 b3
      rcases key with q | ⟨q0, q⟩ | ⟨q0, q⟩
      · have e := H.out
        rw [if_pos (by omega)] at e
        have q1 : decide (a0 < 0) = true := decide_eq_true q
        clear q
        go_wp2
        go_ret2
        obtain ⟨rfl, rfl⟩ := Prod.mk.inj (Option.some.inj e)
        exact ⟨rfl, HB⟩
      · have e := H.out
        rw [if_pos (by omega)] at e
        have q1 : decide (a0 < 0) = false := decide_eq_false q0
        have q2 : decide (1000 < a0) = true := decide_eq_true q
        have Q0 := Aside0.mk q0
        clear q q0
        go_wp2
        go_ret2
        obtain ⟨rfl, rfl⟩ := Prod.mk.inj (Option.some.inj e)
        exact ⟨rfl, HB⟩
      · have q1 : decide (a0 < 0) = false := decide_eq_false q0
        have q2 : decide (1000 < a0) = false := decide_eq_false q
        have Q := Aside0.mk (And.intro q0 q)
        clear q q0
        go_wp2
        go_roundw
        case rel => exact ⟨1, by omega, by first | rfl | (simp; done), by have := BB.out; have := Q.out; omega, by have := BB.out; have := Q.out; omega, by have := BB.out; have := Q.out; omega, by have := BB.out; have := Q.out; omega, by first | rfl | trivial⟩
        case measure => simp [intOf]
    · have IX := qmin_Size.at1 a0 a1 a2 a3 wr
      have key : a1 < 0 ∨ (¬ a1 < 0 ∧ 1000 < a1) ∨ (¬ a1 < 0 ∧ ¬ 1000 < a1) := by omega
      have BB := Aside0.mk (And.intro b0 (And.intro b1 (And.intro b2 b3)))
      clear b0 b1 b2 b3
      rcases key with q | ⟨q0, q⟩ | ⟨q0, q⟩
      · have e := H.out
        rw [if_pos (by omega)] at e
        have q1 : decide (a1 < 0) = true := decide_eq_true q
        clear q
        go_wp2
        go_ret2
        obtain ⟨rfl, rfl⟩ := Prod.mk.inj (Option.some.inj e)
        exact ⟨rfl, HB⟩
      · have e := H.out
        rw [if_pos (by omega)] at e
        have q1 : decide (a1 < 0) = false := decide_eq_false q0
        have q2 : decide (1000 < a1) = true := decide_eq_true q
        have Q0 := Aside0.mk q0
        clear q q0
        go_wp2
        go_ret2
        obtain ⟨rfl, rfl⟩ := Prod.mk.inj (Option.some.inj e)
        exact ⟨rfl, HB⟩
      · have q1 : decide (a1 < 0) = false := decide_eq_false q0
        have q2 : decide (1000 < a1) = false := decide_eq_false q
        have Q := Aside0.mk (And.intro q0 q)
        clear q q0
        go_wp2
        go_roundw
        case rel => exact ⟨2, by omega, by first | rfl | (simp; done), by have := BB.out; have := Q.out; omega, by have := BB.out; have := Q.out; omega, by have := BB.out; have := Q.out; omega, by have := BB.out; have := Q.out; omega, by first | rfl | trivial⟩
        case measure => simp [intOf]
    · have IX := qmin_Size.at2 a0 a1 a2 a3 wr
      have key : a2 < 0 ∨ (¬ a2 < 0 ∧ 1000 < a2) ∨ (¬ a2 < 0 ∧ ¬ 1000 < a2) := by omega
      have BB := Aside0.mk (And.intro b0 (And.intro b1 (And.intro b2 b3)))
      clear b0 b1 b2 b3
      rcases key with q | ⟨q0, q⟩ | ⟨q0, q⟩
      · have e := H.out
        rw [if_pos (by omega)] at e
        have q1 : decide (a2 < 0) = true := decide_eq_true q
        clear q
        go_wp2
        go_ret2
        obtain ⟨rfl, rfl⟩ := Prod.mk.inj (Option.some.inj e)
        exact ⟨rfl, HB⟩
      · have e := H.out
        rw [if_pos (by omega)] at e
        have q1 : decide (a2 < 0) = false := decide_eq_false q0
        have q2 : decide (1000 < a2) = true := decide_eq_true q
        have Q0 := Aside0.mk q0
        clear q q0
        go_wp2
        go_ret2
        obtain ⟨rfl, rfl⟩ := Prod.mk.inj (Option.some.inj e)
        exact ⟨rfl, HB⟩
      · have q1 : decide (a2 < 0) = false := decide_eq_false q0
        have q2 : decide (1000 < a2) = false := decide_eq_false q
        have Q := Aside0.mk (And.intro q0 q)
        clear q q0
        go_wp2
        go_roundw
        case rel => exact ⟨3, by omega, by first | rfl | (simp; done), by have := BB.out; have := Q.out; omega, by have := BB.out; have := Q.out; omega, by have := BB.out; have := Q.out; omega, by have := BB.out; have := Q.out; omega, by first | rfl | trivial⟩
        case measure => simp [intOf]
    · have IX := qmin_Size.at3 a0 a1 a2 a3 wr
      have key : a3 < 0 ∨ (¬ a3 < 0 ∧ 1000 < a3) ∨ (¬ a3 < 0 ∧ ¬ 1000 < a3) := by omega
      have BB := Aside0.mk (And.intro b0 (And.intro b1 (And.intro b2 b3)))
      clear b0 b1 b2 b3
      rcases key with q | ⟨q0, q⟩ | ⟨q0, q⟩
      · have e := H.out
        rw [if_pos (by omega)] at e
        have q1 : decide (a3 < 0) = true := decide_eq_true q
        clear q
        go_wp2
        go_ret2
        obtain ⟨rfl, rfl⟩ := Prod.mk.inj (Option.some.inj e)
        exact ⟨rfl, HB⟩
      · have e := H.out
        rw [if_pos (by omega)] at e
        have q1 : decide (a3 < 0) = false := decide_eq_false q0
        have q2 : decide (1000 < a3) = true := decide_eq_true q
        have Q0 := Aside0.mk q0
        clear q q0
        go_wp2
        go_ret2
        obtain ⟨rfl, rfl⟩ := Prod.mk.inj (Option.some.inj e)
        exact ⟨rfl, HB⟩
      · have q1 : decide (a3 < 0) = false := decide_eq_false q0
        have q2 : decide (1000 < a3) = false := decide_eq_false q
        have Q := Aside0.mk (And.intro q0 q)
        clear q q0
        go_wp2
        go_roundw
        case rel => exact ⟨4, by omega, by first | rfl | (simp; done), by have := BB.out; have := Q.out; omega, by have := BB.out; have := Q.out; omega, by have := BB.out; have := Q.out; omega, by have := BB.out; have := Q.out; omega, by first | rfl | trivial⟩
        case measure => simp [intOf]
    · have g0 := b0 (by omega)
      have g1 := b1 (by omega)
      have g2 := b2 (by omega)
      have g3 := b3 (by omega)
      clear b0 b1 b2 b3
      have e := H.out
      rw [if_neg (by omega)] at e
      clear H
      obtain ⟨d, hd, hd2⟩ : ∃ d, IntKind.i64.wrap (a2 - a0) = d ∧ d = a2 - a0 := ⟨_, rfl, by rw [i64_w]; unfold wrap64; omega⟩
      obtain ⟨s1, hs1, hs1b⟩ : ∃ d, IntKind.i64.wrap (a1 + a2) = d ∧ d = a1 + a2 := ⟨_, rfl, by rw [i64_w]; unfold wrap64; omega⟩
      obtain ⟨s2, hs2, hs2b⟩ : ∃ d, IntKind.i64.wrap (s1 - a0) = d ∧ d = a1 + a2 - a0 := ⟨_, rfl, by rw [i64_w]; unfold wrap64; omega⟩
      obtain ⟨s3, hs3, hs3b⟩ : ∃ d, IntKind.i64.wrap (s2 - 1) = d ∧ d = a1 + a2 - a0 - 1 := ⟨_, rfl, by rw [i64_w]; unfold wrap64; omega⟩
      rw [← hd2, ← hs3b] at e
      have G := Aside0.mk (And.intro g0 (And.intro g1 (And.intro g2 (And.intro g3 (And.intro hd2 hs3b)))))
      have E := Aside0.mk e
      clear g0 g1 g2 g3 hs1b hs2b e
      by_cases z : a1 = 0
      · have e := E.out
        rw [if_pos z] at e
        subst z
        clear hd2 hs3b
        go_wp2
        go_ret2
        obtain ⟨rfl, rfl⟩ := Prod.mk.inj (Option.some.inj e)
        exact ⟨rfl, HB⟩
      have e := E.out
      rw [if_neg z] at e
      have z1 : (a1 == 0) = false := beq_eq_false_iff_ne.mpr z
      clear z
      have key : a0 < a3 ∨ (¬ a0 < a3 ∧ a1 ≤ d) ∨ (¬ a0 < a3 ∧ ¬ a1 ≤ d ∧ a2 ≤ a0) ∨ (¬ a0 < a3 ∧ ¬ a1 ≤ d ∧ ¬ a2 ≤ a0) := by omega
      clear hs3b E
      rcases key with q | ⟨q, q'⟩ | ⟨q, q', q''⟩ | ⟨q, q', q''⟩
      · rw [if_pos (Or.inl q)] at e
        have q1 : decide (a0 < a3) = true := decide_eq_true q
        clear q hd2
        go_wp2
        go_ret2
        obtain ⟨rfl, rfl⟩ := Prod.mk.inj (Option.some.inj e)
        exact ⟨rfl, HB⟩
      · rw [if_pos (Or.inr q')] at e
        have q1 : decide (a0 < a3) = false := decide_eq_false q
        have q2 : decide (a1 ≤ d) = true := decide_eq_true q'
        clear q q' hd2
        go_wp2
        go_ret2
        obtain ⟨rfl, rfl⟩ := Prod.mk.inj (Option.some.inj e)
        exact ⟨rfl, HB⟩
      · rw [if_neg (by omega), if_pos q''] at e
        have q1 : decide (a0 < a3) = false := decide_eq_false q
        have q2 : decide (a1 ≤ d) = false := decide_eq_false q'
        have q3 : decide (a2 ≤ a0) = true := decide_eq_true q''
        clear q q' q'' hd2
        go_wp2
        go_ret2
        obtain ⟨rfl, rfl⟩ := Prod.mk.inj (Option.some.inj e)
        exact ⟨rfl, HB⟩
      · rw [if_neg (by omega), if_neg q''] at e
        have q1 : decide (a0 < a3) = false := decide_eq_false q
        have q2 : decide (a1 ≤ d) = false := decide_eq_false q'
        have q3 : decide (a2 ≤ a0) = false := decide_eq_false q''
        have dpos : 1 ≤ d := by omega
        have dz : (d = 0) = False := eq_false (by omega)
        have dz2 : (d == 0) = false := beq_eq_false_iff_ne.mpr (by omega)
        have hb : 0 ≤ s3 ∧ s3 ≤ 3000 := by have := G.out; omega
        have hq : IntKind.i64.wrap (Int.tdiv s3 d) = Int.tdiv s3 d := by
          rw [i64_w, Int.tdiv_eq_ediv_of_nonneg hb.1]
          have h1 := Int.ediv_le_self d hb.1
          have h2 := Int.ediv_nonneg hb.1 (show 0 ≤ d by omega)
          unfold wrap64; omega
        obtain ⟨q, hq1, hq2⟩ : ∃ q, IntKind.i64.wrap (Int.tdiv s3 d) = q ∧ q = Int.tdiv s3 d := ⟨_, hq, rfl⟩
        rw [← hq2] at e
        have E2 := Aside0.mk e
        clear q' q'' hd2 hq hq2 hb dpos e
        go_wp2
        go_ret2
        obtain ⟨rfl, rfl⟩ := Prod.mk.inj (Option.some.inj E2.out)
        exact ⟨rfl, HB⟩


/-! ### wimpleref13_Size: function 11 -/
mutual
def wimpleref13_Size.j0 : Nat → Int → Int → Int → Int → Bool → Option (Int × Int)
  | 0, _, _, _, _, _ => none
  | k + 1, x0, x1, x2, x3, x10 => if x10 = true then (some (0, 1700)) else (if x0 < x3 then (wimpleref13_Size.j1 k x0 x1 x2 true) else (wimpleref13_Size.j1 k x0 x1 x2 (decide (x1 ≤ (wrap64 (x2 - x0))))))
def wimpleref13_Size.j1 : Nat → Int → Int → Int → Bool → Option (Int × Int)
  | 0, _, _, _, _ => none
  | k + 1, x0, x1, x2, x41 => if x41 = true then (some (1, 0)) else (if x0 ≥ x2 then (some (x1, 0)) else (if (wrap64 (x2 - x0)) = 0 then (none) else (some (wrap64 (Int.tdiv (wrap64 ((wrap64 ((wrap64 (x1 + x2)) - x0)) - 1)) (wrap64 (x2 - x0))), 0))))
end
def wimpleref13_Size.f (k : Nat) (a0 : Int) (a1 : Int) (a2 : Int) (a3 : Int) : Option (Int × Int) := if a0 < 0 then (wimpleref13_Size.j0 k a0 a1 a2 a3 true) else (if a1 < 1 then (wimpleref13_Size.j0 k a0 a1 a2 a3 true) else (if a2 < 0 then (wimpleref13_Size.j0 k a0 a1 a2 a3 true) else (if a3 < 0 then (wimpleref13_Size.j0 k a0 a1 a2 a3 true) else (if a0 > 1000 then (wimpleref13_Size.j0 k a0 a1 a2 a3 true) else (if a1 > 1000 then (wimpleref13_Size.j0 k a0 a1 a2 a3 true) else (if a2 > 1000 then (wimpleref13_Size.j0 k a0 a1 a2 a3 true) else (wimpleref13_Size.j0 k a0 a1 a2 a3 (decide (a3 > 1000)))))))))
theorem wimpleref13_Size.mono_l : ∀ k, (∀ y0 y1 y2 y3 y4, LeO (wimpleref13_Size.j0 k y0 y1 y2 y3 y4) (wimpleref13_Size.j0 (k + 1) y0 y1 y2 y3 y4)) ∧ (∀ y0 y1 y2 y3, LeO (wimpleref13_Size.j1 k y0 y1 y2 y3) (wimpleref13_Size.j1 (k + 1) y0 y1 y2 y3))
  | 0 => ⟨fun _ _ _ _ _ r h => by simp [wimpleref13_Size.j0] at h, fun _ _ _ _ r h => by simp [wimpleref13_Size.j1] at h⟩
  | k + 1 => by
    obtain ⟨ih0, ih1⟩ := wimpleref13_Size.mono_l k
    refine ⟨?_, ?_⟩
    · intro y0 y1 y2 y3 y4
      unfold wimpleref13_Size.j0
      repeat' first
      | (with_reducible exact ih0 _ _ _ _ _)
      | (with_reducible exact ih1 _ _ _ _)
      | (with_reducible exact LeO.refl _)
      | (with_reducible exact LeO.none _)
      | (with_reducible refine LeO.ite ?_ ?_)
      | (with_reducible refine LeO.bind ?_ (fun _ => ?_))
      | exact ih0 _ _ _ _ _
      | exact ih1 _ _ _ _
      | exact LeO.none _
      | refine LeO.ite ?_ ?_
      | refine LeO.bind ?_ (fun _ => ?_)
    · intro y0 y1 y2 y3
      unfold wimpleref13_Size.j1
      repeat' first
      | (with_reducible exact ih0 _ _ _ _ _)
      | (with_reducible exact ih1 _ _ _ _)
      | (with_reducible exact LeO.refl _)
      | (with_reducible exact LeO.none _)
      | (with_reducible refine LeO.ite ?_ ?_)
      | (with_reducible refine LeO.bind ?_ (fun _ => ?_))
      | exact ih0 _ _ _ _ _
      | exact ih1 _ _ _ _
      | exact LeO.none _
      | refine LeO.ite ?_ ?_
      | refine LeO.bind ?_ (fun _ => ?_)
theorem wimpleref13_Size.mono : ∀ a0 a1 a2 a3 k, LeO (wimpleref13_Size.f k a0 a1 a2 a3) (wimpleref13_Size.f (k + 1) a0 a1 a2 a3) := by
  intro a0 a1 a2 a3 k
  obtain ⟨ih0, ih1⟩ := wimpleref13_Size.mono_l k
  unfold wimpleref13_Size.f
  repeat' first
      | (with_reducible exact ih0 _ _ _ _ _)
      | (with_reducible exact ih1 _ _ _ _)
      | (with_reducible exact LeO.refl _)
      | (with_reducible exact LeO.none _)
      | (with_reducible refine LeO.ite ?_ ?_)
      | (with_reducible refine LeO.bind ?_ (fun _ => ?_))
      | exact ih0 _ _ _ _ _
      | exact ih1 _ _ _ _
      | exact LeO.none _
      | refine LeO.ite ?_ ?_
      | refine LeO.bind ?_ (fun _ => ?_)
set_option maxHeartbeats 8000000 in
set_option maxRecDepth 100000 in
theorem wimpleref13_Size.calls (k : Nat) (a0 : Int) (a1 : Int) (a2 : Int) (a3 : Int) (r1 : Int) (r2 : Int) (w : World) (h : wimpleref13_Size.f k a0 a1 a2 a3 = some (r1, r2)) :
    Calls Try.prog 11 #[.int .i64 a0, .int .i64 a1, .int .i64 a2, .int .i64 a3] w fun e w' => e = .returned (.tuple #[.int .i64 r1, .int .i64 r2]) ∧ Drawn0 w w' := by
  have H : (if a0 < 0 then (wimpleref13_Size.j0 k a0 a1 a2 a3 true) else (if a1 < 1 then (wimpleref13_Size.j0 k a0 a1 a2 a3 true) else (if a2 < 0 then (wimpleref13_Size.j0 k a0 a1 a2 a3 true) else (if a3 < 0 then (wimpleref13_Size.j0 k a0 a1 a2 a3 true) else (if a0 > 1000 then (wimpleref13_Size.j0 k a0 a1 a2 a3 true) else (if a1 > 1000 then (wimpleref13_Size.j0 k a0 a1 a2 a3 true) else (if a2 > 1000 then (wimpleref13_Size.j0 k a0 a1 a2 a3 true) else (wimpleref13_Size.j0 k a0 a1 a2 a3 (decide (a3 > 1000)))))))))) = some (r1, r2) := h
  clear h
  have HC5 := Aside0.mk H
  clear H
  go_enter Try.func11, Try.ntmps11
  try simp only [List.append_eq, List.cons_append, List.nil_append]
  go_upto_region 1 with (fail)
  go_cut [10] (fun v10 wc => ∃ (kq : Nat) (x10_4 : Bool), v10 = .bool x10_4 ∧ Aside0 (wimpleref13_Size.j0 kq a0 a1 a2 a3 x10_4 = some (r1, r2)) ∧ Aside0 (kq ≤ k) ∧ Drawn0 w wc)
  case first =>
    have H := HC5.out
    clear HC5
    by_cases c6 : a0 < 0
    · rw [if_pos c6] at H
      have c6b0 : decide (a0 < 0) = true := decide_eq_true c6
      clear c6
      (first | rw [c6b0] | (simp only [i64_w, i32_w]; rw [c6b0]) | skip)
      have H' := Aside0.mk H
      clear H
      go_wp2
      go_meet
      case rel => exact ⟨_, (true), (by first | rfl | (simp; done) | (simp [*]; done) | (simp [ByteArray.size_append]; exact Iff.rfl)), H', ⟨by first | omega | exact Nat.le_refl _⟩, by repeat (first | exact Drawn0.refl _ | apply Drawn0.step)⟩
    · rw [if_neg c6] at H
      have c6b0 : decide (a0 < 0) = false := decide_eq_false c6
      clear c6
      (first | rw [c6b0] | (simp only [i64_w, i32_w]; rw [c6b0]) | skip)
      by_cases c7 : a1 < 1
      · rw [if_pos c7] at H
        have c7b0 : decide (a1 < 1) = true := decide_eq_true c7
        clear c7
        have H' := Aside0.mk H
        clear H
        go_wp2
        go_meet
        case rel => exact ⟨_, (true), (by first | rfl | (simp; done) | (simp [*]; done) | (simp [ByteArray.size_append]; exact Iff.rfl)), H', ⟨by first | omega | exact Nat.le_refl _⟩, by repeat (first | exact Drawn0.refl _ | apply Drawn0.step)⟩
      · rw [if_neg c7] at H
        have c7b0 : decide (a1 < 1) = false := decide_eq_false c7
        clear c7
        by_cases c8 : a2 < 0
        · rw [if_pos c8] at H
          have c8b0 : decide (a2 < 0) = true := decide_eq_true c8
          clear c8
          have H' := Aside0.mk H
          clear H
          go_wp2
          go_meet
          case rel => exact ⟨_, (true), (by first | rfl | (simp; done) | (simp [*]; done) | (simp [ByteArray.size_append]; exact Iff.rfl)), H', ⟨by first | omega | exact Nat.le_refl _⟩, by repeat (first | exact Drawn0.refl _ | apply Drawn0.step)⟩
        · rw [if_neg c8] at H
          have c8b0 : decide (a2 < 0) = false := decide_eq_false c8
          clear c8
          by_cases c9 : a3 < 0
          · rw [if_pos c9] at H
            have c9b0 : decide (a3 < 0) = true := decide_eq_true c9
            clear c9
            have H' := Aside0.mk H
            clear H
            go_wp2
            go_meet
            case rel => exact ⟨_, (true), (by first | rfl | (simp; done) | (simp [*]; done) | (simp [ByteArray.size_append]; exact Iff.rfl)), H', ⟨by first | omega | exact Nat.le_refl _⟩, by repeat (first | exact Drawn0.refl _ | apply Drawn0.step)⟩
          · rw [if_neg c9] at H
            have c9b0 : decide (a3 < 0) = false := decide_eq_false c9
            clear c9
            by_cases c10 : a0 > 1000
            · rw [if_pos c10] at H
              have c10b0 : decide (1000 < a0) = true := decide_eq_true c10
              clear c10
              have H' := Aside0.mk H
              clear H
              go_wp2
              go_meet
              case rel => exact ⟨_, (true), (by first | rfl | (simp; done) | (simp [*]; done) | (simp [ByteArray.size_append]; exact Iff.rfl)), H', ⟨by first | omega | exact Nat.le_refl _⟩, by repeat (first | exact Drawn0.refl _ | apply Drawn0.step)⟩
            · rw [if_neg c10] at H
              have c10b0 : decide (1000 < a0) = false := decide_eq_false c10
              clear c10
              by_cases c11 : a1 > 1000
              · rw [if_pos c11] at H
                have c11b0 : decide (1000 < a1) = true := decide_eq_true c11
                clear c11
                have H' := Aside0.mk H
                clear H
                go_wp2
                go_meet
                case rel => exact ⟨_, (true), (by first | rfl | (simp; done) | (simp [*]; done) | (simp [ByteArray.size_append]; exact Iff.rfl)), H', ⟨by first | omega | exact Nat.le_refl _⟩, by repeat (first | exact Drawn0.refl _ | apply Drawn0.step)⟩
              · rw [if_neg c11] at H
                have c11b0 : decide (1000 < a1) = false := decide_eq_false c11
                clear c11
                by_cases c12 : a2 > 1000
                · rw [if_pos c12] at H
                  have c12b0 : decide (1000 < a2) = true := decide_eq_true c12
                  clear c12
                  have H' := Aside0.mk H
                  clear H
                  go_wp2
                  go_meet
                  case rel => exact ⟨_, (true), (by first | rfl | (simp; done) | (simp [*]; done) | (simp [ByteArray.size_append]; exact Iff.rfl)), H', ⟨by first | omega | exact Nat.le_refl _⟩, by repeat (first | exact Drawn0.refl _ | apply Drawn0.step)⟩
                · rw [if_neg c12] at H
                  have c12b0 : decide (1000 < a2) = false := decide_eq_false c12
                  clear c12
                  have H' := Aside0.mk H
                  clear H
                  go_wp2
                  go_meet
                  case rel => exact ⟨_, (decide (a3 > 1000)), (by first | rfl | (simp; done) | (simp [*]; done) | (simp [ByteArray.size_append]; exact Iff.rfl)), H', ⟨by first | omega | exact Nat.le_refl _⟩, by repeat (first | exact Drawn0.refl _ | apply Drawn0.step)⟩
  case rest =>
    clear HC5
    try clear c1
    try clear p2
    try clear c6
    try clear c6b0
    try clear c7
    try clear c7b0
    try clear c8
    try clear c8b0
    try clear c9
    try clear c9b0
    try clear c10
    try clear c10b0
    try clear c11
    try clear c11b0
    try clear c12
    try clear c12b0
    obtain ⟨kq, x10_4, rfl, HA, HJ4, ⟨mc4, rfl⟩⟩ := hcut
    cases kq with
    | zero => exact absurd HA.out (by simp [wimpleref13_Size.j0])
    | succ kj4 =>
      have H := HA.out
      clear HA
      simp only [wimpleref13_Size.j0] at H
      by_cases c13 : x10_4 = true
      · subst c13
        have H1 : (some (0, 1700)) = some (r1, r2) := by rw [if_pos rfl] at H; exact H
        clear H
        have H := H1
        clear H1
        simp only [Option.some.injEq, Prod.mk.injEq] at H
        obtain ⟨rfl, rfl⟩ := H
        go_wp2
        go_ret2
        exact ⟨by first | rfl | (simp; done) | (simp [*]; done), by repeat (first | exact Drawn0.refl _ | apply Drawn0.step)⟩
      · replace c13 := Bool.eq_false_iff.mpr c13
        subst c13
        have H1 : (if a0 < a3 then (wimpleref13_Size.j1 kj4 a0 a1 a2 true) else (wimpleref13_Size.j1 kj4 a0 a1 a2 (decide (a1 ≤ (wrap64 (a2 - a0)))))) = some (r1, r2) := by rw [if_neg (show ¬ (false = true) by decide)] at H; exact H
        clear H
        have H := H1
        clear H1
        have HC14 := Aside0.mk H
        clear H
        go_upto_region 3 with (fail)
        go_cut [41] (fun v41 wc => ∃ (kq : Nat) (x41_13 : Bool), v41 = .bool x41_13 ∧ Aside0 (wimpleref13_Size.j1 kq a0 a1 a2 x41_13 = some (r1, r2)) ∧ Aside0 (kq ≤ kj4) ∧ Drawn0 w wc)
        case first =>
          have H := HC14.out
          clear HC14
          by_cases c15 : a0 < a3
          · rw [if_pos c15] at H
            have c15b0 : decide (a0 < a3) = true := decide_eq_true c15
            clear c15
            (first | rw [c15b0] | (simp only [i64_w, i32_w]; rw [c15b0]) | skip)
            have H' := Aside0.mk H
            clear H
            go_wp2
            go_meet
            case rel => exact ⟨_, (true), (by first | rfl | (simp; done) | (simp [*]; done) | (simp [ByteArray.size_append]; exact Iff.rfl)), H', ⟨by have := HJ4.out; first | omega | exact Nat.le_refl _⟩, by repeat (first | exact Drawn0.refl _ | apply Drawn0.step)⟩
          · rw [if_neg c15] at H
            have c15b0 : decide (a0 < a3) = false := decide_eq_false c15
            clear c15
            (first | rw [c15b0] | (simp only [i64_w, i32_w]; rw [c15b0]) | skip)
            have H' := Aside0.mk H
            clear H
            go_wp2
            go_meet
            case rel => exact ⟨_, (decide (a1 ≤ (wrap64 (a2 - a0)))), (by first | rfl | (simp; done) | (simp [*]; done) | (simp [ByteArray.size_append]; exact Iff.rfl)), H', ⟨by have := HJ4.out; first | omega | exact Nat.le_refl _⟩, by repeat (first | exact Drawn0.refl _ | apply Drawn0.step)⟩
        case rest =>
          clear HC14
          try clear c1
          try clear p2
          try clear c4
          try clear c6
          try clear c6b0
          try clear p6
          try clear c7
          try clear c7b0
          try clear c8
          try clear c8b0
          try clear c9
          try clear c9b0
          try clear c10
          try clear c10b0
          try clear c11
          try clear c11b0
          try clear c12
          try clear c12b0
          try clear c13
          try clear c15
          try clear c15b0
          try clear p2
          obtain ⟨kq, x41_13, rfl, HA, HJ13, ⟨mc13, rfl⟩⟩ := hcut
          cases kq with
          | zero => exact absurd HA.out (by simp [wimpleref13_Size.j1])
          | succ kj13 =>
            have H := HA.out
            clear HA
            simp only [wimpleref13_Size.j1] at H
            by_cases c16 : x41_13 = true
            · subst c16
              have H1 : (some (1, 0)) = some (r1, r2) := by rw [if_pos rfl] at H; exact H
              clear H
              have H := H1
              clear H1
              simp only [Option.some.injEq, Prod.mk.injEq] at H
              obtain ⟨rfl, rfl⟩ := H
              go_wp2
              go_ret2
              exact ⟨by first | rfl | (simp; done) | (simp [*]; done), by repeat (first | exact Drawn0.refl _ | apply Drawn0.step)⟩
            · replace c16 := Bool.eq_false_iff.mpr c16
              subst c16
              have H1 : (if a0 ≥ a2 then (some (a1, 0)) else (if (wrap64 (a2 - a0)) = 0 then (none) else (some (wrap64 (Int.tdiv (wrap64 ((wrap64 ((wrap64 (a1 + a2)) - a0)) - 1)) (wrap64 (a2 - a0))), 0)))) = some (r1, r2) := by rw [if_neg (show ¬ (false = true) by decide)] at H; exact H
              clear H
              have H := H1
              clear H1
              by_cases c17 : a0 ≥ a2
              · rw [if_pos c17] at H
                have c17b0 : decide (a2 ≤ a0) = true := decide_eq_true c17
                clear c17
                simp only [Option.some.injEq, Prod.mk.injEq] at H
                obtain ⟨rfl, rfl⟩ := H
                go_wp2
                go_ret2
                exact ⟨by first | rfl | (simp; done) | (simp [*]; done), by repeat (first | exact Drawn0.refl _ | apply Drawn0.step)⟩
              · rw [if_neg c17] at H
                have c17b0 : decide (a2 ≤ a0) = false := decide_eq_false c17
                clear c17
                by_cases c18 : (wrap64 (a2 - a0)) = 0
                · rw [if_pos c18] at H
                  exact absurd H (by simp)
                · rw [if_neg c18] at H
                  have c18b0 : ((wrap64 (a2 - a0)) == 0) = false := beq_eq_false_iff_ne.mpr c18
                  have c18b1 : ((wrap64 (a2 - a0)) != 0) = true := bne_iff_ne.mpr c18
                  simp only [Option.some.injEq, Prod.mk.injEq] at H
                  obtain ⟨rfl, rfl⟩ := H
                  go_wp2
                  go_ret2
                  exact ⟨by first | rfl | (simp; done) | (simp [*]; done), by repeat (first | exact Drawn0.refl _ | apply Drawn0.step)⟩

end Go.Proofs.Ytbcflinledkgjaa.P
