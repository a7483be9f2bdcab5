/- QminSizes. -/
import Derived.Test.YtbcflinledkgjaaSQmin
import Derived.Test.YtbcflinledkgjaaPx13

set_option linter.unusedVariables false
set_option linter.unusedSimpArgs false
namespace Go.Proofs.Ytbcflinledkgjaa.M
open Go Go.RowKit Go.Proofs.YtbcflinledkgjaaW.PrintWords Go.Proofs.Ytbcflinledkgjaa.P

theorem QminSizes_ev (a b c d : Int) : Ev (fun q => wimplelaw17_QminSizes.f q a b c d) true := by
  obtain ⟨s, hs, hs2⟩ : ∃ n : Int, a % 32 = n ∧ 0 ≤ n ∧ n < 32 := ⟨_, rfl, by omega, by omega⟩
  obtain ⟨m0, hm, hm2⟩ : ∃ n : Int, b % 128 = n ∧ 0 ≤ n ∧ n < 128 := ⟨_, rfl, by omega, by omega⟩
  obtain ⟨k, hk, hk2⟩ : ∃ n : Int, c % 32 = n ∧ 0 ≤ n ∧ n < 32 := ⟨_, rfl, by omega, by omega⟩
  obtain ⟨o, ho, ho2⟩ : ∃ n : Int, d % 32 = n ∧ 0 ≤ n ∧ n < 32 := ⟨_, rfl, by omega, by omega⟩
  unfold wimplelaw17_QminSizes.f
  simp only [and31, and127, hs, hm, hk, ho, w64 (1 + m0) (by omega)]
  obtain ⟨m, hmm⟩ : ∃ m, 1 + m0 = m := ⟨_, rfl⟩
  simp only [hmm]
  refine Ev.bind awake_ev (Ev.pos rfl ?_)
  have w1 : wrap64 (k - s) = k - s := w64 _ (by omega)
  by_cases h : s < o ∨ m ≤ k - s
  · refine Ev.bindp (Size_one s m k o (by omega) (by omega) (by omega) (by omega) h) (Ev.bindp (num_eq _) (Ev.pos rfl (Ev.neg (by decide) ?_)))
    rw [show decide ((1 : Int) > m) = false from decide_eq_false (by omega)]
    refine Ev.step (fun k => by simp only [wimplelaw17_QminSizes.j0]; rfl) ?_
    have T : Ev (fun q => wimplelaw17_QminSizes.j1 q s m k 1 true) true := by
      refine Ev.step (fun k => by simp only [wimplelaw17_QminSizes.j1]; rfl) ?_
      exact Ev.pos (by trivial) (Ev.pure _)
    refine Ev.neg (by decide) ?_
    by_cases h1 : s < o
    · exact Ev.pos h1 T
    · simp only [w1]
      rw [show decide (m ≤ k - s) = true from decide_eq_true (by omega)]
      exact Ev.neg h1 T
  · by_cases h' : k ≤ s
    · refine Ev.bindp (Size_all s m k o (by omega) (by omega) (by omega) (by omega) h h') (Ev.bindp (num_eq _) (Ev.pos rfl (Ev.neg (show ¬ m < 1 by omega) ?_)))
      rw [show decide ((m, (0 : Int)).1 > m) = false from decide_eq_false (show ¬ m > m by omega)]
      refine Ev.step (fun k => by simp only [wimplelaw17_QminSizes.j0]; rfl) ?_
      refine Ev.neg (by decide) (Ev.neg (by omega) ?_)
      simp only [w1]
      rw [show decide (m ≤ k - s) = false from decide_eq_false (by omega)]
      refine Ev.step (fun k => by simp only [wimplelaw17_QminSizes.j1]; rfl) ?_
      exact Ev.neg (by decide) (Ev.pos h' (Ev.eq (Ev.pure _) (by simp)))
    · have P := part_facts m (k - s) (by omega) (by omega)
      have hS := Size_part s m k o (by omega) (by omega) (by omega) (by omega) h h'
      rw [show m + k - s - 1 = m + (k - s) - 1 by omega] at hS
      obtain ⟨e, he⟩ : ∃ e, k - s = e := ⟨_, rfl⟩
      rw [he] at P hS w1 h
      obtain ⟨q, hq⟩ : ∃ q, (m + e - 1) / e = q := ⟨_, rfl⟩
      rw [hq] at P hS
      obtain ⟨p1, p2, p3, p4⟩ := P
      have e1 : wrap64 (q * e) = q * e := w64 _ (by omega)
      have e2 : (q - 1) * e = q * e - e := by rw [Int.sub_mul, Int.one_mul]
      have e3 : wrap64 ((q - 1) * e) = (q - 1) * e := w64 _ (by rw [e2]; omega)
      have e4 : wrap64 (q - 1) = q - 1 := w64 _ (by omega)
      refine Ev.bindp hS (Ev.bindp (num_eq _) (Ev.pos rfl (Ev.neg (show ¬ q < 1 by omega) ?_)))
      rw [show decide ((q, (0 : Int)).1 > m) = false from decide_eq_false (show ¬ q > m by omega)]
      refine Ev.step (fun k => by simp only [wimplelaw17_QminSizes.j0]; rfl) ?_
      refine Ev.neg (by decide) (Ev.neg (by omega) ?_)
      rw [he, w1, show decide (m ≤ e) = false from decide_eq_false (by omega)]
      refine Ev.step (fun k => by simp only [wimplelaw17_QminSizes.j1]; rfl) ?_
      simp only [he, w1, e1, e3, e4]
      refine Ev.neg (by decide) (Ev.neg (by omega) (Ev.pos p3 (Ev.eq (Ev.pure _) (decide_eq_true ?_))))
      rw [e2]
      omega

theorem QminSizes_pure : Go.Proofs.Ytbcflinledkgjaa.P.wimplelaw17_QminSizes.Pure := fun a0 a1 a2 a3 _ _ _ _ => (QminSizes_ev a0 a1 a2 a3).rounds
end Go.Proofs.Ytbcflinledkgjaa.M
