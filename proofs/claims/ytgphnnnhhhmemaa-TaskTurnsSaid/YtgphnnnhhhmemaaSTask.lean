/- What package task answers. -/
import Derived.Test.YtgphnnnhhhmemaaSRel
import Derived.Test.YtgphnnnhhhmemaaPx13
import Derived.Test.YtgphnnnhhhmemaaPx15
import Derived.Test.YtgphnnnhhhmemaaPx17
import Derived.Test.YtgphnnnhhhmemaaPx7

set_option linter.unusedVariables false
set_option linter.unusedSimpArgs false
namespace Go.Proofs.Ytgphnnnhhhmemaa.M
open Go Go.RowKit Go.Proofs.YtgphnnnhhhmemaaW.PrintWords Go.Proofs.Ytgphnnnhhhmemaa.P

theorem good_of {ls : List Bytes} (h : ls.all (fun l => decide (1 ≤ l.length ∧ l.length ≤ 63)) = true) : Good ls := by
  intro l hl
  exact of_decide_eq_true (List.all_eq_true.1 h l hl)

theorem num_eq (n : Int) : wimplelaw0_Num.f n = some n := rfl

theorem nm_root : nm [0] = some [] := nm_some.2 ⟨good_of (by decide), by decide, by decide⟩

/-- A new task. -/
def newS (n : Bytes) (t : Int) (cut : Bytes) : ByteArray × Int × ByteArray × ByteArray × Int × Bool × Int × Int × Int :=
  if aboveS cut n = true ∧ 1 ≤ t ∧ t ≤ 65535 then (mkB (fold n), t, mkB (fold cut), mkB (fold cut), 0, false, 0, 0, 0) else (mkB [], 0, mkB [], mkB [], 0, false, 0, 0, 2200)
theorem newS_yes {n : Bytes} {t : Int} {cut : Bytes} (h : aboveS cut n = true ∧ 1 ≤ t ∧ t ≤ 65535) : newS n t cut = (mkB (fold n), t, mkB (fold cut), mkB (fold cut), 0, false, 0, 0, 0) := if_pos h
theorem newS_no {n : Bytes} {t : Int} {cut : Bytes} (h : ¬ (aboveS cut n = true ∧ 1 ≤ t ∧ t ≤ 65535)) : newS n t cut = (mkB [], 0, mkB [], mkB [], 0, false, 0, 0, 2200) := if_neg h

theorem New_t (n : ByteArray) (t : Int) (cut : ByteArray) : Ev (fun k => task_New.j0 k n t cut true) (mkB [], 0, mkB [], mkB [], 0, false, 0, 0, 2200) := by
  refine Ev.step (fun k => by simp only [task_New.j0]; rfl) ?_
  exact Ev.pos (by trivial) (Ev.pure _)

theorem New_ev (n : ByteArray) (t : Int) (cut : ByteArray) : Ev (fun k => task_New.f k n t cut) (newS (B n) t (B cut)) := by
  have hN := May_ev n
  have hC := May_ev cut
  have hA := Above_ev cut n
  unfold task_New.f
  cases h1 : nm (B n) with
  | none =>
    rw [h1] at hN
    rw [newS_no (by rw [aboveS_right h1]; simp)]
    exact Ev.bind hN (Ev.neg (by simp) (New_t _ _ _))
  | some x =>
    rw [h1] at hN
    refine Ev.bind hN (Ev.pos rfl ?_)
    cases h2 : nm (B cut) with
    | none =>
      rw [h2] at hC
      rw [newS_no (by rw [aboveS_left h2]; simp)]
      exact Ev.bind hC (Ev.neg (by simp) (New_t _ _ _))
    | some y =>
      rw [h2] at hC
      refine Ev.bind hC (Ev.pos rfl (Ev.bind hA ?_))
      cases h3 : aboveS (B cut) (B n) with
      | false =>
        rw [newS_no (by rw [h3]; simp)]
        exact Ev.neg (by simp) (New_t _ _ _)
      | true =>
        refine Ev.pos rfl ?_
        by_cases c1 : t < 1
        · rw [newS_no (by omega)]
          exact Ev.pos c1 (New_t _ _ _)
        · refine Ev.neg c1 ?_
          by_cases c2 : t > 65535
          · rw [newS_no (by omega), show decide (t > 65535) = true from decide_eq_true c2]
            exact New_t _ _ _
          · rw [newS_yes ⟨h3, by omega, by omega⟩, show decide (t > 65535) = false from decide_eq_false c2]
            refine Ev.step (fun k => by simp only [task_New.j0]; rfl) ?_
            exact Ev.neg (by decide) (Ev.bind (Fold_ev cut) (Ev.bind (Fold_ev n) (Ev.pure _)))

section
variable (n : ByteArray) (t : Int) (c kn : ByteArray) (st : Int) (fb : Bool) (sv tr : Int)

theorem Take3_ev (sn : ByteArray) (sty : Int) : Ev (fun k => task_Take.f k n t c kn st fb sv tr sn sty 3) (n, t, c, mkB (fold (B sn)), wrap64 (st + 1), fb, sv, tr, 0, 0) := by
  unfold task_Take.f
  refine Ev.neg (by decide) ?_
  rw [show decide ((3 : Int) > 7) = false by decide]
  refine Ev.step (fun k => by simp only [task_Take.j0]; rfl) ?_
  exact Ev.neg (by decide) (Ev.pos (by trivial) (Ev.bind (Fold_ev sn) (Ev.pure _)))

theorem Take2_ev (sn : ByteArray) (sty : Int) : Ev (fun k => task_Take.f k n t c kn st fb sv tr sn sty 2) (n, t, c, kn, st, true, sv, tr, 0, 0) := by
  unfold task_Take.f
  refine Ev.neg (by decide) ?_
  rw [show decide ((2 : Int) > 7) = false by decide]
  refine Ev.step (fun k => by simp only [task_Take.j0]; rfl) ?_
  exact Ev.neg (by decide) (Ev.neg (by decide) (Ev.neg (by decide) (Ev.pos (by trivial) (Ev.pure _))))

theorem Take_bad (sn : ByteArray) (sty : Int) : Ev (fun k => task_Take.f k n t c kn st fb sv tr sn sty 99) (mkB [], 0, mkB [], mkB [], 0, false, 0, 0, 0, 2200) := by
  unfold task_Take.f
  refine Ev.neg (by decide) ?_
  rw [show decide ((99 : Int) > 7) = true by decide]
  refine Ev.step (fun k => by simp only [task_Take.j0]; rfl) ?_
  exact Ev.pos (by trivial) (Ev.pure _)

theorem Lost_t (s r : Int) : Ev (fun k => task_Lost.j0 k s r true n t c kn st fb sv tr) (mkB [], 0, mkB [], mkB [], 0, false, 0, 0, 0, 2200) := by
  refine Ev.step (fun k => by simp only [task_Lost.j0]; rfl) ?_
  exact Ev.pos (by trivial) (Ev.pure _)

theorem Lost_bad (s r : Int) (h : s < 1 ∨ r < 1 ∨ sv < 0 ∨ sv > 1000 ∨ tr < 0 ∨ tr > 1000) : Ev (fun k => task_Lost.f k n t c kn st fb sv tr s r) (mkB [], 0, mkB [], mkB [], 0, false, 0, 0, 0, 2200) := by
  have T := Lost_t n t c kn st fb sv tr s r
  unfold task_Lost.f
  by_cases c1 : s < 1
  · exact Ev.pos c1 T
  refine Ev.neg c1 ?_
  by_cases c2 : r < 1
  · exact Ev.pos c2 T
  refine Ev.neg c2 ?_
  by_cases c3 : sv < 0
  · exact Ev.pos c3 T
  refine Ev.neg c3 ?_
  by_cases c4 : sv > 1000
  · exact Ev.pos c4 T
  refine Ev.neg c4 ?_
  by_cases c5 : tr < 0
  · exact Ev.pos c5 T
  refine Ev.neg c5 ?_
  rw [show decide (tr > 1000) = true from decide_eq_true (by omega)]
  exact T

/-- What is lost of a task. -/
def lostS (s r : Int) : ByteArray × Int × ByteArray × ByteArray × Int × Bool × Int × Int × Int × Int :=
  if sv + 1 < s then (n, t, c, kn, st, fb, sv + 1, tr, 0, 0) else if tr + 1 < r then (n, t, c, kn, st, fb, 0, tr + 1, 0, 0) else (n, t, c, kn, st, fb, s, tr + 1, 2, 0)

theorem Lost_ev (s r : Int) (h : 1 ≤ s ∧ 1 ≤ r ∧ 0 ≤ sv ∧ sv ≤ 1000 ∧ 0 ≤ tr ∧ tr ≤ 1000) : Ev (fun k => task_Lost.f k n t c kn st fb sv tr s r) (lostS n t c kn st fb sv tr s r) := by
  unfold task_Lost.f lostS
  refine Ev.neg (by omega) (Ev.neg (by omega) (Ev.neg (by omega) (Ev.neg (by omega) (Ev.neg (by omega) ?_))))
  rw [show decide (tr > 1000) = false from decide_eq_false (by omega)]
  refine Ev.step (fun k => by simp only [task_Lost.j0]; rfl) ?_
  simp only [w64 (sv + 1) (by omega), w64 (tr + 1) (by omega)]
  refine Ev.neg (by decide) ?_
  by_cases c1 : sv + 1 < s
  · exact Ev.pos c1 (Ev.eq (Ev.pure _) (if_pos c1).symm)
  · refine Ev.neg c1 ?_
    by_cases c2 : tr + 1 < r
    · exact Ev.pos c2 (Ev.eq (Ev.pure _) ((if_neg c1).trans (if_pos c2)).symm)
    · exact Ev.neg c2 (Ev.eq (Ev.pure _) ((if_neg c1).trans (if_neg c2)).symm)
end

end Go.Proofs.Ytgphnnnhhhmemaa.M
