/- Tasks: the program's task functions answer as the document's. -/
import Derived.Test.YtgphnnnhhhmemaaSAwake22
import Derived.Test.YtgphnnnhhhmemaaPx12
import Derived.Test.YtgphnnnhhhmemaaPx14
import Derived.Test.YtgphnnnhhhmemaaPx16
import Derived.Test.YtgphnnnhhhmemaaPx18

set_option linter.unusedVariables false
set_option linter.unusedSimpArgs false
namespace Go.Proofs.Ytgphnnnhhhmemaa.M
open Go Go.RowKit Go.Proofs.YtgphnnnhhhmemaaW.PrintWords Go.Proofs.Ytgphnnnhhhmemaa.P

theorem rNew_t (n : ByteArray) (t : Int) (cut : ByteArray) : Ev (fun k => wimpleref21_NewTask.j0 k n t cut true) (mkB [], 0, mkB [], mkB [], 0, false, 0, 0, 2200) := by
  refine Ev.step (fun k => by simp only [wimpleref21_NewTask.j0]; rfl) ?_
  exact Ev.pos (by trivial) (Ev.pure _)

theorem rNew_ev (n : ByteArray) (t : Int) (cut : ByteArray) : Ev (fun k => wimpleref21_NewTask.f k n t cut) (newS (B n) t (B cut)) := by
  have hA := refAbove_ev cut n
  unfold wimpleref21_NewTask.f
  refine Ev.bind hA ?_
  cases h3 : aboveS (B cut) (B n) with
  | false =>
    rw [newS_no (by rw [h3]; simp)]
    exact Ev.neg (by simp) (rNew_t _ _ _)
  | true =>
    refine Ev.pos rfl ?_
    by_cases c1 : t < 1
    · rw [newS_no (by omega)]
      exact Ev.pos c1 (rNew_t _ _ _)
    · refine Ev.neg c1 ?_
      by_cases c2 : t > 65535
      · rw [newS_no (by omega), show decide (t > 65535) = true from decide_eq_true c2]
        exact rNew_t _ _ _
      · rw [newS_yes ⟨h3, by omega, by omega⟩, show decide (t > 65535) = false from decide_eq_false c2]
        refine Ev.step (fun k => by simp only [wimpleref21_NewTask.j0]; rfl) ?_
        exact Ev.neg (by decide) (Ev.bind (refFold_ev cut) (Ev.bind (refFold_ev n) (Ev.pure _)))

section
variable (n : ByteArray) (t : Int) (c kn : ByteArray) (st : Int) (fb : Bool) (sv tr : Int)

/-- What a task takes of a reply. -/
def takeS (sn : ByteArray) (cl : Int) : ByteArray × Int × ByteArray × ByteArray × Int × Bool × Int × Int × Int × Int :=
  if cl < 0 ∨ cl > 7 then (mkB [], 0, mkB [], mkB [], 0, false, 0, 0, 0, 2200) else if cl = 3 then (n, t, c, mkB (fold (B sn)), wrap64 (st + 1), fb, sv, tr, 0, 0)
  else if cl = 1 then (n, t, c, kn, wrap64 (st + 1), fb, sv, tr, 0, 0) else if cl = 2 then (n, t, c, kn, st, true, sv, tr, 0, 0)
  else if cl = 0 then (n, t, c, kn, st, fb, sv, tr, 2, 0) else (n, t, c, kn, st, fb, sv, tr, 1, 0)

theorem Take_any (sn : ByteArray) (sty cl : Int) : Ev (fun k => task_Take.f k n t c kn st fb sv tr sn sty cl) (takeS n t c kn st fb sv tr sn cl) := by
  have T : Ev (fun k => task_Take.j0 k cl true n t c kn st fb sv tr sn sty) (mkB [], 0, mkB [], mkB [], 0, false, 0, 0, 0, 2200) := by
    refine Ev.step (fun k => by simp only [task_Take.j0]; rfl) ?_
    exact Ev.pos (by trivial) (Ev.pure _)
  unfold task_Take.f takeS
  by_cases c1 : cl < 0
  · rw [if_pos (Or.inl c1)]
    exact Ev.pos c1 T
  by_cases c2 : cl > 7
  · rw [if_pos (Or.inr c2), show decide (cl > 7) = true from decide_eq_true c2]
    exact Ev.neg c1 T
  rw [if_neg (by omega), show decide (cl > 7) = false from decide_eq_false c2]
  refine Ev.neg c1 ?_
  refine Ev.step (fun k => by simp only [task_Take.j0]; rfl) ?_
  refine Ev.neg (by decide) ?_
  by_cases c3 : cl = 3
  · exact Ev.eq (Ev.pos c3 (Ev.bind (Fold_ev sn) (Ev.pure _))) (if_pos c3).symm
  refine Ev.eq (Ev.neg c3 ?_) (if_neg c3).symm
  by_cases c4 : cl = 1
  · exact Ev.eq (Ev.pos c4 (Ev.pure _)) (if_pos c4).symm
  refine Ev.eq (Ev.neg c4 ?_) (if_neg c4).symm
  by_cases c5 : cl = 2
  · exact Ev.eq (Ev.pos c5 (Ev.pure _)) (if_pos c5).symm
  refine Ev.eq (Ev.neg c5 ?_) (if_neg c5).symm
  by_cases c6 : cl = 0
  · exact Ev.eq (Ev.pos c6 (Ev.pure _)) (if_pos c6).symm
  exact Ev.eq (Ev.neg c6 (Ev.pure _)) (if_neg c6).symm

theorem rTake_any (sn : ByteArray) (sty cl : Int) : Ev (fun k => wimpleref21_TakeTask.f k n t c kn st fb sv tr sn sty cl) (takeS n t c kn st fb sv tr sn cl) := by
  have T : Ev (fun k => wimpleref21_TakeTask.j0 k cl true n t c kn st fb sv tr sn sty) (mkB [], 0, mkB [], mkB [], 0, false, 0, 0, 0, 2200) := by
    refine Ev.step (fun k => by simp only [wimpleref21_TakeTask.j0]; rfl) ?_
    exact Ev.pos (by trivial) (Ev.pure _)
  unfold wimpleref21_TakeTask.f takeS
  by_cases c1 : cl < 0
  · rw [if_pos (Or.inl c1)]
    exact Ev.pos c1 T
  by_cases c2 : cl > 7
  · rw [if_pos (Or.inr c2), show decide (cl > 7) = true from decide_eq_true c2]
    exact Ev.neg c1 T
  rw [if_neg (by omega), show decide (cl > 7) = false from decide_eq_false c2]
  refine Ev.neg c1 ?_
  refine Ev.step (fun k => by simp only [wimpleref21_TakeTask.j0]; rfl) ?_
  refine Ev.neg (by decide) ?_
  by_cases c3 : cl = 3
  · exact Ev.eq (Ev.pos c3 (Ev.bind (refFold_ev sn) (Ev.pure _))) (if_pos c3).symm
  refine Ev.eq (Ev.neg c3 ?_) (if_neg c3).symm
  by_cases c4 : cl = 1
  · exact Ev.eq (Ev.pos c4 (Ev.pure _)) (if_pos c4).symm
  refine Ev.eq (Ev.neg c4 ?_) (if_neg c4).symm
  by_cases c5 : cl = 2
  · exact Ev.eq (Ev.pos c5 (Ev.pure _)) (if_pos c5).symm
  refine Ev.eq (Ev.neg c5 ?_) (if_neg c5).symm
  by_cases c6 : cl = 0
  · exact Ev.eq (Ev.pos c6 (Ev.pure _)) (if_pos c6).symm
  exact Ev.eq (Ev.neg c6 (Ev.pure _)) (if_neg c6).symm

theorem rLost_bad (s r : Int) (h : s < 1 ∨ r < 1 ∨ sv < 0 ∨ sv > 1000 ∨ tr < 0 ∨ tr > 1000) : Ev (fun k => wimpleref21_Lost.f k n t c kn st fb sv tr s r) (mkB [], 0, mkB [], mkB [], 0, false, 0, 0, 0, 2200) := by
  have T : Ev (fun k => wimpleref21_Lost.j0 k s r true n t c kn st fb sv tr) (mkB [], 0, mkB [], mkB [], 0, false, 0, 0, 0, 2200) := by
    refine Ev.step (fun k => by simp only [wimpleref21_Lost.j0]; rfl) ?_
    exact Ev.pos (by trivial) (Ev.pure _)
  unfold wimpleref21_Lost.f
  by_cases c1 : s < 1
  · exact Ev.pos c1 T
  refine Ev.neg c1 ?_
  by_cases c2 : r < 1
  · exact Ev.pos c2 T
  refine Ev.neg c2 ?_
  by_cases c3 : sv < 0
  · exact Ev.pos c3 T
  refine Ev.neg c3 ?_
  by_cases c4 : sv > 1000
  · exact Ev.pos c4 T
  refine Ev.neg c4 ?_
  by_cases c5 : tr < 0
  · exact Ev.pos c5 T
  refine Ev.neg c5 ?_
  rw [show decide (tr > 1000) = true from decide_eq_true (by omega)]
  exact T

theorem rLost_ev (s r : Int) (h : 1 ≤ s ∧ 1 ≤ r ∧ 0 ≤ sv ∧ sv ≤ 1000 ∧ 0 ≤ tr ∧ tr ≤ 1000) : Ev (fun k => wimpleref21_Lost.f k n t c kn st fb sv tr s r) (lostS n t c kn st fb sv tr s r) := by
  unfold wimpleref21_Lost.f lostS
  refine Ev.neg (by omega) (Ev.neg (by omega) (Ev.neg (by omega) (Ev.neg (by omega) (Ev.neg (by omega) ?_))))
  rw [show decide (tr > 1000) = false from decide_eq_false (by omega)]
  refine Ev.step (fun k => by simp only [wimpleref21_Lost.j0]; rfl) ?_
  simp only [w64 (sv + 1) (by omega), w64 (tr + 1) (by omega)]
  refine Ev.neg (by decide) ?_
  by_cases c1 : sv + 1 < s
  · exact Ev.pos c1 (Ev.eq (Ev.pure _) (if_pos c1).symm)
  · refine Ev.neg c1 ?_
    by_cases c2 : tr + 1 < r
    · exact Ev.pos c2 (Ev.eq (Ev.pure _) ((if_neg c1).trans (if_pos c2)).symm)
    · exact Ev.neg c2 (Ev.eq (Ev.pure _) ((if_neg c1).trans (if_neg c2)).symm)

theorem Lost_pair (s r : Int) : ∃ x, Ev (fun k => task_Lost.f k n t c kn st fb sv tr s r) x ∧ Ev (fun k => wimpleref21_Lost.f k n t c kn st fb sv tr s r) x := by
  by_cases h : 1 ≤ s ∧ 1 ≤ r ∧ 0 ≤ sv ∧ sv ≤ 1000 ∧ 0 ≤ tr ∧ tr ≤ 1000
  · exact ⟨_, Lost_ev n t c kn st fb sv tr s r h, rLost_ev n t c kn st fb sv tr s r h⟩
  · exact ⟨_, Lost_bad n t c kn st fb sv tr s r (by omega), rLost_bad n t c kn st fb sv tr s r (by omega)⟩

theorem Tasks_ev (n0 : ByteArray) (t0 : Int) (c0 sn : ByteArray) (sty cl s r : Int) : Ev (fun k => wimplelaw22_Tasks.f k n0 t0 c0 n t c kn st fb sv tr sn sty cl s r) true := by
  obtain ⟨x, hx, hy⟩ := Lost_pair n t c kn st fb sv tr s r
  unfold wimplelaw22_Tasks.f
  refine Ev.bind (New_ev n0 t0 c0) (Ev.bind (rNew_ev n0 t0 c0) (Ev.bind (Take_any n t c kn st fb sv tr sn sty cl) (Ev.bind (rTake_any n t c kn st fb sv tr sn sty cl) (Ev.bind hx (Ev.bind hy (Ev.pos (by simp) (Ev.bindp (num_eq _) (Ev.pos rfl (Ev.pos (by simp) (Ev.pos rfl (Ev.bindp (num_eq _) (Ev.pos rfl (Ev.pos (by simp) (Ev.pos rfl (Ev.bindp (num_eq _) (Ev.pos rfl (Ev.bind awake_ev (Ev.pure _))))))))))))))))))
end

theorem Tasks_pure (n0 : ByteArray) (t0 : Int) (c0 n : ByteArray) (t : Int) (c kn : ByteArray) (st : Int) (fb : Bool) (sv tr : Int) (sn : ByteArray) (sty cl s r : Int) : ∃ k, wimplelaw22_Tasks.f k n0 t0 c0 n t c kn st fb sv tr sn sty cl s r = some true := (Tasks_ev n t c kn st fb sv tr n0 t0 c0 sn sty cl s r).rounds
end Go.Proofs.Ytgphnnnhhhmemaa.M
