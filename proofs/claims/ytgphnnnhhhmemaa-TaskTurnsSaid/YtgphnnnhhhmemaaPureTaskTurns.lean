/- TaskTurns: only a broken reply sets Fallback, nothing takes it away, only a step moves what is known. Conditions: none (every input that can be read). -/
import Derived.Test.YtgphnnnhhhmemaaSTasks
import Derived.Test.YtgphnnnhhhmemaaPx20

set_option linter.unusedVariables false
set_option linter.unusedSimpArgs false
namespace Go.Proofs.Ytgphnnnhhhmemaa.M
open Go Go.RowKit Go.Proofs.YtgphnnnhhhmemaaW.PrintWords Go.Proofs.Ytgphnnnhhhmemaa.P

section
variable (n : ByteArray) (t : Int) (c kn : ByteArray) (st : Int) (fb : Bool) (sv tr : Int)

theorem TaskTurns_ev (sn : ByteArray) (sty cl : Int) : Ev (fun k => wimplelaw22_TaskTurns.f k n t c kn st fb sv tr sn sty cl) true := by
  have hT := Take_any n t c kn st fb sv tr sn sty cl
  have hF := refFold_ev sn
  unfold wimplelaw22_TaskTurns.f
  refine Ev.bind awake_ev (Ev.pos rfl (Ev.bind hT (Ev.bindp (num_eq _) ?_)))
  unfold takeS
  by_cases c1 : cl < 0
  · rw [if_pos (Or.inl c1)]
    exact Ev.neg (by decide) (Ev.pos c1 (Ev.eq (Ev.pure _) (by simp only [toL, B_mk]; decide)))
  by_cases c2 : cl > 7
  · rw [if_pos (Or.inr c2)]
    exact Ev.neg (by decide) (Ev.neg c1 (Ev.pos c2 (Ev.eq (Ev.pure _) (by simp only [toL, B_mk]; decide))))
  rw [if_neg (by omega)]
  by_cases c3 : cl = 3
  · subst c3
    rw [if_pos rfl]
    refine Ev.pos rfl (Ev.pos rfl ?_)
    refine Ev.step (fun k => by simp only [wimplelaw22_TaskTurns.j0]; rfl) ?_
    refine Ev.pos (by trivial) (Ev.pos (by decide) (Ev.bind hF ?_))
    cases fb with
    | true => exact Ev.pos (by trivial) (Ev.pos (by trivial) (Ev.pos (by trivial) (Ev.pos (by trivial) (Ev.pos (by trivial) (Ev.pos (by trivial) (Ev.pos (by trivial) (Ev.pos (by trivial) (Ev.pos (by trivial) (Ev.pos (by trivial) (Ev.eq (Ev.pure _) (by trivial)))))))))))
    | false => exact Ev.neg (by trivial) (Ev.pos (by trivial) (Ev.pos (by trivial) (Ev.pos (by trivial) (Ev.pos (by trivial) (Ev.pos (by trivial) (Ev.pos (by trivial) (Ev.pos (by trivial) (Ev.pos (by trivial) (Ev.pos (by trivial) (Ev.eq (Ev.pure _) (by trivial)))))))))))
  rw [if_neg c3]
  by_cases c4 : cl = 1
  · subst c4
    rw [if_pos rfl]
    refine Ev.pos rfl (Ev.neg (by decide) ?_)
    rw [show ((1 : Int) == 3) = false by decide, show ((1 : Int) == 1) = true by decide]
    refine Ev.step (fun k => by simp only [wimplelaw22_TaskTurns.j0]; rfl) ?_
    refine Ev.pos (by trivial) (Ev.neg (by decide) ?_)
    cases fb with
    | true => exact Ev.pos (by trivial) (Ev.pos (by trivial) (Ev.pos (by trivial) (Ev.pos (by trivial) (Ev.pos (by trivial) (Ev.pos (by trivial) (Ev.pos (by trivial) (Ev.pos (by trivial) (Ev.pos (by trivial) (Ev.pos (by trivial) (Ev.eq (Ev.pure _) (by trivial)))))))))))
    | false => exact Ev.neg (by trivial) (Ev.pos (by trivial) (Ev.pos (by trivial) (Ev.pos (by trivial) (Ev.pos (by trivial) (Ev.pos (by trivial) (Ev.pos (by trivial) (Ev.pos (by trivial) (Ev.pos (by trivial) (Ev.pos (by trivial) (Ev.eq (Ev.pure _) (by trivial)))))))))))
  rw [if_neg c4]
  have q1 : (cl == 3) = false := by simpa using c3
  have q2 : (cl == 1) = false := by simpa using c4
  by_cases c5 : cl = 2
  · subst c5
    rw [if_pos rfl]
    refine Ev.pos rfl (Ev.neg (by decide) ?_)
    rw [q1, q2]
    refine Ev.step (fun k => by simp only [wimplelaw22_TaskTurns.j0]; rfl) ?_
    refine Ev.neg (by decide) (Ev.neg (by decide) ?_)
    cases fb with
    | true => exact Ev.pos (by trivial) (Ev.pos (by trivial) (Ev.pos (by trivial) (Ev.pos (by trivial) (Ev.pos (by trivial) (Ev.pos (by trivial) (Ev.pos (by trivial) (Ev.pos (by trivial) (Ev.pos (by trivial) (Ev.pos (by trivial) (Ev.eq (Ev.pure _) (by trivial)))))))))))
    | false => exact Ev.neg (by trivial) (Ev.pos (by trivial) (Ev.pos (by trivial) (Ev.pos (by trivial) (Ev.pos (by trivial) (Ev.pos (by trivial) (Ev.pos (by trivial) (Ev.pos (by trivial) (Ev.pos (by trivial) (Ev.pos (by trivial) (Ev.eq (Ev.pure _) (by trivial)))))))))))
  rw [if_neg c5]
  have q3 : (cl == 2) = false := by simpa using c5
  by_cases c6 : cl = 0
  · subst c6
    rw [if_pos rfl]
    refine Ev.pos rfl (Ev.neg (by decide) ?_)
    rw [q1, q2]
    refine Ev.step (fun k => by simp only [wimplelaw22_TaskTurns.j0]; rfl) ?_
    refine Ev.neg (by decide) (Ev.neg (by decide) ?_)
    cases fb with
    | true => exact Ev.pos (by trivial) (Ev.pos (by trivial) (Ev.pos (by trivial) (Ev.pos (by trivial) (Ev.pos (by trivial) (Ev.pos (by trivial) (Ev.pos (by trivial) (Ev.pos (by trivial) (Ev.pos (by trivial) (Ev.pos (by trivial) (Ev.eq (Ev.pure _) (by trivial)))))))))))
    | false => exact Ev.neg (by trivial) (Ev.pos (by trivial) (Ev.pos (by trivial) (Ev.pos (by trivial) (Ev.pos (by trivial) (Ev.pos (by trivial) (Ev.pos (by trivial) (Ev.pos (by trivial) (Ev.pos (by trivial) (Ev.pos (by trivial) (Ev.eq (Ev.pure _) (by trivial)))))))))))
  rw [if_neg c6]
  have q4 : (cl == 0) = false := by simpa using c6
  refine Ev.pos rfl (Ev.neg c3 ?_)
  rw [q1, q2]
  refine Ev.step (fun k => by simp only [wimplelaw22_TaskTurns.j0]; rfl) ?_
  refine Ev.neg (by decide) (Ev.neg (by decide) ?_)
  simp only [q3, q4]
  cases fb with
  | true => exact Ev.pos (by trivial) (Ev.pos (by trivial) (Ev.pos (by trivial) (Ev.pos (by trivial) (Ev.pos (by trivial) (Ev.pos (by trivial) (Ev.pos (by trivial) (Ev.pos (by trivial) (Ev.pos (by trivial) (Ev.pos (by trivial) (Ev.eq (Ev.pure _) (by trivial)))))))))))
  | false => exact Ev.neg (by trivial) (Ev.pos (by trivial) (Ev.pos (by trivial) (Ev.pos (by trivial) (Ev.pos (by trivial) (Ev.pos (by trivial) (Ev.pos (by trivial) (Ev.pos (by trivial) (Ev.pos (by trivial) (Ev.pos (by trivial) (Ev.eq (Ev.pure _) (by trivial)))))))))))
end

theorem TaskTurns_pure (n : ByteArray) (t : Int) (c kn : ByteArray) (st : Int) (fb : Bool) (sv tr : Int) (sn : ByteArray) (sty cl : Int) : ∃ k, wimplelaw22_TaskTurns.f k n t c kn st fb sv tr sn sty cl = some true := (TaskTurns_ev n t c kn st fb sv tr sn sty cl).rounds
end Go.Proofs.Ytgphnnnhhhmemaa.M

namespace Go.Proofs.Ytgphnnnhhhmemaa.Pure
open Go Go.Proofs.Ytgphnnnhhhmemaa.P
theorem TaskTurns (n : ByteArray) (t : Int) (c kn : ByteArray) (st : Int) (fb : Bool) (sv tr : Int) (sn : ByteArray) (sty cl : Int) : ∃ k, wimplelaw22_TaskTurns.f k n t c kn st fb sv tr sn sty cl = some true :=
  Go.Proofs.Ytgphnnnhhhmemaa.M.TaskTurns_pure n t c kn st fb sv tr sn sty cl

end Go.Proofs.Ytgphnnnhhhmemaa.Pure
