/- TaskForms. -/
import Derived.Test.YtgphnnnhhhmemaaSAwake22
import Derived.Test.YtgphnnnhhhmemaaMBits
import Derived.Test.YtgphnnnhhhmemaaPx14

set_option linter.unusedVariables false
set_option linter.unusedSimpArgs false
namespace Go.Proofs.Ytgphnnnhhhmemaa.M
open Go Go.RowKit Go.Proofs.YtgphnnnhhhmemaaW.PrintWords Go.Proofs.Ytgphnnnhhhmemaa.P

theorem Forms_j0 (x3 : Int) (fine : Bool) (e : Int) (he : e = if fine = true then 0 else 2200) (n : ByteArray) (t : Int) (c kn : ByteArray) (st : Int) (fb : Bool) : Ev (fun q => wimplelaw22_TaskForms.j0 q x3 e fine n t c kn st fb 0 0) true := by
  obtain ⟨j, hj, hj2⟩ : ∃ j : Nat, x3 % 1024 = (j : Int) ∧ j < 1024 := ⟨(x3 % 1024).toNat, by omega, by omega⟩
  have h1 := Lost_bad n t c kn st fb 0 0 (-(j : Int)) 1 (by omega)
  have h2 := Lost_bad n t c kn st fb 0 0 1 (-(j : Int)) (by omega)
  have h3 := Lost_bad n t c kn st fb 1001 0 5 5 (by omega)
  refine Ev.step (fun k => by simp only [wimplelaw22_TaskForms.j0]; rfl) ?_
  simp only [and1023, hj, w64 (-(j : Int)) (by omega)]
  refine Ev.bind h1 (Ev.bind h2 (Ev.bind h3 (Ev.bindp (num_eq _) ?_)))
  cases fine with
  | true =>
    rw [if_pos rfl] at he
    subst he
    refine Ev.pos (by decide) (Ev.pos rfl (Ev.bindp (num_eq _) (Ev.pos rfl (Ev.bindp (num_eq _) (Ev.pos rfl (Ev.bindp (num_eq _) ?_))))))
    exact Ev.pure _
  | false =>
    rw [if_neg (by decide)] at he
    subst he
    refine Ev.pos (by decide) (Ev.neg (by decide) (Ev.bindp (num_eq _) (Ev.pos rfl (Ev.bindp (num_eq _) (Ev.pos rfl (Ev.bindp (num_eq _) (Ev.pos rfl (Ev.bindp (num_eq _) ?_))))))))
    exact Ev.pure _

theorem TaskForms_ev (n c : ByteArray) (t s : Int) : Ev (fun q => wimplelaw22_TaskForms.f q n c t s) true := by
  have hN := New_ev n t c
  have hA := refAbove_ev c n
  unfold wimplelaw22_TaskForms.f
  refine Ev.bind awake_ev (Ev.pos rfl ?_)
  cases h : aboveS (B c) (B n) with
  | false =>
    rw [newS_no (by rw [h]; simp)] at hN
    rw [h] at hA
    exact Ev.bind hN (Ev.bind hA (Ev.neg (by decide) (Forms_j0 s false 2200 rfl _ _ _ _ _ _)))
  | true =>
    rw [h] at hA
    by_cases c1 : t ≥ 1
    · by_cases c2 : t ≤ 65535
      · rw [newS_yes ⟨h, by omega, c2⟩] at hN
        refine Ev.bind hN (Ev.bind hA (Ev.pos rfl (Ev.pos c1 ?_)))
        rw [show decide (t ≤ 65535) = true from decide_eq_true c2]
        exact Forms_j0 s true 0 rfl _ _ _ _ _ _
      · rw [newS_no (by omega)] at hN
        refine Ev.bind hN (Ev.bind hA (Ev.pos rfl (Ev.pos c1 ?_)))
        rw [show decide (t ≤ 65535) = false from decide_eq_false c2]
        exact Forms_j0 s false 2200 rfl _ _ _ _ _ _
    · rw [newS_no (by omega)] at hN
      exact Ev.bind hN (Ev.bind hA (Ev.pos rfl (Ev.neg c1 (Forms_j0 s false 2200 rfl _ _ _ _ _ _))))

theorem TaskForms_pure : Go.Proofs.Ytgphnnnhhhmemaa.P.wimplelaw22_TaskForms.Pure := fun a0 a1 a2 a3 _ _ _ _ => (TaskForms_ev a0 a1 a2 a3).rounds
end Go.Proofs.Ytgphnnnhhhmemaa.M
