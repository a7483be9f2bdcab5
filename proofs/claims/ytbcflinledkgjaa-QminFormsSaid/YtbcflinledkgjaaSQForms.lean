/- QminForms. -/
import Derived.Test.YtbcflinledkgjaaSQmin
import Derived.Test.YtbcflinledkgjaaPx21

set_option linter.unusedVariables false
set_option linter.unusedSimpArgs false
namespace Go.Proofs.Ytbcflinledkgjaa.M
open Go Go.RowKit Go.Proofs.YtbcflinledkgjaaW.PrintWords Go.Proofs.YtbcflinledkgjaaW.PrintMore Go.Proofs.Ytbcflinledkgjaa.P

theorem Forms_j0 (d : Int) (hd : 1 ≤ d ∧ d ≤ 64) (n : ByteArray) (t : Int) (c kn : ByteArray) (st : Int) (hN : Ev (fun k => qmin_Next.f k n t c kn st false 0 0 10 4) (mkB [], 0, 1700)) : Ev (fun q => wimplelaw17_QminForms.j0 q d 0 n t c kn st false 0 0) true := by
  refine Ev.step (fun k => by simp only [wimplelaw17_QminForms.j0]; rfl) ?_
  simp only [w64 (-d) (by omega), w64 (1 - d) (by omega), w64 (1000 + d) (by omega)]
  have s2 : qmin_Size.f 0 (1 - d) 10 4 = some (0, 1700) := by
    by_cases h : d = 1
    · subst h
      exact Size_zero 0 10 4
    · exact Size_bad _ _ _ _ (by omega)
  refine Ev.bind hN (Ev.bindp (Size_bad _ _ _ _ (by omega)) (Ev.bindp s2 (Ev.bindp (Size_bad _ _ _ _ (by omega)) (Ev.bindp (Size_bad _ _ _ _ (by omega)) (Ev.bindp (num_eq _) ?_)))))
  refine Ev.pos (by trivial) (Ev.pos ?_ (Ev.bindp (num_eq _) ?_))
  · simp only [toL, B_mk]
    decide
  refine Ev.pos rfl (Ev.bindp (num_eq _) ?_)
  refine Ev.pos rfl (Ev.bindp (num_eq _) ?_)
  refine Ev.pos rfl (Ev.bindp (num_eq _) ?_)
  refine Ev.pos rfl (Ev.bindp (num_eq _) ?_)
  exact Ev.pure _

theorem QminForms_ev (a b : Int) : Ev (fun q => wimplelaw17_QminForms.f q a b) true := by
  obtain ⟨d0, hd, hd2⟩ : ∃ n : Int, b % 64 = n ∧ 0 ≤ n ∧ n < 64 := ⟨_, rfl, by omega, by omega⟩
  have nA : nm [1, 97, 1, 98, 0] = some [[97], [98]] := nm_some.2 ⟨good_of (by decide), by decide, by decide⟩
  have nB : nm [1, 98, 0] = some [[98]] := nm_some.2 ⟨good_of (by decide), by decide, by decide⟩
  have nC : nm [1, 99, 0] = some [[99]] := nm_some.2 ⟨good_of (by decide), by decide, by decide⟩
  have n97 : nm [97] = none := by
    unfold nm
    rw [if_pos (by decide), dec_long [] (by decide)]
  have hAB : aboveS [1, 98, 0] [1, 97, 1, 98, 0] = true := (aboveS_some nB nA).trans (by decide)
  have hm : mx (wrap64 ((([[97], [98]] : List Bytes).length : Int) - (([[98]] : List Bytes).length : Int))) 1 = 1 := by
    rw [show wrap64 ((([[97], [98]] : List Bytes).length : Int) - (([[98]] : List Bytes).length : Int)) = 1 from w64 _ (by decide)]
    rfl
  have h0 : Ev (fun k => qmin_Next.f k (⟨#[1, 97, 1, 98, 0]⟩ : ByteArray) 1 (⟨#[]⟩ : ByteArray) (⟨#[1, 98, 0]⟩ : ByteArray) 0 false 0 0 10 4) (mkB (fold [1, 97, 1, 98, 0]), 1, 0) := by
    refine Next_core (⟨#[1, 97, 1, 98, 0]⟩ : ByteArray) 1 (⟨#[]⟩ : ByteArray) (⟨#[1, 98, 0]⟩ : ByteArray) 0 false 0 0 10 4 hAB (by decide) nA nB 1 0 (by rw [hm]; exact Size_one 0 1 10 4 (by decide) (by decide) (by decide) (by decide) (by decide)) ?_
    rw [show wrap64 ((([[98]] : List Bytes).length : Int) + 1) = 2 from w64 _ (by decide)]
    exact Ev.pos rfl (Ev.neg (by decide) (Ev.neg (by decide) (Ev.pos (by decide) (Ev.pure _))))
  unfold wimplelaw17_QminForms.f
  simp only [and63, and1, hd, w64 (1 + d0) (by omega)]
  obtain ⟨d, hdd⟩ : ∃ d, 1 + d0 = d := ⟨_, rfl⟩
  simp only [hdd, w64 (65535 + d) (by omega), w64 (1 - d) (by omega), w64 (-d) (by omega), w64 (1000 + d) (by omega)]
  refine Ev.bind awake_ev (Ev.pos rfl (Ev.bind h0 ?_))
  have J := Forms_j0 d (by omega)
  by_cases c0 : Int.tmod (IntKind.u64.wrap a) 6 = 0
  · exact Ev.pos c0 (J _ _ _ _ _ (Next_bad _ _ _ _ _ _ _ _ _ _ (by rw [show aboveS (B ⟨#[1, 98, 0]⟩) (B ⟨#[97]⟩) = false from aboveS_right n97]; simp)))
  refine Ev.neg c0 ?_
  by_cases c1 : Int.tmod (IntKind.u64.wrap a) 6 = 1
  · exact Ev.pos c1 (J _ _ _ _ _ (Next_bad _ _ _ _ _ _ _ _ _ _ (by rw [show aboveS (B ⟨#[1, 99, 0]⟩) (B ⟨#[1, 97, 1, 98, 0]⟩) = false from (aboveS_some nC nA).trans (by decide)]; simp)))
  refine Ev.neg c1 ?_
  by_cases c2 : Int.tmod (IntKind.u64.wrap a) 6 = 2
  · exact Ev.pos c2 (J _ _ _ _ _ (Next_bad _ _ _ _ _ _ _ _ _ _ (by rw [show aboveS (B ⟨#[]⟩) (B ⟨#[1, 97, 1, 98, 0]⟩) = false from aboveS_left nm_nil]; simp)))
  refine Ev.neg c2 ?_
  by_cases c3 : Int.tmod (IntKind.u64.wrap a) 6 = 3
  · exact Ev.pos c3 (J _ _ _ _ _ (Next_bad _ _ _ _ _ _ _ _ _ _ (by omega)))
  refine Ev.neg c3 ?_
  by_cases c4 : Int.tmod (IntKind.u64.wrap a) 6 = 4
  · exact Ev.pos c4 (J _ _ _ _ _ (Next_bad _ _ _ _ _ _ _ _ _ _ (by omega)))
  refine Ev.neg c4 (Ev.bindp rfl ?_)
  have hr : rd [-d, 1000 + d] (d % 2) = -d ∨ rd [-d, 1000 + d] (d % 2) = 1000 + d := by
    rcases (show d % 2 = 0 ∨ d % 2 = 1 by omega) with q | q
    · rw [q]; exact .inl rfl
    · rw [q]; exact .inr rfl
  refine Ev.pos (by omega) (Ev.pos (by simp only [List.length_cons, List.length_nil]; omega) (J _ _ _ _ _ ?_))
  refine Next_core (⟨#[1, 97, 1, 98, 0]⟩ : ByteArray) 1 (⟨#[]⟩ : ByteArray) (⟨#[1, 98, 0]⟩ : ByteArray) _ false 0 0 10 4 hAB (by decide) nA nB 0 1700 (Size_bad _ _ _ _ (by omega)) ?_
  exact Ev.neg (by decide) (Ev.pure _)

theorem QminForms_pure : Go.Proofs.Ytbcflinledkgjaa.P.wimplelaw17_QminForms.Pure := fun a0 a1 _ _ => (QminForms_ev a0 a1).rounds
end Go.Proofs.Ytbcflinledkgjaa.M
