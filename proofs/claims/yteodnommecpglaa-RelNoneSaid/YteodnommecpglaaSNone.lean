/- RelNone. -/
import Derived.Test.YteodnommecpglaaSAwake2
import Derived.Test.YteodnommecpglaaPx15

set_option linter.unusedVariables false
set_option linter.unusedSimpArgs false
namespace Go.Proofs.Yteodnommecpglaa.M
open Go Go.RowKit Go.Proofs.YteodnommecpglaaW.PrintWords Go.Proofs.Yteodnommecpglaa.P

theorem None_j0 (s a : ByteArray) (hs : nm (B s) = none) : Ev (fun q => wimplelaw2_RelNone.j0 q s a false) true := by
  have h1 := Parent_ev s
  rw [parS_none hs] at h1
  have h2 := Last_ev s 0
  rw [lastS_none hs] at h2
  have h3 := Child_ev (⟨#[97]⟩ : ByteArray) s
  rw [childS_no (by rw [hs]; simp)] at h3
  have h4 := Same_ev s s
  rw [sameS_left hs] at h4
  have h5 := Above_ev s a
  rw [aboveS_left hs] at h5
  have h6 := Above_ev a s
  rw [aboveS_right hs] at h6
  have h7 := Same_ev a s
  rw [sameS_right hs] at h7
  have h8 := Fold_ev s
  rw [fold_none hs] at h8
  have h9 := Compare_ev s a
  rw [rl_none hs] at h9
  have h10 := Compare_ev (⟨#[0]⟩ : ByteArray) a
  rw [show rl (B ⟨#[0]⟩) = [] from (rl_some nm_root).trans rfl] at h10
  have h11 := Compare_ev s s
  rw [cmpR_self] at h11
  refine Ev.step (fun k => by simp only [wimplelaw2_RelNone.j0]; rfl) (Ev.neg (by decide) ?_)
  refine Ev.bind h1 (Ev.bind h2 (Ev.bind h3 (Ev.bind h4 (Ev.neg (by decide) (Ev.bind h5 (Ev.neg (by decide) (Ev.bind h6 (Ev.neg (by decide) (Ev.bind h7 (Ev.neg (by decide) (Ev.bind h8 (Ev.pos (by rw [toL]; rfl) ?_))))))))))))
  refine Ev.bindp (num_eq _) (Ev.pos rfl (Ev.bindp (num_eq _) (Ev.pos rfl (Ev.bindp (num_eq _) ?_))))
  refine Ev.pos rfl (Ev.bind h9 (Ev.bind h10 ?_))
  refine Ev.pos rfl (Ev.bind h11 ?_)
  exact Ev.pure _

theorem None_t (s a : ByteArray) : Ev (fun q => wimplelaw2_RelNone.j0 q s a true) true := by
  refine Ev.step (fun k => by simp only [wimplelaw2_RelNone.j0]; rfl) ?_
  exact Ev.pos (by trivial) (Ev.pure _)

theorem RelNone_ev (s a : ByteArray) : Ev (fun q => wimplelaw2_RelNone.f q s a) true := by
  unfold wimplelaw2_RelNone.f
  refine Ev.bind awake_ev (Ev.pos rfl ?_)
  have hM := refMay_ev s
  cases hs : nm (B s) with
  | some x =>
    rw [hs] at hM
    exact Ev.bind hM (Ev.pos rfl (None_t s a))
  | none =>
    rw [hs] at hM
    refine Ev.bind hM (Ev.neg (by simp) (Ev.bind (refMay_ev a) ?_))
    cases (nm (B a)).isSome with
    | true => exact None_j0 s a hs
    | false => exact None_t s a

theorem RelNone_pure : Go.Proofs.Yteodnommecpglaa.P.wimplelaw2_RelNone.Pure := fun a0 a1 _ _ => (RelNone_ev a0 a1).rounds
end Go.Proofs.Yteodnommecpglaa.M
