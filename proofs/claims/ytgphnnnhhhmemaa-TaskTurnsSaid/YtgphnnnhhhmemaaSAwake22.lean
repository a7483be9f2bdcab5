/- The awake call of the tasks' statements answers true. -/
import Derived.Test.YtgphnnnhhhmemaaSTask
import Derived.Test.YtgphnnnhhhmemaaPx17

set_option linter.unusedVariables false
set_option linter.unusedSimpArgs false
namespace Go.Proofs.Ytgphnnnhhhmemaa.M
open Go Go.RowKit Go.Proofs.YtgphnnnhhhmemaaW.PrintWords Go.Proofs.Ytgphnnnhhhmemaa.P

theorem awake_ev : Ev (fun k => wimplelaw22_awake.f k) true := by
  unfold wimplelaw22_awake.f
  have nA : nm [1, 65, 1, 99, 0] = some [[65], [99]] := nm_some.2 ⟨good_of (by decide), by decide, by decide⟩
  have nB : nm [1, 67, 0] = some [[67]] := nm_some.2 ⟨good_of (by decide), by decide, by decide⟩
  have nC : nm [1, 99, 0] = some [[99]] := nm_some.2 ⟨good_of (by decide), by decide, by decide⟩
  have fA : fold [1, 65, 1, 99, 0] = [1, 97, 1, 99, 0] := (fold_some nA).trans (by decide)
  have fB : fold [1, 67, 0] = [1, 99, 0] := (fold_some nB).trans (by decide)
  have h1 := New_ev (⟨#[1, 65, 1, 99, 0]⟩ : ByteArray) 15 (⟨#[1, 67, 0]⟩ : ByteArray)
  rw [show newS (B ⟨#[1, 65, 1, 99, 0]⟩) 15 (B ⟨#[1, 67, 0]⟩) = (mkB [1, 97, 1, 99, 0], 15, mkB [1, 99, 0], mkB [1, 99, 0], 0, false, 0, 0, 0) from (newS_yes ⟨(aboveS_some nB nA).trans (by decide), by decide, by decide⟩).trans (by
    rw [show fold (B ⟨#[1, 65, 1, 99, 0]⟩) = [1, 97, 1, 99, 0] from fA, show fold (B ⟨#[1, 67, 0]⟩) = [1, 99, 0] from fB])] at h1
  have h2 := Take3_ev (mkB [1, 97, 1, 99, 0]) 15 (mkB [1, 99, 0]) (mkB [1, 99, 0]) 0 false 0 0 (⟨#[1, 65, 1, 99, 0]⟩ : ByteArray) 1
  rw [show fold (B ⟨#[1, 65, 1, 99, 0]⟩) = [1, 97, 1, 99, 0] from fA, show wrap64 (0 + 1) = 1 from w64 _ (by decide)] at h2
  have h3 := Take2_ev (mkB [1, 97, 1, 99, 0]) 15 (mkB [1, 99, 0]) (mkB [1, 99, 0]) 0 false 0 0 (⟨#[]⟩ : ByteArray) 0
  have h4 := Lost_ev (mkB [1, 97, 1, 99, 0]) 15 (mkB [1, 99, 0]) (mkB [1, 99, 0]) 0 false 0 0 1 1 (by decide)
  rw [show lostS (mkB [1, 97, 1, 99, 0]) 15 (mkB [1, 99, 0]) (mkB [1, 99, 0]) 0 false 0 0 1 1 = (mkB [1, 97, 1, 99, 0], 15, mkB [1, 99, 0], mkB [1, 99, 0], 0, false, 1, 1, 2, 0) from rfl] at h4
  have h5 := New_ev (⟨#[0]⟩ : ByteArray) 1 (⟨#[1, 99, 0]⟩ : ByteArray)
  rw [show newS (B ⟨#[0]⟩) 1 (B ⟨#[1, 99, 0]⟩) = (mkB [], 0, mkB [], mkB [], 0, false, 0, 0, 2200) from newS_no (by rw [show aboveS (B ⟨#[1, 99, 0]⟩) (B ⟨#[0]⟩) = false from (aboveS_some nC nm_root).trans (by decide)]; simp)] at h5
  have h6 := Take_bad (mkB [1, 97, 1, 99, 0]) 15 (mkB [1, 99, 0]) (mkB [1, 99, 0]) 0 false 0 0 (⟨#[]⟩ : ByteArray) 0
  refine Ev.bind h1 (Ev.bind h2 (Ev.bind h3 (Ev.bind h4 (Ev.bind h5 (Ev.bind h6 (Ev.pos ?_ ?_))))))
  · simp only [toL, B_mk]
    decide
  · refine Ev.bindp (num_eq _) (Ev.pos rfl (Ev.pos rfl (Ev.pos rfl (Ev.pos rfl (Ev.bindp (num_eq _) (Ev.pos rfl (Ev.pos rfl (Ev.pos rfl (Ev.bindp (num_eq _) (Ev.pos rfl (Ev.pos rfl (Ev.pos rfl ?_))))))))))))
    refine Ev.bindp (num_eq _) (Ev.pos rfl (Ev.bindp (num_eq _) (Ev.pos rfl (Ev.bindp (num_eq _) ?_))))
    exact Ev.pure _

end Go.Proofs.Ytgphnnnhhhmemaa.M
