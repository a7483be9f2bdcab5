/- The awake call of the relations' statements answers true; what the statements say, once. -/
import Derived.Test.YteodnommecpglaaSRel2
import Derived.Test.YteodnommecpglaaSComp
import Derived.Test.YteodnommecpglaaPx9

set_option linter.unusedVariables false
set_option linter.unusedSimpArgs false
namespace Go.Proofs.Yteodnommecpglaa.M
open Go Go.RowKit Go.Proofs.YteodnommecpglaaW.PrintWords Go.Proofs.Yteodnommecpglaa.P

theorem good_of {ls : List Bytes} (h : ls.all (fun l => decide (1 ≤ l.length ∧ l.length ≤ 63)) = true) : Good ls := by
  intro l hl
  exact of_decide_eq_true (List.all_eq_true.1 h l hl)

theorem rl_some {s : Bytes} {ls : List Bytes} (h : nm s = some ls) : rl s = (ls.map fol).reverse := by unfold rl; rw [h]
theorem rl_none {s : Bytes} (h : nm s = none) : rl s = [] := by unfold rl; rw [h]

theorem same_cmp {a b : Bytes} {x y : List Bytes} (ha : nm a = some x) (hb : nm b = some y) : sameS a b = decide (cmpR (rl a) (rl b) = 0) := by
  rw [sameS_some ha hb, decide_eq_decide, rl_some ha, rl_some hb]
  constructor
  · intro h
    rw [h]
    exact cmpR_self _
  · intro h
    exact List.reverse_inj.1 (cmpR_eq _ _ h)

theorem num_eq (n : Int) : wimplelaw0_Num.f n = some n := rfl

theorem nm_root : nm [0] = some [] := nm_some.2 ⟨good_of (by decide), by decide, by decide⟩

theorem awake_ev : Ev (fun k => wimplelaw2_awake.f k) true := by
  unfold wimplelaw2_awake.f
  have nA : nm [3, 87, 87, 87, 1, 99, 0] = some [[87, 87, 87], [99]] := nm_some.2 ⟨good_of (by decide), by decide, by decide⟩
  have nB : nm [1, 67, 0] = some [[67]] := nm_some.2 ⟨good_of (by decide), by decide, by decide⟩
  have nC : nm [1, 99, 0] = some [[99]] := nm_some.2 ⟨good_of (by decide), by decide, by decide⟩
  have h1 := Parent_ev (⟨#[3, 87, 87, 87, 1, 99, 0]⟩ : ByteArray)
  rw [show parS (B ⟨#[3, 87, 87, 87, 1, 99, 0]⟩) = (mkB [1, 99, 0], 0) from parS_cons nA] at h1
  have h2 := Last_ev (⟨#[3, 87, 87, 87, 1, 99, 0]⟩ : ByteArray) 1
  rw [show lastS (B ⟨#[3, 87, 87, 87, 1, 99, 0]⟩) 1 = (mkB [1, 99, 0], 0) from lastS_some nA 1 (by decide)] at h2
  have h3 := Child_ev (⟨#[120]⟩ : ByteArray) (⟨#[1, 67, 0]⟩ : ByteArray)
  rw [show childS (B ⟨#[120]⟩) (B ⟨#[1, 67, 0]⟩) = (mkB [1, 120, 1, 67, 0], 0) from childS_yes ⟨by decide, by decide, by rw [show nm (B ⟨#[1, 67, 0]⟩) = some [[67]] from nB]; rfl, by decide⟩] at h3
  have h4 := Parent_ev (⟨#[0]⟩ : ByteArray)
  rw [show parS (B ⟨#[0]⟩) = (mkB [], 200) from parS_nil nm_root] at h4
  have h5 := Fold_ev (⟨#[3, 87, 87, 87, 1, 99, 0]⟩ : ByteArray)
  rw [show fold (B ⟨#[3, 87, 87, 87, 1, 99, 0]⟩) = [3, 119, 119, 119, 1, 99, 0] from (fold_some nA).trans (by decide)] at h5
  have h6 := Same_ev (⟨#[1, 67, 0]⟩ : ByteArray) (⟨#[1, 99, 0]⟩ : ByteArray)
  rw [show sameS (B ⟨#[1, 67, 0]⟩) (B ⟨#[1, 99, 0]⟩) = true from (sameS_some nB nC).trans (by decide)] at h6
  have h7 := Above_ev (⟨#[1, 67, 0]⟩ : ByteArray) (⟨#[3, 87, 87, 87, 1, 99, 0]⟩ : ByteArray)
  rw [show aboveS (B ⟨#[1, 67, 0]⟩) (B ⟨#[3, 87, 87, 87, 1, 99, 0]⟩) = true from (aboveS_some nB nA).trans (by decide)] at h7
  have h8 := Above_ev (⟨#[3, 87, 87, 87, 1, 99, 0]⟩ : ByteArray) (⟨#[1, 67, 0]⟩ : ByteArray)
  rw [show aboveS (B ⟨#[3, 87, 87, 87, 1, 99, 0]⟩) (B ⟨#[1, 67, 0]⟩) = false from (aboveS_some nA nB).trans (by decide)] at h8
  have h9 := Compare_ev (⟨#[3, 87, 87, 87, 1, 99, 0]⟩ : ByteArray) (⟨#[1, 67, 0]⟩ : ByteArray)
  rw [show rl (B ⟨#[3, 87, 87, 87, 1, 99, 0]⟩) = [[99], [119, 119, 119]] from (rl_some nA).trans (by decide), show rl (B ⟨#[1, 67, 0]⟩) = [[99]] from (rl_some nB).trans (by decide), show cmpR [[99], [119, 119, 119]] [[99]] = 1 by decide] at h9
  have h10 := Compare_ev (⟨#[1, 67, 0]⟩ : ByteArray) (⟨#[1, 67, 0]⟩ : ByteArray)
  rw [cmpR_self] at h10
  refine Ev.bind h1 (Ev.bind h2 (Ev.bind h3 (Ev.bind h4 (Ev.bind h5 (Ev.pos (by rw [toL]; rfl) (Ev.bind h6 (Ev.pos rfl (Ev.bind h7 (Ev.pos rfl (Ev.bind h8 (Ev.neg (by decide) ?_)))))))))))
  refine Ev.pos (by rw [toL]; rfl) (Ev.bindp (num_eq _) (Ev.pos rfl (Ev.pos (by rw [toL]) (Ev.bindp (num_eq _) (Ev.pos rfl (Ev.pos (by rw [toL]; rfl) (Ev.bindp (num_eq _) (Ev.pos rfl (Ev.bindp (num_eq _) (Ev.pos rfl ?_))))))))))
  exact Ev.bind h9 (Ev.pos rfl (Ev.bind h10 (Ev.pure _)))

end Go.Proofs.Yteodnommecpglaa.M
