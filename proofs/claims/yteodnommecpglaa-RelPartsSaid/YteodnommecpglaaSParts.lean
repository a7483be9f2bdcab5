/- RelParts. -/
import Derived.Test.YteodnommecpglaaSAwake2
import Derived.Test.YteodnommecpglaaPx11

set_option linter.unusedVariables false
set_option linter.unusedSimpArgs false
namespace Go.Proofs.Yteodnommecpglaa.M
open Go Go.RowKit Go.Proofs.YteodnommecpglaaW.PrintWords Go.Proofs.Yteodnommecpglaa.P

theorem Parts_end (a : ByteArray) (ls : List Bytes) (h : nm (B a) = some ls) (x : ByteArray) : Ev (fun q => wimplelaw2_RelParts.l0 q a (ls.length : Int) x (-1)) true := by
  have hn := nm_count h
  have h1 := Last_ev a ((ls.length + 1 : Nat) : Int)
  rw [lastS_out h _ (by omega)] at h1
  have h2 := Last_ev a (-1)
  rw [lastS_out h _ (by omega)] at h2
  refine Ev.step (fun k => by simp only [wimplelaw2_RelParts.l0]; rfl) (Ev.neg (by decide) ?_)
  simp only [w_succ ls.length (by omega)]
  exact Ev.bind h1 (Ev.bind h2 (Ev.bindp (num_eq _) (Ev.pos rfl (Ev.bindp (num_eq _) (Ev.pure _)))))

theorem suffix_len {x y : List Bytes} (h : x <:+ y) (hl : y.length ≤ x.length) : x = y := List.IsSuffix.eq_of_length_le h hl

theorem Parts_l0 (a : ByteArray) (ls : List Bytes) (h : nm (B a) = some ls) : ∀ j : Nat, j ≤ ls.length →
    Ev (fun q => wimplelaw2_RelParts.l0 q a (ls.length : Int) (mkB (wire (ls.drop (ls.length - j)))) (j : Int)) true := by
  have hn := nm_count h
  intro j
  induction j with
  | zero =>
    intro hj
    have h1 := Last_ev a ((0 : Nat) : Int)
    rw [lastS_some h _ ⟨by omega, by omega⟩] at h1
    have nx := nm_drop h (ls.length - 0)
    have h2 := Above_ev (mkB (wire (ls.drop (ls.length - 0)))) a
    rw [B_mk, show aboveS (wire (ls.drop (ls.length - 0))) (B a) = true from (aboveS_some nx h).trans (decide_eq_true (by rw [List.map_drop]; exact List.drop_suffix _ _))] at h2
    have h3 := Above_ev a (mkB (wire (ls.drop (ls.length - 0))))
    rw [B_mk, show aboveS (B a) (wire (ls.drop (ls.length - 0))) = decide (ls.length = 0) from (aboveS_some h nx).trans (by
      rw [decide_eq_decide]
      constructor
      · intro q
        have := q.length_le
        simp only [List.length_map, List.length_drop] at this
        omega
      · intro q
        have : ls = [] := List.length_eq_zero_iff.1 q
        subst this
        exact List.suffix_refl _)] at h3
    have h4 := Parent_ev (mkB (wire (ls.drop (ls.length - 0))))
    rw [B_mk, show parS (wire (ls.drop (ls.length - 0))) = (mkB [], 200) from parS_nil (by rw [nx]; simp)] at h4
    refine Ev.step (fun k => by simp only [wimplelaw2_RelParts.l0]; rfl) (Ev.pos (by decide) (Ev.bind h1 (Ev.bindp (num_eq _) (Ev.pos rfl (Ev.pos rfl (Ev.bind h2 (Ev.pos rfl (Ev.bind h3 ?_))))))))
    rw [show ((decide (((0 : Nat) : Int) < (ls.length : Int))) == decide (ls.length = 0)) = false by
      rw [beq_eq_false_iff_ne]
      intro q
      have q := decide_eq_decide.1 q
      omega]
    refine Ev.step (fun k => by simp only [wimplelaw2_RelParts.j1]; rfl) (Ev.neg (by decide) (Ev.bind h4 (Ev.bindp (num_eq _) ?_)))
    rw [show wrap64 (((0 : Nat) : Int) - 1) = -1 from w64 _ (by decide)]
    exact Ev.neg (by decide) (Parts_end a ls h _)
  | succ j ih =>
    intro hj
    have ih := ih (by omega)
    have h1 := Last_ev a ((j + 1 : Nat) : Int)
    rw [lastS_some h _ ⟨by omega, by omega⟩] at h1
    have nx := nm_drop h (ls.length - (j + 1))
    have h2 := Above_ev (mkB (wire (ls.drop (ls.length - (j + 1))))) a
    rw [B_mk, show aboveS (wire (ls.drop (ls.length - (j + 1)))) (B a) = true from (aboveS_some nx h).trans (decide_eq_true (by rw [List.map_drop]; exact List.drop_suffix _ _))] at h2
    have h3 := Above_ev a (mkB (wire (ls.drop (ls.length - (j + 1)))))
    rw [B_mk, show aboveS (B a) (wire (ls.drop (ls.length - (j + 1)))) = decide (ls.length = j + 1) from (aboveS_some h nx).trans (by
      rw [decide_eq_decide]
      constructor
      · intro q
        have := q.length_le
        simp only [List.length_map, List.length_drop] at this
        omega
      · intro q
        rw [q, Nat.sub_self, List.drop_zero]
        exact List.suffix_refl _)] at h3
    have hcons : ls.drop (ls.length - (j + 1)) = ls[ls.length - (j + 1)]'(by omega) :: ls.drop (ls.length - j) := by
      rw [List.drop_eq_getElem_cons (by omega), show ls.length - (j + 1) + 1 = ls.length - j by omega]
    have h4 := Parent_ev (mkB (wire (ls.drop (ls.length - (j + 1)))))
    rw [B_mk, show parS (wire (ls.drop (ls.length - (j + 1)))) = (mkB (wire (ls.drop (ls.length - j))), 0) from parS_cons (by rw [nx, hcons])] at h4
    refine Ev.step (fun k => by simp only [wimplelaw2_RelParts.l0]; rfl) (Ev.pos (by omega) (Ev.bind h1 (Ev.bindp (num_eq _) (Ev.pos rfl (Ev.pos rfl (Ev.bind h2 (Ev.pos rfl (Ev.bind h3 ?_))))))))
    rw [show ((decide (((j + 1 : Nat) : Int) < (ls.length : Int))) == decide (ls.length = j + 1)) = false by
      rw [beq_eq_false_iff_ne]
      intro q
      have q := decide_eq_decide.1 q
      omega]
    refine Ev.step (fun k => by simp only [wimplelaw2_RelParts.j1]; rfl) (Ev.neg (by decide) (Ev.bind h4 (Ev.bindp (num_eq _) ?_)))
    simp only [w_pred j (by omega)]
    refine Ev.neg ?_ ih
    rw [show decide (((j + 1 : Nat) : Int) > 0) = true from decide_eq_true (by omega)]
    decide

theorem RelParts_ev (a : ByteArray) : Ev (fun q => wimplelaw2_RelParts.f q a) true := by
  unfold wimplelaw2_RelParts.f
  refine Ev.bind awake_ev (Ev.pos rfl ?_)
  have hM := refMay_ev a
  cases h : nm (B a) with
  | none =>
    rw [h] at hM
    have h1 := Last_ev a 0
    rw [lastS_none h] at h1
    have h2 := Fold_ev a
    rw [fold_none h] at h2
    exact Ev.bind hM (Ev.neg (by simp) (Ev.bind h1 (Ev.bindp (num_eq _) (Ev.pos rfl (Ev.bind h2 (Ev.eq (Ev.pure _) (by rw [toL]; rfl)))))))
  | some ls =>
    rw [h] at hM
    have hC := refCount_ev a
    have c : cnt (B a) = (ls.length : Int) := by unfold cnt; rw [h]
    rw [c] at hC
    have := Parts_l0 a ls h ls.length (Nat.le_refl _)
    rw [Nat.sub_self, List.drop_zero, (nm_some.1 h).2.1, mk_B] at this
    exact Ev.bind hM (Ev.pos rfl (Ev.bind hC this))

theorem RelParts_pure : Go.Proofs.Yteodnommecpglaa.P.wimplelaw2_RelParts.Pure := fun a0 _ => (RelParts_ev a0).rounds
end Go.Proofs.Yteodnommecpglaa.M
