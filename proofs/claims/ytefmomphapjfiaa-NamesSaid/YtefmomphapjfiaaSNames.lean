/- Names, NameBack: the plain laws. -/
import Derived.Test.YtefmomphapjfiaaSAwake1
import Derived.Test.YtefmomphapjfiaaPx6
import Derived.Test.YtefmomphapjfiaaPx7

namespace Go.Proofs.Ytefmomphapjfiaa.M
open Go Go.RowKit Go.Proofs.YtefmomphapjfiaaW.PrintWords Go.Proofs.Ytefmomphapjfiaa.P

theorem Names_pure : wimplelaw1_Names.Pure := by
  intro a0 a1 _ h1
  apply Ev.rounds
  unfold wimplelaw1_Names.f
  refine Ev.bind (Text_ev a0) (Ev.bind (refText_ev a0) (Ev.bind (Parse_ev a1 h1) (Ev.bind (refParse_ev a1 h1) ?_)))
  refine Ev.pos rfl (Ev.bindp rfl (Ev.pos rfl (Ev.pos rfl (Ev.bindp rfl (Ev.pos rfl ?_)))))
  refine Ev.bind (May_ev a0) (Ev.bind (refMay_ev a0) (Ev.pos (by simp) ?_))
  refine Ev.bind (Count_ev a0) (Ev.bind (refCount_ev a0) (Ev.pos rfl ?_))
  exact Ev.bind awake_ev (Ev.pure _)

theorem NameBack_pure : wimplelaw1_NameBack.Pure := by
  intro a0 a1 h0 h1
  apply Ev.rounds
  unfold wimplelaw1_NameBack.f
  have second : Ev (fun k => wimplelaw1_NameBack.j0 k a1) true := by
    refine Ev.step (fun k => by simp only [wimplelaw1_NameBack.j0]; rfl) ?_
    refine Ev.bind (Parse_ev a1 h1) (Ev.bindp rfl ?_)
    cases h : prs (B a1) with
    | none =>
      rw [parseS_none h]
      refine Ev.neg (by decide) (Ev.eq (Ev.pure _) ?_)
      rw [toL, B_mk]
      rfl
    | some ls =>
      rw [parseS_some h]
      have hn := prs_nm h
      have hT := Text_ev (mkB (wire ls))
      rw [B_mk, textS_some hn] at hT
      have hM := May_ev (mkB (wire ls))
      rw [B_mk, hn] at hM
      refine Ev.pos rfl (Ev.bind hT (Ev.bindp rfl (Ev.pos rfl (Ev.pos ?_ (Ev.bind hM (Ev.pure _))))))
      rw [toL, toL, B_mk]
      exact (prs_some.1 h).2.2
  refine Ev.bind awake_ev (Ev.pos rfl (Ev.bind (Text_ev a0) (Ev.bindp rfl (Ev.bind (May_ev a0) ?_))))
  cases h : nm (B a0) with
  | none =>
    rw [textS_none h]
    refine Ev.neg (by decide) (Ev.bindp rfl (Ev.neg (by decide) second))
  | some ls =>
    rw [textS_some h]
    have hp := prs_text h
    have hsz : (mkB (text ls)).size ≤ 140737488351232 := by
      obtain ⟨g1, g2⟩ := good_short h
      rw [sz_mk]
      unfold text
      split
      · simp
      · have := textL_len ls (fun l hl => by have := g2 l hl; omega)
        omega
    have hP := Parse_ev (mkB (text ls)) hsz
    rw [B_mk, parseS_some hp] at hP
    refine Ev.neg (by simp) (Ev.bindp rfl (Ev.pos rfl (Ev.bind hP (Ev.bindp rfl (Ev.pos rfl (Ev.pos ?_ second))))))
    rw [toL, toL, B_mk]
    exact (nm_some.1 h).2.1

end Go.Proofs.Ytefmomphapjfiaa.M
