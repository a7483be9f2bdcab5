/- The awake call of the names' statements answers true. -/
import Derived.Test.YtefmomphapjfiaaSRefParse
import Derived.Test.YtefmomphapjfiaaPx5
import Derived.Test.YtefmomphapjfiaaPx6

namespace Go.Proofs.Ytefmomphapjfiaa.M
open Go Go.RowKit Go.Proofs.YtefmomphapjfiaaW.PrintWords Go.Proofs.Ytefmomphapjfiaa.P

theorem good_of {ls : List Bytes} (h : ls.all (fun l => decide (1 ≤ l.length ∧ l.length ≤ 63)) = true) : Good ls := by
  intro l hl
  exact of_decide_eq_true (List.all_eq_true.1 h l hl)

theorem textL_last (ls : List Bytes) (h : ls ≠ []) : (textL ls).getLast? = some 46 := by
  induction ls with
  | nil => exact absurd rfl h
  | cons l r ih =>
    have e : textL (l :: r) = (escs l ++ [46]) ++ textL r := by simp [textL]
    rw [e]
    cases r with
    | nil => simp [textL]
    | cons l2 r2 =>
      rw [List.getLast?_append, ih (by simp)]
      rfl

theorem text_last (ls : List Bytes) : (text ls).getLast? = some 46 := by
  unfold text
  by_cases h : ls = []
  · rw [if_pos h]
    rfl
  · rw [if_neg h]
    exact textL_last ls h

theorem prs_of_last {t : Bytes} (h : t.getLast? ≠ some 46) : prs t = none := by
  cases hp : prs t with
  | none => rfl
  | some ls =>
    obtain ⟨_, _, e⟩ := prs_some.1 hp
    rw [← e, text_last] at h
    exact absurd rfl h

theorem parseS_none {t : Bytes} (h : prs t = none) : parseS t = (mkB [], 100) := by
  unfold parseS
  rw [h]
theorem parseS_some {t : Bytes} {ls : List Bytes} (h : prs t = some ls) : parseS t = (mkB (wire ls), 0) := by
  unfold parseS
  rw [h]
theorem textS_none {t : Bytes} (h : nm t = none) : textS t = (mkB [], 100) := by
  unfold textS
  rw [h]
theorem textS_some {t : Bytes} {ls : List Bytes} (h : nm t = some ls) : textS t = (mkB (text ls), 0) := by
  unfold textS
  rw [h]

theorem nm_one : nm [1] = none := by
  unfold nm
  rw [if_pos (by decide), dec_step [] (by decide) (by decide)]
  simp [dec_nil]

theorem awake_ev : Ev (fun k => wimplelaw1_awake.f k) true := by
  unfold wimplelaw1_awake.f
  have p1 : prs [119, 119, 119, 46, 69, 120, 97, 109, 112, 108, 101, 46] = some [[119, 119, 119], [69, 120, 97, 109, 112, 108, 101]] := prs_some.2 ⟨good_of (by decide), by decide, by decide +kernel⟩
  have h1 := Parse_ev (⟨#[119, 119, 119, 46, 69, 120, 97, 109, 112, 108, 101, 46]⟩ : ByteArray) (by decide)
  rw [show B (⟨#[119, 119, 119, 46, 69, 120, 97, 109, 112, 108, 101, 46]⟩ : ByteArray) = [119, 119, 119, 46, 69, 120, 97, 109, 112, 108, 101, 46] from rfl, parseS_some p1] at h1
  have n2 : nm [2, 97, 46, 1, 0, 0] = some [[97, 46], [0]] := nm_some.2 ⟨good_of (by decide), by decide, by decide⟩
  have h2 := Text_ev (⟨#[2, 97, 46, 1, 0, 0]⟩ : ByteArray)
  rw [show B (⟨#[2, 97, 46, 1, 0, 0]⟩ : ByteArray) = [2, 97, 46, 1, 0, 0] from rfl, textS_some n2] at h2
  have h3 := Parse_ev (⟨#[46]⟩ : ByteArray) (by decide)
  rw [show B (⟨#[46]⟩ : ByteArray) = [46] from rfl, parseS_some prs_dot] at h3
  have h4 := Parse_ev (⟨#[119, 119, 119]⟩ : ByteArray) (by decide)
  rw [show B (⟨#[119, 119, 119]⟩ : ByteArray) = [119, 119, 119] from rfl, parseS_none (prs_of_last (by decide))] at h4
  have h5 := Text_ev (⟨#[1]⟩ : ByteArray)
  rw [show B (⟨#[1]⟩ : ByteArray) = [1] from rfl, textS_none nm_one] at h5
  refine Ev.bind h1 (Ev.bind h2 (Ev.bind h3 (Ev.bind h4 (Ev.bind h5 ?_))))
  clear h1 h2 h3 h4 h5
  refine Ev.pos (by rw [toL, B_mk]; decide) (Ev.bindp rfl (Ev.pos rfl ?_))
  refine Ev.pos (by rw [toL, B_mk]; decide +kernel) (Ev.bindp rfl (Ev.pos rfl ?_))
  refine Ev.pos (by rw [toL, B_mk]; decide) (Ev.bindp rfl (Ev.pos rfl ?_))
  refine Ev.bindp rfl (Ev.pos rfl (Ev.bindp rfl (Ev.pos rfl ?_)))
  have n1 : nm (wire [[119, 119, 119], [69, 120, 97, 109, 112, 108, 101]]) = some [[119, 119, 119], [69, 120, 97, 109, 112, 108, 101]] := prs_nm p1
  have m1 := May_ev (mkB (wire [[119, 119, 119], [69, 120, 97, 109, 112, 108, 101]]))
  rw [B_mk, n1] at m1
  have c1 := Count_ev (mkB (wire [[119, 119, 119], [69, 120, 97, 109, 112, 108, 101]]))
  rw [B_mk] at c1
  unfold cnt at c1
  rw [n1] at c1
  have m2 := May_ev (⟨#[]⟩ : ByteArray)
  rw [show B (⟨#[]⟩ : ByteArray) = [] from rfl, nm_nil] at m2
  refine Ev.bind m1 (Ev.pos rfl (Ev.bind c1 (Ev.pos rfl (Ev.bind m2 (Ev.pure _)))))

end Go.Proofs.Ytefmomphapjfiaa.M
