/- Qmins: any numbers, any task: every call of Size and Next is as the document says. Conditions: none (every input that can be read). -/
import Derived.Test.YtbcflinledkgjaaSQmin
import Derived.Test.YtbcflinledkgjaaPx15
import Derived.Test.YtbcflinledkgjaaPx17
import Derived.Test.YtbcflinledkgjaaPx3

set_option linter.unusedVariables false
set_option linter.unusedSimpArgs false
namespace Go.Proofs.Ytbcflinledkgjaa.M
open Go Go.RowKit Go.Proofs.YtbcflinledkgjaaW.PrintWords Go.Proofs.YtbcflinledkgjaaW.PrintMore Go.Proofs.Ytbcflinledkgjaa.P

theorem rSize_ev (a b c d : Int) : ∃ r, qmin_Size.f a b c d = some r ∧ Ev (fun k => wimpleref13_Size.f k a b c d) r := by
  have T : Ev (fun k => wimpleref13_Size.j0 k a b c d true) (0, 1700) := by
    refine Ev.step (fun k => by simp only [wimpleref13_Size.j0]; rfl) ?_
    exact Ev.pos (by trivial) (Ev.pure _)
  by_cases hb : (a < 0 ∨ 1000 < a) ∨ (b < 1 ∨ 1000 < b) ∨ (c < 0 ∨ 1000 < c) ∨ (d < 0 ∨ 1000 < d)
  · refine ⟨(0, 1700), ?_, ?_⟩
    · by_cases h0 : b = 0
      · subst h0
        exact Size_zero a c d
      · exact Size_bad a b c d (by omega)
    · unfold wimpleref13_Size.f
      by_cases c1 : a < 0
      · exact Ev.pos c1 T
      refine Ev.neg c1 ?_
      by_cases c2 : b < 1
      · exact Ev.pos c2 T
      refine Ev.neg c2 ?_
      by_cases c3 : c < 0
      · exact Ev.pos c3 T
      refine Ev.neg c3 ?_
      by_cases c4 : d < 0
      · exact Ev.pos c4 T
      refine Ev.neg c4 ?_
      by_cases c5 : a > 1000
      · exact Ev.pos c5 T
      refine Ev.neg c5 ?_
      by_cases c6 : b > 1000
      · exact Ev.pos c6 T
      refine Ev.neg c6 ?_
      by_cases c7 : c > 1000
      · exact Ev.pos c7 T
      refine Ev.neg c7 ?_
      rw [show decide (d > 1000) = true from decide_eq_true (by omega)]
      exact T
  · have U : ∀ r, Ev (fun k => wimpleref13_Size.j0 k a b c d false) r → Ev (fun k => wimpleref13_Size.f k a b c d) r := by
      intro r h
      unfold wimpleref13_Size.f
      refine Ev.neg (by omega) (Ev.neg (by omega) (Ev.neg (by omega) (Ev.neg (by omega) (Ev.neg (by omega) (Ev.neg (by omega) (Ev.neg (by omega) ?_))))))
      rw [show decide (d > 1000) = false from decide_eq_false (by omega)]
      exact h
    have T1 : Ev (fun k => wimpleref13_Size.j1 k a b c true) (1, 0) := by
      refine Ev.step (fun k => by simp only [wimpleref13_Size.j1]; rfl) ?_
      exact Ev.pos (by trivial) (Ev.pure _)
    by_cases q : a < d ∨ b ≤ c - a
    · refine ⟨(1, 0), Size_one a b c d (by omega) (by omega) (by omega) (by omega) q, U _ ?_⟩
      refine Ev.step (fun k => by simp only [wimpleref13_Size.j0]; rfl) ?_
      refine Ev.neg (by decide) ?_
      by_cases q1 : a < d
      · exact Ev.pos q1 T1
      · refine Ev.neg q1 ?_
        rw [w64 (c - a) (by omega), show decide (b ≤ c - a) = true from decide_eq_true (by omega)]
        exact T1
    · by_cases q' : c ≤ a
      · refine ⟨(b, 0), Size_all a b c d (by omega) (by omega) (by omega) (by omega) q q', U _ ?_⟩
        refine Ev.step (fun k => by simp only [wimpleref13_Size.j0]; rfl) ?_
        refine Ev.neg (by decide) (Ev.neg (by omega) ?_)
        rw [w64 (c - a) (by omega), show decide (b ≤ c - a) = false from decide_eq_false (by omega)]
        refine Ev.step (fun k => by simp only [wimpleref13_Size.j1]; rfl) ?_
        exact Ev.neg (by decide) (Ev.pos (by omega) (Ev.pure _))
      · have P := part_facts b (c - a) (by omega) (by omega)
        refine ⟨((b + c - a - 1) / (c - a), 0), Size_part a b c d (by omega) (by omega) (by omega) (by omega) q q', U _ ?_⟩
        refine Ev.step (fun k => by simp only [wimpleref13_Size.j0]; rfl) ?_
        refine Ev.neg (by decide) (Ev.neg (by omega) ?_)
        rw [w64 (c - a) (by omega), show decide (b ≤ c - a) = false from decide_eq_false (by omega)]
        refine Ev.step (fun k => by simp only [wimpleref13_Size.j1]; rfl) ?_
        rw [show b + c - a - 1 = b + (c - a) - 1 by omega]
        simp only [w64 (c - a) (by omega), w64 (b + c) (by omega), w64 (b + c - a) (by omega), w64 (b + c - a - 1) (by omega), show b + c - a - 1 = b + (c - a) - 1 by omega, w64 (b + (c - a) - 1) (by omega)]
        refine Ev.neg (by decide) (Ev.neg (by omega) (Ev.neg (by omega) (Ev.eq (Ev.pure _) ?_)))
        rw [Int.tdiv_eq_ediv_of_nonneg (by omega), w64 _ (by omega)]

theorem mx_comm (a : Int) : mx 1 a = mx a 1 := by
  unfold mx
  split <;> split <;> omega

section
variable (nn : ByteArray) (t : Int) (cut kn : ByteArray) (st : Int) (fb : Bool) (sv tr c o : Int)

theorem rNext_t : Ev (fun k => wimpleref13_Next.j0 k c o true nn t cut kn st fb sv tr) (mkB [], 0, 1700) := by
  refine Ev.step (fun k => by simp only [wimpleref13_Next.j0]; rfl) ?_
  exact Ev.pos (by trivial) (Ev.pure _)

theorem rNext_bad (h : ¬ (aboveS (B kn) (B nn) = true ∧ 1 ≤ t ∧ t ≤ 65535)) : Ev (fun k => wimpleref13_Next.f k nn t cut kn st fb sv tr c o) (mkB [], 0, 1700) := by
  have T := rNext_t nn t cut kn st fb sv tr c o
  have h3 := refAbove_ev kn nn
  unfold wimpleref13_Next.f
  refine Ev.bind h3 ?_
  cases hA : aboveS (B kn) (B nn) with
  | false => exact Ev.neg (by decide) T
  | true =>
    rw [hA] at h
    refine Ev.pos rfl ?_
    by_cases c1 : t < 1
    · exact Ev.pos c1 T
    · rw [show decide (t > 65535) = true from decide_eq_true (by
        rcases Int.lt_or_le 65535 t with q | q
        · exact q
        · exact absurd ⟨rfl, by omega, q⟩ h)]
      exact Ev.neg c1 T

theorem above_names {a b : Bytes} (h : aboveS a b = true) : ∃ x y, nm a = some x ∧ nm b = some y ∧ x.map fol <:+ y.map fol := by
  cases ha : nm a with
  | none => rw [aboveS_left ha] at h; cases h
  | some x =>
    cases hb : nm b with
    | none => rw [aboveS_right hb] at h; cases h
    | some y =>
      rw [aboveS_some ha hb] at h
      exact ⟨x, y, rfl, rfl, of_decide_eq_true h⟩

theorem rNext_core {x y : List Bytes} (hA : aboveS (B kn) (B nn) = true) (ht : 1 ≤ t ∧ t ≤ 65535) (hx : nm (B nn) = some x) (hy : nm (B kn) = some y) (n e : Int)
    (hS : Ev (fun k => wimpleref13_Size.f k st (mx 1 (wrap64 ((x.length : Int) - (y.length : Int)))) c o) (n, e)) {r : ByteArray × Int × Int}
    (hr : Ev (fun k => if e = 0 then (if fb = true then (wimpleref13_Next.j1 k (y.length : Int) (x.length : Int) n true (mkB (fold (B nn))) t) else (wimpleref13_Next.j1 k (y.length : Int) (x.length : Int) n ((y.length : Int) == (x.length : Int)) (mkB (fold (B nn))) t)) else (some (mkB [], 0, e))) r) :
    Ev (fun k => wimpleref13_Next.f k nn t cut kn st fb sv tr c o) r := by
  have h3 := refAbove_ev kn nn
  rw [hA] at h3
  have k1 := refCount_ev kn
  have k2 := refCount_ev nn
  rw [show cnt (B kn) = (y.length : Int) by unfold cnt; rw [hy]] at k1
  rw [show cnt (B nn) = (x.length : Int) by unfold cnt; rw [hx]] at k2
  unfold wimpleref13_Next.f
  refine Ev.bind h3 (Ev.pos rfl (Ev.neg (by omega) ?_))
  rw [show decide (t > 65535) = false from decide_eq_false (by omega)]
  refine Ev.step (fun k => by simp only [wimpleref13_Next.j0]; rfl) ?_
  exact Ev.neg (by decide) (Ev.bind (refFold_ev nn) (Ev.bind k1 (Ev.bind k2 (Ev.bind hS hr))))

theorem Next_pair : ∃ r, Ev (fun k => qmin_Next.f k nn t cut kn st fb sv tr c o) r ∧ Ev (fun k => wimpleref13_Next.f k nn t cut kn st fb sv tr c o) r := by
  by_cases h : aboveS (B kn) (B nn) = true ∧ 1 ≤ t ∧ t ≤ 65535
  · obtain ⟨hA, ht⟩ := h
    obtain ⟨y, x, hy, hx, hs⟩ := above_names hA
    obtain ⟨⟨n, e⟩, hS, hR⟩ := rSize_ev st (mx (wrap64 ((x.length : Int) - (y.length : Int))) 1) c o
    have hR' := hR
    rw [← mx_comm] at hR'
    have J : Ev (fun k => wimpleref13_Next.j1 k (y.length : Int) (x.length : Int) n true (mkB (fold (B nn))) t) (mkB (fold (B nn)), t, 0) := by
      refine Ev.step (fun k => by simp only [wimpleref13_Next.j1]; rfl) ?_
      exact Ev.pos (by trivial) (Ev.pure _)
    by_cases he : e = 0
    · subst he
      cases fb with
      | true =>
        refine ⟨(mkB (fold (B nn)), t, 0), Next_core nn t cut kn st true sv tr c o hA ht hx hy n 0 hS ?_, rNext_core nn t cut kn st true sv tr c o hA ht hx hy n 0 hR' ?_⟩
        · exact Ev.pos rfl (Ev.pos rfl (Ev.pure _))
        · exact Ev.pos rfl (Ev.pos rfl J)
      | false =>
        by_cases q : (y.length : Int) = (x.length : Int)
        · refine ⟨(mkB (fold (B nn)), t, 0), Next_core nn t cut kn st false sv tr c o hA ht hx hy n 0 hS ?_, rNext_core nn t cut kn st false sv tr c o hA ht hx hy n 0 hR' ?_⟩
          · exact Ev.pos rfl (Ev.neg (by decide) (Ev.pos q (Ev.pure _)))
          · refine Ev.pos rfl (Ev.neg (by decide) ?_)
            rw [show ((y.length : Int) == (x.length : Int)) = true by simpa using q]
            exact J
        · have J2 : ∀ r, Ev (fun k => if (wrap64 ((y.length : Int) + n)) ≥ (x.length : Int) then (some (mkB (fold (B nn)), t, 0)) else ((wimpleref1_Last.f k (mkB (fold (B nn))) (wrap64 ((y.length : Int) + n))).bind fun bt185 => (some (bt185.1, 1, 0)))) r →
              Ev (fun k => wimpleref13_Next.f k nn t cut kn st false sv tr c o) r := by
            intro r hr
            refine rNext_core nn t cut kn st false sv tr c o hA ht hx hy n 0 hR' ?_
            refine Ev.pos rfl (Ev.neg (by decide) ?_)
            rw [show ((y.length : Int) == (x.length : Int)) = false by simpa using q]
            refine Ev.step (fun k => by simp only [wimpleref13_Next.j1]; rfl) ?_
            exact Ev.neg (by decide) hr
          by_cases q2 : wrap64 ((y.length : Int) + n) ≥ (x.length : Int)
          · refine ⟨(mkB (fold (B nn)), t, 0), Next_core nn t cut kn st false sv tr c o hA ht hx hy n 0 hS ?_, J2 _ ?_⟩
            · exact Ev.pos rfl (Ev.neg (by decide) (Ev.neg q (Ev.pos q2 (Ev.pure _))))
            · exact Ev.pos q2 (Ev.pure _)
          · refine ⟨((lastS (B (mkB (fold (B nn)))) (wrap64 ((y.length : Int) + n))).1, 1, 0), Next_core nn t cut kn st false sv tr c o hA ht hx hy n 0 hS ?_, J2 _ ?_⟩
            · exact Ev.pos rfl (Ev.neg (by decide) (Ev.neg q (Ev.neg q2 (Ev.bind (Last_ev _ _) (Ev.pure _)))))
            · exact Ev.neg q2 (Ev.bind (refLast_ev _ _) (Ev.pure _))
    · refine ⟨(mkB [], 0, e), Next_core nn t cut kn st fb sv tr c o hA ht hx hy n e hS ?_, rNext_core nn t cut kn st fb sv tr c o hA ht hx hy n e hR' ?_⟩
      · exact Ev.neg he (Ev.pure _)
      · exact Ev.neg he (Ev.pure _)
  · exact ⟨_, Next_bad nn t cut kn st fb sv tr c o h, rNext_bad nn t cut kn st fb sv tr c o h⟩

theorem Qmins_ev (a b : Int) : Ev (fun k => wimplelaw17_Qmins.f k a b c o nn t cut kn st fb sv tr) true := by
  obtain ⟨r, h1, h2⟩ := Next_pair nn t cut kn st fb sv tr c o
  obtain ⟨s, h3, h4⟩ := rSize_ev a b c o
  unfold wimplelaw17_Qmins.f
  exact Ev.bindp h3 (Ev.bind h4 (Ev.bind h1 (Ev.bind h2 (Ev.pos rfl (Ev.bindp (num_eq _) (Ev.pos rfl (Ev.pos (by simp) (Ev.bindp (num_eq _) (Ev.pos rfl (Ev.bind awake_ev (Ev.pure _)))))))))))
end

theorem Qmins_pure (a b c o : Int) (nn : ByteArray) (t : Int) (cut kn : ByteArray) (st : Int) (fb : Bool) (sv tr : Int) : ∃ k, wimplelaw17_Qmins.f k a b c o nn t cut kn st fb sv tr = some true := (Qmins_ev nn t cut kn st fb sv tr c o a b).rounds
end Go.Proofs.Ytbcflinledkgjaa.M

namespace Go.Proofs.Ytbcflinledkgjaa.Pure
open Go Go.Proofs.Ytbcflinledkgjaa.P
theorem Qmins (a b c o : Int) (nn : ByteArray) (t : Int) (cut kn : ByteArray) (st : Int) (fb : Bool) (sv tr : Int) : ∃ k, wimplelaw17_Qmins.f k a b c o nn t cut kn st fb sv tr = some true :=
  Go.Proofs.Ytbcflinledkgjaa.M.Qmins_pure a b c o nn t cut kn st fb sv tr

end Go.Proofs.Ytbcflinledkgjaa.Pure
