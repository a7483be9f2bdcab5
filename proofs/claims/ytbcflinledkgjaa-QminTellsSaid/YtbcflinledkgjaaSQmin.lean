/- What package qmin answers; the awake call of its statements. -/
import Derived.Test.YtbcflinledkgjaaSRel2
import Derived.Test.YtbcflinledkgjaaMBits
import Derived.Test.YtbcflinledkgjaaPx10
import Derived.Test.YtbcflinledkgjaaPx14
import Derived.Test.YtbcflinledkgjaaPx16
import Derived.Test.YtbcflinledkgjaaPx2

set_option linter.unusedVariables false
set_option linter.unusedSimpArgs false
namespace Go.Proofs.Ytbcflinledkgjaa.M
open Go Go.RowKit Go.Proofs.YtbcflinledkgjaaW.PrintWords Go.Proofs.YtbcflinledkgjaaW.PrintMore Go.Proofs.Ytbcflinledkgjaa.P

theorem good_of {ls : List Bytes} (h : ls.all (fun l => decide (1 ≤ l.length ∧ l.length ≤ 63)) = true) : Good ls := by
  intro l hl
  exact of_decide_eq_true (List.all_eq_true.1 h l hl)
theorem num_eq (n : Int) : wimplelaw0_Num.f n = some n := rfl

theorem Size_bad (a b c d : Int) (h : (a < 0 ∨ 1000 < a) ∨ (b < 0 ∨ 1000 < b) ∨ (c < 0 ∨ 1000 < c) ∨ (d < 0 ∨ 1000 < d)) : qmin_Size.f a b c d = some (0, 1700) := by
  unfold qmin_Size.f
  rw [if_pos h]
theorem Size_zero (a c d : Int) : qmin_Size.f a 0 c d = some (0, 1700) := by
  unfold qmin_Size.f
  split
  · rfl
  · rfl
theorem Size_one (a b c d : Int) (ha : 0 ≤ a ∧ a ≤ 1000) (hb : 1 ≤ b ∧ b ≤ 1000) (hc : 0 ≤ c ∧ c ≤ 1000) (hd : 0 ≤ d ∧ d ≤ 1000) (h : a < d ∨ b ≤ c - a) : qmin_Size.f a b c d = some (1, 0) := by
  unfold qmin_Size.f
  rw [if_neg (by omega), if_neg (by omega), if_pos h]
theorem Size_all (a b c d : Int) (ha : 0 ≤ a ∧ a ≤ 1000) (hb : 1 ≤ b ∧ b ≤ 1000) (hc : 0 ≤ c ∧ c ≤ 1000) (hd : 0 ≤ d ∧ d ≤ 1000) (h : ¬ (a < d ∨ b ≤ c - a)) (h' : c ≤ a) : qmin_Size.f a b c d = some (b, 0) := by
  unfold qmin_Size.f
  rw [if_neg (by omega), if_neg (by omega), if_neg h, if_pos h']
theorem Size_part (a b c d : Int) (ha : 0 ≤ a ∧ a ≤ 1000) (hb : 1 ≤ b ∧ b ≤ 1000) (hc : 0 ≤ c ∧ c ≤ 1000) (hd : 0 ≤ d ∧ d ≤ 1000) (h : ¬ (a < d ∨ b ≤ c - a)) (h' : ¬ c ≤ a) : qmin_Size.f a b c d = some ((b + c - a - 1) / (c - a), 0) := by
  unfold qmin_Size.f
  rw [if_neg (by omega), if_neg (by omega), if_neg h, if_neg h', Int.tdiv_eq_ediv_of_nonneg (by omega)]

/-- A rounded up part. -/
theorem part_facts (m d : Int) (hm : 1 ≤ m) (hd : 1 ≤ d) : 1 ≤ (m + d - 1) / d ∧ (m + d - 1) / d ≤ m ∧ m ≤ (m + d - 1) / d * d ∧ (m + d - 1) / d * d ≤ m + d - 1 := by
  have h1 : (m + d - 1) / d * d ≤ m + d - 1 := Int.ediv_mul_le _ (by omega)
  have h2 : m + d - 1 < ((m + d - 1) / d + 1) * d := Int.lt_ediv_add_one_mul_self _ (by omega)
  generalize (m + d - 1) / d = k at *
  have e : (k + 1) * d = k * d + d := by rw [Int.add_mul, Int.one_mul]
  rw [e] at h2
  refine ⟨?_, ?_, by omega, h1⟩
  · rcases Int.lt_or_le k 1 with q | q
    · have := Int.mul_le_mul_of_nonneg_right (show k ≤ 0 by omega) (show 0 ≤ d by omega)
      omega
    · exact q
  · rcases Int.lt_or_le m k with q | q
    · have h3 := Int.mul_le_mul_of_nonneg_right (show m + 1 ≤ k by omega) (show 0 ≤ d by omega)
      have h4 := Int.mul_le_mul_of_nonneg_left (show 1 ≤ d by omega) (show 0 ≤ m by omega)
      rw [Int.add_mul, Int.one_mul] at h3
      omega
    · exact q

section
variable (nn : ByteArray) (t : Int) (cut kn : ByteArray) (st : Int) (fb : Bool) (sv tr c o : Int)

theorem Next_t : Ev (fun k => qmin_Next.j0 k c o true nn t cut kn st fb sv tr) (mkB [], 0, 1700) := by
  refine Ev.step (fun k => by simp only [qmin_Next.j0]; rfl) ?_
  exact Ev.pos (by trivial) (Ev.pure _)

theorem Next_bad (h : ¬ (aboveS (B kn) (B nn) = true ∧ 1 ≤ t ∧ t ≤ 65535)) : Ev (fun k => qmin_Next.f k nn t cut kn st fb sv tr c o) (mkB [], 0, 1700) := by
  have T := Next_t nn t cut kn st fb sv tr c o
  have h1 := May_ev nn
  have h2 := May_ev kn
  have h3 := Above_ev kn nn
  unfold qmin_Next.f
  refine Ev.bind h1 ?_
  cases (nm (B nn)).isSome with
  | false => exact Ev.neg (by decide) T
  | true =>
    refine Ev.pos rfl (Ev.bind h2 ?_)
    cases (nm (B kn)).isSome with
    | false => exact Ev.neg (by decide) T
    | true =>
      refine Ev.pos rfl (Ev.bind h3 ?_)
      cases hA : aboveS (B kn) (B nn) with
      | false => exact Ev.neg (by decide) T
      | true =>
        rw [hA] at h
        refine Ev.pos rfl ?_
        by_cases c1 : t < 1
        · exact Ev.pos c1 T
        · rw [show decide (t > 65535) = true from decide_eq_true (by
            rcases Int.lt_or_le 65535 t with q | q
            · exact q
            · exact absurd ⟨rfl, by omega, q⟩ h)]
          exact Ev.neg c1 T

theorem Next_core {x y : List Bytes} (hA : aboveS (B kn) (B nn) = true) (ht : 1 ≤ t ∧ t ≤ 65535) (hx : nm (B nn) = some x) (hy : nm (B kn) = some y) (n e : Int)
    (hS : qmin_Size.f st (mx (wrap64 ((x.length : Int) - (y.length : Int))) 1) c o = some (n, e)) {r : ByteArray × Int × Int}
    (hr : Ev (fun k => if e = 0 then (if fb = true then (some (mkB (fold (B nn)), t, 0)) else (if (y.length : Int) = (x.length : Int) then (some (mkB (fold (B nn)), t, 0)) else (if (wrap64 ((y.length : Int) + n)) ≥ (x.length : Int) then (some (mkB (fold (B nn)), t, 0)) else ((rel_Last.f k (mkB (fold (B nn))) (wrap64 ((y.length : Int) + n))).bind fun bt144 => (some (bt144.1, 1, 0)))))) else (some (mkB [], 0, e))) r) :
    Ev (fun k => qmin_Next.f k nn t cut kn st fb sv tr c o) r := by
  have h1 := May_ev nn
  have h2 := May_ev kn
  have h3 := Above_ev kn nn
  rw [hx] at h1
  rw [hy] at h2
  rw [hA] at h3
  have k1 := Count_ev kn
  have k2 := Count_ev nn
  rw [show cnt (B kn) = (y.length : Int) by unfold cnt; rw [hy]] at k1
  rw [show cnt (B nn) = (x.length : Int) by unfold cnt; rw [hx]] at k2
  unfold qmin_Next.f
  refine Ev.bind h1 (Ev.pos rfl (Ev.bind h2 (Ev.pos rfl (Ev.bind h3 (Ev.pos rfl (Ev.neg (by omega) ?_))))))
  rw [show decide (t > 65535) = false from decide_eq_false (by omega)]
  refine Ev.step (fun k => by simp only [qmin_Next.j0]; rfl) ?_
  refine Ev.neg (by decide) (Ev.bind (Fold_ev nn) (Ev.bind k1 (Ev.bind k2 (Ev.bindp hS ?_))))
  exact hr
end

theorem awake_ev : Ev (fun k => wimplelaw17_awake.f k) true := by
  have nA : nm [1, 65, 1, 98, 1, 99, 0] = some [[65], [98], [99]] := nm_some.2 ⟨good_of (by decide), by decide, by decide⟩
  have nC : nm [1, 99, 0] = some [[99]] := nm_some.2 ⟨good_of (by decide), by decide, by decide⟩
  have nF : nm [1, 97, 1, 98, 1, 99, 0] = some [[97], [98], [99]] := nm_some.2 ⟨good_of (by decide), by decide, by decide⟩
  have fA : fold [1, 65, 1, 98, 1, 99, 0] = [1, 97, 1, 98, 1, 99, 0] := (fold_some nA).trans (by decide)
  have hL := Last_ev (mkB [1, 97, 1, 98, 1, 99, 0]) 2
  rw [B_mk, show lastS [1, 97, 1, 98, 1, 99, 0] 2 = (mkB [1, 98, 1, 99, 0], 0) from lastS_some nF 2 (by decide)] at hL
  have hm : mx (wrap64 ((([[65], [98], [99]] : List Bytes).length : Int) - (([[99]] : List Bytes).length : Int))) 1 = 2 := by
    rw [show wrap64 ((([[65], [98], [99]] : List Bytes).length : Int) - (([[99]] : List Bytes).length : Int)) = 2 from w64 _ (by decide)]
    rfl
  have hw : wrap64 ((([[99]] : List Bytes).length : Int) + 1) = 2 := w64 _ (by decide)
  have hN : Ev (fun k => qmin_Next.f k (⟨#[1, 65, 1, 98, 1, 99, 0]⟩ : ByteArray) 15 (⟨#[]⟩ : ByteArray) (⟨#[1, 99, 0]⟩ : ByteArray) 0 false 0 0 10 4) (mkB [1, 98, 1, 99, 0], 1, 0) := by
    refine Next_core (⟨#[1, 65, 1, 98, 1, 99, 0]⟩ : ByteArray) 15 (⟨#[]⟩ : ByteArray) (⟨#[1, 99, 0]⟩ : ByteArray) 0 false 0 0 10 4 ((aboveS_some nC nA).trans (by decide)) (by decide) nA nC 1 0 (by rw [hm]; exact Size_one 0 2 10 4 (by decide) (by decide) (by decide) (by decide) (by decide)) ?_
    rw [hw, show fold (B ⟨#[1, 65, 1, 98, 1, 99, 0]⟩) = [1, 97, 1, 98, 1, 99, 0] from fA]
    exact Ev.pos rfl (Ev.neg (by decide) (Ev.neg (by decide) (Ev.neg (by decide) (Ev.bind hL (Ev.pure _)))))
  unfold wimplelaw17_awake.f
  refine Ev.bindp (Size_one 0 20 10 4 (by decide) (by decide) (by decide) (by decide) (by decide)) ?_
  refine Ev.bindp (Size_part 5 20 10 4 (by decide) (by decide) (by decide) (by decide) (by decide) (by decide)) ?_
  refine Ev.bindp (Size_all 10 20 10 4 (by decide) (by decide) (by decide) (by decide) (by decide) (by decide)) ?_
  refine Ev.bindp (Size_zero 0 10 4) (Ev.bind hN ?_)
  refine Ev.pos rfl (Ev.bindp (num_eq _) ?_)
  refine Ev.pos rfl (Ev.pos (by decide) (Ev.bindp (num_eq _) ?_))
  refine Ev.pos rfl (Ev.pos rfl (Ev.bindp (num_eq _) ?_))
  refine Ev.pos rfl (Ev.bindp (num_eq _) ?_)
  refine Ev.pos rfl (Ev.pos ?_ (Ev.bindp (num_eq _) ?_))
  · simp only [toL, B_mk]
    decide
  · exact Ev.pure _

end Go.Proofs.Ytbcflinledkgjaa.M
