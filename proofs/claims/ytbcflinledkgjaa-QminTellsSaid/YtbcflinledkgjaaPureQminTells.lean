/- QminTells: a step is above the target, below what is known, by as many labels as Size says; the target's type goes with its whole name alone. Conditions: none (every input that can be read). -/
import Derived.Test.YtbcflinledkgjaaSQmin
import Derived.Test.YtbcflinledkgjaaPx18

set_option linter.unusedVariables false
set_option linter.unusedSimpArgs false
namespace Go.Proofs.Ytbcflinledkgjaa.M
open Go Go.RowKit Go.Proofs.YtbcflinledkgjaaW.PrintWords Go.Proofs.YtbcflinledkgjaaW.PrintMore Go.Proofs.Ytbcflinledkgjaa.P

theorem Size_some (a b c d : Int) : ∃ r, qmin_Size.f a b c d = some r := by
  unfold qmin_Size.f
  split
  · exact ⟨_, rfl⟩
  split
  · exact ⟨_, rfl⟩
  split
  · exact ⟨_, rfl⟩
  split
  · exact ⟨_, rfl⟩
  exact ⟨_, rfl⟩

theorem above_names {a b : Bytes} (h : aboveS a b = true) : ∃ x y, nm a = some x ∧ nm b = some y ∧ x.map fol <:+ y.map fol := by
  cases ha : nm a with
  | none => rw [aboveS_left ha] at h; cases h
  | some x =>
    cases hb : nm b with
    | none => rw [aboveS_right hb] at h; cases h
    | some y =>
      rw [aboveS_some ha hb] at h
      exact ⟨x, y, rfl, rfl, of_decide_eq_true h⟩

theorem Size_pos (a b c d n : Int) (h : qmin_Size.f a b c d = some (n, 0)) : 1 ≤ n ∧ n ≤ 1000 := by
  by_cases hb : (a < 0 ∨ 1000 < a) ∨ (b < 0 ∨ 1000 < b) ∨ (c < 0 ∨ 1000 < c) ∨ (d < 0 ∨ 1000 < d)
  · rw [Size_bad a b c d hb] at h
    cases h
  · by_cases h0 : b = 0
    · subst h0
      rw [Size_zero] at h
      cases h
    · by_cases q : a < d ∨ b ≤ c - a
      · rw [Size_one a b c d (by omega) (by omega) (by omega) (by omega) q] at h
        injection h with h
        injection h with h1 _
        omega
      · by_cases q' : c ≤ a
        · rw [Size_all a b c d (by omega) (by omega) (by omega) (by omega) q q'] at h
          injection h with h
          injection h with h1 _
          omega
        · have P := part_facts b (c - a) (by omega) (by omega)
          rw [Size_part a b c d (by omega) (by omega) (by omega) (by omega) q q', show b + c - a - 1 = b + (c - a) - 1 by omega] at h
          injection h with h
          injection h with h1 _
          omega

section
variable (nn : ByteArray) (t : Int) (cut kn : ByteArray) (st : Int) (fb : Bool) (sv tr c o : Int)

theorem QminTells_ev : Ev (fun k => wimplelaw17_QminTells.f k nn t cut kn st fb sv tr c o) true := by
  unfold wimplelaw17_QminTells.f
  refine Ev.bind awake_ev (Ev.pos rfl ?_)
  by_cases h : aboveS (B kn) (B nn) = true ∧ 1 ≤ t ∧ t ≤ 65535
  · obtain ⟨hA, ht⟩ := h
    obtain ⟨y, x, hy, hx, hs⟩ := above_names hA
    have hxn := nm_count hx
    have hyn := nm_count hy
    have hlen : y.length ≤ x.length := by
      have := hs.length_le
      simpa using this
    have nf : nm (fold (B nn)) = some (x.map fol) := by rw [nm_fold, hx]; rfl
    have hff : (x.map fol).map fol = x.map fol := by
      rw [List.map_map]
      exact List.map_congr_left (fun l _ => fol_fol l)
    obtain ⟨⟨n, e⟩, hS⟩ := Size_some st (mx (wrap64 ((x.length : Int) - (y.length : Int))) 1) c o
    by_cases he : e = 0
    · subst he
      have hp := Size_pos _ _ _ _ _ hS
      have whole : Ev (fun k => qmin_Next.f k nn t cut kn st fb sv tr c o) (mkB (fold (B nn)), t, 0) → Ev (fun k => (qmin_Next.f k nn t cut kn st fb sv tr c o).bind fun bt222 => ((wimplelaw0_Num.f bt222.2.2).bind fun t226 => (if t226 = 0 then ((wimpleref1_Above.f k bt222.1 nn).bind fun t227 => (if t227 = true then ((wimpleref1_Above.f k kn bt222.1).bind fun t228 => (if t228 = true then ((wimpleref1_Fold.f k bt222.1).bind fun t229 => (wimplelaw17_QminTells.j0 k c o (bt222.1.toList != t229.toList) nn t cut kn st fb sv tr bt222.1 bt222.2.1)) else (wimplelaw17_QminTells.j0 k c o true nn t cut kn st fb sv tr bt222.1 bt222.2.1))) else (wimplelaw17_QminTells.j0 k c o true nn t cut kn st fb sv tr bt222.1 bt222.2.1))) else (some (bt222.1.toList == ([] : List UInt8) && (bt222.2.1 == 0)))))) true := by
        intro hN
        have a1 := refAbove_ev (mkB (fold (B nn))) nn
        rw [B_mk, show aboveS (fold (B nn)) (B nn) = true from (aboveS_some nf hx).trans (decide_eq_true (by rw [hff]; exact List.suffix_refl _))] at a1
        have a2 := refAbove_ev kn (mkB (fold (B nn)))
        rw [B_mk, show aboveS (B kn) (fold (B nn)) = true from (aboveS_some hy nf).trans (decide_eq_true (by rw [hff]; exact hs))] at a2
        have a3 := refFold_ev (mkB (fold (B nn)))
        rw [B_mk, fold_fold] at a3
        have a4 := refSame_ev (mkB (fold (B nn))) nn
        rw [B_mk, show sameS (fold (B nn)) (B nn) = true from (sameS_some nf hx).trans (decide_eq_true hff)] at a4
        refine Ev.bind hN (Ev.bindp (num_eq _) (Ev.pos rfl (Ev.bind a1 (Ev.pos rfl (Ev.bind a2 (Ev.pos rfl (Ev.bind a3 ?_)))))))
        rw [show ((mkB (fold (B nn))).toList != (mkB (fold (B nn))).toList) = false by simp]
        refine Ev.step (fun k => by simp only [wimplelaw17_QminTells.j0]; rfl) ?_
        exact Ev.neg (by decide) (Ev.bind a4 (Ev.pos rfl (Ev.eq (Ev.pure _) (by simp))))
      cases fb with
      | true =>
        refine whole (Next_core nn t cut kn st true sv tr c o hA ht hx hy n 0 hS ?_)
        exact Ev.pos rfl (Ev.pos rfl (Ev.pure _))
      | false =>
        by_cases q : (y.length : Int) = (x.length : Int)
        · refine whole (Next_core nn t cut kn st false sv tr c o hA ht hx hy n 0 hS ?_)
          exact Ev.pos rfl (Ev.neg (by decide) (Ev.pos q (Ev.pure _)))
        · obtain ⟨i, rfl⟩ : ∃ i : Nat, n = (i : Int) := ⟨n.toNat, by omega⟩
          have hw : wrap64 ((y.length : Int) + (i : Int)) = ((y.length + i : Nat) : Int) := by rw [w64 _ (by omega)]; omega
          have hw2 : wrap64 ((x.length : Int) - (y.length : Int)) = ((x.length - y.length : Nat) : Int) := by rw [w64 _ (by omega)]; omega
          by_cases q2 : wrap64 ((y.length : Int) + (i : Int)) ≥ (x.length : Int)
          · refine whole (Next_core nn t cut kn st false sv tr c o hA ht hx hy i 0 hS ?_)
            exact Ev.pos rfl (Ev.neg (by decide) (Ev.neg q (Ev.pos q2 (Ev.pure _))))
          · have hfl : (x.map fol).length = x.length := List.length_map _
            rw [hw] at q2
            have hLast := Last_ev (mkB (fold (B nn))) ((y.length + i : Nat) : Int)
            rw [B_mk, lastS_some nf _ ⟨by omega, by rw [hfl]; omega⟩, Int.toNat_natCast, hfl] at hLast
            have nz : nm (wire ((x.map fol).drop (x.length - (y.length + i)))) = some ((x.map fol).drop (x.length - (y.length + i))) := nm_drop nf _
            have hlz : ((x.map fol).drop (x.length - (y.length + i))).length = y.length + i := by rw [List.length_drop, hfl]; omega
            have hzf : ((x.map fol).drop (x.length - (y.length + i))).map fol = (x.map fol).drop (x.length - (y.length + i)) := by rw [List.map_drop, hff]
            generalize hZ : (x.map fol).drop (x.length - (y.length + i)) = z at *
            have hN : Ev (fun k => qmin_Next.f k nn t cut kn st false sv tr c o) (mkB (wire z), 1, 0) := by
              refine Next_core nn t cut kn st false sv tr c o hA ht hx hy i 0 hS ?_
              rw [hw]
              exact Ev.pos rfl (Ev.neg (by decide) (Ev.neg q (Ev.neg q2 (Ev.bind hLast (Ev.pure _)))))
            have a1 := refAbove_ev (mkB (wire z)) nn
            rw [B_mk, show aboveS (wire z) (B nn) = true from (aboveS_some nz hx).trans (decide_eq_true (by rw [hzf, ← hZ]; exact List.drop_suffix _ _))] at a1
            have a2 := refAbove_ev kn (mkB (wire z))
            rw [B_mk, show aboveS (B kn) (wire z) = true from (aboveS_some hy nz).trans (decide_eq_true (by
              rw [hzf]
              refine List.suffix_of_suffix_length_le hs (by rw [← hZ]; exact List.drop_suffix _ _) ?_
              rw [hlz, List.length_map]
              omega))] at a2
            have a3 := refFold_ev (mkB (wire z))
            rw [B_mk, fold_some nz, hzf] at a3
            have a4 := refSame_ev (mkB (wire z)) nn
            rw [B_mk, show sameS (wire z) (B nn) = false from (sameS_some nz hx).trans (decide_eq_false (by
              intro e
              have := congrArg List.length e
              simp only [List.length_map, hlz] at this
              omega))] at a4
            have k1 := refCount_ev kn
            have k2 := refCount_ev nn
            have k3 := refCount_ev (mkB (wire z))
            rw [show cnt (B kn) = (y.length : Int) by unfold cnt; rw [hy]] at k1
            rw [show cnt (B nn) = (x.length : Int) by unfold cnt; rw [hx]] at k2
            rw [show cnt (B (mkB (wire z))) = ((y.length + i : Nat) : Int) by rw [B_mk]; unfold cnt; rw [nz]; show ((z.length : Nat) : Int) = _; rw [hlz]] at k3
            have hS' : qmin_Size.f st (wrap64 ((x.length : Int) - (y.length : Int))) c o = some ((i : Int), 0) := by
              rw [← hS, hw2]
              congr 1
              unfold mx
              split <;> omega
            refine Ev.bind hN (Ev.bindp (num_eq _) (Ev.pos rfl (Ev.bind a1 (Ev.pos rfl (Ev.bind a2 (Ev.pos rfl (Ev.bind a3 ?_)))))))
            rw [show ((mkB (wire z)).toList != (mkB (wire z)).toList) = false by simp]
            refine Ev.step (fun k => by simp only [wimplelaw17_QminTells.j0]; rfl) ?_
            refine Ev.neg (by decide) (Ev.bind a4 (Ev.neg (by decide) (Ev.bind k2 (Ev.bind k1 (Ev.bindp hS' (Ev.neg (by decide) (Ev.pos (by trivial) (Ev.bindp (num_eq _) (Ev.pos rfl (Ev.bind k3 (Ev.bind k1 ?_)))))))))))
            refine Ev.pos hw.symm (Ev.pos (by show (i : Int) ≥ 1; omega) (Ev.eq (Ev.pure _) ?_))
            refine decide_eq_true ?_
            rw [hw2]
            show (i : Int) < _
            omega
    · have hN : Ev (fun k => qmin_Next.f k nn t cut kn st fb sv tr c o) (mkB [], 0, e) := Next_core nn t cut kn st fb sv tr c o hA ht hx hy n e hS (Ev.neg he (Ev.pure _))
      exact Ev.bind hN (Ev.bindp (num_eq _) (Ev.neg he (Ev.eq (Ev.pure _) (by simp only [toL, B_mk]; decide))))
  · exact Ev.bind (Next_bad nn t cut kn st fb sv tr c o h) (Ev.bindp (num_eq _) (Ev.neg (by decide) (Ev.eq (Ev.pure _) (by simp only [toL, B_mk]; decide))))
end

theorem QminTells_pure (nn : ByteArray) (t : Int) (cut kn : ByteArray) (st : Int) (fb : Bool) (sv tr c o : Int) : ∃ k, wimplelaw17_QminTells.f k nn t cut kn st fb sv tr c o = some true := (QminTells_ev nn t cut kn st fb sv tr c o).rounds
end Go.Proofs.Ytbcflinledkgjaa.M

namespace Go.Proofs.Ytbcflinledkgjaa.Pure
open Go Go.Proofs.Ytbcflinledkgjaa.P
theorem QminTells (nn : ByteArray) (t : Int) (cut kn : ByteArray) (st : Int) (fb : Bool) (sv tr c o : Int) : ∃ k, wimplelaw17_QminTells.f k nn t cut kn st fb sv tr c o = some true :=
  Go.Proofs.Ytbcflinledkgjaa.M.QminTells_pure nn t cut kn st fb sv tr c o

end Go.Proofs.Ytbcflinledkgjaa.Pure
