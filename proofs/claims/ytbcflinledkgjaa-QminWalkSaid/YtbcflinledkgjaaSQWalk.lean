/- QminWalk. -/
import Derived.Test.YtbcflinledkgjaaSQFull
import Derived.Test.YtbcflinledkgjaaPx19

set_option linter.unusedVariables false
set_option linter.unusedSimpArgs false
namespace Go.Proofs.Ytbcflinledkgjaa.M
open Go Go.RowKit Go.Proofs.YtbcflinledkgjaaW.PrintWords Go.Proofs.YtbcflinledkgjaaW.PrintMore Go.Proofs.Ytbcflinledkgjaa.P

/-- One call of Size inside a walk: as much as is left, or less. -/
theorem Size_step (st m c o : Int) (h1 : 0 ≤ st ∧ st ≤ 200) (h2 : 1 ≤ m ∧ m ≤ 200) (h3 : 0 ≤ c ∧ c < 16) (h4 : 0 ≤ o ∧ o < 16) :
    ∃ n, qmin_Size.f st m c o = some (n, 0) ∧ 1 ≤ n ∧ n ≤ m ∧ (m ≤ c - st → n = 1) ∧ (n < m → st < mx c o) := by
  by_cases q : st < o ∨ m ≤ c - st
  · refine ⟨1, Size_one st m c o (by omega) (by omega) (by omega) (by omega) q, by omega, by omega, fun _ => rfl, fun hn => ?_⟩
    unfold mx
    split <;> omega
  · by_cases q' : c ≤ st
    · exact ⟨m, Size_all st m c o (by omega) (by omega) (by omega) (by omega) q q', by omega, by omega, fun h => absurd (Or.inr h) q, fun hn => absurd hn (by omega)⟩
    · have P := part_facts m (c - st) (by omega) (by omega)
      have hS := Size_part st m c o (by omega) (by omega) (by omega) (by omega) q q'
      rw [show m + c - st - 1 = m + (c - st) - 1 by omega] at hS
      refine ⟨_, hS, P.1, P.2.1, fun h => absurd (Or.inr h) q, fun _ => ?_⟩
      unfold mx
      split <;> omega

theorem w_sub2 (j i : Nat) (h : j + i ≤ 1000) : wrap64 (((j + i : Nat) : Int) - (j : Int)) = (i : Int) := by rw [w64 _ (by omega)]; omega
theorem w_sub3 (n k : Nat) (h : n ≤ 1000) (h' : k ≤ 1000) : wrap64 ((n : Int) - (k : Int)) = (n : Int) - (k : Int) := w64 _ (by omega)

theorem Walk_l0 (s : ByteArray) (ls : List Bytes) (h : nm (B s) = some ls) (c o : Int) (hc : 0 ≤ c ∧ c < 16) (ho : 0 ≤ o ∧ o < 16) (cut : ByteArray) (k : Nat) (hk : k ≤ ls.length) : ∀ (d j st : Nat), ls.length - j = d → j ≤ ls.length → k + st ≤ j → (st : Int) ≤ mx c o →
    Ev (fun q => wimplelaw17_QminWalk.l0 q s (ls.length : Int) c o (k : Int) (st : Int) s 16 cut (mkB (wire ((ls.map fol).drop (ls.length - j)))) (st : Int) false 0 0) true := by
  have hn := nm_count h
  have hmx : mx c o ≤ 16 := by unfold mx; split <;> omega
  have hfl : (ls.map fol).length = ls.length := List.length_map _
  have nf : nm (fold (B s)) = some (ls.map fol) := by rw [nm_fold, h]; rfl
  intro d
  induction d using Nat.strongRecOn with
  | _ d ih =>
    intro j st hd hj hks hst
    have ny : nm (B (mkB (wire ((ls.map fol).drop (ls.length - j))))) = some ((ls.map fol).drop (ls.length - j)) := by
      rw [B_mk]
      exact nm_drop nf _
    have hA : aboveS (B (mkB (wire ((ls.map fol).drop (ls.length - j))))) (B s) = true := by
      rw [aboveS_some ny h]
      refine decide_eq_true ?_
      rw [List.map_drop, List.map_map, show ls.map (fol ∘ fol) = ls.map fol from List.map_congr_left (fun l _ => fol_fol l)]
      exact List.drop_suffix _ _
    have hlen : ((ls.map fol).drop (ls.length - j)).length = j := by rw [List.length_drop, hfl]; omega
    obtain ⟨m, hm, hm2, hm3⟩ : ∃ m : Int, mx (wrap64 ((ls.length : Int) - ((((ls.map fol).drop (ls.length - j))).length : Int))) 1 = m ∧ 1 ≤ m ∧ (m = (ls.length : Int) - (j : Int) ∨ j = ls.length ∧ m = 1) := by
      refine ⟨_, rfl, ?_⟩
      rw [hlen, w64 _ (by omega)]
      unfold mx
      split <;> omega
    obtain ⟨n, hS, n1, n2, n3, n4⟩ := Size_step (st : Int) m c o (by omega) (by omega) hc ho
    by_cases hdone : j = ls.length ∨ (j : Int) + n ≥ (ls.length : Int)
    · have hN : Ev (fun q => qmin_Next.f q s 16 cut (mkB (wire ((ls.map fol).drop (ls.length - j)))) (st : Int) false 0 0 c o) (mkB (fold (B s)), 16, 0) := by
        refine Next_core s 16 cut _ (st : Int) false 0 0 c o hA (by decide) h ny n 0 (by rw [hm]; exact hS) ?_
        rw [hlen, w64 ((j : Int) + n) (by omega)]
        refine Ev.pos rfl (Ev.neg (by decide) ?_)
        by_cases q : (j : Int) = (ls.length : Int)
        · exact Ev.pos q (Ev.pure _)
        · exact Ev.neg q (Ev.pos (by omega) (Ev.pure _))
      have hSm := refSame_ev (mkB (fold (B s))) s
      rw [B_mk, show sameS (fold (B s)) (B s) = true from (sameS_some nf h).trans (decide_eq_true (by
        rw [List.map_map]
        exact List.map_congr_left (fun l _ => fol_fol l)))] at hSm
      refine Ev.step (fun k => by simp only [wimplelaw17_QminWalk.l0]; rfl) ?_
      refine Ev.bind hN (Ev.bindp (num_eq _) ?_)
      refine Ev.pos rfl ?_
      rw [show decide ((st : Int) > (ls.length : Int)) = false from decide_eq_false (by omega)]
      refine Ev.step (fun k => by simp only [wimplelaw17_QminWalk.j1]; rfl) ?_
      refine Ev.neg (by decide) ?_
      refine Ev.bind hSm ?_
      exact Ev.pos rfl (Ev.eq (Ev.pure _) (decide_eq_true hst))
    · have hmj : m = (ls.length : Int) - (j : Int) := by omega
      obtain ⟨i, hi⟩ : ∃ i : Nat, n = (i : Int) := ⟨n.toNat, by omega⟩
      subst hi
      have hji : j + i < ls.length := by omega
      have hLast := Last_ev (mkB (fold (B s))) ((j + i : Nat) : Int)
      rw [B_mk, lastS_some nf _ ⟨by omega, by omega⟩, Int.toNat_natCast, hfl] at hLast
      have nz : nm (B (mkB (wire ((ls.map fol).drop (ls.length - (j + i)))))) = some ((ls.map fol).drop (ls.length - (j + i))) := by
        rw [B_mk]
        exact nm_drop nf _
      have hlz : ((ls.map fol).drop (ls.length - (j + i))).length = j + i := by rw [List.length_drop, hfl]; omega
      have hN : Ev (fun q => qmin_Next.f q s 16 cut (mkB (wire ((ls.map fol).drop (ls.length - j)))) (st : Int) false 0 0 c o) (mkB (wire ((ls.map fol).drop (ls.length - (j + i)))), 1, 0) := by
        refine Next_core s 16 cut _ (st : Int) false 0 0 c o hA (by decide) h ny (i : Int) 0 (by rw [hm]; exact hS) ?_
        rw [hlen, w64 ((j : Int) + (i : Int)) (by omega), show (j : Int) + (i : Int) = ((j + i : Nat) : Int) by omega]
        exact Ev.pos rfl (Ev.neg (by decide) (Ev.neg (by omega) (Ev.neg (by omega) (Ev.bind hLast (Ev.pure _)))))
      have hSm := refSame_ev (mkB (wire ((ls.map fol).drop (ls.length - (j + i))))) s
      rw [sameS_some nz h, show decide (((ls.map fol).drop (ls.length - (j + i))).map fol = ls.map fol) = false from decide_eq_false (by
        intro e
        have := congrArg List.length e
        simp only [List.length_map] at this
        omega)] at hSm
      have c1 := refCount_ev (mkB (wire ((ls.map fol).drop (ls.length - (j + i)))))
      rw [show cnt (B (mkB (wire ((ls.map fol).drop (ls.length - (j + i)))))) = ((j + i : Nat) : Int) by unfold cnt; rw [nz]; show ((((ls.map fol).drop (ls.length - (j + i))).length : Nat) : Int) = _; rw [hlz]] at c1
      have c2 := refCount_ev (mkB (wire ((ls.map fol).drop (ls.length - j))))
      rw [show cnt (B (mkB (wire ((ls.map fol).drop (ls.length - j))))) = ((j : Nat) : Int) by unfold cnt; rw [ny]; show ((((ls.map fol).drop (ls.length - j)).length : Nat) : Int) = _; rw [hlen]] at c2
      have hnext := ih (ls.length - (j + i)) (by omega) (j + i) (st + 1) rfl (by omega) (by omega) (by
        have := n4 (by omega)
        omega)
      refine Ev.step (fun k => by simp only [wimplelaw17_QminWalk.l0]; rfl) ?_
      refine Ev.bind hN (Ev.bindp (num_eq _) ?_)
      refine Ev.pos rfl ?_
      rw [show decide ((st : Int) > (ls.length : Int)) = false from decide_eq_false (by omega)]
      refine Ev.step (fun k => by simp only [wimplelaw17_QminWalk.j1]; rfl) ?_
      refine Ev.neg (by decide) ?_
      refine Ev.bind hSm (Ev.neg (by decide) (Ev.bind c1 (Ev.bind c2 ?_)))
      simp only [w_sub2 j i (by omega), w_sub3 ls.length k (by omega) (by omega), w_succ st (by omega)]
      refine Ev.neg (by omega) ?_
      by_cases q : (ls.length : Int) - (k : Int) ≤ c
      · exact Ev.pos q (Ev.pos (n3 (by omega)) hnext)
      · exact Ev.neg q hnext

theorem QminWalk_ev (s : ByteArray) (a1 a2 a3 : Int) : Ev (fun q => wimplelaw17_QminWalk.f q s a1 a2 a3) true := by
  have hM := refMay_ev s
  have hC := refCount_ev s
  unfold wimplelaw17_QminWalk.f
  refine Ev.bind awake_ev (Ev.pos rfl (Ev.bind hM ?_))
  cases h : nm (B s) with
  | none => exact Ev.neg (by simp) (Ev.pure _)
  | some ls =>
    have hn := nm_count h
    have c : cnt (B s) = (ls.length : Int) := by unfold cnt; rw [h]
    rw [c] at hC
    obtain ⟨u, hu⟩ := u64_pos a1
    obtain ⟨cc, hc, hc2⟩ : ∃ n : Int, a2 % 16 = n ∧ 0 ≤ n ∧ n < 16 := ⟨_, rfl, by omega, by omega⟩
    obtain ⟨o, ho, ho2⟩ : ∃ n : Int, a3 % 16 = n ∧ 0 ≤ n ∧ n < 16 := ⟨_, rfl, by omega, by omega⟩
    have hlt : u % (ls.length + 1) < ls.length + 1 := Nat.mod_lt _ (by omega)
    refine Ev.pos rfl (Ev.bind hC ?_)
    simp only [and15, hc, ho, w_succ ls.length (by omega), u64_small (ls.length + 1) (by omega), hu, show Int.tmod (u : Int) ((ls.length + 1 : Nat) : Int) = ((u % (ls.length + 1) : Nat) : Int) from (Int.ofNat_tmod u (ls.length + 1)).symm, w_nat2 (u % (ls.length + 1)) (by omega)]
    have nf : nm (fold (B s)) = some (ls.map fol) := by rw [nm_fold, h]; rfl
    have hL := refLast_ev (mkB (fold (B s))) ((u % (ls.length + 1) : Nat) : Int)
    rw [B_mk, lastS_some nf _ ⟨by omega, by rw [List.length_map]; omega⟩, Int.toNat_natCast, List.length_map] at hL
    refine Ev.neg (by omega) (Ev.bind (refFold_ev s) (Ev.bind hL ?_))
    exact Walk_l0 s ls h cc o hc2 ho2 _ (u % (ls.length + 1)) (by omega) _ (u % (ls.length + 1)) 0 rfl (by omega) (by omega) (by unfold mx; split <;> omega)

theorem QminWalk_pure : Go.Proofs.Ytbcflinledkgjaa.P.wimplelaw17_QminWalk.Pure := fun a0 a1 a2 a3 _ _ _ _ => (QminWalk_ev a0 a1 a2 a3).rounds
end Go.Proofs.Ytbcflinledkgjaa.M
