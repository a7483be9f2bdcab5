/- QminFull. -/
import Derived.Test.YtbcflinledkgjaaSQmin
import Derived.Test.YtbcflinledkgjaaPx14
import Derived.Test.YtbcflinledkgjaaPx22

set_option linter.unusedVariables false
set_option linter.unusedSimpArgs false
namespace Go.Proofs.Ytbcflinledkgjaa.M
open Go Go.RowKit Go.Proofs.YtbcflinledkgjaaW.PrintWords Go.Proofs.YtbcflinledkgjaaW.PrintMore Go.Proofs.Ytbcflinledkgjaa.P

theorem u64_small (n : Nat) (h : n ≤ 1000) : IntKind.u64.wrap (n : Int) = (n : Int) := by
  show (n : Int) % 18446744073709551616 = (n : Int)
  omega

theorem u64_pos (x : Int) : ∃ n : Nat, IntKind.u64.wrap x = (n : Int) := by
  refine ⟨(x % 18446744073709551616).toNat, ?_⟩
  show x % 18446744073709551616 = _
  omega

theorem w_nat2 (n : Nat) (h : n ≤ 1000000) : wrap64 ((n : Nat) : Int) = ((n : Nat) : Int) := w64 _ (by omega)

theorem Full_j0 (s : ByteArray) (ls : List Bytes) (h : nm (B s) = some ls) (x1 x2 : Int) (fb : Bool) (j : Nat) (hj : j ≤ ls.length) (hf : fb = true ∨ j = ls.length) : Ev (fun q => wimplelaw17_QminFull.j0 q s x1 x2 fb (j : Int)) true := by
  have hn := nm_count h
  obtain ⟨c, hc, hc2⟩ : ∃ n : Int, x1 % 16 = n ∧ 0 ≤ n ∧ n < 16 := ⟨_, rfl, by omega, by omega⟩
  obtain ⟨o, ho, ho2⟩ : ∃ n : Int, x2 % 16 = n ∧ 0 ≤ n ∧ n < 16 := ⟨_, rfl, by omega, by omega⟩
  obtain ⟨t, ht, ht2⟩ : ∃ n : Int, x2 % 1024 = n ∧ 0 ≤ n ∧ n < 1024 := ⟨_, rfl, by omega, by omega⟩
  obtain ⟨st, hst, hst2⟩ : ∃ n : Int, (x2 / 1024) % 32 = n ∧ 0 ≤ n ∧ n < 32 := ⟨_, rfl, by omega, by omega⟩
  have hL := refLast_ev s (j : Int)
  rw [lastS_some h _ ⟨by omega, by omega⟩, Int.toNat_natCast] at hL
  have ny := nm_drop h (ls.length - j)
  have hA : aboveS (B (mkB (wire (ls.drop (ls.length - j))))) (B s) = true := by
    rw [B_mk, aboveS_some ny h, List.map_drop]
    exact decide_eq_true (List.drop_suffix _ _)
  have hF := refFold_ev s
  have hlen : (ls.drop (ls.length - j)).length = j := by rw [List.length_drop]; omega
  obtain ⟨mm, hmm, hmm2⟩ : ∃ mm : Int, mx (wrap64 ((ls.length : Int) - ((ls.drop (ls.length - j)).length : Int))) 1 = mm ∧ 1 ≤ mm ∧ mm ≤ 1000 := by
    refine ⟨_, rfl, ?_⟩
    rw [hlen, w64 _ (by omega)]
    unfold mx
    split <;> omega
  obtain ⟨n, hS⟩ : ∃ n : Int, qmin_Size.f st mm c o = some (n, 0) := by
    by_cases q : st < o ∨ mm ≤ c - st
    · exact ⟨_, Size_one st mm c o (by omega) hmm2 (by omega) (by omega) q⟩
    · by_cases q' : c ≤ st
      · exact ⟨_, Size_all st mm c o (by omega) hmm2 (by omega) (by omega) q q'⟩
      · exact ⟨_, Size_part st mm c o (by omega) hmm2 (by omega) (by omega) q q'⟩
  have hN : Ev (fun k => qmin_Next.f k s (1 + t) (⟨#[]⟩ : ByteArray) (mkB (wire (ls.drop (ls.length - j)))) st fb 0 0 c o) (mkB (fold (B s)), 1 + t, 0) := by
    refine Next_core s (1 + t) (⟨#[]⟩ : ByteArray) (mkB (wire (ls.drop (ls.length - j)))) st fb 0 0 c o hA (by omega) h (by rw [B_mk]; exact ny) n 0 (by rw [hmm]; exact hS) ?_
    refine Ev.pos rfl ?_
    rcases hf with hf | hf
    · exact Ev.pos hf (Ev.pure _)
    · cases fb with
      | true => exact Ev.pos rfl (Ev.pure _)
      | false => exact Ev.neg (by decide) (Ev.pos (by omega) (Ev.pure _))
  refine Ev.step (fun k => by simp only [wimplelaw17_QminFull.j0]; rfl) ?_
  simp only [and15, and31, and1023, hc, ho, ht, hst, w64 (1 + t) (by omega)]
  refine Ev.bind hL (Ev.bind hN (Ev.bindp (num_eq _) (Ev.pos rfl (Ev.bind hF (Ev.eq (Ev.pure _) ?_)))))
  simp

theorem QminFull_ev (s : ByteArray) (x1 x2 : Int) (fb : Bool) : Ev (fun q => wimplelaw17_QminFull.f q s x1 x2 fb) true := by
  have hM := refMay_ev s
  have hC := refCount_ev s
  unfold wimplelaw17_QminFull.f
  refine Ev.bind awake_ev (Ev.pos rfl (Ev.bind hM ?_))
  cases h : nm (B s) with
  | none => exact Ev.neg (by simp) (Ev.pure _)
  | some ls =>
    have hn := nm_count h
    have c : cnt (B s) = (ls.length : Int) := by unfold cnt; rw [h]
    rw [c] at hC
    refine Ev.pos rfl (Ev.bind hC ?_)
    cases fb with
    | true =>
      obtain ⟨u, hu⟩ := u64_pos x1
      have hlt : u % (ls.length + 1) < ls.length + 1 := Nat.mod_lt _ (by omega)
      simp only [w_succ ls.length (by omega), u64_small (ls.length + 1) (by omega), hu, show Int.tmod (u : Int) ((ls.length + 1 : Nat) : Int) = ((u % (ls.length + 1) : Nat) : Int) from (Int.ofNat_tmod u (ls.length + 1)).symm, w_nat2 (u % (ls.length + 1)) (by omega)]
      exact Ev.pos (by trivial) (Ev.neg (by omega) (Full_j0 s ls h x1 x2 true _ (by omega) (Or.inl rfl)))
    | false => exact Ev.neg (by decide) (Full_j0 s ls h x1 x2 false _ (Nat.le_refl _) (Or.inr rfl))

theorem QminFull_pure : Go.Proofs.Ytbcflinledkgjaa.P.wimplelaw17_QminFull.Pure := by
  intro a0 a1 a2 a3
  intros
  exact (QminFull_ev a0 a1 a2 a3).rounds
end Go.Proofs.Ytbcflinledkgjaa.M
