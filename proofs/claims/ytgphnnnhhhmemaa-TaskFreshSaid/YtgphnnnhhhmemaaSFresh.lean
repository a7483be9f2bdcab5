/- TaskFresh. -/
import Derived.Test.YtgphnnnhhhmemaaSAwake22
import Derived.Test.YtgphnnnhhhmemaaMBits
import Derived.Test.YtgphnnnhhhmemaaPx14
import Derived.Test.YtgphnnnhhhmemaaPx16

set_option linter.unusedVariables false
set_option linter.unusedSimpArgs false
namespace Go.Proofs.Ytgphnnnhhhmemaa.M
open Go Go.RowKit Go.Proofs.YtgphnnnhhhmemaaW.PrintWords Go.Proofs.Ytgphnnnhhhmemaa.P

/-- The reference's last labels of a name. -/
theorem rLast_ev (s : ByteArray) (ls : List Bytes) (h : nm (B s) = some ls) (j : Nat) (hj : j ≤ ls.length) : Ev (fun q => wimpleref1_Last.f q s (j : Int)) (mkB (wire (ls.drop (ls.length - j))), 0) := by
  have hM := refMay_ev s
  have hC := refCount_ev s
  rw [h] at hM
  have c : cnt (B s) = (ls.length : Int) := by unfold cnt; rw [h]
  rw [c] at hC
  unfold wimpleref1_Last.f
  exact Ev.bind hM (Ev.pos rfl (Ev.neg (by omega) (Ev.bind hC (Ev.neg (by omega) (Ev.bind (reflast_ev s ls h j hj) (Ev.pure _))))))

theorem above_drop {s : Bytes} {ls : List Bytes} (h : nm s = some ls) (i : Nat) : aboveS (wire (ls.drop i)) s = true := by
  rw [aboveS_some (nm_drop h i) h, List.map_drop]
  exact decide_eq_true (List.drop_suffix _ _)

theorem u64_small (n : Nat) (h : n ≤ 1000) : IntKind.u64.wrap (n : Int) = (n : Int) := by
  show (n : Int) % 18446744073709551616 = (n : Int)
  omega

theorem u64_pos (x : Int) : ∃ n : Nat, IntKind.u64.wrap x = (n : Int) := by
  refine ⟨(x % 18446744073709551616).toNat, ?_⟩
  show x % 18446744073709551616 = _
  omega

theorem w_nat2 (n : Nat) (h : n ≤ 1000000) : wrap64 ((n : Nat) : Int) = ((n : Nat) : Int) := w64 _ (by omega)

theorem TaskFresh_ev (n : ByteArray) (a1 a2 : Int) : Ev (fun q => wimplelaw22_TaskFresh.f q n a1 a2) true := by
  have hM := refMay_ev n
  have hC := refCount_ev n
  unfold wimplelaw22_TaskFresh.f
  refine Ev.bind awake_ev (Ev.pos rfl (Ev.bind hM ?_))
  cases h : nm (B n) with
  | none =>
    have h1 := New_ev n 1 (⟨#[0]⟩ : ByteArray)
    rw [newS_no (by rw [aboveS_right h]; simp)] at h1
    refine Ev.neg (by simp) (Ev.bind h1 (Ev.bindp (num_eq _) ?_))
    exact Ev.pure _
  | some ls =>
    have hn := nm_count h
    have c : cnt (B n) = (ls.length : Int) := by unfold cnt; rw [h]
    rw [c] at hC
    obtain ⟨u, hu⟩ := u64_pos a1
    obtain ⟨t, ht, ht2⟩ : ∃ j : Nat, a2 % 32768 = (j : Int) ∧ j < 32768 := ⟨(a2 % 32768).toNat, by omega, by omega⟩
    have hlt : u % (ls.length + 1) < ls.length + 1 := Nat.mod_lt _ (by omega)
    refine Ev.pos rfl (Ev.bind hC ?_)
    have ht' : wrap64 (1 + (t : Int)) = ((t + 1 : Nat) : Int) := by rw [w64 _ (by omega)]; omega
    simp only [w_succ ls.length (by omega), u64_small (ls.length + 1) (by omega), hu, show Int.tmod (u : Int) ((ls.length + 1 : Nat) : Int) = ((u % (ls.length + 1) : Nat) : Int) from (Int.ofNat_tmod u (ls.length + 1)).symm, w_nat2 (u % (ls.length + 1)) (by omega), and32767, ht, ht']
    clear ht'
    have hL := rLast_ev n ls h (u % (ls.length + 1)) (by omega)
    have hN := New_ev n ((t + 1 : Nat) : Int) (mkB (wire (ls.drop (ls.length - u % (ls.length + 1)))))
    rw [B_mk, newS_yes ⟨above_drop h _, by omega, by omega⟩] at hN
    have hF := refFold_ev n
    have hF2 := refFold_ev (mkB (wire (ls.drop (ls.length - u % (ls.length + 1)))))
    rw [B_mk] at hF2
    refine Ev.neg (by omega) (Ev.bind hL (Ev.bind hN (Ev.bindp (num_eq _) (Ev.pos rfl (Ev.bind hF (Ev.bind hF2 (Ev.bind hF2 (Ev.eq (Ev.pure _) ?_))))))))
    simp

theorem TaskFresh_pure : Go.Proofs.Ytgphnnnhhhmemaa.P.wimplelaw22_TaskFresh.Pure := fun a0 a1 a2 _ _ _ => (TaskFresh_ev a0 a1 a2).rounds
end Go.Proofs.Ytgphnnnhhhmemaa.M
