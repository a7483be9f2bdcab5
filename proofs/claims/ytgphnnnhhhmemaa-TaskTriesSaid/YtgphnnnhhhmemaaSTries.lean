/- TaskTries. -/
import Derived.Test.YtgphnnnhhhmemaaSAwake22
import Derived.Test.YtgphnnnhhhmemaaMBits
import Derived.Test.YtgphnnnhhhmemaaPx12

set_option linter.unusedVariables false
set_option linter.unusedSimpArgs false
namespace Go.Proofs.Ytgphnnnhhhmemaa.M
open Go Go.RowKit Go.Proofs.YtgphnnnhhhmemaaW.PrintWords Go.Proofs.Ytgphnnnhhhmemaa.P

theorem tmod_nat (i k : Nat) : Int.tmod (i : Int) (k : Int) = ((i % k : Nat) : Int) := (Int.ofNat_tmod i k).symm
theorem w_mul (k m : Nat) (hk : k ≤ 1000) (hm : m ≤ 1000) : wrap64 ((k : Int) * (m : Int)) = ((k * m : Nat) : Int) := by
  have : k * m ≤ 1000 * 1000 := Nat.mul_le_mul hk hm
  have e : ((k * m : Nat) : Int) = (k : Int) * (m : Int) := Int.natCast_mul k m
  rw [← e, w64 _ (by omega)]

theorem Tries_end (k m : Nat) (hk : k ≤ 1000) (hm : m ≤ 1000) (n : ByteArray) (t : Int) (c kn : ByteArray) (st : Int) (fb : Bool) (sv tr : Int) : Ev (fun q => wimplelaw22_TaskTries.l0 q (k : Int) (m : Int) 0 ((k * m + 1 : Nat) : Int) n t c kn st fb sv tr) true := by
  refine Ev.step (fun k => by simp only [wimplelaw22_TaskTries.l0]; rfl) ?_
  simp only [w_mul k m hk hm]
  exact Ev.neg (by omega) (Ev.bindp (num_eq _) (Ev.pure _))

theorem Tries_l0 (k m : Nat) (hk0 : 1 ≤ k) (hk : k ≤ 1000) (hm : m ≤ 1000) (n : ByteArray) (t : Int) (c kn : ByteArray) (fb : Bool) : ∀ (d s q : Nat), k * m - (q * k + s + 1) = d → s < k → q < m →
    Ev (fun f => wimplelaw22_TaskTries.l0 f (k : Int) (m : Int) 0 ((q * k + s + 1 : Nat) : Int) n t c kn 0 fb (s : Int) (q : Int)) true := by
  intro d
  induction d with
  | zero =>
    intro s q hd hs hq
    have hle : (q + 1) * k ≤ m * k := Nat.mul_le_mul_right k hq
    rw [Nat.succ_mul, Nat.mul_comm m k] at hle
    have hi : q * k + s + 1 = k * m := by omega
    have hs' : s + 1 = k := by omega
    have hq' : q + 1 = m := by
      rcases Nat.lt_or_ge (q + 1) m with h | h
      · have := Nat.mul_le_mul_right k h
        rw [Nat.succ_mul, Nat.succ_mul, Nat.mul_comm m k] at this
        omega
      · omega
    have hL := Lost_ev n t c kn 0 fb (s : Int) (q : Int) (k : Int) (m : Int) (by omega)
    rw [show lostS n t c kn 0 fb (s : Int) (q : Int) (k : Int) (m : Int) = (n, t, c, kn, 0, fb, (k : Int), (q : Int) + 1, 2, 0) from (if_neg (by omega)).trans (if_neg (by omega))] at hL
    have hE := Tries_end k m hk hm n t c kn 0 fb (k : Int) ((q : Int) + 1)
    rw [hi]
    refine Ev.step (fun k => by simp only [wimplelaw22_TaskTries.l0]; rfl) ?_
    simp only [w_mul k m hk hm]
    refine Ev.pos (by omega) (Ev.bind hL (Ev.neg (by omega) (Ev.pos (by trivial) (Ev.bindp (num_eq _) (Ev.pos rfl (Ev.pos rfl (Ev.pos rfl (Ev.pos rfl (Ev.pos rfl (Ev.pos rfl ?_))))))))))
    have hkm : k * m ≤ 1000 * 1000 := Nat.mul_le_mul hk hm
    simp only [w_succ (k * m) (by omega)]
    exact hE
  | succ d ih =>
    intro s q hd hs hq
    have hkm : k * m ≤ 1000 * 1000 := Nat.mul_le_mul hk hm
    have hle : (q + 1) * k ≤ m * k := Nat.mul_le_mul_right k hq
    rw [Nat.succ_mul, Nat.mul_comm m k] at hle
    have hlt : q * k + s + 1 < k * m := by omega
    have hL := Lost_ev n t c kn 0 fb (s : Int) (q : Int) (k : Int) (m : Int) (by omega)
    refine Ev.step (fun k => by simp only [wimplelaw22_TaskTries.l0]; rfl) ?_
    simp only [w_mul k m hk hm, tmod_nat]
    refine Ev.pos (by omega) ?_
    by_cases h : s + 1 < k
    · rw [show lostS n t c kn 0 fb (s : Int) (q : Int) (k : Int) (m : Int) = (n, t, c, kn, 0, fb, (s : Int) + 1, (q : Int), 0, 0) from if_pos (by omega)] at hL
      have ih := ih (s + 1) q (by omega) h hq
      have hmod : (q * k + s + 1) % k = s + 1 := by
        rw [Nat.add_assoc, Nat.mul_comm, Nat.mul_add_mod]
        exact Nat.mod_eq_of_lt h
      refine Ev.bind hL (Ev.neg (by omega) (Ev.neg (by omega) (Ev.bindp (num_eq _) (Ev.pos rfl (Ev.pos rfl (Ev.pos (by rw [hmod]; show (s : Int) + 1 = _; omega) (Ev.pos rfl (Ev.pos rfl (Ev.pos rfl ?_)))))))))
      simp only [w_succ (q * k + s + 1) (by omega)]
      exact ih
    · have hs' : s + 1 = k := by omega
      have hq' : q + 1 < m := by
        rcases Nat.lt_or_ge (q + 1) m with h | h
        · exact h
        · have e : q + 1 = m := by omega
          have : k * m = q * k + k := by rw [← e, Nat.mul_comm, Nat.succ_mul]
          omega
      rw [show lostS n t c kn 0 fb (s : Int) (q : Int) (k : Int) (m : Int) = (n, t, c, kn, 0, fb, 0, (q : Int) + 1, 0, 0) from (if_neg (by omega)).trans (if_pos (by omega))] at hL
      have ih := ih 0 (q + 1) (by rw [Nat.succ_mul]; omega) (by omega) hq'
      have hmod : (q * k + s + 1) % k = 0 := by
        rw [Nat.add_assoc, hs', Nat.mul_comm, Nat.mul_add_mod, Nat.mod_self]
      refine Ev.bind hL (Ev.neg (by omega) (Ev.neg (by omega) (Ev.bindp (num_eq _) (Ev.pos rfl (Ev.pos rfl (Ev.pos (by rw [hmod]; rfl) (Ev.pos rfl (Ev.pos rfl (Ev.pos rfl ?_)))))))))
      simp only [w_succ (q * k + s + 1) (by omega)]
      rw [show (q + 1) * k + 0 + 1 = q * k + s + 1 + 1 by rw [Nat.succ_mul]; omega] at ih
      exact ih

theorem TaskTries_ev (a b : Int) : Ev (fun q => wimplelaw22_TaskTries.f q a b) true := by
  obtain ⟨k, hk, hk2⟩ : ∃ n : Nat, a % 16 = (n : Int) ∧ n < 16 := ⟨(a % 16).toNat, by omega, by omega⟩
  obtain ⟨m, hm, hm2⟩ : ∃ n : Nat, b % 8 = (n : Int) ∧ n < 8 := ⟨(b % 8).toNat, by omega, by omega⟩
  have h1 := New_ev (⟨#[1, 97, 0]⟩ : ByteArray) 1 (⟨#[0]⟩ : ByteArray)
  have nA : nm [1, 97, 0] = some [[97]] := nm_some.2 ⟨good_of (by decide), by decide, by decide⟩
  rw [newS_yes ⟨(aboveS_some nm_root nA).trans (by decide), by decide, by decide⟩] at h1
  unfold wimplelaw22_TaskTries.f
  simp only [and15, and7, hk, hm]
  rw [show (1 : Int) + (k : Int) = (k : Int) + 1 by omega, show (1 : Int) + (m : Int) = (m : Int) + 1 by omega]
  simp only [w_succ k (by omega), w_succ m (by omega)]
  refine Ev.bind awake_ev (Ev.pos rfl (Ev.bind h1 ?_))
  have := Tries_l0 (k + 1) (m + 1) (by omega) (by omega) (by omega) (mkB (fold (B ⟨#[1, 97, 0]⟩))) 1 (mkB (fold (B ⟨#[0]⟩))) (mkB (fold (B ⟨#[0]⟩))) false _ 0 0 rfl (by omega) (by omega)
  rw [show 0 * (k + 1) + 0 + 1 = 1 by omega] at this
  exact this

theorem TaskTries_pure : Go.Proofs.Ytgphnnnhhhmemaa.P.wimplelaw22_TaskTries.Pure := fun a0 a1 _ _ => (TaskTries_ev a0 a1).rounds
end Go.Proofs.Ytgphnnnhhhmemaa.M
