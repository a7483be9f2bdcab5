/- TaskWalk. -/
import Derived.Test.YtgphnnnhhhmemaaSRLast
import Derived.Test.YtgphnnnhhhmemaaPx23

set_option linter.unusedVariables false
set_option linter.unusedSimpArgs false
namespace Go.Proofs.Ytgphnnnhhhmemaa.M
open Go Go.RowKit Go.Proofs.YtgphnnnhhhmemaaW.PrintWords Go.Proofs.Ytgphnnnhhhmemaa.P

theorem Walk_l0 (n : ByteArray) (ls : List Bytes) (h : nm (B n) = some ls) (a1 : Int) (nn : ByteArray) (ty : Int) (c : ByteArray) (sv tr : Int) : ∀ (d i : Nat), ls.length - i = d → i ≤ ls.length →
    Ev (fun q => wimplelaw22_TaskWalk.l0 q n a1 0 (ls.length : Int) ((i + 1 : Nat) : Int) nn ty c (mkB (fold (wire (ls.drop (ls.length - i))))) (i : Int) false sv tr) true := by
  have hn := nm_count h
  intro d
  induction d with
  | zero =>
    intro i hd hi
    obtain rfl : i = ls.length := by omega
    refine Ev.step (fun k => by simp only [wimplelaw22_TaskWalk.l0]; rfl) ?_
    refine Ev.neg (by omega) (Ev.bindp (num_eq _) (Ev.pos rfl (Ev.bind (refFold_ev n) (Ev.pos ?_ (Ev.eq (Ev.pure _) ?_)))))
    · rw [Nat.sub_self, List.drop_zero, (nm_some.1 h).2.1]
    · simp
  | succ d ih =>
    intro i hd hi
    have ih := ih (i + 1) (by omega) (by omega)
    have hL := rLast_ev n ls h (i + 1) (by omega)
    refine Ev.step (fun k => by simp only [wimplelaw22_TaskWalk.l0]; rfl) ?_
    refine Ev.pos (by omega) (Ev.bind hL ?_)
    by_cases hb : ((i + 1 : Nat) : Int) = Go.bits .and .i64 a1 15
    · have hT := Take2_ev nn ty c (mkB (fold (wire (ls.drop (ls.length - i))))) (i : Int) false sv tr (mkB (wire (ls.drop (ls.length - (i + 1))))) 1
      refine Ev.pos hb (Ev.step (fun k => by simp only [wimplelaw22_TaskWalk.j1]; rfl) ?_)
      refine Ev.bind hT (Ev.bindp (num_eq _) ?_)
      refine Ev.pos rfl ?_
      refine Ev.step (fun k => by simp only [wimplelaw22_TaskWalk.j2]; rfl) ?_
      refine Ev.neg (by decide) ?_
      refine Ev.pos (by trivial) ?_
      refine Ev.pos (by first | rfl | trivial) ?_
      refine Ev.pos (by first | rfl | trivial) ?_
      exact Ev.eq (Ev.pure _) (by simp)
    · have hT := Take3_ev nn ty c (mkB (fold (wire (ls.drop (ls.length - i))))) (i : Int) false sv tr (mkB (wire (ls.drop (ls.length - (i + 1))))) 1
      rw [w_succ i (by omega), B_mk] at hT
      have hF := refFold_ev (mkB (wire (ls.drop (ls.length - (i + 1)))))
      rw [B_mk] at hF
      refine Ev.neg hb (Ev.step (fun k => by simp only [wimplelaw22_TaskWalk.j1]; rfl) ?_)
      refine Ev.bind hT (Ev.bindp (num_eq _) ?_)
      refine Ev.pos rfl ?_
      refine Ev.step (fun k => by simp only [wimplelaw22_TaskWalk.j2]; rfl) ?_
      refine Ev.neg (by decide) ?_
      refine Ev.neg (by decide) ?_
      refine Ev.bind hF ?_
      refine Ev.pos (by first | rfl | trivial) ?_
      refine Ev.pos (by first | rfl | trivial) ?_
      refine Ev.neg (by decide) ?_
      simp only [w_succ (i + 1) (by omega)]
      exact ih

theorem TaskWalk_ev (n : ByteArray) (a1 : Int) : Ev (fun q => wimplelaw22_TaskWalk.f q n a1) true := by
  have hM := refMay_ev n
  have hC := refCount_ev n
  unfold wimplelaw22_TaskWalk.f
  refine Ev.bind awake_ev (Ev.pos rfl (Ev.bind hM ?_))
  cases h : nm (B n) with
  | none => exact Ev.neg (by simp) (Ev.pure _)
  | some ls =>
    have c : cnt (B n) = (ls.length : Int) := by unfold cnt; rw [h]
    rw [c] at hC
    have hN := New_ev n 15 (⟨#[0]⟩ : ByteArray)
    rw [newS_yes ⟨(aboveS_some nm_root h).trans (decide_eq_true List.nil_suffix), by decide, by decide⟩] at hN
    have := Walk_l0 n ls h a1 (mkB (fold (B n))) 15 (mkB (fold (B ⟨#[0]⟩))) 0 0 _ 0 rfl (by omega)
    rw [Nat.sub_zero, List.drop_length] at this
    exact Ev.pos rfl (Ev.bind hN (Ev.bind hC this))

theorem TaskWalk_pure : Go.Proofs.Ytgphnnnhhhmemaa.P.wimplelaw22_TaskWalk.Pure := fun a0 a1 _ _ => (TaskWalk_ev a0 a1).rounds
end Go.Proofs.Ytgphnnnhhhmemaa.M
