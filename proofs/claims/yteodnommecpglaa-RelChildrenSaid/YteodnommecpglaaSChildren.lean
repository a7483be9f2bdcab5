/- RelChildren. -/
import Derived.Test.YteodnommecpglaaSAwake2
import Derived.Test.YteodnommecpglaaMBits
import Derived.Test.YteodnommecpglaaPx14

set_option linter.unusedVariables false
set_option linter.unusedSimpArgs false
namespace Go.Proofs.Yteodnommecpglaa.M
open Go Go.RowKit Go.Proofs.YteodnommecpglaaW.PrintWords Go.Proofs.Yteodnommecpglaa.P

theorem zeros_str (m : Nat) : strOfNums (List.replicate m 0) = mkB (List.replicate m 0) := by
  apply B_inj
  rw [B_strOfNums, B_mk, List.map_replicate]
  rfl

theorem RelChildren_ev (a : Int) (s : ByteArray) : Ev (fun q => wimplelaw2_RelChildren.f q a s) true := by
  obtain ⟨m, hm, hm2⟩ : ∃ m : Nat, a % 128 = (m : Int) ∧ m < 128 := ⟨(a % 128).toNat, by omega, by omega⟩
  have hC := Child_ev (mkB (List.replicate m 0)) s
  rw [B_mk] at hC
  have hl : (List.replicate m (0 : UInt8)).length = m := List.length_replicate
  have hM := refMay_ev s
  have hsz := sz s
  have hno (h : ¬ (1 ≤ m ∧ m ≤ 63 ∧ (nm (B s)).isSome = true ∧ m + 1 + (B s).length ≤ 255)) : childS (List.replicate m 0) (B s) = (mkB [], 200) := childS_no (by rw [hl]; exact h)
  have he : (mkB []).toList = ([] : List UInt8) := by rw [toL]; rfl
  unfold wimplelaw2_RelChildren.f
  simp only [and127, hm, Int.toNat_natCast, zeros_str]
  refine Ev.bind awake_ev (Ev.pos rfl (Ev.pos (by omega) (Ev.pos (by omega) (Ev.bind hC ?_))))
  by_cases c1 : (m : Int) ≥ 1
  · refine Ev.pos c1 ?_
    by_cases c2 : (m : Int) ≤ 63
    · refine Ev.pos c2 (Ev.bind hM ?_)
      cases h : nm (B s) with
      | none =>
        rw [hno (by rw [h]; simp)]
        exact Ev.neg (by simp) (Ev.bindp (num_eq _) (Ev.pos (by decide) (Ev.pos he (Ev.bindp (num_eq _) (Ev.pure _)))))
      | some ls =>
        have hn := nm_count h
        refine Ev.pos rfl (Ev.bindp (num_eq _) ?_)
        simp only [w_succ s.size (by omega), w_add (s.size + 1) m (by omega) (by omega)]
        by_cases c3 : s.size + 1 + m ≤ 255
        · have nx : nm (UInt8.ofNat m :: (List.replicate m 0 ++ B s)) = some (List.replicate m 0 :: ls) := nm_some.2 ⟨by
            intro q hq
            rcases List.mem_cons.1 hq with rfl | hq
            · rw [hl]; omega
            · exact (nm_some.1 h).1 q hq, by
            show UInt8.ofNat (List.replicate m (0 : UInt8)).length :: (List.replicate m 0 ++ wire ls) = _
            rw [hl, (nm_some.1 h).2.1], by
            simp only [List.length_cons, List.length_append, List.length_replicate]
            omega⟩
          have hA := Above_ev s (mkB (UInt8.ofNat m :: (List.replicate m 0 ++ B s)))
          rw [B_mk, show aboveS (B s) (UInt8.ofNat m :: (List.replicate m 0 ++ B s)) = true from (aboveS_some h nx).trans (decide_eq_true (List.suffix_cons _ _))] at hA
          rw [childS_yes (l := List.replicate m 0) (by rw [hl, h]; exact ⟨by omega, by omega, rfl, by omega⟩), hl]
          rw [show decide (((s.size + 1 + m : Nat) : Int) ≤ 255) = true from decide_eq_true (by omega)]
          refine Ev.pos rfl (Ev.pos (by omega) (Ev.pos ?_ (Ev.bind hA (Ev.pos rfl (Ev.pure _)))))
          rw [sz_mk]
          simp only [List.length_cons, List.length_append, List.length_replicate]
          omega
        · rw [hno (by omega)]
          rw [show decide (((s.size + 1 + m : Nat) : Int) ≤ 255) = false from decide_eq_false (by omega)]
          exact Ev.pos (by decide) (Ev.neg (by omega) (Ev.neg (by omega) (Ev.pos he (Ev.bindp (num_eq _) (Ev.pure _)))))
    · rw [hno (by omega)]
      exact Ev.neg c2 (Ev.bindp (num_eq _) (Ev.pos (by decide) (Ev.pos he (Ev.bindp (num_eq _) (Ev.pure _)))))
  · rw [hno (by omega)]
    exact Ev.neg c1 (Ev.bindp (num_eq _) (Ev.pos (by decide) (Ev.pos he (Ev.bindp (num_eq _) (Ev.pure _)))))

theorem RelChildren_pure : Go.Proofs.Yteodnommecpglaa.P.wimplelaw2_RelChildren.Pure := fun a0 a1 _ _ => (RelChildren_ev a0 a1).rounds
end Go.Proofs.Yteodnommecpglaa.M
