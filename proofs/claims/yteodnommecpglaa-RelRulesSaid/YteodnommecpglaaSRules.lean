/- RelRules. -/
import Derived.Test.YteodnommecpglaaSAwake2
import Derived.Test.YteodnommecpglaaPx10

set_option linter.unusedVariables false
set_option linter.unusedSimpArgs false
namespace Go.Proofs.Yteodnommecpglaa.M
open Go Go.RowKit Go.Proofs.YteodnommecpglaaW.PrintWords Go.Proofs.Yteodnommecpglaa.P

theorem Rules_j3 (a b c : ByteArray) (x y z : List Bytes) (ha : nm (B a) = some x) (hb : nm (B b) = some y) (hc : nm (B c) = some z) : Ev (fun q => wimplelaw2_RelRules.j3 q a b c false) true := by
  have h1 := Above_ev a b
  have h2 := Above_ev b c
  have h3 := Above_ev a c
  rw [aboveS_some ha hb] at h1
  rw [aboveS_some hb hc] at h2
  rw [aboveS_some ha hc] at h3
  refine Ev.step (fun k => by simp only [wimplelaw2_RelRules.j3]; rfl) (Ev.neg (by decide) (Ev.bind h1 ?_))
  by_cases q1 : x.map fol <:+ y.map fol
  · refine Ev.pos (decide_eq_true q1) (Ev.bind h2 ?_)
    by_cases q2 : y.map fol <:+ z.map fol
    · exact Ev.pos (decide_eq_true q2) (Ev.bind h3 (Ev.eq (Ev.pure _) (decide_eq_true (q1.trans q2))))
    · exact Ev.neg (by rw [decide_eq_true_eq]; exact q2) (Ev.pure _)
  · exact Ev.neg (by rw [decide_eq_true_eq]; exact q1) (Ev.pure _)

theorem Rules_j2 (a b c : ByteArray) (x y z : List Bytes) (ha : nm (B a) = some x) (hb : nm (B b) = some y) (hc : nm (B c) = some z) : Ev (fun q => wimplelaw2_RelRules.j2 q a b c false) true := by
  have h3 := Rules_j3 a b c x y z ha hb hc
  refine Ev.step (fun k => by simp only [wimplelaw2_RelRules.j2]; rfl) (Ev.neg (by decide) (Ev.bind (Compare_ev a b) ?_))
  by_cases q1 : cmpR (rl (B a)) (rl (B b)) ≤ 0
  · refine Ev.pos q1 (Ev.bind (Compare_ev b c) ?_)
    by_cases q2 : cmpR (rl (B b)) (rl (B c)) ≤ 0
    · refine Ev.pos q2 (Ev.bind (Compare_ev a c) ?_)
      have q3 := cmpR_trans _ _ _ q1 q2
      rw [show decide (cmpR (rl (B a)) (rl (B c)) > 0) = false from decide_eq_false (by omega)]
      exact h3
    · exact Ev.neg q2 h3
  · exact Ev.neg q1 h3

theorem Rules_t (a b c : ByteArray) : Ev (fun q => wimplelaw2_RelRules.j1 q a b c true) true := by
  refine Ev.step (fun k => by simp only [wimplelaw2_RelRules.j1]; rfl) ?_
  exact Ev.pos (by trivial) (Ev.pure _)

theorem wrap_neg (x : Int) (h : x = -1 ∨ x = 0 ∨ x = 1) : wrap64 (-x) = -x := w64 _ (by omega)

theorem Rules_j1 (a b c : ByteArray) (x y z : List Bytes) (ha : nm (B a) = some x) (hb : nm (B b) = some y) (hc : nm (B c) = some z) : Ev (fun q => wimplelaw2_RelRules.j1 q a b c false) true := by
  have h3 := Rules_j2 a b c x y z ha hb hc
  have hab := Compare_ev a b
  have hba := Compare_ev b a
  have hs := Same_ev a b
  rw [same_cmp ha hb] at hs
  have hA := Above_ev (⟨#[0]⟩ : ByteArray) a
  rw [show aboveS (B ⟨#[0]⟩) (B a) = true from (aboveS_some nm_root ha).trans (decide_eq_true (List.nil_suffix))] at hA
  have hF := Fold_ev a
  have hFF := Fold_ev (mkB (fold (B a)))
  rw [B_mk, fold_fold] at hFF
  have hSF := Same_ev a (mkB (fold (B a)))
  have nf := nm_fold (B a)
  rw [ha] at nf
  rw [B_mk, show sameS (B a) (fold (B a)) = true from (sameS_some ha nf).trans (decide_eq_true (by
    rw [List.map_map]
    exact List.map_congr_left (fun l _ => (fol_fol l).symm)))] at hSF
  refine Ev.step (fun k => by simp only [wimplelaw2_RelRules.j1]; rfl) (Ev.neg (by decide) (Ev.bind hab (Ev.bind hba (Ev.pos ?_ ?_))))
  · rw [wrap_neg _ (cmpR_range _ _)]
    exact cmpR_neg _ _
  · refine Ev.bind hs (Ev.bind hab (Ev.neg ?_ (Ev.bind hA (Ev.pos rfl (Ev.bind hF (Ev.bind hFF (Ev.bind hF (Ev.pos rfl (Ev.bind hF (Ev.bind hSF h3))))))))))
    rw [show decide (cmpR (rl (B a)) (rl (B b)) = 0) = (cmpR (rl (B a)) (rl (B b)) == 0) from rfl]
    simp

theorem Rules_j0 (a b c : ByteArray) : Ev (fun q => wimplelaw2_RelRules.j0 q a b c) true := by
  have hA := refMay_ev a
  have hB := refMay_ev b
  have hC := refMay_ev c
  refine Ev.step (fun k => by simp only [wimplelaw2_RelRules.j0]; rfl) (Ev.bind hA ?_)
  cases ha : nm (B a) with
  | none => exact Ev.neg (by simp) (Rules_t a b c)
  | some x =>
    refine Ev.pos rfl (Ev.bind hB ?_)
    cases hb : nm (B b) with
    | none => exact Ev.neg (by simp) (Rules_t a b c)
    | some y =>
      refine Ev.pos rfl (Ev.bind hC ?_)
      cases hc : nm (B c) with
      | none => exact Rules_t a b c
      | some z => exact Rules_j1 a b c x y z ha hb hc

theorem RelRules_ev (a b c l : ByteArray) : Ev (fun q => wimplelaw2_RelRules.f q a b c l) true := by
  unfold wimplelaw2_RelRules.f
  refine Ev.bind awake_ev (Ev.pos rfl ?_)
  have hC := Child_ev l a
  by_cases hy : 1 ≤ (B l).length ∧ (B l).length ≤ 63 ∧ (nm (B a)).isSome = true ∧ (B l).length + 1 + (B a).length ≤ 255
  · rw [childS_yes hy] at hC
    obtain ⟨g1, g2, g3, g4⟩ := hy
    obtain ⟨x, ha⟩ := Option.isSome_iff_exists.1 g3
    obtain ⟨hg, hw, hl⟩ := nm_some.1 ha
    have nx : nm (UInt8.ofNat (B l).length :: (B l ++ B a)) = some (B l :: x) := nm_some.2 ⟨by
      intro q hq
      rcases List.mem_cons.1 hq with rfl | hq
      · exact ⟨g1, g2⟩
      · exact hg q hq, by
      show UInt8.ofNat (B l).length :: (B l ++ wire x) = _
      rw [hw], by
      simp only [List.length_cons, List.length_append]
      omega⟩
    have hP := Parent_ev (mkB (UInt8.ofNat (B l).length :: (B l ++ B a)))
    rw [B_mk, parS_cons nx, hw, mk_B] at hP
    have h1 := Above_ev a (mkB (UInt8.ofNat (B l).length :: (B l ++ B a)))
    rw [B_mk, show aboveS (B a) (UInt8.ofNat (B l).length :: (B l ++ B a)) = true from (aboveS_some ha nx).trans (decide_eq_true (List.suffix_cons _ _))] at h1
    have h2 := Above_ev (mkB (UInt8.ofNat (B l).length :: (B l ++ B a))) a
    rw [B_mk, show aboveS (UInt8.ofNat (B l).length :: (B l ++ B a)) (B a) = false from (aboveS_some nx ha).trans (decide_eq_false (by
      intro q
      have := q.length_le
      simp only [List.map_cons, List.length_cons] at this
      omega))] at h2
    have h3 := Compare_ev a (mkB (UInt8.ofNat (B l).length :: (B l ++ B a)))
    rw [B_mk, rl_some ha, rl_some nx, List.map_cons, List.reverse_cons, cmpR_prefix _ _ (by simp)] at h3
    exact Ev.bind hC (Ev.bindp (num_eq _) (Ev.pos rfl (Ev.bind hP (Ev.bindp (num_eq _) (Ev.pos rfl (Ev.pos rfl (Ev.bind h1 (Ev.pos rfl (Ev.bind h2 (Ev.neg (by decide) (Ev.bind h3 (Ev.pos rfl (Rules_j0 a b c)))))))))))))
  · rw [childS_no hy] at hC
    exact Ev.bind hC (Ev.bindp (num_eq _) (Ev.neg (by decide) (Rules_j0 a b c)))

theorem RelRules_pure : Go.Proofs.Yteodnommecpglaa.P.wimplelaw2_RelRules.Pure := fun a0 a1 a2 a3 _ _ _ _ => (RelRules_ev a0 a1 a2 a3).rounds
end Go.Proofs.Yteodnommecpglaa.M
