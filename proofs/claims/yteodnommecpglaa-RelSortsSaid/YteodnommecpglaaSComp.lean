/- What package rel and the reference answer: the row of names. -/
import Derived.Test.YteodnommecpglaaSRel
import Derived.Test.YteodnommecpglaaPx5
import Derived.Test.YteodnommecpglaaPx6
import Derived.Test.YteodnommecpglaaPx7
import Derived.Test.YteodnommecpglaaPx8

set_option linter.unusedVariables false
set_option linter.unusedSimpArgs false
namespace Go.Proofs.Yteodnommecpglaa.M
open Go Go.RowKit Go.Proofs.YteodnommecpglaaW.PrintWords Go.Proofs.Yteodnommecpglaa.P

theorem cmpStr (a b : ByteArray) : cmp_Compare_string.f a b = some (bcmp (B a) (B b)) := by
  have n (x : ByteArray) : cmp_isNaN_string.f x = some false := by simp [cmp_isNaN_string.f]
  unfold cmp_Compare_string.f
  rw [n, n]
  simp only [Option.bind_some, Bool.false_eq_true, if_false]
  unfold bcmp bl
  rw [toL, toL]
  split
  · rfl
  · split <;> rfl

theorem cmpInt (a b : Int) : cmp_Compare_int.f a b = some (if a < b then -1 else if a > b then 1 else 0) := by
  have n (x : Int) : cmp_isNaN_int.f x = some false := by simp [cmp_isNaN_int.f]
  unfold cmp_Compare_int.f
  rw [n, n]
  simp only [Option.bind_some, Bool.false_eq_true, if_false]
  split
  · rfl
  · split <;> rfl

theorem cmpR_end (x y : List Bytes) (h : x = [] ∨ y = []) : cmpR x y = if x.length < y.length then -1 else if x.length > y.length then 1 else 0 := by
  cases x with
  | nil => cases y with
    | nil => rfl
    | cons b y => simp [cmpR]
  | cons a x =>
    cases y with
    | nil => simp [cmpR]
    | cons b y => rcases h with h | h <;> cases h

theorem rdOf_map (X : List Bytes) (i : Nat) (h : i < X.length) : rdOf ByteArray.empty (X.map mkB) (i : Int) = mkB X[i] := by
  unfold rdOf
  rw [Int.toNat_natCast, List.getD_eq_getElem?_getD, List.getElem?_map, List.getElem?_eq_getElem h]
  rfl

theorem folded_eq (l : Bytes) (h : l.length ≤ 1000000) : rel_folded.f (mkB l) = some (mkB (fol l)) := by
  unfold rel_folded.f
  rw [if_pos (by rw [sz_mk]; exact h)]
  rfl

theorem revf (X : List Bytes) (i : Nat) (h : i < X.length) : ((X.map fol).reverse).drop i = fol (X[X.length - 1 - i]'(by omega)) :: ((X.map fol).reverse).drop (i + 1) := by
  rw [List.drop_eq_getElem_cons (by simpa using h)]
  congr 1
  rw [List.getElem_reverse]
  simp

theorem cmpR_cons (x y : Bytes) (xs ys : List Bytes) : cmpR (x :: xs) (y :: ys) = if bcmp x y = 0 then cmpR xs ys else bcmp x y := by
  have e : bcmp x y = if bl x y = true then -1 else if bl y x = true then 1 else 0 := rfl
  simp only [cmpR]
  by_cases h1 : bl x y = true
  · rw [if_pos h1] at e ⊢
    simp only [e]
    rfl
  · rw [if_neg h1] at e ⊢
    by_cases h2 : bl y x = true
    · rw [if_pos h2] at e ⊢
      simp only [e]
      rfl
    · rw [if_neg h2] at e ⊢
      simp only [e]
      rfl

theorem w_sub1 (n i : Nat) (h : i < n) (h' : n ≤ 1000000) : wrap64 ((n : Int) - ((i + 1 : Nat) : Int)) = ((n - 1 - i : Nat) : Int) := by rw [w64 _ (by omega)]; omega
theorem w_pre (j : Nat) (h' : j ≤ 1000000) : wrap64 ((j : Int) - 1) = (j : Int) - 1 := w64 _ (by omega)
theorem w_pre2 (n : Nat) (h' : n ≤ 1000000) : wrap64 (((n + 1 : Nat) : Int) - 2) = (n : Int) - 1 := by rw [w64 _ (by omega)]; omega

theorem mn_nat (a b : Nat) : mn (a : Int) (b : Int) = ((min a b : Nat) : Int) := by unfold mn; split <;> omega

theorem compare_l0 (X Y : List Bytes) (hX : X.length ≤ 1000) (hY : Y.length ≤ 1000) (gX : ∀ l ∈ X, l.length ≤ 1000) (gY : ∀ l ∈ Y, l.length ≤ 1000) : ∀ (d i : Nat), min X.length Y.length - i = d → i ≤ min X.length Y.length →
    Ev (fun k => rel_Compare.l0 k (X.map mkB) (Y.map mkB) ((i + 1 : Nat) : Int)) (cmpR (((X.map fol).reverse).drop i) (((Y.map fol).reverse).drop i)) := by
  intro d
  have lx : (X.map mkB).length = X.length := List.length_map _
  have ly : (Y.map mkB).length = Y.length := List.length_map _
  induction d with
  | zero =>
    intro i hd hi
    refine Ev.step (fun k => by simp only [rel_Compare.l0]; rfl) ?_
    simp only [lx, ly, mn_nat]
    refine Ev.neg (by omega) (Ev.bindp (cmpInt _ _) (Ev.eq (Ev.pure _) ?_))
    rw [cmpR_end _ _ ?_]
    · simp only [List.length_drop, List.length_reverse, List.length_map]
      rcases Nat.lt_trichotomy X.length Y.length with q | q | q
      · rw [if_pos (by omega), if_pos (by omega)]
      · rw [if_neg (by omega), if_neg (by omega), if_neg (by omega), if_neg (by omega)]
      · rw [if_neg (by omega), if_pos (by omega), if_neg (by omega), if_pos (by omega)]
    · rcases Nat.le_total X.length Y.length with q | q
      · exact .inl (List.drop_eq_nil_of_le (by simp; omega))
      · exact .inr (List.drop_eq_nil_of_le (by simp; omega))
  | succ d ih =>
    intro i hd hi
    have hx : i < X.length := by omega
    have hy : i < Y.length := by omega
    have h := ih (i + 1) (by omega) (by omega)
    refine Ev.step (fun k => by simp only [rel_Compare.l0]; rfl) ?_
    simp only [lx, ly, mn_nat, w_sub1 X.length i (by omega) (by omega), w_sub1 Y.length i (by omega) (by omega), w_succ (i + 1) (by omega), rdOf_map X (X.length - 1 - i) (by omega), rdOf_map Y (Y.length - 1 - i) (by omega)]
    refine Ev.pos (by omega) (Ev.pos (by omega) (Ev.pos (by omega) (Ev.bindp (folded_eq _ ?_) (Ev.pos (by omega) (Ev.pos (by omega) (Ev.bindp (folded_eq _ ?_) (Ev.bindp (cmpStr _ _) ?_)))))))
    · have := gX _ (List.getElem_mem (show X.length - 1 - i < X.length by omega)); omega
    · have := gY _ (List.getElem_mem (show Y.length - 1 - i < Y.length by omega)); omega
    rw [revf X i hx, revf Y i hy, cmpR_cons, B_mk, B_mk]
    by_cases hz : bcmp (fol (X[X.length - 1 - i]'(by omega))) (fol (Y[Y.length - 1 - i]'(by omega))) = 0
    · rw [if_pos hz]
      exact Ev.pos hz h
    · rw [if_neg hz]
      exact Ev.neg hz (Ev.pure _)

/-- The labels that package rel looks at. -/
theorem Labels_rl (s : ByteArray) : ∃ (X : List Bytes) (b : Bool), Ev (fun k => name_Labels.f k s) (X.map mkB, b) ∧ X.length ≤ 1000 ∧ (∀ l ∈ X, l.length ≤ 1000) ∧ (X.map fol).reverse = rl (B s) := by
  have h1 := Labels_ev s
  unfold rl
  cases h : nm (B s) with
  | none =>
    rw [h] at h1
    exact ⟨[], false, h1, by simp, by simp, rfl⟩
  | some ls =>
    rw [h] at h1
    obtain ⟨g1, g2⟩ := short_labels h
    exact ⟨ls, true, h1, by omega, fun l hl => by have := g2 l hl; omega, rfl⟩

theorem Compare_ev (a b : ByteArray) : Ev (fun k => rel_Compare.f k a b) (cmpR (rl (B a)) (rl (B b))) := by
  obtain ⟨X, p, h1, h2, h3, h4⟩ := Labels_rl a
  obtain ⟨Y, q, i1, i2, i3, i4⟩ := Labels_rl b
  unfold rel_Compare.f
  refine Ev.bind h1 (Ev.bind i1 ?_)
  rw [← h4, ← i4]
  exact compare_l0 X Y h2 i2 h3 i3 _ 0 rfl (by omega)

theorem reflabels_l0 (ls : List Bytes) (hg : Good ls) (hl : (wire ls).length ≤ 255) : ∀ (j : Nat), j ≤ ls.length →
    Ev (fun k => wimpleref1_labels.l0 k (mkB (wire ls)) (offs 0 ls) (((ls.drop j).reverse).map mkB) ((j : Int) - 1)) (ls.reverse.map mkB) := by
  have hol := offs_length 0 ls
  have hcnt := wire_count ls hg
  intro j
  induction j with
  | zero =>
    intro _
    refine Ev.step (fun k => by simp only [wimpleref1_labels.l0]; rfl) (Ev.neg (by omega) ?_)
    exact Ev.pure _
  | succ j ih =>
    intro hj
    have hlt : j < ls.length := by omega
    have h := ih (by omega)
    have o0 := off_lt ls j (by omega)
    have o1 := off_lt ls (j + 1) (by omega)
    have os := off_succ ls j hlt
    have hz := sz_mk (wire ls)
    rw [show ((j + 1 : Nat) : Int) - 1 = (j : Int) by omega]
    refine Ev.step (fun k => by simp only [wimpleref1_labels.l0]; rfl) ?_
    simp only [w_succ j (by omega), rd_offs ls j (by omega), rd_offs ls (j + 1) (by omega), w_succ (off ls j) (by omega), w_pre j (by omega), Int.toNat_natCast]
    refine Ev.pos (by omega) (Ev.pos (by omega) (Ev.pos (by omega) (Ev.pos (by omega) (Ev.pos (by omega) (Ev.pos (by omega) (Ev.pos (by omega) (Ev.pos (by omega) (Ev.pos (by simp; omega) ?_))))))))
    refine Ev.congr (fun k => ?_) h
    congr 1
    rw [List.drop_eq_getElem_cons hlt, List.reverse_cons, List.map_append]
    congr 1
    simp only [List.map_cons, List.map_nil, List.cons.injEq, and_true]
    apply B_inj
    rw [B_extract, B_mk, B_mk, show off ls (j + 1) - (off ls j + 1) = ls[j].length from by omega, label_at ls j hlt]

theorem reflabels_ev (s : ByteArray) : Ev (fun k => wimpleref1_labels.f k s) ((rl (B s)).map mkB) := by
  have hM := refMay_ev s
  unfold wimpleref1_labels.f rl
  cases h : nm (B s) with
  | none =>
    rw [h] at hM
    exact Ev.bind hM (Ev.neg (by simp) (Ev.pure _))
  | some ls =>
    rw [h] at hM
    have hF := refFold_ev s
    rw [fold_some h] at hF
    obtain ⟨hg, hw, hl⟩ := nm_some.1 h
    have hl' : (wire (ls.map fol)).length ≤ 255 := by rw [wire_fold_length, hw]; exact hl
    have hn' := nm_wire (good_fold hg) hl'
    obtain ⟨r, h1, h2⟩ := refplaces_ev (mkB (wire (ls.map fol)))
    rw [B_mk] at h1 h2
    have hr := h2 _ hn'
    subst hr
    have hc := nm_count h
    refine Ev.bind hM (Ev.pos rfl (Ev.bind hF (Ev.bind h1 ?_)))
    have := reflabels_l0 (ls.map fol) (good_fold hg) hl' (ls.map fol).length (Nat.le_refl _)
    rw [List.drop_length] at this
    have hlm : (ls.map fol).length = ls.length := List.length_map _
    simp only [offs_length, w_pre2 (ls.map fol).length (by omega)]
    exact this

theorem refcompare_l0 (X Y : List Bytes) (hX : X.length ≤ 1000) (hY : Y.length ≤ 1000) : ∀ (d i : Nat), X.length - i = d → i ≤ min X.length Y.length →
    Ev (fun k => wimpleref1_Compare.l0 k (X.map mkB) (Y.map mkB) (i : Int)) (cmpR (X.drop i) (Y.drop i)) := by
  intro d
  have lx : (X.map mkB).length = X.length := List.length_map _
  have ly : (Y.map mkB).length = Y.length := List.length_map _
  have out : ∀ i : Nat, i ≤ min X.length Y.length → (X.length ≤ i ∨ Y.length ≤ i) → Ev (fun k => wimpleref1_Compare.j1 k (X.map mkB) (Y.map mkB) (i : Int) false) (cmpR (X.drop i) (Y.drop i)) := by
    intro i hi ho
    refine Ev.step (fun k => by simp only [wimpleref1_Compare.j1]; rfl) ?_
    simp only [lx, ly]
    refine Ev.neg (by decide) ?_
    rw [cmpR_end _ _ (ho.imp List.drop_eq_nil_of_le List.drop_eq_nil_of_le)]
    simp only [List.length_drop]
    rcases Nat.lt_trichotomy X.length Y.length with q | q | q
    · exact Ev.pos (by omega) (Ev.eq (Ev.pure _) (by rw [if_pos (by omega)]))
    · exact Ev.neg (by omega) (Ev.neg (by omega) (Ev.eq (Ev.pure _) (by rw [if_neg (by omega), if_neg (by omega)])))
    · exact Ev.neg (by omega) (Ev.pos (by omega) (Ev.eq (Ev.pure _) (by rw [if_neg (by omega), if_pos (by omega)])))
  induction d with
  | zero =>
    intro i hd hi
    refine Ev.step (fun k => by simp only [wimpleref1_Compare.l0]; rfl) (Ev.neg (by omega) (out i hi (by omega)))
  | succ d ih =>
    intro i hd hi
    refine Ev.step (fun k => by simp only [wimpleref1_Compare.l0]; rfl) (Ev.pos (by omega) ?_)
    by_cases hy : i < Y.length
    · have hx : i < X.length := by omega
      have h := ih (i + 1) (by omega) (by omega)
      rw [show decide ((i : Int) < ((Y.map mkB).length : Int)) = true from decide_eq_true (by omega)]
      refine Ev.step (fun k => by simp only [wimpleref1_Compare.j1]; rfl) ?_
      simp only [lx, ly, rdOf_map X i hx, rdOf_map Y i hy, w_succ i (by omega), toL, B_mk]
      refine Ev.pos (by trivial) (Ev.pos (by omega) (Ev.pos (by omega) (Ev.pos (by omega) ?_)))
      rw [List.drop_eq_getElem_cons hx, List.drop_eq_getElem_cons hy]
      simp only [cmpR]
      by_cases h1 : bl X[i] Y[i] = true
      · rw [if_pos h1]
        exact Ev.pos h1 (Ev.pure _)
      · rw [if_neg h1]
        refine Ev.neg h1 ?_
        by_cases h2 : bl Y[i] X[i] = true
        · rw [if_pos h2]
          exact Ev.pos h2 (Ev.pure _)
        · rw [if_neg h2]
          exact Ev.neg h2 h
    · rw [show decide ((i : Int) < ((Y.map mkB).length : Int)) = false from decide_eq_false (by omega)]
      exact out i hi (by omega)

theorem rl_length (s : Bytes) : (rl s).length ≤ 127 := by
  unfold rl
  cases h : nm s with
  | none => simp
  | some ls =>
    have := nm_count h
    simp
    omega

theorem refCompare_ev (a b : ByteArray) : Ev (fun k => wimpleref1_Compare.f k a b) (cmpR (rl (B a)) (rl (B b))) := by
  unfold wimpleref1_Compare.f
  have h1 := rl_length (B a)
  have h2 := rl_length (B b)
  exact Ev.bind (reflabels_ev a) (Ev.bind (reflabels_ev b) (refcompare_l0 _ _ (by omega) (by omega) _ 0 rfl (by omega)))

end Go.Proofs.Yteodnommecpglaa.M
