/- What package rel and the reference answer: parents, last labels, children. -/
import Derived.Test.YteodnommecpglaaSRel
import Derived.Test.YteodnommecpglaaPx1
import Derived.Test.YteodnommecpglaaPx2
import Derived.Test.YteodnommecpglaaPx5

set_option linter.unusedVariables false
set_option linter.unusedSimpArgs false
namespace Go.Proofs.Yteodnommecpglaa.M
open Go Go.RowKit Go.Proofs.YteodnommecpglaaW.PrintWords Go.Proofs.Yteodnommecpglaa.P

theorem empty_mk : (⟨#[]⟩ : ByteArray) = mkB [] := rfl

/-- A name's parent. -/
def parS (s : Bytes) : ByteArray × Int := match nm s with
  | some (_ :: ls) => (mkB (wire ls), 0)
  | _ => (mkB [], 200)

/-- A name's last labels. -/
def lastS (s : Bytes) (k : Int) : ByteArray × Int := match nm s with
  | some ls => if 0 ≤ k ∧ k ≤ (ls.length : Int) then (mkB (wire (ls.drop (ls.length - k.toNat))), 0) else (mkB [], 200)
  | none => (mkB [], 200)

/-- A label ahead of a name. -/
def childS (l s : Bytes) : ByteArray × Int := if 1 ≤ l.length ∧ l.length ≤ 63 ∧ (nm s).isSome = true ∧ l.length + 1 + s.length ≤ 255 then (mkB (UInt8.ofNat l.length :: (l ++ s)), 0) else (mkB [], 200)

theorem lastS_some {s : Bytes} {ls : List Bytes} (h : nm s = some ls) (k : Int) (hk : 0 ≤ k ∧ k ≤ (ls.length : Int)) : lastS s k = (mkB (wire (ls.drop (ls.length - k.toNat))), 0) := by unfold lastS; rw [h]; exact if_pos hk
theorem lastS_out {s : Bytes} {ls : List Bytes} (h : nm s = some ls) (k : Int) (hk : ¬ (0 ≤ k ∧ k ≤ (ls.length : Int))) : lastS s k = (mkB [], 200) := by unfold lastS; rw [h]; exact if_neg hk
theorem lastS_none {s : Bytes} (h : nm s = none) (k : Int) : lastS s k = (mkB [], 200) := by unfold lastS; rw [h]
theorem parS_none {s : Bytes} (h : nm s = none) : parS s = (mkB [], 200) := by unfold parS; rw [h]
theorem parS_nil {s : Bytes} (h : nm s = some []) : parS s = (mkB [], 200) := by unfold parS; rw [h]
theorem parS_cons {s x : Bytes} {ls : List Bytes} (h : nm s = some (x :: ls)) : parS s = (mkB (wire ls), 0) := by unfold parS; rw [h]
theorem childS_yes {l s : Bytes} (h : 1 ≤ l.length ∧ l.length ≤ 63 ∧ (nm s).isSome = true ∧ l.length + 1 + s.length ≤ 255) : childS l s = (mkB (UInt8.ofNat l.length :: (l ++ s)), 0) := if_pos h
theorem childS_no {l s : Bytes} (h : ¬ (1 ≤ l.length ∧ l.length ≤ 63 ∧ (nm s).isSome = true ∧ l.length + 1 + s.length ≤ 255)) : childS l s = (mkB [], 200) := if_neg h

theorem Parent_ev (s : ByteArray) : Ev (fun k => rel_Parent.f k s) (parS (B s)) := by
  obtain ⟨r, h1, h2⟩ := Places_ev s
  unfold rel_Parent.f
  cases h : nm (B s) with
  | none =>
    rw [h] at h1
    rw [parS_none h]
    exact Ev.bind h1 (Ev.neg (by simp) (Ev.pure _))
  | some ls =>
    rw [h] at h1
    have hr := h2 ls h
    subst hr
    obtain ⟨hg, hw, hl⟩ := nm_some.1 h
    refine Ev.bind h1 (Ev.pos rfl ?_)
    cases ls with
    | nil =>
      rw [parS_nil h]
      exact Ev.pos (by rw [offs_length]; simp) (Ev.pure _)
    | cons x ls =>
      have o := off_lt (x :: ls) 1 (by simp)
      rw [hw] at o
      have hsz := sz s
      have e : rd (offs 0 (x :: ls)) 1 = ((off (x :: ls) 1 : Nat) : Int) := rd_offs (x :: ls) 1 (by simp)
      have hlen : (offs 0 (x :: ls)).length = ls.length + 2 := by rw [offs_length]; rfl
      rw [parS_cons h]
      simp only [e, Int.toNat_natCast]
      refine Ev.neg (by omega) (Ev.pos (by omega) (Ev.pos (by omega) (Ev.pos (by omega) (Ev.eq (Ev.pure _) ?_))))
      exact congrArg (fun z => (z, (0 : Int))) (B_inj (t := mkB (wire ls)) (by rw [extract_off s (x :: ls) hw 1 (by simp), B_mk]; rfl))
theorem refParent_ev (s : ByteArray) : Ev (fun k => wimpleref1_Parent.f k s) (parS (B s)) := by
  have hC := refCount_ev s
  unfold wimpleref1_Parent.f
  cases h : nm (B s) with
  | none =>
    have c : cnt (B s) = 0 := by unfold cnt; rw [h]
    rw [c] at hC
    rw [parS_none h]
    exact Ev.bind hC (Ev.pos (by decide) (Ev.pure _))
  | some ls =>
    have c : cnt (B s) = (ls.length : Int) := by unfold cnt; rw [h]
    have hn := nm_count h
    rw [c] at hC
    refine Ev.bind hC ?_
    cases ls with
    | nil =>
      rw [parS_nil h]
      exact Ev.pos (by decide) (Ev.pure _)
    | cons x ls =>
      rw [parS_cons h]
      have hl := reflast_ev s (x :: ls) h ls.length (by simp)
      simp only [List.length_cons] at hn hC ⊢
      refine Ev.neg (by omega) (Ev.bind hC ?_)
      simp only [w_pred ls.length (by omega)]
      refine Ev.bind hl (Ev.eq (Ev.pure _) ?_)
      simp only [List.length_cons]
      rw [show ls.length + 1 - ls.length = 1 by omega]
      rfl
theorem Last_ev (s : ByteArray) (k : Int) : Ev (fun q => rel_Last.f q s k) (lastS (B s) k) := by
  obtain ⟨r, h1, h2⟩ := Places_ev s
  unfold rel_Last.f
  cases h : nm (B s) with
  | none =>
    rw [h] at h1
    rw [lastS_none h]
    exact Ev.bind h1 (Ev.neg (by simp) (Ev.pure _))
  | some ls =>
    rw [h] at h1
    have hr := h2 ls h
    subst hr
    obtain ⟨hg, hw, hl⟩ := nm_some.1 h
    have hn := nm_count h
    have hlen := offs_length 0 ls
    refine Ev.bind h1 (Ev.pos rfl ?_)
    by_cases k0 : k < 0
    · rw [lastS_out h k (by omega)]
      exact Ev.pos k0 (Ev.pure _)
    · refine Ev.neg k0 ?_
      by_cases k1 : k ≤ (ls.length : Int)
      · obtain ⟨j, rfl⟩ : ∃ j : Nat, k = (j : Int) := ⟨k.toNat, by omega⟩
        have hj : j ≤ ls.length := by omega
        rw [lastS_some h _ ⟨by omega, k1⟩]
        have o := off_lt ls (ls.length - j) (by omega)
        rw [hw] at o
        have hsz := sz s
        have e : wrap64 ((wrap64 (((offs 0 ls).length : Int) - 1)) - (j : Int)) = ((ls.length - j : Nat) : Int) := by
          rw [offs_length, w_pred _ (by omega), w64 _ (by omega)]
          omega
        simp only [e, rd_offs ls (ls.length - j) (by omega), Int.toNat_natCast]
        clear e
        refine Ev.neg (by omega) (Ev.pos (by omega) (Ev.pos (by omega) (Ev.pos (by omega) (Ev.pos (by omega) (Ev.eq (Ev.pure _) ?_)))))
        exact congrArg (fun z => (z, (0 : Int))) (B_inj (t := mkB (wire (ls.drop (ls.length - j)))) (by rw [extract_off s ls hw _ (by omega), B_mk]))
      · rw [lastS_out h k (by omega)]
        exact Ev.pos (by show k ≥ ((offs 0 ls).length : Int); omega) (Ev.pure _)
theorem refLast_ev (s : ByteArray) (k : Int) : Ev (fun q => wimpleref1_Last.f q s k) (lastS (B s) k) := by
  have hM := refMay_ev s
  have hC := refCount_ev s
  unfold wimpleref1_Last.f
  cases h : nm (B s) with
  | none =>
    rw [h] at hM
    rw [lastS_none h]
    exact Ev.bind hM (Ev.neg (by simp) (Ev.pure _))
  | some ls =>
    rw [h] at hM
    have c : cnt (B s) = (ls.length : Int) := by unfold cnt; rw [h]
    have hn := nm_count h
    rw [c] at hC
    refine Ev.bind hM (Ev.pos rfl ?_)
    by_cases k0 : k < 0
    · rw [lastS_out h k (by omega)]
      exact Ev.pos k0 (Ev.pure _)
    · refine Ev.neg k0 (Ev.bind hC ?_)
      by_cases k1 : k ≤ (ls.length : Int)
      · obtain ⟨j, rfl⟩ : ∃ j : Nat, k = (j : Int) := ⟨k.toNat, by omega⟩
        rw [lastS_some h _ ⟨by omega, k1⟩]
        exact Ev.neg (by omega) (Ev.bind (reflast_ev s ls h j (by omega)) (Ev.pure _))
      · rw [lastS_out h k (by omega)]
        exact Ev.pos (by omega) (Ev.pure _)

theorem one_byte (n : Nat) : strOfNums [(n : Int) % 256] = mkB [UInt8.ofNat n] := by
  apply B_inj
  rw [B_strOfNums, B_mk]
  simp only [List.map_cons, List.map_nil, List.cons.injEq, and_true]
  apply UInt8.toNat_inj.1
  rw [show ((n : Int) % 256).toNat = n % 256 by omega]
  simp

theorem Child_ev (l s : ByteArray) : Ev (fun q => rel_Child.f q l s) (childS (B l) (B s)) := by
  have hM := May_ev s
  have hl := sz l
  have hs := sz s
  unfold rel_Child.f
  by_cases c1 : (l.size : Int) < 1
  · rw [childS_no (by omega)]
    exact Ev.pos c1 (Ev.pure _)
  · refine Ev.neg c1 ?_
    by_cases c2 : (l.size : Int) > 63
    · rw [childS_no (by omega)]
      exact Ev.pos c2 (Ev.pure _)
    · refine Ev.neg c2 ?_
      cases h : nm (B s) with
      | none =>
        rw [h] at hM
        rw [childS_no (by rw [h]; simp)]
        exact Ev.bind hM (Ev.neg (by simp) (Ev.pure _))
      | some ls =>
        rw [h] at hM
        have hn := nm_count h
        refine Ev.bind hM (Ev.pos rfl ?_)
        have e : wrap64 ((wrap64 ((l.size : Int) + 1)) + (s.size : Int)) = ((l.size + 1 + s.size : Nat) : Int) := by
          rw [w_succ _ (by omega), w_add _ _ (by omega) (by omega)]
        simp only [e]
        clear e
        by_cases c3 : l.size + 1 + s.size ≤ 255
        · rw [childS_yes ⟨by omega, by omega, by rw [h]; rfl, by omega⟩]
          have e2 := one_byte l.size
          refine Ev.neg (by omega) (Ev.bindp rfl ?_)
          simp only [e2]
          refine Ev.pos (by rw [sz_mk]; simp; omega) (Ev.pos (by rw [ByteArray.size_append, sz_mk]; simp; omega) (Ev.eq (Ev.pure _) ?_))
          exact congrArg (fun z => (z, (0 : Int))) (B_inj (t := mkB (UInt8.ofNat (B l).length :: (B l ++ B s))) (by rw [B_append, B_append, B_mk, B_mk, hl]; simp))
        · rw [childS_no (by omega)]
          exact Ev.pos (by omega) (Ev.pure _)
theorem refChild_ev (l s : ByteArray) : Ev (fun q => wimpleref1_Child.f q l s) (childS (B l) (B s)) := by
  have hM := refMay_ev s
  have hl := sz l
  have hs := sz s
  unfold wimpleref1_Child.f
  by_cases c1 : (l.size : Int) < 1
  · rw [childS_no (by omega)]
    exact Ev.pos c1 (Ev.pure _)
  · refine Ev.neg c1 ?_
    by_cases c2 : (l.size : Int) > 63
    · rw [childS_no (by omega)]
      exact Ev.pos c2 (Ev.pure _)
    · refine Ev.neg c2 ?_
      cases h : nm (B s) with
      | none =>
        rw [h] at hM
        rw [childS_no (by rw [h]; simp)]
        exact Ev.bind hM (Ev.neg (by simp) (Ev.pure _))
      | some ls =>
        rw [h] at hM
        have hn := nm_count h
        refine Ev.bind hM (Ev.pos rfl ?_)
        have e : wrap64 ((wrap64 (1 + (l.size : Int))) + (s.size : Int)) = ((l.size + 1 + s.size : Nat) : Int) := by
          rw [Int.add_comm 1, w_succ _ (by omega), w_add _ _ (by omega) (by omega)]
        simp only [e]
        clear e
        by_cases c3 : l.size + 1 + s.size ≤ 255
        · rw [childS_yes ⟨by omega, by omega, by rw [h]; rfl, by omega⟩]
          have e2 := one_byte l.size
          refine Ev.neg (by omega) (Ev.bindp rfl ?_)
          simp only [e2]
          refine Ev.pos (by rw [sz_mk]; simp; omega) (Ev.pos (by rw [ByteArray.size_append, sz_mk]; simp; omega) (Ev.eq (Ev.pure _) ?_))
          exact congrArg (fun z => (z, (0 : Int))) (B_inj (t := mkB (UInt8.ofNat (B l).length :: (B l ++ B s))) (by rw [B_append, B_append, B_mk, B_mk, hl]; simp))
        · rw [childS_no (by omega)]
          exact Ev.pos (by omega) (Ev.pure _)

end Go.Proofs.Yteodnommecpglaa.M
