/- What bail.Filter answers; equal messages. -/
import Derived.Test.YtimkafkiphfacaaSRel
import Derived.Test.YtimkafkiphfacaaPx10
import Derived.Test.YtimkafkiphfacaaPx11
import Derived.Test.YtimkafkiphfacaaPx18
import Derived.Test.YtimkafkiphfacaaPx19
import Derived.Test.YtimkafkiphfacaaPx20

set_option linter.unusedVariables false
set_option linter.unusedSimpArgs false
namespace Go.Proofs.Ytimkafkiphfacaa.M
open Go Go.RowKit Go.Proofs.YtimkafkiphfacaaW.PrintWords Go.Proofs.Ytimkafkiphfacaa.P

theorem good_of {ls : List Bytes} (h : ls.all (fun l => decide (1 ≤ l.length ∧ l.length ≤ 63)) = true) : Good ls := by
  intro l hl
  exact of_decide_eq_true (List.all_eq_true.1 h l hl)
theorem num_eq (n : Int) : wimplelaw0_Num.f n = some n := rfl
theorem w_inc (i : Nat) (h : i ≤ 9000000000000) : wrap64 ((i : Int) + 1) = ((i + 1 : Nat) : Int) := by rw [w64 _ (by omega)]; omega

/-- The records that a cut is above. -/
def keepS (cut : Bytes) (l : List S42) : List S42 := l.filter (fun r => r.f2 == 1 && aboveS cut (B r.f0))

theorem rd42 (l : List S42) (i : Nat) (h : i < l.length) : rd_T42 l (i : Int) = l[i] := by
  unfold rd_T42
  rw [Int.toNat_natCast, List.getD_eq_getElem?_getD, List.getElem?_eq_getElem h]
  rfl
theorem rd71 (l : List S71) (i : Nat) (h : i < l.length) : rd_T71 l (i : Int) = l[i] := by
  unfold rd_T71
  rw [Int.toNat_natCast, List.getD_eq_getElem?_getD, List.getElem?_eq_getElem h]
  rfl
theorem keepS_le (cut : Bytes) (l : List S42) : (keepS cut l).length ≤ l.length := List.length_filter_le _ _
theorem keepS_yes (cut : Bytes) (l : List S42) (i : Nat) (h : i < l.length) (hf : l[i].f2 = 1) (ha : aboveS cut (B l[i].f0) = true) : keepS cut (l.take (i + 1)) = keepS cut (l.take i) ++ [l[i]] := by
  unfold keepS
  rw [List.take_succ_eq_append_getElem h, List.filter_append]
  congr 1
  simp [hf, ha]
theorem keepS_no (cut : Bytes) (l : List S42) (i : Nat) (h : i < l.length) (hn : ¬ (l[i].f2 = 1 ∧ aboveS cut (B l[i].f0) = true)) : keepS cut (l.take (i + 1)) = keepS cut (l.take i) := by
  unfold keepS
  rw [List.take_succ_eq_append_getElem h, List.filter_append, List.filter_cons_of_neg, List.filter_nil, List.append_nil]
  simpa using hn

theorem keep_l0 (cut : ByteArray) (l : List S42) (hl : l.length ≤ 2513169434843) : ∀ (d i : Nat), l.length - i = d → i ≤ l.length → Ev (fun k => bail_keep.l0 k cut (keepS (B cut) (l.take i)) l (l.length : Int) (i : Int)) (keepS (B cut) l) := by
  intro d
  induction d with
  | zero =>
    intro i hd hi
    refine Ev.step (fun k => by simp only [bail_keep.l0]; rfl) (Ev.neg (by omega) (Ev.eq (Ev.pure _) ?_))
    rw [List.take_of_length_le (by omega)]
  | succ d ih =>
    intro i hd hi
    have hi2 : i < l.length := by omega
    have hn := ih (i + 1) (by omega) (by omega)
    have hle : (keepS (B cut) (l.take i)).length ≤ i := Nat.le_trans (keepS_le _ _) (by rw [List.length_take]; omega)
    refine Ev.step (fun k => by simp only [bail_keep.l0]; rfl) ?_
    simp only [w_inc i (by omega), rd42 l i hi2]
    refine Ev.pos (by omega) (Ev.pos (by omega) (Ev.pos (by omega) ?_))
    by_cases c : l[i].f2 = 1
    · refine Ev.pos c (Ev.bind (Above_ev cut l[i].f0) ?_)
      cases ha : aboveS (B cut) (B l[i].f0) with
      | true =>
        rw [keepS_yes _ l i hi2 c ha] at hn
        exact Ev.pos rfl (Ev.pos (by omega) hn)
      | false =>
        rw [keepS_no _ l i hi2 (by rw [ha]; simp)] at hn
        exact Ev.neg (by decide) hn
    · rw [keepS_no _ l i hi2 (fun h => c h.1)] at hn
      exact Ev.neg c hn

theorem keep_ev (cut : ByteArray) (l : List S42) (hl : l.length ≤ 2513169434843) : Ev (fun k => bail_keep.f k l cut) (keepS (B cut) l) := by
  unfold bail_keep.f
  exact keep_l0 cut l hl l.length 0 (by omega) (by omega)

section
variable (h0 : Int) (h1 : Bool) (h2 : Int) (h3 h4 h5 h6 : Bool) (h7 h8 : Int) (q : List S71) (a n r : List S42)

theorem Filter_ok (cut : ByteArray) (hc : (nm (B cut)).isSome = true) (hq : q.length ≤ 4398046510976) (ha : a.length ≤ 2513169434843) (hn : n.length ≤ 2513169434843) (hr : r.length ≤ 2513169434843) :
    Ev (fun k => bail_Filter.f k h0 h1 h2 h3 h4 h5 h6 h7 h8 q a n r cut) (h0, h1, h2, h3, h4, h5, h6, h7, h8, q, keepS (B cut) a, keepS (B cut) n, keepS (B cut) r, 0) := by
  have hM := May_ev cut
  rw [hc] at hM
  unfold bail_Filter.f
  refine Ev.bind hM (Ev.pos rfl (Ev.pos ?_ (Ev.bind (keep_ev cut a ha) (Ev.bind (keep_ev cut n hn) (Ev.bind (keep_ev cut r hr) (Ev.pure _))))))
  simp only [List.length_nil]
  omega
theorem Filter_no (cut : ByteArray) (hc : (nm (B cut)).isSome = false) :
    Ev (fun k => bail_Filter.f k h0 h1 h2 h3 h4 h5 h6 h7 h8 q a n r cut) (0, false, 0, false, false, false, false, 0, 0, [], [], [], [], 1200) := by
  have hM := May_ev cut
  rw [hc] at hM
  unfold bail_Filter.f
  exact Ev.bind hM (Ev.neg (by decide) (Ev.pure _))

theorem SameQ_l0 (hq : q.length ≤ 4398046510976) : ∀ (d i : Nat), q.length - i = d → i ≤ q.length → Ev (fun k => wimplelaw0_SameQuestions.l0 k q q (i : Int)) true := by
  intro d
  induction d with
  | zero =>
    intro i hd hi
    exact Ev.step (fun k => by simp only [wimplelaw0_SameQuestions.l0]; rfl) (Ev.neg (by omega) (Ev.pure _))
  | succ d ih =>
    intro i hd hi
    refine Ev.step (fun k => by simp only [wimplelaw0_SameQuestions.l0]; rfl) ?_
    simp only [w_inc i (by omega)]
    exact Ev.pos (by omega) (Ev.pos (by omega) (Ev.pos (by omega) (Ev.neg (by simp) (ih (i + 1) (by omega) (by omega)))))
theorem SameQ_refl (hq : q.length ≤ 4398046510976) : Ev (fun k => wimplelaw0_SameQuestions.f k q q) true := by
  unfold wimplelaw0_SameQuestions.f
  exact Ev.pos rfl (SameQ_l0 q hq q.length 0 (by omega) (by omega))
theorem SameR_l0 (ha : a.length ≤ 2513169434843) : ∀ (d i : Nat), a.length - i = d → i ≤ a.length → Ev (fun k => wimplelaw0_SameRrs.l0 k a a (i : Int)) true := by
  intro d
  induction d with
  | zero =>
    intro i hd hi
    exact Ev.step (fun k => by simp only [wimplelaw0_SameRrs.l0]; rfl) (Ev.neg (by omega) (Ev.pure _))
  | succ d ih =>
    intro i hd hi
    refine Ev.step (fun k => by simp only [wimplelaw0_SameRrs.l0]; rfl) ?_
    simp only [w_inc i (by omega)]
    exact Ev.pos (by omega) (Ev.pos (by omega) (Ev.pos (by omega) (Ev.neg (by simp) (ih (i + 1) (by omega) (by omega)))))
theorem SameR_refl (ha : a.length ≤ 2513169434843) : Ev (fun k => wimplelaw0_SameRrs.f k a a) true := by
  unfold wimplelaw0_SameRrs.f
  exact Ev.pos rfl (SameR_l0 a ha a.length 0 (by omega) (by omega))
theorem SameM_refl (hq : q.length ≤ 4398046510976) (ha : a.length ≤ 2513169434843) (hn : n.length ≤ 2513169434843) (hr : r.length ≤ 2513169434843) :
    Ev (fun k => wimplelaw0_SameMsg.f k h0 h1 h2 h3 h4 h5 h6 h7 h8 q a n r h0 h1 h2 h3 h4 h5 h6 h7 h8 q a n r) true := by
  unfold wimplelaw0_SameMsg.f
  exact Ev.pos (by simp) (Ev.bind (SameQ_refl q hq) (Ev.pos rfl (Ev.bind (SameR_refl a ha) (Ev.pos rfl (Ev.bind (SameR_refl n hn) (Ev.pos rfl (Ev.bind (SameR_refl r hr) (Ev.pure _))))))))
end

theorem keepS_twice (cut : Bytes) (l : List S42) : keepS cut (keepS cut l) = keepS cut l := by
  unfold keepS
  rw [List.filter_filter]
  simp

end Go.Proofs.Ytimkafkiphfacaa.M
