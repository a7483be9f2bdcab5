/- The document's Filter; what SpoilMsg and CopyMsg answer. -/
import Derived.Test.YtimkafkiphfacaaCopy
import Derived.Test.YtimkafkiphfacaaPx16
import Derived.Test.YtimkafkiphfacaaPx17
import Derived.Test.YtimkafkiphfacaaPx22
import Derived.Test.YtimkafkiphfacaaSFilter
import Derived.Test.YtimkafkiphfacaaPx23

set_option linter.unusedVariables false
set_option linter.unusedSimpArgs false
namespace Go.Proofs.Ytimkafkiphfacaa.M
open Go Go.RowKit Go.Proofs.YtimkafkiphfacaaW.PrintWords Go.Proofs.Ytimkafkiphfacaa.P

theorem awake_ev : Ev (fun k => wimplelaw12_awake.f k) true := by
  have nC : nm [1, 67, 0] = some [[67]] := nm_some.2 ⟨good_of (by decide), by decide, by decide⟩
  have nA : nm [1, 97, 1, 99, 0] = some [[97], [99]] := nm_some.2 ⟨good_of (by decide), by decide, by decide⟩
  have nB : nm [1, 97, 1, 100, 0] = some [[97], [100]] := nm_some.2 ⟨good_of (by decide), by decide, by decide⟩
  have a1 : aboveS [1, 67, 0] [1, 97, 1, 99, 0] = true := (aboveS_some nC nA).trans (by decide)
  have a2 : aboveS [1, 67, 0] [1, 97, 1, 100, 0] = false := (aboveS_some nC nB).trans (by decide)
  have k1 : keepS (B ⟨#[1, 67, 0]⟩) [(⟨(⟨#[1, 97, 1, 99, 0]⟩ : ByteArray), 1, 1, 0, (⟨#[97, 98, 99, 100]⟩ : ByteArray)⟩ : S42), (⟨(⟨#[1, 97, 1, 100, 0]⟩ : ByteArray), 1, 1, 0, (⟨#[97, 98, 99, 100]⟩ : ByteArray)⟩ : S42)] = [(⟨(⟨#[1, 97, 1, 99, 0]⟩ : ByteArray), 1, 1, 0, (⟨#[97, 98, 99, 100]⟩ : ByteArray)⟩ : S42)] := by
    rw [keepS, List.filter_cons_of_pos (by show (1 == (1 : Int) && aboveS [1, 67, 0] [1, 97, 1, 99, 0]) = true; rw [a1]; rfl), List.filter_cons_of_neg (by show ¬ ((1 == (1 : Int) && aboveS [1, 67, 0] [1, 97, 1, 100, 0]) = true); rw [a2]; decide), List.filter_nil]
  have k2 : keepS (B ⟨#[1, 67, 0]⟩) [(⟨(⟨#[1, 97, 1, 99, 0]⟩ : ByteArray), 1, 3, 0, (⟨#[97, 98, 99, 100]⟩ : ByteArray)⟩ : S42), (⟨(⟨#[1, 97, 1, 99, 0]⟩ : ByteArray), 1, 1, 0, (⟨#[97, 98, 99, 100]⟩ : ByteArray)⟩ : S42)] = [(⟨(⟨#[1, 97, 1, 99, 0]⟩ : ByteArray), 1, 1, 0, (⟨#[97, 98, 99, 100]⟩ : ByteArray)⟩ : S42)] := by
    rw [keepS, List.filter_cons_of_neg (by show ¬ ((3 == (1 : Int) && aboveS [1, 67, 0] [1, 97, 1, 99, 0]) = true); rw [a1]; decide), List.filter_cons_of_pos (by show (1 == (1 : Int) && aboveS [1, 67, 0] [1, 97, 1, 99, 0]) = true; rw [a1]; rfl), List.filter_nil]
  have f1 := Filter_ok 0 false 0 false false false false 0 0 [] [(⟨(⟨#[1, 97, 1, 99, 0]⟩ : ByteArray), 1, 1, 0, (⟨#[97, 98, 99, 100]⟩ : ByteArray)⟩ : S42), (⟨(⟨#[1, 97, 1, 100, 0]⟩ : ByteArray), 1, 1, 0, (⟨#[97, 98, 99, 100]⟩ : ByteArray)⟩ : S42)] [] [(⟨(⟨#[1, 97, 1, 99, 0]⟩ : ByteArray), 1, 3, 0, (⟨#[97, 98, 99, 100]⟩ : ByteArray)⟩ : S42), (⟨(⟨#[1, 97, 1, 99, 0]⟩ : ByteArray), 1, 1, 0, (⟨#[97, 98, 99, 100]⟩ : ByteArray)⟩ : S42)] (⟨#[1, 67, 0]⟩ : ByteArray) (by rw [show nm (B ⟨#[1, 67, 0]⟩) = some [[67]] from nC]; rfl) (by decide) (by decide) (by decide) (by decide)
  rw [k1, k2] at f1
  have f2 := Filter_no 0 false 0 false false false false 0 0 ([] : List S71) [(⟨(⟨#[1, 97, 1, 99, 0]⟩ : ByteArray), 1, 1, 0, (⟨#[97, 98, 99, 100]⟩ : ByteArray)⟩ : S42)] [] [(⟨(⟨#[1, 97, 1, 99, 0]⟩ : ByteArray), 1, 1, 0, (⟨#[97, 98, 99, 100]⟩ : ByteArray)⟩ : S42)] (⟨#[]⟩ : ByteArray) (by rw [show nm (B ⟨#[]⟩) = none from nm_nil]; rfl)
  unfold wimplelaw12_awake.f
  refine Ev.bind f1 (Ev.bind f2 (Ev.pos rfl (Ev.pos (by decide) (Ev.pos ?_ (Ev.pos rfl (Ev.bindp (num_eq _) (Ev.pos rfl (Ev.bindp (num_eq _) (Ev.eq (Ev.pure _) (by decide))))))))))
  simp only [toL]
  decide
end Go.Proofs.Ytimkafkiphfacaa.M

set_option linter.unusedVariables false
set_option linter.unusedSimpArgs false
namespace Go.Proofs.Ytimkafkiphfacaa.M
open Go Go.RowKit Go.Proofs.YtimkafkiphfacaaW.PrintWords Go.Proofs.Ytimkafkiphfacaa.P

theorem within_l0 (cut : ByteArray) (l : List S42) (hl : l.length ≤ 2513169434843) : ∀ (d i : Nat), l.length - i = d → i ≤ l.length → Ev (fun k => wimpleref4_within.l0 k l cut (keepS (B cut) (l.take i)) (i : Int)) (keepS (B cut) l) := by
  intro d
  induction d with
  | zero =>
    intro i hd hi
    refine Ev.step (fun k => by simp only [wimpleref4_within.l0]; rfl) (Ev.neg (by omega) (Ev.eq (Ev.pure _) ?_))
    rw [List.take_of_length_le (by omega)]
  | succ d ih =>
    intro i hd hi
    have hi2 : i < l.length := by omega
    have hn := ih (i + 1) (by omega) (by omega)
    have hle : (keepS (B cut) (l.take i)).length ≤ i := Nat.le_trans (keepS_le _ _) (by rw [List.length_take]; omega)
    refine Ev.step (fun k => by simp only [wimpleref4_within.l0]; rfl) ?_
    simp only [w_inc i (by omega), rd42 l i hi2]
    refine Ev.pos (by omega) (Ev.pos (by omega) ?_)
    by_cases c : l[i].f2 = 1
    · refine Ev.pos c (Ev.bind (refAbove_ev cut l[i].f0) ?_)
      cases ha : aboveS (B cut) (B l[i].f0) with
      | true =>
        rw [keepS_yes _ l i hi2 c ha] at hn
        exact Ev.pos rfl (Ev.pos (by omega) hn)
      | false =>
        rw [keepS_no _ l i hi2 (by rw [ha]; simp)] at hn
        exact Ev.neg (by decide) hn
    · rw [keepS_no _ l i hi2 (fun h => c h.1)] at hn
      exact Ev.neg c hn
theorem within_ev (cut : ByteArray) (l : List S42) (hl : l.length ≤ 2513169434843) : Ev (fun k => wimpleref4_within.f k l cut) (keepS (B cut) l) := by
  unfold wimpleref4_within.f
  exact within_l0 cut l hl l.length 0 (by omega) (by omega)
section
variable (h0 : Int) (h1 : Bool) (h2 : Int) (h3 h4 h5 h6 : Bool) (h7 h8 : Int) (q : List S71) (a n r : List S42)
theorem RefFilter_ok (cut : ByteArray) (hc : (nm (B cut)).isSome = true) (hq : q.length ≤ 4398046510976) (ha : a.length ≤ 2513169434843) (hn : n.length ≤ 2513169434843) (hr : r.length ≤ 2513169434843) :
    Ev (fun k => wimpleref4_Filter.f k h0 h1 h2 h3 h4 h5 h6 h7 h8 q a n r cut) (h0, h1, h2, h3, h4, h5, h6, h7, h8, q, keepS (B cut) a, keepS (B cut) n, keepS (B cut) r, 0) := by
  have hM := refMay_ev cut
  rw [hc] at hM
  unfold wimpleref4_Filter.f
  refine Ev.bind hM (Ev.pos rfl (Ev.bindp (a := []) rfl (Ev.pos ?_ (Ev.bind (within_ev cut a ha) (Ev.bind (within_ev cut n hn) (Ev.bind (within_ev cut r hr) (Ev.pure _)))))))
  simp only [List.length_nil]
  omega
theorem RefFilter_no (cut : ByteArray) (hc : (nm (B cut)).isSome = false) :
    Ev (fun k => wimpleref4_Filter.f k h0 h1 h2 h3 h4 h5 h6 h7 h8 q a n r cut) (0, false, 0, false, false, false, false, 0, 0, [], [], [], [], 1200) := by
  have hM := refMay_ev cut
  rw [hc] at hM
  unfold wimpleref4_Filter.f
  exact Ev.bind hM (Ev.neg (by decide) (Ev.pure _))
theorem copyM_f (hq : q.length ≤ 4398046510976) (ha : a.length ≤ 2513169434843) (hn : n.length ≤ 2513169434843) (hr : r.length ≤ 2513169434843) : wimplelaw0_CopyMsg.f h0 h1 h2 h3 h4 h5 h6 h7 h8 q a n r = some (h0, h1, h2, h3, h4, h5, h6, h7, h8, q, a, n, r) := by
  unfold wimplelaw0_CopyMsg.f
  simp only [Option.bind_some, List.length_nil, List.nil_append]
  rw [if_pos (by omega), if_pos (by omega), if_pos (by omega), if_pos (by omega)]
end
theorem spQ_l0 : ∀ (d : Nat) (l : List S71) (i : Nat), l.length ≤ 8000000000000 → l.length - i = d → i ≤ l.length → ∃ r, Ev (fun k => wimplelaw0_SpoilQuestions.l0 k l (i : Int)) r
  | 0, l, i, hl, hd, hi => by
    refine ⟨l, Ev.step (fun k => by simp only [wimplelaw0_SpoilQuestions.l0]; rfl) ?_⟩
    exact Ev.neg (by omega) (Ev.pure _)
  | d + 1, l, i, hl, hd, hi => by
    obtain ⟨r, h⟩ := spQ_l0 d (l.set i (⟨(rd_T71 l (i : Int)).f0, Go.bits .xor .i64 ((rd_T71 l (i : Int)).f1) 90, (rd_T71 l (i : Int)).f2⟩ : S71)) (i + 1) (by simpa using hl) (by simp; omega) (by simp; omega)
    refine ⟨r, Ev.step (fun k => by simp only [wimplelaw0_SpoilQuestions.l0]; rfl) ?_⟩
    refine Ev.pos (by omega) (Ev.pos (by omega) ?_)
    simp only [w_inc i (by omega), Int.toNat_natCast]
    exact h
theorem spR_l0 : ∀ (d : Nat) (l : List S42) (i : Nat), l.length ≤ 8000000000000 → l.length - i = d → i ≤ l.length → ∃ r, Ev (fun k => wimplelaw0_SpoilRrs.l0 k l (i : Int)) r
  | 0, l, i, hl, hd, hi => by
    refine ⟨l, Ev.step (fun k => by simp only [wimplelaw0_SpoilRrs.l0]; rfl) ?_⟩
    exact Ev.neg (by omega) (Ev.pure _)
  | d + 1, l, i, hl, hd, hi => by
    obtain ⟨r, h⟩ := spR_l0 d (l.set i (⟨(rd_T42 l (i : Int)).f0, (rd_T42 l (i : Int)).f1, (rd_T42 l (i : Int)).f2, Go.bits .xor .i64 ((rd_T42 l (i : Int)).f3) 90, (rd_T42 l (i : Int)).f4⟩ : S42)) (i + 1) (by simpa using hl) (by simp; omega) (by simp; omega)
    refine ⟨r, Ev.step (fun k => by simp only [wimplelaw0_SpoilRrs.l0]; rfl) ?_⟩
    refine Ev.pos (by omega) (Ev.pos (by omega) ?_)
    simp only [w_inc i (by omega), Int.toNat_natCast]
    exact h
theorem spM (h0 : Int) (h1 : Bool) (h2 : Int) (h3 h4 h5 h6 : Bool) (h7 h8 : Int) (q : List S71) (a n r : List S42) (hq : q.length ≤ 8000000000000) (ha : a.length ≤ 8000000000000) (hn : n.length ≤ 8000000000000) (hr : r.length ≤ 8000000000000) : ∃ k q' a' n' r', wimplelaw0_SpoilMsg.f k h0 h1 h2 h3 h4 h5 h6 h7 h8 q a n r = some (q', a', n', r') := by
  obtain ⟨q', e1⟩ := spQ_l0 _ q 0 hq rfl (Nat.zero_le _)
  obtain ⟨a', e2⟩ := spR_l0 _ a 0 ha rfl (Nat.zero_le _)
  obtain ⟨n', e3⟩ := spR_l0 _ n 0 hn rfl (Nat.zero_le _)
  obtain ⟨r', e4⟩ := spR_l0 _ r 0 hr rfl (Nat.zero_le _)
  have : Ev (fun k => wimplelaw0_SpoilMsg.f k h0 h1 h2 h3 h4 h5 h6 h7 h8 q a n r) (q', a', n', r') := by
    unfold wimplelaw0_SpoilMsg.f wimplelaw0_SpoilQuestions.f wimplelaw0_SpoilRrs.f
    exact Ev.bind e1 (Ev.bind e2 (Ev.bind e3 (Ev.bind e4 (Ev.pure _))))
  obtain ⟨k, hk⟩ := Ev.rounds this
  exact ⟨k, q', a', n', r', hk⟩
end Go.Proofs.Ytimkafkiphfacaa.M
