/- NameCounts: the plain law. -/
import Derived.Test.YtefmomphapjfiaaSAwake1
import Derived.Test.YtefmomphapjfiaaPx9

namespace Go.Proofs.Ytefmomphapjfiaa.M
open Go Go.RowKit Go.Proofs.YtefmomphapjfiaaW.PrintWords Go.Proofs.Ytefmomphapjfiaa.P

def dots (l : Bytes) : Nat := (l.filter fun c => c == 46).length
theorem dots_append (a b : Bytes) : dots (a ++ b) = dots a + dots b := by simp [dots]
theorem dots_esc (c : UInt8) : dots (esc c) = 0 := by
  unfold esc
  by_cases h : plain c = true
  · rw [if_pos h]
    simp only [plain, decide_eq_true_eq] at h
    have : (c == 46) = false := by
      rw [beq_eq_false_iff_ne]
      rintro rfl
      simp at h
    simp [dots, this]
  · rw [if_neg h]
    obtain ⟨d1, d2, d3⟩ := esc_digits c
    have n : ∀ x : UInt8, 48 ≤ x.toNat → (x == 46) = false := by
      intro x hx
      rw [beq_eq_false_iff_ne]
      rintro rfl
      simp at hx
    simp [dots, n (48 + c / 100) (by omega), n (48 + c / 10 % 10) (by omega), n (48 + c % 10) (by omega)]
theorem dots_escs (l : Bytes) : dots (escs l) = 0 := by
  induction l with
  | nil => rfl
  | cons c l ih =>
    have e : escs (c :: l) = esc c ++ escs l := by simp [escs]
    rw [e, dots_append, dots_esc, ih]
theorem dots_textL (ls : List Bytes) : dots (textL ls) = ls.length := by
  induction ls with
  | nil => rfl
  | cons l r ih =>
    have e : textL (l :: r) = (escs l ++ [46]) ++ textL r := by simp [textL]
    rw [e, dots_append, dots_append, dots_escs, ih]
    show 0 + 1 + r.length = (l :: r).length
    simp
    omega

/-- Dots are counted to the end. -/
theorem ncounts_loop (x0 x6 x7 x9 : ByteArray) (hsz : x9.size ≤ 1000000) (r : Bool) : ∀ (d i c : Nat), x9.size - i = d → i ≤ x9.size → c ≤ i →
    Ev (fun k => wimplelaw1_NameCounts.l0 k x0 x6 x7 x9 ((c + dots ((B x9).drop i) : Nat) : Int) (x9.size : Int)) r → Ev (fun k => wimplelaw1_NameCounts.l0 k x0 x6 x7 x9 (c : Int) (i : Int)) r := by
  intro d
  have hs := sz x9
  induction d with
  | zero =>
    intro i c hd hi hc h
    obtain rfl : i = x9.size := by omega
    rw [List.drop_eq_nil_of_le (by omega)] at h
    exact h
  | succ d ih =>
    intro i c hd hi hc h
    cases hdr : (B x9).drop i with
    | nil => rw [List.drop_eq_nil_iff] at hdr; omega
    | cons y q =>
      obtain ⟨hb, _, hd2⟩ := bt_drop x9 i _ _ hdr
      rw [hdr] at h
      refine Ev.step (fun k => by simp only [wimplelaw1_NameCounts.l0]; rfl) ?_
      refine Ev.pos (by omega) (Ev.pos (by omega) ?_)
      by_cases he : y = 46
      · subst he
        refine Ev.pos (by rw [hb]; rfl) ?_
        simp only [w_succ i (by omega), w_succ c (by omega)]
        refine ih (i + 1) (c + 1) (by omega) (by omega) (by omega) ?_
        have : dots (46 :: q) = 1 + dots q := by simp [dots]; omega
        rw [this, ← Nat.add_assoc] at h
        rw [hd2]
        exact h
      · refine Ev.neg (fun z => he (UInt8.toNat_inj.1 (show y.toNat = 46 by rw [hb] at z; omega))) ?_
        simp only [w_succ i (by omega)]
        refine ih (i + 1) c (by omega) (by omega) (by omega) ?_
        have : dots (y :: q) = dots q := by
          have e : (y == 46) = false := beq_eq_false_iff_ne.2 he
          simp [dots, e]
        rw [this] at h
        rw [hd2]
        exact h

theorem ncounts_j1 (a0 x : ByteArray) (ls : List Bytes) (h : nm (B a0) = some ls) (hx : 1 ≤ x.size) (hx2 : x.size ≤ 40) (hs : a0.size + x.size ≤ 200) : Ev (fun k => wimplelaw1_NameCounts.j1 k a0 x false) true := by
  obtain ⟨hg, hw, hl⟩ := nm_some.1 h
  have hs0 := sz a0
  have hsx := sz x
  have hgx : Good (B x :: ls) := by
    intro l hl
    rcases List.mem_cons.1 hl with rfl | hl
    · omega
    · exact hg l hl
  have hwx : wire (B x :: ls) = UInt8.ofNat (B x).length :: (B x ++ B a0) := by rw [wire, hw]
  have hnx : nm (wire (B x :: ls)) = some (B x :: ls) := nm_wire hgx (by rw [hwx]; simp only [List.length_cons, List.length_append]; omega)
  have hone : strOfNums [((x.size : Int)) % 256] = mkB [UInt8.ofNat (B x).length] := by
    apply B_inj
    rw [B_strOfNums, B_mk, hsx]
    simp only [List.map_cons, List.map_nil, List.cons.injEq, and_true]
    congr 1
    omega
  have ht : (strOfNums [((x.size : Int)) % 256] ++ x) ++ a0 = mkB (wire (B x :: ls)) := by
    apply B_inj
    rw [B_append, B_append, hone, B_mk, B_mk, hwx]
    simp
  have hT0 := Text_ev a0
  rw [textS_some h] at hT0
  have hTx := Text_ev (mkB (wire (B x :: ls)))
  rw [B_mk, textS_some hnx] at hTx
  have hC0 := Count_ev a0
  have hc0 : cnt (B a0) = (ls.length : Int) := by unfold cnt; rw [h]
  rw [hc0] at hC0
  have hCx := Count_ev (mkB (wire (B x :: ls)))
  have hcx : cnt (wire (B x :: ls)) = ((ls.length + 1 : Nat) : Int) := by unfold cnt; rw [hnx]; rfl
  rw [B_mk, hcx] at hCx
  have hMx := May_ev (mkB (wire (B x :: ls)))
  rw [B_mk, hnx] at hMx
  have hcl := nm_count h
  refine Ev.step (fun k => by simp only [wimplelaw1_NameCounts.j1]; rfl) ?_
  refine Ev.neg (by simp) (Ev.bindp rfl (Ev.pos (by rw [strOfNums_size]; simp only [List.length_cons, List.length_nil]; omega) (Ev.pos ?_ ?_)))
  · rw [hone]
    have e1 := sz (mkB [UInt8.ofNat (B x).length] ++ x)
    rw [B_append, List.length_append, B_mk] at e1
    simp only [List.length_cons, List.length_nil] at e1
    omega
  simp only [ht]
  refine Ev.bind hT0 (Ev.bind hTx (Ev.bindp rfl (Ev.pos rfl (Ev.bindp rfl (Ev.pos rfl (Ev.bind hCx (Ev.bind hC0 (Ev.pos (w_succ ls.length (by omega)).symm (Ev.bind hMx ?_)))))))))
  refine Ev.step (fun k => by simp only [wimplelaw1_NameCounts.j2]; rfl) ?_
  refine Ev.neg (by simp) ?_
  have htx : text (B x :: ls) = escs (B x) ++ (46 :: textL ls) := by unfold text; rw [if_neg (by simp)]; simp [textL]
  have hlx : (text (B x :: ls)).length ≤ 1000000 := by
    have := textL_len (B x :: ls) (fun l hl => by have := hgx l hl; omega)
    unfold text
    rw [if_neg (by simp)]
    simp only [List.length_cons] at this
    omega
  have hd0 : dots (text (B x :: ls)) = ls.length + 1 := by
    unfold text
    rw [if_neg (by simp), dots_textL]
    rfl
  have hsT := sz_mk (text (B x :: ls))
  refine ncounts_loop a0 _ _ (mkB (text (B x :: ls))) (by rw [hsT]; exact hlx) true _ 0 0 rfl (by omega) (by omega) ?_
  rw [List.drop_zero, B_mk, hd0, Nat.zero_add]
  refine Ev.step (fun k => by simp only [wimplelaw1_NameCounts.l0]; rfl) ?_
  refine Ev.neg (by omega) (Ev.bind hCx (Ev.pos rfl ?_))
  have hlen : (text (B x :: ls)).length = (escs (B x)).length + (1 + (textL ls).length) := by rw [htx]; simp; omega
  by_cases hroot : a0.toList = ([0] : List UInt8)
  · refine Ev.pos hroot ?_
    rw [toL] at hroot
    have hls : ls = [] := by
      have h2 : nm [0] = some [] := nm_some.2 ⟨fun l hl => by simp at hl, rfl, by decide⟩
      rw [hroot, h2] at h
      exact (Option.some.inj h).symm
    subst hls
    have hlen2 : (text (B x :: [])).length = (escs (B x)).length + 1 := by rw [hlen]; rfl
    have e1 : wrap64 (((mkB (text (B x :: []))).size : Int) - 1) = (((escs (B x)).length : Nat) : Int) := by rw [hsT, hlen2]; exact w_pred _ (by omega)
    simp only [e1]
    clear e1
    refine Ev.pos (by omega) (Ev.pos (by omega) (Ev.pos ?_ (Ev.pure _)))
    have hdr : (B (mkB (text (B x :: [])))).drop (escs (B x)).length = 46 :: [] := by rw [B_mk, htx, List.drop_left' rfl]; rfl
    exact (bt_drop _ _ _ _ hdr).1
  · refine Ev.neg hroot ?_
    have hls : ls ≠ [] := by
      rintro rfl
      rw [toL] at hroot
      exact hroot (by rw [← hw]; rfl)
    have hta : text ls = textL ls := by unfold text; rw [if_neg hls]
    have hsA := sz_mk (text ls)
    rw [hta] at hsA
    have e1 : wrap64 (((mkB (text (B x :: ls))).size : Int) - ((mkB (text ls)).size : Int)) = (((escs (B x)).length + 1 : Nat) : Int) := by
      rw [hsT, hta, hsA, hlen, w64 _ (by omega)]
      omega
    simp only [e1]
    clear e1
    rw [hta]
    refine Ev.pos (by rw [hsT, hsA]; omega) (Ev.pos (by omega) (Ev.pos (by rw [hsT]; omega) (Ev.eq (Ev.pure _) ?_)))
    rw [toL, toL, B_extract, B_mk, B_mk, Int.toNat_natCast, hsT]
    rw [htx, ← List.drop_drop, List.drop_left' rfl]
    simp only [List.drop_succ_cons, List.drop_zero, beq_iff_eq]
    rw [List.take_of_length_le]
    simp only [List.length_append, List.length_cons]
    omega

theorem ncounts_j0 (a0 x : ByteArray) (h0 : a0.size ≤ 140737488351232) (hx2 : x.size ≤ 40) : Ev (fun k => wimplelaw1_NameCounts.j0 k a0 x) true := by
  have j1t : Ev (fun k => wimplelaw1_NameCounts.j1 k a0 x true) true := Ev.step (fun k => by simp only [wimplelaw1_NameCounts.j1]; rfl) (Ev.pos trivial (Ev.pure _))
  refine Ev.step (fun k => by simp only [wimplelaw1_NameCounts.j0]; rfl) ?_
  refine Ev.bind (May_ev a0) ?_
  cases h : nm (B a0) with
  | none => exact Ev.neg (by simp) j1t
  | some ls =>
    refine Ev.pos rfl ?_
    by_cases he : x.toList = ([] : List UInt8)
    · exact Ev.pos he j1t
    · refine Ev.neg he ?_
      rw [toL] at he
      have hsx := sz x
      have hp := List.length_pos_iff.2 he
      by_cases hbig : a0.size + x.size > 200
      · have : decide ((wrap64 ((a0.size : Int) + (x.size : Int))) > 200) = true := decide_eq_true (by rw [w_add _ _ (by omega) (by omega)]; omega)
        rw [this]
        exact j1t
      · have : decide ((wrap64 ((a0.size : Int) + (x.size : Int))) > 200) = false := decide_eq_false (by rw [w_add _ _ (by omega) (by omega)]; omega)
        rw [this]
        exact ncounts_j1 a0 x ls h (by omega) hx2 (by omega)

theorem NameCounts_pure : wimplelaw1_NameCounts.Pure := by
  intro a0 a1 h0 h1
  apply Ev.rounds
  unfold wimplelaw1_NameCounts.f
  refine Ev.bind awake_ev (Ev.pos rfl ?_)
  by_cases h : (a1.size : Int) > 40
  · refine Ev.pos h (Ev.pos (by omega) (Ev.pos (by omega) (ncounts_j0 a0 _ h0 ?_)))
    rw [sz, B_extract, List.drop_zero]
    exact List.length_take_le _ _
  · exact Ev.neg h (ncounts_j0 a0 a1 h0 (by omega))

end Go.Proofs.Ytefmomphapjfiaa.M
