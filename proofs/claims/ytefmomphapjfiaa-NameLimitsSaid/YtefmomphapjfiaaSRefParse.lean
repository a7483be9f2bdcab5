/- What the reference's Parse answers: the same. -/
import Derived.Test.YtefmomphapjfiaaSParse
import Derived.Test.YtefmomphapjfiaaPx5

namespace Go.Proofs.Ytefmomphapjfiaa.M
open Go Go.RowKit Go.Proofs.YtefmomphapjfiaaW.PrintWords Go.Proofs.Ytefmomphapjfiaa.P

/-- What is answered at the end. -/
def fin (t : ByteArray) (out : List Int) : ByteArray × Int := if (textS (B (strOfNums out) ++ [0])).2 = 0 ∧ B (textS (B (strOfNums out) ++ [0])).1 = B t then (mkB (B (strOfNums out) ++ [0]), 0) else (mkB [], 100)

theorem fin_none {t : ByteArray} (h : prs (B t) = none) (out : List Int) : fin t out = (mkB [], 100) := by
  unfold fin
  rw [if_neg]
  rintro ⟨h0, h1⟩
  obtain ⟨ls, hls, _⟩ := checked h0 h1
  rw [h] at hls
  cases hls

theorem ref_end (t : ByteArray) (hne : B t ≠ [46]) (out label : List Int) (i : Nat) (h : t.size ≤ i ∨ 255 < out.length) (hl : out.length ≤ 140737488355328) : Ev (fun k => wimpleref1_Parse.l0 k t out label (i : Int)) (fin t out) := by
  have hj : Ev (fun k => wimpleref1_Parse.j1 k t out label (i : Int) false) (fin t out) := by
    refine Ev.step (fun k => by simp only [wimpleref1_Parse.j1]; rfl) ?_
    refine Ev.neg (by simp) (Ev.pos (by rw [strOfNums_size]; omega) (Ev.neg (by rw [toL]; exact hne) ?_))
    have hT := refText_ev (strOfNums out ++ (⟨#[0]⟩ : ByteArray))
    have e : B (strOfNums out ++ (⟨#[0]⟩ : ByteArray)) = B (strOfNums out) ++ [0] := B_append _ _
    rw [e] at hT
    refine Ev.bind hT ?_
    unfold fin
    by_cases h0 : (textS (B (strOfNums out) ++ [0])).2 = 0
    · refine Ev.pos h0 ?_
      by_cases h1 : B (textS (B (strOfNums out) ++ [0])).1 = B t
      · refine Ev.pos (by rw [toL, toL]; exact h1) (Ev.eq (Ev.pure _) ?_)
        rw [if_pos ⟨h0, h1⟩]
        simp only [Prod.mk.injEq, and_true]
        exact B_inj (by rw [B_append]; rfl)
      · refine Ev.neg (by rw [toL, toL]; exact h1) (Ev.eq (Ev.pure _) ?_)
        rw [if_neg (fun q => h1 q.2)]
        rfl
    · refine Ev.neg h0 (Ev.eq (Ev.pure _) ?_)
      rw [if_neg (fun q => h0 q.1)]
      rfl
  refine Ev.step (fun k => by simp only [wimpleref1_Parse.l0]; rfl) ?_
  by_cases hlt : (i : Int) < (t.size : Int)
  · refine Ev.pos hlt ?_
    have : decide ((out.length : Int) ≤ 255) = false := decide_eq_false (by omega)
    rw [this]
    exact hj
  · exact Ev.neg hlt hj

theorem ref_j (t : ByteArray) (out label : List Int) (i : Nat) (hi : i < t.size) (ho : out.length ≤ 255) (r : ByteArray × Int) (h : Ev (fun k => wimpleref1_Parse.j1 k t out label (i : Int) true) r) : Ev (fun k => wimpleref1_Parse.l0 k t out label (i : Int)) r := by
  refine Ev.step (fun k => by simp only [wimpleref1_Parse.l0]; rfl) ?_
  refine Ev.pos (by omega) ?_
  have : decide ((out.length : Int) ≤ 255) = true := decide_eq_true (by omega)
  rw [this]
  exact h

theorem ref_any (t : ByteArray) (hs : t.size ≤ 140737488351232) (hne : B t ≠ [46]) : ∀ (d i : Nat) (out label : List Int), t.size - i ≤ d → out.length + label.length ≤ i → i ≤ t.size + 4 →
    ∃ r, Ev (fun k => wimpleref1_Parse.l0 k t out label (i : Int)) r ∧ (r = (mkB [], 100) ∨ ∃ o, r = fin t o) := by
  intro d
  induction d with
  | zero =>
    intro i out label hd ho hi
    exact ⟨_, ref_end t hne out label i (.inl (by omega)) (by omega), .inr ⟨_, rfl⟩⟩
  | succ d ih =>
    intro i out label hd ho hi
    by_cases hc : i < t.size ∧ out.length ≤ 255
    · obtain ⟨hlt, ho2⟩ := hc
      by_cases hdot : bt t (i : Int) = 46
      · by_cases hl : (label.length : Int) > 255
        · refine ⟨_, ref_j t out label i hlt ho2 (mkB [], 100) ?_, .inl rfl⟩
          refine Ev.step (fun k => by simp only [wimpleref1_Parse.j1]; rfl) ?_
          exact Ev.pos trivial (Ev.pos (by omega) (Ev.pos (by omega) (Ev.pos hdot (Ev.pos hl (Ev.pure _)))))
        · obtain ⟨r, hr, hq⟩ := ih (i + 1) ((out ++ [((label.length : Int)) % 256]) ++ label) [] (by omega) (by simp; omega) (by omega)
          refine ⟨r, ref_j t out label i hlt ho2 r ?_, hq⟩
          refine Ev.step (fun k => by simp only [wimpleref1_Parse.j1]; rfl) ?_
          refine Ev.pos trivial (Ev.pos (by omega) (Ev.pos (by omega) (Ev.pos hdot (Ev.neg hl (Ev.pos (by omega) (Ev.bindp rfl (Ev.pos (by simp; omega) ?_)))))))
          simp only [w_succ i (by omega)]
          exact hr
      · have plainstep : ∃ r, Ev (fun k => wimpleref1_Parse.l0 k t out (label ++ [bt t (i : Int)]) (wrap64 ((i : Int) + 1))) r ∧ (r = (mkB [], 100) ∨ ∃ o, r = fin t o) := by
          obtain ⟨r, hr, hq⟩ := ih (i + 1) out (label ++ [bt t (i : Int)]) (by omega) (by simp; omega) (by omega)
          refine ⟨r, ?_, hq⟩
          simp only [w_succ i (by omega)]
          exact hr
        by_cases hmark : bt t (i : Int) = 92
        · by_cases h3 : i + 3 < t.size
          · have e3 : wrap64 ((i : Int) + 3) = ((i + 3 : Nat) : Int) := w_add i 3 (by omega) (by omega)
            have e2 : wrap64 ((i : Int) + 2) = ((i + 2 : Nat) : Int) := w_add i 2 (by omega) (by omega)
            obtain ⟨r, hr, hq⟩ : ∃ r, Ev (fun k => wimpleref1_Parse.l0 k t out (label ++ [(wrap64 ((wrap64 ((wrap64 ((wrap64 (100 * (wrap64 ((wrap64 (bt t ((i + 1 : Nat) : Int))) - 48)))) + (wrap64 (10 * (wrap64 ((wrap64 (bt t ((i + 2 : Nat) : Int))) - 48)))))) + (wrap64 (bt t ((i + 3 : Nat) : Int))))) - 48)) % 256]) ((i + 3 + 1 : Nat) : Int)) r ∧ (r = (mkB [], 100) ∨ ∃ o, r = fin t o) := by
              clear e2 e3
              exact ih (i + 3 + 1) out _ (by omega) (by simp; omega) (by omega)
            refine ⟨r, ref_j t out label i hlt ho2 r ?_, hq⟩
            refine Ev.step (fun k => by simp only [wimpleref1_Parse.j1]; rfl) ?_
            simp only [e3, e2]
            clear e3 e2
            simp only [w_succ i (by omega), w_succ (i + 3) (by omega)]
            refine Ev.pos trivial (Ev.pos (by omega) (Ev.pos (by omega) (Ev.neg hdot (Ev.pos hmark (Ev.pos (by omega) (Ev.pos (by omega) (Ev.pos (by omega) (Ev.pos (by omega) (Ev.pos (by omega) (Ev.pos (by omega) (Ev.pos (by omega) hr)))))))))))
          · obtain ⟨r, hr, hq⟩ := plainstep
            have e3 : ¬ (wrap64 ((i : Int) + 3) < (t.size : Int)) := by
              rw [show (i : Int) + 3 = ((i : Int) + ((3 : Nat) : Int)) from rfl, w_add i 3 (by omega) (by omega)]
              omega
            refine ⟨r, ref_j t out label i hlt ho2 r ?_, hq⟩
            refine Ev.step (fun k => by simp only [wimpleref1_Parse.j1]; rfl) ?_
            exact Ev.pos trivial (Ev.pos (by omega) (Ev.pos (by omega) (Ev.neg hdot (Ev.pos hmark (Ev.neg e3 (Ev.pos (by omega) hr))))))
        · obtain ⟨r, hr, hq⟩ := plainstep
          refine ⟨r, ref_j t out label i hlt ho2 r ?_, hq⟩
          refine Ev.step (fun k => by simp only [wimpleref1_Parse.j1]; rfl) ?_
          exact Ev.pos trivial (Ev.pos (by omega) (Ev.pos (by omega) (Ev.neg hdot (Ev.neg hmark (Ev.pos (by omega) hr)))))
    · exact ⟨_, ref_end t hne out label i (by omega) (by omega), .inr ⟨_, rfl⟩⟩

theorem ref_esc (s : ByteArray) (hs : s.size ≤ 140737488351232) (c : UInt8) (x : UInt8) (rest : Bytes) (O L : Bytes) (i : Nat) (h : (B s).drop i = esc c ++ x :: rest) (hL : L.length ≤ 200) (hO : O.length ≤ 255) (r : ByteArray × Int)
    (hn : Ev (fun k => wimpleref1_Parse.l0 k s (toI O) (toI (L ++ [c])) ((i + (esc c).length : Nat) : Int)) r) : Ev (fun k => wimpleref1_Parse.l0 k s (toI O) (toI L) (i : Int)) r := by
  have hsz := sz s
  unfold esc at h hn
  by_cases hp : plain c = true
  · rw [if_pos hp] at h hn
    obtain ⟨hb, hlt, _⟩ := bt_drop s i c (x :: rest) h
    simp only [plain, decide_eq_true_eq] at hp
    refine ref_j s _ _ i hlt (by rw [toI_length]; exact hO) r ?_
    refine Ev.step (fun k => by simp only [wimpleref1_Parse.j1]; rfl) (Ev.pos trivial (Ev.pos (by omega) (Ev.pos (by omega) (Ev.neg (by omega) (Ev.neg (by omega) (Ev.pos (by rw [toI_length]; omega) ?_))))))
    simp only [w_succ i (by omega), hb]
    rw [toI_append] at hn
    exact hn
  · rw [if_neg hp] at h hn
    have hlen := congrArg List.length h
    simp only [List.length_drop, List.length_append, List.length_cons, List.length_nil] at hlen
    obtain ⟨hb, hlt, hd⟩ := bt_drop s i _ _ h
    obtain ⟨b0, _, hd0⟩ := bt_drop s (i + 1) _ _ hd
    obtain ⟨b1, _, hd1⟩ := bt_drop s (i + 1 + 1) _ _ hd0
    obtain ⟨b2, _, hd2⟩ := bt_drop s (i + 1 + 1 + 1) _ _ hd1
    have hb2 : bt s (i : Int) = 92 := hb
    have hc := c.toNat_lt
    obtain ⟨d1, d2, d3⟩ := esc_digits c
    rw [d1] at b0
    rw [d2] at b1
    rw [d3] at b2
    have val : (wrap64 ((wrap64 ((wrap64 ((wrap64 (100 * (wrap64 ((wrap64 (bt s ((i + 1 : Nat) : Int))) - 48)))) + (wrap64 (10 * (wrap64 ((wrap64 (bt s ((i + 2 : Nat) : Int))) - 48)))))) + (wrap64 (bt s ((i + 3 : Nat) : Int))))) - 48)) % 256 = (c.toNat : Int) := by
      rw [show bt s ((i + 1 : Nat) : Int) = ((48 + c.toNat / 100 : Nat) : Int) from b0, show bt s ((i + 2 : Nat) : Int) = ((48 + c.toNat / 10 % 10 : Nat) : Int) from b1, show bt s ((i + 3 : Nat) : Int) = ((48 + c.toNat % 10 : Nat) : Int) from b2]
      clear b0 b1 b2 d1 d2 d3 hb hb2
      rw [w64 ((48 + c.toNat / 100 : Nat) : Int) (by omega), w64 ((48 + c.toNat / 10 % 10 : Nat) : Int) (by omega), w64 ((48 + c.toNat % 10 : Nat) : Int) (by omega), w64 (((48 + c.toNat / 100 : Nat) : Int) - 48) (by omega), w64 (((48 + c.toNat / 10 % 10 : Nat) : Int) - 48) (by omega), w64 (100 * _) (by omega), w64 (10 * _) (by omega)]
      rw [w64 (_ + 10 * _) (by omega), w64 (_ + ((48 + c.toNat % 10 : Nat) : Int)) (by omega), w64 _ (by omega)]
      have hdd : c.toNat / 10 / 10 = c.toNat / 100 := Nat.div_div_eq_div_mul _ _ _
      omega
    clear b0 b1 b2 d1 d2 d3
    refine ref_j s _ _ i hlt (by rw [toI_length]; exact hO) r ?_
    refine Ev.step (fun k => by simp only [wimpleref1_Parse.j1]; rfl) ?_
    have e3 : wrap64 ((i : Int) + 3) = ((i + 3 : Nat) : Int) := w_add i 3 (by clear val; omega) (by decide)
    have e2 : wrap64 ((i : Int) + 2) = ((i + 2 : Nat) : Int) := w_add i 2 (by clear val e3; omega) (by decide)
    have e1 : wrap64 ((i : Int) + 1) = ((i + 1 : Nat) : Int) := w_succ i (by clear val e3 e2; omega)
    have e4 : wrap64 (((i + 3 : Nat) : Int) + 1) = ((i + 4 : Nat) : Int) := w_succ (i + 3) (by clear val e3 e2 e1; omega)
    simp only [e3, e2, e1, e4, val]
    clear e3 e2 e1 e4 val
    refine Ev.pos trivial (Ev.pos (by omega) (Ev.pos (by omega) (Ev.neg (by omega) (Ev.pos hb2 (Ev.pos (by omega) (Ev.pos (by omega) (Ev.pos (by omega) (Ev.pos (by omega) (Ev.pos (by omega) (Ev.pos (by omega) (Ev.pos (by rw [toI_length]; omega) ?_)))))))))))
    refine Ev.congr (fun k => ?_) hn
    rw [toI_append]
    rfl

theorem ref_escs (s : ByteArray) (hs : s.size ≤ 140737488351232) (O : Bytes) (hO : O.length ≤ 255) (r : ByteArray × Int) (y : UInt8) : ∀ (l rest L : Bytes) (i : Nat), (B s).drop i = escs l ++ y :: rest → L.length + l.length ≤ 200 →
    Ev (fun k => wimpleref1_Parse.l0 k s (toI O) (toI (L ++ l)) ((i + (escs l).length : Nat) : Int)) r → Ev (fun k => wimpleref1_Parse.l0 k s (toI O) (toI L) (i : Int)) r := by
  intro l
  induction l with
  | nil =>
    intro rest L i h hL hn
    simpa [escs] using hn
  | cons c l ih =>
    intro rest L i h hL hn
    have e : escs (c :: l) = esc c ++ escs l := by simp [escs]
    rw [e, List.append_assoc] at h
    simp only [List.length_cons] at hL
    obtain ⟨x, q, hx⟩ : ∃ x q, escs l ++ y :: rest = x :: q := by
      cases he : escs l with
      | nil => exact ⟨y, rest, rfl⟩
      | cons x q => exact ⟨x, q ++ y :: rest, rfl⟩
    refine ref_esc s hs c x q O L i (by rw [← hx]; exact h) (by omega) hO r ?_
    refine ih rest (L ++ [c]) (i + (esc c).length) ?_ (by simp; omega) ?_
    · rw [← List.drop_drop, h, List.drop_left' rfl]
    · rw [e, List.length_append] at hn
      rw [List.append_assoc, Nat.add_assoc]
      exact hn

theorem ref_ls (s : ByteArray) (hs : s.size ≤ 140737488351232) (hne : B s ≠ [46]) : ∀ (ls : List Bytes) (O : Bytes) (i : Nat), Good ls → (B s).drop i = textL ls → O.length + (wire ls).length ≤ 255 →
    Ev (fun k => wimpleref1_Parse.l0 k s (toI O) (toI []) (i : Int)) (fin s (toI (O ++ body ls))) := by
  intro ls
  have hsz := sz s
  induction ls with
  | nil =>
    intro O i hg h hO
    simp only [textL, List.flatMap_nil, List.drop_eq_nil_iff] at h
    have hb : O ++ body [] = O := by simp [body]
    rw [hb]
    exact ref_end s hne _ _ i (.inl (by omega)) (by rw [toI_length]; omega)
  | cons l ls ih =>
    intro O i hg h hO
    have hl := hg l (by simp)
    have hg2 : Good ls := fun x hx => hg x (by simp [hx])
    have e : textL (l :: ls) = escs l ++ (46 :: textL ls) := by simp [textL]
    rw [e] at h
    simp only [wire, List.length_cons, List.length_append] at hO
    refine ref_escs s hs O (by omega) _ 46 l (textL ls) [] i h (by simp only [List.length_nil]; omega) ?_
    rw [List.nil_append]
    have hd : (B s).drop (i + (escs l).length) = 46 :: textL ls := by rw [← List.drop_drop, h, List.drop_left' rfl]
    obtain ⟨hb, hlt, hd2⟩ := bt_drop s _ _ _ hd
    have hb2 : bt s ((i + (escs l).length : Nat) : Int) = 46 := hb
    have hr := ih (O ++ UInt8.ofNat l.length :: l) (i + (escs l).length + 1) hg2 hd2 (by simp; omega)
    refine ref_j s _ _ _ hlt (by rw [toI_length]; omega) _ ?_
    refine Ev.step (fun k => by simp only [wimpleref1_Parse.j1]; rfl) (Ev.pos trivial (Ev.pos (by omega) (Ev.pos (by omega) (Ev.pos hb2 (Ev.neg (by rw [toI_length]; omega) (Ev.pos (by rw [toI_length]; omega) (Ev.bindp rfl (Ev.pos (by simp only [List.length_append, toI_length, List.length_cons, List.length_nil]; omega) ?_))))))))
    simp only [w_succ (i + (escs l).length) (by omega)]
    have ho : (toI O ++ [((toI l).length : Int) % 256]) ++ toI l = toI (O ++ UInt8.ofNat l.length :: l) := by
      rw [toI_append, toI_length, List.append_assoc]
      congr 1
    have hw2 : (O ++ UInt8.ofNat l.length :: l) ++ body ls = O ++ body (l :: ls) := by simp [body]
    rw [hw2] at hr
    simp only [ho]
    exact hr

theorem refParse_ev (t : ByteArray) (hs : t.size ≤ 140737488351232) : Ev (fun k => wimpleref1_Parse.f k t) (parseS (B t)) := by
  unfold wimpleref1_Parse.f
  have hsz := sz t
  by_cases hd : B t = [46]
  · have hp : parseS (B t) = (mkB [0], 0) := by
      unfold parseS
      rw [hd, prs_dot]
      rfl
    rw [hp]
    rw [hd] at hsz
    simp only [List.length_cons, List.length_nil] at hsz
    obtain ⟨hb, _, _⟩ := bt_drop t 0 46 [] (by rw [List.drop_zero]; exact hd)
    refine ref_j t [] [] 0 (by omega) (by simp) _ ?_
    refine Ev.step (fun k => by simp only [wimpleref1_Parse.j1]; rfl) ?_
    refine Ev.pos trivial (Ev.pos (by omega) (Ev.pos (by omega) (Ev.pos hb (Ev.neg (by simp) (Ev.pos (by simp) (Ev.bindp rfl (Ev.pos (by simp) ?_)))))))
    simp only [w_succ 0 (by omega)]
    refine Ev.step (fun k => by simp only [wimpleref1_Parse.l0]; rfl) ?_
    refine Ev.neg (by omega) ?_
    refine Ev.step (fun k => by simp only [wimpleref1_Parse.j1]; rfl) ?_
    refine Ev.neg (by simp) (Ev.pos (by rw [strOfNums_size]; simp) (Ev.pos (by rw [toL]; exact hd) ?_))
    have hT := refText_ev (⟨#[0]⟩ : ByteArray)
    refine Ev.bind hT ?_
    have hx : textS (B (⟨#[0]⟩ : ByteArray)) = (mkB [46], 0) := by
      unfold textS
      rw [show nm (B (⟨#[0]⟩ : ByteArray)) = some [] from nm_some.2 ⟨fun l hl => by simp at hl, rfl, by decide⟩]
      rfl
    rw [hx]
    exact Ev.pos rfl (Ev.pos (by rw [toL, toL, hd]; rfl) (Ev.pure _))
  · cases h : prs (B t) with
    | some ls =>
      obtain ⟨hg, hl, ht⟩ := prs_some.1 h
      have hn : ls ≠ [] := by
        rintro rfl
        exact hd ht.symm
      have hx : B t = textL ls := by
        rw [← ht]
        unfold text
        rw [if_neg hn]
      have := ref_ls t hs hd ls [] 0 hg (by rw [List.drop_zero]; exact hx) (by simpa using hl)
      refine Ev.eq this ?_
      have hb : B (strOfNums (toI ([] ++ body ls))) ++ [0] = wire ls := by rw [List.nil_append, strOf_toI, B_mk, wire_body]
      unfold fin parseS
      rw [hb, h]
      have hT : textS (wire ls) = (mkB (text ls), 0) := by
        unfold textS
        rw [nm_wire hg hl]
      rw [hT, if_pos ⟨rfl, by rw [B_mk, ht]⟩]
    | none =>
      obtain ⟨r, hr, hq⟩ := ref_any t hs hd t.size 0 [] [] (by omega) (by simp) (by omega)
      refine Ev.eq hr ?_
      unfold parseS
      rw [h]
      rcases hq with rfl | ⟨o, rfl⟩
      · rfl
      · rw [fin_none h]

end Go.Proofs.Ytefmomphapjfiaa.M
