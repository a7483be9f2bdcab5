/- What name.Parse answers: the name whose text it is, if there is one. -/
import Derived.Test.YtefmomphapjfiaaSText
import Derived.Test.YtefmomphapjfiaaPx3
import Derived.Test.YtefmomphapjfiaaPx4

namespace Go.Proofs.Ytefmomphapjfiaa.M
open Go Go.RowKit Go.Proofs.YtefmomphapjfiaaW.PrintWords Go.Proofs.Ytefmomphapjfiaa.P

open Classical in
/-- The labels of the name whose text this is. -/
noncomputable def prs (t : Bytes) : Option (List Bytes) := if h : ∃ ls, Good ls ∧ (wire ls).length ≤ 255 ∧ text ls = t then some h.choose else none

theorem prs_some {t : Bytes} {ls : List Bytes} : prs t = some ls ↔ Good ls ∧ (wire ls).length ≤ 255 ∧ text ls = t := by
  unfold prs
  constructor
  · intro h
    by_cases hx : ∃ ls, Good ls ∧ (wire ls).length ≤ 255 ∧ text ls = t
    · rw [dif_pos hx] at h
      have := hx.choose_spec
      rw [Option.some.inj h] at this
      exact this
    · rw [dif_neg hx] at h
      cases h
  · intro h
    have hx : ∃ ls, Good ls ∧ (wire ls).length ≤ 255 ∧ text ls = t := ⟨ls, h⟩
    rw [dif_pos hx]
    have := hx.choose_spec
    rw [text_inj this.1 h.1 (this.2.2.trans h.2.2.symm)]

theorem prs_none {t : Bytes} (h : prs t = none) (ls : List Bytes) (hg : Good ls) (hl : (wire ls).length ≤ 255) : text ls ≠ t := by
  intro e
  have := prs_some.2 ⟨hg, hl, e⟩
  rw [h] at this
  cases this

theorem prs_text {s : Bytes} {ls : List Bytes} (h : nm s = some ls) : prs (text ls) = some ls := by
  obtain ⟨hg, hw, hl⟩ := nm_some.1 h
  exact prs_some.2 ⟨hg, by rw [hw]; exact hl, rfl⟩

theorem prs_nm {t : Bytes} {ls : List Bytes} (h : prs t = some ls) : nm (wire ls) = some ls := by
  obtain ⟨hg, hl, _⟩ := prs_some.1 h
  exact nm_wire hg hl

theorem prs_dot : prs [46] = some [] := prs_some.2 ⟨fun l hl => by simp at hl, by simp [wire], rfl⟩

/-- What Parse answers. -/
noncomputable def parseS (t : Bytes) : ByteArray × Int := match prs t with
  | some ls => (mkB (wire ls), 0)
  | none => (mkB [], 100)

/-- A text that was checked. -/
theorem checked {t n : Bytes} (h0 : (textS n).2 = 0) (h1 : B (textS n).1 = t) : ∃ ls, prs t = some ls ∧ wire ls = n := by
  unfold textS at h0 h1
  cases h : nm n with
  | none => rw [h] at h0; cases h0
  | some ls =>
    rw [h] at h1
    subst h1
    exact ⟨ls, prs_text h, (nm_some.1 h).2.1⟩

theorem escaped_l0 (s : ByteArray) (h3 : 3 ≤ s.size) : ∀ (d i : Nat) (x : Int), 3 - i = d → i ≤ 3 → ∃ r, Ev (fun k => name_escaped.l0 k s x (i : Int)) r := by
  intro d
  induction d with
  | zero =>
    intro i x hd hi
    obtain rfl : i = 3 := by omega
    exact ⟨_, Ev.step (fun k => by simp only [name_escaped.l0]; rfl) (Ev.neg (by omega) (Ev.pure _))⟩
  | succ d ih =>
    intro i x hd hi
    by_cases h1 : bt s (i : Int) < 48
    · exact ⟨_, Ev.step (fun k => by simp only [name_escaped.l0]; rfl) (Ev.pos (by omega) (Ev.pos (by omega) (Ev.pos (by omega) (Ev.pos h1 (Ev.pure _)))))⟩
    · by_cases h2 : bt s (i : Int) > 57
      · exact ⟨_, Ev.step (fun k => by simp only [name_escaped.l0]; rfl) (Ev.pos (by omega) (Ev.pos (by omega) (Ev.pos (by omega) (Ev.neg h1 (Ev.pos h2 (Ev.pure _))))))⟩
      · obtain ⟨r, hr⟩ := ih (i + 1) (wrap64 ((wrap64 (10 * x)) + (((bt s (i : Int)) - 48) % 256))) (by omega) (by omega)
        refine ⟨r, Ev.step (fun k => by simp only [name_escaped.l0]; rfl) (Ev.pos (by omega) (Ev.pos (by omega) (Ev.pos (by omega) (Ev.neg h1 (Ev.neg h2 ?_)))))⟩
        simp only [w_succ i (by omega)]
        exact hr

theorem escaped_any (s : ByteArray) : ∃ r, Ev (fun k => name_escaped.f k s) r := by
  unfold name_escaped.f
  by_cases h : (s.size : Int) < 3
  · exact ⟨_, Ev.pos h (Ev.pure _)⟩
  · obtain ⟨r, hr⟩ := escaped_l0 s (by omega) 3 0 0 (by omega) (by omega)
    exact ⟨r, Ev.neg h hr⟩

theorem escaped_digits (s : ByteArray) (c : UInt8) (r : Bytes) (h : B s = (48 + c / 100) :: (48 + c / 10 % 10) :: (48 + c % 10) :: r) : Ev (fun k => name_escaped.f k s) ((c.toNat : Int), true) := by
  have hsz := sz s
  rw [h] at hsz
  simp only [List.length_cons] at hsz
  have hc := c.toNat_lt
  obtain ⟨d1, d2, d3⟩ := esc_digits c
  obtain ⟨b0, _, e0⟩ := bt_drop s 0 _ _ (by rw [List.drop_zero]; exact h)
  obtain ⟨b1, _, e1⟩ := bt_drop s 1 _ _ e0
  obtain ⟨b2, _, e2⟩ := bt_drop s 2 _ _ e1
  rw [d1] at b0
  rw [d2] at b1
  rw [d3] at b2
  clear e0 e1 e2 d1 d2 d3
  unfold name_escaped.f
  refine Ev.neg (by omega) ?_
  have c0 : (bt s 0 - 48) % 256 = (c.toNat : Int) / 100 := by rw [show bt s 0 = ((48 + c.toNat / 100 : Nat) : Int) from b0]; omega
  have c1 : (bt s 1 - 48) % 256 = (c.toNat : Int) / 10 % 10 := by rw [show bt s 1 = ((48 + c.toNat / 10 % 10 : Nat) : Int) from b1]; omega
  have c2 : (bt s 2 - 48) % 256 = (c.toNat : Int) % 10 := by rw [show bt s 2 = ((48 + c.toNat % 10 : Nat) : Int) from b2]; omega
  have g0 : ¬ (bt s 0 < 48) ∧ ¬ (bt s 0 > 57) := by rw [show bt s 0 = ((48 + c.toNat / 100 : Nat) : Int) from b0]; omega
  have g1 : ¬ (bt s 1 < 48) ∧ ¬ (bt s 1 > 57) := by rw [show bt s 1 = ((48 + c.toNat / 10 % 10 : Nat) : Int) from b1]; omega
  have g2 : ¬ (bt s 2 < 48) ∧ ¬ (bt s 2 > 57) := by rw [show bt s 2 = ((48 + c.toNat % 10 : Nat) : Int) from b2]; omega
  clear b0 b1 b2
  refine Ev.step (fun k => by simp only [name_escaped.l0]; rfl) ?_
  refine Ev.pos (by omega) (Ev.pos (by omega) (Ev.pos (by omega) (Ev.neg g0.1 (Ev.neg g0.2 ?_))))
  have s0 : wrap64 (wrap64 (10 * 0) + (bt s 0 - 48) % 256) = (c.toNat : Int) / 100 := by rw [c0, w64 (10 * 0) (by omega), w64 _ (by omega)]; omega
  simp only [s0, show wrap64 (0 + 1) = 1 from by unfold wrap64; decide]
  clear s0 c0 g0
  refine Ev.step (fun k => by simp only [name_escaped.l0]; rfl) ?_
  refine Ev.pos (by omega) (Ev.pos (by omega) (Ev.pos (by omega) (Ev.neg g1.1 (Ev.neg g1.2 ?_))))
  have s1 : wrap64 (wrap64 (10 * ((c.toNat : Int) / 100)) + (bt s 1 - 48) % 256) = 10 * ((c.toNat : Int) / 100) + (c.toNat : Int) / 10 % 10 := by rw [c1, w64 (10 * _) (by omega), w64 _ (by omega)]
  simp only [s1, show wrap64 (1 + 1) = 2 from by unfold wrap64; decide]
  clear s1 c1 g1
  refine Ev.step (fun k => by simp only [name_escaped.l0]; rfl) ?_
  refine Ev.pos (by omega) (Ev.pos (by omega) (Ev.pos (by omega) (Ev.neg g2.1 (Ev.neg g2.2 ?_))))
  have s2 : wrap64 (wrap64 (10 * (10 * ((c.toNat : Int) / 100) + (c.toNat : Int) / 10 % 10)) + (bt s 2 - 48) % 256) = (c.toNat : Int) := by rw [c2, w64 (10 * _) (by omega), w64 _ (by omega)]; omega
  simp only [s2, show wrap64 (2 + 1) = 3 from by unfold wrap64; decide]
  clear s2 c2 g2
  refine Ev.step (fun k => by simp only [name_escaped.l0]; rfl) ?_
  refine Ev.neg (by omega) (Ev.eq (Ev.pure _) ?_)
  simp only [Prod.mk.injEq, decide_eq_true_eq]
  omega

theorem loose_any (s : ByteArray) (hs : s.size ≤ 140737488351232) : ∀ (d i : Nat) (out label : List Int), s.size - i ≤ d → out.length + label.length ≤ i → i ≤ s.size + 4 → ∃ r, Ev (fun k => name_loose.l0 k s out label (i : Int)) r := by
  have ended : ∀ (i : Nat) (out label : List Int), s.size ≤ i → out.length + label.length ≤ i → i ≤ s.size + 4 → ∃ r, Ev (fun k => name_loose.l0 k s out label (i : Int)) r := by
    intro i out label h1 h2 h3
    exact ⟨_, Ev.step (fun k => by simp only [name_loose.l0]; rfl) (Ev.neg (by omega) (Ev.pos (by rw [strOfNums_size]; omega) (Ev.pure _)))⟩
  intro d
  induction d with
  | zero =>
    intro i out label hd ho hi
    exact ended i out label (by omega) ho hi
  | succ d ih =>
    intro i out label hd ho hi
    by_cases hlt : i < s.size
    · by_cases hdot : bt s (i : Int) = 46
      · by_cases hl0 : (label.length : Int) = 0
        · exact ⟨_, Ev.step (fun k => by simp only [name_loose.l0]; rfl) (Ev.pos (by omega) (Ev.pos (by omega) (Ev.pos hdot (Ev.pos hl0 (Ev.pure _)))))⟩
        · by_cases hl63 : (label.length : Int) > 63
          · exact ⟨_, Ev.step (fun k => by simp only [name_loose.l0]; rfl) (Ev.pos (by omega) (Ev.pos (by omega) (Ev.pos hdot (Ev.neg hl0 (Ev.pos hl63 (Ev.pure _))))))⟩
          · obtain ⟨r, hr⟩ := ih (i + 1) ((out ++ [((label.length : Int)) % 256]) ++ label) [] (by omega) (by simp; omega) (by omega)
            refine ⟨r, Ev.step (fun k => by simp only [name_loose.l0]; rfl) (Ev.pos (by omega) (Ev.pos (by omega) (Ev.pos hdot (Ev.neg hl0 (Ev.neg hl63 (Ev.pos (by omega) (Ev.bindp rfl (Ev.pos (by simp; omega) ?_))))))))⟩
            simp only [w_succ i (by omega)]
            exact hr
      · by_cases hmark : bt s (i : Int) = 92
        · obtain ⟨q, hq⟩ := escaped_any (s.extract (i + 1) s.size)
          by_cases hb : q.2 = true
          · obtain ⟨r, hr⟩ := ih (i + 3 + 1) out (label ++ [q.1]) (by omega) (by simp; omega) (by omega)
            refine ⟨r, Ev.step (fun k => by simp only [name_loose.l0]; rfl) ?_⟩
            refine Ev.pos (by omega) (Ev.pos (by omega) (Ev.neg hdot (Ev.pos hmark ?_)))
            simp only [w_succ i (by omega), Int.toNat_natCast]
            refine Ev.pos (by omega) (Ev.pos (by omega) (Ev.bind hq (Ev.pos hb (Ev.pos (by omega) ?_))))
            have e : wrap64 (wrap64 ((i : Int) + 3) + 1) = ((i + 3 + 1 : Nat) : Int) := by rw [show (i : Int) + 3 = ((i : Int) + ((3 : Nat) : Int)) from rfl, w_add i 3 (by omega) (by omega), w_succ (i + 3) (by omega)]
            simp only [e]
            exact hr
          · refine ⟨((⟨#[]⟩ : ByteArray), false), Ev.step (fun k => by simp only [name_loose.l0]; rfl) ?_⟩
            refine Ev.pos (by omega) (Ev.pos (by omega) (Ev.neg hdot (Ev.pos hmark ?_)))
            simp only [w_succ i (by omega), Int.toNat_natCast]
            exact Ev.pos (by omega) (Ev.pos (by omega) (Ev.bind hq (Ev.neg hb (Ev.pure _))))
        · obtain ⟨r, hr⟩ := ih (i + 1) out (label ++ [bt s (i : Int)]) (by omega) (by simp; omega) (by omega)
          refine ⟨r, Ev.step (fun k => by simp only [name_loose.l0]; rfl) (Ev.pos (by omega) (Ev.pos (by omega) (Ev.neg hdot (Ev.neg hmark (Ev.pos (by omega) ?_)))))⟩
          simp only [w_succ i (by omega)]
          exact hr
    · exact ended i out label (by omega) ho hi

/-- One byte of a label, as Text writes it. -/
theorem loose_esc (s : ByteArray) (hs : s.size ≤ 140737488351232) (c : UInt8) (rest : Bytes) (O L : Bytes) (i : Nat) (h : (B s).drop i = esc c ++ rest) (hL : L.length ≤ 200) (r : ByteArray × Bool)
    (hn : Ev (fun k => name_loose.l0 k s (toI O) (toI (L ++ [c])) ((i + (esc c).length : Nat) : Int)) r) : Ev (fun k => name_loose.l0 k s (toI O) (toI L) (i : Int)) r := by
  have hsz := sz s
  unfold esc at h hn
  by_cases hp : plain c = true
  · rw [if_pos hp] at h hn
    obtain ⟨hb, hlt, _⟩ := bt_drop s i c rest h
    simp only [plain, decide_eq_true_eq] at hp
    refine Ev.step (fun k => by simp only [name_loose.l0]; rfl) (Ev.pos (by omega) (Ev.pos (by omega) (Ev.neg (by omega) (Ev.neg (by omega) (Ev.pos (by rw [toI_length]; omega) ?_)))))
    simp only [w_succ i (by omega), hb]
    rw [toI_append] at hn
    exact hn
  · rw [if_neg hp] at h hn
    obtain ⟨hb, hlt, hd⟩ := bt_drop s i _ _ h
    have hb2 : bt s (i : Int) = 92 := hb
    have hlen := congrArg List.length h
    simp only [List.length_drop, List.length_append, List.length_cons, List.length_nil] at hlen
    have hx : B (s.extract (i + 1) s.size) = (48 + c / 100) :: (48 + c / 10 % 10) :: (48 + c % 10) :: rest := by
      rw [B_extract, hd, List.take_of_length_le]
      · rfl
      · rw [← hd, List.length_drop]
        omega
    have he := escaped_digits _ c rest hx
    refine Ev.step (fun k => by simp only [name_loose.l0]; rfl) (Ev.pos (by omega) (Ev.pos (by omega) (Ev.neg (by omega) (Ev.pos hb2 ?_))))
    simp only [w_succ i (by omega), Int.toNat_natCast]
    refine Ev.pos (by omega) (Ev.pos (by omega) (Ev.bind he (Ev.pos rfl (Ev.pos (by rw [toI_length]; omega) ?_))))
    have e : wrap64 (wrap64 ((i : Int) + 3) + 1) = ((i + 4 : Nat) : Int) := by rw [show (i : Int) + 3 = ((i : Int) + ((3 : Nat) : Int)) from rfl, w_add i 3 (by omega) (by omega), w_succ (i + 3) (by omega)]
    refine Ev.congr (fun k => ?_) hn
    rw [e, toI_append]
    rfl

theorem loose_escs (s : ByteArray) (hs : s.size ≤ 140737488351232) (O : Bytes) (r : ByteArray × Bool) : ∀ (l rest L : Bytes) (i : Nat), (B s).drop i = escs l ++ rest → L.length + l.length ≤ 200 →
    Ev (fun k => name_loose.l0 k s (toI O) (toI (L ++ l)) ((i + (escs l).length : Nat) : Int)) r → Ev (fun k => name_loose.l0 k s (toI O) (toI L) (i : Int)) r := by
  intro l
  induction l with
  | nil =>
    intro rest L i h hL hn
    simpa [escs] using hn
  | cons c l ih =>
    intro rest L i h hL hn
    have e : escs (c :: l) = esc c ++ escs l := by simp [escs]
    rw [e, List.append_assoc] at h
    simp only [List.length_cons] at hL
    refine loose_esc s hs c (escs l ++ rest) O L i h (by omega) r ?_
    refine ih rest (L ++ [c]) (i + (esc c).length) ?_ (by simp; omega) ?_
    · rw [← List.drop_drop, h, List.drop_left' rfl]
    · rw [e, List.length_append] at hn
      rw [List.append_assoc, Nat.add_assoc]
      exact hn

theorem loose_ls (s : ByteArray) (hs : s.size ≤ 140737488351232) : ∀ (ls : List Bytes) (O : Bytes) (i : Nat), Good ls → (B s).drop i = textL ls → O.length + (wire ls).length ≤ 1000000000 → (wire ls).length ≤ 255 →
    Ev (fun k => name_loose.l0 k s (toI O) (toI []) (i : Int)) (mkB (O ++ wire ls), true) := by
  intro ls
  have hsz := sz s
  induction ls with
  | nil =>
    intro O i hg h hO hw
    simp only [textL, List.flatMap_nil, List.drop_eq_nil_iff] at h
    refine Ev.step (fun k => by simp only [name_loose.l0]; rfl) (Ev.neg (by omega) (Ev.pos (by rw [strOfNums_size, toI_length]; omega) (Ev.eq (Ev.pure _) ?_)))
    rw [strOf_toI]
    simp only [Prod.mk.injEq, and_true]
    exact mk_append O [0]
  | cons l ls ih =>
    intro O i hg h hO hw
    have hl := hg l (by simp)
    have hg2 : Good ls := fun x hx => hg x (by simp [hx])
    have e : textL (l :: ls) = escs l ++ (46 :: textL ls) := by simp [textL]
    rw [e] at h
    simp only [wire, List.length_cons, List.length_append] at hw hO
    refine loose_escs s hs O _ l (46 :: textL ls) [] i h (by simp only [List.length_nil]; omega) ?_
    rw [List.nil_append]
    have hd : (B s).drop (i + (escs l).length) = 46 :: textL ls := by rw [← List.drop_drop, h, List.drop_left' rfl]
    obtain ⟨hb, hlt, hd2⟩ := bt_drop s _ _ _ hd
    have hb2 : bt s ((i + (escs l).length : Nat) : Int) = 46 := hb
    have hr := ih (O ++ UInt8.ofNat l.length :: l) (i + (escs l).length + 1) hg2 hd2 (by simp; omega) (by omega)
    refine Ev.step (fun k => by simp only [name_loose.l0]; rfl) (Ev.pos (by omega) (Ev.pos (by omega) (Ev.pos hb2 (Ev.neg (by rw [toI_length]; omega) (Ev.neg (by rw [toI_length]; omega) (Ev.pos (by rw [toI_length]; omega) (Ev.bindp rfl (Ev.pos (by simp only [List.length_append, toI_length, List.length_cons, List.length_nil]; omega) ?_))))))))
    simp only [w_succ (i + (escs l).length) (by omega)]
    have ho : (toI O ++ [((toI l).length : Int) % 256]) ++ toI l = toI (O ++ UInt8.ofNat l.length :: l) := by
      rw [toI_append, toI_length, List.append_assoc]
      congr 1
    have hw2 : (O ++ UInt8.ofNat l.length :: l) ++ wire ls = O ++ wire (l :: ls) := by simp [wire]
    rw [hw2] at hr
    simp only [ho]
    exact hr

theorem loose_text (t : ByteArray) (hs : t.size ≤ 140737488351232) (ls : List Bytes) (hg : Good ls) (hw : (wire ls).length ≤ 255) (h : B t = textL ls) : Ev (fun k => name_loose.f k t) (mkB (wire ls), true) := by
  unfold name_loose.f
  exact loose_ls t hs ls [] 0 hg (by rw [List.drop_zero]; exact h) (by simp only [List.length_nil]; omega) hw

theorem Parse_ev (t : ByteArray) (hs : t.size ≤ 140737488351232) : Ev (fun k => name_Parse.f k t) (parseS (B t)) := by
  unfold name_Parse.f
  by_cases hd : t.toList = ([46] : List UInt8)
  · refine Ev.pos hd (Ev.eq (Ev.pure _) ?_)
    rw [toL] at hd
    unfold parseS
    rw [hd, prs_dot]
    rfl
  · refine Ev.neg hd ?_
    rw [toL] at hd
    cases h : prs (B t) with
    | some ls =>
      obtain ⟨hg, hl, ht⟩ := prs_some.1 h
      have hn : ls ≠ [] := by
        rintro rfl
        exact hd ht.symm
      have hx : B t = textL ls := by
        rw [← ht]
        unfold text
        rw [if_neg hn]
      refine Ev.bind (loose_text t hs ls hg hl hx) ?_
      have hT := Text_ev (mkB (wire ls))
      rw [B_mk] at hT
      refine Ev.bind hT ?_
      unfold textS
      rw [nm_wire hg hl]
      refine Ev.pos rfl (Ev.pos rfl (Ev.pos ?_ (Ev.eq (Ev.pure _) ?_)))
      · rw [toL, toL, B_mk, ht]
      · unfold parseS
        rw [h]
    | none =>
      obtain ⟨⟨n, is⟩, hr⟩ := loose_any t hs t.size 0 [] [] (by omega) (by simp) (by omega)
      have hr2 : Ev (fun k => name_loose.f k t) (n, is) := hr
      refine Ev.bind hr2 (Ev.bind (Text_ev n) ?_)
      have hp : parseS (B t) = ((⟨#[]⟩ : ByteArray), 100) := by
        unfold parseS
        rw [h]
        rfl
      rw [hp]
      cases is with
      | false => exact Ev.neg (by simp) (Ev.pure _)
      | true =>
        refine Ev.pos rfl ?_
        by_cases h0 : (textS (B n)).2 = 0
        · refine Ev.pos h0 ?_
          by_cases h1 : (textS (B n)).1.toList = t.toList
          · rw [toL, toL] at h1
            obtain ⟨ls, hls, _⟩ := checked h0 h1
            rw [h] at hls
            cases hls
          · exact Ev.neg h1 (Ev.pure _)
        · exact Ev.neg h0 (Ev.pure _)

end Go.Proofs.Ytefmomphapjfiaa.M
