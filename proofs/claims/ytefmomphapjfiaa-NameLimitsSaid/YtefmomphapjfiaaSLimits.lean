/- NameLimits, NamePlain, NameWrong: the plain laws. -/
import Derived.Test.YtefmomphapjfiaaSAwake1
import Derived.Test.YtefmomphapjfiaaMBits
import Derived.Test.YtefmomphapjfiaaPx10
import Derived.Test.YtefmomphapjfiaaPx8

namespace Go.Proofs.Ytefmomphapjfiaa.M
open Go Go.RowKit Go.Proofs.YtefmomphapjfiaaW.PrintWords Go.Proofs.Ytefmomphapjfiaa.P

/-! ### what stands behind a name, or is cut off it -/
theorem dec_more : ∀ (ls : List Bytes) (x : UInt8) (t : Bytes), Good ls → dec (wire ls ++ x :: t) = none
  | [], x, t, _ => by simp [wire, dec_zero]
  | l :: r, x, t, h => by
    have hl := h l (by simp)
    have hn := ofNat_toNat_len (n := l.length) (by omega)
    have ih := dec_more r x t (fun y hy => h y (by simp [hy]))
    rw [wire, List.cons_append, List.append_assoc, dec_step _ (ofNat_ne_zero hl.1 (by omega)) (by rw [hn]; exact hl.2), hn]
    rw [List.drop_left' rfl, ih]
    rfl

theorem dec_less : ∀ (ls : List Bytes), Good ls → dec (body ls) = none
  | [], _ => by simp [body, dec_nil]
  | l :: r, h => by
    have hl := h l (by simp)
    have hn := ofNat_toNat_len (n := l.length) (by omega)
    have ih := dec_less r (fun y hy => h y (by simp [hy]))
    have e : body (l :: r) = UInt8.ofNat l.length :: (l ++ body r) := by simp [body]
    rw [e, dec_step _ (ofNat_ne_zero hl.1 (by omega)) (by rw [hn]; exact hl.2), hn]
    rw [List.drop_left' rfl, ih]
    rfl

theorem nm_more {ls : List Bytes} (h : Good ls) (x : UInt8) (t : Bytes) : nm (wire ls ++ x :: t) = none := by
  unfold nm
  split
  · exact dec_more ls x t h
  · rfl

theorem nm_less {ls : List Bytes} (h : Good ls) : nm (body ls) = none := by
  unfold nm
  split
  · exact dec_less ls h
  · rfl

theorem nm_big {c : UInt8} (t : Bytes) (h : 63 < c.toNat) : nm (c :: t) = none := by
  unfold nm
  split
  · exact dec_long t h
  · rfl

/-- so many labels of so many zero bytes -/
def zs (k m : Nat) : List Bytes := List.replicate m (List.replicate k 0)
theorem body_zs (k m : Nat) : body (zs k (m + 1)) = (UInt8.ofNat k :: List.replicate k 0) ++ body (zs k m) := by
  simp [zs, body, List.replicate_succ]
theorem body_zs_snoc (k m : Nat) : body (zs k (m + 1)) = body (zs k m) ++ (UInt8.ofNat k :: List.replicate k 0) := by
  simp only [zs, List.replicate_succ']
  simp [body]
theorem body_len (k m : Nat) : (body (zs k m)).length = (k + 1) * m := by
  induction m with
  | zero => rfl
  | succ m ih => rw [body_zs, List.length_append, ih]; simp; rw [Nat.mul_succ]; omega
theorem good_zs (k m : Nat) (h0 : 1 ≤ k) (h : k ≤ 63) : Good (zs k m) := by
  intro l hl
  rw [List.eq_of_mem_replicate hl]
  simp
  omega

theorem nl_j2 (x8 : ByteArray) (x10 : Bool) (x11 : Int) (h1 : (nm (B x8)).isSome = x10) (h2 : cnt (B x8) = x11) (h3 : nm (B x8 ++ [0]) = none) (h4 : nm ((B x8).dropLast) = none) (hs : 1 ≤ x8.size) (hs2 : x8.size ≤ 100000) : Ev (fun k => wimplelaw1_NameLimits.j2 k x8 x10 x11) true := by
  have hsz := sz x8
  have hM := May_ev x8
  rw [h1] at hM
  have hC := Count_ev x8
  rw [h2] at hC
  have hM2 := May_ev (x8 ++ (⟨#[0]⟩ : ByteArray))
  rw [B_append, show B (⟨#[0]⟩ : ByteArray) = [0] from rfl, h3] at hM2
  obtain ⟨n, hn⟩ : ∃ n, x8.size = n + 1 := ⟨x8.size - 1, by omega⟩
  have e1 : wrap64 ((x8.size : Int) - 1) = ((n : Nat) : Int) := by rw [hn]; exact w_pred n (by omega)
  have hM3 := May_ev (x8.extract 0 n)
  have hd : B (x8.extract 0 n) = (B x8).dropLast := by
    rw [B_extract, List.drop_zero, Nat.sub_zero, List.dropLast_eq_take]
    congr 1
    omega
  rw [hd, h4] at hM3
  refine Ev.step (fun k => by simp only [wimplelaw1_NameLimits.j2]; rfl) ?_
  refine Ev.bind hM (Ev.pos (by simp) (Ev.bind hC (Ev.pos rfl (Ev.pos (by omega) (Ev.bind hM2 (Ev.neg (by simp) ?_))))))
  simp only [e1, Int.toNat_natCast]
  clear e1
  exact Ev.pos (by omega) (Ev.pos (by omega) (Ev.bind hM3 (Ev.pure _)))

theorem nl_end (k m : Nat) (hk : 1 ≤ k) (hk2 : k ≤ 128) (hm : 1 ≤ m) (hm2 : m ≤ 64) (x8 : ByteArray) (h8 : B x8 = body (zs k m) ++ [0]) :
    Ev (fun q => wimplelaw1_NameLimits.j1 q (m : Int) x8 (decide (k ≤ 63 ∧ x8.size ≤ 255))) true := by
  have hsz := sz x8
  have hlen := body_len k m
  rw [h8, List.length_append, hlen] at hsz
  simp only [List.length_cons, List.length_nil] at hsz
  have hmul : (k + 1) * m ≤ 129 * 64 := Nat.mul_le_mul (by omega) hm2
  have hne : ∃ t, B x8 = UInt8.ofNat k :: t := by
    obtain ⟨m', rfl⟩ : ∃ m', m = m' + 1 := ⟨m - 1, by omega⟩
    exact ⟨_, by rw [h8, body_zs]; rfl⟩
  obtain ⟨t, ht⟩ := hne
  have hkt : (UInt8.ofNat k).toNat = k := ofNat_toNat_len (by omega)
  refine Ev.step (fun q => by simp only [wimplelaw1_NameLimits.j1]; rfl) ?_
  by_cases hf : k ≤ 63 ∧ x8.size ≤ 255
  · have hg := good_zs k m hk hf.1
    have hw : wire (zs k m) = B x8 := by rw [wire_body, h8]
    have hn : nm (B x8) = some (zs k m) := nm_some.2 ⟨hg, hw, by rw [← sz]; exact hf.2⟩
    refine Ev.pos (decide_eq_true hf) (nl_j2 x8 _ _ ?_ ?_ ?_ ?_ (by omega) (by omega))
    · rw [hn]
      exact (decide_eq_true hf).symm
    · unfold cnt
      rw [hn]
      simp [zs]
    · rw [← hw]
      exact nm_more hg 0 []
    · rw [h8, List.dropLast_concat]
      exact nm_less hg
  · have hnone : nm (B x8) = none ∧ nm (B x8 ++ [0]) = none ∧ nm ((B x8).dropLast) = none := by
      by_cases h63 : k ≤ 63
      · have hg := good_zs k m hk h63
        have hw : wire (zs k m) = B x8 := by rw [wire_body, h8]
        have hbig : ¬ ((B x8).length ≤ 255) := by rw [← sz]; exact fun q => hf ⟨h63, q⟩
        refine ⟨?_, ?_, ?_⟩
        · unfold nm
          rw [if_neg hbig]
        · rw [← hw]
          exact nm_more hg 0 []
        · rw [h8, List.dropLast_concat]
          exact nm_less hg
      · have h64 : 63 < (UInt8.ofNat k).toNat := by rw [hkt]; omega
        refine ⟨?_, ?_, ?_⟩
        · rw [ht]; exact nm_big _ h64
        · rw [ht]; exact nm_big _ h64
        · have htl : t ≠ [] := by
            rintro rfl
            have := congrArg List.length ht
            rw [← sz, hsz] at this
            simp only [List.length_cons, List.length_nil] at this
            have : 2 * 1 ≤ (k + 1) * m := Nat.mul_le_mul (by omega) hm
            omega
          rw [ht, List.dropLast_cons_of_ne_nil htl]
          exact nm_big _ h64
    have hd : decide (k ≤ 63 ∧ x8.size ≤ 255) = false := decide_eq_false hf
    rw [hd]
    refine Ev.neg (by simp) (nl_j2 x8 _ _ ?_ ?_ hnone.2.1 hnone.2.2 (by omega) (by omega))
    · rw [hnone.1]; rfl
    · unfold cnt
      rw [hnone.1]

theorem nl_loop (k m : Nat) (hk : 1 ≤ k) (hk2 : k ≤ 128) (hm : 1 ≤ m) (hm2 : m ≤ 64) (one : ByteArray) (h1 : B one = UInt8.ofNat k :: List.replicate k 0) : ∀ (d i : Nat), m - i = d → i ≤ m →
    Ev (fun q => wimplelaw1_NameLimits.l0 q (k : Int) one (m : Int) (mkB (body (zs k i))) (i : Int)) true := by
  have ho := sz one
  rw [h1] at ho
  simp only [List.length_cons, List.length_replicate] at ho
  intro d
  induction d with
  | zero =>
    intro i hd hi
    obtain rfl : i = m := by omega
    have hlen := body_len k i
    have hmul : (k + 1) * i ≤ 129 * 64 := Nat.mul_le_mul (by omega) hm2
    have hs := sz_mk (body (zs k i))
    have h8 : B (mkB (body (zs k i)) ++ (⟨#[0]⟩ : ByteArray)) = body (zs k i) ++ [0] := by rw [B_append, B_mk]
    have hE := nl_end k i hk hk2 hm hm2 _ h8
    have hs2 := sz (mkB (body (zs k i)) ++ (⟨#[0]⟩ : ByteArray))
    refine Ev.step (fun q => by simp only [wimplelaw1_NameLimits.l0]; rfl) ?_
    refine Ev.neg (by omega) (Ev.pos (by omega) ?_)
    by_cases h63 : k ≤ 63
    · refine Ev.pos (by omega) ?_
      have : decide (((mkB (body (zs k i)) ++ (⟨#[0]⟩ : ByteArray)).size : Int) ≤ 255) = decide (k ≤ 63 ∧ (mkB (body (zs k i)) ++ (⟨#[0]⟩ : ByteArray)).size ≤ 255) := by
        rw [decide_eq_decide]
        omega
      rw [this]
      exact hE
    · refine Ev.neg (by omega) ?_
      have : decide (k ≤ 63 ∧ (mkB (body (zs k i)) ++ (⟨#[0]⟩ : ByteArray)).size ≤ 255) = false := decide_eq_false (fun q => h63 q.1)
      rw [this] at hE
      exact hE
  | succ d ih =>
    intro i hd hi
    have h := ih (i + 1) (by omega) (by omega)
    have hlen := body_len k i
    have hmul : (k + 1) * i ≤ 129 * 64 := Nat.mul_le_mul (by omega) (by omega)
    have hs := sz_mk (body (zs k i))
    refine Ev.step (fun q => by simp only [wimplelaw1_NameLimits.l0]; rfl) ?_
    refine Ev.pos (by omega) (Ev.pos (by omega) ?_)
    simp only [w_succ i (by omega)]
    have e : mkB (body (zs k i)) ++ one = mkB (body (zs k (i + 1))) := by
      apply B_inj
      rw [B_append, B_mk, B_mk, h1, body_zs_snoc]
    rw [e]
    exact h

theorem NameLimits_pure : wimplelaw1_NameLimits.Pure := by
  intro a0 a1 _ _
  apply Ev.rounds
  unfold wimplelaw1_NameLimits.f
  refine Ev.bind awake_ev (Ev.pos rfl (Ev.bindp rfl ?_))
  rw [and127, and63]
  obtain ⟨k, hk⟩ : ∃ k : Nat, a0 % 128 = (k : Int) := ⟨(a0 % 128).toNat, by omega⟩
  obtain ⟨m, hm⟩ : ∃ m : Nat, a1 % 64 = (m : Int) := ⟨(a1 % 64).toNat, by omega⟩
  have hk2 : k < 128 := by omega
  have hm2 : m < 64 := by omega
  rw [hk, hm]
  clear hk hm
  have e1 : wrap64 (1 + (k : Int)) = ((k + 1 : Nat) : Int) := by rw [Int.add_comm]; exact w_succ k (by omega)
  have e2 : wrap64 (1 + (m : Int)) = ((m + 1 : Nat) : Int) := by rw [Int.add_comm]; exact w_succ m (by omega)
  rw [e1, e2]
  clear e1 e2
  have hone : strOfNums [((k + 1 : Nat) : Int) % 256] ++ strOfNums (List.replicate (k + 1) 0) = mkB (UInt8.ofNat (k + 1) :: List.replicate (k + 1) 0) := by
    apply B_inj
    rw [B_append, B_strOfNums, B_strOfNums, B_mk]
    simp only [List.map_cons, List.map_nil, List.map_replicate, List.cons_append, List.nil_append, List.cons.injEq]
    refine ⟨?_, by simp⟩
    congr 1
    omega
  refine Ev.pos (by omega) ?_
  simp only [Int.toNat_natCast]
  refine Ev.pos (by omega) (Ev.bindp rfl (Ev.pos ?_ ?_))
  · rw [strOfNums_size, strOfNums_size]
    simp
    omega
  · rw [hone]
    exact nl_loop (k + 1) (m + 1) (by omega) (by omega) (by omega) (by omega) _ (B_mk _) (m + 1) 0 (by omega) (by omega)

theorem np_text (c : UInt8) : text [[c]] = esc c ++ [46] := by simp [text, textL, escs]
theorem np_prs (c : UInt8) : prs (esc c ++ [46]) = some [[c]] := prs_some.2 ⟨good_of rfl, by simp [wire], np_text c⟩

theorem np_j0 (c : UInt8) (x6 : ByteArray) (h6 : plain c = false → B x6 = esc c ++ [46]) : Ev (fun k => wimplelaw1_NamePlain.j0 k (c.toNat : Int) (mkB (esc c ++ [46])) 0 x6 (plain c)) true := by
  have hone : strOfNums [(c.toNat : Int)] = mkB [c] := strOf_toI [c]
  have hname : ((⟨#[1]⟩ : ByteArray) ++ strOfNums [(c.toNat : Int)]) ++ (⟨#[0]⟩ : ByteArray) = mkB (wire [[c]]) := by
    apply B_inj
    rw [B_append, B_append, hone, B_mk, B_mk]
    rfl
  have tail : ∀ x : ByteArray, x = mkB (wire [[c]]) → Ev (fun (_ : Nat) => (some (([(c.toNat : Int)] : List Int) : List Int)).bind fun y279 => (if 1 + (strOfNums y279).size ≤ 9223372036854775807 then (if ((⟨#[1]⟩ : ByteArray) ++ (strOfNums y279)).size + 1 ≤ 9223372036854775807 then (some (x.toList == (((⟨#[1]⟩ : ByteArray) ++ (strOfNums y279)) ++ (⟨#[0]⟩ : ByteArray)).toList)) else (none)) else (none))) true := by
    intro x hx
    have e : ((⟨#[1]⟩ : ByteArray) ++ strOfNums [(c.toNat : Int)]).size = 2 := by
      rw [sz, B_append, hone, B_mk]
      rfl
    refine Ev.bindp rfl (Ev.pos (by rw [strOfNums_size]; simp) (Ev.pos (by rw [e]; omega) (Ev.eq (Ev.pure _) ?_)))
    rw [hname, hx, beq_self_eq_true]
  have hP := Parse_ev (mkB (esc c ++ [46])) (by rw [sz_mk]; have := esc_len c; simp; omega)
  rw [B_mk, parseS_some (np_prs c)] at hP
  refine Ev.step (fun k => by simp only [wimplelaw1_NamePlain.j0]; rfl) ?_
  by_cases hp : plain c = true
  · have hw : strOfNums [(c.toNat : Int)] ++ (⟨#[46]⟩ : ByteArray) = mkB (esc c ++ [46]) := by
      apply B_inj
      rw [B_append, hone, B_mk, B_mk]
      unfold esc
      rw [if_pos hp]
    refine Ev.pos hp (Ev.bindp rfl (Ev.pos (by rw [strOfNums_size]; simp) ?_))
    rw [hw]
    refine Ev.bind hP (Ev.bindp rfl (Ev.pos rfl (Ev.pos rfl (Ev.bindp rfl (Ev.pos rfl (tail _ rfl))))))
  · have hf : plain c = false := by simpa using hp
    have hx : x6 = mkB (esc c ++ [46]) := B_inj (by rw [h6 hf, B_mk])
    refine Ev.neg hp ?_
    rw [hx]
    refine Ev.bind hP (Ev.bindp rfl (Ev.pos rfl (Ev.pos rfl (Ev.bindp rfl (Ev.pos rfl (tail _ rfl))))))

theorem NamePlain_pure : wimplelaw1_NamePlain.Pure := by
  intro a0 _
  apply Ev.rounds
  unfold wimplelaw1_NamePlain.f
  obtain ⟨c, hc⟩ : ∃ c : UInt8, a0 % 256 = (c.toNat : Int) := ⟨UInt8.ofNat (a0 % 256).toNat, by rw [ofNat_toNat_len (by omega)]; omega⟩
  rw [hc]
  clear hc
  have hcl := c.toNat_lt
  have hone : strOfNums [(c.toNat : Int)] = mkB [c] := strOf_toI [c]
  have hname : ((⟨#[1]⟩ : ByteArray) ++ strOfNums [(c.toNat : Int)]) ++ (⟨#[0]⟩ : ByteArray) = mkB (wire [[c]]) := by
    apply B_inj
    rw [B_append, B_append, hone, B_mk, B_mk]
    rfl
  have e : ((⟨#[1]⟩ : ByteArray) ++ strOfNums [(c.toNat : Int)]).size = 2 := by
    rw [sz, B_append, hone, B_mk]
    rfl
  have hT := Text_ev (mkB (wire [[c]]))
  have hn : nm (wire [[c]]) = some [[c]] := nm_wire (good_of rfl) (by simp [wire])
  rw [B_mk, textS_some hn, np_text] at hT
  obtain ⟨d1, d2, d3⟩ := esc_digits c
  have hdig : ([48 + ((c.toNat : Int) / 100), 48 + (((c.toNat : Int) / 10) % 10), 48 + ((c.toNat : Int) % 10)] : List Int) = toI [48 + c / 100, 48 + c / 10 % 10, 48 + c % 10] := by
    simp only [toI, List.map_cons, List.map_nil, d1, d2, d3]
    simp
  clear d1 d2 d3
  have hx : ((⟨#[92]⟩ : ByteArray) ++ strOfNums (toI [48 + c / 100, 48 + c / 10 % 10, 48 + c % 10])) = mkB [92, 48 + c / 100, 48 + c / 10 % 10, 48 + c % 10] := by
    apply B_inj
    rw [B_append, strOf_toI, B_mk, B_mk]
    rfl
  refine Ev.bind awake_ev (Ev.pos rfl (Ev.bindp rfl (Ev.pos (by rw [strOfNums_size]; simp) (Ev.pos (by rw [e]; omega) ?_))))
  rw [hname, hdig]
  refine Ev.bind hT (Ev.bindp rfl (Ev.pos (by rw [strOfNums_size, toI_length]; simp) ?_))
  rw [hx]
  refine Ev.pos (by rw [sz_mk]; simp) ?_
  have h6 : plain c = false → B (mkB [92, 48 + c / 100, 48 + c / 10 % 10, 48 + c % 10] ++ (⟨#[46]⟩ : ByteArray)) = esc c ++ [46] := by
    intro hf
    rw [B_append, B_mk]
    unfold esc
    rw [if_neg (by rw [hf]; decide)]
  have hj := np_j0 c _ h6
  have key : ∀ b : Bool, plain c = b → Ev (fun k => wimplelaw1_NamePlain.j0 k (c.toNat : Int) (mkB (esc c ++ [46])) 0 (mkB [92, 48 + c / 100, 48 + c / 10 % 10, 48 + c % 10] ++ (⟨#[46]⟩ : ByteArray)) b) true := by
    intro b hb
    rw [← hb]
    exact hj
  by_cases h1 : (c.toNat : Int) > 32
  · refine Ev.pos h1 ?_
    by_cases h2 : (c.toNat : Int) < 127
    · refine Ev.pos h2 ?_
      by_cases h3 : (c.toNat : Int) = 46
      · refine Ev.pos h3 (key _ ?_)
        exact decide_eq_false (by omega)
      · refine Ev.neg h3 (key _ ?_)
        rw [Bool.eq_iff_iff]
        simp only [plain, bne_iff_ne, decide_eq_true_eq]
        omega
    · refine Ev.neg h2 (key _ ?_)
      exact decide_eq_false (by omega)
  · refine Ev.neg h1 (key _ ?_)
    exact decide_eq_false (by omega)

/-! ### texts that are none -/
theorem prs_unesc {t : Bytes} {ls : List Bytes} (h : prs t = some ls) (h0 : t ≠ [46]) : unesc t [] [] = some (body ls, []) ∧ Good ls ∧ text ls = t := by
  obtain ⟨hg, _, ht⟩ := prs_some.1 h
  have hn : ls ≠ [] := by
    rintro rfl
    exact h0 ht.symm
  have hx : t = textL ls := by
    rw [← ht]
    unfold text
    rw [if_neg hn]
  refine ⟨?_, hg, ht⟩
  have := unesc_textL ls [] []
  rw [List.append_nil, ← hx] at this
  rw [this]
  simp [unesc]

/-- unread. -/
theorem wrong_unread {t : Bytes} (h0 : t ≠ [46]) (hu : unesc t [] [] = none) : prs t = none := by
  cases h : prs t with
  | none => rfl
  | some ls =>
    have := (prs_unesc h h0).1
    rw [hu] at this
    cases this
/-- a label is left open. -/
theorem wrong_open {t b : Bytes} {x : UInt8} {l : Bytes} (h0 : t ≠ [46]) (hu : unesc t [] [] = some (b, x :: l)) : prs t = none := by
  cases h : prs t with
  | none => rfl
  | some ls =>
    have := (prs_unesc h h0).1
    rw [hu] at this
    cases this
/-- read as what is no name. -/
theorem wrong_form {t b : Bytes} (h0 : t ≠ [46]) (hu : unesc t [] [] = some (b, [])) (hd : dec (b ++ [0]) = none) : prs t = none := by
  cases h : prs t with
  | none => rfl
  | some ls =>
    obtain ⟨h1, hg, _⟩ := prs_unesc h h0
    rw [hu] at h1
    simp only [Option.some.injEq, Prod.mk.injEq, and_true] at h1
    have := dec_wire ls hg
    rw [wire_body, ← h1, hd] at this
    cases this
/-- read as a name of another text. -/
theorem wrong_other {t b : Bytes} (q : List Bytes) (h0 : t ≠ [46]) (hu : unesc t [] [] = some (b, [])) (hq : Good q) (hd : body q = b) (ht : text q ≠ t) : prs t = none := by
  cases h : prs t with
  | none => rfl
  | some ls =>
    obtain ⟨h1, hg, h2⟩ := prs_unesc h h0
    rw [hu] at h1
    simp only [Option.some.injEq, Prod.mk.injEq, and_true] at h1
    have : ls = q := wire_inj hg hq (by rw [wire_body, wire_body, hd, ← h1])
    subst this
    exact absurd h2 ht

theorem dec_0 (x : UInt8) (r : Bytes) : dec (0 :: x :: r) = none := by simp [dec_zero]

def wrongs : List ByteArray := [(⟨#[]⟩ : ByteArray), (⟨#[97]⟩ : ByteArray), (⟨#[97, 46, 46]⟩ : ByteArray), (⟨#[46, 97, 46]⟩ : ByteArray), (⟨#[46, 46]⟩ : ByteArray), (⟨#[92, 48, 54, 53, 46]⟩ : ByteArray), (⟨#[92, 50, 53, 54, 46]⟩ : ByteArray), (⟨#[92, 48, 52, 46]⟩ : ByteArray), (⟨#[97, 32, 98, 46]⟩ : ByteArray), (⟨#[92, 46]⟩ : ByteArray), (⟨#[97, 46, 92]⟩ : ByteArray), (⟨#[92, 49, 97, 50, 46]⟩ : ByteArray), (⟨#[97, 46, 98]⟩ : ByteArray)]

theorem all_wrong : ∀ t ∈ wrongs, prs (B t) = none ∧ t.size ≤ 5 := by
  intro t ht
  simp only [wrongs, List.mem_cons, List.not_mem_nil, or_false] at ht
  rcases ht with rfl | rfl | rfl | rfl | rfl | rfl | rfl | rfl | rfl | rfl | rfl | rfl | rfl
  · exact ⟨prs_of_last (by decide), by decide⟩
  · exact ⟨prs_of_last (by decide), by decide⟩
  · refine ⟨wrong_form (t := [97, 46, 46]) (b := [1, 97, 0]) (by decide) (by decide +kernel) ?_, by decide⟩
    show dec [1, 97, 0, 0] = none
    rw [dec_step _ (by decide) (by decide)]
    show (dec [0, 0]).map _ = none
    rw [dec_0]
    rfl
  · exact ⟨wrong_form (t := [46, 97, 46]) (b := [0, 1, 97]) (by decide) (by decide +kernel) (dec_0 _ _), by decide⟩
  · exact ⟨wrong_form (t := [46, 46]) (b := [0, 0]) (by decide) (by decide +kernel) (dec_0 _ _), by decide⟩
  · exact ⟨wrong_other (t := [92, 48, 54, 53, 46]) (b := [1, 65]) [[65]] (by decide) (by decide +kernel) (good_of rfl) rfl (by decide +kernel), by decide⟩
  · exact ⟨wrong_other (t := [92, 50, 53, 54, 46]) (b := [1, 0]) [[0]] (by decide) (by decide +kernel) (good_of rfl) rfl (by decide +kernel), by decide⟩
  · exact ⟨wrong_open (t := [92, 48, 52, 46]) (b := []) (x := 40) (l := []) (by decide) (by decide +kernel), by decide⟩
  · exact ⟨wrong_other (t := [97, 32, 98, 46]) (b := [3, 97, 32, 98]) [[97, 32, 98]] (by decide) (by decide +kernel) (good_of rfl) rfl (by decide +kernel), by decide⟩
  · exact ⟨wrong_unread (t := [92, 46]) (by decide) (by decide +kernel), by decide⟩
  · exact ⟨prs_of_last (by decide), by decide⟩
  · exact ⟨wrong_other (t := [92, 49, 97, 50, 46]) (b := [1, 80]) [[80]] (by decide) (by decide +kernel) (good_of rfl) rfl (by decide +kernel), by decide⟩
  · exact ⟨prs_of_last (by decide), by decide⟩

theorem NameWrong_pure : wimplelaw1_NameWrong.Pure := by
  intro a0 _
  apply Ev.rounds
  unfold wimplelaw1_NameWrong.f
  have hw : 0 ≤ IntKind.u64.wrap a0 := by simp [IntKind.wrap, IntKind.bits, IntKind.signed]; omega
  obtain ⟨j, hj, hj2⟩ : ∃ j : Nat, wrap64 (Int.tmod (IntKind.u64.wrap a0) 13) = (j : Int) ∧ j < 13 := by
    have e : Int.tmod (IntKind.u64.wrap a0) 13 = IntKind.u64.wrap a0 % 13 := Int.tmod_eq_emod_of_nonneg hw
    refine ⟨(IntKind.u64.wrap a0 % 13).toNat, ?_, by omega⟩
    rw [e, w64 _ (by omega)]
    omega
  rw [hj]
  have hm : rdOf ByteArray.empty wrongs (j : Int) ∈ wrongs := by
    have hl : j < wrongs.length := hj2
    have : rdOf ByteArray.empty wrongs (j : Int) = wrongs[j] := by simp [rdOf, List.getD_eq_getElem?_getD, hl]
    rw [this]
    exact List.getElem_mem hl
  obtain ⟨h1, h2⟩ := all_wrong _ hm
  have hP := Parse_ev (rdOf ByteArray.empty wrongs (j : Int)) (by omega)
  rw [parseS_none h1] at hP
  refine Ev.bind awake_ev (Ev.pos rfl (Ev.bindp rfl (Ev.pos (by omega) (Ev.pos (by show (j : Int) < 13; omega) (Ev.bind hP (Ev.bindp rfl (Ev.pos rfl (Ev.eq (Ev.pure _) ?_))))))))
  rw [toL, B_mk]
  rfl

end Go.Proofs.Ytefmomphapjfiaa.M
