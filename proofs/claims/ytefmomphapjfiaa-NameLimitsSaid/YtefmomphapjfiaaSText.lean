/- What name.Text and the reference's Text answer. -/
import Derived.Test.YtefmomphapjfiaaSRefPlaces
import Derived.Test.YtefmomphapjfiaaMText
import Derived.Lib.LazyBuf
import Derived.Test.YtefmomphapjfiaaPx2
import Derived.Test.YtefmomphapjfiaaPx3

namespace Go.Proofs.Ytefmomphapjfiaa.M
open Go Go.RowKit Go.Proofs.YtefmomphapjfiaaW.PrintWords Go.Proofs.Ytefmomphapjfiaa.P

/-- What Text answers. -/
def textS (s : Bytes) : ByteArray × Int := match nm s with
  | some ls => (mkB (text ls), 0)
  | none => (mkB [], 100)

theorem good_short {s : Bytes} {ls : List Bytes} (h : nm s = some ls) : ls.length ≤ 1000 ∧ ∀ l ∈ ls, l.length ≤ 63 := by
  have := nm_count h
  exact ⟨by omega, fun l hl => ((nm_some.1 h).1 l hl).2⟩

theorem Text_ev (s : ByteArray) : Ev (fun k => name_Text.f k s) (textS (B s)) := by
  have h1 := Labels_ev s
  unfold name_Text.f textS
  cases h : nm (B s) with
  | none =>
    rw [h] at h1
    exact Ev.bind h1 (Ev.neg (by simp) (Ev.pure _))
  | some ls =>
    rw [h] at h1
    obtain ⟨g1, g2⟩ := good_short h
    refine Ev.bind h1 (Ev.pos rfl ?_)
    by_cases h0 : ls = []
    · subst h0
      exact Ev.pos rfl (Ev.pure _)
    · have hp : 0 < ls.length := List.length_pos_iff.2 h0
      refine Ev.neg (by simp only [List.length_map]; omega) (Ev.pos ⟨by simpa using g1, ?_⟩ (Ev.eq (Ev.pure _) ?_))
      · intro l hl
        obtain ⟨x, hx, rfl⟩ := List.mem_map.1 hl
        have := g2 x hx
        rw [sz_mk]
        omega
      · have e : (ls.map mkB).map (fun l => l.data.toList) = ls := by
          rw [List.map_map]
          exact (List.map_congr_left (fun x _ => B_mk x)).trans (List.map_id _)
        simp only [Prod.mk.injEq, and_true]
        unfold textB
        rw [e]
        unfold text
        rw [if_neg h0]
        rfl

/-- Bytes as numbers. -/
def toI (l : Bytes) : List Int := l.map fun b => (b.toNat : Int)
theorem toI_append (a b : Bytes) : toI (a ++ b) = toI a ++ toI b := by simp [toI]
theorem toI_length (a : Bytes) : (toI a).length = a.length := by simp [toI]
theorem strOf_toI (l : Bytes) : strOfNums (toI l) = mkB l := by
  apply B_inj
  rw [B_strOfNums, B_mk, toI, List.map_map]
  conv => rhs; rw [← List.map_id l]
  apply List.map_congr_left
  intro b _
  simp

theorem plain_ev (c : UInt8) : wimpleref1_plain.f (c.toNat : Int) = some (plain c) := by
  unfold wimpleref1_plain.f plain
  by_cases h1 : (c.toNat : Int) > 32
  · rw [if_pos h1]
    by_cases h2 : (c.toNat : Int) < 127
    · rw [if_pos h2]
      by_cases h3 : (c.toNat : Int) = 46
      · rw [if_pos h3]
        congr 1
        symm
        apply decide_eq_false
        omega
      · rw [if_neg h3]
        congr 1
        rw [Bool.eq_iff_iff]
        simp only [bne_iff_ne, decide_eq_true_eq]
        omega
    · rw [if_neg h2]
      congr 1
      symm
      apply decide_eq_false
      omega
  · rw [if_neg h1]
    congr 1
    symm
    apply decide_eq_false
    omega

theorem esc_nums (c : UInt8) : ([92, (48 + ((Int.tdiv (c.toNat : Int) 100) % 256)) % 256, 48 + (((Int.tdiv (c.toNat : Int) 10) % 256) % 10), (48 + (Int.tmod (c.toNat : Int) 10)) % 256] : List Int) = toI [92, 48 + c / 100, 48 + c / 10 % 10, 48 + c % 10] := by
  obtain ⟨h1, h2, h3⟩ := esc_digits c
  have hc := c.toNat_lt
  simp only [toI, List.map_cons, List.map_nil, h1, h2, h3]
  have t1 : Int.tdiv (c.toNat : Int) 100 = (c.toNat : Int) / 100 := Int.tdiv_eq_ediv_of_nonneg (by omega)
  have t2 : Int.tdiv (c.toNat : Int) 10 = (c.toNat : Int) / 10 := Int.tdiv_eq_ediv_of_nonneg (by omega)
  have t3 : Int.tmod (c.toNat : Int) 10 = (c.toNat : Int) % 10 := Int.tmod_eq_emod_of_nonneg (by omega)
  rw [t1, t2, t3]
  have e0 : (92 : Int) = (((92 : UInt8).toNat : Nat) : Int) := rfl
  have e1 : (48 + (c.toNat : Int) / 100 % 256) % 256 = ((48 + c.toNat / 100 : Nat) : Int) := by omega
  have e2 : 48 + (c.toNat : Int) / 10 % 256 % 10 = ((48 + c.toNat / 10 % 10 : Nat) : Int) := by omega
  have e3 : (48 + (c.toNat : Int) % 10) % 256 = ((48 + c.toNat % 10 : Nat) : Int) := by omega
  rw [e1, e2, e3, e0]

theorem drop_label (ls : List Bytes) (i j : Nat) (h : i < ls.length) (hj : j ≤ ls[i].length) : (wire ls).drop (off ls i + 1 + j) = ls[i].drop j ++ wire (ls.drop (i + 1)) := by
  rw [← List.drop_drop, ← List.drop_drop, drop_off ls i (by omega), List.drop_eq_getElem_cons h, wire, List.drop_succ_cons, List.drop_zero, List.drop_append_of_le_length hj]

theorem reftext_l1 (s : ByteArray) (ls : List Bytes) (hs : s.size ≤ 255) (hg : Good ls) (hw : wire ls = B s) (i : Nat) (hi : i < ls.length) (T : Bytes) (hT : T.length ≤ 260 * i) (r : ByteArray × Int)
    (hnext : Ev (fun k => wimpleref1_Text.l0 k s (offs 0 ls) (toI (T ++ escs ls[i] ++ [46])) ((i + 1 : Nat) : Int)) r) : ∀ (d j : Nat), ls[i].length - j = d → j ≤ ls[i].length →
    Ev (fun k => wimpleref1_Text.l1 k s (offs 0 ls) (toI (T ++ escs (ls[i].take j))) (i : Int) ((off ls i + 1 + j : Nat) : Int)) r := by
  intro d
  have hsz := sz s
  have hcnt := wire_count ls hg
  rw [hw] at hcnt
  have hol : (offs 0 ls).length = ls.length + 1 := offs_length 0 ls
  have hll := hg _ (List.getElem_mem hi)
  have o1 := off_lt ls (i + 1) (by omega)
  have os := off_succ ls i hi
  rw [hw] at o1
  induction d with
  | zero =>
    intro j hd hj
    obtain rfl : j = ls[i].length := by omega
    have hel : (escs ls[i]).length ≤ 4 * ls[i].length := escs_len _
    refine Ev.step (fun k => by simp only [wimpleref1_Text.l1]; rfl) ?_
    simp only [w_succ i (by omega), rd_offs ls (i + 1) (by omega), List.take_length]
    refine Ev.pos (by omega) ?_
    refine Ev.pos (by omega) ?_
    refine Ev.neg (by omega) ?_
    refine Ev.pos (by rw [toI_length, List.length_append]; omega) ?_
    refine Ev.congr (fun k => ?_) hnext
    congr 1
    rw [toI_append _ [46]]
    rfl
  | succ d ih =>
    intro j hd hj
    have hjl : j < ls[i].length := by omega
    have h := ih (j + 1) (by omega) (by omega)
    have hes := escs_snoc ls[i] j hjl
    have hel : (escs (ls[i].take j)).length ≤ 4 * j := by
      have h1 := escs_len (ls[i].take j)
      have h2 : (ls[i].take j).length ≤ j := List.length_take_le _ _
      omega
    have hel2 := esc_len (ls[i][j])
    have hdr : (B s).drop (off ls i + 1 + j) = ls[i][j] :: (ls[i].drop (j + 1) ++ wire (ls.drop (i + 1))) := by
      rw [← hw, drop_label ls i j hi hj, List.drop_eq_getElem_cons hjl]
      rfl
    obtain ⟨hb, hlt, _⟩ := bt_drop s _ _ _ hdr
    refine Ev.step (fun k => by simp only [wimpleref1_Text.l1]; rfl) ?_
    simp only [w_succ i (by omega), w_succ (off ls i + 1 + j) (by omega), rd_offs ls (i + 1) (by omega), hb, esc_nums, plain_ev]
    clear hb
    refine Ev.pos (by omega) ?_
    refine Ev.pos (by omega) ?_
    refine Ev.pos (by omega) ?_
    refine Ev.pos (by omega) ?_
    refine Ev.pos (by omega) ?_
    refine Ev.bindp rfl ?_
    by_cases hp : plain ls[i][j] = true
    · refine Ev.pos hp ?_
      refine Ev.pos (by rw [toI_length, List.length_append]; omega) ?_
      refine Ev.congr (fun k => ?_) h
      congr 1
      rw [hes, ← List.append_assoc, toI_append _ (esc _)]
      congr 1
      unfold esc
      rw [if_pos hp]
      rfl
    · refine Ev.neg hp ?_
      refine Ev.bindp rfl ?_
      refine Ev.pos (by rw [toI_length, toI_length, List.length_append]; simp only [List.length_cons, List.length_nil]; omega) ?_
      refine Ev.congr (fun k => ?_) h
      congr 1
      rw [hes, ← List.append_assoc, toI_append _ (esc _)]
      congr 1
      unfold esc
      rw [if_neg hp]

theorem reftext_l0 (s : ByteArray) (ls : List Bytes) (hs : s.size ≤ 255) (hg : Good ls) (hw : wire ls = B s) : ∀ (d i : Nat), ls.length - i = d → i ≤ ls.length → ∀ T, T = textL (ls.take i) → T.length ≤ 260 * i →
    Ev (fun k => wimpleref1_Text.l0 k s (offs 0 ls) (toI T) (i : Int)) (mkB (textL ls), 0) := by
  intro d
  have hsz := sz s
  have hcnt := wire_count ls hg
  rw [hw] at hcnt
  have hol : (offs 0 ls).length = ls.length + 1 := offs_length 0 ls
  induction d with
  | zero =>
    intro i hd hi T hT hl
    obtain rfl : i = ls.length := by omega
    refine Ev.step (fun k => by simp only [wimpleref1_Text.l0]; rfl) ?_
    simp only [w_succ ls.length (by omega)]
    refine Ev.neg (by omega) ?_
    rw [hT, List.take_length, strOf_toI]
    exact Ev.pure _
  | succ d ih =>
    intro i hd hi T hT hl
    have hlt : i < ls.length := by omega
    have hll := hg _ (List.getElem_mem hlt)
    have hsn := textL_snoc ls i hlt
    have hel := escs_len ls[i]
    have hnext := ih (i + 1) (by omega) (by omega) (T ++ escs ls[i] ++ [46]) (by rw [hsn, hT]) (by simp only [List.length_append, List.length_cons, List.length_nil]; omega)
    have hloop := reftext_l1 s ls hs hg hw i hlt T hl _ hnext ls[i].length 0 (by omega) (by omega)
    have o0 := off_lt ls i (by omega)
    rw [hw] at o0
    refine Ev.step (fun k => by simp only [wimpleref1_Text.l0]; rfl) ?_
    simp only [w_succ i (by omega), rd_offs ls i (by omega), w_succ (off ls i) (by omega)]
    refine Ev.pos (by omega) ?_
    refine Ev.pos (by omega) ?_
    refine Ev.pos (by omega) ?_
    rw [List.take_zero] at hloop
    simpa [escs] using hloop

theorem refText_ev (s : ByteArray) : Ev (fun k => wimpleref1_Text.f k s) (textS (B s)) := by
  obtain ⟨r, h1, h2⟩ := refplaces_ev s
  unfold wimpleref1_Text.f textS
  cases h : nm (B s) with
  | none =>
    rw [h] at h1
    exact Ev.bind h1 (Ev.neg (by simp) (Ev.pure _))
  | some ls =>
    rw [h] at h1
    obtain rfl := h2 ls h
    obtain ⟨hg, hw, hl⟩ := nm_some.1 h
    have hol : (offs 0 ls).length = ls.length + 1 := offs_length 0 ls
    refine Ev.bind h1 (Ev.pos rfl ?_)
    by_cases h0 : ls = []
    · subst h0
      exact Ev.pos rfl (Ev.pure _)
    · have hp : 0 < ls.length := List.length_pos_iff.2 h0
      refine Ev.neg (by simp only [hol]; omega) ?_
      have := reftext_l0 s ls (by rw [sz]; exact hl) hg hw ls.length 0 (by omega) (by omega) [] rfl (by simp)
      refine Ev.eq this ?_
      simp only [text, if_neg h0]

end Go.Proofs.Ytefmomphapjfiaa.M
