-- Written by a program of this session's prover (over the kit's printer, with contracts of the session's own); Lean checks it.
import Derived.Test.YtojjkgnkdcekpaaPx0
import Derived.Test.YtojjkgnkdcekpaaPx6
namespace Go.Proofs.Ytojjkgnkdcekpaa.P
open Go.RowKit Go.Proofs.YtojjkgnkdcekpaaW.PrintWords Go.Proofs.YtojjkgnkdcekpaaW.PrintLast Go.Proofs.YtojjkgnkdcekpaaW.PrintMore
attribute [local go_sem] max2_int min2_int max_two min_two max_three min_three max_four min_four   -- for this text's walks alone
set_option linter.unusedVariables false
set_option linter.unusedSimpArgs false

/-! ### wimpleref1_Fold: function 41 -/
def wimpleref1_Fold.f (k : Nat) (a0 : ByteArray) : Option (ByteArray) := (wimpleref1_places.f k a0).bind fun b => (if b.2 = true then (if (M.nm a0.data.toList).isSome = true ∧ b.1 = M.offs 0 ((M.nm a0.data.toList).getD []) then some ⟨(M.fold a0.data.toList).toArray⟩ else none) else some (⟨#[]⟩))
theorem wimpleref1_Fold.mono : ∀ a0 k, LeO (wimpleref1_Fold.f k a0) (wimpleref1_Fold.f (k + 1) a0) := by
  intro a0 k
  unfold wimpleref1_Fold.f
  exact LeO.bind (wimpleref1_places.mono _ _) (fun _ => LeO.refl _)
theorem wimpleref1_Fold.rd_offs (ls : List M.Bytes) (i : Nat) (h : i ≤ ls.length) : rd (M.offs 0 ls) (i : Int) = ((M.off ls i : Nat) : Int) := by
  unfold rd
  rw [Int.toNat_natCast, M.offs_get 0 ls i h]
  simp
/-- What stands at the head of label i; behind j of its bytes. -/
def wimpleref1_Fold.head (ls : List M.Bytes) (i : Nat) : List UInt8 := (M.wire ((ls.take i).map M.fol)).dropLast ++ M.wire (ls.drop i)
def wimpleref1_Fold.cur (P l S : List UInt8) (j : Nat) : List UInt8 := P ++ (((l.take j).map M.fo ++ l.drop j) ++ S)
theorem wimpleref1_Fold.cur_len (P l S : List UInt8) (j : Nat) (h : j ≤ l.length) : (wimpleref1_Fold.cur P l S j).length = P.length + l.length + S.length := by
  have := M.mid_len M.fo l j h
  unfold wimpleref1_Fold.cur
  rw [List.length_append, List.length_append, this]
  omega
theorem wimpleref1_Fold.cur_get (P l S : List UInt8) (j : Nat) (h : j < l.length) (h' : P.length + j < (wimpleref1_Fold.cur P l S j).length) : (wimpleref1_Fold.cur P l S j)[P.length + j] = l[j] := by
  have h1 := M.mid_len M.fo l j (by omega)
  unfold wimpleref1_Fold.cur at h' ⊢
  rw [List.getElem_append_right (by omega)]
  have e : P.length + j - P.length = j := by omega
  simp only [e]
  rw [List.getElem_append_left (by omega)]
  exact M.mid_get M.fo l j h (by omega)
theorem wimpleref1_Fold.cur_set (P l S : List UInt8) (j : Nat) (h : j < l.length) : (wimpleref1_Fold.cur P l S j).set (P.length + j) (M.fo l[j]) = wimpleref1_Fold.cur P l S (j + 1) := by
  have h1 := M.mid_len M.fo l j (by omega)
  unfold wimpleref1_Fold.cur
  rw [List.set_append_right _ _ (by omega), show P.length + j - P.length = j by omega, List.set_append_left _ _ (by omega), M.mid_set M.fo l j h]
theorem wimpleref1_Fold.cur_same (P l S : List UInt8) (j : Nat) (h : j < l.length) (hf : M.fo l[j] = l[j]) : wimpleref1_Fold.cur P l S (j + 1) = wimpleref1_Fold.cur P l S j := by
  rw [← wimpleref1_Fold.cur_set P l S j h, hf]
  have hl : P.length + j < (wimpleref1_Fold.cur P l S j).length := by rw [wimpleref1_Fold.cur_len P l S j (by omega)]; omega
  conv => lhs; rw [← wimpleref1_Fold.cur_get P l S j h hl]
  exact List.set_getElem_self hl
theorem wimpleref1_Fold.off_fol (ls : List M.Bytes) : ∀ i, M.off (ls.map M.fol) i = M.off ls i := by
  induction ls with
  | nil => intro i; cases i <;> rfl
  | cons l r ih =>
    intro i
    cases i with
    | zero => rfl
    | succ i => simp only [List.map_cons, M.off, ih, M.fol_length]
theorem wimpleref1_Fold.pre_len (ls : List M.Bytes) (i : Nat) (h : i ≤ ls.length) : (M.wire ((ls.take i).map M.fol)).dropLast.length = M.off ls i := by
  have h0 : ∀ (ls : List M.Bytes) (i : Nat), i ≤ ls.length → (M.wire (ls.take i)).dropLast.length = M.off ls i := by
    intro ls
    induction ls with
    | nil => intro i hi; have : i = 0 := by simpa using hi
             subst this; rfl
    | cons l r ih =>
      intro i hi
      cases i with
      | zero => rfl
      | succ i =>
        have hi2 : i ≤ r.length := by simpa using hi
        have := ih i hi2
        have hp := M.wire_pos (r.take i)
        simp only [List.take_succ_cons, M.wire, M.off, List.length_dropLast, List.length_cons, List.length_append] at this ⊢
        omega
  rw [List.map_take, h0 _ _ (by simpa using h), wimpleref1_Fold.off_fol]
theorem wimpleref1_Fold.head_cur (ls : List M.Bytes) (i : Nat) (h : i < ls.length) : wimpleref1_Fold.head ls i = wimpleref1_Fold.cur ((M.wire ((ls.take i).map M.fol)).dropLast ++ [UInt8.ofNat ls[i].length]) ls[i] (M.wire (ls.drop (i + 1))) 0 := by
  unfold wimpleref1_Fold.head wimpleref1_Fold.cur
  rw [List.drop_eq_getElem_cons h, M.wire]
  simp
theorem wimpleref1_Fold.cur_head (ls : List M.Bytes) (i : Nat) (h : i < ls.length) : wimpleref1_Fold.cur ((M.wire ((ls.take i).map M.fol)).dropLast ++ [UInt8.ofNat ls[i].length]) ls[i] (M.wire (ls.drop (i + 1))) ls[i].length = wimpleref1_Fold.head ls (i + 1) := by
  unfold wimpleref1_Fold.head wimpleref1_Fold.cur
  rw [List.take_succ_eq_append_getElem h, List.map_append, M.wire_append, List.take_length, List.drop_length]
  have e : (M.wire ((ls.take i).map M.fol)).dropLast ++ M.wire ([ls[i]].map M.fol) = ((M.wire ((ls.take i).map M.fol)).dropLast ++ (UInt8.ofNat ls[i].length :: M.fol ls[i])) ++ [0] := by
    simp [M.wire, M.fol_length]
  rw [e, List.dropLast_concat]
  simp [M.fol]
theorem wimpleref1_Fold.head_end (ls : List M.Bytes) : wimpleref1_Fold.head ls ls.length = M.wire (ls.map M.fol) := by
  unfold wimpleref1_Fold.head
  rw [List.take_length, List.drop_length]
  have hp : M.wire (ls.map M.fol) ≠ [] := by intro e; have := M.wire_pos (ls.map M.fol); rw [e] at this; simp at this
  have hz : ∀ q : List M.Bytes, ∃ b, M.wire q = b ++ [0] := by
    intro q
    induction q with
    | nil => exact ⟨[], rfl⟩
    | cons l r ih =>
      obtain ⟨b, hb⟩ := ih
      exact ⟨UInt8.ofNat l.length :: (l ++ b), by simp [M.wire, hb]⟩
  obtain ⟨b, hb⟩ := hz (ls.map M.fol)
  rw [hb, List.dropLast_concat]
  rfl

set_option maxHeartbeats 8000000 in
set_option maxRecDepth 100000 in
theorem wimpleref1_Fold.calls (k : Nat) (a0 : ByteArray) (r : ByteArray) (w : World) (h : wimpleref1_Fold.f k a0 = some r) :
    Calls Try.prog 41 #[.string a0] w fun e w' => e = .returned (.string r) ∧ Below w.heap.size w w' := by
  unfold wimpleref1_Fold.f at h
  obtain ⟨⟨ps, is⟩, hL, h⟩ := Option.bind_eq_some_iff.1 h
  cases is with
  | false =>
    have HL := Lib.hid hL
    clear hL
    simp only [Bool.false_eq_true, if_false, Option.some.injEq] at h
    obtain rfl := h
    go_enter Try.func41, Try.ntmps41
    go_wp2_with fail
    refine (wimpleref1_places.calls k a0 ps false _ HL.out).mono ?_
    rintro e w1 ⟨v, rfl, hR, hB⟩
    clear HL
    go_wp2
    go_ret
    exact ⟨rfl, hB⟩
  | true =>
    simp only [if_true] at h
    by_cases hg : (M.nm a0.data.toList).isSome = true ∧ ps = M.offs 0 ((M.nm a0.data.toList).getD [])
    · rw [if_pos hg] at h
      obtain rfl := Option.some.inj h
      clear h
      obtain ⟨ls, hnm⟩ := Option.isSome_iff_exists.1 hg.1
      obtain ⟨_, hps⟩ := hg
      rw [hnm, Option.getD_some] at hps
      subst hps
      have HL := Lib.hid hL
      clear hL
      have hfold := M.fold_some hnm
      have HF := Lib.hid hfold
      clear hfold
      obtain ⟨hgood, hwire, hlen⟩ := M.nm_some.1 hnm
      clear hnm
      have hol : (M.offs 0 ls).length = ls.length + 1 := M.offs_length 0 ls
      have hsz : a0.size = a0.data.toList.length := by rw [Array.length_toList]; rfl
      have hs255 : a0.size ≤ 255 := by rw [hsz]; exact hlen
      clear hlen
      have hcnt := M.wire_count ls hgood
      have hwl : (M.wire ls).length = a0.size := by rw [hwire, hsz]
      rw [hwl] at hcnt
      have HW := Lib.hid hwire
      have HWL := Lib.hid hwl
      have HGD := Lib.hid hgood
      clear hwire hwl hgood hsz
      have HOL := Lib.hid hol
      clear hol
      have hback : ∀ (W : World) (g : Nat) (L : List UInt8) (c : Nat), M.BRow W g L → L.length = a0.size → (convert 83 9 (.slice (some ⟨g, 0, none⟩) a0.size c)).run Try.prog W = .ok (.string ⟨L.toArray⟩) W := by
        intro W g L c hB hL
        rw [← hL]
        exact hB.back Try.underlying83 Try.underlying5 Try.underlying9
      have HBK := Lib.hid hback
      clear hback
      go_enter Try.func41, Try.ntmps41
      go_wp2_with fail
      refine (wimpleref1_places.calls k a0 _ true _ HL.out).mono ?_
      rintro e w1 ⟨v, rfl, hR, hB⟩
      clear HL
      obtain ⟨A, c, rfl⟩ := Kd.R_slice hR
      rw [HOL.out] at hR ⊢
      have HR := Lib.hid hR
      clear hR
      have hconv := Lib.run_convert_string_bytes (P := Try.prog) w1 9 83 5 a0 Try.underlying9 Try.underlying83 Try.underlying5
      have hnew := M.BRow.new w1 a0
      rw [← HW.out] at hnew
      have hbel := M.below_bytes w1 a0
      have hsz1 : w.heap.size ≤ w1.heap.size := hB.size
      go_wp2
      clear hconv
      go_loopw [6] (fun v6 wr => ∃ i : Nat, i ≤ ls.length ∧ v6 = .int .i64 i ∧ M.BRow wr w1.heap.size (wimpleref1_Fold.head ls i) ∧ Below w1.heap.size w1 wr) (fun v6 _ => ls.length - (intOf v6).toNat)
      case atStart => exact ⟨0, Nat.zero_le _, rfl, by simpa [wimpleref1_Fold.head, M.wire] using hnew, hbel⟩
      case round =>
        clear hnew hbel
        obtain ⟨i, hi, rfl, hrow, hbw⟩ := hrel
        have hws : w1.heap.size ≤ wr.heap.size := hbw.size
        by_cases hlt : i < ls.length
        · have hR := Kd.R_below HR.out hbw
          obtain ⟨ad, rfl, hcell0⟩ := Kd.at_int (Kd.R_reads' hR).2.2 (i : Int) (by omega) (by rw [HOL.out]; omega)
          obtain ⟨ad', had, hcell1⟩ := Kd.at_int (Kd.R_reads' hR).2.2 ((i + 1 : Nat) : Int) (by omega) (by rw [HOL.out]; omega)
          obtain rfl : ad = ad' := by injection had
          clear had hR hcell1
          rw [wimpleref1_Fold.rd_offs ls i (by omega), Int.toNat_natCast] at hcell0
          have o1 : M.off ls (i + 1) < a0.size := by have := M.off_lt ls (i + 1) (by omega); rw [HWL.out] at this; exact this
          have os := M.off_succ ls i hlt
          have hpl := wimpleref1_Fold.pre_len ls i (by omega)
          rw [wimpleref1_Fold.head_cur ls i hlt] at hrow
          have hch := wimpleref1_Fold.cur_head ls i hlt
          generalize M.wire (ls.drop (i + 1)) = S at *
          have hPl : ((M.wire ((ls.take i).map M.fol)).dropLast ++ [UInt8.ofNat ls[i].length]).length = M.off ls i + 1 := by rw [List.length_append, hpl]; rfl
          generalize (M.wire ((ls.take i).map M.fol)).dropLast ++ [UInt8.ofNat ls[i].length] = P at *
          clear hpl
          generalize ls[i] = l at *
          have HCH := Lib.hid hch
          clear hch
          have hro1 := wimpleref1_Fold.rd_offs ls (i + 1) (by omega)
          generalize M.off ls (i + 1) = o' at *
          subst os
          generalize M.off ls i = o at *
          have HPl := Lib.hid hPl
          clear hPl
          have HRO := Lib.hid hro1
          clear hro1
          go_wp2
          obtain ⟨wo, rfl⟩ : ∃ wo : World, wo = wr := ⟨_, rfl⟩
          go_loopw [7] (fun v7 wr => ∃ j : Nat, j ≤ l.length ∧ v7 = .int .i64 ((o + 1 + j : Nat) : Int) ∧ M.BRow wr w1.heap.size (wimpleref1_Fold.cur P l S j) ∧ Below w1.heap.size w1 wr) (fun v7 _ => o + 1 + l.length - (intOf v7).toNat)
          case atStart => exact ⟨0, Nat.zero_le _, by simp, hrow, hbw⟩
          case round =>
            clear hrow hbw hcell0 hws
            obtain ⟨j, hj, rfl, hrow, hbw⟩ := hrel
            have hws : w1.heap.size ≤ wr.heap.size := hbw.size
            have hR := Kd.R_below HR.out hbw
            obtain ⟨ad', had, hcell1⟩ := Kd.at_int (Kd.R_reads' hR).2.2 ((i + 1 : Nat) : Int) (by omega) (by rw [HOL.out]; omega)
            obtain rfl : ad = ad' := by injection had
            clear had hR
            rw [HRO.out, Int.toNat_natCast] at hcell1
            have hcell2 : wr.cell? ⟨ad.block, ad.off + (i + 1), none⟩ = some (.int .i64 ((o + 1 + l.length : Nat) : Int)) := by simpa [Addr.add] using hcell1
            by_cases hjt : j < l.length
            · have hcl := wimpleref1_Fold.cur_len P l S j (by omega)
              have hcell := hrow.cell (P.length + j) (by omega)
              rw [wimpleref1_Fold.cur_get P l S j hjt] at hcell
              have hfree := hrow.free (P.length + j) (by omega)
              have hput := hrow.put (P.length + j) (M.fo (l[j]'hjt))
              rw [wimpleref1_Fold.cur_set P l S j hjt, M.fo_toNat] at hput
              have hsame := wimpleref1_Fold.cur_same P l S j hjt
              rw [HPl.out] at hcell hfree hput
              clear hcl
              have hfo : M.fo (l[j]'hjt) = if 65 ≤ (l[j]'hjt).toNat ∧ (l[j]'hjt).toNat ≤ 90 then (l[j]'hjt) + 32 else (l[j]'hjt) := rfl
              generalize l[j]'hjt = ch at *
              have hc := ch.toNat_lt
              by_cases hcap : 65 ≤ ch.toNat ∧ ch.toNat ≤ 90
              · rw [if_pos hcap] at hput
                have q1 : decide (65 ≤ (ch.toNat : Int)) = true := decide_eq_true (by omega)
                have q2 : decide ((ch.toNat : Int) ≤ 90) = true := decide_eq_true (by omega)
                have hcast : ((ch.toNat + 32 : Nat) : Int) = ((ch.toNat : Int) + 32) % 256 := by omega
                rw [hcast] at hput
                have HPUT := Lib.hid hput
                clear hput hcast hrow hsame hfo hcap
                go_wp2
                go_roundw
                case rel => exact ⟨j + 1, by omega, by first | rfl | go_num, HPUT.out, hbw.setCell (p := ⟨w1.heap.size, o + 1 + j, none⟩) (Nat.le_refl _) _⟩
                case measure => simp [intOf]; omega
              · rw [if_neg hcap] at hfo
                have hs2 := hsame hfo
                have HS := Lib.hid hs2
                clear hput hsame hfo hs2
                have key : (decide (65 ≤ (ch.toNat : Int)) = false) ∨ (decide (65 ≤ (ch.toNat : Int)) = true ∧ decide ((ch.toNat : Int) ≤ 90) = false) := by
                  simp only [decide_eq_true_eq, decide_eq_false_iff_not]
                  omega
                clear hcap
                rcases key with q1 | ⟨q1, q2⟩
                all_goals
                  go_wp2
                  go_roundw
                  case rel => exact ⟨j + 1, by omega, by first | rfl | go_num, by rw [HS.out]; exact hrow, hbw⟩
                  case measure => simp [intOf]; omega
            · obtain rfl : j = l.length := by omega
              rw [HCH.out] at hrow
              go_wp2
              go_roundw
              case rel => exact ⟨i + 1, by omega, by go_num, hrow, hbw⟩
              case measure => simp [intOf]; omega
        · obtain rfl : i = ls.length := by omega
          rw [wimpleref1_Fold.head_end ls] at hrow
          have hb2 := HBK.out wr w1.heap.size (M.wire (ls.map M.fol)) (grownCap w1 a0.size 0 5) hrow (by rw [M.wire_fold_length]; exact HWL.out)
          go_wp2
          go_ret
          exact ⟨by rw [HF.out]; rfl, hB.trans (hbw.mono hsz1)⟩
    · rw [if_neg hg] at h
      cases h


end Go.Proofs.Ytojjkgnkdcekpaa.P
