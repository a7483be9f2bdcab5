-- Written by a program of this session's prover (over the kit's printer, with contracts of the session's own); Lean checks it.
import Derived.Test.YteodnommecpglaaPx0
import Derived.Test.YteodnommecpglaaPx1
import Derived.Test.YteodnommecpglaaPx2
import Derived.Test.YteodnommecpglaaPx3
namespace Go.Proofs.Yteodnommecpglaa.P
open Go.RowKit Go.Proofs.YteodnommecpglaaW.PrintWords Go.Proofs.YteodnommecpglaaW.PrintLast Go.Proofs.YteodnommecpglaaW.PrintMore
attribute [local go_sem] max2_int min2_int max_two min_two max_three min_three max_four min_four   -- for this text's walks alone
set_option linter.unusedVariables false
set_option linter.unusedSimpArgs false

/-! ### rel_Fold: function 17 -/
/-- Folded labels, as a name's bytes. -/
def foldB (ls : List ByteArray) : ByteArray := ⟨(M.wire (ls.map (fun l => M.fol l.data.toList))).toArray⟩
def rel_Fold.f (k : Nat) (a0 : ByteArray) : Option (ByteArray) := (name_Labels.f k a0).bind fun b => (if b.2 = true then (if b.1.length ≤ 1000 ∧ ∀ l ∈ b.1, l.size ≤ 255 then some (foldB b.1) else none) else some (⟨#[]⟩))
theorem rel_Fold.mono : ∀ a0 k, LeO (rel_Fold.f k a0) (rel_Fold.f (k + 1) a0) := by
  intro a0 k
  unfold rel_Fold.f
  exact LeO.bind (name_Labels.mono _ _) (fun _ => LeO.refl _)
theorem rel_Fold.rdOf_str (ls : List ByteArray) (i : Nat) (h : i < ls.length) : rdOf ByteArray.empty ls (i : Int) = ls[i] := by
  simp [rdOf, List.getD_eq_getElem?_getD, h]
theorem rel_Fold.folded_f (l : ByteArray) (h : l.size ≤ 255) : rel_folded.f l = some ⟨(M.fol l.data.toList).toArray⟩ := by
  unfold rel_folded.f
  rw [if_pos (by omega)]
/-- What is written behind i labels. -/
def rel_Fold.upto (ls : List ByteArray) (i : Nat) : List UInt8 := ((ls.take i).map (fun l => UInt8.ofNat l.size :: M.fol l.data.toList)).flatten
theorem rel_Fold.upto_succ (ls : List ByteArray) (i : Nat) (h : i < ls.length) : rel_Fold.upto ls (i + 1) = (rel_Fold.upto ls i ++ [UInt8.ofNat ls[i].size]) ++ M.fol ls[i].data.toList := by
  unfold rel_Fold.upto
  rw [List.take_succ_eq_append_getElem h, List.map_append, List.flatten_append]
  simp
theorem rel_Fold.upto_len (ls : List ByteArray) (hg : ∀ l ∈ ls, l.size ≤ 255) (i : Nat) (hi : i ≤ ls.length) : (rel_Fold.upto ls i).length ≤ 256 * i := by
  induction i with
  | zero => simp [rel_Fold.upto]
  | succ i ih =>
    rw [rel_Fold.upto_succ ls i (by omega)]
    have h1 := ih (by omega)
    have h2 := hg _ (List.getElem_mem (show i < ls.length by omega))
    have h3 : ls[i].data.toList.length = ls[i].size := by rw [Array.length_toList]; rfl
    simp only [List.length_append, List.length_cons, List.length_nil, M.fol_length]
    omega
theorem rel_Fold.upto_all (ls : List ByteArray) : rel_Fold.upto ls ls.length ++ [0] = M.wire (ls.map (fun l => M.fol l.data.toList)) := by
  unfold rel_Fold.upto
  rw [List.take_length]
  induction ls with
  | nil => rfl
  | cons l r ih =>
    have h3 : l.data.toList.length = l.size := by rw [Array.length_toList]; rfl
    simp only [List.map_cons, List.flatten_cons, M.wire, M.fol_length, h3, List.cons_append, List.append_assoc]
    rw [ih]

set_option maxHeartbeats 4000000 in
set_option maxRecDepth 100000 in
theorem rel_Fold.calls (k : Nat) (a0 : ByteArray) (r : ByteArray) (w : World) (h : rel_Fold.f k a0 = some r) :
    Calls Try.prog 17 #[.string a0] w fun e w' => e = .returned (.string r) ∧ Below w.heap.size w w' := by
  unfold rel_Fold.f at h
  obtain ⟨⟨ls, is⟩, hL, h⟩ := Option.bind_eq_some_iff.1 h
  have HL := Lib.hid hL
  clear hL
  cases is with
  | false =>
    simp only [Bool.false_eq_true, if_false, Option.some.injEq] at h
    obtain rfl := h
    go_enter Try.func17, Try.ntmps17
    go_wp2_with fail
    refine (name_Labels.calls k a0 ls false _ HL.out).mono ?_
    rintro e w1 ⟨v, rfl, hR, hB⟩
    clear HL
    go_wp2
    go_ret
    exact ⟨rfl, hB⟩
  | true =>
    simp only [if_true] at h
    by_cases hg : ls.length ≤ 1000 ∧ ∀ l ∈ ls, l.size ≤ 255
    · rw [if_pos hg] at h
      obtain rfl := Option.some.inj h
      clear h
      obtain ⟨hg1, hg2⟩ := hg
      have HG := Lib.hid hg2
      clear hg2
      have hfin := rel_Fold.upto_all ls
      have HF := Lib.hid hfin
      clear hfin
      go_enter Try.func17, Try.ntmps17
      go_wp2_with fail
      refine (name_Labels.calls k a0 ls true _ HL.out).mono ?_
      rintro e w1 ⟨v, rfl, hR, hB⟩
      clear HL
      obtain ⟨A, c, rfl⟩ := Kd.R_slice hR
      have HR := Lib.hid hR
      clear hR
      go_wp2
      have hsz : w.heap.size ≤ w1.heap.size := hB.size
      go_loopw [17] (fun v17 wr => ∃ i : Nat, i ≤ ls.length ∧ v17 = .int .i64 i ∧ Lib.IsBuilder 54 5 w1.heap.size w1.heap.size (Lib.byteCells (rel_Fold.upto ls i)) wr ∧ Below w1.heap.size w1 wr) (fun v17 _ => ls.length - (intOf v17).toNat)
      case atStart => exact ⟨0, Nat.zero_le _, rfl, Lib.fresh_isBuilder 54 5 w1, (Below.refl _ _).alloc (Nat.le_refl _) _⟩
      case round =>
        obtain ⟨i, hi, rfl, hI, hbw⟩ := hrel
        have hws : w1.heap.size ≤ wr.heap.size := hbw.size
        have hul := rel_Fold.upto_len ls HG.out i hi
        have hbl : (Lib.byteCells (rel_Fold.upto ls i)).length ≤ 256000 := by
          rw [Lib.byteCells, List.length_map]
          omega
        by_cases hlt : i < ls.length
        · have hR := Kd.R_below HR.out hbw
          obtain ⟨ad, rfl, hcell⟩ := Kd.at_string (Kd.R_reads' hR).2.2 (i : Int) (by omega) (by omega)
          rw [rel_Fold.rdOf_str ls i hlt, Int.toNat_natCast] at hcell
          clear hR
          have hl1 : ls[i].size ≤ 255 := HG.out _ (List.getElem_mem hlt)
          have hus := rel_Fold.upto_succ ls i hlt
          generalize ls[i] = l at *
          have HU := Lib.hid hus
          clear hus
          generalize hT : rel_Fold.upto ls i = T at *
          clear hT
          have hbyte : ((UInt8.ofNat l.size).toNat : Int) = (l.size : Int) := by rw [M.ofNat_toNat_len hl1]
          have HBY := Lib.hid hbyte
          clear hbyte
          have hlc : (Lib.byteCells (M.fol l.data.toList)).length ≤ 255 := by
            have h3 : l.data.toList.length = l.size := by rw [Array.length_toList]; rfl
            rw [Lib.byteCells, List.length_map, M.fol_length, h3]
            exact hl1
          go_wp2_with fail
          refine (Bld.WriteByte w1.heap.size w1.heap.size _ _ _ hI (by omega) hws).mono ?_
          rintro e w3 ⟨rfl, h3, b3⟩
          have hw3 : w1.heap.size ≤ w3.heap.size := Nat.le_trans hws b3.size
          go_wp2_with fail
          refine (rel_folded.calls l _ _ (rel_Fold.folded_f l hl1)).mono ?_
          rintro e w4 ⟨rfl, b4⟩
          have hw4 : w1.heap.size ≤ w4.heap.size := Nat.le_trans hw3 b4.size
          have h4 := Bld.keep (.inr h3) b4
          go_wp2_with fail
          refine (Bld.WriteString w1.heap.size w1.heap.size _ ⟨(M.fol l.data.toList).toArray⟩ _ h4 ?_ hw4).mono ?_
          · have e1 : (⟨(M.fol l.data.toList).toArray⟩ : ByteArray).size = (Lib.byteCells (M.fol l.data.toList)).length := by simp [Lib.byteCells, ByteArray.size]
            rw [e1, List.length_append, List.length_cons, List.length_nil]
            omega
          rintro e w5 ⟨rfl, h5, b5⟩
          go_wp2
          go_roundw
          case rel =>
            refine ⟨i + 1, by omega, by go_num, ?_, ((hbw.trans b3).trans (b4.mono hw3)).trans b5⟩
            rw [HU.out, Lib.byteCells_append, Lib.byteCells_append]
            have e2 : Lib.byteCells [UInt8.ofNat l.size] = [.int .u8 (l.size : Int)] := by rw [← HBY.out]; rfl
            have e3 : Lib.strCells ⟨(M.fol l.data.toList).toArray⟩ = Lib.byteCells (M.fol l.data.toList) := by simp [Lib.strCells, Lib.byteCells]
            rw [e2, ← e3]
            exact .inr h5
          case measure => simp [intOf]; omega
        · obtain rfl : i = ls.length := by omega
          go_wp2_with fail
          refine (Bld.WriteString w1.heap.size w1.heap.size _ ⟨#[0]⟩ _ hI (by show _ + 1 ≤ _; omega) hws).mono ?_
          rintro e w3 ⟨rfl, h3, b3⟩
          have hw3 : w1.heap.size ≤ w3.heap.size := Nat.le_trans hws b3.size
          have h4 : Lib.IsBuilder 54 5 w1.heap.size w1.heap.size (Lib.byteCells (M.wire (ls.map (fun l => M.fol l.data.toList)))) w3 := by
            rw [← HF.out, Lib.byteCells_append]
            exact .inr h3
          go_wp2_with fail
          refine (Try.Builder_String_any w1.heap.size w1.heap.size _ _ h4 hw3).mono ?_
          rintro e w4 ⟨rfl, b4⟩
          go_wp2
          go_ret
          exact ⟨rfl, ((hB.trans (hbw.mono hsz)).trans (b3.mono hsz)).trans (b4.mono hsz)⟩
    · rw [if_neg hg] at h
      cases h


/-! ### wimpleref1_Fold: function 18 -/
def wimpleref1_Fold.f (k : Nat) (a0 : ByteArray) : Option (ByteArray) := (wimpleref1_places.f k a0).bind fun b => (if b.2 = true then (if (M.nm a0.data.toList).isSome = true ∧ b.1 = M.offs 0 ((M.nm a0.data.toList).getD []) then some ⟨(M.fold a0.data.toList).toArray⟩ else none) else some (⟨#[]⟩))
theorem wimpleref1_Fold.mono : ∀ a0 k, LeO (wimpleref1_Fold.f k a0) (wimpleref1_Fold.f (k + 1) a0) := by
  intro a0 k
  unfold wimpleref1_Fold.f
  exact LeO.bind (wimpleref1_places.mono _ _) (fun _ => LeO.refl _)
theorem wimpleref1_Fold.rd_offs (ls : List M.Bytes) (i : Nat) (h : i ≤ ls.length) : rd (M.offs 0 ls) (i : Int) = ((M.off ls i : Nat) : Int) := by
  unfold rd
  rw [Int.toNat_natCast, M.offs_get 0 ls i h]
  simp
/-- What stands at the head of label i; behind j of its bytes. -/
def wimpleref1_Fold.head (ls : List M.Bytes) (i : Nat) : List UInt8 := (M.wire ((ls.take i).map M.fol)).dropLast ++ M.wire (ls.drop i)
def wimpleref1_Fold.cur (P l S : List UInt8) (j : Nat) : List UInt8 := P ++ (((l.take j).map M.fo ++ l.drop j) ++ S)
theorem wimpleref1_Fold.cur_len (P l S : List UInt8) (j : Nat) (h : j ≤ l.length) : (wimpleref1_Fold.cur P l S j).length = P.length + l.length + S.length := by
  have := M.mid_len M.fo l j h
  unfold wimpleref1_Fold.cur
  rw [List.length_append, List.length_append, this]
  omega
theorem wimpleref1_Fold.cur_get (P l S : List UInt8) (j : Nat) (h : j < l.length) (h' : P.length + j < (wimpleref1_Fold.cur P l S j).length) : (wimpleref1_Fold.cur P l S j)[P.length + j] = l[j] := by
  have h1 := M.mid_len M.fo l j (by omega)
  unfold wimpleref1_Fold.cur at h' ⊢
  rw [List.getElem_append_right (by omega)]
  have e : P.length + j - P.length = j := by omega
  simp only [e]
  rw [List.getElem_append_left (by omega)]
  exact M.mid_get M.fo l j h (by omega)
theorem wimpleref1_Fold.cur_set (P l S : List UInt8) (j : Nat) (h : j < l.length) : (wimpleref1_Fold.cur P l S j).set (P.length + j) (M.fo l[j]) = wimpleref1_Fold.cur P l S (j + 1) := by
  have h1 := M.mid_len M.fo l j (by omega)
  unfold wimpleref1_Fold.cur
  rw [List.set_append_right _ _ (by omega), show P.length + j - P.length = j by omega, List.set_append_left _ _ (by omega), M.mid_set M.fo l j h]
theorem wimpleref1_Fold.cur_same (P l S : List UInt8) (j : Nat) (h : j < l.length) (hf : M.fo l[j] = l[j]) : wimpleref1_Fold.cur P l S (j + 1) = wimpleref1_Fold.cur P l S j := by
  rw [← wimpleref1_Fold.cur_set P l S j h, hf]
  have hl : P.length + j < (wimpleref1_Fold.cur P l S j).length := by rw [wimpleref1_Fold.cur_len P l S j (by omega)]; omega
  conv => lhs; rw [← wimpleref1_Fold.cur_get P l S j h hl]
  exact List.set_getElem_self hl
theorem wimpleref1_Fold.off_fol (ls : List M.Bytes) : ∀ i, M.off (ls.map M.fol) i = M.off ls i := by
  induction ls with
  | nil => intro i; cases i <;> rfl
  | cons l r ih =>
    intro i
    cases i with
    | zero => rfl
    | succ i => simp only [List.map_cons, M.off, ih, M.fol_length]
theorem wimpleref1_Fold.pre_len (ls : List M.Bytes) (i : Nat) (h : i ≤ ls.length) : (M.wire ((ls.take i).map M.fol)).dropLast.length = M.off ls i := by
  have h0 : ∀ (ls : List M.Bytes) (i : Nat), i ≤ ls.length → (M.wire (ls.take i)).dropLast.length = M.off ls i := by
    intro ls
    induction ls with
    | nil => intro i hi; have : i = 0 := by simpa using hi
             subst this; rfl
    | cons l r ih =>
      intro i hi
      cases i with
      | zero => rfl
      | succ i =>
        have hi2 : i ≤ r.length := by simpa using hi
        have := ih i hi2
        have hp := M.wire_pos (r.take i)
        simp only [List.take_succ_cons, M.wire, M.off, List.length_dropLast, List.length_cons, List.length_append] at this ⊢
        omega
  rw [List.map_take, h0 _ _ (by simpa using h), wimpleref1_Fold.off_fol]
theorem wimpleref1_Fold.head_cur (ls : List M.Bytes) (i : Nat) (h : i < ls.length) : wimpleref1_Fold.head ls i = wimpleref1_Fold.cur ((M.wire ((ls.take i).map M.fol)).dropLast ++ [UInt8.ofNat ls[i].length]) ls[i] (M.wire (ls.drop (i + 1))) 0 := by
  unfold wimpleref1_Fold.head wimpleref1_Fold.cur
  rw [List.drop_eq_getElem_cons h, M.wire]
  simp
theorem wimpleref1_Fold.cur_head (ls : List M.Bytes) (i : Nat) (h : i < ls.length) : wimpleref1_Fold.cur ((M.wire ((ls.take i).map M.fol)).dropLast ++ [UInt8.ofNat ls[i].length]) ls[i] (M.wire (ls.drop (i + 1))) ls[i].length = wimpleref1_Fold.head ls (i + 1) := by
  unfold wimpleref1_Fold.head wimpleref1_Fold.cur
  rw [List.take_succ_eq_append_getElem h, List.map_append, M.wire_append, List.take_length, List.drop_length]
  have e : (M.wire ((ls.take i).map M.fol)).dropLast ++ M.wire ([ls[i]].map M.fol) = ((M.wire ((ls.take i).map M.fol)).dropLast ++ (UInt8.ofNat ls[i].length :: M.fol ls[i])) ++ [0] := by
    simp [M.wire, M.fol_length]
  rw [e, List.dropLast_concat]
  simp [M.fol]
theorem wimpleref1_Fold.head_end (ls : List M.Bytes) : wimpleref1_Fold.head ls ls.length = M.wire (ls.map M.fol) := by
  unfold wimpleref1_Fold.head
  rw [List.take_length, List.drop_length]
  have hp : M.wire (ls.map M.fol) ≠ [] := by intro e; have := M.wire_pos (ls.map M.fol); rw [e] at this; simp at this
  have hz : ∀ q : List M.Bytes, ∃ b, M.wire q = b ++ [0] := by
    intro q
    induction q with
    | nil => exact ⟨[], rfl⟩
    | cons l r ih =>
      obtain ⟨b, hb⟩ := ih
      exact ⟨UInt8.ofNat l.length :: (l ++ b), by simp [M.wire, hb]⟩
  obtain ⟨b, hb⟩ := hz (ls.map M.fol)
  rw [hb, List.dropLast_concat]
  rfl

set_option maxHeartbeats 8000000 in
set_option maxRecDepth 100000 in
theorem wimpleref1_Fold.calls (k : Nat) (a0 : ByteArray) (r : ByteArray) (w : World) (h : wimpleref1_Fold.f k a0 = some r) :
    Calls Try.prog 18 #[.string a0] w fun e w' => e = .returned (.string r) ∧ Below w.heap.size w w' := by
  unfold wimpleref1_Fold.f at h
  obtain ⟨⟨ps, is⟩, hL, h⟩ := Option.bind_eq_some_iff.1 h
  cases is with
  | false =>
    have HL := Lib.hid hL
    clear hL
    simp only [Bool.false_eq_true, if_false, Option.some.injEq] at h
    obtain rfl := h
    go_enter Try.func18, Try.ntmps18
    go_wp2_with fail
    refine (wimpleref1_places.calls k a0 ps false _ HL.out).mono ?_
    rintro e w1 ⟨v, rfl, hR, hB⟩
    clear HL
    go_wp2
    go_ret
    exact ⟨rfl, hB⟩
  | true =>
    simp only [if_true] at h
    by_cases hg : (M.nm a0.data.toList).isSome = true ∧ ps = M.offs 0 ((M.nm a0.data.toList).getD [])
    · rw [if_pos hg] at h
      obtain rfl := Option.some.inj h
      clear h
      obtain ⟨ls, hnm⟩ := Option.isSome_iff_exists.1 hg.1
      obtain ⟨_, hps⟩ := hg
      rw [hnm, Option.getD_some] at hps
      subst hps
      have HL := Lib.hid hL
      clear hL
      have hfold := M.fold_some hnm
      have HF := Lib.hid hfold
      clear hfold
      obtain ⟨hgood, hwire, hlen⟩ := M.nm_some.1 hnm
      clear hnm
      have hol : (M.offs 0 ls).length = ls.length + 1 := M.offs_length 0 ls
      have hsz : a0.size = a0.data.toList.length := by rw [Array.length_toList]; rfl
      have hs255 : a0.size ≤ 255 := by rw [hsz]; exact hlen
      clear hlen
      have hcnt := M.wire_count ls hgood
      have hwl : (M.wire ls).length = a0.size := by rw [hwire, hsz]
      rw [hwl] at hcnt
      have HW := Lib.hid hwire
      have HWL := Lib.hid hwl
      have HGD := Lib.hid hgood
      clear hwire hwl hgood hsz
      have HOL := Lib.hid hol
      clear hol
      have hback : ∀ (W : World) (g : Nat) (L : List UInt8) (c : Nat), M.BRow W g L → L.length = a0.size → (convert 40 9 (.slice (some ⟨g, 0, none⟩) a0.size c)).run Try.prog W = .ok (.string ⟨L.toArray⟩) W := by
        intro W g L c hB hL
        rw [← hL]
        exact hB.back Try.underlying40 Try.underlying5 Try.underlying9
      have HBK := Lib.hid hback
      clear hback
      go_enter Try.func18, Try.ntmps18
      go_wp2_with fail
      refine (wimpleref1_places.calls k a0 _ true _ HL.out).mono ?_
      rintro e w1 ⟨v, rfl, hR, hB⟩
      clear HL
      obtain ⟨A, c, rfl⟩ := Kd.R_slice hR
      rw [HOL.out] at hR ⊢
      have HR := Lib.hid hR
      clear hR
      have hconv := Lib.run_convert_string_bytes (P := Try.prog) w1 9 40 5 a0 Try.underlying9 Try.underlying40 Try.underlying5
      have hnew := M.BRow.new w1 a0
      rw [← HW.out] at hnew
      have hbel := M.below_bytes w1 a0
      have hsz1 : w.heap.size ≤ w1.heap.size := hB.size
      go_wp2
      clear hconv
      go_loopw [6] (fun v6 wr => ∃ i : Nat, i ≤ ls.length ∧ v6 = .int .i64 i ∧ M.BRow wr w1.heap.size (wimpleref1_Fold.head ls i) ∧ Below w1.heap.size w1 wr) (fun v6 _ => ls.length - (intOf v6).toNat)
      case atStart => exact ⟨0, Nat.zero_le _, rfl, by simpa [wimpleref1_Fold.head, M.wire] using hnew, hbel⟩
      case round =>
        clear hnew hbel
        obtain ⟨i, hi, rfl, hrow, hbw⟩ := hrel
        have hws : w1.heap.size ≤ wr.heap.size := hbw.size
        by_cases hlt : i < ls.length
        · have hR := Kd.R_below HR.out hbw
          obtain ⟨ad, rfl, hcell0⟩ := Kd.at_int (Kd.R_reads' hR).2.2 (i : Int) (by omega) (by rw [HOL.out]; omega)
          obtain ⟨ad', had, hcell1⟩ := Kd.at_int (Kd.R_reads' hR).2.2 ((i + 1 : Nat) : Int) (by omega) (by rw [HOL.out]; omega)
          obtain rfl : ad = ad' := by injection had
          clear had hR hcell1
          rw [wimpleref1_Fold.rd_offs ls i (by omega), Int.toNat_natCast] at hcell0
          have o1 : M.off ls (i + 1) < a0.size := by have := M.off_lt ls (i + 1) (by omega); rw [HWL.out] at this; exact this
          have os := M.off_succ ls i hlt
          have hpl := wimpleref1_Fold.pre_len ls i (by omega)
          rw [wimpleref1_Fold.head_cur ls i hlt] at hrow
          have hch := wimpleref1_Fold.cur_head ls i hlt
          generalize M.wire (ls.drop (i + 1)) = S at *
          have hPl : ((M.wire ((ls.take i).map M.fol)).dropLast ++ [UInt8.ofNat ls[i].length]).length = M.off ls i + 1 := by rw [List.length_append, hpl]; rfl
          generalize (M.wire ((ls.take i).map M.fol)).dropLast ++ [UInt8.ofNat ls[i].length] = P at *
          clear hpl
          generalize ls[i] = l at *
          have HCH := Lib.hid hch
          clear hch
          have hro1 := wimpleref1_Fold.rd_offs ls (i + 1) (by omega)
          generalize M.off ls (i + 1) = o' at *
          subst os
          generalize M.off ls i = o at *
          have HPl := Lib.hid hPl
          clear hPl
          have HRO := Lib.hid hro1
          clear hro1
          go_wp2
          obtain ⟨wo, rfl⟩ : ∃ wo : World, wo = wr := ⟨_, rfl⟩
          go_loopw [7] (fun v7 wr => ∃ j : Nat, j ≤ l.length ∧ v7 = .int .i64 ((o + 1 + j : Nat) : Int) ∧ M.BRow wr w1.heap.size (wimpleref1_Fold.cur P l S j) ∧ Below w1.heap.size w1 wr) (fun v7 _ => o + 1 + l.length - (intOf v7).toNat)
          case atStart => exact ⟨0, Nat.zero_le _, by simp, hrow, hbw⟩
          case round =>
            clear hrow hbw hcell0 hws
            obtain ⟨j, hj, rfl, hrow, hbw⟩ := hrel
            have hws : w1.heap.size ≤ wr.heap.size := hbw.size
            have hR := Kd.R_below HR.out hbw
            obtain ⟨ad', had, hcell1⟩ := Kd.at_int (Kd.R_reads' hR).2.2 ((i + 1 : Nat) : Int) (by omega) (by rw [HOL.out]; omega)
            obtain rfl : ad = ad' := by injection had
            clear had hR
            rw [HRO.out, Int.toNat_natCast] at hcell1
            have hcell2 : wr.cell? ⟨ad.block, ad.off + (i + 1), none⟩ = some (.int .i64 ((o + 1 + l.length : Nat) : Int)) := by simpa [Addr.add] using hcell1
            by_cases hjt : j < l.length
            · have hcl := wimpleref1_Fold.cur_len P l S j (by omega)
              have hcell := hrow.cell (P.length + j) (by omega)
              rw [wimpleref1_Fold.cur_get P l S j hjt] at hcell
              have hfree := hrow.free (P.length + j) (by omega)
              have hput := hrow.put (P.length + j) (M.fo (l[j]'hjt))
              rw [wimpleref1_Fold.cur_set P l S j hjt, M.fo_toNat] at hput
              have hsame := wimpleref1_Fold.cur_same P l S j hjt
              rw [HPl.out] at hcell hfree hput
              clear hcl
              have hfo : M.fo (l[j]'hjt) = if 65 ≤ (l[j]'hjt).toNat ∧ (l[j]'hjt).toNat ≤ 90 then (l[j]'hjt) + 32 else (l[j]'hjt) := rfl
              generalize l[j]'hjt = ch at *
              have hc := ch.toNat_lt
              by_cases hcap : 65 ≤ ch.toNat ∧ ch.toNat ≤ 90
              · rw [if_pos hcap] at hput
                have q1 : decide (65 ≤ (ch.toNat : Int)) = true := decide_eq_true (by omega)
                have q2 : decide ((ch.toNat : Int) ≤ 90) = true := decide_eq_true (by omega)
                have hcast : ((ch.toNat + 32 : Nat) : Int) = ((ch.toNat : Int) + 32) % 256 := by omega
                rw [hcast] at hput
                have HPUT := Lib.hid hput
                clear hput hcast hrow hsame hfo hcap
                go_wp2
                go_roundw
                case rel => exact ⟨j + 1, by omega, by first | rfl | go_num, HPUT.out, hbw.setCell (p := ⟨w1.heap.size, o + 1 + j, none⟩) (Nat.le_refl _) _⟩
                case measure => simp [intOf]; omega
              · rw [if_neg hcap] at hfo
                have hs2 := hsame hfo
                have HS := Lib.hid hs2
                clear hput hsame hfo hs2
                have key : (decide (65 ≤ (ch.toNat : Int)) = false) ∨ (decide (65 ≤ (ch.toNat : Int)) = true ∧ decide ((ch.toNat : Int) ≤ 90) = false) := by
                  simp only [decide_eq_true_eq, decide_eq_false_iff_not]
                  omega
                clear hcap
                rcases key with q1 | ⟨q1, q2⟩
                all_goals
                  go_wp2
                  go_roundw
                  case rel => exact ⟨j + 1, by omega, by first | rfl | go_num, by rw [HS.out]; exact hrow, hbw⟩
                  case measure => simp [intOf]; omega
            · obtain rfl : j = l.length := by omega
              rw [HCH.out] at hrow
              go_wp2
              go_roundw
              case rel => exact ⟨i + 1, by omega, by go_num, hrow, hbw⟩
              case measure => simp [intOf]; omega
        · obtain rfl : i = ls.length := by omega
          rw [wimpleref1_Fold.head_end ls] at hrow
          have hb2 := HBK.out wr w1.heap.size (M.wire (ls.map M.fol)) (grownCap w1 a0.size 0 5) hrow (by rw [M.wire_fold_length]; exact HWL.out)
          go_wp2
          go_ret
          exact ⟨by rw [HF.out]; rfl, hB.trans (hbw.mono hsz1)⟩
    · rw [if_neg hg] at h
      cases h


/-! ### rel_Same: function 19 -/
def rel_Same.f (k : Nat) (a0 : ByteArray) (a1 : ByteArray) : Option (Bool) := (rel_Fold.f k a0).bind fun t157 => ((rel_Fold.f k a1).bind fun t158 => (if t157.toList = ([] : List UInt8) then (some false) else (some (t157.toList == t158.toList))))
theorem rel_Same.mono : ∀ a0 a1 k, LeO (rel_Same.f k a0 a1) (rel_Same.f (k + 1) a0 a1) := by
  intro a0 a1 k
  unfold rel_Same.f
  repeat' first
      | (with_reducible exact rel_Fold.mono _ _)
      | (with_reducible exact LeO.refl _)
      | (with_reducible exact LeO.none _)
      | (with_reducible refine LeO.ite ?_ ?_)
      | (with_reducible refine LeO.bind ?_ (fun _ => ?_))
      | exact rel_Fold.mono _ _
      | exact LeO.none _
      | refine LeO.ite ?_ ?_
      | refine LeO.bind ?_ (fun _ => ?_)
set_option maxHeartbeats 8000000 in
set_option maxRecDepth 100000 in
theorem rel_Same.calls (k : Nat) (a0 : ByteArray) (a1 : ByteArray) (r : Bool) (w : World) (h : rel_Same.f k a0 a1 = some r) :
    Calls Try.prog 19 #[.string a0, .string a1] w fun e w' => e = .returned (.bool r) ∧ Below w.heap.size w w' := by
  have HB := Aside0.mk (Below.refl w.heap.size w)
  have H : ((rel_Fold.f k a0).bind fun t157 => ((rel_Fold.f k a1).bind fun t158 => (if t157.toList = ([] : List UInt8) then (some false) else (some (t157.toList == t158.toList))))) = some r := h
  clear h
  replace H := Option.bind_eq_some_iff.mp H
  obtain ⟨t157, A30, H⟩ := H
  replace H : ((rel_Fold.f k a1).bind fun t158 => (if t157.toList = ([] : List UInt8) then (some false) else (some (t157.toList == t158.toList)))) = some r := H
  have A3 := Aside0.mk A30
  clear A30
  replace H := Option.bind_eq_some_iff.mp H
  obtain ⟨t158, A40, H⟩ := H
  replace H : (if t157.toList = ([] : List UInt8) then (some false) else (some (t157.toList == t158.toList))) = some r := H
  have A4 := Aside0.mk A40
  clear A40
  by_cases c5 : t157.toList = ([] : List UInt8)
  · rw [if_pos c5] at H
    have c5b0 : (t157.toList == ([] : List UInt8)) = true := beq_iff_eq.mpr c5
    have c5b1 : (t157.toList != ([] : List UInt8)) = false := bne_eq_false_iff_eq.mpr c5
    clear c5
    obtain rfl := Option.some.inj H
    go_enter Try.func19, Try.ntmps19
    try simp only [List.append_eq, List.cons_append, List.nil_append]
    go_wp2_with (first | ((with_reducible refine gate_callee (f := 17) rfl ?_); refine goesL_ (some 8) rfl rfl Try.func17 (by kernel_rfl) rfl #[.string a0] rfl (by (try simp only [List.map_toArray, List.map_cons, List.map_nil]); first | done | rfl | (simp only [List.length_drop, List.length_take]; rfl)) ?_; (with_reducible refine (rel_Fold.calls k a0 t157 _ A3.out).mono ?_); rintro e w6 ⟨rfl, hb⟩; refine ⟨_, rfl, ?_⟩; have n0_ := Aside0.mk (below_step (by repeat (first | (with_reducible first | exact HB.out | apply below_alloc | apply pw_below_drewN | apply below_drew1) | exact HB.out)) hb); clear HB; have HB := n0_; clear n0_; (try clear hb); (try clear hb2); (try clear hk); (try clear hi)) | ((with_reducible refine gate_callee (f := 17) rfl ?_); refine goesL_ (some 10) rfl rfl Try.func17 (by kernel_rfl) rfl #[.string a1] rfl (by (try simp only [List.map_toArray, List.map_cons, List.map_nil]); first | done | rfl | (simp only [List.length_drop, List.length_take]; rfl)) ?_; (with_reducible refine (rel_Fold.calls k a1 t158 _ A4.out).mono ?_); rintro e w7 ⟨rfl, hb⟩; refine ⟨_, rfl, ?_⟩; have n0_ := Aside0.mk (below_step (by repeat (first | (with_reducible first | exact HB.out | apply below_alloc | apply pw_below_drewN | apply below_drew1) | exact HB.out)) hb); clear HB; have HB := n0_; clear n0_; (try clear hb); (try clear hb2); (try clear hk); (try clear hi)))
    go_ret
    exact ⟨by first | rfl | (simp [errW_none, errW_some] <;> rfl) | (simp [*, errW_none, errW_some] <;> rfl), by repeat (first | (with_reducible first | exact HB.out | apply below_alloc | apply pw_below_drewN | apply below_drew1) | exact HB.out)⟩
  · rw [if_neg c5] at H
    have c5b0 : (t157.toList == ([] : List UInt8)) = false := beq_eq_false_iff_ne.mpr c5
    have c5b1 : (t157.toList != ([] : List UInt8)) = true := bne_iff_ne.mpr c5
    obtain rfl := Option.some.inj H
    go_enter Try.func19, Try.ntmps19
    try simp only [List.append_eq, List.cons_append, List.nil_append]
    go_wp2_with (first | ((with_reducible refine gate_callee (f := 17) rfl ?_); refine goesL_ (some 8) rfl rfl Try.func17 (by kernel_rfl) rfl #[.string a0] rfl (by (try simp only [List.map_toArray, List.map_cons, List.map_nil]); first | done | rfl | (simp only [List.length_drop, List.length_take]; rfl)) ?_; (with_reducible refine (rel_Fold.calls k a0 t157 _ A3.out).mono ?_); rintro e w8 ⟨rfl, hb⟩; refine ⟨_, rfl, ?_⟩; have n0_ := Aside0.mk (below_step (by repeat (first | (with_reducible first | exact HB.out | apply below_alloc | apply pw_below_drewN | apply below_drew1) | exact HB.out)) hb); clear HB; have HB := n0_; clear n0_; (try clear hb); (try clear hb2); (try clear hk); (try clear hi)) | ((with_reducible refine gate_callee (f := 17) rfl ?_); refine goesL_ (some 10) rfl rfl Try.func17 (by kernel_rfl) rfl #[.string a1] rfl (by (try simp only [List.map_toArray, List.map_cons, List.map_nil]); first | done | rfl | (simp only [List.length_drop, List.length_take]; rfl)) ?_; (with_reducible refine (rel_Fold.calls k a1 t158 _ A4.out).mono ?_); rintro e w9 ⟨rfl, hb⟩; refine ⟨_, rfl, ?_⟩; have n0_ := Aside0.mk (below_step (by repeat (first | (with_reducible first | exact HB.out | apply below_alloc | apply pw_below_drewN | apply below_drew1) | exact HB.out)) hb); clear HB; have HB := n0_; clear n0_; (try clear hb); (try clear hb2); (try clear hk); (try clear hi)))
    go_ret
    exact ⟨by first | rfl | (simp [errW_none, errW_some] <;> rfl) | (simp [*, errW_none, errW_some] <;> rfl), by repeat (first | (with_reducible first | exact HB.out | apply below_alloc | apply pw_below_drewN | apply below_drew1) | exact HB.out)⟩

/-! ### wimpleref1_Same: function 20 -/
def wimpleref1_Same.f (k : Nat) (a0 : ByteArray) (a1 : ByteArray) : Option (Bool) := (wimpleref1_May.f k a0).bind fun t159 => (if t159 = true then ((wimpleref1_May.f k a1).bind fun t160 => (if t160 = true then ((wimpleref1_Fold.f k a0).bind fun t161 => ((wimpleref1_Fold.f k a1).bind fun t162 => (some (t161.toList == t162.toList)))) else (some false))) else (some false))
theorem wimpleref1_Same.mono : ∀ a0 a1 k, LeO (wimpleref1_Same.f k a0 a1) (wimpleref1_Same.f (k + 1) a0 a1) := by
  intro a0 a1 k
  unfold wimpleref1_Same.f
  repeat' first
      | (with_reducible exact wimpleref1_Fold.mono _ _)
      | (with_reducible exact wimpleref1_May.mono _ _)
      | (with_reducible exact LeO.refl _)
      | (with_reducible exact LeO.none _)
      | (with_reducible refine LeO.ite ?_ ?_)
      | (with_reducible refine LeO.bind ?_ (fun _ => ?_))
      | exact wimpleref1_Fold.mono _ _
      | exact wimpleref1_May.mono _ _
      | exact LeO.none _
      | refine LeO.ite ?_ ?_
      | refine LeO.bind ?_ (fun _ => ?_)
set_option maxHeartbeats 8000000 in
set_option maxRecDepth 100000 in
theorem wimpleref1_Same.calls (k : Nat) (a0 : ByteArray) (a1 : ByteArray) (r : Bool) (w : World) (h : wimpleref1_Same.f k a0 a1 = some r) :
    Calls Try.prog 20 #[.string a0, .string a1] w fun e w' => e = .returned (.bool r) ∧ Below w.heap.size w w' := by
  have HB := Aside0.mk (Below.refl w.heap.size w)
  have H : ((wimpleref1_May.f k a0).bind fun t159 => (if t159 = true then ((wimpleref1_May.f k a1).bind fun t160 => (if t160 = true then ((wimpleref1_Fold.f k a0).bind fun t161 => ((wimpleref1_Fold.f k a1).bind fun t162 => (some (t161.toList == t162.toList)))) else (some false))) else (some false))) = some r := h
  clear h
  replace H := Option.bind_eq_some_iff.mp H
  obtain ⟨t159, A30, H⟩ := H
  replace H : (if t159 = true then ((wimpleref1_May.f k a1).bind fun t160 => (if t160 = true then ((wimpleref1_Fold.f k a0).bind fun t161 => ((wimpleref1_Fold.f k a1).bind fun t162 => (some (t161.toList == t162.toList)))) else (some false))) else (some false)) = some r := H
  have A3 := Aside0.mk A30
  clear A30
  by_cases c4 : t159 = true
  · subst c4
    have H1 : ((wimpleref1_May.f k a1).bind fun t160 => (if t160 = true then ((wimpleref1_Fold.f k a0).bind fun t161 => ((wimpleref1_Fold.f k a1).bind fun t162 => (some (t161.toList == t162.toList)))) else (some false))) = some r := by rw [if_pos rfl] at H; exact H
    clear H
    have H := H1
    clear H1
    replace H := Option.bind_eq_some_iff.mp H
    obtain ⟨t160, A50, H⟩ := H
    replace H : (if t160 = true then ((wimpleref1_Fold.f k a0).bind fun t161 => ((wimpleref1_Fold.f k a1).bind fun t162 => (some (t161.toList == t162.toList)))) else (some false)) = some r := H
    have A5 := Aside0.mk A50
    clear A50
    by_cases c6 : t160 = true
    · subst c6
      have H1 : ((wimpleref1_Fold.f k a0).bind fun t161 => ((wimpleref1_Fold.f k a1).bind fun t162 => (some (t161.toList == t162.toList)))) = some r := by rw [if_pos rfl] at H; exact H
      clear H
      have H := H1
      clear H1
      replace H := Option.bind_eq_some_iff.mp H
      obtain ⟨t161, A70, H⟩ := H
      replace H : ((wimpleref1_Fold.f k a1).bind fun t162 => (some (t161.toList == t162.toList))) = some r := H
      have A7 := Aside0.mk A70
      clear A70
      replace H := Option.bind_eq_some_iff.mp H
      obtain ⟨t162, A80, H⟩ := H
      replace H : (some (t161.toList == t162.toList)) = some r := H
      have A8 := Aside0.mk A80
      clear A80
      obtain rfl := Option.some.inj H
      go_enter Try.func20, Try.ntmps20
      try simp only [List.append_eq, List.cons_append, List.nil_append]
      go_wp2_with (first | ((with_reducible refine gate_callee (f := 27) rfl ?_); refine goesL_ (some 6) rfl rfl Try.func27 (by kernel_rfl) rfl #[.string a0] rfl (by (try simp only [List.map_toArray, List.map_cons, List.map_nil]); first | done | rfl | (simp only [List.length_drop, List.length_take]; rfl)) ?_; (with_reducible refine (wimpleref1_May.calls k a0 true _ A3.out).mono ?_); rintro e w9 ⟨rfl, hb⟩; refine ⟨_, rfl, ?_⟩; have n0_ := Aside0.mk (below_step (by repeat (first | (with_reducible first | exact HB.out | apply below_alloc | apply pw_below_drewN | apply below_drew1) | exact HB.out)) hb); clear HB; have HB := n0_; clear n0_; (try clear hb); (try clear hb2); (try clear hk); (try clear hi)) | (go_at_call 27; (with_reducible refine (wimpleref1_May.calls k a1 true _ A5.out).mono ?_); rintro e w10 ⟨rfl, hb⟩; have n0_ := Aside0.mk (below_step (by repeat (first | (with_reducible first | exact HB.out | apply below_alloc | apply pw_below_drewN | apply below_drew1) | exact HB.out)) hb); clear HB; have HB := n0_; clear n0_; (try clear hb); (try clear hb2); (try clear hk); (try clear hi)) | (go_at_call 18; (with_reducible refine (wimpleref1_Fold.calls k a0 t161 _ A7.out).mono ?_); rintro e w11 ⟨rfl, hb⟩; have n0_ := Aside0.mk (below_step (by repeat (first | (with_reducible first | exact HB.out | apply below_alloc | apply pw_below_drewN | apply below_drew1) | exact HB.out)) hb); clear HB; have HB := n0_; clear n0_; (try clear hb); (try clear hb2); (try clear hk); (try clear hi)) | (go_at_call 18; (with_reducible refine (wimpleref1_Fold.calls k a1 t162 _ A8.out).mono ?_); rintro e w12 ⟨rfl, hb⟩; have n0_ := Aside0.mk (below_step (by repeat (first | (with_reducible first | exact HB.out | apply below_alloc | apply pw_below_drewN | apply below_drew1) | exact HB.out)) hb); clear HB; have HB := n0_; clear n0_; (try clear hb); (try clear hb2); (try clear hk); (try clear hi)))
      go_ret
      exact ⟨by first | rfl | (simp [errW_none, errW_some] <;> rfl) | (simp [*, errW_none, errW_some] <;> rfl), by repeat (first | (with_reducible first | exact HB.out | apply below_alloc | apply pw_below_drewN | apply below_drew1) | exact HB.out)⟩
    · replace c6 := Bool.eq_false_iff.mpr c6
      subst c6
      have H1 : (some false) = some r := by rw [if_neg (show ¬ (false = true) by decide)] at H; exact H
      clear H
      have H := H1
      clear H1
      obtain rfl := Option.some.inj H
      go_enter Try.func20, Try.ntmps20
      try simp only [List.append_eq, List.cons_append, List.nil_append]
      go_wp2_with (first | ((with_reducible refine gate_callee (f := 27) rfl ?_); refine goesL_ (some 6) rfl rfl Try.func27 (by kernel_rfl) rfl #[.string a0] rfl (by (try simp only [List.map_toArray, List.map_cons, List.map_nil]); first | done | rfl | (simp only [List.length_drop, List.length_take]; rfl)) ?_; (with_reducible refine (wimpleref1_May.calls k a0 true _ A3.out).mono ?_); rintro e w13 ⟨rfl, hb⟩; refine ⟨_, rfl, ?_⟩; have n0_ := Aside0.mk (below_step (by repeat (first | (with_reducible first | exact HB.out | apply below_alloc | apply pw_below_drewN | apply below_drew1) | exact HB.out)) hb); clear HB; have HB := n0_; clear n0_; (try clear hb); (try clear hb2); (try clear hk); (try clear hi)) | (go_at_call 27; (with_reducible refine (wimpleref1_May.calls k a1 false _ A5.out).mono ?_); rintro e w14 ⟨rfl, hb⟩; have n0_ := Aside0.mk (below_step (by repeat (first | (with_reducible first | exact HB.out | apply below_alloc | apply pw_below_drewN | apply below_drew1) | exact HB.out)) hb); clear HB; have HB := n0_; clear n0_; (try clear hb); (try clear hb2); (try clear hk); (try clear hi)))
      go_ret
      exact ⟨by first | rfl | (simp [errW_none, errW_some] <;> rfl) | (simp [*, errW_none, errW_some] <;> rfl), by repeat (first | (with_reducible first | exact HB.out | apply below_alloc | apply pw_below_drewN | apply below_drew1) | exact HB.out)⟩
  · replace c4 := Bool.eq_false_iff.mpr c4
    subst c4
    have H1 : (some false) = some r := by rw [if_neg (show ¬ (false = true) by decide)] at H; exact H
    clear H
    have H := H1
    clear H1
    obtain rfl := Option.some.inj H
    go_enter Try.func20, Try.ntmps20
    try simp only [List.append_eq, List.cons_append, List.nil_append]
    go_wp2_with (first | ((with_reducible refine gate_callee (f := 27) rfl ?_); refine goesL_ (some 6) rfl rfl Try.func27 (by kernel_rfl) rfl #[.string a0] rfl (by (try simp only [List.map_toArray, List.map_cons, List.map_nil]); first | done | rfl | (simp only [List.length_drop, List.length_take]; rfl)) ?_; (with_reducible refine (wimpleref1_May.calls k a0 false _ A3.out).mono ?_); rintro e w15 ⟨rfl, hb⟩; refine ⟨_, rfl, ?_⟩; have n0_ := Aside0.mk (below_step (by repeat (first | (with_reducible first | exact HB.out | apply below_alloc | apply pw_below_drewN | apply below_drew1) | exact HB.out)) hb); clear HB; have HB := n0_; clear n0_; (try clear hb); (try clear hb2); (try clear hk); (try clear hi)))
    go_ret
    exact ⟨by first | rfl | (simp [errW_none, errW_some] <;> rfl) | (simp [*, errW_none, errW_some] <;> rfl), by repeat (first | (with_reducible first | exact HB.out | apply below_alloc | apply pw_below_drewN | apply below_drew1) | exact HB.out)⟩

end Go.Proofs.Yteodnommecpglaa.P
