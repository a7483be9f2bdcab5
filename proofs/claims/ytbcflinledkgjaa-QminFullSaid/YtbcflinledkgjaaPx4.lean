-- Written by a program of this session's prover (over the kit's printer, with contracts of the session's own); Lean checks it.
import Derived.Test.YtbcflinledkgjaaPx0
import Derived.Test.YtbcflinledkgjaaPx3
namespace Go.Proofs.Ytbcflinledkgjaa.P
open Go.RowKit Go.Proofs.YtbcflinledkgjaaW.PrintWords Go.Proofs.YtbcflinledkgjaaW.PrintLast Go.Proofs.YtbcflinledkgjaaW.PrintMore
attribute [local go_sem] max2_int min2_int max_two min_two max_three min_three max_four min_four   -- for this text's walks alone
set_option linter.unusedVariables false
set_option linter.unusedSimpArgs false

/-! ### rel_fold: function 36 -/
def rel_fold.f (a0 : Int) : Option (Int) := if a0 ≥ 65 then (if a0 ≤ 90 then (some ((a0 + 32) % 256)) else (some a0)) else (some a0)
set_option maxHeartbeats 8000000 in
set_option maxRecDepth 100000 in
theorem rel_fold.calls (a0 : Int) (r : Int) (w : World) (h : rel_fold.f a0 = some r) :
    Calls Try.prog 36 #[.int .u8 a0] w fun e w' => e = .returned (.int .u8 r) ∧ Drawn0 w w' := by
  have H : (if a0 ≥ 65 then (if a0 ≤ 90 then (some ((a0 + 32) % 256)) else (some a0)) else (some a0)) = some r := h
  clear h
  by_cases c2 : a0 ≥ 65
  · rw [if_pos c2] at H
    have c2b0 : decide (65 ≤ a0) = true := decide_eq_true c2
    clear c2
    by_cases c3 : a0 ≤ 90
    · rw [if_pos c3] at H
      have c3b0 : decide (a0 ≤ 90) = true := decide_eq_true c3
      clear c3
      obtain rfl := Option.some.inj H
      go_enter Try.func36, Try.ntmps36
      try simp only [List.append_eq, List.cons_append, List.nil_append]
      go_wp2
      go_ret
      exact ⟨by first | rfl | (simp; done) | (simp [*]; done), by repeat (first | exact Drawn0.refl _ | apply Drawn0.step)⟩
    · rw [if_neg c3] at H
      have c3b0 : decide (a0 ≤ 90) = false := decide_eq_false c3
      clear c3
      obtain rfl := Option.some.inj H
      go_enter Try.func36, Try.ntmps36
      try simp only [List.append_eq, List.cons_append, List.nil_append]
      go_wp2
      go_ret
      exact ⟨by first | rfl | (simp; done) | (simp [*]; done), by repeat (first | exact Drawn0.refl _ | apply Drawn0.step)⟩
  · rw [if_neg c2] at H
    have c2b0 : decide (65 ≤ a0) = false := decide_eq_false c2
    clear c2
    obtain rfl := Option.some.inj H
    go_enter Try.func36, Try.ntmps36
    try simp only [List.append_eq, List.cons_append, List.nil_append]
    go_wp2
    go_ret
    exact ⟨by first | rfl | (simp; done) | (simp [*]; done), by repeat (first | exact Drawn0.refl _ | apply Drawn0.step)⟩

/-! ### rel_folded: function 33 -/
def rel_folded.f (a0 : ByteArray) : Option (ByteArray) := if a0.size ≤ 1000000 then some ⟨(M.fol a0.data.toList).toArray⟩ else none

set_option maxHeartbeats 4000000 in
set_option maxRecDepth 100000 in
theorem rel_folded.calls (a0 : ByteArray) (r : ByteArray) (w : World) (h : rel_folded.f a0 = some r) :
    Calls Try.prog 33 #[.string a0] w fun e w' => e = .returned (.string r) ∧ Below w.heap.size w w' := by
  unfold rel_folded.f at h
  by_cases hs : a0.size ≤ 1000000
  · rw [if_pos hs] at h
    obtain rfl := Option.some.inj h
    clear h
    have hsz : a0.size = a0.data.toList.length := by rw [Array.length_toList]; rfl
    generalize hl : a0.data.toList = l at *
    have Hl := Lib.hid hl
    clear hl
    have HSZ := Lib.hid hsz
    have hconv := Lib.run_convert_string_bytes (P := Try.prog) w 9 58 5 a0 Try.underlying9 Try.underlying58 Try.underlying5
    have hnew := M.BRow.new w a0
    rw [Hl.out] at hnew
    have hbel := M.below_bytes w a0
    have hback : ∀ (W : World) (L : List UInt8) (c : Nat), M.BRow W w.heap.size L → L.length = a0.size → (convert 58 9 (.slice (some ⟨w.heap.size, 0, none⟩) a0.size c)).run Try.prog W = .ok (.string ⟨L.toArray⟩) W := by
      intro W L c hB hL
      rw [← hL]
      exact hB.back Try.underlying58 Try.underlying5 Try.underlying9
    have HBK := Lib.hid hback
    clear hback
    clear hsz
    go_enter Try.func33, Try.ntmps33
    go_wp2
    clear hconv
    go_loopw [9] (fun v9 wr => ∃ i : Nat, i ≤ a0.size ∧ v9 = .int .i64 i ∧ M.BRow wr w.heap.size ((l.take i).map M.fo ++ l.drop i) ∧ Below w.heap.size w wr) (fun v9 _ => a0.size - (intOf v9).toNat)
    case atStart => exact ⟨0, Nat.zero_le _, rfl, by simpa using hnew, hbel⟩
    case round =>
      clear hnew hbel
      obtain ⟨i, hi, rfl, hrow, hbw⟩ := hrel
      have hws : w.heap.size ≤ wr.heap.size := hbw.size
      by_cases hlt : i < a0.size
      · have hlt2 : i < l.length := by rw [← HSZ.out]; exact hlt
        have hlen := M.mid_len M.fo l i (by omega)
        have hcell := hrow.cell i (by omega)
        rw [M.mid_get M.fo l i hlt2] at hcell
        have hfree := hrow.free i (by omega)
        have hput := hrow.put i (M.fo (l[i]'hlt2))
        rw [M.mid_set M.fo l i hlt2, M.fo_toNat] at hput
        generalize l[i]'hlt2 = c at *
        have hc := c.toNat_lt
        clear hlen
        by_cases hcap : 65 ≤ c.toNat ∧ c.toNat ≤ 90
        · rw [if_pos hcap] at hput
          have q1 : decide (65 ≤ (c.toNat : Int)) = true := decide_eq_true (by omega)
          have q2 : decide ((c.toNat : Int) ≤ 90) = true := decide_eq_true (by omega)
          have hcast : ((c.toNat + 32 : Nat) : Int) = ((c.toNat : Int) + 32) % 256 := by omega
          rw [hcast] at hput
          have HPUT := Lib.hid hput
          clear hput hcast hcap hrow
          go_wp2
          go_roundw
          case rel => exact ⟨i + 1, by omega, by go_num, HPUT.out, hbw.setCell (p := ⟨w.heap.size, i, none⟩) (Nat.le_refl _) _⟩
          case measure => simp [intOf]; omega
        · rw [if_neg hcap] at hput
          have HPUT := Lib.hid hput
          clear hput hrow
          have key : (decide (65 ≤ (c.toNat : Int)) = false) ∨ (decide (65 ≤ (c.toNat : Int)) = true ∧ decide ((c.toNat : Int) ≤ 90) = false) := by
            simp only [decide_eq_true_eq, decide_eq_false_iff_not]
            omega
          clear hcap
          rcases key with q1 | ⟨q1, q2⟩
          all_goals
            go_wp2
            go_roundw
            case rel => exact ⟨i + 1, by omega, by go_num, HPUT.out, hbw.setCell (p := ⟨w.heap.size, i, none⟩) (Nat.le_refl _) _⟩
            case measure => simp [intOf]; omega
      · obtain rfl : i = a0.size := by omega
        have hfin : (l.take a0.size).map M.fo ++ l.drop a0.size = M.fol l := by
          rw [HSZ.out, List.take_length, List.drop_length, List.append_nil]
          rfl
        rw [hfin] at hrow
        have hb2 := HBK.out wr (M.fol l) (grownCap w a0.size 0 5) hrow (by rw [M.fol_length, HSZ.out])
        clear hfin
        go_wp2
        go_ret
        exact ⟨rfl, hbw⟩
  · rw [if_neg hs] at h
    cases h


-- NOT PRINTED: function 34 (strings_Builder_String)

/-! ### rel_Fold: function 24 -/
/-- Folded labels, as a name's bytes. -/
def foldB (ls : List ByteArray) : ByteArray := ⟨(M.wire (ls.map (fun l => M.fol l.data.toList))).toArray⟩
def rel_Fold.f (k : Nat) (a0 : ByteArray) : Option (ByteArray) := (name_Labels.f k a0).bind fun b => (if b.2 = true then (if b.1.length ≤ 1000 ∧ ∀ l ∈ b.1, l.size ≤ 255 then some (foldB b.1) else none) else some (⟨#[]⟩))
theorem rel_Fold.mono : ∀ a0 k, LeO (rel_Fold.f k a0) (rel_Fold.f (k + 1) a0) := by
  intro a0 k
  unfold rel_Fold.f
  exact LeO.bind (name_Labels.mono _ _) (fun _ => LeO.refl _)
theorem rel_Fold.rdOf_str (ls : List ByteArray) (i : Nat) (h : i < ls.length) : rdOf ByteArray.empty ls (i : Int) = ls[i] := by
  simp [rdOf, List.getD_eq_getElem?_getD, h]
theorem rel_Fold.folded_f (l : ByteArray) (h : l.size ≤ 255) : rel_folded.f l = some ⟨(M.fol l.data.toList).toArray⟩ := by
  unfold rel_folded.f
  rw [if_pos (by omega)]
/-- What is written behind i labels. -/
def rel_Fold.upto (ls : List ByteArray) (i : Nat) : List UInt8 := ((ls.take i).map (fun l => UInt8.ofNat l.size :: M.fol l.data.toList)).flatten
theorem rel_Fold.upto_succ (ls : List ByteArray) (i : Nat) (h : i < ls.length) : rel_Fold.upto ls (i + 1) = (rel_Fold.upto ls i ++ [UInt8.ofNat ls[i].size]) ++ M.fol ls[i].data.toList := by
  unfold rel_Fold.upto
  rw [List.take_succ_eq_append_getElem h, List.map_append, List.flatten_append]
  simp
theorem rel_Fold.upto_len (ls : List ByteArray) (hg : ∀ l ∈ ls, l.size ≤ 255) (i : Nat) (hi : i ≤ ls.length) : (rel_Fold.upto ls i).length ≤ 256 * i := by
  induction i with
  | zero => simp [rel_Fold.upto]
  | succ i ih =>
    rw [rel_Fold.upto_succ ls i (by omega)]
    have h1 := ih (by omega)
    have h2 := hg _ (List.getElem_mem (show i < ls.length by omega))
    have h3 : ls[i].data.toList.length = ls[i].size := by rw [Array.length_toList]; rfl
    simp only [List.length_append, List.length_cons, List.length_nil, M.fol_length]
    omega
theorem rel_Fold.upto_all (ls : List ByteArray) : rel_Fold.upto ls ls.length ++ [0] = M.wire (ls.map (fun l => M.fol l.data.toList)) := by
  unfold rel_Fold.upto
  rw [List.take_length]
  induction ls with
  | nil => rfl
  | cons l r ih =>
    have h3 : l.data.toList.length = l.size := by rw [Array.length_toList]; rfl
    simp only [List.map_cons, List.flatten_cons, M.wire, M.fol_length, h3, List.cons_append, List.append_assoc]
    rw [ih]

set_option maxHeartbeats 4000000 in
set_option maxRecDepth 100000 in
theorem rel_Fold.calls (k : Nat) (a0 : ByteArray) (r : ByteArray) (w : World) (h : rel_Fold.f k a0 = some r) :
    Calls Try.prog 24 #[.string a0] w fun e w' => e = .returned (.string r) ∧ Below w.heap.size w w' := by
  unfold rel_Fold.f at h
  obtain ⟨⟨ls, is⟩, hL, h⟩ := Option.bind_eq_some_iff.1 h
  have HL := Lib.hid hL
  clear hL
  cases is with
  | false =>
    simp only [Bool.false_eq_true, if_false, Option.some.injEq] at h
    obtain rfl := h
    go_enter Try.func24, Try.ntmps24
    go_wp2_with fail
    refine (name_Labels.calls k a0 ls false _ HL.out).mono ?_
    rintro e w1 ⟨v, rfl, hR, hB⟩
    clear HL
    go_wp2
    go_ret
    exact ⟨rfl, hB⟩
  | true =>
    simp only [if_true] at h
    by_cases hg : ls.length ≤ 1000 ∧ ∀ l ∈ ls, l.size ≤ 255
    · rw [if_pos hg] at h
      obtain rfl := Option.some.inj h
      clear h
      obtain ⟨hg1, hg2⟩ := hg
      have HG := Lib.hid hg2
      clear hg2
      have hfin := rel_Fold.upto_all ls
      have HF := Lib.hid hfin
      clear hfin
      go_enter Try.func24, Try.ntmps24
      go_wp2_with fail
      refine (name_Labels.calls k a0 ls true _ HL.out).mono ?_
      rintro e w1 ⟨v, rfl, hR, hB⟩
      clear HL
      obtain ⟨A, c, rfl⟩ := Kd.R_slice hR
      have HR := Lib.hid hR
      clear hR
      go_wp2
      have hsz : w.heap.size ≤ w1.heap.size := hB.size
      go_loopw [17] (fun v17 wr => ∃ i : Nat, i ≤ ls.length ∧ v17 = .int .i64 i ∧ Lib.IsBuilder 64 5 w1.heap.size w1.heap.size (Lib.byteCells (rel_Fold.upto ls i)) wr ∧ Below w1.heap.size w1 wr) (fun v17 _ => ls.length - (intOf v17).toNat)
      case atStart => exact ⟨0, Nat.zero_le _, rfl, Lib.fresh_isBuilder 64 5 w1, (Below.refl _ _).alloc (Nat.le_refl _) _⟩
      case round =>
        obtain ⟨i, hi, rfl, hI, hbw⟩ := hrel
        have hws : w1.heap.size ≤ wr.heap.size := hbw.size
        have hul := rel_Fold.upto_len ls HG.out i hi
        have hbl : (Lib.byteCells (rel_Fold.upto ls i)).length ≤ 256000 := by
          rw [Lib.byteCells, List.length_map]
          omega
        by_cases hlt : i < ls.length
        · have hR := Kd.R_below HR.out hbw
          obtain ⟨ad, rfl, hcell⟩ := Kd.at_string (Kd.R_reads' hR).2.2 (i : Int) (by omega) (by omega)
          rw [rel_Fold.rdOf_str ls i hlt, Int.toNat_natCast] at hcell
          clear hR
          have hl1 : ls[i].size ≤ 255 := HG.out _ (List.getElem_mem hlt)
          have hus := rel_Fold.upto_succ ls i hlt
          generalize ls[i] = l at *
          have HU := Lib.hid hus
          clear hus
          generalize hT : rel_Fold.upto ls i = T at *
          clear hT
          have hbyte : ((UInt8.ofNat l.size).toNat : Int) = (l.size : Int) := by rw [M.ofNat_toNat_len hl1]
          have HBY := Lib.hid hbyte
          clear hbyte
          have hlc : (Lib.byteCells (M.fol l.data.toList)).length ≤ 255 := by
            have h3 : l.data.toList.length = l.size := by rw [Array.length_toList]; rfl
            rw [Lib.byteCells, List.length_map, M.fol_length, h3]
            exact hl1
          go_wp2_with fail
          refine (Bld.WriteByte w1.heap.size w1.heap.size _ _ _ hI (by omega) hws).mono ?_
          rintro e w3 ⟨rfl, h3, b3⟩
          have hw3 : w1.heap.size ≤ w3.heap.size := Nat.le_trans hws b3.size
          go_wp2_with fail
          refine (rel_folded.calls l _ _ (rel_Fold.folded_f l hl1)).mono ?_
          rintro e w4 ⟨rfl, b4⟩
          have hw4 : w1.heap.size ≤ w4.heap.size := Nat.le_trans hw3 b4.size
          have h4 := Bld.keep (.inr h3) b4
          go_wp2_with fail
          refine (Bld.WriteString w1.heap.size w1.heap.size _ ⟨(M.fol l.data.toList).toArray⟩ _ h4 ?_ hw4).mono ?_
          · have e1 : (⟨(M.fol l.data.toList).toArray⟩ : ByteArray).size = (Lib.byteCells (M.fol l.data.toList)).length := by simp [Lib.byteCells, ByteArray.size]
            rw [e1, List.length_append, List.length_cons, List.length_nil]
            omega
          rintro e w5 ⟨rfl, h5, b5⟩
          go_wp2
          go_roundw
          case rel =>
            refine ⟨i + 1, by omega, by go_num, ?_, ((hbw.trans b3).trans (b4.mono hw3)).trans b5⟩
            rw [HU.out, Lib.byteCells_append, Lib.byteCells_append]
            have e2 : Lib.byteCells [UInt8.ofNat l.size] = [.int .u8 (l.size : Int)] := by rw [← HBY.out]; rfl
            have e3 : Lib.strCells ⟨(M.fol l.data.toList).toArray⟩ = Lib.byteCells (M.fol l.data.toList) := by simp [Lib.strCells, Lib.byteCells]
            rw [e2, ← e3]
            exact .inr h5
          case measure => simp [intOf]; omega
        · obtain rfl : i = ls.length := by omega
          go_wp2_with fail
          refine (Bld.WriteString w1.heap.size w1.heap.size _ ⟨#[0]⟩ _ hI (by show _ + 1 ≤ _; omega) hws).mono ?_
          rintro e w3 ⟨rfl, h3, b3⟩
          have hw3 : w1.heap.size ≤ w3.heap.size := Nat.le_trans hws b3.size
          have h4 : Lib.IsBuilder 64 5 w1.heap.size w1.heap.size (Lib.byteCells (M.wire (ls.map (fun l => M.fol l.data.toList)))) w3 := by
            rw [← HF.out, Lib.byteCells_append]
            exact .inr h3
          go_wp2_with fail
          refine (Try.Builder_String_any w1.heap.size w1.heap.size _ _ h4 hw3).mono ?_
          rintro e w4 ⟨rfl, b4⟩
          go_wp2
          go_ret
          exact ⟨rfl, ((hB.trans (hbw.mono hsz)).trans (b3.mono hsz)).trans (b4.mono hsz)⟩
    · rw [if_neg hg] at h
      cases h


/-! ### rel_Above: function 23 -/
def rel_Above.l0 : Nat → ByteArray → ByteArray → List Int → Int → Int → Option (Bool)
  | 0, _, _, _, _, _ => none
  | k + 1, x5, x6, x20, x21, x22 => if x22 < x21 then (if 0 ≤ x22 then (if x22 < (x20.length : Int) then (if x5.toList = ([] : List UInt8) then (rel_Above.l0 k x5 x6 x20 x21 (wrap64 (x22 + 1))) else (if 0 ≤ (rd x20 x22) then (if (rd x20 x22) ≤ (x6.size : Int) then (if (x6.extract ((rd x20 x22) : Int).toNat x6.size).toList = x5.toList then (some true) else (rel_Above.l0 k x5 x6 x20 x21 (wrap64 (x22 + 1)))) else (none)) else (none))) else (none)) else (none)) else (some false)
def rel_Above.f (k : Nat) (a0 : ByteArray) (a1 : ByteArray) : Option (Bool) := (rel_Fold.f k a0).bind fun t117 => ((rel_Fold.f k a1).bind fun t118 => ((name_Places.f k t118).bind fun bt119 => (rel_Above.l0 k t117 t118 bt119.1 (bt119.1.length : Int) 0)))
theorem rel_Above.mono_l : ∀ k, (∀ y0 y1 y2 y3 y4, LeO (rel_Above.l0 k y0 y1 y2 y3 y4) (rel_Above.l0 (k + 1) y0 y1 y2 y3 y4))
  | 0 => fun _ _ _ _ _ r h => by simp [rel_Above.l0] at h
  | k + 1 => by
    have ih0 := rel_Above.mono_l k
    · intro y0 y1 y2 y3 y4
      unfold rel_Above.l0
      repeat' first
      | (with_reducible exact ih0 _ _ _ _ _)
      | (with_reducible exact name_Places.mono _ _)
      | (with_reducible exact rel_Fold.mono _ _)
      | (with_reducible exact LeO.refl _)
      | (with_reducible exact LeO.none _)
      | (with_reducible refine LeO.ite ?_ ?_)
      | (with_reducible refine LeO.bind ?_ (fun _ => ?_))
      | exact ih0 _ _ _ _ _
      | exact name_Places.mono _ _
      | exact rel_Fold.mono _ _
      | exact LeO.none _
      | refine LeO.ite ?_ ?_
      | refine LeO.bind ?_ (fun _ => ?_)
theorem rel_Above.mono : ∀ a0 a1 k, LeO (rel_Above.f k a0 a1) (rel_Above.f (k + 1) a0 a1) := by
  intro a0 a1 k
  have ih0 := rel_Above.mono_l k
  unfold rel_Above.f
  repeat' first
      | (with_reducible exact ih0 _ _ _ _ _)
      | (with_reducible exact name_Places.mono _ _)
      | (with_reducible exact rel_Fold.mono _ _)
      | (with_reducible exact LeO.refl _)
      | (with_reducible exact LeO.none _)
      | (with_reducible refine LeO.ite ?_ ?_)
      | (with_reducible refine LeO.bind ?_ (fun _ => ?_))
      | exact ih0 _ _ _ _ _
      | exact name_Places.mono _ _
      | exact rel_Fold.mono _ _
      | exact LeO.none _
      | refine LeO.ite ?_ ?_
      | refine LeO.bind ?_ (fun _ => ?_)
set_option maxHeartbeats 8000000 in
set_option maxRecDepth 100000 in
theorem rel_Above.calls (k : Nat) (a0 : ByteArray) (a1 : ByteArray) (r : Bool) (w : World) (h : rel_Above.f k a0 a1 = some r) :
    Calls Try.prog 23 #[.string a0, .string a1] w fun e w' => e = .returned (.bool r) ∧ Below w.heap.size w w' := by
  have HB := Aside0.mk (Below.refl w.heap.size w)
  have H : ((rel_Fold.f k a0).bind fun t117 => ((rel_Fold.f k a1).bind fun t118 => ((name_Places.f k t118).bind fun bt119 => (rel_Above.l0 k t117 t118 bt119.1 (bt119.1.length : Int) 0)))) = some r := h
  clear h
  replace H := Option.bind_eq_some_iff.mp H
  obtain ⟨t117, A30, H⟩ := H
  replace H : ((rel_Fold.f k a1).bind fun t118 => ((name_Places.f k t118).bind fun bt119 => (rel_Above.l0 k t117 t118 bt119.1 (bt119.1.length : Int) 0))) = some r := H
  have A3 := Aside0.mk A30
  clear A30
  replace H := Option.bind_eq_some_iff.mp H
  obtain ⟨t118, A40, H⟩ := H
  replace H : ((name_Places.f k t118).bind fun bt119 => (rel_Above.l0 k t117 t118 bt119.1 (bt119.1.length : Int) 0)) = some r := H
  have A4 := Aside0.mk A40
  clear A40
  replace H := Option.bind_eq_some_iff.mp H
  obtain ⟨⟨t119, t120⟩, A50, H⟩ := H
  replace H : (rel_Above.l0 k t117 t118 t119 (t119.length : Int) 0) = some r := H
  have A5 := Aside0.mk A50
  clear A50
  have H' := Aside0.mk H
  clear H
  go_enter Try.func23, Try.ntmps23
  try simp only [List.append_eq, List.cons_append, List.nil_append]
  go_wp2_with (first | ((with_reducible refine gate_callee (f := 24) rfl ?_); refine goesL_ (some 12) rfl rfl Try.func24 (by kernel_rfl) rfl #[.string a0] rfl (by (try simp only [List.map_toArray, List.map_cons, List.map_nil]); first | done | rfl | (simp only [List.length_drop, List.length_take]; rfl)) ?_; (with_reducible refine (rel_Fold.calls k a0 t117 _ A3.out).mono ?_); rintro e w6 ⟨rfl, hb⟩; refine ⟨_, rfl, ?_⟩; have n0_ := Aside0.mk (below_step (by repeat (first | (with_reducible first | exact HB.out | apply below_alloc | apply pw_below_drewN | apply below_drew1) | exact HB.out)) hb); clear HB; have HB := n0_; clear n0_; (try clear hb); (try clear hb2); (try clear hk); (try clear hi)) | ((with_reducible refine gate_callee (f := 24) rfl ?_); refine goesL_ (some 14) rfl rfl Try.func24 (by kernel_rfl) rfl #[.string a1] rfl (by (try simp only [List.map_toArray, List.map_cons, List.map_nil]); first | done | rfl | (simp only [List.length_drop, List.length_take]; rfl)) ?_; (with_reducible refine (rel_Fold.calls k a1 t118 _ A4.out).mono ?_); rintro e w7 ⟨rfl, hb⟩; refine ⟨_, rfl, ?_⟩; have n0_ := Aside0.mk (below_step (by repeat (first | (with_reducible first | exact HB.out | apply below_alloc | apply pw_below_drewN | apply below_drew1) | exact HB.out)) hb); clear HB; have HB := n0_; clear n0_; (try clear hb); (try clear hb2); (try clear hk); (try clear hi)) | ((with_reducible refine gate_callee (f := 29) rfl ?_); refine goesL_ (some 17) rfl rfl Try.func29 (by kernel_rfl) rfl #[.string t118] rfl (by (try simp only [List.map_toArray, List.map_cons, List.map_nil]); first | done | rfl | (simp only [List.length_drop, List.length_take]; rfl)) ?_; (with_reducible refine (name_Places.calls k t118 t119 t120 _ A5.out).mono ?_); rintro e w8 ⟨v121, rfl, ho0, hb⟩; refine ⟨_, rfl, ?_⟩; have n0_ := Aside0.mk (Kd.R_lower ho0 (below_size (by repeat (first | (with_reducible first | exact HB.out | apply below_alloc | apply pw_below_drewN | apply below_drew1) | exact HB.out)))); have n1_ := Aside0.mk (below_step (by repeat (first | (with_reducible first | exact HB.out | apply below_alloc | apply pw_below_drewN | apply below_drew1) | exact HB.out)) hb); clear HB; have HO122 := n0_; have HB := n1_; clear n0_ n1_; (try clear hb); (try clear hb2); (try clear hk); (try clear hi); (try clear ho0); obtain ⟨Ao9, co9, eo9⟩ := Kd.R_slice HO122.out; subst eo9))
  go_loopg [22] k (fun kq v22 w' => ∃ (x22_1 : Int), v22 = .int .i64 x22_1 ∧ Aside0 (rel_Above.l0 kq t117 t118 t119 (t119.length : Int) x22_1 = some r) ∧ Aside0 (kq ≤ k) ∧ Aside0 (Kd.R (Kd.int .i64) 3 w' w.heap.size (fun _ => True) (.slice Ao9 t119.length co9) t119) ∧ Aside0 (Below w.heap.size w w'))
  case atStart => exact ⟨(0), (by first | rfl | (simp; done) | (simp [*]; done) | (simp [ByteArray.size_append]; exact Iff.rfl)), H', ⟨Nat.le_refl _⟩, ⟨by (with_reducible repeat (first | apply Kd.R_alloc | apply Kd.R_drewN | apply Kd.R_drew)); exact HO122.out⟩, ⟨by repeat (first | (with_reducible first | exact HB.out | apply below_alloc | apply pw_below_drewN | apply below_drew1) | exact HB.out)⟩⟩
  case round =>
    clear H'
    try clear c2
    try clear p2
    obtain ⟨x22_1, rfl, HA, HK1, HO_20, HB⟩ := hrel
    cases gk with
    | zero => exact absurd HA.out (by simp [rel_Above.l0])
    | succ k1 =>
      have H := HA.out
      clear HA
      simp only [rel_Above.l0] at H
      by_cases c10 : x22_1 < (t119.length : Int)
      · rw [if_pos c10] at H
        have c10b0 : decide (x22_1 < (t119.length : Int)) = true := decide_eq_true c10
        clear c10
        by_cases c11 : 0 ≤ x22_1
        · rw [if_pos c11] at H
          have c11b0 : decide (0 ≤ x22_1) = true := decide_eq_true c11
          clear c11
          by_cases c12 : x22_1 < (t119.length : Int)
          · rw [if_pos c12] at H
            have c12b0 : decide (x22_1 < (t119.length : Int)) = true := decide_eq_true c12
            clear c12
            by_cases c13 : t117.toList = ([] : List UInt8)
            · rw [if_pos c13] at H
              have c13b0 : (t117.toList == ([] : List UInt8)) = true := beq_iff_eq.mpr c13
              have c13b1 : (t117.toList != ([] : List UInt8)) = false := bne_eq_false_iff_eq.mpr c13
              clear c13
              have H' := Aside0.mk H
              clear H
              have p123 : 0 ≤ (x22_1 : Int) := of_decide_eq_true (by first | (with_reducible assumption) | assumption)
              have q123 : x22_1 < (t119.length : Int) := of_decide_eq_true (by first | (with_reducible assumption) | assumption)
              obtain ⟨ad123, e123, hx123_0⟩ := Kd.at_int (Kd.R_reads' HO_20.out).2.2 x22_1 p123 q123
              cases e123
              replace p123 := eq_true p123
              replace q123 := eq_true q123
              go_wp2
              go_roundg k1
              case measure => have := HK1.out; omega
              case rel => exact ⟨(wrap64 (x22_1 + 1)), (by first | rfl | (simp; done) | (simp [*]; done) | (simp [ByteArray.size_append]; exact Iff.rfl)), H', ⟨by have := HK1.out; omega⟩, ⟨by (with_reducible repeat (first | apply Kd.R_alloc | apply Kd.R_drewN | apply Kd.R_drew)); exact HO_20.out⟩, ⟨by repeat (first | (with_reducible first | exact HB.out | apply below_alloc | apply pw_below_drewN | apply below_drew1) | exact HB.out)⟩⟩
            · rw [if_neg c13] at H
              have c13b0 : (t117.toList == ([] : List UInt8)) = false := beq_eq_false_iff_ne.mpr c13
              have c13b1 : (t117.toList != ([] : List UInt8)) = true := bne_iff_ne.mpr c13
              by_cases c14 : 0 ≤ (rd t119 x22_1)
              · rw [if_pos c14] at H
                have c14b0 := eq_true c14
                have c14b1 : decide (0 ≤ (rd t119 x22_1)) = true := decide_eq_true c14
                clear c14
                by_cases c15 : (rd t119 x22_1) ≤ (t118.size : Int)
                · rw [if_pos c15] at H
                  have c15b0 := eq_true c15
                  have c15b1 : decide ((rd t119 x22_1) ≤ (t118.size : Int)) = true := decide_eq_true c15
                  clear c15
                  by_cases c16 : (t118.extract ((rd t119 x22_1) : Int).toNat t118.size).toList = t117.toList
                  · rw [if_pos c16] at H
                    have c16b0 : ((t118.extract ((rd t119 x22_1) : Int).toNat t118.size).toList == t117.toList) = true := beq_iff_eq.mpr c16
                    have c16b1 : ((t118.extract ((rd t119 x22_1) : Int).toNat t118.size).toList != t117.toList) = false := bne_eq_false_iff_eq.mpr c16
                    clear c16
                    obtain rfl := Option.some.inj H
                    have p123 : 0 ≤ (x22_1 : Int) := of_decide_eq_true (by first | (with_reducible assumption) | assumption)
                    have q123 : x22_1 < (t119.length : Int) := of_decide_eq_true (by first | (with_reducible assumption) | assumption)
                    obtain ⟨ad123, e123, hx123_0⟩ := Kd.at_int (Kd.R_reads' HO_20.out).2.2 x22_1 p123 q123
                    cases e123
                    replace p123 := eq_true p123
                    replace q123 := eq_true q123
                    go_wp2
                    go_ret
                    exact ⟨by first | rfl | (simp [errW_none, errW_some] <;> rfl) | (simp [*, errW_none, errW_some] <;> rfl), by repeat (first | (with_reducible first | exact HB.out | apply below_alloc | apply pw_below_drewN | apply below_drew1) | exact HB.out)⟩
                  · rw [if_neg c16] at H
                    have c16b0 : ((t118.extract ((rd t119 x22_1) : Int).toNat t118.size).toList == t117.toList) = false := beq_eq_false_iff_ne.mpr c16
                    have c16b1 : ((t118.extract ((rd t119 x22_1) : Int).toNat t118.size).toList != t117.toList) = true := bne_iff_ne.mpr c16
                    have H' := Aside0.mk H
                    clear H
                    have p123 : 0 ≤ (x22_1 : Int) := of_decide_eq_true (by first | (with_reducible assumption) | assumption)
                    have q123 : x22_1 < (t119.length : Int) := of_decide_eq_true (by first | (with_reducible assumption) | assumption)
                    obtain ⟨ad123, e123, hx123_0⟩ := Kd.at_int (Kd.R_reads' HO_20.out).2.2 x22_1 p123 q123
                    cases e123
                    replace p123 := eq_true p123
                    replace q123 := eq_true q123
                    go_wp2
                    go_roundg k1
                    case measure => have := HK1.out; omega
                    case rel => exact ⟨(wrap64 (x22_1 + 1)), (by first | rfl | (simp; done) | (simp [*]; done) | (simp [ByteArray.size_append]; exact Iff.rfl)), H', ⟨by have := HK1.out; omega⟩, ⟨by (with_reducible repeat (first | apply Kd.R_alloc | apply Kd.R_drewN | apply Kd.R_drew)); exact HO_20.out⟩, ⟨by repeat (first | (with_reducible first | exact HB.out | apply below_alloc | apply pw_below_drewN | apply below_drew1) | exact HB.out)⟩⟩
                · rw [if_neg c15] at H
                  exact absurd H (by simp)
              · rw [if_neg c14] at H
                exact absurd H (by simp)
          · exact absurd (of_decide_eq_true (by assumption)) c12
        · rw [if_neg c11] at H
          exact absurd H (by simp)
      · rw [if_neg c10] at H
        have c10b0 : decide (x22_1 < (t119.length : Int)) = false := decide_eq_false c10
        clear c10
        obtain rfl := Option.some.inj H
        go_wp2
        go_ret
        exact ⟨by first | rfl | (simp [errW_none, errW_some] <;> rfl) | (simp [*, errW_none, errW_some] <;> rfl), by repeat (first | (with_reducible first | exact HB.out | apply below_alloc | apply pw_below_drewN | apply below_drew1) | exact HB.out)⟩

/-! ### name_Count: function 25 -/
def name_Count.f (k : Nat) (a0 : ByteArray) : Option (Int) := (name_Places.f k a0).bind fun bt124 => (if bt124.2 = true then (some (wrap64 ((bt124.1.length : Int) - 1))) else (some 0))
theorem name_Count.mono : ∀ a0 k, LeO (name_Count.f k a0) (name_Count.f (k + 1) a0) := by
  intro a0 k
  unfold name_Count.f
  repeat' first
      | (with_reducible exact name_Places.mono _ _)
      | (with_reducible exact LeO.refl _)
      | (with_reducible exact LeO.none _)
      | (with_reducible refine LeO.ite ?_ ?_)
      | (with_reducible refine LeO.bind ?_ (fun _ => ?_))
      | exact name_Places.mono _ _
      | exact LeO.none _
      | refine LeO.ite ?_ ?_
      | refine LeO.bind ?_ (fun _ => ?_)
set_option maxHeartbeats 8000000 in
set_option maxRecDepth 100000 in
theorem name_Count.calls (k : Nat) (a0 : ByteArray) (r : Int) (w : World) (h : name_Count.f k a0 = some r) :
    Calls Try.prog 25 #[.string a0] w fun e w' => e = .returned (.int .i64 r) ∧ Below w.heap.size w w' := by
  have HB := Aside0.mk (Below.refl w.heap.size w)
  have H : ((name_Places.f k a0).bind fun bt124 => (if bt124.2 = true then (some (wrap64 ((bt124.1.length : Int) - 1))) else (some 0))) = some r := h
  clear h
  replace H := Option.bind_eq_some_iff.mp H
  obtain ⟨⟨t124, t125⟩, A20, H⟩ := H
  replace H : (if t125 = true then (some (wrap64 ((t124.length : Int) - 1))) else (some 0)) = some r := H
  have A2 := Aside0.mk A20
  clear A20
  by_cases c3 : t125 = true
  · subst c3
    have H1 : (some (wrap64 ((t124.length : Int) - 1))) = some r := by rw [if_pos rfl] at H; exact H
    clear H
    have H := H1
    clear H1
    obtain rfl := Option.some.inj H
    go_enter Try.func25, Try.ntmps25
    try simp only [List.append_eq, List.cons_append, List.nil_append]
    go_wp2_with (first | ((with_reducible refine gate_callee (f := 29) rfl ?_); refine goesL_ (some 7) rfl rfl Try.func29 (by kernel_rfl) rfl #[.string a0] rfl (by (try simp only [List.map_toArray, List.map_cons, List.map_nil]); first | done | rfl | (simp only [List.length_drop, List.length_take]; rfl)) ?_; (with_reducible refine (name_Places.calls k a0 t124 true _ A2.out).mono ?_); rintro e w4 ⟨v126, rfl, ho0, hb⟩; refine ⟨_, rfl, ?_⟩; have n0_ := Aside0.mk (Kd.R_lower ho0 (below_size (by repeat (first | (with_reducible first | exact HB.out | apply below_alloc | apply pw_below_drewN | apply below_drew1) | exact HB.out)))); have n1_ := Aside0.mk (below_step (by repeat (first | (with_reducible first | exact HB.out | apply below_alloc | apply pw_below_drewN | apply below_drew1) | exact HB.out)) hb); clear HB; have HO127 := n0_; have HB := n1_; clear n0_ n1_; (try clear hb); (try clear hb2); (try clear hk); (try clear hi); (try clear ho0); obtain ⟨Ao5, co5, eo5⟩ := Kd.R_slice HO127.out; subst eo5))
    go_ret
    exact ⟨by first | rfl | (simp [errW_none, errW_some] <;> rfl) | (simp [*, errW_none, errW_some] <;> rfl), by repeat (first | (with_reducible first | exact HB.out | apply below_alloc | apply pw_below_drewN | apply below_drew1) | exact HB.out)⟩
  · replace c3 := Bool.eq_false_iff.mpr c3
    subst c3
    have H1 : (some 0) = some r := by rw [if_neg (show ¬ (false = true) by decide)] at H; exact H
    clear H
    have H := H1
    clear H1
    obtain rfl := Option.some.inj H
    go_enter Try.func25, Try.ntmps25
    try simp only [List.append_eq, List.cons_append, List.nil_append]
    go_wp2_with (first | ((with_reducible refine gate_callee (f := 29) rfl ?_); refine goesL_ (some 7) rfl rfl Try.func29 (by kernel_rfl) rfl #[.string a0] rfl (by (try simp only [List.map_toArray, List.map_cons, List.map_nil]); first | done | rfl | (simp only [List.length_drop, List.length_take]; rfl)) ?_; (with_reducible refine (name_Places.calls k a0 t124 false _ A2.out).mono ?_); rintro e w6 ⟨v126, rfl, ho0, hb⟩; refine ⟨_, rfl, ?_⟩; have n0_ := Aside0.mk (Kd.R_lower ho0 (below_size (by repeat (first | (with_reducible first | exact HB.out | apply below_alloc | apply pw_below_drewN | apply below_drew1) | exact HB.out)))); have n1_ := Aside0.mk (below_step (by repeat (first | (with_reducible first | exact HB.out | apply below_alloc | apply pw_below_drewN | apply below_drew1) | exact HB.out)) hb); clear HB; have HO127 := n0_; have HB := n1_; clear n0_ n1_; (try clear hb); (try clear hb2); (try clear hk); (try clear hi); (try clear ho0)))
    go_ret
    exact ⟨by first | rfl | (simp [errW_none, errW_some] <;> rfl) | (simp [*, errW_none, errW_some] <;> rfl), by repeat (first | (with_reducible first | exact HB.out | apply below_alloc | apply pw_below_drewN | apply below_drew1) | exact HB.out)⟩

end Go.Proofs.Ytbcflinledkgjaa.P
