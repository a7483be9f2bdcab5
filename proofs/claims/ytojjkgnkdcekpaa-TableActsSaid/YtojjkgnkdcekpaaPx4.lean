-- Written by a program of this session's prover (over the kit's printer, with contracts of the session's own); Lean checks it.
import Derived.Test.YtojjkgnkdcekpaaPx0
namespace Go.Proofs.Ytojjkgnkdcekpaa.P
open Go.RowKit Go.Proofs.YtojjkgnkdcekpaaW.PrintWords Go.Proofs.YtojjkgnkdcekpaaW.PrintLast Go.Proofs.YtojjkgnkdcekpaaW.PrintMore
attribute [local go_sem] max2_int min2_int max_two min_two max_three min_three max_four min_four   -- for this text's walks alone
set_option linter.unusedVariables false
set_option linter.unusedSimpArgs false

-- NOT PRINTED: function 44 (abi_NoEscape)

-- NOT PRINTED: function 42 (strings_Builder_copyCheck)

-- NOT PRINTED: function 37 (strings_Builder_WriteByte)

-- NOT PRINTED: function 38 (strings_Builder_WriteString)

/-! ### rel_fold: function 43 -/
def rel_fold.f (a0 : Int) : Option (Int) := if a0 ≥ 65 then (if a0 ≤ 90 then (some ((a0 + 32) % 256)) else (some a0)) else (some a0)
set_option maxHeartbeats 8000000 in
set_option maxRecDepth 100000 in
theorem rel_fold.calls (a0 : Int) (r : Int) (w : World) (h : rel_fold.f a0 = some r) :
    Calls Try.prog 43 #[.int .u8 a0] w fun e w' => e = .returned (.int .u8 r) ∧ Drawn0 w w' := by
  have H : (if a0 ≥ 65 then (if a0 ≤ 90 then (some ((a0 + 32) % 256)) else (some a0)) else (some a0)) = some r := h
  clear h
  by_cases c2 : a0 ≥ 65
  · rw [if_pos c2] at H
    have c2b0 : decide (65 ≤ a0) = true := decide_eq_true c2
    clear c2
    by_cases c3 : a0 ≤ 90
    · rw [if_pos c3] at H
      have c3b0 : decide (a0 ≤ 90) = true := decide_eq_true c3
      clear c3
      obtain rfl := Option.some.inj H
      go_enter Try.func43, Try.ntmps43
      try simp only [List.append_eq, List.cons_append, List.nil_append]
      go_wp2
      go_ret
      exact ⟨by first | rfl | (simp; done) | (simp [*]; done), by repeat (first | exact Drawn0.refl _ | apply Drawn0.step)⟩
    · rw [if_neg c3] at H
      have c3b0 : decide (a0 ≤ 90) = false := decide_eq_false c3
      clear c3
      obtain rfl := Option.some.inj H
      go_enter Try.func43, Try.ntmps43
      try simp only [List.append_eq, List.cons_append, List.nil_append]
      go_wp2
      go_ret
      exact ⟨by first | rfl | (simp; done) | (simp [*]; done), by repeat (first | exact Drawn0.refl _ | apply Drawn0.step)⟩
  · rw [if_neg c2] at H
    have c2b0 : decide (65 ≤ a0) = false := decide_eq_false c2
    clear c2
    obtain rfl := Option.some.inj H
    go_enter Try.func43, Try.ntmps43
    try simp only [List.append_eq, List.cons_append, List.nil_append]
    go_wp2
    go_ret
    exact ⟨by first | rfl | (simp; done) | (simp [*]; done), by repeat (first | exact Drawn0.refl _ | apply Drawn0.step)⟩

/-! ### rel_folded: function 39 -/
def rel_folded.f (a0 : ByteArray) : Option (ByteArray) := if a0.size ≤ 1000000 then some ⟨(M.fol a0.data.toList).toArray⟩ else none

set_option maxHeartbeats 4000000 in
set_option maxRecDepth 100000 in
theorem rel_folded.calls (a0 : ByteArray) (r : ByteArray) (w : World) (h : rel_folded.f a0 = some r) :
    Calls Try.prog 39 #[.string a0] w fun e w' => e = .returned (.string r) ∧ Below w.heap.size w w' := by
  unfold rel_folded.f at h
  by_cases hs : a0.size ≤ 1000000
  · rw [if_pos hs] at h
    obtain rfl := Option.some.inj h
    clear h
    have hsz : a0.size = a0.data.toList.length := by rw [Array.length_toList]; rfl
    generalize hl : a0.data.toList = l at *
    have Hl := Lib.hid hl
    clear hl
    have HSZ := Lib.hid hsz
    have hconv := Lib.run_convert_string_bytes (P := Try.prog) w 9 83 5 a0 Try.underlying9 Try.underlying83 Try.underlying5
    have hnew := M.BRow.new w a0
    rw [Hl.out] at hnew
    have hbel := M.below_bytes w a0
    have hback : ∀ (W : World) (L : List UInt8) (c : Nat), M.BRow W w.heap.size L → L.length = a0.size → (convert 83 9 (.slice (some ⟨w.heap.size, 0, none⟩) a0.size c)).run Try.prog W = .ok (.string ⟨L.toArray⟩) W := by
      intro W L c hB hL
      rw [← hL]
      exact hB.back Try.underlying83 Try.underlying5 Try.underlying9
    have HBK := Lib.hid hback
    clear hback
    clear hsz
    go_enter Try.func39, Try.ntmps39
    go_wp2
    clear hconv
    go_loopw [9] (fun v9 wr => ∃ i : Nat, i ≤ a0.size ∧ v9 = .int .i64 i ∧ M.BRow wr w.heap.size ((l.take i).map M.fo ++ l.drop i) ∧ Below w.heap.size w wr) (fun v9 _ => a0.size - (intOf v9).toNat)
    case atStart => exact ⟨0, Nat.zero_le _, rfl, by simpa using hnew, hbel⟩
    case round =>
      clear hnew hbel
      obtain ⟨i, hi, rfl, hrow, hbw⟩ := hrel
      have hws : w.heap.size ≤ wr.heap.size := hbw.size
      by_cases hlt : i < a0.size
      · have hlt2 : i < l.length := by rw [← HSZ.out]; exact hlt
        have hlen := M.mid_len M.fo l i (by omega)
        have hcell := hrow.cell i (by omega)
        rw [M.mid_get M.fo l i hlt2] at hcell
        have hfree := hrow.free i (by omega)
        have hput := hrow.put i (M.fo (l[i]'hlt2))
        rw [M.mid_set M.fo l i hlt2, M.fo_toNat] at hput
        generalize l[i]'hlt2 = c at *
        have hc := c.toNat_lt
        clear hlen
        by_cases hcap : 65 ≤ c.toNat ∧ c.toNat ≤ 90
        · rw [if_pos hcap] at hput
          have q1 : decide (65 ≤ (c.toNat : Int)) = true := decide_eq_true (by omega)
          have q2 : decide ((c.toNat : Int) ≤ 90) = true := decide_eq_true (by omega)
          have hcast : ((c.toNat + 32 : Nat) : Int) = ((c.toNat : Int) + 32) % 256 := by omega
          rw [hcast] at hput
          have HPUT := Lib.hid hput
          clear hput hcast hcap hrow
          go_wp2
          go_roundw
          case rel => exact ⟨i + 1, by omega, by go_num, HPUT.out, hbw.setCell (p := ⟨w.heap.size, i, none⟩) (Nat.le_refl _) _⟩
          case measure => simp [intOf]; omega
        · rw [if_neg hcap] at hput
          have HPUT := Lib.hid hput
          clear hput hrow
          have key : (decide (65 ≤ (c.toNat : Int)) = false) ∨ (decide (65 ≤ (c.toNat : Int)) = true ∧ decide ((c.toNat : Int) ≤ 90) = false) := by
            simp only [decide_eq_true_eq, decide_eq_false_iff_not]
            omega
          clear hcap
          rcases key with q1 | ⟨q1, q2⟩
          all_goals
            go_wp2
            go_roundw
            case rel => exact ⟨i + 1, by omega, by go_num, HPUT.out, hbw.setCell (p := ⟨w.heap.size, i, none⟩) (Nat.le_refl _) _⟩
            case measure => simp [intOf]; omega
      · obtain rfl : i = a0.size := by omega
        have hfin : (l.take a0.size).map M.fo ++ l.drop a0.size = M.fol l := by
          rw [HSZ.out, List.take_length, List.drop_length, List.append_nil]
          rfl
        rw [hfin] at hrow
        have hb2 := HBK.out wr (M.fol l) (grownCap w a0.size 0 5) hrow (by rw [M.fol_length, HSZ.out])
        clear hfin
        go_wp2
        go_ret
        exact ⟨rfl, hbw⟩
  · rw [if_neg hs] at h
    cases h


-- NOT PRINTED: function 40 (strings_Builder_String)

end Go.Proofs.Ytojjkgnkdcekpaa.P
