-- Written by a program of this session's prover (over the kit's printer, with contracts of the session's own); Lean checks it.
import Derived.Test.YtjmdfhbenejfgaaPx0
import Derived.Test.YtjmdfhbenejfgaaPx1
namespace Go.Proofs.Ytjmdfhbenejfgaa.P
open Go.RowKit Go.Proofs.YtjmdfhbenejfgaaW.PrintWords Go.Proofs.YtjmdfhbenejfgaaW.PrintLast Go.Proofs.YtjmdfhbenejfgaaW.PrintMore
attribute [local go_sem] max2_int min2_int max_two min_two max_three min_three max_four min_four   -- for this text's walks alone
set_option linter.unusedVariables false
set_option linter.unusedSimpArgs false

/-! ### wimplelaw0_errors2: function 10 -/
def wimplelaw0_errors2.f  : Option (Bool) := (wimplelaw0_Num.f 1001).bind fun t115 => (if t115 = 1001 then ((wimplelaw0_Num.f 1100).bind fun t116 => (if t116 = 1100 then ((wimplelaw0_Num.f 1200).bind fun t117 => (if t117 = 1200 then ((wimplelaw0_Num.f 1300).bind fun t118 => (if t118 = 1300 then ((wimplelaw0_Num.f 1301).bind fun t119 => (if t119 = 1301 then ((wimplelaw0_Num.f 1400).bind fun t120 => (if t120 = 1400 then ((wimplelaw0_Num.f 1401).bind fun t121 => (if t121 = 1401 then ((wimplelaw0_Num.f 1500).bind fun t122 => (if t122 = 1500 then ((wimplelaw0_Num.f 1600).bind fun t123 => (if t123 = 1600 then ((wimplelaw0_Num.f 1700).bind fun t124 => (if t124 = 1700 then ((wimplelaw0_Num.f 1800).bind fun t125 => (if t125 = 1800 then ((wimplelaw0_Num.f 1801).bind fun t126 => (if t126 = 1801 then ((wimplelaw0_Num.f 1900).bind fun t127 => (if t127 = 1900 then ((wimplelaw0_Num.f 1901).bind fun t128 => (some (t128 == 1901))) else (some false))) else (some false))) else (some false))) else (some false))) else (some false))) else (some false))) else (some false))) else (some false))) else (some false))) else (some false))) else (some false))) else (some false))) else (some false))
set_option maxHeartbeats 8000000 in
set_option maxRecDepth 100000 in
theorem wimplelaw0_errors2.calls  (r : Bool) (w : World) (h : wimplelaw0_errors2.f  = some r) :
  Calls Try.prog 10 #[] w fun e w' => e = .returned (.bool r) ∧ Drawn0 w w' := by
 have H : ((wimplelaw0_Num.f 1001).bind fun t115 => (if t115 = 1001 then ((wimplelaw0_Num.f 1100).bind fun t116 => (if t116 = 1100 then ((wimplelaw0_Num.f 1200).bind fun t117 => (if t117 = 1200 then ((wimplelaw0_Num.f 1300).bind fun t118 => (if t118 = 1300 then ((wimplelaw0_Num.f 1301).bind fun t119 => (if t119 = 1301 then ((wimplelaw0_Num.f 1400).bind fun t120 => (if t120 = 1400 then ((wimplelaw0_Num.f 1401).bind fun t121 => (if t121 = 1401 then ((wimplelaw0_Num.f 1500).bind fun t122 => (if t122 = 1500 then ((wimplelaw0_Num.f 1600).bind fun t123 => (if t123 = 1600 then ((wimplelaw0_Num.f 1700).bind fun t124 => (if t124 = 1700 then ((wimplelaw0_Num.f 1800).bind fun t125 => (if t125 = 1800 then ((wimplelaw0_Num.f 1801).bind fun t126 => (if t126 = 1801 then ((wimplelaw0_Num.f 1900).bind fun t127 => (if t127 = 1900 then ((wimplelaw0_Num.f 1901).bind fun t128 => (some (t128 == 1901))) else (some false))) else (some false))) else (some false))) else (some false))) else (some false))) else (some false))) else (some false))) else (some false))) else (some false))) else (some false))) else (some false))) else (some false))) else (some false))) = some r := h
 clear h
 replace H := Option.bind_eq_some_iff.mp H
 obtain ⟨t115, A10, H⟩ := H
 replace H : (if t115 = 1001 then ((wimplelaw0_Num.f 1100).bind fun t116 => (if t116 = 1100 then ((wimplelaw0_Num.f 1200).bind fun t117 => (if t117 = 1200 then ((wimplelaw0_Num.f 1300).bind fun t118 => (if t118 = 1300 then ((wimplelaw0_Num.f 1301).bind fun t119 => (if t119 = 1301 then ((wimplelaw0_Num.f 1400).bind fun t120 => (if t120 = 1400 then ((wimplelaw0_Num.f 1401).bind fun t121 => (if t121 = 1401 then ((wimplelaw0_Num.f 1500).bind fun t122 => (if t122 = 1500 then ((wimplelaw0_Num.f 1600).bind fun t123 => (if t123 = 1600 then ((wimplelaw0_Num.f 1700).bind fun t124 => (if t124 = 1700 then ((wimplelaw0_Num.f 1800).bind fun t125 => (if t125 = 1800 then ((wimplelaw0_Num.f 1801).bind fun t126 => (if t126 = 1801 then ((wimplelaw0_Num.f 1900).bind fun t127 => (if t127 = 1900 then ((wimplelaw0_Num.f 1901).bind fun t128 => (some (t128 == 1901))) else (some false))) else (some false))) else (some false))) else (some false))) else (some false))) else (some false))) else (some false))) else (some false))) else (some false))) else (some false))) else (some false))) else (some false))) else (some false)) = some r := H
 have A1 := Aside0.mk A10
 clear A10
 by_cases c2 : t115 = 1001
 ·rw [if_pos c2] at H
  have c2b0 : (t115 == 1001) = true := beq_iff_eq.mpr c2
  have c2b1 : (t115 != 1001) = false := bne_eq_false_iff_eq.mpr c2
  clear c2
  replace H := Option.bind_eq_some_iff.mp H
  obtain ⟨t116, A30, H⟩ := H
  replace H : (if t116 = 1100 then ((wimplelaw0_Num.f 1200).bind fun t117 => (if t117 = 1200 then ((wimplelaw0_Num.f 1300).bind fun t118 => (if t118 = 1300 then ((wimplelaw0_Num.f 1301).bind fun t119 => (if t119 = 1301 then ((wimplelaw0_Num.f 1400).bind fun t120 => (if t120 = 1400 then ((wimplelaw0_Num.f 1401).bind fun t121 => (if t121 = 1401 then ((wimplelaw0_Num.f 1500).bind fun t122 => (if t122 = 1500 then ((wimplelaw0_Num.f 1600).bind fun t123 => (if t123 = 1600 then ((wimplelaw0_Num.f 1700).bind fun t124 => (if t124 = 1700 then ((wimplelaw0_Num.f 1800).bind fun t125 => (if t125 = 1800 then ((wimplelaw0_Num.f 1801).bind fun t126 => (if t126 = 1801 then ((wimplelaw0_Num.f 1900).bind fun t127 => (if t127 = 1900 then ((wimplelaw0_Num.f 1901).bind fun t128 => (some (t128 == 1901))) else (some false))) else (some false))) else (some false))) else (some false))) else (some false))) else (some false))) else (some false))) else (some false))) else (some false))) else (some false))) else (some false))) else (some false)) = some r := H
  have A3 := Aside0.mk A30
  clear A30
  by_cases c4 : t116 = 1100
  ·rw [if_pos c4] at H
   have c4b0 : (t116 == 1100) = true := beq_iff_eq.mpr c4
   have c4b1 : (t116 != 1100) = false := bne_eq_false_iff_eq.mpr c4
   clear c4
   replace H := Option.bind_eq_some_iff.mp H
   obtain ⟨t117, A50, H⟩ := H
   replace H : (if t117 = 1200 then ((wimplelaw0_Num.f 1300).bind fun t118 => (if t118 = 1300 then ((wimplelaw0_Num.f 1301).bind fun t119 => (if t119 = 1301 then ((wimplelaw0_Num.f 1400).bind fun t120 => (if t120 = 1400 then ((wimplelaw0_Num.f 1401).bind fun t121 => (if t121 = 1401 then ((wimplelaw0_Num.f 1500).bind fun t122 => (if t122 = 1500 then ((wimplelaw0_Num.f 1600).bind fun t123 => (if t123 = 1600 then ((wimplelaw0_Num.f 1700).bind fun t124 => (if t124 = 1700 then ((wimplelaw0_Num.f 1800).bind fun t125 => (if t125 = 1800 then ((wimplelaw0_Num.f 1801).bind fun t126 => (if t126 = 1801 then ((wimplelaw0_Num.f 1900).bind fun t127 => (if t127 = 1900 then ((wimplelaw0_Num.f 1901).bind fun t128 => (some (t128 == 1901))) else (some false))) else (some false))) else (some false))) else (some false))) else (some false))) else (some false))) else (some false))) else (some false))) else (some false))) else (some false))) else (some false)) = some r := H
   have A5 := Aside0.mk A50
   clear A50
   by_cases c6 : t117 = 1200
   ·rw [if_pos c6] at H
    have c6b0 : (t117 == 1200) = true := beq_iff_eq.mpr c6
    have c6b1 : (t117 != 1200) = false := bne_eq_false_iff_eq.mpr c6
    clear c6
    replace H := Option.bind_eq_some_iff.mp H
    obtain ⟨t118, A70, H⟩ := H
    replace H : (if t118 = 1300 then ((wimplelaw0_Num.f 1301).bind fun t119 => (if t119 = 1301 then ((wimplelaw0_Num.f 1400).bind fun t120 => (if t120 = 1400 then ((wimplelaw0_Num.f 1401).bind fun t121 => (if t121 = 1401 then ((wimplelaw0_Num.f 1500).bind fun t122 => (if t122 = 1500 then ((wimplelaw0_Num.f 1600).bind fun t123 => (if t123 = 1600 then ((wimplelaw0_Num.f 1700).bind fun t124 => (if t124 = 1700 then ((wimplelaw0_Num.f 1800).bind fun t125 => (if t125 = 1800 then ((wimplelaw0_Num.f 1801).bind fun t126 => (if t126 = 1801 then ((wimplelaw0_Num.f 1900).bind fun t127 => (if t127 = 1900 then ((wimplelaw0_Num.f 1901).bind fun t128 => (some (t128 == 1901))) else (some false))) else (some false))) else (some false))) else (some false))) else (some false))) else (some false))) else (some false))) else (some false))) else (some false))) else (some false)) = some r := H
    have A7 := Aside0.mk A70
    clear A70
    by_cases c8 : t118 = 1300
    ·rw [if_pos c8] at H
     have c8b0 : (t118 == 1300) = true := beq_iff_eq.mpr c8
     have c8b1 : (t118 != 1300) = false := bne_eq_false_iff_eq.mpr c8
     clear c8
     replace H := Option.bind_eq_some_iff.mp H
     obtain ⟨t119, A90, H⟩ := H
     replace H : (if t119 = 1301 then ((wimplelaw0_Num.f 1400).bind fun t120 => (if t120 = 1400 then ((wimplelaw0_Num.f 1401).bind fun t121 => (if t121 = 1401 then ((wimplelaw0_Num.f 1500).bind fun t122 => (if t122 = 1500 then ((wimplelaw0_Num.f 1600).bind fun t123 => (if t123 = 1600 then ((wimplelaw0_Num.f 1700).bind fun t124 => (if t124 = 1700 then ((wimplelaw0_Num.f 1800).bind fun t125 => (if t125 = 1800 then ((wimplelaw0_Num.f 1801).bind fun t126 => (if t126 = 1801 then ((wimplelaw0_Num.f 1900).bind fun t127 => (if t127 = 1900 then ((wimplelaw0_Num.f 1901).bind fun t128 => (some (t128 == 1901))) else (some false))) else (some false))) else (some false))) else (some false))) else (some false))) else (some false))) else (some false))) else (some false))) else (some false)) = some r := H
     have A9 := Aside0.mk A90
     clear A90
     by_cases c10 : t119 = 1301
     ·rw [if_pos c10] at H
      have c10b0 : (t119 == 1301) = true := beq_iff_eq.mpr c10
      have c10b1 : (t119 != 1301) = false := bne_eq_false_iff_eq.mpr c10
      clear c10
      replace H := Option.bind_eq_some_iff.mp H
      obtain ⟨t120, A110, H⟩ := H
      replace H : (if t120 = 1400 then ((wimplelaw0_Num.f 1401).bind fun t121 => (if t121 = 1401 then ((wimplelaw0_Num.f 1500).bind fun t122 => (if t122 = 1500 then ((wimplelaw0_Num.f 1600).bind fun t123 => (if t123 = 1600 then ((wimplelaw0_Num.f 1700).bind fun t124 => (if t124 = 1700 then ((wimplelaw0_Num.f 1800).bind fun t125 => (if t125 = 1800 then ((wimplelaw0_Num.f 1801).bind fun t126 => (if t126 = 1801 then ((wimplelaw0_Num.f 1900).bind fun t127 => (if t127 = 1900 then ((wimplelaw0_Num.f 1901).bind fun t128 => (some (t128 == 1901))) else (some false))) else (some false))) else (some false))) else (some false))) else (some false))) else (some false))) else (some false))) else (some false)) = some r := H
      have A11 := Aside0.mk A110
      clear A110
      by_cases c12 : t120 = 1400
      ·rw [if_pos c12] at H
       have c12b0 : (t120 == 1400) = true := beq_iff_eq.mpr c12
       have c12b1 : (t120 != 1400) = false := bne_eq_false_iff_eq.mpr c12
       clear c12
       replace H := Option.bind_eq_some_iff.mp H
       obtain ⟨t121, A130, H⟩ := H
       replace H : (if t121 = 1401 then ((wimplelaw0_Num.f 1500).bind fun t122 => (if t122 = 1500 then ((wimplelaw0_Num.f 1600).bind fun t123 => (if t123 = 1600 then ((wimplelaw0_Num.f 1700).bind fun t124 => (if t124 = 1700 then ((wimplelaw0_Num.f 1800).bind fun t125 => (if t125 = 1800 then ((wimplelaw0_Num.f 1801).bind fun t126 => (if t126 = 1801 then ((wimplelaw0_Num.f 1900).bind fun t127 => (if t127 = 1900 then ((wimplelaw0_Num.f 1901).bind fun t128 => (some (t128 == 1901))) else (some false))) else (some false))) else (some false))) else (some false))) else (some false))) else (some false))) else (some false)) = some r := H
       have A13 := Aside0.mk A130
       clear A130
       by_cases c14 : t121 = 1401
       ·rw [if_pos c14] at H
        have c14b0 : (t121 == 1401) = true := beq_iff_eq.mpr c14
        have c14b1 : (t121 != 1401) = false := bne_eq_false_iff_eq.mpr c14
        clear c14
        replace H := Option.bind_eq_some_iff.mp H
        obtain ⟨t122, A150, H⟩ := H
        replace H : (if t122 = 1500 then ((wimplelaw0_Num.f 1600).bind fun t123 => (if t123 = 1600 then ((wimplelaw0_Num.f 1700).bind fun t124 => (if t124 = 1700 then ((wimplelaw0_Num.f 1800).bind fun t125 => (if t125 = 1800 then ((wimplelaw0_Num.f 1801).bind fun t126 => (if t126 = 1801 then ((wimplelaw0_Num.f 1900).bind fun t127 => (if t127 = 1900 then ((wimplelaw0_Num.f 1901).bind fun t128 => (some (t128 == 1901))) else (some false))) else (some false))) else (some false))) else (some false))) else (some false))) else (some false)) = some r := H
        have A15 := Aside0.mk A150
        clear A150
        by_cases c16 : t122 = 1500
        ·rw [if_pos c16] at H
         have c16b0 : (t122 == 1500) = true := beq_iff_eq.mpr c16
         have c16b1 : (t122 != 1500) = false := bne_eq_false_iff_eq.mpr c16
         clear c16
         replace H := Option.bind_eq_some_iff.mp H
         obtain ⟨t123, A170, H⟩ := H
         replace H : (if t123 = 1600 then ((wimplelaw0_Num.f 1700).bind fun t124 => (if t124 = 1700 then ((wimplelaw0_Num.f 1800).bind fun t125 => (if t125 = 1800 then ((wimplelaw0_Num.f 1801).bind fun t126 => (if t126 = 1801 then ((wimplelaw0_Num.f 1900).bind fun t127 => (if t127 = 1900 then ((wimplelaw0_Num.f 1901).bind fun t128 => (some (t128 == 1901))) else (some false))) else (some false))) else (some false))) else (some false))) else (some false)) = some r := H
         have A17 := Aside0.mk A170
         clear A170
         by_cases c18 : t123 = 1600
         ·rw [if_pos c18] at H
          have c18b0 : (t123 == 1600) = true := beq_iff_eq.mpr c18
          have c18b1 : (t123 != 1600) = false := bne_eq_false_iff_eq.mpr c18
          clear c18
          replace H := Option.bind_eq_some_iff.mp H
          obtain ⟨t124, A190, H⟩ := H
          replace H : (if t124 = 1700 then ((wimplelaw0_Num.f 1800).bind fun t125 => (if t125 = 1800 then ((wimplelaw0_Num.f 1801).bind fun t126 => (if t126 = 1801 then ((wimplelaw0_Num.f 1900).bind fun t127 => (if t127 = 1900 then ((wimplelaw0_Num.f 1901).bind fun t128 => (some (t128 == 1901))) else (some false))) else (some false))) else (some false))) else (some false)) = some r := H
          have A19 := Aside0.mk A190
          clear A190
          by_cases c20 : t124 = 1700
          ·rw [if_pos c20] at H
           have c20b0 : (t124 == 1700) = true := beq_iff_eq.mpr c20
           have c20b1 : (t124 != 1700) = false := bne_eq_false_iff_eq.mpr c20
           clear c20
           replace H := Option.bind_eq_some_iff.mp H
           obtain ⟨t125, A210, H⟩ := H
           replace H : (if t125 = 1800 then ((wimplelaw0_Num.f 1801).bind fun t126 => (if t126 = 1801 then ((wimplelaw0_Num.f 1900).bind fun t127 => (if t127 = 1900 then ((wimplelaw0_Num.f 1901).bind fun t128 => (some (t128 == 1901))) else (some false))) else (some false))) else (some false)) = some r := H
           have A21 := Aside0.mk A210
           clear A210
           by_cases c22 : t125 = 1800
           ·rw [if_pos c22] at H
            have c22b0 : (t125 == 1800) = true := beq_iff_eq.mpr c22
            have c22b1 : (t125 != 1800) = false := bne_eq_false_iff_eq.mpr c22
            clear c22
            replace H := Option.bind_eq_some_iff.mp H
            obtain ⟨t126, A230, H⟩ := H
            replace H : (if t126 = 1801 then ((wimplelaw0_Num.f 1900).bind fun t127 => (if t127 = 1900 then ((wimplelaw0_Num.f 1901).bind fun t128 => (some (t128 == 1901))) else (some false))) else (some false)) = some r := H
            have A23 := Aside0.mk A230
            clear A230
            by_cases c24 : t126 = 1801
            ·rw [if_pos c24] at H
             have c24b0 : (t126 == 1801) = true := beq_iff_eq.mpr c24
             have c24b1 : (t126 != 1801) = false := bne_eq_false_iff_eq.mpr c24
             clear c24
             replace H := Option.bind_eq_some_iff.mp H
             obtain ⟨t127, A250, H⟩ := H
             replace H : (if t127 = 1900 then ((wimplelaw0_Num.f 1901).bind fun t128 => (some (t128 == 1901))) else (some false)) = some r := H
             have A25 := Aside0.mk A250
             clear A250
             by_cases c26 : t127 = 1900
             ·rw [if_pos c26] at H
              have c26b0 : (t127 == 1900) = true := beq_iff_eq.mpr c26
              have c26b1 : (t127 != 1900) = false := bne_eq_false_iff_eq.mpr c26
              clear c26
              replace H := Option.bind_eq_some_iff.mp H
              obtain ⟨t128, A270, H⟩ := H
              replace H : (some (t128 == 1901)) = some r := H
              have A27 := Aside0.mk A270
              clear A270
              obtain rfl := Option.some.inj H
              go_enter Try.func10, Try.ntmps10
              try simp only [List.append_eq, List.cons_append, List.nil_append]
              go_wp2_with (first | ((with_reducible refine gate_callee (f := 21) rfl ?_); refine goesL_ (some 1) rfl rfl Try.func21 (by kernel_rfl) rfl #[.int .i64 1001] rfl (by (try simp only [List.map_toArray, List.map_cons, List.map_nil]); first | done | rfl | (simp only [List.length_drop, List.length_take]; rfl)) ?_; (with_reducible refine (wimplelaw0_Num.calls 1001 t115 _ A1.out).mono ?_); rintro e w' ⟨rfl, ⟨nd, rfl⟩⟩; refine ⟨_, rfl, ?_⟩) | (go_at_call 21; (with_reducible refine (wimplelaw0_Num.calls 1100 t116 _ A3.out).mono ?_); rintro e w' ⟨rfl, ⟨nd, rfl⟩⟩) | (go_at_call 21; (with_reducible refine (wimplelaw0_Num.calls 1200 t117 _ A5.out).mono ?_); rintro e w' ⟨rfl, ⟨nd, rfl⟩⟩) | (go_at_call 21; (with_reducible refine (wimplelaw0_Num.calls 1300 t118 _ A7.out).mono ?_); rintro e w' ⟨rfl, ⟨nd, rfl⟩⟩) | (go_at_call 21; (with_reducible refine (wimplelaw0_Num.calls 1301 t119 _ A9.out).mono ?_); rintro e w' ⟨rfl, ⟨nd, rfl⟩⟩) | (go_at_call 21; (with_reducible refine (wimplelaw0_Num.calls 1400 t120 _ A11.out).mono ?_); rintro e w' ⟨rfl, ⟨nd, rfl⟩⟩) | (go_at_call 21; (with_reducible refine (wimplelaw0_Num.calls 1401 t121 _ A13.out).mono ?_); rintro e w' ⟨rfl, ⟨nd, rfl⟩⟩) | (go_at_call 21; (with_reducible refine (wimplelaw0_Num.calls 1500 t122 _ A15.out).mono ?_); rintro e w' ⟨rfl, ⟨nd, rfl⟩⟩) | (go_at_call 21; (with_reducible refine (wimplelaw0_Num.calls 1600 t123 _ A17.out).mono ?_); rintro e w' ⟨rfl, ⟨nd, rfl⟩⟩) | (go_at_call 21; (with_reducible refine (wimplelaw0_Num.calls 1700 t124 _ A19.out).mono ?_); rintro e w' ⟨rfl, ⟨nd, rfl⟩⟩) | (go_at_call 21; (with_reducible refine (wimplelaw0_Num.calls 1800 t125 _ A21.out).mono ?_); rintro e w' ⟨rfl, ⟨nd, rfl⟩⟩) | (go_at_call 21; (with_reducible refine (wimplelaw0_Num.calls 1801 t126 _ A23.out).mono ?_); rintro e w' ⟨rfl, ⟨nd, rfl⟩⟩) | (go_at_call 21; (with_reducible refine (wimplelaw0_Num.calls 1900 t127 _ A25.out).mono ?_); rintro e w' ⟨rfl, ⟨nd, rfl⟩⟩) | (go_at_call 21; (with_reducible refine (wimplelaw0_Num.calls 1901 t128 _ A27.out).mono ?_); rintro e w' ⟨rfl, ⟨nd, rfl⟩⟩))
              go_ret
              exact ⟨by first | rfl | (simp; done) | (simp [*]; done), by repeat (first | exact Drawn0.refl _ | apply Drawn0.step)⟩
             ·rw [if_neg c26] at H
              have c26b0 : (t127 == 1900) = false := beq_eq_false_iff_ne.mpr c26
              have c26b1 : (t127 != 1900) = true := bne_iff_ne.mpr c26
              obtain rfl := Option.some.inj H
              go_enter Try.func10, Try.ntmps10
              try simp only [List.append_eq, List.cons_append, List.nil_append]
              go_wp2_with (first | ((with_reducible refine gate_callee (f := 21) rfl ?_); refine goesL_ (some 1) rfl rfl Try.func21 (by kernel_rfl) rfl #[.int .i64 1001] rfl (by (try simp only [List.map_toArray, List.map_cons, List.map_nil]); first | done | rfl | (simp only [List.length_drop, List.length_take]; rfl)) ?_; (with_reducible refine (wimplelaw0_Num.calls 1001 t115 _ A1.out).mono ?_); rintro e w' ⟨rfl, ⟨nd, rfl⟩⟩; refine ⟨_, rfl, ?_⟩) | (go_at_call 21; (with_reducible refine (wimplelaw0_Num.calls 1100 t116 _ A3.out).mono ?_); rintro e w' ⟨rfl, ⟨nd, rfl⟩⟩) | (go_at_call 21; (with_reducible refine (wimplelaw0_Num.calls 1200 t117 _ A5.out).mono ?_); rintro e w' ⟨rfl, ⟨nd, rfl⟩⟩) | (go_at_call 21; (with_reducible refine (wimplelaw0_Num.calls 1300 t118 _ A7.out).mono ?_); rintro e w' ⟨rfl, ⟨nd, rfl⟩⟩) | (go_at_call 21; (with_reducible refine (wimplelaw0_Num.calls 1301 t119 _ A9.out).mono ?_); rintro e w' ⟨rfl, ⟨nd, rfl⟩⟩) | (go_at_call 21; (with_reducible refine (wimplelaw0_Num.calls 1400 t120 _ A11.out).mono ?_); rintro e w' ⟨rfl, ⟨nd, rfl⟩⟩) | (go_at_call 21; (with_reducible refine (wimplelaw0_Num.calls 1401 t121 _ A13.out).mono ?_); rintro e w' ⟨rfl, ⟨nd, rfl⟩⟩) | (go_at_call 21; (with_reducible refine (wimplelaw0_Num.calls 1500 t122 _ A15.out).mono ?_); rintro e w' ⟨rfl, ⟨nd, rfl⟩⟩) | (go_at_call 21; (with_reducible refine (wimplelaw0_Num.calls 1600 t123 _ A17.out).mono ?_); rintro e w' ⟨rfl, ⟨nd, rfl⟩⟩) | (go_at_call 21; (with_reducible refine (wimplelaw0_Num.calls 1700 t124 _ A19.out).mono ?_); rintro e w' ⟨rfl, ⟨nd, rfl⟩⟩) | (go_at_call 21; (with_reducible refine (wimplelaw0_Num.calls 1800 t125 _ A21.out).mono ?_); rintro e w' ⟨rfl, ⟨nd, rfl⟩⟩) | (go_at_call 21; (with_reducible refine (wimplelaw0_Num.calls 1801 t126 _ A23.out).mono ?_); rintro e w' ⟨rfl, ⟨nd, rfl⟩⟩) | (go_at_call 21; (with_reducible refine (wimplelaw0_Num.calls 1900 t127 _ A25.out).mono ?_); rintro e w' ⟨rfl, ⟨nd, rfl⟩⟩))
              go_ret
              exact ⟨by first | rfl | (simp; done) | (simp [*]; done), by repeat (first | exact Drawn0.refl _ | apply Drawn0.step)⟩
            ·rw [if_neg c24] at H
             have c24b0 : (t126 == 1801) = false := beq_eq_false_iff_ne.mpr c24
             have c24b1 : (t126 != 1801) = true := bne_iff_ne.mpr c24
             obtain rfl := Option.some.inj H
             go_enter Try.func10, Try.ntmps10
             try simp only [List.append_eq, List.cons_append, List.nil_append]
             go_wp2_with (first | ((with_reducible refine gate_callee (f := 21) rfl ?_); refine goesL_ (some 1) rfl rfl Try.func21 (by kernel_rfl) rfl #[.int .i64 1001] rfl (by (try simp only [List.map_toArray, List.map_cons, List.map_nil]); first | done | rfl | (simp only [List.length_drop, List.length_take]; rfl)) ?_; (with_reducible refine (wimplelaw0_Num.calls 1001 t115 _ A1.out).mono ?_); rintro e w' ⟨rfl, ⟨nd, rfl⟩⟩; refine ⟨_, rfl, ?_⟩) | (go_at_call 21; (with_reducible refine (wimplelaw0_Num.calls 1100 t116 _ A3.out).mono ?_); rintro e w' ⟨rfl, ⟨nd, rfl⟩⟩) | (go_at_call 21; (with_reducible refine (wimplelaw0_Num.calls 1200 t117 _ A5.out).mono ?_); rintro e w' ⟨rfl, ⟨nd, rfl⟩⟩) | (go_at_call 21; (with_reducible refine (wimplelaw0_Num.calls 1300 t118 _ A7.out).mono ?_); rintro e w' ⟨rfl, ⟨nd, rfl⟩⟩) | (go_at_call 21; (with_reducible refine (wimplelaw0_Num.calls 1301 t119 _ A9.out).mono ?_); rintro e w' ⟨rfl, ⟨nd, rfl⟩⟩) | (go_at_call 21; (with_reducible refine (wimplelaw0_Num.calls 1400 t120 _ A11.out).mono ?_); rintro e w' ⟨rfl, ⟨nd, rfl⟩⟩) | (go_at_call 21; (with_reducible refine (wimplelaw0_Num.calls 1401 t121 _ A13.out).mono ?_); rintro e w' ⟨rfl, ⟨nd, rfl⟩⟩) | (go_at_call 21; (with_reducible refine (wimplelaw0_Num.calls 1500 t122 _ A15.out).mono ?_); rintro e w' ⟨rfl, ⟨nd, rfl⟩⟩) | (go_at_call 21; (with_reducible refine (wimplelaw0_Num.calls 1600 t123 _ A17.out).mono ?_); rintro e w' ⟨rfl, ⟨nd, rfl⟩⟩) | (go_at_call 21; (with_reducible refine (wimplelaw0_Num.calls 1700 t124 _ A19.out).mono ?_); rintro e w' ⟨rfl, ⟨nd, rfl⟩⟩) | (go_at_call 21; (with_reducible refine (wimplelaw0_Num.calls 1800 t125 _ A21.out).mono ?_); rintro e w' ⟨rfl, ⟨nd, rfl⟩⟩) | (go_at_call 21; (with_reducible refine (wimplelaw0_Num.calls 1801 t126 _ A23.out).mono ?_); rintro e w' ⟨rfl, ⟨nd, rfl⟩⟩))
             go_ret
             exact ⟨by first | rfl | (simp; done) | (simp [*]; done), by repeat (first | exact Drawn0.refl _ | apply Drawn0.step)⟩
           ·rw [if_neg c22] at H
            have c22b0 : (t125 == 1800) = false := beq_eq_false_iff_ne.mpr c22
            have c22b1 : (t125 != 1800) = true := bne_iff_ne.mpr c22
            obtain rfl := Option.some.inj H
            go_enter Try.func10, Try.ntmps10
            try simp only [List.append_eq, List.cons_append, List.nil_append]
            go_wp2_with (first | ((with_reducible refine gate_callee (f := 21) rfl ?_); refine goesL_ (some 1) rfl rfl Try.func21 (by kernel_rfl) rfl #[.int .i64 1001] rfl (by (try simp only [List.map_toArray, List.map_cons, List.map_nil]); first | done | rfl | (simp only [List.length_drop, List.length_take]; rfl)) ?_; (with_reducible refine (wimplelaw0_Num.calls 1001 t115 _ A1.out).mono ?_); rintro e w' ⟨rfl, ⟨nd, rfl⟩⟩; refine ⟨_, rfl, ?_⟩) | (go_at_call 21; (with_reducible refine (wimplelaw0_Num.calls 1100 t116 _ A3.out).mono ?_); rintro e w' ⟨rfl, ⟨nd, rfl⟩⟩) | (go_at_call 21; (with_reducible refine (wimplelaw0_Num.calls 1200 t117 _ A5.out).mono ?_); rintro e w' ⟨rfl, ⟨nd, rfl⟩⟩) | (go_at_call 21; (with_reducible refine (wimplelaw0_Num.calls 1300 t118 _ A7.out).mono ?_); rintro e w' ⟨rfl, ⟨nd, rfl⟩⟩) | (go_at_call 21; (with_reducible refine (wimplelaw0_Num.calls 1301 t119 _ A9.out).mono ?_); rintro e w' ⟨rfl, ⟨nd, rfl⟩⟩) | (go_at_call 21; (with_reducible refine (wimplelaw0_Num.calls 1400 t120 _ A11.out).mono ?_); rintro e w' ⟨rfl, ⟨nd, rfl⟩⟩) | (go_at_call 21; (with_reducible refine (wimplelaw0_Num.calls 1401 t121 _ A13.out).mono ?_); rintro e w' ⟨rfl, ⟨nd, rfl⟩⟩) | (go_at_call 21; (with_reducible refine (wimplelaw0_Num.calls 1500 t122 _ A15.out).mono ?_); rintro e w' ⟨rfl, ⟨nd, rfl⟩⟩) | (go_at_call 21; (with_reducible refine (wimplelaw0_Num.calls 1600 t123 _ A17.out).mono ?_); rintro e w' ⟨rfl, ⟨nd, rfl⟩⟩) | (go_at_call 21; (with_reducible refine (wimplelaw0_Num.calls 1700 t124 _ A19.out).mono ?_); rintro e w' ⟨rfl, ⟨nd, rfl⟩⟩) | (go_at_call 21; (with_reducible refine (wimplelaw0_Num.calls 1800 t125 _ A21.out).mono ?_); rintro e w' ⟨rfl, ⟨nd, rfl⟩⟩))
            go_ret
            exact ⟨by first | rfl | (simp; done) | (simp [*]; done), by repeat (first | exact Drawn0.refl _ | apply Drawn0.step)⟩
          ·rw [if_neg c20] at H
           have c20b0 : (t124 == 1700) = false := beq_eq_false_iff_ne.mpr c20
           have c20b1 : (t124 != 1700) = true := bne_iff_ne.mpr c20
           obtain rfl := Option.some.inj H
           go_enter Try.func10, Try.ntmps10
           try simp only [List.append_eq, List.cons_append, List.nil_append]
           go_wp2_with (first | ((with_reducible refine gate_callee (f := 21) rfl ?_); refine goesL_ (some 1) rfl rfl Try.func21 (by kernel_rfl) rfl #[.int .i64 1001] rfl (by (try simp only [List.map_toArray, List.map_cons, List.map_nil]); first | done | rfl | (simp only [List.length_drop, List.length_take]; rfl)) ?_; (with_reducible refine (wimplelaw0_Num.calls 1001 t115 _ A1.out).mono ?_); rintro e w' ⟨rfl, ⟨nd, rfl⟩⟩; refine ⟨_, rfl, ?_⟩) | (go_at_call 21; (with_reducible refine (wimplelaw0_Num.calls 1100 t116 _ A3.out).mono ?_); rintro e w' ⟨rfl, ⟨nd, rfl⟩⟩) | (go_at_call 21; (with_reducible refine (wimplelaw0_Num.calls 1200 t117 _ A5.out).mono ?_); rintro e w' ⟨rfl, ⟨nd, rfl⟩⟩) | (go_at_call 21; (with_reducible refine (wimplelaw0_Num.calls 1300 t118 _ A7.out).mono ?_); rintro e w' ⟨rfl, ⟨nd, rfl⟩⟩) | (go_at_call 21; (with_reducible refine (wimplelaw0_Num.calls 1301 t119 _ A9.out).mono ?_); rintro e w' ⟨rfl, ⟨nd, rfl⟩⟩) | (go_at_call 21; (with_reducible refine (wimplelaw0_Num.calls 1400 t120 _ A11.out).mono ?_); rintro e w' ⟨rfl, ⟨nd, rfl⟩⟩) | (go_at_call 21; (with_reducible refine (wimplelaw0_Num.calls 1401 t121 _ A13.out).mono ?_); rintro e w' ⟨rfl, ⟨nd, rfl⟩⟩) | (go_at_call 21; (with_reducible refine (wimplelaw0_Num.calls 1500 t122 _ A15.out).mono ?_); rintro e w' ⟨rfl, ⟨nd, rfl⟩⟩) | (go_at_call 21; (with_reducible refine (wimplelaw0_Num.calls 1600 t123 _ A17.out).mono ?_); rintro e w' ⟨rfl, ⟨nd, rfl⟩⟩) | (go_at_call 21; (with_reducible refine (wimplelaw0_Num.calls 1700 t124 _ A19.out).mono ?_); rintro e w' ⟨rfl, ⟨nd, rfl⟩⟩))
           go_ret
           exact ⟨by first | rfl | (simp; done) | (simp [*]; done), by repeat (first | exact Drawn0.refl _ | apply Drawn0.step)⟩
         ·rw [if_neg c18] at H
          have c18b0 : (t123 == 1600) = false := beq_eq_false_iff_ne.mpr c18
          have c18b1 : (t123 != 1600) = true := bne_iff_ne.mpr c18
          obtain rfl := Option.some.inj H
          go_enter Try.func10, Try.ntmps10
          try simp only [List.append_eq, List.cons_append, List.nil_append]
          go_wp2_with (first | ((with_reducible refine gate_callee (f := 21) rfl ?_); refine goesL_ (some 1) rfl rfl Try.func21 (by kernel_rfl) rfl #[.int .i64 1001] rfl (by (try simp only [List.map_toArray, List.map_cons, List.map_nil]); first | done | rfl | (simp only [List.length_drop, List.length_take]; rfl)) ?_; (with_reducible refine (wimplelaw0_Num.calls 1001 t115 _ A1.out).mono ?_); rintro e w' ⟨rfl, ⟨nd, rfl⟩⟩; refine ⟨_, rfl, ?_⟩) | (go_at_call 21; (with_reducible refine (wimplelaw0_Num.calls 1100 t116 _ A3.out).mono ?_); rintro e w' ⟨rfl, ⟨nd, rfl⟩⟩) | (go_at_call 21; (with_reducible refine (wimplelaw0_Num.calls 1200 t117 _ A5.out).mono ?_); rintro e w' ⟨rfl, ⟨nd, rfl⟩⟩) | (go_at_call 21; (with_reducible refine (wimplelaw0_Num.calls 1300 t118 _ A7.out).mono ?_); rintro e w' ⟨rfl, ⟨nd, rfl⟩⟩) | (go_at_call 21; (with_reducible refine (wimplelaw0_Num.calls 1301 t119 _ A9.out).mono ?_); rintro e w' ⟨rfl, ⟨nd, rfl⟩⟩) | (go_at_call 21; (with_reducible refine (wimplelaw0_Num.calls 1400 t120 _ A11.out).mono ?_); rintro e w' ⟨rfl, ⟨nd, rfl⟩⟩) | (go_at_call 21; (with_reducible refine (wimplelaw0_Num.calls 1401 t121 _ A13.out).mono ?_); rintro e w' ⟨rfl, ⟨nd, rfl⟩⟩) | (go_at_call 21; (with_reducible refine (wimplelaw0_Num.calls 1500 t122 _ A15.out).mono ?_); rintro e w' ⟨rfl, ⟨nd, rfl⟩⟩) | (go_at_call 21; (with_reducible refine (wimplelaw0_Num.calls 1600 t123 _ A17.out).mono ?_); rintro e w' ⟨rfl, ⟨nd, rfl⟩⟩))
          go_ret
          exact ⟨by first | rfl | (simp; done) | (simp [*]; done), by repeat (first | exact Drawn0.refl _ | apply Drawn0.step)⟩
        ·rw [if_neg c16] at H
         have c16b0 : (t122 == 1500) = false := beq_eq_false_iff_ne.mpr c16
         have c16b1 : (t122 != 1500) = true := bne_iff_ne.mpr c16
         obtain rfl := Option.some.inj H
         go_enter Try.func10, Try.ntmps10
         try simp only [List.append_eq, List.cons_append, List.nil_append]
         go_wp2_with (first | ((with_reducible refine gate_callee (f := 21) rfl ?_); refine goesL_ (some 1) rfl rfl Try.func21 (by kernel_rfl) rfl #[.int .i64 1001] rfl (by (try simp only [List.map_toArray, List.map_cons, List.map_nil]); first | done | rfl | (simp only [List.length_drop, List.length_take]; rfl)) ?_; (with_reducible refine (wimplelaw0_Num.calls 1001 t115 _ A1.out).mono ?_); rintro e w' ⟨rfl, ⟨nd, rfl⟩⟩; refine ⟨_, rfl, ?_⟩) | (go_at_call 21; (with_reducible refine (wimplelaw0_Num.calls 1100 t116 _ A3.out).mono ?_); rintro e w' ⟨rfl, ⟨nd, rfl⟩⟩) | (go_at_call 21; (with_reducible refine (wimplelaw0_Num.calls 1200 t117 _ A5.out).mono ?_); rintro e w' ⟨rfl, ⟨nd, rfl⟩⟩) | (go_at_call 21; (with_reducible refine (wimplelaw0_Num.calls 1300 t118 _ A7.out).mono ?_); rintro e w' ⟨rfl, ⟨nd, rfl⟩⟩) | (go_at_call 21; (with_reducible refine (wimplelaw0_Num.calls 1301 t119 _ A9.out).mono ?_); rintro e w' ⟨rfl, ⟨nd, rfl⟩⟩) | (go_at_call 21; (with_reducible refine (wimplelaw0_Num.calls 1400 t120 _ A11.out).mono ?_); rintro e w' ⟨rfl, ⟨nd, rfl⟩⟩) | (go_at_call 21; (with_reducible refine (wimplelaw0_Num.calls 1401 t121 _ A13.out).mono ?_); rintro e w' ⟨rfl, ⟨nd, rfl⟩⟩) | (go_at_call 21; (with_reducible refine (wimplelaw0_Num.calls 1500 t122 _ A15.out).mono ?_); rintro e w' ⟨rfl, ⟨nd, rfl⟩⟩))
         go_ret
         exact ⟨by first | rfl | (simp; done) | (simp [*]; done), by repeat (first | exact Drawn0.refl _ | apply Drawn0.step)⟩
       ·rw [if_neg c14] at H
        have c14b0 : (t121 == 1401) = false := beq_eq_false_iff_ne.mpr c14
        have c14b1 : (t121 != 1401) = true := bne_iff_ne.mpr c14
        obtain rfl := Option.some.inj H
        go_enter Try.func10, Try.ntmps10
        try simp only [List.append_eq, List.cons_append, List.nil_append]
        go_wp2_with (first | ((with_reducible refine gate_callee (f := 21) rfl ?_); refine goesL_ (some 1) rfl rfl Try.func21 (by kernel_rfl) rfl #[.int .i64 1001] rfl (by (try simp only [List.map_toArray, List.map_cons, List.map_nil]); first | done | rfl | (simp only [List.length_drop, List.length_take]; rfl)) ?_; (with_reducible refine (wimplelaw0_Num.calls 1001 t115 _ A1.out).mono ?_); rintro e w' ⟨rfl, ⟨nd, rfl⟩⟩; refine ⟨_, rfl, ?_⟩) | (go_at_call 21; (with_reducible refine (wimplelaw0_Num.calls 1100 t116 _ A3.out).mono ?_); rintro e w' ⟨rfl, ⟨nd, rfl⟩⟩) | (go_at_call 21; (with_reducible refine (wimplelaw0_Num.calls 1200 t117 _ A5.out).mono ?_); rintro e w' ⟨rfl, ⟨nd, rfl⟩⟩) | (go_at_call 21; (with_reducible refine (wimplelaw0_Num.calls 1300 t118 _ A7.out).mono ?_); rintro e w' ⟨rfl, ⟨nd, rfl⟩⟩) | (go_at_call 21; (with_reducible refine (wimplelaw0_Num.calls 1301 t119 _ A9.out).mono ?_); rintro e w' ⟨rfl, ⟨nd, rfl⟩⟩) | (go_at_call 21; (with_reducible refine (wimplelaw0_Num.calls 1400 t120 _ A11.out).mono ?_); rintro e w' ⟨rfl, ⟨nd, rfl⟩⟩) | (go_at_call 21; (with_reducible refine (wimplelaw0_Num.calls 1401 t121 _ A13.out).mono ?_); rintro e w' ⟨rfl, ⟨nd, rfl⟩⟩))
        go_ret
        exact ⟨by first | rfl | (simp; done) | (simp [*]; done), by repeat (first | exact Drawn0.refl _ | apply Drawn0.step)⟩
      ·rw [if_neg c12] at H
       have c12b0 : (t120 == 1400) = false := beq_eq_false_iff_ne.mpr c12
       have c12b1 : (t120 != 1400) = true := bne_iff_ne.mpr c12
       obtain rfl := Option.some.inj H
       go_enter Try.func10, Try.ntmps10
       try simp only [List.append_eq, List.cons_append, List.nil_append]
       go_wp2_with (first | ((with_reducible refine gate_callee (f := 21) rfl ?_); refine goesL_ (some 1) rfl rfl Try.func21 (by kernel_rfl) rfl #[.int .i64 1001] rfl (by (try simp only [List.map_toArray, List.map_cons, List.map_nil]); first | done | rfl | (simp only [List.length_drop, List.length_take]; rfl)) ?_; (with_reducible refine (wimplelaw0_Num.calls 1001 t115 _ A1.out).mono ?_); rintro e w' ⟨rfl, ⟨nd, rfl⟩⟩; refine ⟨_, rfl, ?_⟩) | (go_at_call 21; (with_reducible refine (wimplelaw0_Num.calls 1100 t116 _ A3.out).mono ?_); rintro e w' ⟨rfl, ⟨nd, rfl⟩⟩) | (go_at_call 21; (with_reducible refine (wimplelaw0_Num.calls 1200 t117 _ A5.out).mono ?_); rintro e w' ⟨rfl, ⟨nd, rfl⟩⟩) | (go_at_call 21; (with_reducible refine (wimplelaw0_Num.calls 1300 t118 _ A7.out).mono ?_); rintro e w' ⟨rfl, ⟨nd, rfl⟩⟩) | (go_at_call 21; (with_reducible refine (wimplelaw0_Num.calls 1301 t119 _ A9.out).mono ?_); rintro e w' ⟨rfl, ⟨nd, rfl⟩⟩) | (go_at_call 21; (with_reducible refine (wimplelaw0_Num.calls 1400 t120 _ A11.out).mono ?_); rintro e w' ⟨rfl, ⟨nd, rfl⟩⟩))
       go_ret
       exact ⟨by first | rfl | (simp; done) | (simp [*]; done), by repeat (first | exact Drawn0.refl _ | apply Drawn0.step)⟩
     ·rw [if_neg c10] at H
      have c10b0 : (t119 == 1301) = false := beq_eq_false_iff_ne.mpr c10
      have c10b1 : (t119 != 1301) = true := bne_iff_ne.mpr c10
      obtain rfl := Option.some.inj H
      go_enter Try.func10, Try.ntmps10
      try simp only [List.append_eq, List.cons_append, List.nil_append]
      go_wp2_with (first | ((with_reducible refine gate_callee (f := 21) rfl ?_); refine goesL_ (some 1) rfl rfl Try.func21 (by kernel_rfl) rfl #[.int .i64 1001] rfl (by (try simp only [List.map_toArray, List.map_cons, List.map_nil]); first | done | rfl | (simp only [List.length_drop, List.length_take]; rfl)) ?_; (with_reducible refine (wimplelaw0_Num.calls 1001 t115 _ A1.out).mono ?_); rintro e w' ⟨rfl, ⟨nd, rfl⟩⟩; refine ⟨_, rfl, ?_⟩) | (go_at_call 21; (with_reducible refine (wimplelaw0_Num.calls 1100 t116 _ A3.out).mono ?_); rintro e w' ⟨rfl, ⟨nd, rfl⟩⟩) | (go_at_call 21; (with_reducible refine (wimplelaw0_Num.calls 1200 t117 _ A5.out).mono ?_); rintro e w' ⟨rfl, ⟨nd, rfl⟩⟩) | (go_at_call 21; (with_reducible refine (wimplelaw0_Num.calls 1300 t118 _ A7.out).mono ?_); rintro e w' ⟨rfl, ⟨nd, rfl⟩⟩) | (go_at_call 21; (with_reducible refine (wimplelaw0_Num.calls 1301 t119 _ A9.out).mono ?_); rintro e w' ⟨rfl, ⟨nd, rfl⟩⟩))
      go_ret
      exact ⟨by first | rfl | (simp; done) | (simp [*]; done), by repeat (first | exact Drawn0.refl _ | apply Drawn0.step)⟩
    ·rw [if_neg c8] at H
     have c8b0 : (t118 == 1300) = false := beq_eq_false_iff_ne.mpr c8
     have c8b1 : (t118 != 1300) = true := bne_iff_ne.mpr c8
     obtain rfl := Option.some.inj H
     go_enter Try.func10, Try.ntmps10
     try simp only [List.append_eq, List.cons_append, List.nil_append]
     go_wp2_with (first | ((with_reducible refine gate_callee (f := 21) rfl ?_); refine goesL_ (some 1) rfl rfl Try.func21 (by kernel_rfl) rfl #[.int .i64 1001] rfl (by (try simp only [List.map_toArray, List.map_cons, List.map_nil]); first | done | rfl | (simp only [List.length_drop, List.length_take]; rfl)) ?_; (with_reducible refine (wimplelaw0_Num.calls 1001 t115 _ A1.out).mono ?_); rintro e w' ⟨rfl, ⟨nd, rfl⟩⟩; refine ⟨_, rfl, ?_⟩) | (go_at_call 21; (with_reducible refine (wimplelaw0_Num.calls 1100 t116 _ A3.out).mono ?_); rintro e w' ⟨rfl, ⟨nd, rfl⟩⟩) | (go_at_call 21; (with_reducible refine (wimplelaw0_Num.calls 1200 t117 _ A5.out).mono ?_); rintro e w' ⟨rfl, ⟨nd, rfl⟩⟩) | (go_at_call 21; (with_reducible refine (wimplelaw0_Num.calls 1300 t118 _ A7.out).mono ?_); rintro e w' ⟨rfl, ⟨nd, rfl⟩⟩))
     go_ret
     exact ⟨by first | rfl | (simp; done) | (simp [*]; done), by repeat (first | exact Drawn0.refl _ | apply Drawn0.step)⟩
   ·rw [if_neg c6] at H
    have c6b0 : (t117 == 1200) = false := beq_eq_false_iff_ne.mpr c6
    have c6b1 : (t117 != 1200) = true := bne_iff_ne.mpr c6
    obtain rfl := Option.some.inj H
    go_enter Try.func10, Try.ntmps10
    try simp only [List.append_eq, List.cons_append, List.nil_append]
    go_wp2_with (first | ((with_reducible refine gate_callee (f := 21) rfl ?_); refine goesL_ (some 1) rfl rfl Try.func21 (by kernel_rfl) rfl #[.int .i64 1001] rfl (by (try simp only [List.map_toArray, List.map_cons, List.map_nil]); first | done | rfl | (simp only [List.length_drop, List.length_take]; rfl)) ?_; (with_reducible refine (wimplelaw0_Num.calls 1001 t115 _ A1.out).mono ?_); rintro e w' ⟨rfl, ⟨nd, rfl⟩⟩; refine ⟨_, rfl, ?_⟩) | (go_at_call 21; (with_reducible refine (wimplelaw0_Num.calls 1100 t116 _ A3.out).mono ?_); rintro e w' ⟨rfl, ⟨nd, rfl⟩⟩) | (go_at_call 21; (with_reducible refine (wimplelaw0_Num.calls 1200 t117 _ A5.out).mono ?_); rintro e w' ⟨rfl, ⟨nd, rfl⟩⟩))
    go_ret
    exact ⟨by first | rfl | (simp; done) | (simp [*]; done), by repeat (first | exact Drawn0.refl _ | apply Drawn0.step)⟩
  ·rw [if_neg c4] at H
   have c4b0 : (t116 == 1100) = false := beq_eq_false_iff_ne.mpr c4
   have c4b1 : (t116 != 1100) = true := bne_iff_ne.mpr c4
   obtain rfl := Option.some.inj H
   go_enter Try.func10, Try.ntmps10
   try simp only [List.append_eq, List.cons_append, List.nil_append]
   go_wp2_with (first | ((with_reducible refine gate_callee (f := 21) rfl ?_); refine goesL_ (some 1) rfl rfl Try.func21 (by kernel_rfl) rfl #[.int .i64 1001] rfl (by (try simp only [List.map_toArray, List.map_cons, List.map_nil]); first | done | rfl | (simp only [List.length_drop, List.length_take]; rfl)) ?_; (with_reducible refine (wimplelaw0_Num.calls 1001 t115 _ A1.out).mono ?_); rintro e w' ⟨rfl, ⟨nd, rfl⟩⟩; refine ⟨_, rfl, ?_⟩) | (go_at_call 21; (with_reducible refine (wimplelaw0_Num.calls 1100 t116 _ A3.out).mono ?_); rintro e w' ⟨rfl, ⟨nd, rfl⟩⟩))
   go_ret
   exact ⟨by first | rfl | (simp; done) | (simp [*]; done), by repeat (first | exact Drawn0.refl _ | apply Drawn0.step)⟩
 ·rw [if_neg c2] at H
  have c2b0 : (t115 == 1001) = false := beq_eq_false_iff_ne.mpr c2
  have c2b1 : (t115 != 1001) = true := bne_iff_ne.mpr c2
  obtain rfl := Option.some.inj H
  go_enter Try.func10, Try.ntmps10
  try simp only [List.append_eq, List.cons_append, List.nil_append]
  go_wp2_with (first | ((with_reducible refine gate_callee (f := 21) rfl ?_); refine goesL_ (some 1) rfl rfl Try.func21 (by kernel_rfl) rfl #[.int .i64 1001] rfl (by (try simp only [List.map_toArray, List.map_cons, List.map_nil]); first | done | rfl | (simp only [List.length_drop, List.length_take]; rfl)) ?_; (with_reducible refine (wimplelaw0_Num.calls 1001 t115 _ A1.out).mono ?_); rintro e w' ⟨rfl, ⟨nd, rfl⟩⟩; refine ⟨_, rfl, ?_⟩))
  go_ret
  exact ⟨by first | rfl | (simp; done) | (simp [*]; done), by repeat (first | exact Drawn0.refl _ | apply Drawn0.step)⟩

end Go.Proofs.Ytjmdfhbenejfgaa.P
