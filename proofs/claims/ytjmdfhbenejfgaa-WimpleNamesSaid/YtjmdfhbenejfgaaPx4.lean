-- Written by a program of this session's prover (over the kit's printer, with contracts of the session's own); Lean checks it.
import Derived.Test.YtjmdfhbenejfgaaPx0
import Derived.Test.YtjmdfhbenejfgaaPx1
namespace Go.Proofs.Ytjmdfhbenejfgaa.P
open Go.RowKit Go.Proofs.YtjmdfhbenejfgaaW.PrintWords Go.Proofs.YtjmdfhbenejfgaaW.PrintLast Go.Proofs.YtjmdfhbenejfgaaW.PrintMore
attribute [local go_sem] max2_int min2_int max_two min_two max_three min_three max_four min_four   -- for this text's walks alone
set_option linter.unusedVariables false
set_option linter.unusedSimpArgs false

/-! ### wimplelaw0_errors3: function 11 -/
def wimplelaw0_errors3.f  : Option (Bool) := (wimplelaw0_Num.f 1902).bind fun t129 => (if t129 = 1902 then ((wimplelaw0_Num.f 2000).bind fun t130 => (if t130 = 2000 then ((wimplelaw0_Num.f 2100).bind fun t131 => (if t131 = 2100 then ((wimplelaw0_Num.f 2200).bind fun t132 => (if t132 = 2200 then ((wimplelaw0_Num.f 2300).bind fun t133 => (if t133 = 2300 then ((wimplelaw0_Num.f 2400).bind fun t134 => (if t134 = 2400 then ((wimplelaw0_Num.f 2401).bind fun t135 => (if t135 = 2401 then ((wimplelaw0_Num.f 2500).bind fun t136 => (if t136 = 2500 then ((wimplelaw0_Num.f 2600).bind fun t137 => (if t137 = 2600 then ((wimplelaw0_Num.f 2700).bind fun t138 => (if t138 = 2700 then ((wimplelaw0_Num.f 2800).bind fun t139 => (if t139 = 2800 then ((wimplelaw0_Num.f 2801).bind fun t140 => (some (t140 == 2801))) else (some false))) else (some false))) else (some false))) else (some false))) else (some false))) else (some false))) else (some false))) else (some false))) else (some false))) else (some false))) else (some false))
set_option maxHeartbeats 8000000 in
set_option maxRecDepth 100000 in
theorem wimplelaw0_errors3.calls  (r : Bool) (w : World) (h : wimplelaw0_errors3.f  = some r) :
  Calls Try.prog 11 #[] w fun e w' => e = .returned (.bool r) ∧ Drawn0 w w' := by
 have H : ((wimplelaw0_Num.f 1902).bind fun t129 => (if t129 = 1902 then ((wimplelaw0_Num.f 2000).bind fun t130 => (if t130 = 2000 then ((wimplelaw0_Num.f 2100).bind fun t131 => (if t131 = 2100 then ((wimplelaw0_Num.f 2200).bind fun t132 => (if t132 = 2200 then ((wimplelaw0_Num.f 2300).bind fun t133 => (if t133 = 2300 then ((wimplelaw0_Num.f 2400).bind fun t134 => (if t134 = 2400 then ((wimplelaw0_Num.f 2401).bind fun t135 => (if t135 = 2401 then ((wimplelaw0_Num.f 2500).bind fun t136 => (if t136 = 2500 then ((wimplelaw0_Num.f 2600).bind fun t137 => (if t137 = 2600 then ((wimplelaw0_Num.f 2700).bind fun t138 => (if t138 = 2700 then ((wimplelaw0_Num.f 2800).bind fun t139 => (if t139 = 2800 then ((wimplelaw0_Num.f 2801).bind fun t140 => (some (t140 == 2801))) else (some false))) else (some false))) else (some false))) else (some false))) else (some false))) else (some false))) else (some false))) else (some false))) else (some false))) else (some false))) else (some false))) = some r := h
 clear h
 replace H := Option.bind_eq_some_iff.mp H
 obtain ⟨t129, A10, H⟩ := H
 replace H : (if t129 = 1902 then ((wimplelaw0_Num.f 2000).bind fun t130 => (if t130 = 2000 then ((wimplelaw0_Num.f 2100).bind fun t131 => (if t131 = 2100 then ((wimplelaw0_Num.f 2200).bind fun t132 => (if t132 = 2200 then ((wimplelaw0_Num.f 2300).bind fun t133 => (if t133 = 2300 then ((wimplelaw0_Num.f 2400).bind fun t134 => (if t134 = 2400 then ((wimplelaw0_Num.f 2401).bind fun t135 => (if t135 = 2401 then ((wimplelaw0_Num.f 2500).bind fun t136 => (if t136 = 2500 then ((wimplelaw0_Num.f 2600).bind fun t137 => (if t137 = 2600 then ((wimplelaw0_Num.f 2700).bind fun t138 => (if t138 = 2700 then ((wimplelaw0_Num.f 2800).bind fun t139 => (if t139 = 2800 then ((wimplelaw0_Num.f 2801).bind fun t140 => (some (t140 == 2801))) else (some false))) else (some false))) else (some false))) else (some false))) else (some false))) else (some false))) else (some false))) else (some false))) else (some false))) else (some false))) else (some false)) = some r := H
 have A1 := Aside0.mk A10
 clear A10
 by_cases c2 : t129 = 1902
 ·rw [if_pos c2] at H
  have c2b0 : (t129 == 1902) = true := beq_iff_eq.mpr c2
  have c2b1 : (t129 != 1902) = false := bne_eq_false_iff_eq.mpr c2
  clear c2
  replace H := Option.bind_eq_some_iff.mp H
  obtain ⟨t130, A30, H⟩ := H
  replace H : (if t130 = 2000 then ((wimplelaw0_Num.f 2100).bind fun t131 => (if t131 = 2100 then ((wimplelaw0_Num.f 2200).bind fun t132 => (if t132 = 2200 then ((wimplelaw0_Num.f 2300).bind fun t133 => (if t133 = 2300 then ((wimplelaw0_Num.f 2400).bind fun t134 => (if t134 = 2400 then ((wimplelaw0_Num.f 2401).bind fun t135 => (if t135 = 2401 then ((wimplelaw0_Num.f 2500).bind fun t136 => (if t136 = 2500 then ((wimplelaw0_Num.f 2600).bind fun t137 => (if t137 = 2600 then ((wimplelaw0_Num.f 2700).bind fun t138 => (if t138 = 2700 then ((wimplelaw0_Num.f 2800).bind fun t139 => (if t139 = 2800 then ((wimplelaw0_Num.f 2801).bind fun t140 => (some (t140 == 2801))) else (some false))) else (some false))) else (some false))) else (some false))) else (some false))) else (some false))) else (some false))) else (some false))) else (some false))) else (some false)) = some r := H
  have A3 := Aside0.mk A30
  clear A30
  by_cases c4 : t130 = 2000
  ·rw [if_pos c4] at H
   have c4b0 : (t130 == 2000) = true := beq_iff_eq.mpr c4
   have c4b1 : (t130 != 2000) = false := bne_eq_false_iff_eq.mpr c4
   clear c4
   replace H := Option.bind_eq_some_iff.mp H
   obtain ⟨t131, A50, H⟩ := H
   replace H : (if t131 = 2100 then ((wimplelaw0_Num.f 2200).bind fun t132 => (if t132 = 2200 then ((wimplelaw0_Num.f 2300).bind fun t133 => (if t133 = 2300 then ((wimplelaw0_Num.f 2400).bind fun t134 => (if t134 = 2400 then ((wimplelaw0_Num.f 2401).bind fun t135 => (if t135 = 2401 then ((wimplelaw0_Num.f 2500).bind fun t136 => (if t136 = 2500 then ((wimplelaw0_Num.f 2600).bind fun t137 => (if t137 = 2600 then ((wimplelaw0_Num.f 2700).bind fun t138 => (if t138 = 2700 then ((wimplelaw0_Num.f 2800).bind fun t139 => (if t139 = 2800 then ((wimplelaw0_Num.f 2801).bind fun t140 => (some (t140 == 2801))) else (some false))) else (some false))) else (some false))) else (some false))) else (some false))) else (some false))) else (some false))) else (some false))) else (some false)) = some r := H
   have A5 := Aside0.mk A50
   clear A50
   by_cases c6 : t131 = 2100
   ·rw [if_pos c6] at H
    have c6b0 : (t131 == 2100) = true := beq_iff_eq.mpr c6
    have c6b1 : (t131 != 2100) = false := bne_eq_false_iff_eq.mpr c6
    clear c6
    replace H := Option.bind_eq_some_iff.mp H
    obtain ⟨t132, A70, H⟩ := H
    replace H : (if t132 = 2200 then ((wimplelaw0_Num.f 2300).bind fun t133 => (if t133 = 2300 then ((wimplelaw0_Num.f 2400).bind fun t134 => (if t134 = 2400 then ((wimplelaw0_Num.f 2401).bind fun t135 => (if t135 = 2401 then ((wimplelaw0_Num.f 2500).bind fun t136 => (if t136 = 2500 then ((wimplelaw0_Num.f 2600).bind fun t137 => (if t137 = 2600 then ((wimplelaw0_Num.f 2700).bind fun t138 => (if t138 = 2700 then ((wimplelaw0_Num.f 2800).bind fun t139 => (if t139 = 2800 then ((wimplelaw0_Num.f 2801).bind fun t140 => (some (t140 == 2801))) else (some false))) else (some false))) else (some false))) else (some false))) else (some false))) else (some false))) else (some false))) else (some false)) = some r := H
    have A7 := Aside0.mk A70
    clear A70
    by_cases c8 : t132 = 2200
    ·rw [if_pos c8] at H
     have c8b0 : (t132 == 2200) = true := beq_iff_eq.mpr c8
     have c8b1 : (t132 != 2200) = false := bne_eq_false_iff_eq.mpr c8
     clear c8
     replace H := Option.bind_eq_some_iff.mp H
     obtain ⟨t133, A90, H⟩ := H
     replace H : (if t133 = 2300 then ((wimplelaw0_Num.f 2400).bind fun t134 => (if t134 = 2400 then ((wimplelaw0_Num.f 2401).bind fun t135 => (if t135 = 2401 then ((wimplelaw0_Num.f 2500).bind fun t136 => (if t136 = 2500 then ((wimplelaw0_Num.f 2600).bind fun t137 => (if t137 = 2600 then ((wimplelaw0_Num.f 2700).bind fun t138 => (if t138 = 2700 then ((wimplelaw0_Num.f 2800).bind fun t139 => (if t139 = 2800 then ((wimplelaw0_Num.f 2801).bind fun t140 => (some (t140 == 2801))) else (some false))) else (some false))) else (some false))) else (some false))) else (some false))) else (some false))) else (some false)) = some r := H
     have A9 := Aside0.mk A90
     clear A90
     by_cases c10 : t133 = 2300
     ·rw [if_pos c10] at H
      have c10b0 : (t133 == 2300) = true := beq_iff_eq.mpr c10
      have c10b1 : (t133 != 2300) = false := bne_eq_false_iff_eq.mpr c10
      clear c10
      replace H := Option.bind_eq_some_iff.mp H
      obtain ⟨t134, A110, H⟩ := H
      replace H : (if t134 = 2400 then ((wimplelaw0_Num.f 2401).bind fun t135 => (if t135 = 2401 then ((wimplelaw0_Num.f 2500).bind fun t136 => (if t136 = 2500 then ((wimplelaw0_Num.f 2600).bind fun t137 => (if t137 = 2600 then ((wimplelaw0_Num.f 2700).bind fun t138 => (if t138 = 2700 then ((wimplelaw0_Num.f 2800).bind fun t139 => (if t139 = 2800 then ((wimplelaw0_Num.f 2801).bind fun t140 => (some (t140 == 2801))) else (some false))) else (some false))) else (some false))) else (some false))) else (some false))) else (some false)) = some r := H
      have A11 := Aside0.mk A110
      clear A110
      by_cases c12 : t134 = 2400
      ·rw [if_pos c12] at H
       have c12b0 : (t134 == 2400) = true := beq_iff_eq.mpr c12
       have c12b1 : (t134 != 2400) = false := bne_eq_false_iff_eq.mpr c12
       clear c12
       replace H := Option.bind_eq_some_iff.mp H
       obtain ⟨t135, A130, H⟩ := H
       replace H : (if t135 = 2401 then ((wimplelaw0_Num.f 2500).bind fun t136 => (if t136 = 2500 then ((wimplelaw0_Num.f 2600).bind fun t137 => (if t137 = 2600 then ((wimplelaw0_Num.f 2700).bind fun t138 => (if t138 = 2700 then ((wimplelaw0_Num.f 2800).bind fun t139 => (if t139 = 2800 then ((wimplelaw0_Num.f 2801).bind fun t140 => (some (t140 == 2801))) else (some false))) else (some false))) else (some false))) else (some false))) else (some false)) = some r := H
       have A13 := Aside0.mk A130
       clear A130
       by_cases c14 : t135 = 2401
       ·rw [if_pos c14] at H
        have c14b0 : (t135 == 2401) = true := beq_iff_eq.mpr c14
        have c14b1 : (t135 != 2401) = false := bne_eq_false_iff_eq.mpr c14
        clear c14
        replace H := Option.bind_eq_some_iff.mp H
        obtain ⟨t136, A150, H⟩ := H
        replace H : (if t136 = 2500 then ((wimplelaw0_Num.f 2600).bind fun t137 => (if t137 = 2600 then ((wimplelaw0_Num.f 2700).bind fun t138 => (if t138 = 2700 then ((wimplelaw0_Num.f 2800).bind fun t139 => (if t139 = 2800 then ((wimplelaw0_Num.f 2801).bind fun t140 => (some (t140 == 2801))) else (some false))) else (some false))) else (some false))) else (some false)) = some r := H
        have A15 := Aside0.mk A150
        clear A150
        by_cases c16 : t136 = 2500
        ·rw [if_pos c16] at H
         have c16b0 : (t136 == 2500) = true := beq_iff_eq.mpr c16
         have c16b1 : (t136 != 2500) = false := bne_eq_false_iff_eq.mpr c16
         clear c16
         replace H := Option.bind_eq_some_iff.mp H
         obtain ⟨t137, A170, H⟩ := H
         replace H : (if t137 = 2600 then ((wimplelaw0_Num.f 2700).bind fun t138 => (if t138 = 2700 then ((wimplelaw0_Num.f 2800).bind fun t139 => (if t139 = 2800 then ((wimplelaw0_Num.f 2801).bind fun t140 => (some (t140 == 2801))) else (some false))) else (some false))) else (some false)) = some r := H
         have A17 := Aside0.mk A170
         clear A170
         by_cases c18 : t137 = 2600
         ·rw [if_pos c18] at H
          have c18b0 : (t137 == 2600) = true := beq_iff_eq.mpr c18
          have c18b1 : (t137 != 2600) = false := bne_eq_false_iff_eq.mpr c18
          clear c18
          replace H := Option.bind_eq_some_iff.mp H
          obtain ⟨t138, A190, H⟩ := H
          replace H : (if t138 = 2700 then ((wimplelaw0_Num.f 2800).bind fun t139 => (if t139 = 2800 then ((wimplelaw0_Num.f 2801).bind fun t140 => (some (t140 == 2801))) else (some false))) else (some false)) = some r := H
          have A19 := Aside0.mk A190
          clear A190
          by_cases c20 : t138 = 2700
          ·rw [if_pos c20] at H
           have c20b0 : (t138 == 2700) = true := beq_iff_eq.mpr c20
           have c20b1 : (t138 != 2700) = false := bne_eq_false_iff_eq.mpr c20
           clear c20
           replace H := Option.bind_eq_some_iff.mp H
           obtain ⟨t139, A210, H⟩ := H
           replace H : (if t139 = 2800 then ((wimplelaw0_Num.f 2801).bind fun t140 => (some (t140 == 2801))) else (some false)) = some r := H
           have A21 := Aside0.mk A210
           clear A210
           by_cases c22 : t139 = 2800
           ·rw [if_pos c22] at H
            have c22b0 : (t139 == 2800) = true := beq_iff_eq.mpr c22
            have c22b1 : (t139 != 2800) = false := bne_eq_false_iff_eq.mpr c22
            clear c22
            replace H := Option.bind_eq_some_iff.mp H
            obtain ⟨t140, A230, H⟩ := H
            replace H : (some (t140 == 2801)) = some r := H
            have A23 := Aside0.mk A230
            clear A230
            obtain rfl := Option.some.inj H
            go_enter Try.func11, Try.ntmps11
            try simp only [List.append_eq, List.cons_append, List.nil_append]
            go_wp2_with (first | ((with_reducible refine gate_callee (f := 21) rfl ?_); refine goesL_ (some 1) rfl rfl Try.func21 (by kernel_rfl) rfl #[.int .i64 1902] rfl (by (try simp only [List.map_toArray, List.map_cons, List.map_nil]); first | done | rfl | (simp only [List.length_drop, List.length_take]; rfl)) ?_; (with_reducible refine (wimplelaw0_Num.calls 1902 t129 _ A1.out).mono ?_); rintro e w' ⟨rfl, ⟨nd, rfl⟩⟩; refine ⟨_, rfl, ?_⟩) | (go_at_call 21; (with_reducible refine (wimplelaw0_Num.calls 2000 t130 _ A3.out).mono ?_); rintro e w' ⟨rfl, ⟨nd, rfl⟩⟩) | (go_at_call 21; (with_reducible refine (wimplelaw0_Num.calls 2100 t131 _ A5.out).mono ?_); rintro e w' ⟨rfl, ⟨nd, rfl⟩⟩) | (go_at_call 21; (with_reducible refine (wimplelaw0_Num.calls 2200 t132 _ A7.out).mono ?_); rintro e w' ⟨rfl, ⟨nd, rfl⟩⟩) | (go_at_call 21; (with_reducible refine (wimplelaw0_Num.calls 2300 t133 _ A9.out).mono ?_); rintro e w' ⟨rfl, ⟨nd, rfl⟩⟩) | (go_at_call 21; (with_reducible refine (wimplelaw0_Num.calls 2400 t134 _ A11.out).mono ?_); rintro e w' ⟨rfl, ⟨nd, rfl⟩⟩) | (go_at_call 21; (with_reducible refine (wimplelaw0_Num.calls 2401 t135 _ A13.out).mono ?_); rintro e w' ⟨rfl, ⟨nd, rfl⟩⟩) | (go_at_call 21; (with_reducible refine (wimplelaw0_Num.calls 2500 t136 _ A15.out).mono ?_); rintro e w' ⟨rfl, ⟨nd, rfl⟩⟩) | (go_at_call 21; (with_reducible refine (wimplelaw0_Num.calls 2600 t137 _ A17.out).mono ?_); rintro e w' ⟨rfl, ⟨nd, rfl⟩⟩) | (go_at_call 21; (with_reducible refine (wimplelaw0_Num.calls 2700 t138 _ A19.out).mono ?_); rintro e w' ⟨rfl, ⟨nd, rfl⟩⟩) | (go_at_call 21; (with_reducible refine (wimplelaw0_Num.calls 2800 t139 _ A21.out).mono ?_); rintro e w' ⟨rfl, ⟨nd, rfl⟩⟩) | (go_at_call 21; (with_reducible refine (wimplelaw0_Num.calls 2801 t140 _ A23.out).mono ?_); rintro e w' ⟨rfl, ⟨nd, rfl⟩⟩))
            go_ret
            exact ⟨by first | rfl | (simp; done) | (simp [*]; done), by repeat (first | exact Drawn0.refl _ | apply Drawn0.step)⟩
           ·rw [if_neg c22] at H
            have c22b0 : (t139 == 2800) = false := beq_eq_false_iff_ne.mpr c22
            have c22b1 : (t139 != 2800) = true := bne_iff_ne.mpr c22
            obtain rfl := Option.some.inj H
            go_enter Try.func11, Try.ntmps11
            try simp only [List.append_eq, List.cons_append, List.nil_append]
            go_wp2_with (first | ((with_reducible refine gate_callee (f := 21) rfl ?_); refine goesL_ (some 1) rfl rfl Try.func21 (by kernel_rfl) rfl #[.int .i64 1902] rfl (by (try simp only [List.map_toArray, List.map_cons, List.map_nil]); first | done | rfl | (simp only [List.length_drop, List.length_take]; rfl)) ?_; (with_reducible refine (wimplelaw0_Num.calls 1902 t129 _ A1.out).mono ?_); rintro e w' ⟨rfl, ⟨nd, rfl⟩⟩; refine ⟨_, rfl, ?_⟩) | (go_at_call 21; (with_reducible refine (wimplelaw0_Num.calls 2000 t130 _ A3.out).mono ?_); rintro e w' ⟨rfl, ⟨nd, rfl⟩⟩) | (go_at_call 21; (with_reducible refine (wimplelaw0_Num.calls 2100 t131 _ A5.out).mono ?_); rintro e w' ⟨rfl, ⟨nd, rfl⟩⟩) | (go_at_call 21; (with_reducible refine (wimplelaw0_Num.calls 2200 t132 _ A7.out).mono ?_); rintro e w' ⟨rfl, ⟨nd, rfl⟩⟩) | (go_at_call 21; (with_reducible refine (wimplelaw0_Num.calls 2300 t133 _ A9.out).mono ?_); rintro e w' ⟨rfl, ⟨nd, rfl⟩⟩) | (go_at_call 21; (with_reducible refine (wimplelaw0_Num.calls 2400 t134 _ A11.out).mono ?_); rintro e w' ⟨rfl, ⟨nd, rfl⟩⟩) | (go_at_call 21; (with_reducible refine (wimplelaw0_Num.calls 2401 t135 _ A13.out).mono ?_); rintro e w' ⟨rfl, ⟨nd, rfl⟩⟩) | (go_at_call 21; (with_reducible refine (wimplelaw0_Num.calls 2500 t136 _ A15.out).mono ?_); rintro e w' ⟨rfl, ⟨nd, rfl⟩⟩) | (go_at_call 21; (with_reducible refine (wimplelaw0_Num.calls 2600 t137 _ A17.out).mono ?_); rintro e w' ⟨rfl, ⟨nd, rfl⟩⟩) | (go_at_call 21; (with_reducible refine (wimplelaw0_Num.calls 2700 t138 _ A19.out).mono ?_); rintro e w' ⟨rfl, ⟨nd, rfl⟩⟩) | (go_at_call 21; (with_reducible refine (wimplelaw0_Num.calls 2800 t139 _ A21.out).mono ?_); rintro e w' ⟨rfl, ⟨nd, rfl⟩⟩))
            go_ret
            exact ⟨by first | rfl | (simp; done) | (simp [*]; done), by repeat (first | exact Drawn0.refl _ | apply Drawn0.step)⟩
          ·rw [if_neg c20] at H
           have c20b0 : (t138 == 2700) = false := beq_eq_false_iff_ne.mpr c20
           have c20b1 : (t138 != 2700) = true := bne_iff_ne.mpr c20
           obtain rfl := Option.some.inj H
           go_enter Try.func11, Try.ntmps11
           try simp only [List.append_eq, List.cons_append, List.nil_append]
           go_wp2_with (first | ((with_reducible refine gate_callee (f := 21) rfl ?_); refine goesL_ (some 1) rfl rfl Try.func21 (by kernel_rfl) rfl #[.int .i64 1902] rfl (by (try simp only [List.map_toArray, List.map_cons, List.map_nil]); first | done | rfl | (simp only [List.length_drop, List.length_take]; rfl)) ?_; (with_reducible refine (wimplelaw0_Num.calls 1902 t129 _ A1.out).mono ?_); rintro e w' ⟨rfl, ⟨nd, rfl⟩⟩; refine ⟨_, rfl, ?_⟩) | (go_at_call 21; (with_reducible refine (wimplelaw0_Num.calls 2000 t130 _ A3.out).mono ?_); rintro e w' ⟨rfl, ⟨nd, rfl⟩⟩) | (go_at_call 21; (with_reducible refine (wimplelaw0_Num.calls 2100 t131 _ A5.out).mono ?_); rintro e w' ⟨rfl, ⟨nd, rfl⟩⟩) | (go_at_call 21; (with_reducible refine (wimplelaw0_Num.calls 2200 t132 _ A7.out).mono ?_); rintro e w' ⟨rfl, ⟨nd, rfl⟩⟩) | (go_at_call 21; (with_reducible refine (wimplelaw0_Num.calls 2300 t133 _ A9.out).mono ?_); rintro e w' ⟨rfl, ⟨nd, rfl⟩⟩) | (go_at_call 21; (with_reducible refine (wimplelaw0_Num.calls 2400 t134 _ A11.out).mono ?_); rintro e w' ⟨rfl, ⟨nd, rfl⟩⟩) | (go_at_call 21; (with_reducible refine (wimplelaw0_Num.calls 2401 t135 _ A13.out).mono ?_); rintro e w' ⟨rfl, ⟨nd, rfl⟩⟩) | (go_at_call 21; (with_reducible refine (wimplelaw0_Num.calls 2500 t136 _ A15.out).mono ?_); rintro e w' ⟨rfl, ⟨nd, rfl⟩⟩) | (go_at_call 21; (with_reducible refine (wimplelaw0_Num.calls 2600 t137 _ A17.out).mono ?_); rintro e w' ⟨rfl, ⟨nd, rfl⟩⟩) | (go_at_call 21; (with_reducible refine (wimplelaw0_Num.calls 2700 t138 _ A19.out).mono ?_); rintro e w' ⟨rfl, ⟨nd, rfl⟩⟩))
           go_ret
           exact ⟨by first | rfl | (simp; done) | (simp [*]; done), by repeat (first | exact Drawn0.refl _ | apply Drawn0.step)⟩
         ·rw [if_neg c18] at H
          have c18b0 : (t137 == 2600) = false := beq_eq_false_iff_ne.mpr c18
          have c18b1 : (t137 != 2600) = true := bne_iff_ne.mpr c18
          obtain rfl := Option.some.inj H
          go_enter Try.func11, Try.ntmps11
          try simp only [List.append_eq, List.cons_append, List.nil_append]
          go_wp2_with (first | ((with_reducible refine gate_callee (f := 21) rfl ?_); refine goesL_ (some 1) rfl rfl Try.func21 (by kernel_rfl) rfl #[.int .i64 1902] rfl (by (try simp only [List.map_toArray, List.map_cons, List.map_nil]); first | done | rfl | (simp only [List.length_drop, List.length_take]; rfl)) ?_; (with_reducible refine (wimplelaw0_Num.calls 1902 t129 _ A1.out).mono ?_); rintro e w' ⟨rfl, ⟨nd, rfl⟩⟩; refine ⟨_, rfl, ?_⟩) | (go_at_call 21; (with_reducible refine (wimplelaw0_Num.calls 2000 t130 _ A3.out).mono ?_); rintro e w' ⟨rfl, ⟨nd, rfl⟩⟩) | (go_at_call 21; (with_reducible refine (wimplelaw0_Num.calls 2100 t131 _ A5.out).mono ?_); rintro e w' ⟨rfl, ⟨nd, rfl⟩⟩) | (go_at_call 21; (with_reducible refine (wimplelaw0_Num.calls 2200 t132 _ A7.out).mono ?_); rintro e w' ⟨rfl, ⟨nd, rfl⟩⟩) | (go_at_call 21; (with_reducible refine (wimplelaw0_Num.calls 2300 t133 _ A9.out).mono ?_); rintro e w' ⟨rfl, ⟨nd, rfl⟩⟩) | (go_at_call 21; (with_reducible refine (wimplelaw0_Num.calls 2400 t134 _ A11.out).mono ?_); rintro e w' ⟨rfl, ⟨nd, rfl⟩⟩) | (go_at_call 21; (with_reducible refine (wimplelaw0_Num.calls 2401 t135 _ A13.out).mono ?_); rintro e w' ⟨rfl, ⟨nd, rfl⟩⟩) | (go_at_call 21; (with_reducible refine (wimplelaw0_Num.calls 2500 t136 _ A15.out).mono ?_); rintro e w' ⟨rfl, ⟨nd, rfl⟩⟩) | (go_at_call 21; (with_reducible refine (wimplelaw0_Num.calls 2600 t137 _ A17.out).mono ?_); rintro e w' ⟨rfl, ⟨nd, rfl⟩⟩))
          go_ret
          exact ⟨by first | rfl | (simp; done) | (simp [*]; done), by repeat (first | exact Drawn0.refl _ | apply Drawn0.step)⟩
        ·rw [if_neg c16] at H
         have c16b0 : (t136 == 2500) = false := beq_eq_false_iff_ne.mpr c16
         have c16b1 : (t136 != 2500) = true := bne_iff_ne.mpr c16
         obtain rfl := Option.some.inj H
         go_enter Try.func11, Try.ntmps11
         try simp only [List.append_eq, List.cons_append, List.nil_append]
         go_wp2_with (first | ((with_reducible refine gate_callee (f := 21) rfl ?_); refine goesL_ (some 1) rfl rfl Try.func21 (by kernel_rfl) rfl #[.int .i64 1902] rfl (by (try simp only [List.map_toArray, List.map_cons, List.map_nil]); first | done | rfl | (simp only [List.length_drop, List.length_take]; rfl)) ?_; (with_reducible refine (wimplelaw0_Num.calls 1902 t129 _ A1.out).mono ?_); rintro e w' ⟨rfl, ⟨nd, rfl⟩⟩; refine ⟨_, rfl, ?_⟩) | (go_at_call 21; (with_reducible refine (wimplelaw0_Num.calls 2000 t130 _ A3.out).mono ?_); rintro e w' ⟨rfl, ⟨nd, rfl⟩⟩) | (go_at_call 21; (with_reducible refine (wimplelaw0_Num.calls 2100 t131 _ A5.out).mono ?_); rintro e w' ⟨rfl, ⟨nd, rfl⟩⟩) | (go_at_call 21; (with_reducible refine (wimplelaw0_Num.calls 2200 t132 _ A7.out).mono ?_); rintro e w' ⟨rfl, ⟨nd, rfl⟩⟩) | (go_at_call 21; (with_reducible refine (wimplelaw0_Num.calls 2300 t133 _ A9.out).mono ?_); rintro e w' ⟨rfl, ⟨nd, rfl⟩⟩) | (go_at_call 21; (with_reducible refine (wimplelaw0_Num.calls 2400 t134 _ A11.out).mono ?_); rintro e w' ⟨rfl, ⟨nd, rfl⟩⟩) | (go_at_call 21; (with_reducible refine (wimplelaw0_Num.calls 2401 t135 _ A13.out).mono ?_); rintro e w' ⟨rfl, ⟨nd, rfl⟩⟩) | (go_at_call 21; (with_reducible refine (wimplelaw0_Num.calls 2500 t136 _ A15.out).mono ?_); rintro e w' ⟨rfl, ⟨nd, rfl⟩⟩))
         go_ret
         exact ⟨by first | rfl | (simp; done) | (simp [*]; done), by repeat (first | exact Drawn0.refl _ | apply Drawn0.step)⟩
       ·rw [if_neg c14] at H
        have c14b0 : (t135 == 2401) = false := beq_eq_false_iff_ne.mpr c14
        have c14b1 : (t135 != 2401) = true := bne_iff_ne.mpr c14
        obtain rfl := Option.some.inj H
        go_enter Try.func11, Try.ntmps11
        try simp only [List.append_eq, List.cons_append, List.nil_append]
        go_wp2_with (first | ((with_reducible refine gate_callee (f := 21) rfl ?_); refine goesL_ (some 1) rfl rfl Try.func21 (by kernel_rfl) rfl #[.int .i64 1902] rfl (by (try simp only [List.map_toArray, List.map_cons, List.map_nil]); first | done | rfl | (simp only [List.length_drop, List.length_take]; rfl)) ?_; (with_reducible refine (wimplelaw0_Num.calls 1902 t129 _ A1.out).mono ?_); rintro e w' ⟨rfl, ⟨nd, rfl⟩⟩; refine ⟨_, rfl, ?_⟩) | (go_at_call 21; (with_reducible refine (wimplelaw0_Num.calls 2000 t130 _ A3.out).mono ?_); rintro e w' ⟨rfl, ⟨nd, rfl⟩⟩) | (go_at_call 21; (with_reducible refine (wimplelaw0_Num.calls 2100 t131 _ A5.out).mono ?_); rintro e w' ⟨rfl, ⟨nd, rfl⟩⟩) | (go_at_call 21; (with_reducible refine (wimplelaw0_Num.calls 2200 t132 _ A7.out).mono ?_); rintro e w' ⟨rfl, ⟨nd, rfl⟩⟩) | (go_at_call 21; (with_reducible refine (wimplelaw0_Num.calls 2300 t133 _ A9.out).mono ?_); rintro e w' ⟨rfl, ⟨nd, rfl⟩⟩) | (go_at_call 21; (with_reducible refine (wimplelaw0_Num.calls 2400 t134 _ A11.out).mono ?_); rintro e w' ⟨rfl, ⟨nd, rfl⟩⟩) | (go_at_call 21; (with_reducible refine (wimplelaw0_Num.calls 2401 t135 _ A13.out).mono ?_); rintro e w' ⟨rfl, ⟨nd, rfl⟩⟩))
        go_ret
        exact ⟨by first | rfl | (simp; done) | (simp [*]; done), by repeat (first | exact Drawn0.refl _ | apply Drawn0.step)⟩
      ·rw [if_neg c12] at H
       have c12b0 : (t134 == 2400) = false := beq_eq_false_iff_ne.mpr c12
       have c12b1 : (t134 != 2400) = true := bne_iff_ne.mpr c12
       obtain rfl := Option.some.inj H
       go_enter Try.func11, Try.ntmps11
       try simp only [List.append_eq, List.cons_append, List.nil_append]
       go_wp2_with (first | ((with_reducible refine gate_callee (f := 21) rfl ?_); refine goesL_ (some 1) rfl rfl Try.func21 (by kernel_rfl) rfl #[.int .i64 1902] rfl (by (try simp only [List.map_toArray, List.map_cons, List.map_nil]); first | done | rfl | (simp only [List.length_drop, List.length_take]; rfl)) ?_; (with_reducible refine (wimplelaw0_Num.calls 1902 t129 _ A1.out).mono ?_); rintro e w' ⟨rfl, ⟨nd, rfl⟩⟩; refine ⟨_, rfl, ?_⟩) | (go_at_call 21; (with_reducible refine (wimplelaw0_Num.calls 2000 t130 _ A3.out).mono ?_); rintro e w' ⟨rfl, ⟨nd, rfl⟩⟩) | (go_at_call 21; (with_reducible refine (wimplelaw0_Num.calls 2100 t131 _ A5.out).mono ?_); rintro e w' ⟨rfl, ⟨nd, rfl⟩⟩) | (go_at_call 21; (with_reducible refine (wimplelaw0_Num.calls 2200 t132 _ A7.out).mono ?_); rintro e w' ⟨rfl, ⟨nd, rfl⟩⟩) | (go_at_call 21; (with_reducible refine (wimplelaw0_Num.calls 2300 t133 _ A9.out).mono ?_); rintro e w' ⟨rfl, ⟨nd, rfl⟩⟩) | (go_at_call 21; (with_reducible refine (wimplelaw0_Num.calls 2400 t134 _ A11.out).mono ?_); rintro e w' ⟨rfl, ⟨nd, rfl⟩⟩))
       go_ret
       exact ⟨by first | rfl | (simp; done) | (simp [*]; done), by repeat (first | exact Drawn0.refl _ | apply Drawn0.step)⟩
     ·rw [if_neg c10] at H
      have c10b0 : (t133 == 2300) = false := beq_eq_false_iff_ne.mpr c10
      have c10b1 : (t133 != 2300) = true := bne_iff_ne.mpr c10
      obtain rfl := Option.some.inj H
      go_enter Try.func11, Try.ntmps11
      try simp only [List.append_eq, List.cons_append, List.nil_append]
      go_wp2_with (first | ((with_reducible refine gate_callee (f := 21) rfl ?_); refine goesL_ (some 1) rfl rfl Try.func21 (by kernel_rfl) rfl #[.int .i64 1902] rfl (by (try simp only [List.map_toArray, List.map_cons, List.map_nil]); first | done | rfl | (simp only [List.length_drop, List.length_take]; rfl)) ?_; (with_reducible refine (wimplelaw0_Num.calls 1902 t129 _ A1.out).mono ?_); rintro e w' ⟨rfl, ⟨nd, rfl⟩⟩; refine ⟨_, rfl, ?_⟩) | (go_at_call 21; (with_reducible refine (wimplelaw0_Num.calls 2000 t130 _ A3.out).mono ?_); rintro e w' ⟨rfl, ⟨nd, rfl⟩⟩) | (go_at_call 21; (with_reducible refine (wimplelaw0_Num.calls 2100 t131 _ A5.out).mono ?_); rintro e w' ⟨rfl, ⟨nd, rfl⟩⟩) | (go_at_call 21; (with_reducible refine (wimplelaw0_Num.calls 2200 t132 _ A7.out).mono ?_); rintro e w' ⟨rfl, ⟨nd, rfl⟩⟩) | (go_at_call 21; (with_reducible refine (wimplelaw0_Num.calls 2300 t133 _ A9.out).mono ?_); rintro e w' ⟨rfl, ⟨nd, rfl⟩⟩))
      go_ret
      exact ⟨by first | rfl | (simp; done) | (simp [*]; done), by repeat (first | exact Drawn0.refl _ | apply Drawn0.step)⟩
    ·rw [if_neg c8] at H
     have c8b0 : (t132 == 2200) = false := beq_eq_false_iff_ne.mpr c8
     have c8b1 : (t132 != 2200) = true := bne_iff_ne.mpr c8
     obtain rfl := Option.some.inj H
     go_enter Try.func11, Try.ntmps11
     try simp only [List.append_eq, List.cons_append, List.nil_append]
     go_wp2_with (first | ((with_reducible refine gate_callee (f := 21) rfl ?_); refine goesL_ (some 1) rfl rfl Try.func21 (by kernel_rfl) rfl #[.int .i64 1902] rfl (by (try simp only [List.map_toArray, List.map_cons, List.map_nil]); first | done | rfl | (simp only [List.length_drop, List.length_take]; rfl)) ?_; (with_reducible refine (wimplelaw0_Num.calls 1902 t129 _ A1.out).mono ?_); rintro e w' ⟨rfl, ⟨nd, rfl⟩⟩; refine ⟨_, rfl, ?_⟩) | (go_at_call 21; (with_reducible refine (wimplelaw0_Num.calls 2000 t130 _ A3.out).mono ?_); rintro e w' ⟨rfl, ⟨nd, rfl⟩⟩) | (go_at_call 21; (with_reducible refine (wimplelaw0_Num.calls 2100 t131 _ A5.out).mono ?_); rintro e w' ⟨rfl, ⟨nd, rfl⟩⟩) | (go_at_call 21; (with_reducible refine (wimplelaw0_Num.calls 2200 t132 _ A7.out).mono ?_); rintro e w' ⟨rfl, ⟨nd, rfl⟩⟩))
     go_ret
     exact ⟨by first | rfl | (simp; done) | (simp [*]; done), by repeat (first | exact Drawn0.refl _ | apply Drawn0.step)⟩
   ·rw [if_neg c6] at H
    have c6b0 : (t131 == 2100) = false := beq_eq_false_iff_ne.mpr c6
    have c6b1 : (t131 != 2100) = true := bne_iff_ne.mpr c6
    obtain rfl := Option.some.inj H
    go_enter Try.func11, Try.ntmps11
    try simp only [List.append_eq, List.cons_append, List.nil_append]
    go_wp2_with (first | ((with_reducible refine gate_callee (f := 21) rfl ?_); refine goesL_ (some 1) rfl rfl Try.func21 (by kernel_rfl) rfl #[.int .i64 1902] rfl (by (try simp only [List.map_toArray, List.map_cons, List.map_nil]); first | done | rfl | (simp only [List.length_drop, List.length_take]; rfl)) ?_; (with_reducible refine (wimplelaw0_Num.calls 1902 t129 _ A1.out).mono ?_); rintro e w' ⟨rfl, ⟨nd, rfl⟩⟩; refine ⟨_, rfl, ?_⟩) | (go_at_call 21; (with_reducible refine (wimplelaw0_Num.calls 2000 t130 _ A3.out).mono ?_); rintro e w' ⟨rfl, ⟨nd, rfl⟩⟩) | (go_at_call 21; (with_reducible refine (wimplelaw0_Num.calls 2100 t131 _ A5.out).mono ?_); rintro e w' ⟨rfl, ⟨nd, rfl⟩⟩))
    go_ret
    exact ⟨by first | rfl | (simp; done) | (simp [*]; done), by repeat (first | exact Drawn0.refl _ | apply Drawn0.step)⟩
  ·rw [if_neg c4] at H
   have c4b0 : (t130 == 2000) = false := beq_eq_false_iff_ne.mpr c4
   have c4b1 : (t130 != 2000) = true := bne_iff_ne.mpr c4
   obtain rfl := Option.some.inj H
   go_enter Try.func11, Try.ntmps11
   try simp only [List.append_eq, List.cons_append, List.nil_append]
   go_wp2_with (first | ((with_reducible refine gate_callee (f := 21) rfl ?_); refine goesL_ (some 1) rfl rfl Try.func21 (by kernel_rfl) rfl #[.int .i64 1902] rfl (by (try simp only [List.map_toArray, List.map_cons, List.map_nil]); first | done | rfl | (simp only [List.length_drop, List.length_take]; rfl)) ?_; (with_reducible refine (wimplelaw0_Num.calls 1902 t129 _ A1.out).mono ?_); rintro e w' ⟨rfl, ⟨nd, rfl⟩⟩; refine ⟨_, rfl, ?_⟩) | (go_at_call 21; (with_reducible refine (wimplelaw0_Num.calls 2000 t130 _ A3.out).mono ?_); rintro e w' ⟨rfl, ⟨nd, rfl⟩⟩))
   go_ret
   exact ⟨by first | rfl | (simp; done) | (simp [*]; done), by repeat (first | exact Drawn0.refl _ | apply Drawn0.step)⟩
 ·rw [if_neg c2] at H
  have c2b0 : (t129 == 1902) = false := beq_eq_false_iff_ne.mpr c2
  have c2b1 : (t129 != 1902) = true := bne_iff_ne.mpr c2
  obtain rfl := Option.some.inj H
  go_enter Try.func11, Try.ntmps11
  try simp only [List.append_eq, List.cons_append, List.nil_append]
  go_wp2_with (first | ((with_reducible refine gate_callee (f := 21) rfl ?_); refine goesL_ (some 1) rfl rfl Try.func21 (by kernel_rfl) rfl #[.int .i64 1902] rfl (by (try simp only [List.map_toArray, List.map_cons, List.map_nil]); first | done | rfl | (simp only [List.length_drop, List.length_take]; rfl)) ?_; (with_reducible refine (wimplelaw0_Num.calls 1902 t129 _ A1.out).mono ?_); rintro e w' ⟨rfl, ⟨nd, rfl⟩⟩; refine ⟨_, rfl, ?_⟩))
  go_ret
  exact ⟨by first | rfl | (simp; done) | (simp [*]; done), by repeat (first | exact Drawn0.refl _ | apply Drawn0.step)⟩

/-! ### wimplelaw0_numbers1: function 12 -/
def wimplelaw0_numbers1.f  : Option (Bool) := some true
set_option maxHeartbeats 8000000 in
set_option maxRecDepth 100000 in
theorem wimplelaw0_numbers1.calls  (r : Bool) (w : World) (h : wimplelaw0_numbers1.f  = some r) :
    Calls Try.prog 12 #[] w fun e w' => e = .returned (.bool r) ∧ Drawn0 w w' := by
  have H : (some true) = some r := h
  clear h
  obtain rfl := Option.some.inj H
  go_enter Try.func12, Try.ntmps12
  try simp only [List.append_eq, List.cons_append, List.nil_append]
  go_wp2
  go_ret
  exact ⟨by first | rfl | (simp; done) | (simp [*]; done), by repeat (first | exact Drawn0.refl _ | apply Drawn0.step)⟩

end Go.Proofs.Ytjmdfhbenejfgaa.P
