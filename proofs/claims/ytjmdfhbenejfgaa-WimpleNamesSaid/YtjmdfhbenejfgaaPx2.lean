-- Written by a program of this session's prover (over the kit's printer, with contracts of the session's own); Lean checks it.
import Derived.Test.YtjmdfhbenejfgaaPx0
import Derived.Test.YtjmdfhbenejfgaaPx1
namespace Go.Proofs.Ytjmdfhbenejfgaa.P
open Go.RowKit Go.Proofs.YtjmdfhbenejfgaaW.PrintWords Go.Proofs.YtjmdfhbenejfgaaW.PrintLast Go.Proofs.YtjmdfhbenejfgaaW.PrintMore
attribute [local go_sem] max2_int min2_int max_two min_two max_three min_three max_four min_four   -- for this text's walks alone
set_option linter.unusedVariables false
set_option linter.unusedSimpArgs false

/-! ### wimplelaw0_errors1: function 9 -/
def wimplelaw0_errors1.f  : Option (Bool) := (wimplelaw0_Num.f 0).bind fun t101 => (if t101 = 0 then ((wimplelaw0_Num.f 1).bind fun t102 => (if t102 = 1 then ((wimplelaw0_Num.f 100).bind fun t103 => (if t103 = 100 then ((wimplelaw0_Num.f 200).bind fun t104 => (if t104 = 200 then ((wimplelaw0_Num.f 300).bind fun t105 => (if t105 = 300 then ((wimplelaw0_Num.f 400).bind fun t106 => (if t106 = 400 then ((wimplelaw0_Num.f 500).bind fun t107 => (if t107 = 500 then ((wimplelaw0_Num.f 501).bind fun t108 => (if t108 = 501 then ((wimplelaw0_Num.f 600).bind fun t109 => (if t109 = 600 then ((wimplelaw0_Num.f 700).bind fun t110 => (if t110 = 700 then ((wimplelaw0_Num.f 701).bind fun t111 => (if t111 = 701 then ((wimplelaw0_Num.f 800).bind fun t112 => (if t112 = 800 then ((wimplelaw0_Num.f 900).bind fun t113 => (if t113 = 900 then ((wimplelaw0_Num.f 1000).bind fun t114 => (some (t114 == 1000))) else (some false))) else (some false))) else (some false))) else (some false))) else (some false))) else (some false))) else (some false))) else (some false))) else (some false))) else (some false))) else (some false))) else (some false))) else (some false))
set_option maxHeartbeats 8000000 in
set_option maxRecDepth 100000 in
theorem wimplelaw0_errors1.calls  (r : Bool) (w : World) (h : wimplelaw0_errors1.f  = some r) :
  Calls Try.prog 9 #[] w fun e w' => e = .returned (.bool r) ∧ Drawn0 w w' := by
 have H : ((wimplelaw0_Num.f 0).bind fun t101 => (if t101 = 0 then ((wimplelaw0_Num.f 1).bind fun t102 => (if t102 = 1 then ((wimplelaw0_Num.f 100).bind fun t103 => (if t103 = 100 then ((wimplelaw0_Num.f 200).bind fun t104 => (if t104 = 200 then ((wimplelaw0_Num.f 300).bind fun t105 => (if t105 = 300 then ((wimplelaw0_Num.f 400).bind fun t106 => (if t106 = 400 then ((wimplelaw0_Num.f 500).bind fun t107 => (if t107 = 500 then ((wimplelaw0_Num.f 501).bind fun t108 => (if t108 = 501 then ((wimplelaw0_Num.f 600).bind fun t109 => (if t109 = 600 then ((wimplelaw0_Num.f 700).bind fun t110 => (if t110 = 700 then ((wimplelaw0_Num.f 701).bind fun t111 => (if t111 = 701 then ((wimplelaw0_Num.f 800).bind fun t112 => (if t112 = 800 then ((wimplelaw0_Num.f 900).bind fun t113 => (if t113 = 900 then ((wimplelaw0_Num.f 1000).bind fun t114 => (some (t114 == 1000))) else (some false))) else (some false))) else (some false))) else (some false))) else (some false))) else (some false))) else (some false))) else (some false))) else (some false))) else (some false))) else (some false))) else (some false))) else (some false))) = some r := h
 clear h
 replace H := Option.bind_eq_some_iff.mp H
 obtain ⟨t101, A10, H⟩ := H
 replace H : (if t101 = 0 then ((wimplelaw0_Num.f 1).bind fun t102 => (if t102 = 1 then ((wimplelaw0_Num.f 100).bind fun t103 => (if t103 = 100 then ((wimplelaw0_Num.f 200).bind fun t104 => (if t104 = 200 then ((wimplelaw0_Num.f 300).bind fun t105 => (if t105 = 300 then ((wimplelaw0_Num.f 400).bind fun t106 => (if t106 = 400 then ((wimplelaw0_Num.f 500).bind fun t107 => (if t107 = 500 then ((wimplelaw0_Num.f 501).bind fun t108 => (if t108 = 501 then ((wimplelaw0_Num.f 600).bind fun t109 => (if t109 = 600 then ((wimplelaw0_Num.f 700).bind fun t110 => (if t110 = 700 then ((wimplelaw0_Num.f 701).bind fun t111 => (if t111 = 701 then ((wimplelaw0_Num.f 800).bind fun t112 => (if t112 = 800 then ((wimplelaw0_Num.f 900).bind fun t113 => (if t113 = 900 then ((wimplelaw0_Num.f 1000).bind fun t114 => (some (t114 == 1000))) else (some false))) else (some false))) else (some false))) else (some false))) else (some false))) else (some false))) else (some false))) else (some false))) else (some false))) else (some false))) else (some false))) else (some false))) else (some false)) = some r := H
 have A1 := Aside0.mk A10
 clear A10
 by_cases c2 : t101 = 0
 ·rw [if_pos c2] at H
  have c2b0 : (t101 == 0) = true := beq_iff_eq.mpr c2
  have c2b1 : (t101 != 0) = false := bne_eq_false_iff_eq.mpr c2
  clear c2
  replace H := Option.bind_eq_some_iff.mp H
  obtain ⟨t102, A30, H⟩ := H
  replace H : (if t102 = 1 then ((wimplelaw0_Num.f 100).bind fun t103 => (if t103 = 100 then ((wimplelaw0_Num.f 200).bind fun t104 => (if t104 = 200 then ((wimplelaw0_Num.f 300).bind fun t105 => (if t105 = 300 then ((wimplelaw0_Num.f 400).bind fun t106 => (if t106 = 400 then ((wimplelaw0_Num.f 500).bind fun t107 => (if t107 = 500 then ((wimplelaw0_Num.f 501).bind fun t108 => (if t108 = 501 then ((wimplelaw0_Num.f 600).bind fun t109 => (if t109 = 600 then ((wimplelaw0_Num.f 700).bind fun t110 => (if t110 = 700 then ((wimplelaw0_Num.f 701).bind fun t111 => (if t111 = 701 then ((wimplelaw0_Num.f 800).bind fun t112 => (if t112 = 800 then ((wimplelaw0_Num.f 900).bind fun t113 => (if t113 = 900 then ((wimplelaw0_Num.f 1000).bind fun t114 => (some (t114 == 1000))) else (some false))) else (some false))) else (some false))) else (some false))) else (some false))) else (some false))) else (some false))) else (some false))) else (some false))) else (some false))) else (some false))) else (some false)) = some r := H
  have A3 := Aside0.mk A30
  clear A30
  by_cases c4 : t102 = 1
  ·rw [if_pos c4] at H
   have c4b0 : (t102 == 1) = true := beq_iff_eq.mpr c4
   have c4b1 : (t102 != 1) = false := bne_eq_false_iff_eq.mpr c4
   clear c4
   replace H := Option.bind_eq_some_iff.mp H
   obtain ⟨t103, A50, H⟩ := H
   replace H : (if t103 = 100 then ((wimplelaw0_Num.f 200).bind fun t104 => (if t104 = 200 then ((wimplelaw0_Num.f 300).bind fun t105 => (if t105 = 300 then ((wimplelaw0_Num.f 400).bind fun t106 => (if t106 = 400 then ((wimplelaw0_Num.f 500).bind fun t107 => (if t107 = 500 then ((wimplelaw0_Num.f 501).bind fun t108 => (if t108 = 501 then ((wimplelaw0_Num.f 600).bind fun t109 => (if t109 = 600 then ((wimplelaw0_Num.f 700).bind fun t110 => (if t110 = 700 then ((wimplelaw0_Num.f 701).bind fun t111 => (if t111 = 701 then ((wimplelaw0_Num.f 800).bind fun t112 => (if t112 = 800 then ((wimplelaw0_Num.f 900).bind fun t113 => (if t113 = 900 then ((wimplelaw0_Num.f 1000).bind fun t114 => (some (t114 == 1000))) else (some false))) else (some false))) else (some false))) else (some false))) else (some false))) else (some false))) else (some false))) else (some false))) else (some false))) else (some false))) else (some false)) = some r := H
   have A5 := Aside0.mk A50
   clear A50
   by_cases c6 : t103 = 100
   ·rw [if_pos c6] at H
    have c6b0 : (t103 == 100) = true := beq_iff_eq.mpr c6
    have c6b1 : (t103 != 100) = false := bne_eq_false_iff_eq.mpr c6
    clear c6
    replace H := Option.bind_eq_some_iff.mp H
    obtain ⟨t104, A70, H⟩ := H
    replace H : (if t104 = 200 then ((wimplelaw0_Num.f 300).bind fun t105 => (if t105 = 300 then ((wimplelaw0_Num.f 400).bind fun t106 => (if t106 = 400 then ((wimplelaw0_Num.f 500).bind fun t107 => (if t107 = 500 then ((wimplelaw0_Num.f 501).bind fun t108 => (if t108 = 501 then ((wimplelaw0_Num.f 600).bind fun t109 => (if t109 = 600 then ((wimplelaw0_Num.f 700).bind fun t110 => (if t110 = 700 then ((wimplelaw0_Num.f 701).bind fun t111 => (if t111 = 701 then ((wimplelaw0_Num.f 800).bind fun t112 => (if t112 = 800 then ((wimplelaw0_Num.f 900).bind fun t113 => (if t113 = 900 then ((wimplelaw0_Num.f 1000).bind fun t114 => (some (t114 == 1000))) else (some false))) else (some false))) else (some false))) else (some false))) else (some false))) else (some false))) else (some false))) else (some false))) else (some false))) else (some false)) = some r := H
    have A7 := Aside0.mk A70
    clear A70
    by_cases c8 : t104 = 200
    ·rw [if_pos c8] at H
     have c8b0 : (t104 == 200) = true := beq_iff_eq.mpr c8
     have c8b1 : (t104 != 200) = false := bne_eq_false_iff_eq.mpr c8
     clear c8
     replace H := Option.bind_eq_some_iff.mp H
     obtain ⟨t105, A90, H⟩ := H
     replace H : (if t105 = 300 then ((wimplelaw0_Num.f 400).bind fun t106 => (if t106 = 400 then ((wimplelaw0_Num.f 500).bind fun t107 => (if t107 = 500 then ((wimplelaw0_Num.f 501).bind fun t108 => (if t108 = 501 then ((wimplelaw0_Num.f 600).bind fun t109 => (if t109 = 600 then ((wimplelaw0_Num.f 700).bind fun t110 => (if t110 = 700 then ((wimplelaw0_Num.f 701).bind fun t111 => (if t111 = 701 then ((wimplelaw0_Num.f 800).bind fun t112 => (if t112 = 800 then ((wimplelaw0_Num.f 900).bind fun t113 => (if t113 = 900 then ((wimplelaw0_Num.f 1000).bind fun t114 => (some (t114 == 1000))) else (some false))) else (some false))) else (some false))) else (some false))) else (some false))) else (some false))) else (some false))) else (some false))) else (some false)) = some r := H
     have A9 := Aside0.mk A90
     clear A90
     by_cases c10 : t105 = 300
     ·rw [if_pos c10] at H
      have c10b0 : (t105 == 300) = true := beq_iff_eq.mpr c10
      have c10b1 : (t105 != 300) = false := bne_eq_false_iff_eq.mpr c10
      clear c10
      replace H := Option.bind_eq_some_iff.mp H
      obtain ⟨t106, A110, H⟩ := H
      replace H : (if t106 = 400 then ((wimplelaw0_Num.f 500).bind fun t107 => (if t107 = 500 then ((wimplelaw0_Num.f 501).bind fun t108 => (if t108 = 501 then ((wimplelaw0_Num.f 600).bind fun t109 => (if t109 = 600 then ((wimplelaw0_Num.f 700).bind fun t110 => (if t110 = 700 then ((wimplelaw0_Num.f 701).bind fun t111 => (if t111 = 701 then ((wimplelaw0_Num.f 800).bind fun t112 => (if t112 = 800 then ((wimplelaw0_Num.f 900).bind fun t113 => (if t113 = 900 then ((wimplelaw0_Num.f 1000).bind fun t114 => (some (t114 == 1000))) else (some false))) else (some false))) else (some false))) else (some false))) else (some false))) else (some false))) else (some false))) else (some false)) = some r := H
      have A11 := Aside0.mk A110
      clear A110
      by_cases c12 : t106 = 400
      ·rw [if_pos c12] at H
       have c12b0 : (t106 == 400) = true := beq_iff_eq.mpr c12
       have c12b1 : (t106 != 400) = false := bne_eq_false_iff_eq.mpr c12
       clear c12
       replace H := Option.bind_eq_some_iff.mp H
       obtain ⟨t107, A130, H⟩ := H
       replace H : (if t107 = 500 then ((wimplelaw0_Num.f 501).bind fun t108 => (if t108 = 501 then ((wimplelaw0_Num.f 600).bind fun t109 => (if t109 = 600 then ((wimplelaw0_Num.f 700).bind fun t110 => (if t110 = 700 then ((wimplelaw0_Num.f 701).bind fun t111 => (if t111 = 701 then ((wimplelaw0_Num.f 800).bind fun t112 => (if t112 = 800 then ((wimplelaw0_Num.f 900).bind fun t113 => (if t113 = 900 then ((wimplelaw0_Num.f 1000).bind fun t114 => (some (t114 == 1000))) else (some false))) else (some false))) else (some false))) else (some false))) else (some false))) else (some false))) else (some false)) = some r := H
       have A13 := Aside0.mk A130
       clear A130
       by_cases c14 : t107 = 500
       ·rw [if_pos c14] at H
        have c14b0 : (t107 == 500) = true := beq_iff_eq.mpr c14
        have c14b1 : (t107 != 500) = false := bne_eq_false_iff_eq.mpr c14
        clear c14
        replace H := Option.bind_eq_some_iff.mp H
        obtain ⟨t108, A150, H⟩ := H
        replace H : (if t108 = 501 then ((wimplelaw0_Num.f 600).bind fun t109 => (if t109 = 600 then ((wimplelaw0_Num.f 700).bind fun t110 => (if t110 = 700 then ((wimplelaw0_Num.f 701).bind fun t111 => (if t111 = 701 then ((wimplelaw0_Num.f 800).bind fun t112 => (if t112 = 800 then ((wimplelaw0_Num.f 900).bind fun t113 => (if t113 = 900 then ((wimplelaw0_Num.f 1000).bind fun t114 => (some (t114 == 1000))) else (some false))) else (some false))) else (some false))) else (some false))) else (some false))) else (some false)) = some r := H
        have A15 := Aside0.mk A150
        clear A150
        by_cases c16 : t108 = 501
        ·rw [if_pos c16] at H
         have c16b0 : (t108 == 501) = true := beq_iff_eq.mpr c16
         have c16b1 : (t108 != 501) = false := bne_eq_false_iff_eq.mpr c16
         clear c16
         replace H := Option.bind_eq_some_iff.mp H
         obtain ⟨t109, A170, H⟩ := H
         replace H : (if t109 = 600 then ((wimplelaw0_Num.f 700).bind fun t110 => (if t110 = 700 then ((wimplelaw0_Num.f 701).bind fun t111 => (if t111 = 701 then ((wimplelaw0_Num.f 800).bind fun t112 => (if t112 = 800 then ((wimplelaw0_Num.f 900).bind fun t113 => (if t113 = 900 then ((wimplelaw0_Num.f 1000).bind fun t114 => (some (t114 == 1000))) else (some false))) else (some false))) else (some false))) else (some false))) else (some false)) = some r := H
         have A17 := Aside0.mk A170
         clear A170
         by_cases c18 : t109 = 600
         ·rw [if_pos c18] at H
          have c18b0 : (t109 == 600) = true := beq_iff_eq.mpr c18
          have c18b1 : (t109 != 600) = false := bne_eq_false_iff_eq.mpr c18
          clear c18
          replace H := Option.bind_eq_some_iff.mp H
          obtain ⟨t110, A190, H⟩ := H
          replace H : (if t110 = 700 then ((wimplelaw0_Num.f 701).bind fun t111 => (if t111 = 701 then ((wimplelaw0_Num.f 800).bind fun t112 => (if t112 = 800 then ((wimplelaw0_Num.f 900).bind fun t113 => (if t113 = 900 then ((wimplelaw0_Num.f 1000).bind fun t114 => (some (t114 == 1000))) else (some false))) else (some false))) else (some false))) else (some false)) = some r := H
          have A19 := Aside0.mk A190
          clear A190
          by_cases c20 : t110 = 700
          ·rw [if_pos c20] at H
           have c20b0 : (t110 == 700) = true := beq_iff_eq.mpr c20
           have c20b1 : (t110 != 700) = false := bne_eq_false_iff_eq.mpr c20
           clear c20
           replace H := Option.bind_eq_some_iff.mp H
           obtain ⟨t111, A210, H⟩ := H
           replace H : (if t111 = 701 then ((wimplelaw0_Num.f 800).bind fun t112 => (if t112 = 800 then ((wimplelaw0_Num.f 900).bind fun t113 => (if t113 = 900 then ((wimplelaw0_Num.f 1000).bind fun t114 => (some (t114 == 1000))) else (some false))) else (some false))) else (some false)) = some r := H
           have A21 := Aside0.mk A210
           clear A210
           by_cases c22 : t111 = 701
           ·rw [if_pos c22] at H
            have c22b0 : (t111 == 701) = true := beq_iff_eq.mpr c22
            have c22b1 : (t111 != 701) = false := bne_eq_false_iff_eq.mpr c22
            clear c22
            replace H := Option.bind_eq_some_iff.mp H
            obtain ⟨t112, A230, H⟩ := H
            replace H : (if t112 = 800 then ((wimplelaw0_Num.f 900).bind fun t113 => (if t113 = 900 then ((wimplelaw0_Num.f 1000).bind fun t114 => (some (t114 == 1000))) else (some false))) else (some false)) = some r := H
            have A23 := Aside0.mk A230
            clear A230
            by_cases c24 : t112 = 800
            ·rw [if_pos c24] at H
             have c24b0 : (t112 == 800) = true := beq_iff_eq.mpr c24
             have c24b1 : (t112 != 800) = false := bne_eq_false_iff_eq.mpr c24
             clear c24
             replace H := Option.bind_eq_some_iff.mp H
             obtain ⟨t113, A250, H⟩ := H
             replace H : (if t113 = 900 then ((wimplelaw0_Num.f 1000).bind fun t114 => (some (t114 == 1000))) else (some false)) = some r := H
             have A25 := Aside0.mk A250
             clear A250
             by_cases c26 : t113 = 900
             ·rw [if_pos c26] at H
              have c26b0 : (t113 == 900) = true := beq_iff_eq.mpr c26
              have c26b1 : (t113 != 900) = false := bne_eq_false_iff_eq.mpr c26
              clear c26
              replace H := Option.bind_eq_some_iff.mp H
              obtain ⟨t114, A270, H⟩ := H
              replace H : (some (t114 == 1000)) = some r := H
              have A27 := Aside0.mk A270
              clear A270
              obtain rfl := Option.some.inj H
              go_enter Try.func9, Try.ntmps9
              try simp only [List.append_eq, List.cons_append, List.nil_append]
              go_wp2_with (first | ((with_reducible refine gate_callee (f := 21) rfl ?_); refine goesL_ (some 1) rfl rfl Try.func21 (by kernel_rfl) rfl #[.int .i64 0] rfl (by (try simp only [List.map_toArray, List.map_cons, List.map_nil]); first | done | rfl | (simp only [List.length_drop, List.length_take]; rfl)) ?_; (with_reducible refine (wimplelaw0_Num.calls 0 t101 _ A1.out).mono ?_); rintro e w' ⟨rfl, ⟨nd, rfl⟩⟩; refine ⟨_, rfl, ?_⟩) | (go_at_call 21; (with_reducible refine (wimplelaw0_Num.calls 1 t102 _ A3.out).mono ?_); rintro e w' ⟨rfl, ⟨nd, rfl⟩⟩) | (go_at_call 21; (with_reducible refine (wimplelaw0_Num.calls 100 t103 _ A5.out).mono ?_); rintro e w' ⟨rfl, ⟨nd, rfl⟩⟩) | (go_at_call 21; (with_reducible refine (wimplelaw0_Num.calls 200 t104 _ A7.out).mono ?_); rintro e w' ⟨rfl, ⟨nd, rfl⟩⟩) | (go_at_call 21; (with_reducible refine (wimplelaw0_Num.calls 300 t105 _ A9.out).mono ?_); rintro e w' ⟨rfl, ⟨nd, rfl⟩⟩) | (go_at_call 21; (with_reducible refine (wimplelaw0_Num.calls 400 t106 _ A11.out).mono ?_); rintro e w' ⟨rfl, ⟨nd, rfl⟩⟩) | (go_at_call 21; (with_reducible refine (wimplelaw0_Num.calls 500 t107 _ A13.out).mono ?_); rintro e w' ⟨rfl, ⟨nd, rfl⟩⟩) | (go_at_call 21; (with_reducible refine (wimplelaw0_Num.calls 501 t108 _ A15.out).mono ?_); rintro e w' ⟨rfl, ⟨nd, rfl⟩⟩) | (go_at_call 21; (with_reducible refine (wimplelaw0_Num.calls 600 t109 _ A17.out).mono ?_); rintro e w' ⟨rfl, ⟨nd, rfl⟩⟩) | (go_at_call 21; (with_reducible refine (wimplelaw0_Num.calls 700 t110 _ A19.out).mono ?_); rintro e w' ⟨rfl, ⟨nd, rfl⟩⟩) | (go_at_call 21; (with_reducible refine (wimplelaw0_Num.calls 701 t111 _ A21.out).mono ?_); rintro e w' ⟨rfl, ⟨nd, rfl⟩⟩) | (go_at_call 21; (with_reducible refine (wimplelaw0_Num.calls 800 t112 _ A23.out).mono ?_); rintro e w' ⟨rfl, ⟨nd, rfl⟩⟩) | (go_at_call 21; (with_reducible refine (wimplelaw0_Num.calls 900 t113 _ A25.out).mono ?_); rintro e w' ⟨rfl, ⟨nd, rfl⟩⟩) | (go_at_call 21; (with_reducible refine (wimplelaw0_Num.calls 1000 t114 _ A27.out).mono ?_); rintro e w' ⟨rfl, ⟨nd, rfl⟩⟩))
              go_ret
              exact ⟨by first | rfl | (simp; done) | (simp [*]; done), by repeat (first | exact Drawn0.refl _ | apply Drawn0.step)⟩
             ·rw [if_neg c26] at H
              have c26b0 : (t113 == 900) = false := beq_eq_false_iff_ne.mpr c26
              have c26b1 : (t113 != 900) = true := bne_iff_ne.mpr c26
              obtain rfl := Option.some.inj H
              go_enter Try.func9, Try.ntmps9
              try simp only [List.append_eq, List.cons_append, List.nil_append]
              go_wp2_with (first | ((with_reducible refine gate_callee (f := 21) rfl ?_); refine goesL_ (some 1) rfl rfl Try.func21 (by kernel_rfl) rfl #[.int .i64 0] rfl (by (try simp only [List.map_toArray, List.map_cons, List.map_nil]); first | done | rfl | (simp only [List.length_drop, List.length_take]; rfl)) ?_; (with_reducible refine (wimplelaw0_Num.calls 0 t101 _ A1.out).mono ?_); rintro e w' ⟨rfl, ⟨nd, rfl⟩⟩; refine ⟨_, rfl, ?_⟩) | (go_at_call 21; (with_reducible refine (wimplelaw0_Num.calls 1 t102 _ A3.out).mono ?_); rintro e w' ⟨rfl, ⟨nd, rfl⟩⟩) | (go_at_call 21; (with_reducible refine (wimplelaw0_Num.calls 100 t103 _ A5.out).mono ?_); rintro e w' ⟨rfl, ⟨nd, rfl⟩⟩) | (go_at_call 21; (with_reducible refine (wimplelaw0_Num.calls 200 t104 _ A7.out).mono ?_); rintro e w' ⟨rfl, ⟨nd, rfl⟩⟩) | (go_at_call 21; (with_reducible refine (wimplelaw0_Num.calls 300 t105 _ A9.out).mono ?_); rintro e w' ⟨rfl, ⟨nd, rfl⟩⟩) | (go_at_call 21; (with_reducible refine (wimplelaw0_Num.calls 400 t106 _ A11.out).mono ?_); rintro e w' ⟨rfl, ⟨nd, rfl⟩⟩) | (go_at_call 21; (with_reducible refine (wimplelaw0_Num.calls 500 t107 _ A13.out).mono ?_); rintro e w' ⟨rfl, ⟨nd, rfl⟩⟩) | (go_at_call 21; (with_reducible refine (wimplelaw0_Num.calls 501 t108 _ A15.out).mono ?_); rintro e w' ⟨rfl, ⟨nd, rfl⟩⟩) | (go_at_call 21; (with_reducible refine (wimplelaw0_Num.calls 600 t109 _ A17.out).mono ?_); rintro e w' ⟨rfl, ⟨nd, rfl⟩⟩) | (go_at_call 21; (with_reducible refine (wimplelaw0_Num.calls 700 t110 _ A19.out).mono ?_); rintro e w' ⟨rfl, ⟨nd, rfl⟩⟩) | (go_at_call 21; (with_reducible refine (wimplelaw0_Num.calls 701 t111 _ A21.out).mono ?_); rintro e w' ⟨rfl, ⟨nd, rfl⟩⟩) | (go_at_call 21; (with_reducible refine (wimplelaw0_Num.calls 800 t112 _ A23.out).mono ?_); rintro e w' ⟨rfl, ⟨nd, rfl⟩⟩) | (go_at_call 21; (with_reducible refine (wimplelaw0_Num.calls 900 t113 _ A25.out).mono ?_); rintro e w' ⟨rfl, ⟨nd, rfl⟩⟩))
              go_ret
              exact ⟨by first | rfl | (simp; done) | (simp [*]; done), by repeat (first | exact Drawn0.refl _ | apply Drawn0.step)⟩
            ·rw [if_neg c24] at H
             have c24b0 : (t112 == 800) = false := beq_eq_false_iff_ne.mpr c24
             have c24b1 : (t112 != 800) = true := bne_iff_ne.mpr c24
             obtain rfl := Option.some.inj H
             go_enter Try.func9, Try.ntmps9
             try simp only [List.append_eq, List.cons_append, List.nil_append]
             go_wp2_with (first | ((with_reducible refine gate_callee (f := 21) rfl ?_); refine goesL_ (some 1) rfl rfl Try.func21 (by kernel_rfl) rfl #[.int .i64 0] rfl (by (try simp only [List.map_toArray, List.map_cons, List.map_nil]); first | done | rfl | (simp only [List.length_drop, List.length_take]; rfl)) ?_; (with_reducible refine (wimplelaw0_Num.calls 0 t101 _ A1.out).mono ?_); rintro e w' ⟨rfl, ⟨nd, rfl⟩⟩; refine ⟨_, rfl, ?_⟩) | (go_at_call 21; (with_reducible refine (wimplelaw0_Num.calls 1 t102 _ A3.out).mono ?_); rintro e w' ⟨rfl, ⟨nd, rfl⟩⟩) | (go_at_call 21; (with_reducible refine (wimplelaw0_Num.calls 100 t103 _ A5.out).mono ?_); rintro e w' ⟨rfl, ⟨nd, rfl⟩⟩) | (go_at_call 21; (with_reducible refine (wimplelaw0_Num.calls 200 t104 _ A7.out).mono ?_); rintro e w' ⟨rfl, ⟨nd, rfl⟩⟩) | (go_at_call 21; (with_reducible refine (wimplelaw0_Num.calls 300 t105 _ A9.out).mono ?_); rintro e w' ⟨rfl, ⟨nd, rfl⟩⟩) | (go_at_call 21; (with_reducible refine (wimplelaw0_Num.calls 400 t106 _ A11.out).mono ?_); rintro e w' ⟨rfl, ⟨nd, rfl⟩⟩) | (go_at_call 21; (with_reducible refine (wimplelaw0_Num.calls 500 t107 _ A13.out).mono ?_); rintro e w' ⟨rfl, ⟨nd, rfl⟩⟩) | (go_at_call 21; (with_reducible refine (wimplelaw0_Num.calls 501 t108 _ A15.out).mono ?_); rintro e w' ⟨rfl, ⟨nd, rfl⟩⟩) | (go_at_call 21; (with_reducible refine (wimplelaw0_Num.calls 600 t109 _ A17.out).mono ?_); rintro e w' ⟨rfl, ⟨nd, rfl⟩⟩) | (go_at_call 21; (with_reducible refine (wimplelaw0_Num.calls 700 t110 _ A19.out).mono ?_); rintro e w' ⟨rfl, ⟨nd, rfl⟩⟩) | (go_at_call 21; (with_reducible refine (wimplelaw0_Num.calls 701 t111 _ A21.out).mono ?_); rintro e w' ⟨rfl, ⟨nd, rfl⟩⟩) | (go_at_call 21; (with_reducible refine (wimplelaw0_Num.calls 800 t112 _ A23.out).mono ?_); rintro e w' ⟨rfl, ⟨nd, rfl⟩⟩))
             go_ret
             exact ⟨by first | rfl | (simp; done) | (simp [*]; done), by repeat (first | exact Drawn0.refl _ | apply Drawn0.step)⟩
           ·rw [if_neg c22] at H
            have c22b0 : (t111 == 701) = false := beq_eq_false_iff_ne.mpr c22
            have c22b1 : (t111 != 701) = true := bne_iff_ne.mpr c22
            obtain rfl := Option.some.inj H
            go_enter Try.func9, Try.ntmps9
            try simp only [List.append_eq, List.cons_append, List.nil_append]
            go_wp2_with (first | ((with_reducible refine gate_callee (f := 21) rfl ?_); refine goesL_ (some 1) rfl rfl Try.func21 (by kernel_rfl) rfl #[.int .i64 0] rfl (by (try simp only [List.map_toArray, List.map_cons, List.map_nil]); first | done | rfl | (simp only [List.length_drop, List.length_take]; rfl)) ?_; (with_reducible refine (wimplelaw0_Num.calls 0 t101 _ A1.out).mono ?_); rintro e w' ⟨rfl, ⟨nd, rfl⟩⟩; refine ⟨_, rfl, ?_⟩) | (go_at_call 21; (with_reducible refine (wimplelaw0_Num.calls 1 t102 _ A3.out).mono ?_); rintro e w' ⟨rfl, ⟨nd, rfl⟩⟩) | (go_at_call 21; (with_reducible refine (wimplelaw0_Num.calls 100 t103 _ A5.out).mono ?_); rintro e w' ⟨rfl, ⟨nd, rfl⟩⟩) | (go_at_call 21; (with_reducible refine (wimplelaw0_Num.calls 200 t104 _ A7.out).mono ?_); rintro e w' ⟨rfl, ⟨nd, rfl⟩⟩) | (go_at_call 21; (with_reducible refine (wimplelaw0_Num.calls 300 t105 _ A9.out).mono ?_); rintro e w' ⟨rfl, ⟨nd, rfl⟩⟩) | (go_at_call 21; (with_reducible refine (wimplelaw0_Num.calls 400 t106 _ A11.out).mono ?_); rintro e w' ⟨rfl, ⟨nd, rfl⟩⟩) | (go_at_call 21; (with_reducible refine (wimplelaw0_Num.calls 500 t107 _ A13.out).mono ?_); rintro e w' ⟨rfl, ⟨nd, rfl⟩⟩) | (go_at_call 21; (with_reducible refine (wimplelaw0_Num.calls 501 t108 _ A15.out).mono ?_); rintro e w' ⟨rfl, ⟨nd, rfl⟩⟩) | (go_at_call 21; (with_reducible refine (wimplelaw0_Num.calls 600 t109 _ A17.out).mono ?_); rintro e w' ⟨rfl, ⟨nd, rfl⟩⟩) | (go_at_call 21; (with_reducible refine (wimplelaw0_Num.calls 700 t110 _ A19.out).mono ?_); rintro e w' ⟨rfl, ⟨nd, rfl⟩⟩) | (go_at_call 21; (with_reducible refine (wimplelaw0_Num.calls 701 t111 _ A21.out).mono ?_); rintro e w' ⟨rfl, ⟨nd, rfl⟩⟩))
            go_ret
            exact ⟨by first | rfl | (simp; done) | (simp [*]; done), by repeat (first | exact Drawn0.refl _ | apply Drawn0.step)⟩
          ·rw [if_neg c20] at H
           have c20b0 : (t110 == 700) = false := beq_eq_false_iff_ne.mpr c20
           have c20b1 : (t110 != 700) = true := bne_iff_ne.mpr c20
           obtain rfl := Option.some.inj H
           go_enter Try.func9, Try.ntmps9
           try simp only [List.append_eq, List.cons_append, List.nil_append]
           go_wp2_with (first | ((with_reducible refine gate_callee (f := 21) rfl ?_); refine goesL_ (some 1) rfl rfl Try.func21 (by kernel_rfl) rfl #[.int .i64 0] rfl (by (try simp only [List.map_toArray, List.map_cons, List.map_nil]); first | done | rfl | (simp only [List.length_drop, List.length_take]; rfl)) ?_; (with_reducible refine (wimplelaw0_Num.calls 0 t101 _ A1.out).mono ?_); rintro e w' ⟨rfl, ⟨nd, rfl⟩⟩; refine ⟨_, rfl, ?_⟩) | (go_at_call 21; (with_reducible refine (wimplelaw0_Num.calls 1 t102 _ A3.out).mono ?_); rintro e w' ⟨rfl, ⟨nd, rfl⟩⟩) | (go_at_call 21; (with_reducible refine (wimplelaw0_Num.calls 100 t103 _ A5.out).mono ?_); rintro e w' ⟨rfl, ⟨nd, rfl⟩⟩) | (go_at_call 21; (with_reducible refine (wimplelaw0_Num.calls 200 t104 _ A7.out).mono ?_); rintro e w' ⟨rfl, ⟨nd, rfl⟩⟩) | (go_at_call 21; (with_reducible refine (wimplelaw0_Num.calls 300 t105 _ A9.out).mono ?_); rintro e w' ⟨rfl, ⟨nd, rfl⟩⟩) | (go_at_call 21; (with_reducible refine (wimplelaw0_Num.calls 400 t106 _ A11.out).mono ?_); rintro e w' ⟨rfl, ⟨nd, rfl⟩⟩) | (go_at_call 21; (with_reducible refine (wimplelaw0_Num.calls 500 t107 _ A13.out).mono ?_); rintro e w' ⟨rfl, ⟨nd, rfl⟩⟩) | (go_at_call 21; (with_reducible refine (wimplelaw0_Num.calls 501 t108 _ A15.out).mono ?_); rintro e w' ⟨rfl, ⟨nd, rfl⟩⟩) | (go_at_call 21; (with_reducible refine (wimplelaw0_Num.calls 600 t109 _ A17.out).mono ?_); rintro e w' ⟨rfl, ⟨nd, rfl⟩⟩) | (go_at_call 21; (with_reducible refine (wimplelaw0_Num.calls 700 t110 _ A19.out).mono ?_); rintro e w' ⟨rfl, ⟨nd, rfl⟩⟩))
           go_ret
           exact ⟨by first | rfl | (simp; done) | (simp [*]; done), by repeat (first | exact Drawn0.refl _ | apply Drawn0.step)⟩
         ·rw [if_neg c18] at H
          have c18b0 : (t109 == 600) = false := beq_eq_false_iff_ne.mpr c18
          have c18b1 : (t109 != 600) = true := bne_iff_ne.mpr c18
          obtain rfl := Option.some.inj H
          go_enter Try.func9, Try.ntmps9
          try simp only [List.append_eq, List.cons_append, List.nil_append]
          go_wp2_with (first | ((with_reducible refine gate_callee (f := 21) rfl ?_); refine goesL_ (some 1) rfl rfl Try.func21 (by kernel_rfl) rfl #[.int .i64 0] rfl (by (try simp only [List.map_toArray, List.map_cons, List.map_nil]); first | done | rfl | (simp only [List.length_drop, List.length_take]; rfl)) ?_; (with_reducible refine (wimplelaw0_Num.calls 0 t101 _ A1.out).mono ?_); rintro e w' ⟨rfl, ⟨nd, rfl⟩⟩; refine ⟨_, rfl, ?_⟩) | (go_at_call 21; (with_reducible refine (wimplelaw0_Num.calls 1 t102 _ A3.out).mono ?_); rintro e w' ⟨rfl, ⟨nd, rfl⟩⟩) | (go_at_call 21; (with_reducible refine (wimplelaw0_Num.calls 100 t103 _ A5.out).mono ?_); rintro e w' ⟨rfl, ⟨nd, rfl⟩⟩) | (go_at_call 21; (with_reducible refine (wimplelaw0_Num.calls 200 t104 _ A7.out).mono ?_); rintro e w' ⟨rfl, ⟨nd, rfl⟩⟩) | (go_at_call 21; (with_reducible refine (wimplelaw0_Num.calls 300 t105 _ A9.out).mono ?_); rintro e w' ⟨rfl, ⟨nd, rfl⟩⟩) | (go_at_call 21; (with_reducible refine (wimplelaw0_Num.calls 400 t106 _ A11.out).mono ?_); rintro e w' ⟨rfl, ⟨nd, rfl⟩⟩) | (go_at_call 21; (with_reducible refine (wimplelaw0_Num.calls 500 t107 _ A13.out).mono ?_); rintro e w' ⟨rfl, ⟨nd, rfl⟩⟩) | (go_at_call 21; (with_reducible refine (wimplelaw0_Num.calls 501 t108 _ A15.out).mono ?_); rintro e w' ⟨rfl, ⟨nd, rfl⟩⟩) | (go_at_call 21; (with_reducible refine (wimplelaw0_Num.calls 600 t109 _ A17.out).mono ?_); rintro e w' ⟨rfl, ⟨nd, rfl⟩⟩))
          go_ret
          exact ⟨by first | rfl | (simp; done) | (simp [*]; done), by repeat (first | exact Drawn0.refl _ | apply Drawn0.step)⟩
        ·rw [if_neg c16] at H
         have c16b0 : (t108 == 501) = false := beq_eq_false_iff_ne.mpr c16
         have c16b1 : (t108 != 501) = true := bne_iff_ne.mpr c16
         obtain rfl := Option.some.inj H
         go_enter Try.func9, Try.ntmps9
         try simp only [List.append_eq, List.cons_append, List.nil_append]
         go_wp2_with (first | ((with_reducible refine gate_callee (f := 21) rfl ?_); refine goesL_ (some 1) rfl rfl Try.func21 (by kernel_rfl) rfl #[.int .i64 0] rfl (by (try simp only [List.map_toArray, List.map_cons, List.map_nil]); first | done | rfl | (simp only [List.length_drop, List.length_take]; rfl)) ?_; (with_reducible refine (wimplelaw0_Num.calls 0 t101 _ A1.out).mono ?_); rintro e w' ⟨rfl, ⟨nd, rfl⟩⟩; refine ⟨_, rfl, ?_⟩) | (go_at_call 21; (with_reducible refine (wimplelaw0_Num.calls 1 t102 _ A3.out).mono ?_); rintro e w' ⟨rfl, ⟨nd, rfl⟩⟩) | (go_at_call 21; (with_reducible refine (wimplelaw0_Num.calls 100 t103 _ A5.out).mono ?_); rintro e w' ⟨rfl, ⟨nd, rfl⟩⟩) | (go_at_call 21; (with_reducible refine (wimplelaw0_Num.calls 200 t104 _ A7.out).mono ?_); rintro e w' ⟨rfl, ⟨nd, rfl⟩⟩) | (go_at_call 21; (with_reducible refine (wimplelaw0_Num.calls 300 t105 _ A9.out).mono ?_); rintro e w' ⟨rfl, ⟨nd, rfl⟩⟩) | (go_at_call 21; (with_reducible refine (wimplelaw0_Num.calls 400 t106 _ A11.out).mono ?_); rintro e w' ⟨rfl, ⟨nd, rfl⟩⟩) | (go_at_call 21; (with_reducible refine (wimplelaw0_Num.calls 500 t107 _ A13.out).mono ?_); rintro e w' ⟨rfl, ⟨nd, rfl⟩⟩) | (go_at_call 21; (with_reducible refine (wimplelaw0_Num.calls 501 t108 _ A15.out).mono ?_); rintro e w' ⟨rfl, ⟨nd, rfl⟩⟩))
         go_ret
         exact ⟨by first | rfl | (simp; done) | (simp [*]; done), by repeat (first | exact Drawn0.refl _ | apply Drawn0.step)⟩
       ·rw [if_neg c14] at H
        have c14b0 : (t107 == 500) = false := beq_eq_false_iff_ne.mpr c14
        have c14b1 : (t107 != 500) = true := bne_iff_ne.mpr c14
        obtain rfl := Option.some.inj H
        go_enter Try.func9, Try.ntmps9
        try simp only [List.append_eq, List.cons_append, List.nil_append]
        go_wp2_with (first | ((with_reducible refine gate_callee (f := 21) rfl ?_); refine goesL_ (some 1) rfl rfl Try.func21 (by kernel_rfl) rfl #[.int .i64 0] rfl (by (try simp only [List.map_toArray, List.map_cons, List.map_nil]); first | done | rfl | (simp only [List.length_drop, List.length_take]; rfl)) ?_; (with_reducible refine (wimplelaw0_Num.calls 0 t101 _ A1.out).mono ?_); rintro e w' ⟨rfl, ⟨nd, rfl⟩⟩; refine ⟨_, rfl, ?_⟩) | (go_at_call 21; (with_reducible refine (wimplelaw0_Num.calls 1 t102 _ A3.out).mono ?_); rintro e w' ⟨rfl, ⟨nd, rfl⟩⟩) | (go_at_call 21; (with_reducible refine (wimplelaw0_Num.calls 100 t103 _ A5.out).mono ?_); rintro e w' ⟨rfl, ⟨nd, rfl⟩⟩) | (go_at_call 21; (with_reducible refine (wimplelaw0_Num.calls 200 t104 _ A7.out).mono ?_); rintro e w' ⟨rfl, ⟨nd, rfl⟩⟩) | (go_at_call 21; (with_reducible refine (wimplelaw0_Num.calls 300 t105 _ A9.out).mono ?_); rintro e w' ⟨rfl, ⟨nd, rfl⟩⟩) | (go_at_call 21; (with_reducible refine (wimplelaw0_Num.calls 400 t106 _ A11.out).mono ?_); rintro e w' ⟨rfl, ⟨nd, rfl⟩⟩) | (go_at_call 21; (with_reducible refine (wimplelaw0_Num.calls 500 t107 _ A13.out).mono ?_); rintro e w' ⟨rfl, ⟨nd, rfl⟩⟩))
        go_ret
        exact ⟨by first | rfl | (simp; done) | (simp [*]; done), by repeat (first | exact Drawn0.refl _ | apply Drawn0.step)⟩
      ·rw [if_neg c12] at H
       have c12b0 : (t106 == 400) = false := beq_eq_false_iff_ne.mpr c12
       have c12b1 : (t106 != 400) = true := bne_iff_ne.mpr c12
       obtain rfl := Option.some.inj H
       go_enter Try.func9, Try.ntmps9
       try simp only [List.append_eq, List.cons_append, List.nil_append]
       go_wp2_with (first | ((with_reducible refine gate_callee (f := 21) rfl ?_); refine goesL_ (some 1) rfl rfl Try.func21 (by kernel_rfl) rfl #[.int .i64 0] rfl (by (try simp only [List.map_toArray, List.map_cons, List.map_nil]); first | done | rfl | (simp only [List.length_drop, List.length_take]; rfl)) ?_; (with_reducible refine (wimplelaw0_Num.calls 0 t101 _ A1.out).mono ?_); rintro e w' ⟨rfl, ⟨nd, rfl⟩⟩; refine ⟨_, rfl, ?_⟩) | (go_at_call 21; (with_reducible refine (wimplelaw0_Num.calls 1 t102 _ A3.out).mono ?_); rintro e w' ⟨rfl, ⟨nd, rfl⟩⟩) | (go_at_call 21; (with_reducible refine (wimplelaw0_Num.calls 100 t103 _ A5.out).mono ?_); rintro e w' ⟨rfl, ⟨nd, rfl⟩⟩) | (go_at_call 21; (with_reducible refine (wimplelaw0_Num.calls 200 t104 _ A7.out).mono ?_); rintro e w' ⟨rfl, ⟨nd, rfl⟩⟩) | (go_at_call 21; (with_reducible refine (wimplelaw0_Num.calls 300 t105 _ A9.out).mono ?_); rintro e w' ⟨rfl, ⟨nd, rfl⟩⟩) | (go_at_call 21; (with_reducible refine (wimplelaw0_Num.calls 400 t106 _ A11.out).mono ?_); rintro e w' ⟨rfl, ⟨nd, rfl⟩⟩))
       go_ret
       exact ⟨by first | rfl | (simp; done) | (simp [*]; done), by repeat (first | exact Drawn0.refl _ | apply Drawn0.step)⟩
     ·rw [if_neg c10] at H
      have c10b0 : (t105 == 300) = false := beq_eq_false_iff_ne.mpr c10
      have c10b1 : (t105 != 300) = true := bne_iff_ne.mpr c10
      obtain rfl := Option.some.inj H
      go_enter Try.func9, Try.ntmps9
      try simp only [List.append_eq, List.cons_append, List.nil_append]
      go_wp2_with (first | ((with_reducible refine gate_callee (f := 21) rfl ?_); refine goesL_ (some 1) rfl rfl Try.func21 (by kernel_rfl) rfl #[.int .i64 0] rfl (by (try simp only [List.map_toArray, List.map_cons, List.map_nil]); first | done | rfl | (simp only [List.length_drop, List.length_take]; rfl)) ?_; (with_reducible refine (wimplelaw0_Num.calls 0 t101 _ A1.out).mono ?_); rintro e w' ⟨rfl, ⟨nd, rfl⟩⟩; refine ⟨_, rfl, ?_⟩) | (go_at_call 21; (with_reducible refine (wimplelaw0_Num.calls 1 t102 _ A3.out).mono ?_); rintro e w' ⟨rfl, ⟨nd, rfl⟩⟩) | (go_at_call 21; (with_reducible refine (wimplelaw0_Num.calls 100 t103 _ A5.out).mono ?_); rintro e w' ⟨rfl, ⟨nd, rfl⟩⟩) | (go_at_call 21; (with_reducible refine (wimplelaw0_Num.calls 200 t104 _ A7.out).mono ?_); rintro e w' ⟨rfl, ⟨nd, rfl⟩⟩) | (go_at_call 21; (with_reducible refine (wimplelaw0_Num.calls 300 t105 _ A9.out).mono ?_); rintro e w' ⟨rfl, ⟨nd, rfl⟩⟩))
      go_ret
      exact ⟨by first | rfl | (simp; done) | (simp [*]; done), by repeat (first | exact Drawn0.refl _ | apply Drawn0.step)⟩
    ·rw [if_neg c8] at H
     have c8b0 : (t104 == 200) = false := beq_eq_false_iff_ne.mpr c8
     have c8b1 : (t104 != 200) = true := bne_iff_ne.mpr c8
     obtain rfl := Option.some.inj H
     go_enter Try.func9, Try.ntmps9
     try simp only [List.append_eq, List.cons_append, List.nil_append]
     go_wp2_with (first | ((with_reducible refine gate_callee (f := 21) rfl ?_); refine goesL_ (some 1) rfl rfl Try.func21 (by kernel_rfl) rfl #[.int .i64 0] rfl (by (try simp only [List.map_toArray, List.map_cons, List.map_nil]); first | done | rfl | (simp only [List.length_drop, List.length_take]; rfl)) ?_; (with_reducible refine (wimplelaw0_Num.calls 0 t101 _ A1.out).mono ?_); rintro e w' ⟨rfl, ⟨nd, rfl⟩⟩; refine ⟨_, rfl, ?_⟩) | (go_at_call 21; (with_reducible refine (wimplelaw0_Num.calls 1 t102 _ A3.out).mono ?_); rintro e w' ⟨rfl, ⟨nd, rfl⟩⟩) | (go_at_call 21; (with_reducible refine (wimplelaw0_Num.calls 100 t103 _ A5.out).mono ?_); rintro e w' ⟨rfl, ⟨nd, rfl⟩⟩) | (go_at_call 21; (with_reducible refine (wimplelaw0_Num.calls 200 t104 _ A7.out).mono ?_); rintro e w' ⟨rfl, ⟨nd, rfl⟩⟩))
     go_ret
     exact ⟨by first | rfl | (simp; done) | (simp [*]; done), by repeat (first | exact Drawn0.refl _ | apply Drawn0.step)⟩
   ·rw [if_neg c6] at H
    have c6b0 : (t103 == 100) = false := beq_eq_false_iff_ne.mpr c6
    have c6b1 : (t103 != 100) = true := bne_iff_ne.mpr c6
    obtain rfl := Option.some.inj H
    go_enter Try.func9, Try.ntmps9
    try simp only [List.append_eq, List.cons_append, List.nil_append]
    go_wp2_with (first | ((with_reducible refine gate_callee (f := 21) rfl ?_); refine goesL_ (some 1) rfl rfl Try.func21 (by kernel_rfl) rfl #[.int .i64 0] rfl (by (try simp only [List.map_toArray, List.map_cons, List.map_nil]); first | done | rfl | (simp only [List.length_drop, List.length_take]; rfl)) ?_; (with_reducible refine (wimplelaw0_Num.calls 0 t101 _ A1.out).mono ?_); rintro e w' ⟨rfl, ⟨nd, rfl⟩⟩; refine ⟨_, rfl, ?_⟩) | (go_at_call 21; (with_reducible refine (wimplelaw0_Num.calls 1 t102 _ A3.out).mono ?_); rintro e w' ⟨rfl, ⟨nd, rfl⟩⟩) | (go_at_call 21; (with_reducible refine (wimplelaw0_Num.calls 100 t103 _ A5.out).mono ?_); rintro e w' ⟨rfl, ⟨nd, rfl⟩⟩))
    go_ret
    exact ⟨by first | rfl | (simp; done) | (simp [*]; done), by repeat (first | exact Drawn0.refl _ | apply Drawn0.step)⟩
  ·rw [if_neg c4] at H
   have c4b0 : (t102 == 1) = false := beq_eq_false_iff_ne.mpr c4
   have c4b1 : (t102 != 1) = true := bne_iff_ne.mpr c4
   obtain rfl := Option.some.inj H
   go_enter Try.func9, Try.ntmps9
   try simp only [List.append_eq, List.cons_append, List.nil_append]
   go_wp2_with (first | ((with_reducible refine gate_callee (f := 21) rfl ?_); refine goesL_ (some 1) rfl rfl Try.func21 (by kernel_rfl) rfl #[.int .i64 0] rfl (by (try simp only [List.map_toArray, List.map_cons, List.map_nil]); first | done | rfl | (simp only [List.length_drop, List.length_take]; rfl)) ?_; (with_reducible refine (wimplelaw0_Num.calls 0 t101 _ A1.out).mono ?_); rintro e w' ⟨rfl, ⟨nd, rfl⟩⟩; refine ⟨_, rfl, ?_⟩) | (go_at_call 21; (with_reducible refine (wimplelaw0_Num.calls 1 t102 _ A3.out).mono ?_); rintro e w' ⟨rfl, ⟨nd, rfl⟩⟩))
   go_ret
   exact ⟨by first | rfl | (simp; done) | (simp [*]; done), by repeat (first | exact Drawn0.refl _ | apply Drawn0.step)⟩
 ·rw [if_neg c2] at H
  have c2b0 : (t101 == 0) = false := beq_eq_false_iff_ne.mpr c2
  have c2b1 : (t101 != 0) = true := bne_iff_ne.mpr c2
  obtain rfl := Option.some.inj H
  go_enter Try.func9, Try.ntmps9
  try simp only [List.append_eq, List.cons_append, List.nil_append]
  go_wp2_with (first | ((with_reducible refine gate_callee (f := 21) rfl ?_); refine goesL_ (some 1) rfl rfl Try.func21 (by kernel_rfl) rfl #[.int .i64 0] rfl (by (try simp only [List.map_toArray, List.map_cons, List.map_nil]); first | done | rfl | (simp only [List.length_drop, List.length_take]; rfl)) ?_; (with_reducible refine (wimplelaw0_Num.calls 0 t101 _ A1.out).mono ?_); rintro e w' ⟨rfl, ⟨nd, rfl⟩⟩; refine ⟨_, rfl, ?_⟩))
  go_ret
  exact ⟨by first | rfl | (simp; done) | (simp [*]; done), by repeat (first | exact Drawn0.refl _ | apply Drawn0.step)⟩

end Go.Proofs.Ytjmdfhbenejfgaa.P
