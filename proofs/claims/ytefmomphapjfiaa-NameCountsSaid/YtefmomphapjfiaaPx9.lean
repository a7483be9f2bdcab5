-- Written by a program of this session's prover (over the kit's printer, with contracts of the session's own); Lean checks it.
import Derived.Test.YtefmomphapjfiaaPx0
import Derived.Test.YtefmomphapjfiaaPx2
import Derived.Test.YtefmomphapjfiaaPx5
import Derived.Test.YtefmomphapjfiaaPx6
namespace Go.Proofs.Ytefmomphapjfiaa.P
open Go.RowKit Go.Proofs.YtefmomphapjfiaaW.PrintWords Go.Proofs.YtefmomphapjfiaaW.PrintLast Go.Proofs.YtefmomphapjfiaaW.PrintMore
attribute [local go_sem] max2_int min2_int max_two min_two max_three min_three max_four min_four   -- for this text's walks alone
set_option linter.unusedVariables false
set_option linter.unusedSimpArgs false

/-! ### wimplelaw1_NameCounts: function 6 -/
mutual
def wimplelaw1_NameCounts.j0 : Nat → ByteArray → ByteArray → Option (Bool)
  | 0, _, _ => none
  | k + 1, x0, x5 => (name_May.f k x0).bind fun t249 => (if t249 = true then (if x5.toList = ([] : List UInt8) then (wimplelaw1_NameCounts.j1 k x0 x5 true) else (wimplelaw1_NameCounts.j1 k x0 x5 (decide ((wrap64 ((x0.size : Int) + (x5.size : Int))) > 200)))) else (wimplelaw1_NameCounts.j1 k x0 x5 true))
def wimplelaw1_NameCounts.j1 : Nat → ByteArray → ByteArray → Bool → Option (Bool)
  | 0, _, _, _ => none
  | k + 1, x0, x5, x35 => if x35 = true then (some true) else ((some (([((x5.size : Int)) % 256] : List Int) : List Int)).bind fun y250 => (if (strOfNums y250).size + x5.size ≤ 9223372036854775807 then (if ((strOfNums y250) ++ x5).size + x0.size ≤ 9223372036854775807 then ((name_Text.f k x0).bind fun bt253 => ((name_Text.f k (((strOfNums y250) ++ x5) ++ x0)).bind fun bt255 => ((wimplelaw0_Num.f bt253.2).bind fun t257 => (if t257 = 0 then ((wimplelaw0_Num.f bt255.2).bind fun t258 => (if t258 = 0 then ((name_Count.f k (((strOfNums y250) ++ x5) ++ x0)).bind fun t259 => ((name_Count.f k x0).bind fun t260 => (if t259 = (wrap64 (t260 + 1)) then ((name_May.f k (((strOfNums y250) ++ x5) ++ x0)).bind fun t261 => (wimplelaw1_NameCounts.j2 k x0 (((strOfNums y250) ++ x5) ++ x0) bt253.1 bt255.1 (!t261))) else (wimplelaw1_NameCounts.j2 k x0 (((strOfNums y250) ++ x5) ++ x0) bt253.1 bt255.1 true)))) else (wimplelaw1_NameCounts.j2 k x0 (((strOfNums y250) ++ x5) ++ x0) bt253.1 bt255.1 true))) else (wimplelaw1_NameCounts.j2 k x0 (((strOfNums y250) ++ x5) ++ x0) bt253.1 bt255.1 true))))) else (none)) else (none)))
def wimplelaw1_NameCounts.j2 : Nat → ByteArray → ByteArray → ByteArray → ByteArray → Bool → Option (Bool)
  | 0, _, _, _, _, _ => none
  | k + 1, x0, x6, x7, x9, x75 => if x75 = true then (some false) else (wimplelaw1_NameCounts.l0 k x0 x6 x7 x9 0 0)
def wimplelaw1_NameCounts.l0 : Nat → ByteArray → ByteArray → ByteArray → ByteArray → Int → Int → Option (Bool)
  | 0, _, _, _, _, _, _ => none
  | k + 1, x0, x6, x7, x9, x11, x12 => if x12 < (x9.size : Int) then (if 0 ≤ x12 then (if (bt x9 x12) = 46 then (wimplelaw1_NameCounts.l0 k x0 x6 x7 x9 (wrap64 (x11 + 1)) (wrap64 (x12 + 1))) else (wimplelaw1_NameCounts.l0 k x0 x6 x7 x9 x11 (wrap64 (x12 + 1)))) else (none)) else ((name_Count.f k x6).bind fun t262 => (if x11 = t262 then (if x0.toList = ([0] : List UInt8) then (if 0 ≤ (wrap64 ((x9.size : Int) - 1)) then (if (wrap64 ((x9.size : Int) - 1)) < (x9.size : Int) then (if (bt x9 (wrap64 ((x9.size : Int) - 1))) = 46 then (some true) else (if (x9.size : Int) > (x7.size : Int) then (if 0 ≤ (wrap64 ((x9.size : Int) - (x7.size : Int))) then (if (wrap64 ((x9.size : Int) - (x7.size : Int))) ≤ (x9.size : Int) then (some ((x9.extract ((wrap64 ((x9.size : Int) - (x7.size : Int))) : Int).toNat x9.size).toList == x7.toList)) else (none)) else (none)) else (some false))) else (none)) else (none)) else (if (x9.size : Int) > (x7.size : Int) then (if 0 ≤ (wrap64 ((x9.size : Int) - (x7.size : Int))) then (if (wrap64 ((x9.size : Int) - (x7.size : Int))) ≤ (x9.size : Int) then (some ((x9.extract ((wrap64 ((x9.size : Int) - (x7.size : Int))) : Int).toNat x9.size).toList == x7.toList)) else (none)) else (none)) else (some false))) else (some false)))
end
def wimplelaw1_NameCounts.f (k : Nat) (a0 : ByteArray) (a1 : ByteArray) : Option (Bool) := (wimplelaw1_awake.f k).bind fun t248 => (if t248 = true then (if (a1.size : Int) > 40 then (if 0 ≤ 40 then (if 40 ≤ (a1.size : Int) then (wimplelaw1_NameCounts.j0 k a0 (a1.extract 0 40)) else (none)) else (none)) else (wimplelaw1_NameCounts.j0 k a0 a1)) else (some false))
theorem wimplelaw1_NameCounts.mono_l : ∀ k, (∀ y0 y1, LeO (wimplelaw1_NameCounts.j0 k y0 y1) (wimplelaw1_NameCounts.j0 (k + 1) y0 y1)) ∧ (∀ y0 y1 y2, LeO (wimplelaw1_NameCounts.j1 k y0 y1 y2) (wimplelaw1_NameCounts.j1 (k + 1) y0 y1 y2)) ∧ (∀ y0 y1 y2 y3 y4, LeO (wimplelaw1_NameCounts.j2 k y0 y1 y2 y3 y4) (wimplelaw1_NameCounts.j2 (k + 1) y0 y1 y2 y3 y4)) ∧ (∀ y0 y1 y2 y3 y4 y5, LeO (wimplelaw1_NameCounts.l0 k y0 y1 y2 y3 y4 y5) (wimplelaw1_NameCounts.l0 (k + 1) y0 y1 y2 y3 y4 y5))
  | 0 => ⟨fun _ _ r h => by simp [wimplelaw1_NameCounts.j0] at h, fun _ _ _ r h => by simp [wimplelaw1_NameCounts.j1] at h, fun _ _ _ _ _ r h => by simp [wimplelaw1_NameCounts.j2] at h, fun _ _ _ _ _ _ r h => by simp [wimplelaw1_NameCounts.l0] at h⟩
  | k + 1 => by
    obtain ⟨ih0, ih1, ih2, ih3⟩ := wimplelaw1_NameCounts.mono_l k
    refine ⟨?_, ?_, ?_, ?_⟩
    · intro y0 y1
      unfold wimplelaw1_NameCounts.j0
      repeat' first
      | (with_reducible exact ih0 _ _)
      | (with_reducible exact ih1 _ _ _)
      | (with_reducible exact ih2 _ _ _ _ _)
      | (with_reducible exact ih3 _ _ _ _ _ _)
      | (with_reducible exact name_Count.mono _ _)
      | (with_reducible exact name_May.mono _ _)
      | (with_reducible exact name_Text.mono _ _)
      | (with_reducible exact wimplelaw1_awake.mono _)
      | (with_reducible exact LeO.refl _)
      | (with_reducible exact LeO.none _)
      | (with_reducible refine LeO.ite ?_ ?_)
      | (with_reducible refine LeO.bind ?_ (fun _ => ?_))
      | exact ih0 _ _
      | exact ih1 _ _ _
      | exact ih2 _ _ _ _ _
      | exact ih3 _ _ _ _ _ _
      | exact name_Count.mono _ _
      | exact name_May.mono _ _
      | exact name_Text.mono _ _
      | exact wimplelaw1_awake.mono _
      | exact LeO.none _
      | refine LeO.ite ?_ ?_
      | refine LeO.bind ?_ (fun _ => ?_)
    · intro y0 y1 y2
      unfold wimplelaw1_NameCounts.j1
      repeat' first
      | (with_reducible exact ih0 _ _)
      | (with_reducible exact ih1 _ _ _)
      | (with_reducible exact ih2 _ _ _ _ _)
      | (with_reducible exact ih3 _ _ _ _ _ _)
      | (with_reducible exact name_Count.mono _ _)
      | (with_reducible exact name_May.mono _ _)
      | (with_reducible exact name_Text.mono _ _)
      | (with_reducible exact wimplelaw1_awake.mono _)
      | (with_reducible exact LeO.refl _)
      | (with_reducible exact LeO.none _)
      | (with_reducible refine LeO.ite ?_ ?_)
      | (with_reducible refine LeO.bind ?_ (fun _ => ?_))
      | exact ih0 _ _
      | exact ih1 _ _ _
      | exact ih2 _ _ _ _ _
      | exact ih3 _ _ _ _ _ _
      | exact name_Count.mono _ _
      | exact name_May.mono _ _
      | exact name_Text.mono _ _
      | exact wimplelaw1_awake.mono _
      | exact LeO.none _
      | refine LeO.ite ?_ ?_
      | refine LeO.bind ?_ (fun _ => ?_)
    · intro y0 y1 y2 y3 y4
      unfold wimplelaw1_NameCounts.j2
      repeat' first
      | (with_reducible exact ih0 _ _)
      | (with_reducible exact ih1 _ _ _)
      | (with_reducible exact ih2 _ _ _ _ _)
      | (with_reducible exact ih3 _ _ _ _ _ _)
      | (with_reducible exact name_Count.mono _ _)
      | (with_reducible exact name_May.mono _ _)
      | (with_reducible exact name_Text.mono _ _)
      | (with_reducible exact wimplelaw1_awake.mono _)
      | (with_reducible exact LeO.refl _)
      | (with_reducible exact LeO.none _)
      | (with_reducible refine LeO.ite ?_ ?_)
      | (with_reducible refine LeO.bind ?_ (fun _ => ?_))
      | exact ih0 _ _
      | exact ih1 _ _ _
      | exact ih2 _ _ _ _ _
      | exact ih3 _ _ _ _ _ _
      | exact name_Count.mono _ _
      | exact name_May.mono _ _
      | exact name_Text.mono _ _
      | exact wimplelaw1_awake.mono _
      | exact LeO.none _
      | refine LeO.ite ?_ ?_
      | refine LeO.bind ?_ (fun _ => ?_)
    · intro y0 y1 y2 y3 y4 y5
      unfold wimplelaw1_NameCounts.l0
      repeat' first
      | (with_reducible exact ih0 _ _)
      | (with_reducible exact ih1 _ _ _)
      | (with_reducible exact ih2 _ _ _ _ _)
      | (with_reducible exact ih3 _ _ _ _ _ _)
      | (with_reducible exact name_Count.mono _ _)
      | (with_reducible exact name_May.mono _ _)
      | (with_reducible exact name_Text.mono _ _)
      | (with_reducible exact wimplelaw1_awake.mono _)
      | (with_reducible exact LeO.refl _)
      | (with_reducible exact LeO.none _)
      | (with_reducible refine LeO.ite ?_ ?_)
      | (with_reducible refine LeO.bind ?_ (fun _ => ?_))
      | exact ih0 _ _
      | exact ih1 _ _ _
      | exact ih2 _ _ _ _ _
      | exact ih3 _ _ _ _ _ _
      | exact name_Count.mono _ _
      | exact name_May.mono _ _
      | exact name_Text.mono _ _
      | exact wimplelaw1_awake.mono _
      | exact LeO.none _
      | refine LeO.ite ?_ ?_
      | refine LeO.bind ?_ (fun _ => ?_)
theorem wimplelaw1_NameCounts.mono : ∀ a0 a1 k, LeO (wimplelaw1_NameCounts.f k a0 a1) (wimplelaw1_NameCounts.f (k + 1) a0 a1) := by
  intro a0 a1 k
  obtain ⟨ih0, ih1, ih2, ih3⟩ := wimplelaw1_NameCounts.mono_l k
  unfold wimplelaw1_NameCounts.f
  repeat' first
      | (with_reducible exact ih0 _ _)
      | (with_reducible exact ih1 _ _ _)
      | (with_reducible exact ih2 _ _ _ _ _)
      | (with_reducible exact ih3 _ _ _ _ _ _)
      | (with_reducible exact name_Count.mono _ _)
      | (with_reducible exact name_May.mono _ _)
      | (with_reducible exact name_Text.mono _ _)
      | (with_reducible exact wimplelaw1_awake.mono _)
      | (with_reducible exact LeO.refl _)
      | (with_reducible exact LeO.none _)
      | (with_reducible refine LeO.ite ?_ ?_)
      | (with_reducible refine LeO.bind ?_ (fun _ => ?_))
      | exact ih0 _ _
      | exact ih1 _ _ _
      | exact ih2 _ _ _ _ _
      | exact ih3 _ _ _ _ _ _
      | exact name_Count.mono _ _
      | exact name_May.mono _ _
      | exact name_Text.mono _ _
      | exact wimplelaw1_awake.mono _
      | exact LeO.none _
      | refine LeO.ite ?_ ?_
      | refine LeO.bind ?_ (fun _ => ?_)
set_option maxHeartbeats 8000000 in
set_option maxRecDepth 100000 in
theorem wimplelaw1_NameCounts.calls (k : Nat) (a0 : ByteArray) (a1 : ByteArray) (r : Bool) (w : World) (h : wimplelaw1_NameCounts.f k a0 a1 = some r) :
    Calls Try.prog 6 #[.string a0, .string a1] w fun e w' => e = .returned (.bool r) ∧ Below w.heap.size w w' := by
  have HB := Aside0.mk (Below.refl w.heap.size w)
  have H : ((wimplelaw1_awake.f k).bind fun t248 => (if t248 = true then (if (a1.size : Int) > 40 then (if 0 ≤ 40 then (if 40 ≤ (a1.size : Int) then (wimplelaw1_NameCounts.j0 k a0 (a1.extract 0 40)) else (none)) else (none)) else (wimplelaw1_NameCounts.j0 k a0 a1)) else (some false))) = some r := h
  clear h
  replace H := Option.bind_eq_some_iff.mp H
  obtain ⟨t248, A30, H⟩ := H
  replace H : (if t248 = true then (if (a1.size : Int) > 40 then (if 0 ≤ 40 then (if 40 ≤ (a1.size : Int) then (wimplelaw1_NameCounts.j0 k a0 (a1.extract 0 40)) else (none)) else (none)) else (wimplelaw1_NameCounts.j0 k a0 a1)) else (some false)) = some r := H
  have A3 := Aside0.mk A30
  clear A30
  by_cases c4 : t248 = true
  · subst c4
    have H1 : (if (a1.size : Int) > 40 then (if 0 ≤ 40 then (if 40 ≤ (a1.size : Int) then (wimplelaw1_NameCounts.j0 k a0 (a1.extract 0 40)) else (none)) else (none)) else (wimplelaw1_NameCounts.j0 k a0 a1)) = some r := by rw [if_pos rfl] at H; exact H
    clear H
    have H := H1
    clear H1
    have HC5 := Aside0.mk H
    clear H
    go_enter Try.func6, Try.ntmps6
    go_upto_if 18 with (first | ((with_reducible refine gate_callee (f := 18) rfl ?_); refine goesL_ (some 13) rfl rfl Try.func18 (by kernel_rfl) rfl #[] rfl (by (try simp only [List.map_toArray, List.map_cons, List.map_nil]); first | done | rfl | (simp only [List.length_drop, List.length_take]; rfl)) ?_; (with_reducible refine (wimplelaw1_awake.calls k  true _ A3.out).mono ?_); rintro e w6 ⟨rfl, hb⟩; refine ⟨_, rfl, ?_⟩; have n0_ := Aside0.mk (below_step (by repeat (first | (with_reducible first | exact HB.out | apply below_alloc | apply pw_below_drewN | apply below_drew1) | exact HB.out)) hb); clear HB; have HB := n0_; clear n0_; (try clear hb); (try clear hb2); (try clear hk); (try clear hi)))
    (try simp only [Act.put, List.setIfInBounds_toArray, List.set_cons_zero, List.set_cons_succ])
    go_cut [5] (fun v5 wc => ∃ (kq : Nat) (x5_4 : ByteArray), v5 = .string x5_4 ∧ Aside0 (wimplelaw1_NameCounts.j0 kq a0 x5_4 = some r) ∧ Aside0 (kq ≤ k) ∧ Aside0 (Below w.heap.size w wc))
    case first =>
      have H := HC5.out
      clear HC5
      by_cases c7 : (a1.size : Int) > 40
      · rw [if_pos c7] at H
        have c7b0 : decide (40 < (a1.size : Int)) = true := decide_eq_true c7
        have c7b1 : decide (40 < a1.size) = true := decide_eq_true (by omega)
        clear c7
        (first | rw [c7b0] | (simp only [i64_w, i32_w]; rw [c7b0]) | skip)
        by_cases c8 : 0 ≤ 40
        · rw [if_pos c8] at H
          have c8b0 := eq_true c8
          have c8b1 : decide (0 ≤ 40) = true := decide_eq_true c8
          clear c8
          by_cases c9 : 40 ≤ (a1.size : Int)
          · rw [if_pos c9] at H
            have c9b0 := eq_true c9
            have c9b1 : decide (40 ≤ (a1.size : Int)) = true := decide_eq_true c9
            clear c9
            have H' := Aside0.mk H
            clear H
            go_wp2
            go_meet
            case rel => exact ⟨_, (a1.extract 0 40), (by first | rfl | (simp; done) | (simp [*]; done) | (simp [ByteArray.size_append]; exact Iff.rfl)), H', ⟨by first | omega | exact Nat.le_refl _⟩, ⟨by repeat (first | (with_reducible first | exact HB.out | apply below_alloc | apply pw_below_drewN | apply below_drew1) | exact HB.out)⟩⟩
          · rw [if_neg c9] at H
            exact absurd H (by simp)
        · rw [if_neg c8] at H
          exact absurd H (by simp)
      · rw [if_neg c7] at H
        have c7b0 : decide (40 < (a1.size : Int)) = false := decide_eq_false c7
        have c7b1 : decide (40 < a1.size) = false := decide_eq_false (by omega)
        clear c7
        (first | rw [c7b0] | (simp only [i64_w, i32_w]; rw [c7b0]) | skip)
        have H' := Aside0.mk H
        clear H
        go_wp2
        go_meet
        case rel => exact ⟨_, (a1), (by first | rfl | (simp; done) | (simp [*]; done) | (simp [ByteArray.size_append]; exact Iff.rfl)), H', ⟨by first | omega | exact Nat.le_refl _⟩, ⟨by repeat (first | (with_reducible first | exact HB.out | apply below_alloc | apply pw_below_drewN | apply below_drew1) | exact HB.out)⟩⟩
    case rest =>
      clear HC5
      try clear c1
      try clear p2
      try clear c4
      try clear c6
      try clear c7
      try clear c7b0
      try clear c7b1
      try clear c8
      try clear c8b0
      try clear c8b1
      try clear c9
      try clear c9b0
      try clear c9b1
      obtain ⟨kq, x5_4, rfl, HA, HJ4, HB⟩ := hcut
      cases kq with
      | zero => exact absurd HA.out (by simp [wimplelaw1_NameCounts.j0])
      | succ kj4 =>
        have H := HA.out
        clear HA
        simp only [wimplelaw1_NameCounts.j0] at H
        have HC10 := Aside0.mk H
        clear H
        go_upto_region 6 with (fail)
        go_cut [35] (fun v35 wc => ∃ (kq : Nat) (x35_9 : Bool), v35 = .bool x35_9 ∧ Aside0 (wimplelaw1_NameCounts.j1 kq a0 x5_4 x35_9 = some r) ∧ Aside0 (kq ≤ kj4) ∧ Aside0 (Below w.heap.size w wc))
        case first =>
          have H := HC10.out
          clear HC10
          replace H := Option.bind_eq_some_iff.mp H
          obtain ⟨t249, A110, H⟩ := H
          replace H : (if t249 = true then (if x5_4.toList = ([] : List UInt8) then (wimplelaw1_NameCounts.j1 kj4 a0 x5_4 true) else (wimplelaw1_NameCounts.j1 kj4 a0 x5_4 (decide ((wrap64 ((a0.size : Int) + (x5_4.size : Int))) > 200)))) else (wimplelaw1_NameCounts.j1 kj4 a0 x5_4 true)) = some r := H
          have A11 := Aside0.mk A110
          clear A110
          by_cases c12 : t249 = true
          · subst c12
            have H1 : (if x5_4.toList = ([] : List UInt8) then (wimplelaw1_NameCounts.j1 kj4 a0 x5_4 true) else (wimplelaw1_NameCounts.j1 kj4 a0 x5_4 (decide ((wrap64 ((a0.size : Int) + (x5_4.size : Int))) > 200)))) = some r := by rw [if_pos rfl] at H; exact H
            clear H
            have H := H1
            clear H1
            by_cases c13 : x5_4.toList = ([] : List UInt8)
            · rw [if_pos c13] at H
              have c13b0 : (x5_4.toList == ([] : List UInt8)) = true := beq_iff_eq.mpr c13
              have c13b1 : (x5_4.toList != ([] : List UInt8)) = false := bne_eq_false_iff_eq.mpr c13
              clear c13
              (first | rw [c13b0] | (simp only [i64_w, i32_w]; rw [c13b0]) | skip)
              have H' := Aside0.mk H
              clear H
              go_wp2_with (first | ((with_reducible refine gate_callee (f := 14) rfl ?_); refine goesL_ (some 22) rfl rfl Try.func14 (by kernel_rfl) rfl #[.string a0] rfl (by (try simp only [List.map_toArray, List.map_cons, List.map_nil]); first | done | rfl | (simp only [List.length_drop, List.length_take]; rfl)) ?_; (with_reducible refine (name_May.calls kj4 a0 true _ A11.out).mono ?_); rintro e w14 ⟨rfl, hb⟩; refine ⟨_, rfl, ?_⟩; have n0_ := Aside0.mk (below_step (by repeat (first | (with_reducible first | exact HB.out | apply below_alloc | apply pw_below_drewN | apply below_drew1) | exact HB.out)) hb); clear HB; have HB := n0_; clear n0_; (try clear hb); (try clear hb2); (try clear hk); (try clear hi)))
              go_meet
              case rel => exact ⟨_, (true), (by first | rfl | (simp; done) | (simp [*]; done) | (simp [ByteArray.size_append]; exact Iff.rfl)), H', ⟨by have := HJ4.out; first | omega | exact Nat.le_refl _⟩, ⟨by repeat (first | (with_reducible first | exact HB.out | apply below_alloc | apply pw_below_drewN | apply below_drew1) | exact HB.out)⟩⟩
            · rw [if_neg c13] at H
              have c13b0 : (x5_4.toList == ([] : List UInt8)) = false := beq_eq_false_iff_ne.mpr c13
              have c13b1 : (x5_4.toList != ([] : List UInt8)) = true := bne_iff_ne.mpr c13
              (first | rw [c13b0] | (simp only [i64_w, i32_w]; rw [c13b0]) | skip)
              have H' := Aside0.mk H
              clear H
              go_wp2_with (first | ((with_reducible refine gate_callee (f := 14) rfl ?_); refine goesL_ (some 22) rfl rfl Try.func14 (by kernel_rfl) rfl #[.string a0] rfl (by (try simp only [List.map_toArray, List.map_cons, List.map_nil]); first | done | rfl | (simp only [List.length_drop, List.length_take]; rfl)) ?_; (with_reducible refine (name_May.calls kj4 a0 true _ A11.out).mono ?_); rintro e w15 ⟨rfl, hb⟩; refine ⟨_, rfl, ?_⟩; have n0_ := Aside0.mk (below_step (by repeat (first | (with_reducible first | exact HB.out | apply below_alloc | apply pw_below_drewN | apply below_drew1) | exact HB.out)) hb); clear HB; have HB := n0_; clear n0_; (try clear hb); (try clear hb2); (try clear hk); (try clear hi)))
              go_meet
              case rel => exact ⟨_, (decide ((wrap64 ((a0.size : Int) + (x5_4.size : Int))) > 200)), (by first | rfl | (simp; done) | (simp [*]; done) | (simp [ByteArray.size_append]; exact Iff.rfl)), H', ⟨by have := HJ4.out; first | omega | exact Nat.le_refl _⟩, ⟨by repeat (first | (with_reducible first | exact HB.out | apply below_alloc | apply pw_below_drewN | apply below_drew1) | exact HB.out)⟩⟩
          · replace c12 := Bool.eq_false_iff.mpr c12
            subst c12
            have H1 : (wimplelaw1_NameCounts.j1 kj4 a0 x5_4 true) = some r := by rw [if_neg (show ¬ (false = true) by decide)] at H; exact H
            clear H
            have H := H1
            clear H1
            have H' := Aside0.mk H
            clear H
            go_wp2_with (first | ((with_reducible refine gate_callee (f := 14) rfl ?_); refine goesL_ (some 22) rfl rfl Try.func14 (by kernel_rfl) rfl #[.string a0] rfl (by (try simp only [List.map_toArray, List.map_cons, List.map_nil]); first | done | rfl | (simp only [List.length_drop, List.length_take]; rfl)) ?_; (with_reducible refine (name_May.calls kj4 a0 false _ A11.out).mono ?_); rintro e w16 ⟨rfl, hb⟩; refine ⟨_, rfl, ?_⟩; have n0_ := Aside0.mk (below_step (by repeat (first | (with_reducible first | exact HB.out | apply below_alloc | apply pw_below_drewN | apply below_drew1) | exact HB.out)) hb); clear HB; have HB := n0_; clear n0_; (try clear hb); (try clear hb2); (try clear hk); (try clear hi)))
            go_meet
            case rel => exact ⟨_, (true), (by first | rfl | (simp; done) | (simp [*]; done) | (simp [ByteArray.size_append]; exact Iff.rfl)), H', ⟨by have := HJ4.out; first | omega | exact Nat.le_refl _⟩, ⟨by repeat (first | (with_reducible first | exact HB.out | apply below_alloc | apply pw_below_drewN | apply below_drew1) | exact HB.out)⟩⟩
        case rest =>
          clear HC10
          try clear c1
          try clear p2
          try clear c4
          try clear c6
          try clear p6
          try clear c7
          try clear c7b0
          try clear c7b1
          try clear c8
          try clear c8b0
          try clear c8b1
          try clear c9
          try clear c9b0
          try clear c9b1
          try clear c12
          try clear c13
          try clear c13b0
          try clear c13b1
          try clear c14
          try clear p2
          obtain ⟨kq, x35_9, rfl, HA, HJ9, HB⟩ := hcut
          cases kq with
          | zero => exact absurd HA.out (by simp [wimplelaw1_NameCounts.j1])
          | succ kj9 =>
            have H := HA.out
            clear HA
            simp only [wimplelaw1_NameCounts.j1] at H
            by_cases c17 : x35_9 = true
            · subst c17
              have H1 : (some true) = some r := by rw [if_pos rfl] at H; exact H
              clear H
              have H := H1
              clear H1
              obtain rfl := Option.some.inj H
              go_wp2
              go_ret
              exact ⟨by first | rfl | (simp [errW_none, errW_some] <;> rfl) | (simp [*, errW_none, errW_some] <;> rfl), by repeat (first | (with_reducible first | exact HB.out | apply below_alloc | apply pw_below_drewN | apply below_drew1) | exact HB.out)⟩
            · replace c17 := Bool.eq_false_iff.mpr c17
              subst c17
              have H1 : ((some (([((x5_4.size : Int)) % 256] : List Int) : List Int)).bind fun y250 => (if (strOfNums y250).size + x5_4.size ≤ 9223372036854775807 then (if ((strOfNums y250) ++ x5_4).size + a0.size ≤ 9223372036854775807 then ((name_Text.f kj9 a0).bind fun bt253 => ((name_Text.f kj9 (((strOfNums y250) ++ x5_4) ++ a0)).bind fun bt255 => ((wimplelaw0_Num.f bt253.2).bind fun t257 => (if t257 = 0 then ((wimplelaw0_Num.f bt255.2).bind fun t258 => (if t258 = 0 then ((name_Count.f kj9 (((strOfNums y250) ++ x5_4) ++ a0)).bind fun t259 => ((name_Count.f kj9 a0).bind fun t260 => (if t259 = (wrap64 (t260 + 1)) then ((name_May.f kj9 (((strOfNums y250) ++ x5_4) ++ a0)).bind fun t261 => (wimplelaw1_NameCounts.j2 kj9 a0 (((strOfNums y250) ++ x5_4) ++ a0) bt253.1 bt255.1 (!t261))) else (wimplelaw1_NameCounts.j2 kj9 a0 (((strOfNums y250) ++ x5_4) ++ a0) bt253.1 bt255.1 true)))) else (wimplelaw1_NameCounts.j2 kj9 a0 (((strOfNums y250) ++ x5_4) ++ a0) bt253.1 bt255.1 true))) else (wimplelaw1_NameCounts.j2 kj9 a0 (((strOfNums y250) ++ x5_4) ++ a0) bt253.1 bt255.1 true))))) else (none)) else (none))) = some r := by rw [if_neg (show ¬ (false = true) by decide)] at H; exact H
              clear H
              have H := H1
              clear H1
              obtain ⟨y250, hy250⟩ : ∃ y_ : List Int, y_ = (([((x5_4.size : Int)) % 256] : List Int)) := ⟨_, rfl⟩
              replace H : (if (strOfNums y250).size + x5_4.size ≤ 9223372036854775807 then (if ((strOfNums y250) ++ x5_4).size + a0.size ≤ 9223372036854775807 then ((name_Text.f kj9 a0).bind fun bt253 => ((name_Text.f kj9 (((strOfNums y250) ++ x5_4) ++ a0)).bind fun bt255 => ((wimplelaw0_Num.f bt253.2).bind fun t257 => (if t257 = 0 then ((wimplelaw0_Num.f bt255.2).bind fun t258 => (if t258 = 0 then ((name_Count.f kj9 (((strOfNums y250) ++ x5_4) ++ a0)).bind fun t259 => ((name_Count.f kj9 a0).bind fun t260 => (if t259 = (wrap64 (t260 + 1)) then ((name_May.f kj9 (((strOfNums y250) ++ x5_4) ++ a0)).bind fun t261 => (wimplelaw1_NameCounts.j2 kj9 a0 (((strOfNums y250) ++ x5_4) ++ a0) bt253.1 bt255.1 (!t261))) else (wimplelaw1_NameCounts.j2 kj9 a0 (((strOfNums y250) ++ x5_4) ++ a0) bt253.1 bt255.1 true)))) else (wimplelaw1_NameCounts.j2 kj9 a0 (((strOfNums y250) ++ x5_4) ++ a0) bt253.1 bt255.1 true))) else (wimplelaw1_NameCounts.j2 kj9 a0 (((strOfNums y250) ++ x5_4) ++ a0) bt253.1 bt255.1 true))))) else (none)) else (none)) = some r := by first | (rw [hy250]; with_reducible exact H) | (have H2_ := (Option.bind_some _ _).symm.trans H; rw [hy250]; with_reducible exact H2_) | (have H2_ := (Option.bind_some _ _).symm.trans H; with_reducible exact H2_) | with_reducible exact H | (rw [hy250]; exact H) | exact H
              have Ny250 := Aside0.mk hy250
              clear hy250
              by_cases c18 : (strOfNums y250).size + x5_4.size ≤ 9223372036854775807
              · rw [if_pos c18] at H
                have c18b0 := eq_true c18
                have c18b1 : decide ((strOfNums y250).size + x5_4.size ≤ 9223372036854775807) = true := decide_eq_true c18
                try have c18b2 : (9223372036854775807 < (strOfNums y250).size + x5_4.size) = False := eq_false (Nat.not_lt.2 c18)
                by_cases c19 : ((strOfNums y250) ++ x5_4).size + a0.size ≤ 9223372036854775807
                · rw [if_pos c19] at H
                  have c19b0 := eq_true c19
                  have c19b1 : decide (((strOfNums y250) ++ x5_4).size + a0.size ≤ 9223372036854775807) = true := decide_eq_true c19
                  try have c19b2 : (9223372036854775807 < ((strOfNums y250) ++ x5_4).size + a0.size) = False := eq_false (Nat.not_lt.2 c19)
                  replace H := Option.bind_eq_some_iff.mp H
                  obtain ⟨⟨t253, t254⟩, A200, H⟩ := H
                  replace H : ((name_Text.f kj9 (((strOfNums y250) ++ x5_4) ++ a0)).bind fun bt255 => ((wimplelaw0_Num.f t254).bind fun t257 => (if t257 = 0 then ((wimplelaw0_Num.f bt255.2).bind fun t258 => (if t258 = 0 then ((name_Count.f kj9 (((strOfNums y250) ++ x5_4) ++ a0)).bind fun t259 => ((name_Count.f kj9 a0).bind fun t260 => (if t259 = (wrap64 (t260 + 1)) then ((name_May.f kj9 (((strOfNums y250) ++ x5_4) ++ a0)).bind fun t261 => (wimplelaw1_NameCounts.j2 kj9 a0 (((strOfNums y250) ++ x5_4) ++ a0) t253 bt255.1 (!t261))) else (wimplelaw1_NameCounts.j2 kj9 a0 (((strOfNums y250) ++ x5_4) ++ a0) t253 bt255.1 true)))) else (wimplelaw1_NameCounts.j2 kj9 a0 (((strOfNums y250) ++ x5_4) ++ a0) t253 bt255.1 true))) else (wimplelaw1_NameCounts.j2 kj9 a0 (((strOfNums y250) ++ x5_4) ++ a0) t253 bt255.1 true)))) = some r := H
                  have A20 := Aside0.mk A200
                  clear A200
                  replace H := Option.bind_eq_some_iff.mp H
                  obtain ⟨⟨t255, t256⟩, A210, H⟩ := H
                  replace H : ((wimplelaw0_Num.f t254).bind fun t257 => (if t257 = 0 then ((wimplelaw0_Num.f t256).bind fun t258 => (if t258 = 0 then ((name_Count.f kj9 (((strOfNums y250) ++ x5_4) ++ a0)).bind fun t259 => ((name_Count.f kj9 a0).bind fun t260 => (if t259 = (wrap64 (t260 + 1)) then ((name_May.f kj9 (((strOfNums y250) ++ x5_4) ++ a0)).bind fun t261 => (wimplelaw1_NameCounts.j2 kj9 a0 (((strOfNums y250) ++ x5_4) ++ a0) t253 t255 (!t261))) else (wimplelaw1_NameCounts.j2 kj9 a0 (((strOfNums y250) ++ x5_4) ++ a0) t253 t255 true)))) else (wimplelaw1_NameCounts.j2 kj9 a0 (((strOfNums y250) ++ x5_4) ++ a0) t253 t255 true))) else (wimplelaw1_NameCounts.j2 kj9 a0 (((strOfNums y250) ++ x5_4) ++ a0) t253 t255 true))) = some r := H
                  have A21 := Aside0.mk A210
                  clear A210
                  have HC22 := Aside0.mk H
                  clear H
                  go_upto_region 11 with (first | ((with_reducible refine gate_dst (N := 39) rfl ?_); (try (refine gate_guard (by rfl) ?_; dsimp only)); refine Kd.R_lit (Kd.int .u8) _ 5 ?hg (N := 39) ?hd (xs := ([((x5_4.size : Int)) % 256] : List Int)) (inner := [.int .u8 (((x5_4.size : Int)) % 256)]) (ok := fun _ => True) (okp := fun _ => True) ?hr ?hp (fun _ hk => hk) trivial (Below.refl _ _) (Nat.le_refl _) (by simp) ?_; (case hd => rfl); (case hg => rfl); (case hr => first | (go_simp; done) | (go_simp; rfl)); (case hp => exact (Reps.one (show Kd.M (Kd.int .u8) _ _ _ (((x5_4.size : Int)) % 256) [.int .u8 (((x5_4.size : Int)) % 256)] from rfl) (Reps.none _ _))); intro v251 w23 ho24 hb hg_ hnew_; clear hg_ hnew_; (first | rw [← Ny250.out] at ho24 | (simp only [Int.reduceToNat] at ho24; rw [← Ny250.out] at ho24)); have n0_ := Aside0.mk (Kd.R_lower ho24 (below_size (by repeat (first | (with_reducible first | exact HB.out | apply below_alloc | apply pw_below_drewN | apply below_drew1) | exact HB.out)))); have n1_ := Aside0.mk (below_step (by repeat (first | (with_reducible first | exact HB.out | apply below_alloc | apply pw_below_drewN | apply below_drew1) | exact HB.out)) hb); clear HB; have HO252 := n0_; have HB := n1_; clear n0_ n1_; clear hb ho24; have hcv25 := own_string (P := Try.prog) Try.underlying32 Try.underlying5 Try.underlying9 (Kd.own_of_R HO252.out)) | ((with_reducible refine gate_callee (f := 9) rfl ?_); refine goesL_ (some 47) rfl rfl Try.func9 (by kernel_rfl) rfl #[.string a0] rfl (by (try simp only [List.map_toArray, List.map_cons, List.map_nil]); first | done | rfl | (simp only [List.length_drop, List.length_take]; rfl)) ?_; (with_reducible refine (name_Text.calls kj9 a0 t253 t254 _ A20.out).mono ?_); rintro e w26 ⟨rfl, hb⟩; refine ⟨_, rfl, ?_⟩; have n0_ := Aside0.mk (Kd.R_below (by (with_reducible repeat (first | apply Kd.R_alloc | apply Kd.R_drewN | apply Kd.R_drew)); exact HO252.out) hb); have n1_ := Aside0.mk (below_step (by repeat (first | (with_reducible first | exact HB.out | apply below_alloc | apply pw_below_drewN | apply below_drew1) | exact HB.out)) hb); clear HO252; clear HB; have HO252 := n0_; have HB := n1_; clear n0_ n1_; (try clear hb); (try clear hb2); (try clear hk); (try clear hi)) | ((with_reducible refine gate_callee (f := 9) rfl ?_); refine goesL_ (some 52) rfl rfl Try.func9 (by kernel_rfl) rfl #[.string (((strOfNums y250) ++ x5_4) ++ a0)] rfl (by (try simp only [List.map_toArray, List.map_cons, List.map_nil]); first | done | rfl | (simp only [List.length_drop, List.length_take]; rfl)) ?_; (with_reducible refine (name_Text.calls kj9 (((strOfNums y250) ++ x5_4) ++ a0) t255 t256 _ A21.out).mono ?_); rintro e w27 ⟨rfl, hb⟩; refine ⟨_, rfl, ?_⟩; have n0_ := Aside0.mk (Kd.R_below (by (with_reducible repeat (first | apply Kd.R_alloc | apply Kd.R_drewN | apply Kd.R_drew)); exact HO252.out) hb); have n1_ := Aside0.mk (below_step (by repeat (first | (with_reducible first | exact HB.out | apply below_alloc | apply pw_below_drewN | apply below_drew1) | exact HB.out)) hb); clear HO252; clear HB; have HO252 := n0_; have HB := n1_; clear n0_ n1_; (try clear hb); (try clear hb2); (try clear hk); (try clear hi)))
                  (try simp only [Act.put, List.setIfInBounds_toArray, List.set_cons_zero, List.set_cons_succ])
                  go_cut [75] (fun v75 wc => ∃ (kq : Nat) (x75_21 : Bool), v75 = .bool x75_21 ∧ Aside0 (wimplelaw1_NameCounts.j2 kq a0 (((strOfNums y250) ++ x5_4) ++ a0) t253 t255 x75_21 = some r) ∧ Aside0 (kq ≤ kj9) ∧ Aside0 (Below w.heap.size w wc))
                  case first =>
                    have H := HC22.out
                    clear HC22
                    replace H := Option.bind_eq_some_iff.mp H
                    obtain ⟨t257, A280, H⟩ := H
                    replace H : (if t257 = 0 then ((wimplelaw0_Num.f t256).bind fun t258 => (if t258 = 0 then ((name_Count.f kj9 (((strOfNums y250) ++ x5_4) ++ a0)).bind fun t259 => ((name_Count.f kj9 a0).bind fun t260 => (if t259 = (wrap64 (t260 + 1)) then ((name_May.f kj9 (((strOfNums y250) ++ x5_4) ++ a0)).bind fun t261 => (wimplelaw1_NameCounts.j2 kj9 a0 (((strOfNums y250) ++ x5_4) ++ a0) t253 t255 (!t261))) else (wimplelaw1_NameCounts.j2 kj9 a0 (((strOfNums y250) ++ x5_4) ++ a0) t253 t255 true)))) else (wimplelaw1_NameCounts.j2 kj9 a0 (((strOfNums y250) ++ x5_4) ++ a0) t253 t255 true))) else (wimplelaw1_NameCounts.j2 kj9 a0 (((strOfNums y250) ++ x5_4) ++ a0) t253 t255 true)) = some r := H
                    have A28 := Aside0.mk A280
                    clear A280
                    by_cases c29 : t257 = 0
                    · rw [if_pos c29] at H
                      have c29b0 : (t257 == 0) = true := beq_iff_eq.mpr c29
                      have c29b1 : (t257 != 0) = false := bne_eq_false_iff_eq.mpr c29
                      clear c29
                      (first | rw [c29b0] | (simp only [i64_w, i32_w]; rw [c29b0]) | skip)
                      replace H := Option.bind_eq_some_iff.mp H
                      obtain ⟨t258, A300, H⟩ := H
                      replace H : (if t258 = 0 then ((name_Count.f kj9 (((strOfNums y250) ++ x5_4) ++ a0)).bind fun t259 => ((name_Count.f kj9 a0).bind fun t260 => (if t259 = (wrap64 (t260 + 1)) then ((name_May.f kj9 (((strOfNums y250) ++ x5_4) ++ a0)).bind fun t261 => (wimplelaw1_NameCounts.j2 kj9 a0 (((strOfNums y250) ++ x5_4) ++ a0) t253 t255 (!t261))) else (wimplelaw1_NameCounts.j2 kj9 a0 (((strOfNums y250) ++ x5_4) ++ a0) t253 t255 true)))) else (wimplelaw1_NameCounts.j2 kj9 a0 (((strOfNums y250) ++ x5_4) ++ a0) t253 t255 true)) = some r := H
                      have A30 := Aside0.mk A300
                      clear A300
                      by_cases c31 : t258 = 0
                      · rw [if_pos c31] at H
                        have c31b0 : (t258 == 0) = true := beq_iff_eq.mpr c31
                        have c31b1 : (t258 != 0) = false := bne_eq_false_iff_eq.mpr c31
                        clear c31
                        replace H := Option.bind_eq_some_iff.mp H
                        obtain ⟨t259, A320, H⟩ := H
                        replace H : ((name_Count.f kj9 a0).bind fun t260 => (if t259 = (wrap64 (t260 + 1)) then ((name_May.f kj9 (((strOfNums y250) ++ x5_4) ++ a0)).bind fun t261 => (wimplelaw1_NameCounts.j2 kj9 a0 (((strOfNums y250) ++ x5_4) ++ a0) t253 t255 (!t261))) else (wimplelaw1_NameCounts.j2 kj9 a0 (((strOfNums y250) ++ x5_4) ++ a0) t253 t255 true))) = some r := H
                        have A32 := Aside0.mk A320
                        clear A320
                        replace H := Option.bind_eq_some_iff.mp H
                        obtain ⟨t260, A330, H⟩ := H
                        replace H : (if t259 = (wrap64 (t260 + 1)) then ((name_May.f kj9 (((strOfNums y250) ++ x5_4) ++ a0)).bind fun t261 => (wimplelaw1_NameCounts.j2 kj9 a0 (((strOfNums y250) ++ x5_4) ++ a0) t253 t255 (!t261))) else (wimplelaw1_NameCounts.j2 kj9 a0 (((strOfNums y250) ++ x5_4) ++ a0) t253 t255 true)) = some r := H
                        have A33 := Aside0.mk A330
                        clear A330
                        by_cases c34 : t259 = (wrap64 (t260 + 1))
                        · rw [if_pos c34] at H
                          have c34b0 : (t259 == (wrap64 (t260 + 1))) = true := beq_iff_eq.mpr c34
                          have c34b1 : (t259 != (wrap64 (t260 + 1))) = false := bne_eq_false_iff_eq.mpr c34
                          clear c34
                          replace H := Option.bind_eq_some_iff.mp H
                          obtain ⟨t261, A350, H⟩ := H
                          replace H : (wimplelaw1_NameCounts.j2 kj9 a0 (((strOfNums y250) ++ x5_4) ++ a0) t253 t255 (!t261)) = some r := H
                          have A35 := Aside0.mk A350
                          clear A350
                          have H' := Aside0.mk H
                          clear H
                          go_wp2_with (first | ((with_reducible refine gate_callee (f := 13) rfl ?_); refine goesL_ (some 56) rfl rfl Try.func13 (by kernel_rfl) rfl #[.int .i64 t254] rfl (by (try simp only [List.map_toArray, List.map_cons, List.map_nil]); first | done | rfl | (simp only [List.length_drop, List.length_take]; rfl)) ?_; (with_reducible refine (wimplelaw0_Num.calls t254 t257 _ A28.out).mono ?_); rintro e w' ⟨rfl, ⟨nd, rfl⟩⟩; refine ⟨_, rfl, ?_⟩) | (go_at_call 13; (with_reducible refine (wimplelaw0_Num.calls t256 t258 _ A30.out).mono ?_); rintro e w' ⟨rfl, ⟨nd, rfl⟩⟩) | (go_at_call 16; (with_reducible refine (name_Count.calls kj9 (((strOfNums y250) ++ x5_4) ++ a0) t259 _ A32.out).mono ?_); rintro e w36 ⟨rfl, hb⟩; have n0_ := Aside0.mk (Kd.R_below (by (with_reducible repeat (first | apply Kd.R_alloc | apply Kd.R_drewN | apply Kd.R_drew)); exact HO252.out) hb); have n1_ := Aside0.mk (below_step (by repeat (first | (with_reducible first | exact HB.out | apply below_alloc | apply pw_below_drewN | apply below_drew1) | exact HB.out)) hb); clear HO252; clear HB; have HO252 := n0_; have HB := n1_; clear n0_ n1_; (try clear hb); (try clear hb2); (try clear hk); (try clear hi)) | (go_at_call 16; (with_reducible refine (name_Count.calls kj9 a0 t260 _ A33.out).mono ?_); rintro e w37 ⟨rfl, hb⟩; have n0_ := Aside0.mk (Kd.R_below (by (with_reducible repeat (first | apply Kd.R_alloc | apply Kd.R_drewN | apply Kd.R_drew)); exact HO252.out) hb); have n1_ := Aside0.mk (below_step (by repeat (first | (with_reducible first | exact HB.out | apply below_alloc | apply pw_below_drewN | apply below_drew1) | exact HB.out)) hb); clear HO252; clear HB; have HO252 := n0_; have HB := n1_; clear n0_ n1_; (try clear hb); (try clear hb2); (try clear hk); (try clear hi)) | (go_at_call 14; (with_reducible refine (name_May.calls kj9 (((strOfNums y250) ++ x5_4) ++ a0) t261 _ A35.out).mono ?_); rintro e w38 ⟨rfl, hb⟩; have n0_ := Aside0.mk (Kd.R_below (by (with_reducible repeat (first | apply Kd.R_alloc | apply Kd.R_drewN | apply Kd.R_drew)); exact HO252.out) hb); have n1_ := Aside0.mk (below_step (by repeat (first | (with_reducible first | exact HB.out | apply below_alloc | apply pw_below_drewN | apply below_drew1) | exact HB.out)) hb); clear HO252; clear HB; have HO252 := n0_; have HB := n1_; clear n0_ n1_; (try clear hb); (try clear hb2); (try clear hk); (try clear hi)))
                          go_meet
                          case rel => exact ⟨_, (!t261), (by first | rfl | (simp; done) | (simp [*]; done) | (simp [ByteArray.size_append]; exact Iff.rfl)), H', ⟨by have := HJ4.out; have := HJ9.out; first | omega | exact Nat.le_refl _⟩, ⟨by repeat (first | (with_reducible first | exact HB.out | apply below_alloc | apply pw_below_drewN | apply below_drew1) | exact HB.out)⟩⟩
                        · rw [if_neg c34] at H
                          have c34b0 : (t259 == (wrap64 (t260 + 1))) = false := beq_eq_false_iff_ne.mpr c34
                          have c34b1 : (t259 != (wrap64 (t260 + 1))) = true := bne_iff_ne.mpr c34
                          have H' := Aside0.mk H
                          clear H
                          go_wp2_with (first | ((with_reducible refine gate_callee (f := 13) rfl ?_); refine goesL_ (some 56) rfl rfl Try.func13 (by kernel_rfl) rfl #[.int .i64 t254] rfl (by (try simp only [List.map_toArray, List.map_cons, List.map_nil]); first | done | rfl | (simp only [List.length_drop, List.length_take]; rfl)) ?_; (with_reducible refine (wimplelaw0_Num.calls t254 t257 _ A28.out).mono ?_); rintro e w' ⟨rfl, ⟨nd, rfl⟩⟩; refine ⟨_, rfl, ?_⟩) | (go_at_call 13; (with_reducible refine (wimplelaw0_Num.calls t256 t258 _ A30.out).mono ?_); rintro e w' ⟨rfl, ⟨nd, rfl⟩⟩) | (go_at_call 16; (with_reducible refine (name_Count.calls kj9 (((strOfNums y250) ++ x5_4) ++ a0) t259 _ A32.out).mono ?_); rintro e w39 ⟨rfl, hb⟩; have n0_ := Aside0.mk (Kd.R_below (by (with_reducible repeat (first | apply Kd.R_alloc | apply Kd.R_drewN | apply Kd.R_drew)); exact HO252.out) hb); have n1_ := Aside0.mk (below_step (by repeat (first | (with_reducible first | exact HB.out | apply below_alloc | apply pw_below_drewN | apply below_drew1) | exact HB.out)) hb); clear HO252; clear HB; have HO252 := n0_; have HB := n1_; clear n0_ n1_; (try clear hb); (try clear hb2); (try clear hk); (try clear hi)) | (go_at_call 16; (with_reducible refine (name_Count.calls kj9 a0 t260 _ A33.out).mono ?_); rintro e w40 ⟨rfl, hb⟩; have n0_ := Aside0.mk (Kd.R_below (by (with_reducible repeat (first | apply Kd.R_alloc | apply Kd.R_drewN | apply Kd.R_drew)); exact HO252.out) hb); have n1_ := Aside0.mk (below_step (by repeat (first | (with_reducible first | exact HB.out | apply below_alloc | apply pw_below_drewN | apply below_drew1) | exact HB.out)) hb); clear HO252; clear HB; have HO252 := n0_; have HB := n1_; clear n0_ n1_; (try clear hb); (try clear hb2); (try clear hk); (try clear hi)))
                          go_meet
                          case rel => exact ⟨_, (true), (by first | rfl | (simp; done) | (simp [*]; done) | (simp [ByteArray.size_append]; exact Iff.rfl)), H', ⟨by have := HJ4.out; have := HJ9.out; first | omega | exact Nat.le_refl _⟩, ⟨by repeat (first | (with_reducible first | exact HB.out | apply below_alloc | apply pw_below_drewN | apply below_drew1) | exact HB.out)⟩⟩
                      · rw [if_neg c31] at H
                        have c31b0 : (t258 == 0) = false := beq_eq_false_iff_ne.mpr c31
                        have c31b1 : (t258 != 0) = true := bne_iff_ne.mpr c31
                        have H' := Aside0.mk H
                        clear H
                        go_wp2_with (first | ((with_reducible refine gate_callee (f := 13) rfl ?_); refine goesL_ (some 56) rfl rfl Try.func13 (by kernel_rfl) rfl #[.int .i64 t254] rfl (by (try simp only [List.map_toArray, List.map_cons, List.map_nil]); first | done | rfl | (simp only [List.length_drop, List.length_take]; rfl)) ?_; (with_reducible refine (wimplelaw0_Num.calls t254 t257 _ A28.out).mono ?_); rintro e w' ⟨rfl, ⟨nd, rfl⟩⟩; refine ⟨_, rfl, ?_⟩) | (go_at_call 13; (with_reducible refine (wimplelaw0_Num.calls t256 t258 _ A30.out).mono ?_); rintro e w' ⟨rfl, ⟨nd, rfl⟩⟩))
                        go_meet
                        case rel => exact ⟨_, (true), (by first | rfl | (simp; done) | (simp [*]; done) | (simp [ByteArray.size_append]; exact Iff.rfl)), H', ⟨by have := HJ4.out; have := HJ9.out; first | omega | exact Nat.le_refl _⟩, ⟨by repeat (first | (with_reducible first | exact HB.out | apply below_alloc | apply pw_below_drewN | apply below_drew1) | exact HB.out)⟩⟩
                    · rw [if_neg c29] at H
                      have c29b0 : (t257 == 0) = false := beq_eq_false_iff_ne.mpr c29
                      have c29b1 : (t257 != 0) = true := bne_iff_ne.mpr c29
                      (first | rw [c29b0] | (simp only [i64_w, i32_w]; rw [c29b0]) | skip)
                      have H' := Aside0.mk H
                      clear H
                      go_wp2_with (first | ((with_reducible refine gate_callee (f := 13) rfl ?_); refine goesL_ (some 56) rfl rfl Try.func13 (by kernel_rfl) rfl #[.int .i64 t254] rfl (by (try simp only [List.map_toArray, List.map_cons, List.map_nil]); first | done | rfl | (simp only [List.length_drop, List.length_take]; rfl)) ?_; (with_reducible refine (wimplelaw0_Num.calls t254 t257 _ A28.out).mono ?_); rintro e w' ⟨rfl, ⟨nd, rfl⟩⟩; refine ⟨_, rfl, ?_⟩))
                      go_meet
                      case rel => exact ⟨_, (true), (by first | rfl | (simp; done) | (simp [*]; done) | (simp [ByteArray.size_append]; exact Iff.rfl)), H', ⟨by have := HJ4.out; have := HJ9.out; first | omega | exact Nat.le_refl _⟩, ⟨by repeat (first | (with_reducible first | exact HB.out | apply below_alloc | apply pw_below_drewN | apply below_drew1) | exact HB.out)⟩⟩
                  case rest =>
                    clear HC22
                    try clear c1
                    try clear c2
                    try clear p2
                    try clear hcv2
                    try clear c3
                    try clear c4
                    try clear c6
                    try clear p6
                    try clear c7
                    try clear c7b0
                    try clear c7b1
                    try clear c8
                    try clear c8b0
                    try clear c8b1
                    try clear c9
                    try clear c9b0
                    try clear c9b1
                    try clear c12
                    try clear c13
                    try clear c13b0
                    try clear c13b1
                    try clear c14
                    try clear c17
                    try clear c18
                    try clear c18b0
                    try clear c18b1
                    try clear c18b2
                    try clear c19
                    try clear c19b0
                    try clear c19b1
                    try clear c19b2
                    try clear hcv25
                    try clear c29
                    try clear c29b0
                    try clear c29b1
                    try clear c31
                    try clear c31b0
                    try clear c31b1
                    try clear c34
                    try clear c34b0
                    try clear c34b1
                    try clear p2
                    try clear p6
                    obtain ⟨kq, x75_21, rfl, HA, HJ21, HB⟩ := hcut
                    cases kq with
                    | zero => exact absurd HA.out (by simp [wimplelaw1_NameCounts.j2])
                    | succ kj21 =>
                      have H := HA.out
                      clear HA
                      simp only [wimplelaw1_NameCounts.j2] at H
                      by_cases c41 : x75_21 = true
                      · subst c41
                        have H1 : (some false) = some r := by rw [if_pos rfl] at H; exact H
                        clear H
                        have H := H1
                        clear H1
                        obtain rfl := Option.some.inj H
                        go_wp2
                        go_ret
                        exact ⟨by first | rfl | (simp [errW_none, errW_some] <;> rfl) | (simp [*, errW_none, errW_some] <;> rfl), by repeat (first | (with_reducible first | exact HB.out | apply below_alloc | apply pw_below_drewN | apply below_drew1) | exact HB.out)⟩
                      · replace c41 := Bool.eq_false_iff.mpr c41
                        subst c41
                        have H1 : (wimplelaw1_NameCounts.l0 kj21 a0 (((strOfNums y250) ++ x5_4) ++ a0) t253 t255 0 0) = some r := by rw [if_neg (show ¬ (false = true) by decide)] at H; exact H
                        clear H
                        have H := H1
                        clear H1
                        have H' := Aside0.mk H
                        clear H
                        go_wp2
                        go_loopg [11, 12] kj21 (fun kq v11 v12 w' => ∃ (x11_4 : Int) (x12_4 : Int), v11 = .int .i64 x11_4 ∧ v12 = .int .i64 x12_4 ∧ Aside0 (wimplelaw1_NameCounts.l0 kq a0 (((strOfNums y250) ++ x5_4) ++ a0) t253 t255 x11_4 x12_4 = some r) ∧ Aside0 (kq ≤ kj21) ∧ Aside0 (Below w.heap.size w w'))
                        case atStart => exact ⟨(0), (0), (by first | rfl | (simp; done) | (simp [*]; done) | (simp [ByteArray.size_append]; exact Iff.rfl)), (by first | rfl | (simp; done) | (simp [*]; done) | (simp [ByteArray.size_append]; exact Iff.rfl)), H', ⟨Nat.le_refl _⟩, ⟨by repeat (first | (with_reducible first | exact HB.out | apply below_alloc | apply pw_below_drewN | apply below_drew1) | exact HB.out)⟩⟩
                        case round =>
                          clear H'
                          try clear c1
                          try clear c2
                          try clear p2
                          try clear hcv2
                          try clear c3
                          try clear c4
                          try clear c6
                          try clear p6
                          try clear c7
                          try clear c7b0
                          try clear c7b1
                          try clear c8
                          try clear c8b0
                          try clear c8b1
                          try clear c9
                          try clear c9b0
                          try clear c9b1
                          try clear c12
                          try clear c13
                          try clear c13b0
                          try clear c13b1
                          try clear c14
                          try clear c17
                          try clear c18
                          try clear c18b0
                          try clear c18b1
                          try clear c18b2
                          try clear c19
                          try clear c19b0
                          try clear c19b1
                          try clear c19b2
                          try clear hcv25
                          try clear c29
                          try clear c29b0
                          try clear c29b1
                          try clear c31
                          try clear c31b0
                          try clear c31b1
                          try clear c34
                          try clear c34b0
                          try clear c34b1
                          try clear c41
                          try clear p2
                          try clear p6
                          obtain ⟨x11_4, x12_4, rfl, rfl, HA, HK4, HB⟩ := hrel
                          cases gk with
                          | zero => exact absurd HA.out (by simp [wimplelaw1_NameCounts.l0])
                          | succ k4 =>
                            have H := HA.out
                            clear HA
                            simp only [wimplelaw1_NameCounts.l0] at H
                            by_cases c42 : x12_4 < (t255.size : Int)
                            · rw [if_pos c42] at H
                              have c42b0 : decide (x12_4 < (t255.size : Int)) = true := decide_eq_true c42
                              clear c42
                              by_cases c43 : 0 ≤ x12_4
                              · rw [if_pos c43] at H
                                have c43b0 : decide (0 ≤ x12_4) = true := decide_eq_true c43
                                clear c43
                                by_cases c45 : (bt t255 x12_4) = 46
                                · rw [if_pos c45] at H
                                  have c45b0 : ((bt t255 x12_4) == 46) = true := beq_iff_eq.mpr c45
                                  have c45b1 : ((bt t255 x12_4) != 46) = false := bne_eq_false_iff_eq.mpr c45
                                  clear c45
                                  have H' := Aside0.mk H
                                  clear H
                                  have p44 : 0 ≤ (x12_4 : Int) := of_decide_eq_true (by first | (with_reducible assumption) | assumption)
                                  have q44 : x12_4 < (t255.size : Int) := of_decide_eq_true (by first | (with_reducible assumption) | assumption)
                                  have hx44 := bt_at t255 x12_4
                                  replace p44 := eq_true p44
                                  replace q44 := eq_true q44
                                  go_wp2
                                  (try subst hji49); (try subst hji56); (try subst hji62)
                                  go_roundg k4
                                  case measure => have := HJ4.out; have := HJ9.out; have := HJ21.out; have := HK4.out; omega
                                  case rel => exact ⟨(wrap64 (x11_4 + 1)), (wrap64 (x12_4 + 1)), (by first | rfl | (simp; done) | (simp [*]; done) | (simp [ByteArray.size_append]; exact Iff.rfl)), (by first | rfl | (simp; done) | (simp [*]; done) | (simp [ByteArray.size_append]; exact Iff.rfl)), H', ⟨by have := HJ4.out; have := HJ9.out; have := HJ21.out; have := HK4.out; omega⟩, ⟨by repeat (first | (with_reducible first | exact HB.out | apply below_alloc | apply pw_below_drewN | apply below_drew1) | exact HB.out)⟩⟩
                                · rw [if_neg c45] at H
                                  have c45b0 : ((bt t255 x12_4) == 46) = false := beq_eq_false_iff_ne.mpr c45
                                  have c45b1 : ((bt t255 x12_4) != 46) = true := bne_iff_ne.mpr c45
                                  have H' := Aside0.mk H
                                  clear H
                                  have p44 : 0 ≤ (x12_4 : Int) := of_decide_eq_true (by first | (with_reducible assumption) | assumption)
                                  have q44 : x12_4 < (t255.size : Int) := of_decide_eq_true (by first | (with_reducible assumption) | assumption)
                                  have hx44 := bt_at t255 x12_4
                                  replace p44 := eq_true p44
                                  replace q44 := eq_true q44
                                  go_wp2
                                  (try subst hji49); (try subst hji56); (try subst hji62)
                                  go_roundg k4
                                  case measure => have := HJ4.out; have := HJ9.out; have := HJ21.out; have := HK4.out; omega
                                  case rel => exact ⟨(x11_4), (wrap64 (x12_4 + 1)), (by first | rfl | (simp; done) | (simp [*]; done) | (simp [ByteArray.size_append]; exact Iff.rfl)), (by first | rfl | (simp; done) | (simp [*]; done) | (simp [ByteArray.size_append]; exact Iff.rfl)), H', ⟨by have := HJ4.out; have := HJ9.out; have := HJ21.out; have := HK4.out; omega⟩, ⟨by repeat (first | (with_reducible first | exact HB.out | apply below_alloc | apply pw_below_drewN | apply below_drew1) | exact HB.out)⟩⟩
                              · rw [if_neg c43] at H
                                exact absurd H (by simp)
                            · rw [if_neg c42] at H
                              have c42b0 : decide (x12_4 < (t255.size : Int)) = false := decide_eq_false c42
                              clear c42
                              replace H := Option.bind_eq_some_iff.mp H
                              obtain ⟨t262, A460, H⟩ := H
                              replace H : (if x11_4 = t262 then (if a0.toList = ([0] : List UInt8) then (if 0 ≤ (wrap64 ((t255.size : Int) - 1)) then (if (wrap64 ((t255.size : Int) - 1)) < (t255.size : Int) then (if (bt t255 (wrap64 ((t255.size : Int) - 1))) = 46 then (some true) else (if (t255.size : Int) > (t253.size : Int) then (if 0 ≤ (wrap64 ((t255.size : Int) - (t253.size : Int))) then (if (wrap64 ((t255.size : Int) - (t253.size : Int))) ≤ (t255.size : Int) then (some ((t255.extract ((wrap64 ((t255.size : Int) - (t253.size : Int))) : Int).toNat t255.size).toList == t253.toList)) else (none)) else (none)) else (some false))) else (none)) else (none)) else (if (t255.size : Int) > (t253.size : Int) then (if 0 ≤ (wrap64 ((t255.size : Int) - (t253.size : Int))) then (if (wrap64 ((t255.size : Int) - (t253.size : Int))) ≤ (t255.size : Int) then (some ((t255.extract ((wrap64 ((t255.size : Int) - (t253.size : Int))) : Int).toNat t255.size).toList == t253.toList)) else (none)) else (none)) else (some false))) else (some false)) = some r := H
                              have A46 := Aside0.mk A460
                              clear A460
                              by_cases c47 : x11_4 = t262
                              · rw [if_pos c47] at H
                                have c47b0 : (x11_4 == t262) = true := beq_iff_eq.mpr c47
                                have c47b1 : (x11_4 != t262) = false := bne_eq_false_iff_eq.mpr c47
                                clear c47
                                by_cases c48 : a0.toList = ([0] : List UInt8)
                                · rw [if_pos c48] at H
                                  have c48b0 : (a0.toList == ([0] : List UInt8)) = true := beq_iff_eq.mpr c48
                                  have c48b1 : (a0.toList != ([0] : List UInt8)) = false := bne_eq_false_iff_eq.mpr c48
                                  clear c48
                                  obtain ⟨ji49, hji49⟩ : ∃ j_ : Int, (wrap64 ((t255.size : Int) - 1)) = j_ := ⟨_, rfl⟩
                                  replace H : (if 0 ≤ (ji49) then (if (ji49) < (t255.size : Int) then (if (bt t255 (ji49)) = 46 then (some true) else (if (t255.size : Int) > (t253.size : Int) then (if 0 ≤ (wrap64 ((t255.size : Int) - (t253.size : Int))) then (if (wrap64 ((t255.size : Int) - (t253.size : Int))) ≤ (t255.size : Int) then (some ((t255.extract ((wrap64 ((t255.size : Int) - (t253.size : Int))) : Int).toNat t255.size).toList == t253.toList)) else (none)) else (none)) else (some false))) else (none)) else (none)) = some r := by first | (rw [hji49] at H; exact H) | (simp only [hji49] at H ⊢; exact H)
                                  (try rw [hji49] at A46)
                                  have hji49w : (IntKind.i64.wrap ((t255.size : Int) - 1)) = ji49 := (i64_w _).trans hji49
                                  by_cases c50 : 0 ≤ (ji49)
                                  · rw [if_pos c50] at H
                                    have c50b0 : decide (0 ≤ (ji49)) = true := decide_eq_true c50
                                    clear c50
                                    by_cases c51 : (ji49) < (t255.size : Int)
                                    · rw [if_pos c51] at H
                                      have c51b0 : decide ((ji49) < (t255.size : Int)) = true := decide_eq_true c51
                                      clear c51
                                      by_cases c53 : (bt t255 (ji49)) = 46
                                      · rw [if_pos c53] at H
                                        have c53b0 : ((bt t255 (ji49)) == 46) = true := beq_iff_eq.mpr c53
                                        have c53b1 : ((bt t255 (ji49)) != 46) = false := bne_eq_false_iff_eq.mpr c53
                                        clear c53
                                        obtain rfl := Option.some.inj H
                                        go_wp2_with (first | ((with_reducible refine gate_callee (f := 16) rfl ?_); refine goesL_ (some 90) rfl rfl Try.func16 (by kernel_rfl) rfl #[.string (((strOfNums y250) ++ x5_4) ++ a0)] rfl (by (try simp only [List.map_toArray, List.map_cons, List.map_nil]); first | done | rfl | (simp only [List.length_drop, List.length_take]; rfl)) ?_; (with_reducible refine (name_Count.calls k4 (((strOfNums y250) ++ x5_4) ++ a0) t262 _ A46.out).mono ?_); rintro e w54 ⟨rfl, hb⟩; refine ⟨_, rfl, ?_⟩; have n0_ := Aside0.mk (below_step (by repeat (first | (with_reducible first | exact HB.out | apply below_alloc | apply pw_below_drewN | apply below_drew1) | exact HB.out)) hb); clear HB; have HB := n0_; clear n0_; (try clear hb); (try clear hb2); (try clear hk); (try clear hi); have p52 : 0 ≤ ((ji49) : Int) := of_decide_eq_true (by first | (with_reducible assumption) | assumption); have q52 : (ji49) < (t255.size : Int) := of_decide_eq_true (by first | (with_reducible assumption) | assumption); have hx52 := bt_at t255 (ji49); replace p52 := eq_true p52; replace q52 := eq_true q52))
                                        go_ret
                                        exact ⟨by first | rfl | (simp [errW_none, errW_some] <;> rfl) | (simp only [← hji49]; first | rfl | (simp [errW_none, errW_some] <;> rfl)) | (simp [*, errW_none, errW_some] <;> rfl), by repeat (first | (with_reducible first | exact HB.out | apply below_alloc | apply pw_below_drewN | apply below_drew1) | exact HB.out)⟩
                                      · rw [if_neg c53] at H
                                        have c53b0 : ((bt t255 (ji49)) == 46) = false := beq_eq_false_iff_ne.mpr c53
                                        have c53b1 : ((bt t255 (ji49)) != 46) = true := bne_iff_ne.mpr c53
                                        by_cases c55 : (t255.size : Int) > (t253.size : Int)
                                        · rw [if_pos c55] at H
                                          have c55b0 : decide ((t253.size : Int) < (t255.size : Int)) = true := decide_eq_true c55
                                          have c55b1 : decide (t253.size < t255.size) = true := decide_eq_true (Int.ofNat_lt.mp c55)
                                          clear c55
                                          obtain ⟨ji56, hji56⟩ : ∃ j_ : Int, (wrap64 ((t255.size : Int) - (t253.size : Int))) = j_ := ⟨_, rfl⟩
                                          replace H : (if 0 ≤ (ji56) then (if (ji56) ≤ (t255.size : Int) then (some ((t255.extract ((ji56) : Int).toNat t255.size).toList == t253.toList)) else (none)) else (none)) = some r := by first | (rw [hji56] at H; exact H) | (simp only [hji56] at H ⊢; exact H)
                                          (try rw [hji56] at A46)
                                          have hji56w : (IntKind.i64.wrap ((t255.size : Int) - (t253.size : Int))) = ji56 := (i64_w _).trans hji56
                                          by_cases c57 : 0 ≤ (ji56)
                                          · rw [if_pos c57] at H
                                            have c57b0 := eq_true c57
                                            have c57b1 : decide (0 ≤ (ji56)) = true := decide_eq_true c57
                                            clear c57
                                            by_cases c58 : (ji56) ≤ (t255.size : Int)
                                            · rw [if_pos c58] at H
                                              have c58b0 := eq_true c58
                                              have c58b1 : decide ((ji56) ≤ (t255.size : Int)) = true := decide_eq_true c58
                                              clear c58
                                              obtain rfl := Option.some.inj H
                                              go_wp2_with (first | ((with_reducible refine gate_callee (f := 16) rfl ?_); refine goesL_ (some 90) rfl rfl Try.func16 (by kernel_rfl) rfl #[.string (((strOfNums y250) ++ x5_4) ++ a0)] rfl (by (try simp only [List.map_toArray, List.map_cons, List.map_nil]); first | done | rfl | (simp only [List.length_drop, List.length_take]; rfl)) ?_; (with_reducible refine (name_Count.calls k4 (((strOfNums y250) ++ x5_4) ++ a0) t262 _ A46.out).mono ?_); rintro e w59 ⟨rfl, hb⟩; refine ⟨_, rfl, ?_⟩; have n0_ := Aside0.mk (below_step (by repeat (first | (with_reducible first | exact HB.out | apply below_alloc | apply pw_below_drewN | apply below_drew1) | exact HB.out)) hb); clear HB; have HB := n0_; clear n0_; (try clear hb); (try clear hb2); (try clear hk); (try clear hi); have p52 : 0 ≤ ((ji49) : Int) := of_decide_eq_true (by first | (with_reducible assumption) | assumption); have q52 : (ji49) < (t255.size : Int) := of_decide_eq_true (by first | (with_reducible assumption) | assumption); have hx52 := bt_at t255 (ji49); replace p52 := eq_true p52; replace q52 := eq_true q52))
                                              go_ret
                                              exact ⟨by first | rfl | (simp [errW_none, errW_some] <;> rfl) | (simp only [← hji49, ← hji56]; first | rfl | (simp [errW_none, errW_some] <;> rfl)) | (simp [*, errW_none, errW_some] <;> rfl), by repeat (first | (with_reducible first | exact HB.out | apply below_alloc | apply pw_below_drewN | apply below_drew1) | exact HB.out)⟩
                                            · rw [if_neg c58] at H
                                              exact absurd H (by simp)
                                          · rw [if_neg c57] at H
                                            exact absurd H (by simp)
                                        · rw [if_neg c55] at H
                                          have c55b0 : decide ((t253.size : Int) < (t255.size : Int)) = false := decide_eq_false c55
                                          have c55b1 : decide (t253.size < t255.size) = false := decide_eq_false (fun h => c55 (Int.ofNat_lt.mpr h))
                                          clear c55
                                          obtain rfl := Option.some.inj H
                                          go_wp2_with (first | ((with_reducible refine gate_callee (f := 16) rfl ?_); refine goesL_ (some 90) rfl rfl Try.func16 (by kernel_rfl) rfl #[.string (((strOfNums y250) ++ x5_4) ++ a0)] rfl (by (try simp only [List.map_toArray, List.map_cons, List.map_nil]); first | done | rfl | (simp only [List.length_drop, List.length_take]; rfl)) ?_; (with_reducible refine (name_Count.calls k4 (((strOfNums y250) ++ x5_4) ++ a0) t262 _ A46.out).mono ?_); rintro e w60 ⟨rfl, hb⟩; refine ⟨_, rfl, ?_⟩; have n0_ := Aside0.mk (below_step (by repeat (first | (with_reducible first | exact HB.out | apply below_alloc | apply pw_below_drewN | apply below_drew1) | exact HB.out)) hb); clear HB; have HB := n0_; clear n0_; (try clear hb); (try clear hb2); (try clear hk); (try clear hi); have p52 : 0 ≤ ((ji49) : Int) := of_decide_eq_true (by first | (with_reducible assumption) | assumption); have q52 : (ji49) < (t255.size : Int) := of_decide_eq_true (by first | (with_reducible assumption) | assumption); have hx52 := bt_at t255 (ji49); replace p52 := eq_true p52; replace q52 := eq_true q52))
                                          go_ret
                                          exact ⟨by first | rfl | (simp [errW_none, errW_some] <;> rfl) | (simp only [← hji49]; first | rfl | (simp [errW_none, errW_some] <;> rfl)) | (simp [*, errW_none, errW_some] <;> rfl), by repeat (first | (with_reducible first | exact HB.out | apply below_alloc | apply pw_below_drewN | apply below_drew1) | exact HB.out)⟩
                                    · rw [if_neg c51] at H
                                      exact absurd H (by simp)
                                  · rw [if_neg c50] at H
                                    exact absurd H (by simp)
                                · rw [if_neg c48] at H
                                  have c48b0 : (a0.toList == ([0] : List UInt8)) = false := beq_eq_false_iff_ne.mpr c48
                                  have c48b1 : (a0.toList != ([0] : List UInt8)) = true := bne_iff_ne.mpr c48
                                  by_cases c61 : (t255.size : Int) > (t253.size : Int)
                                  · rw [if_pos c61] at H
                                    have c61b0 : decide ((t253.size : Int) < (t255.size : Int)) = true := decide_eq_true c61
                                    have c61b1 : decide (t253.size < t255.size) = true := decide_eq_true (Int.ofNat_lt.mp c61)
                                    clear c61
                                    obtain ⟨ji62, hji62⟩ : ∃ j_ : Int, (wrap64 ((t255.size : Int) - (t253.size : Int))) = j_ := ⟨_, rfl⟩
                                    replace H : (if 0 ≤ (ji62) then (if (ji62) ≤ (t255.size : Int) then (some ((t255.extract ((ji62) : Int).toNat t255.size).toList == t253.toList)) else (none)) else (none)) = some r := by first | (rw [hji62] at H; exact H) | (simp only [hji62] at H ⊢; exact H)
                                    (try rw [hji62] at A46)
                                    have hji62w : (IntKind.i64.wrap ((t255.size : Int) - (t253.size : Int))) = ji62 := (i64_w _).trans hji62
                                    by_cases c63 : 0 ≤ (ji62)
                                    · rw [if_pos c63] at H
                                      have c63b0 := eq_true c63
                                      have c63b1 : decide (0 ≤ (ji62)) = true := decide_eq_true c63
                                      clear c63
                                      by_cases c64 : (ji62) ≤ (t255.size : Int)
                                      · rw [if_pos c64] at H
                                        have c64b0 := eq_true c64
                                        have c64b1 : decide ((ji62) ≤ (t255.size : Int)) = true := decide_eq_true c64
                                        clear c64
                                        obtain rfl := Option.some.inj H
                                        go_wp2_with (first | ((with_reducible refine gate_callee (f := 16) rfl ?_); refine goesL_ (some 90) rfl rfl Try.func16 (by kernel_rfl) rfl #[.string (((strOfNums y250) ++ x5_4) ++ a0)] rfl (by (try simp only [List.map_toArray, List.map_cons, List.map_nil]); first | done | rfl | (simp only [List.length_drop, List.length_take]; rfl)) ?_; (with_reducible refine (name_Count.calls k4 (((strOfNums y250) ++ x5_4) ++ a0) t262 _ A46.out).mono ?_); rintro e w65 ⟨rfl, hb⟩; refine ⟨_, rfl, ?_⟩; have n0_ := Aside0.mk (below_step (by repeat (first | (with_reducible first | exact HB.out | apply below_alloc | apply pw_below_drewN | apply below_drew1) | exact HB.out)) hb); clear HB; have HB := n0_; clear n0_; (try clear hb); (try clear hb2); (try clear hk); (try clear hi)))
                                        go_ret
                                        exact ⟨by first | rfl | (simp [errW_none, errW_some] <;> rfl) | (simp only [← hji62]; first | rfl | (simp [errW_none, errW_some] <;> rfl)) | (simp [*, errW_none, errW_some] <;> rfl), by repeat (first | (with_reducible first | exact HB.out | apply below_alloc | apply pw_below_drewN | apply below_drew1) | exact HB.out)⟩
                                      · rw [if_neg c64] at H
                                        exact absurd H (by simp)
                                    · rw [if_neg c63] at H
                                      exact absurd H (by simp)
                                  · rw [if_neg c61] at H
                                    have c61b0 : decide ((t253.size : Int) < (t255.size : Int)) = false := decide_eq_false c61
                                    have c61b1 : decide (t253.size < t255.size) = false := decide_eq_false (fun h => c61 (Int.ofNat_lt.mpr h))
                                    clear c61
                                    obtain rfl := Option.some.inj H
                                    go_wp2_with (first | ((with_reducible refine gate_callee (f := 16) rfl ?_); refine goesL_ (some 90) rfl rfl Try.func16 (by kernel_rfl) rfl #[.string (((strOfNums y250) ++ x5_4) ++ a0)] rfl (by (try simp only [List.map_toArray, List.map_cons, List.map_nil]); first | done | rfl | (simp only [List.length_drop, List.length_take]; rfl)) ?_; (with_reducible refine (name_Count.calls k4 (((strOfNums y250) ++ x5_4) ++ a0) t262 _ A46.out).mono ?_); rintro e w66 ⟨rfl, hb⟩; refine ⟨_, rfl, ?_⟩; have n0_ := Aside0.mk (below_step (by repeat (first | (with_reducible first | exact HB.out | apply below_alloc | apply pw_below_drewN | apply below_drew1) | exact HB.out)) hb); clear HB; have HB := n0_; clear n0_; (try clear hb); (try clear hb2); (try clear hk); (try clear hi)))
                                    go_ret
                                    exact ⟨by first | rfl | (simp [errW_none, errW_some] <;> rfl) | (simp [*, errW_none, errW_some] <;> rfl), by repeat (first | (with_reducible first | exact HB.out | apply below_alloc | apply pw_below_drewN | apply below_drew1) | exact HB.out)⟩
                              · rw [if_neg c47] at H
                                have c47b0 : (x11_4 == t262) = false := beq_eq_false_iff_ne.mpr c47
                                have c47b1 : (x11_4 != t262) = true := bne_iff_ne.mpr c47
                                obtain rfl := Option.some.inj H
                                go_wp2_with (first | ((with_reducible refine gate_callee (f := 16) rfl ?_); refine goesL_ (some 90) rfl rfl Try.func16 (by kernel_rfl) rfl #[.string (((strOfNums y250) ++ x5_4) ++ a0)] rfl (by (try simp only [List.map_toArray, List.map_cons, List.map_nil]); first | done | rfl | (simp only [List.length_drop, List.length_take]; rfl)) ?_; (with_reducible refine (name_Count.calls k4 (((strOfNums y250) ++ x5_4) ++ a0) t262 _ A46.out).mono ?_); rintro e w67 ⟨rfl, hb⟩; refine ⟨_, rfl, ?_⟩; have n0_ := Aside0.mk (below_step (by repeat (first | (with_reducible first | exact HB.out | apply below_alloc | apply pw_below_drewN | apply below_drew1) | exact HB.out)) hb); clear HB; have HB := n0_; clear n0_; (try clear hb); (try clear hb2); (try clear hk); (try clear hi)))
                                go_ret
                                exact ⟨by first | rfl | (simp [errW_none, errW_some] <;> rfl) | (simp [*, errW_none, errW_some] <;> rfl), by repeat (first | (with_reducible first | exact HB.out | apply below_alloc | apply pw_below_drewN | apply below_drew1) | exact HB.out)⟩
                · rw [if_neg c19] at H
                  exact absurd H (by simp)
              · rw [if_neg c18] at H
                exact absurd H (by simp)
  · replace c4 := Bool.eq_false_iff.mpr c4
    subst c4
    have H1 : (some false) = some r := by rw [if_neg (show ¬ (false = true) by decide)] at H; exact H
    clear H
    have H := H1
    clear H1
    obtain rfl := Option.some.inj H
    go_enter Try.func6, Try.ntmps6
    go_wp2_with (first | ((with_reducible refine gate_callee (f := 18) rfl ?_); refine goesL_ (some 13) rfl rfl Try.func18 (by kernel_rfl) rfl #[] rfl (by (try simp only [List.map_toArray, List.map_cons, List.map_nil]); first | done | rfl | (simp only [List.length_drop, List.length_take]; rfl)) ?_; (with_reducible refine (wimplelaw1_awake.calls k  false _ A3.out).mono ?_); rintro e w68 ⟨rfl, hb⟩; refine ⟨_, rfl, ?_⟩; have n0_ := Aside0.mk (below_step (by repeat (first | (with_reducible first | exact HB.out | apply below_alloc | apply pw_below_drewN | apply below_drew1) | exact HB.out)) hb); clear HB; have HB := n0_; clear n0_; (try clear hb); (try clear hb2); (try clear hk); (try clear hi)))
    go_ret
    exact ⟨by first | rfl | (simp [errW_none, errW_some] <;> rfl) | (simp [*, errW_none, errW_some] <;> rfl), by repeat (first | (with_reducible first | exact HB.out | apply below_alloc | apply pw_below_drewN | apply below_drew1) | exact HB.out)⟩

/-- THE ONE PURE STATEMENT of wimplelaw1_NameCounts: yours. -/
def wimplelaw1_NameCounts.Pure : Prop := ∀ (a0 : ByteArray) (a1 : ByteArray), a0.size ≤ 140737488351232 → a1.size ≤ 140737488351232 → ∃ k, wimplelaw1_NameCounts.f k a0 a1 = some true
theorem wimplelaw1_NameCounts.walk (P : wimplelaw1_NameCounts.Pure) (a0 : ByteArray) (a1 : ByteArray) (w : World) (w0 : a0.size ≤ 140737488351232) (w1 : a1.size ≤ 140737488351232) :
    Calls Try.prog 6 #[.string a0, .string a1] w fun e w' => e = .returned (.bool true) ∧ Below w.heap.size w w' := by
  obtain ⟨k, h⟩ := P a0 a1 w0 w1
  refine (wimplelaw1_NameCounts.calls k a0 a1 true w h).mono ?_
  rintro e w' ⟨rfl, hd⟩
  exact ⟨rfl, hd⟩

end Go.Proofs.Ytefmomphapjfiaa.P
