-- Written by a program of this session's prover (over the kit's printer, with contracts of the session's own); Lean checks it.
import Derived.Test.YtefmomphapjfiaaPx0
import Derived.Test.YtefmomphapjfiaaPx2
import Derived.Test.YtefmomphapjfiaaPx4
import Derived.Test.YtefmomphapjfiaaPx5
import Derived.Test.YtefmomphapjfiaaPx6
namespace Go.Proofs.Ytefmomphapjfiaa.P
open Go.RowKit Go.Proofs.YtefmomphapjfiaaW.PrintWords Go.Proofs.YtefmomphapjfiaaW.PrintLast Go.Proofs.YtefmomphapjfiaaW.PrintMore
attribute [local go_sem] max2_int min2_int max_two min_two max_three min_three max_four min_four   -- for this text's walks alone
set_option linter.unusedVariables false
set_option linter.unusedSimpArgs false

/-! ### wimplelaw1_NamePlain: function 7 -/
def wimplelaw1_NamePlain.j0 : Nat → Int → ByteArray → Int → ByteArray → Bool → Option (Bool)
  | 0, _, _, _, _, _ => none
  | k + 1, x3, x4, x5, x6, x49 => if x49 = true then ((some (([x3] : List Int) : List Int)).bind fun y272 => (if (strOfNums y272).size + 1 ≤ 9223372036854775807 then ((name_Parse.f k ((strOfNums y272) ++ (⟨#[46]⟩ : ByteArray))).bind fun bt275 => ((wimplelaw0_Num.f x5).bind fun t277 => (if t277 = 0 then (if x4.toList = ((strOfNums y272) ++ (⟨#[46]⟩ : ByteArray)).toList then ((wimplelaw0_Num.f bt275.2).bind fun t278 => (if t278 = 0 then ((some (([x3] : List Int) : List Int)).bind fun y279 => (if 1 + (strOfNums y279).size ≤ 9223372036854775807 then (if ((⟨#[1]⟩ : ByteArray) ++ (strOfNums y279)).size + 1 ≤ 9223372036854775807 then (some (bt275.1.toList == (((⟨#[1]⟩ : ByteArray) ++ (strOfNums y279)) ++ (⟨#[0]⟩ : ByteArray)).toList)) else (none)) else (none))) else (some false))) else (some false)) else (some false)))) else (none))) else ((name_Parse.f k x6).bind fun bt282 => ((wimplelaw0_Num.f x5).bind fun t284 => (if t284 = 0 then (if x4.toList = x6.toList then ((wimplelaw0_Num.f bt282.2).bind fun t285 => (if t285 = 0 then ((some (([x3] : List Int) : List Int)).bind fun y286 => (if 1 + (strOfNums y286).size ≤ 9223372036854775807 then (if ((⟨#[1]⟩ : ByteArray) ++ (strOfNums y286)).size + 1 ≤ 9223372036854775807 then (some (bt282.1.toList == (((⟨#[1]⟩ : ByteArray) ++ (strOfNums y286)) ++ (⟨#[0]⟩ : ByteArray)).toList)) else (none)) else (none))) else (some false))) else (some false)) else (some false))))
def wimplelaw1_NamePlain.f (k : Nat) (a0 : Int) : Option (Bool) := (wimplelaw1_awake.f k).bind fun t263 => (if t263 = true then ((some (([(a0) % 256] : List Int) : List Int)).bind fun y264 => (if 1 + (strOfNums y264).size ≤ 9223372036854775807 then (if ((⟨#[1]⟩ : ByteArray) ++ (strOfNums y264)).size + 1 ≤ 9223372036854775807 then ((name_Text.f k (((⟨#[1]⟩ : ByteArray) ++ (strOfNums y264)) ++ (⟨#[0]⟩ : ByteArray))).bind fun bt267 => ((some (([48 + (((a0) % 256) / 100), 48 + ((((a0) % 256) / 10) % 10), 48 + (((a0) % 256) % 10)] : List Int) : List Int)).bind fun y269 => (if 1 + (strOfNums y269).size ≤ 9223372036854775807 then (if ((⟨#[92]⟩ : ByteArray) ++ (strOfNums y269)).size + 1 ≤ 9223372036854775807 then (if ((a0) % 256) > 32 then (if ((a0) % 256) < 127 then (if ((a0) % 256) = 46 then (wimplelaw1_NamePlain.j0 k ((a0) % 256) bt267.1 bt267.2 (((⟨#[92]⟩ : ByteArray) ++ (strOfNums y269)) ++ (⟨#[46]⟩ : ByteArray)) false) else (wimplelaw1_NamePlain.j0 k ((a0) % 256) bt267.1 bt267.2 (((⟨#[92]⟩ : ByteArray) ++ (strOfNums y269)) ++ (⟨#[46]⟩ : ByteArray)) (((a0) % 256) != 92))) else (wimplelaw1_NamePlain.j0 k ((a0) % 256) bt267.1 bt267.2 (((⟨#[92]⟩ : ByteArray) ++ (strOfNums y269)) ++ (⟨#[46]⟩ : ByteArray)) false)) else (wimplelaw1_NamePlain.j0 k ((a0) % 256) bt267.1 bt267.2 (((⟨#[92]⟩ : ByteArray) ++ (strOfNums y269)) ++ (⟨#[46]⟩ : ByteArray)) false)) else (none)) else (none)))) else (none)) else (none))) else (some false))
theorem wimplelaw1_NamePlain.mono_l : ∀ k, (∀ y0 y1 y2 y3 y4, LeO (wimplelaw1_NamePlain.j0 k y0 y1 y2 y3 y4) (wimplelaw1_NamePlain.j0 (k + 1) y0 y1 y2 y3 y4))
  | 0 => fun _ _ _ _ _ r h => by simp [wimplelaw1_NamePlain.j0] at h
  | k + 1 => by
    have ih0 := wimplelaw1_NamePlain.mono_l k
    · intro y0 y1 y2 y3 y4
      unfold wimplelaw1_NamePlain.j0
      repeat' first
      | (with_reducible exact ih0 _ _ _ _ _)
      | (with_reducible exact name_Parse.mono _ _)
      | (with_reducible exact name_Text.mono _ _)
      | (with_reducible exact wimplelaw1_awake.mono _)
      | (with_reducible exact LeO.refl _)
      | (with_reducible exact LeO.none _)
      | (with_reducible refine LeO.ite ?_ ?_)
      | (with_reducible refine LeO.bind ?_ (fun _ => ?_))
      | exact ih0 _ _ _ _ _
      | exact name_Parse.mono _ _
      | exact name_Text.mono _ _
      | exact wimplelaw1_awake.mono _
      | exact LeO.none _
      | refine LeO.ite ?_ ?_
      | refine LeO.bind ?_ (fun _ => ?_)
theorem wimplelaw1_NamePlain.mono : ∀ a0 k, LeO (wimplelaw1_NamePlain.f k a0) (wimplelaw1_NamePlain.f (k + 1) a0) := by
  intro a0 k
  have ih0 := wimplelaw1_NamePlain.mono_l k
  unfold wimplelaw1_NamePlain.f
  repeat' first
      | (with_reducible exact ih0 _ _ _ _ _)
      | (with_reducible exact name_Parse.mono _ _)
      | (with_reducible exact name_Text.mono _ _)
      | (with_reducible exact wimplelaw1_awake.mono _)
      | (with_reducible exact LeO.refl _)
      | (with_reducible exact LeO.none _)
      | (with_reducible refine LeO.ite ?_ ?_)
      | (with_reducible refine LeO.bind ?_ (fun _ => ?_))
      | exact ih0 _ _ _ _ _
      | exact name_Parse.mono _ _
      | exact name_Text.mono _ _
      | exact wimplelaw1_awake.mono _
      | exact LeO.none _
      | refine LeO.ite ?_ ?_
      | refine LeO.bind ?_ (fun _ => ?_)
set_option maxHeartbeats 8000000 in
set_option maxRecDepth 100000 in
theorem wimplelaw1_NamePlain.calls (k : Nat) (a0 : Int) (r : Bool) (w : World) (h : wimplelaw1_NamePlain.f k a0 = some r) :
    Calls Try.prog 7 #[.int .i64 a0] w fun e w' => e = .returned (.bool r) ∧ Below w.heap.size w w' := by
  have HB := Aside0.mk (Below.refl w.heap.size w)
  have H : ((wimplelaw1_awake.f k).bind fun t263 => (if t263 = true then ((some (([(a0) % 256] : List Int) : List Int)).bind fun y264 => (if 1 + (strOfNums y264).size ≤ 9223372036854775807 then (if ((⟨#[1]⟩ : ByteArray) ++ (strOfNums y264)).size + 1 ≤ 9223372036854775807 then ((name_Text.f k (((⟨#[1]⟩ : ByteArray) ++ (strOfNums y264)) ++ (⟨#[0]⟩ : ByteArray))).bind fun bt267 => ((some (([48 + (((a0) % 256) / 100), 48 + ((((a0) % 256) / 10) % 10), 48 + (((a0) % 256) % 10)] : List Int) : List Int)).bind fun y269 => (if 1 + (strOfNums y269).size ≤ 9223372036854775807 then (if ((⟨#[92]⟩ : ByteArray) ++ (strOfNums y269)).size + 1 ≤ 9223372036854775807 then (if ((a0) % 256) > 32 then (if ((a0) % 256) < 127 then (if ((a0) % 256) = 46 then (wimplelaw1_NamePlain.j0 k ((a0) % 256) bt267.1 bt267.2 (((⟨#[92]⟩ : ByteArray) ++ (strOfNums y269)) ++ (⟨#[46]⟩ : ByteArray)) false) else (wimplelaw1_NamePlain.j0 k ((a0) % 256) bt267.1 bt267.2 (((⟨#[92]⟩ : ByteArray) ++ (strOfNums y269)) ++ (⟨#[46]⟩ : ByteArray)) (((a0) % 256) != 92))) else (wimplelaw1_NamePlain.j0 k ((a0) % 256) bt267.1 bt267.2 (((⟨#[92]⟩ : ByteArray) ++ (strOfNums y269)) ++ (⟨#[46]⟩ : ByteArray)) false)) else (wimplelaw1_NamePlain.j0 k ((a0) % 256) bt267.1 bt267.2 (((⟨#[92]⟩ : ByteArray) ++ (strOfNums y269)) ++ (⟨#[46]⟩ : ByteArray)) false)) else (none)) else (none)))) else (none)) else (none))) else (some false))) = some r := h
  clear h
  replace H := Option.bind_eq_some_iff.mp H
  obtain ⟨t263, A20, H⟩ := H
  replace H : (if t263 = true then ((some (([(a0) % 256] : List Int) : List Int)).bind fun y264 => (if 1 + (strOfNums y264).size ≤ 9223372036854775807 then (if ((⟨#[1]⟩ : ByteArray) ++ (strOfNums y264)).size + 1 ≤ 9223372036854775807 then ((name_Text.f k (((⟨#[1]⟩ : ByteArray) ++ (strOfNums y264)) ++ (⟨#[0]⟩ : ByteArray))).bind fun bt267 => ((some (([48 + (((a0) % 256) / 100), 48 + ((((a0) % 256) / 10) % 10), 48 + (((a0) % 256) % 10)] : List Int) : List Int)).bind fun y269 => (if 1 + (strOfNums y269).size ≤ 9223372036854775807 then (if ((⟨#[92]⟩ : ByteArray) ++ (strOfNums y269)).size + 1 ≤ 9223372036854775807 then (if ((a0) % 256) > 32 then (if ((a0) % 256) < 127 then (if ((a0) % 256) = 46 then (wimplelaw1_NamePlain.j0 k ((a0) % 256) bt267.1 bt267.2 (((⟨#[92]⟩ : ByteArray) ++ (strOfNums y269)) ++ (⟨#[46]⟩ : ByteArray)) false) else (wimplelaw1_NamePlain.j0 k ((a0) % 256) bt267.1 bt267.2 (((⟨#[92]⟩ : ByteArray) ++ (strOfNums y269)) ++ (⟨#[46]⟩ : ByteArray)) (((a0) % 256) != 92))) else (wimplelaw1_NamePlain.j0 k ((a0) % 256) bt267.1 bt267.2 (((⟨#[92]⟩ : ByteArray) ++ (strOfNums y269)) ++ (⟨#[46]⟩ : ByteArray)) false)) else (wimplelaw1_NamePlain.j0 k ((a0) % 256) bt267.1 bt267.2 (((⟨#[92]⟩ : ByteArray) ++ (strOfNums y269)) ++ (⟨#[46]⟩ : ByteArray)) false)) else (none)) else (none)))) else (none)) else (none))) else (some false)) = some r := H
  have A2 := Aside0.mk A20
  clear A20
  by_cases c3 : t263 = true
  · subst c3
    have H1 : ((some (([(a0) % 256] : List Int) : List Int)).bind fun y264 => (if 1 + (strOfNums y264).size ≤ 9223372036854775807 then (if ((⟨#[1]⟩ : ByteArray) ++ (strOfNums y264)).size + 1 ≤ 9223372036854775807 then ((name_Text.f k (((⟨#[1]⟩ : ByteArray) ++ (strOfNums y264)) ++ (⟨#[0]⟩ : ByteArray))).bind fun bt267 => ((some (([48 + (((a0) % 256) / 100), 48 + ((((a0) % 256) / 10) % 10), 48 + (((a0) % 256) % 10)] : List Int) : List Int)).bind fun y269 => (if 1 + (strOfNums y269).size ≤ 9223372036854775807 then (if ((⟨#[92]⟩ : ByteArray) ++ (strOfNums y269)).size + 1 ≤ 9223372036854775807 then (if ((a0) % 256) > 32 then (if ((a0) % 256) < 127 then (if ((a0) % 256) = 46 then (wimplelaw1_NamePlain.j0 k ((a0) % 256) bt267.1 bt267.2 (((⟨#[92]⟩ : ByteArray) ++ (strOfNums y269)) ++ (⟨#[46]⟩ : ByteArray)) false) else (wimplelaw1_NamePlain.j0 k ((a0) % 256) bt267.1 bt267.2 (((⟨#[92]⟩ : ByteArray) ++ (strOfNums y269)) ++ (⟨#[46]⟩ : ByteArray)) (((a0) % 256) != 92))) else (wimplelaw1_NamePlain.j0 k ((a0) % 256) bt267.1 bt267.2 (((⟨#[92]⟩ : ByteArray) ++ (strOfNums y269)) ++ (⟨#[46]⟩ : ByteArray)) false)) else (wimplelaw1_NamePlain.j0 k ((a0) % 256) bt267.1 bt267.2 (((⟨#[92]⟩ : ByteArray) ++ (strOfNums y269)) ++ (⟨#[46]⟩ : ByteArray)) false)) else (none)) else (none)))) else (none)) else (none))) = some r := by rw [if_pos rfl] at H; exact H
    clear H
    have H := H1
    clear H1
    obtain ⟨y264, hy264⟩ : ∃ y_ : List Int, y_ = (([(a0) % 256] : List Int)) := ⟨_, rfl⟩
    replace H : (if 1 + (strOfNums y264).size ≤ 9223372036854775807 then (if ((⟨#[1]⟩ : ByteArray) ++ (strOfNums y264)).size + 1 ≤ 9223372036854775807 then ((name_Text.f k (((⟨#[1]⟩ : ByteArray) ++ (strOfNums y264)) ++ (⟨#[0]⟩ : ByteArray))).bind fun bt267 => ((some (([48 + (((a0) % 256) / 100), 48 + ((((a0) % 256) / 10) % 10), 48 + (((a0) % 256) % 10)] : List Int) : List Int)).bind fun y269 => (if 1 + (strOfNums y269).size ≤ 9223372036854775807 then (if ((⟨#[92]⟩ : ByteArray) ++ (strOfNums y269)).size + 1 ≤ 9223372036854775807 then (if ((a0) % 256) > 32 then (if ((a0) % 256) < 127 then (if ((a0) % 256) = 46 then (wimplelaw1_NamePlain.j0 k ((a0) % 256) bt267.1 bt267.2 (((⟨#[92]⟩ : ByteArray) ++ (strOfNums y269)) ++ (⟨#[46]⟩ : ByteArray)) false) else (wimplelaw1_NamePlain.j0 k ((a0) % 256) bt267.1 bt267.2 (((⟨#[92]⟩ : ByteArray) ++ (strOfNums y269)) ++ (⟨#[46]⟩ : ByteArray)) (((a0) % 256) != 92))) else (wimplelaw1_NamePlain.j0 k ((a0) % 256) bt267.1 bt267.2 (((⟨#[92]⟩ : ByteArray) ++ (strOfNums y269)) ++ (⟨#[46]⟩ : ByteArray)) false)) else (wimplelaw1_NamePlain.j0 k ((a0) % 256) bt267.1 bt267.2 (((⟨#[92]⟩ : ByteArray) ++ (strOfNums y269)) ++ (⟨#[46]⟩ : ByteArray)) false)) else (none)) else (none)))) else (none)) else (none)) = some r := by first | (rw [hy264]; with_reducible exact H) | (have H2_ := (Option.bind_some _ _).symm.trans H; rw [hy264]; with_reducible exact H2_) | (have H2_ := (Option.bind_some _ _).symm.trans H; with_reducible exact H2_) | with_reducible exact H | (rw [hy264]; exact H) | exact H
    have Ny264 := Aside0.mk hy264
    clear hy264
    by_cases c4 : 1 + (strOfNums y264).size ≤ 9223372036854775807
    · rw [if_pos c4] at H
      have c4b0 := eq_true c4
      have c4b1 : decide (1 + (strOfNums y264).size ≤ 9223372036854775807) = true := decide_eq_true c4
      try have c4b2 : (9223372036854775807 < 1 + (strOfNums y264).size) = False := eq_false (Nat.not_lt.2 c4)
      by_cases c5 : ((⟨#[1]⟩ : ByteArray) ++ (strOfNums y264)).size + 1 ≤ 9223372036854775807
      · rw [if_pos c5] at H
        have c5b0 := eq_true c5
        have c5b1 : decide (((⟨#[1]⟩ : ByteArray) ++ (strOfNums y264)).size + 1 ≤ 9223372036854775807) = true := decide_eq_true c5
        try have c5b2 : (9223372036854775807 < ((⟨#[1]⟩ : ByteArray) ++ (strOfNums y264)).size + 1) = False := eq_false (Nat.not_lt.2 c5)
        try have c5b3 : (9223372036854775807 < 1 + (strOfNums y264).size + 1) = False := eq_false (by have h_ := c5; simp only [ByteArray.size_append] at h_; exact Nat.not_lt.2 h_)
        replace H := Option.bind_eq_some_iff.mp H
        obtain ⟨⟨t267, t268⟩, A60, H⟩ := H
        replace H : ((some (([48 + (((a0) % 256) / 100), 48 + ((((a0) % 256) / 10) % 10), 48 + (((a0) % 256) % 10)] : List Int) : List Int)).bind fun y269 => (if 1 + (strOfNums y269).size ≤ 9223372036854775807 then (if ((⟨#[92]⟩ : ByteArray) ++ (strOfNums y269)).size + 1 ≤ 9223372036854775807 then (if ((a0) % 256) > 32 then (if ((a0) % 256) < 127 then (if ((a0) % 256) = 46 then (wimplelaw1_NamePlain.j0 k ((a0) % 256) t267 t268 (((⟨#[92]⟩ : ByteArray) ++ (strOfNums y269)) ++ (⟨#[46]⟩ : ByteArray)) false) else (wimplelaw1_NamePlain.j0 k ((a0) % 256) t267 t268 (((⟨#[92]⟩ : ByteArray) ++ (strOfNums y269)) ++ (⟨#[46]⟩ : ByteArray)) (((a0) % 256) != 92))) else (wimplelaw1_NamePlain.j0 k ((a0) % 256) t267 t268 (((⟨#[92]⟩ : ByteArray) ++ (strOfNums y269)) ++ (⟨#[46]⟩ : ByteArray)) false)) else (wimplelaw1_NamePlain.j0 k ((a0) % 256) t267 t268 (((⟨#[92]⟩ : ByteArray) ++ (strOfNums y269)) ++ (⟨#[46]⟩ : ByteArray)) false)) else (none)) else (none))) = some r := H
        have A6 := Aside0.mk A60
        clear A60
        obtain ⟨y269, hy269⟩ : ∃ y_ : List Int, y_ = (([48 + (((a0) % 256) / 100), 48 + ((((a0) % 256) / 10) % 10), 48 + (((a0) % 256) % 10)] : List Int)) := ⟨_, rfl⟩
        replace H : (if 1 + (strOfNums y269).size ≤ 9223372036854775807 then (if ((⟨#[92]⟩ : ByteArray) ++ (strOfNums y269)).size + 1 ≤ 9223372036854775807 then (if ((a0) % 256) > 32 then (if ((a0) % 256) < 127 then (if ((a0) % 256) = 46 then (wimplelaw1_NamePlain.j0 k ((a0) % 256) t267 t268 (((⟨#[92]⟩ : ByteArray) ++ (strOfNums y269)) ++ (⟨#[46]⟩ : ByteArray)) false) else (wimplelaw1_NamePlain.j0 k ((a0) % 256) t267 t268 (((⟨#[92]⟩ : ByteArray) ++ (strOfNums y269)) ++ (⟨#[46]⟩ : ByteArray)) (((a0) % 256) != 92))) else (wimplelaw1_NamePlain.j0 k ((a0) % 256) t267 t268 (((⟨#[92]⟩ : ByteArray) ++ (strOfNums y269)) ++ (⟨#[46]⟩ : ByteArray)) false)) else (wimplelaw1_NamePlain.j0 k ((a0) % 256) t267 t268 (((⟨#[92]⟩ : ByteArray) ++ (strOfNums y269)) ++ (⟨#[46]⟩ : ByteArray)) false)) else (none)) else (none)) = some r := by first | (rw [hy269]; with_reducible exact H) | (have H2_ := (Option.bind_some _ _).symm.trans H; rw [hy269]; with_reducible exact H2_) | (have H2_ := (Option.bind_some _ _).symm.trans H; with_reducible exact H2_) | with_reducible exact H | (rw [hy269]; exact H) | exact H
        have Ny269 := Aside0.mk hy269
        clear hy269
        by_cases c7 : 1 + (strOfNums y269).size ≤ 9223372036854775807
        · rw [if_pos c7] at H
          have c7b0 := eq_true c7
          have c7b1 : decide (1 + (strOfNums y269).size ≤ 9223372036854775807) = true := decide_eq_true c7
          try have c7b2 : (9223372036854775807 < 1 + (strOfNums y269).size) = False := eq_false (Nat.not_lt.2 c7)
          by_cases c8 : ((⟨#[92]⟩ : ByteArray) ++ (strOfNums y269)).size + 1 ≤ 9223372036854775807
          · rw [if_pos c8] at H
            have c8b0 := eq_true c8
            have c8b1 : decide (((⟨#[92]⟩ : ByteArray) ++ (strOfNums y269)).size + 1 ≤ 9223372036854775807) = true := decide_eq_true c8
            try have c8b2 : (9223372036854775807 < ((⟨#[92]⟩ : ByteArray) ++ (strOfNums y269)).size + 1) = False := eq_false (Nat.not_lt.2 c8)
            try have c8b3 : (9223372036854775807 < 1 + (strOfNums y269).size + 1) = False := eq_false (by have h_ := c8; simp only [ByteArray.size_append] at h_; exact Nat.not_lt.2 h_)
            have HC9 := Aside0.mk H
            clear H
            go_enter Try.func7, Try.ntmps7
            go_upto_region 6 with (first | ((with_reducible refine gate_callee (f := 18) rfl ?_); refine goesL_ (some 9) rfl rfl Try.func18 (by kernel_rfl) rfl #[] rfl (by (try simp only [List.map_toArray, List.map_cons, List.map_nil]); first | done | rfl | (simp only [List.length_drop, List.length_take]; rfl)) ?_; (with_reducible refine (wimplelaw1_awake.calls k  true _ A2.out).mono ?_); rintro e w10 ⟨rfl, hb⟩; refine ⟨_, rfl, ?_⟩; have n0_ := Aside0.mk (below_step (by repeat (first | (with_reducible first | exact HB.out | apply below_alloc | apply pw_below_drewN | apply below_drew1) | exact HB.out)) hb); clear HB; have HB := n0_; clear n0_; (try clear hb); (try clear hb2); (try clear hk); (try clear hi)) | ((with_reducible refine gate_dst (N := 15) rfl ?_); (try (refine gate_guard (by rfl) ?_; dsimp only)); refine Kd.R_lit (Kd.int .u8) _ 5 ?hg (N := 15) ?hd (xs := ([(a0) % 256] : List Int)) (inner := [.int .u8 ((a0) % 256)]) (ok := fun _ => True) (okp := fun _ => True) ?hr ?hp (fun _ hk => hk) trivial (Below.refl _ _) (Nat.le_refl _) (by simp) ?_; (case hd => rfl); (case hg => rfl); (case hr => first | (go_simp; done) | (go_simp; rfl)); (case hp => exact (Reps.one (show Kd.M (Kd.int .u8) _ _ _ ((a0) % 256) [.int .u8 ((a0) % 256)] from rfl) (Reps.none _ _))); intro v265 w11 ho12 hb hg_ hnew_; clear hg_ hnew_; (first | rw [← Ny264.out] at ho12 | (simp only [Int.reduceToNat] at ho12; rw [← Ny264.out] at ho12)); have n0_ := Aside0.mk (Kd.R_lower ho12 (below_size (by repeat (first | (with_reducible first | exact HB.out | apply below_alloc | apply pw_below_drewN | apply below_drew1) | exact HB.out)))); have n1_ := Aside0.mk (below_step (by repeat (first | (with_reducible first | exact HB.out | apply below_alloc | apply pw_below_drewN | apply below_drew1) | exact HB.out)) hb); clear HB; have HO266 := n0_; have HB := n1_; clear n0_ n1_; clear hb ho12; have hcv13 := own_string (P := Try.prog) Try.underlying32 Try.underlying5 Try.underlying9 (Kd.own_of_R HO266.out)) | ((with_reducible refine gate_callee (f := 9) rfl ?_); refine goesL_ (some 19) rfl rfl Try.func9 (by kernel_rfl) rfl #[.string (((⟨#[1]⟩ : ByteArray) ++ (strOfNums y264)) ++ (⟨#[0]⟩ : ByteArray))] rfl (by (try simp only [List.map_toArray, List.map_cons, List.map_nil]); first | done | rfl | (simp only [List.length_drop, List.length_take]; rfl)) ?_; (with_reducible refine (name_Text.calls k (((⟨#[1]⟩ : ByteArray) ++ (strOfNums y264)) ++ (⟨#[0]⟩ : ByteArray)) t267 t268 _ A6.out).mono ?_); rintro e w14 ⟨rfl, hb⟩; refine ⟨_, rfl, ?_⟩; have n0_ := Aside0.mk (Kd.R_below (by (with_reducible repeat (first | apply Kd.R_alloc | apply Kd.R_drewN | apply Kd.R_drew)); exact HO266.out) hb); have n1_ := Aside0.mk (below_step (by repeat (first | (with_reducible first | exact HB.out | apply below_alloc | apply pw_below_drewN | apply below_drew1) | exact HB.out)) hb); clear HO266; clear HB; have HO266 := n0_; have HB := n1_; clear n0_ n1_; (try clear hb); (try clear hb2); (try clear hk); (try clear hi)) | ((with_reducible refine gate_dst (N := 32) rfl ?_); (try (refine gate_guard (by rfl) ?_; dsimp only)); refine Kd.R_lit (Kd.int .u8) _ 5 ?hg (N := 32) ?hd (xs := ([48 + (((a0) % 256) / 100), 48 + ((((a0) % 256) / 10) % 10), 48 + (((a0) % 256) % 10)] : List Int)) (inner := [.int .u8 (48 + (((a0) % 256) / 100)), .int .u8 (48 + ((((a0) % 256) / 10) % 10)), .int .u8 (48 + (((a0) % 256) % 10))]) (ok := fun _ => True) (okp := fun _ => True) ?hr ?hp (fun _ hk => hk) trivial (Below.refl _ _) (Nat.le_refl _) (by simp) ?_; (case hd => rfl); (case hg => rfl); (case hr => first | (go_simp; done) | (go_simp; rfl)); (case hp => exact (Reps.one (show Kd.M (Kd.int .u8) _ _ _ (48 + (((a0) % 256) / 100)) [.int .u8 (48 + (((a0) % 256) / 100))] from rfl) (Reps.one (show Kd.M (Kd.int .u8) _ _ _ (48 + ((((a0) % 256) / 10) % 10)) [.int .u8 (48 + ((((a0) % 256) / 10) % 10))] from rfl) (Reps.one (show Kd.M (Kd.int .u8) _ _ _ (48 + (((a0) % 256) % 10)) [.int .u8 (48 + (((a0) % 256) % 10))] from rfl) (Reps.none _ _))))); intro v270 w15 ho16 hb hg_ hnew_; clear hg_ hnew_; (first | rw [← Ny269.out] at ho16 | (simp only [Int.reduceToNat] at ho16; rw [← Ny269.out] at ho16)); have n0_ := Aside0.mk (Kd.R_elder' (by (with_reducible repeat (first | apply Kd.R_alloc | apply Kd.R_drewN | apply Kd.R_drew)); exact HO266.out) (Kd.R_base ho16) hb); have n1_ := Aside0.mk (Kd.R_lower (Kd.R_new' ho16 (Kd.R_lt (by (with_reducible repeat (first | apply Kd.R_alloc | apply Kd.R_drewN | apply Kd.R_drew)); exact HO266.out))) (below_size (by repeat (first | (with_reducible first | exact HB.out | apply below_alloc | apply pw_below_drewN | apply below_drew1) | exact HB.out)))); have n2_ := Aside0.mk (below_step (by repeat (first | (with_reducible first | exact HB.out | apply below_alloc | apply pw_below_drewN | apply below_drew1) | exact HB.out)) hb); clear HO266; clear HB; have HO266 := n0_; have HO271 := n1_; have HB := n2_; clear n0_ n1_ n2_; clear hb ho16; have hcv17 := own_string (P := Try.prog) Try.underlying32 Try.underlying5 Try.underlying9 (Kd.own_of_R HO271.out)))
            (try simp only [Act.put, List.setIfInBounds_toArray, List.set_cons_zero, List.set_cons_succ])
            go_cut [49] (fun v49 wc => ∃ (kq : Nat) (x49_8 : Bool), v49 = .bool x49_8 ∧ Aside0 (wimplelaw1_NamePlain.j0 kq ((a0) % 256) t267 t268 (((⟨#[92]⟩ : ByteArray) ++ (strOfNums y269)) ++ (⟨#[46]⟩ : ByteArray)) x49_8 = some r) ∧ Aside0 (kq ≤ k) ∧ Aside0 (Below w.heap.size w wc))
            case first =>
              have H := HC9.out
              clear HC9
              by_cases c18 : ((a0) % 256) > 32
              · rw [if_pos c18] at H
                have c18b0 : decide (32 < ((a0) % 256)) = true := decide_eq_true c18
                clear c18
                (first | rw [c18b0] | (simp only [i64_w, i32_w]; rw [c18b0]) | skip)
                by_cases c19 : ((a0) % 256) < 127
                · rw [if_pos c19] at H
                  have c19b0 : decide (((a0) % 256) < 127) = true := decide_eq_true c19
                  clear c19
                  by_cases c20 : ((a0) % 256) = 46
                  · rw [if_pos c20] at H
                    have c20b0 : (((a0) % 256) == 46) = true := beq_iff_eq.mpr c20
                    have c20b1 : (((a0) % 256) != 46) = false := bne_eq_false_iff_eq.mpr c20
                    clear c20
                    have H' := Aside0.mk H
                    clear H
                    go_wp2
                    go_meet
                    case rel => exact ⟨_, (false), (by first | rfl | (simp; done) | (simp [*]; done) | (simp [ByteArray.size_append]; exact Iff.rfl)), H', ⟨by first | omega | exact Nat.le_refl _⟩, ⟨by repeat (first | (with_reducible first | exact HB.out | apply below_alloc | apply pw_below_drewN | apply below_drew1) | exact HB.out)⟩⟩
                  · rw [if_neg c20] at H
                    have c20b0 : (((a0) % 256) == 46) = false := beq_eq_false_iff_ne.mpr c20
                    have c20b1 : (((a0) % 256) != 46) = true := bne_iff_ne.mpr c20
                    have H' := Aside0.mk H
                    clear H
                    go_wp2
                    go_meet
                    case rel => exact ⟨_, ((((a0) % 256) != 92)), (by first | rfl | (simp; done) | (simp [*]; done) | (simp [ByteArray.size_append]; exact Iff.rfl)), H', ⟨by first | omega | exact Nat.le_refl _⟩, ⟨by repeat (first | (with_reducible first | exact HB.out | apply below_alloc | apply pw_below_drewN | apply below_drew1) | exact HB.out)⟩⟩
                · rw [if_neg c19] at H
                  have c19b0 : decide (((a0) % 256) < 127) = false := decide_eq_false c19
                  clear c19
                  have H' := Aside0.mk H
                  clear H
                  go_wp2
                  go_meet
                  case rel => exact ⟨_, (false), (by first | rfl | (simp; done) | (simp [*]; done) | (simp [ByteArray.size_append]; exact Iff.rfl)), H', ⟨by first | omega | exact Nat.le_refl _⟩, ⟨by repeat (first | (with_reducible first | exact HB.out | apply below_alloc | apply pw_below_drewN | apply below_drew1) | exact HB.out)⟩⟩
              · rw [if_neg c18] at H
                have c18b0 : decide (32 < ((a0) % 256)) = false := decide_eq_false c18
                clear c18
                (first | rw [c18b0] | (simp only [i64_w, i32_w]; rw [c18b0]) | skip)
                have H' := Aside0.mk H
                clear H
                go_wp2
                go_meet
                case rel => exact ⟨_, (false), (by first | rfl | (simp; done) | (simp [*]; done) | (simp [ByteArray.size_append]; exact Iff.rfl)), H', ⟨by first | omega | exact Nat.le_refl _⟩, ⟨by repeat (first | (with_reducible first | exact HB.out | apply below_alloc | apply pw_below_drewN | apply below_drew1) | exact HB.out)⟩⟩
            case rest =>
              clear HC9
              try clear c1
              try clear hcv1
              try clear c2
              try clear p2
              try clear c3
              try clear c4
              try clear c4b0
              try clear c4b1
              try clear c4b2
              try clear c5
              try clear c5b0
              try clear c5b1
              try clear c5b2
              try clear c7
              try clear c7b0
              try clear c7b1
              try clear c7b2
              try clear c8
              try clear c8b0
              try clear c8b1
              try clear c8b2
              try clear c9
              try clear hcv13
              try clear hcv17
              try clear c18
              try clear c18b0
              try clear c19
              try clear c19b0
              try clear c20
              try clear c20b0
              try clear c20b1
              obtain ⟨kq, x49_8, rfl, HA, HJ8, HB⟩ := hcut
              cases kq with
              | zero => exact absurd HA.out (by simp [wimplelaw1_NamePlain.j0])
              | succ kj8 =>
                have H := HA.out
                clear HA
                simp only [wimplelaw1_NamePlain.j0] at H
                by_cases c21 : x49_8 = true
                · subst c21
                  have H1 : ((some (([((a0) % 256)] : List Int) : List Int)).bind fun y272 => (if (strOfNums y272).size + 1 ≤ 9223372036854775807 then ((name_Parse.f kj8 ((strOfNums y272) ++ (⟨#[46]⟩ : ByteArray))).bind fun bt275 => ((wimplelaw0_Num.f t268).bind fun t277 => (if t277 = 0 then (if t267.toList = ((strOfNums y272) ++ (⟨#[46]⟩ : ByteArray)).toList then ((wimplelaw0_Num.f bt275.2).bind fun t278 => (if t278 = 0 then ((some (([((a0) % 256)] : List Int) : List Int)).bind fun y279 => (if 1 + (strOfNums y279).size ≤ 9223372036854775807 then (if ((⟨#[1]⟩ : ByteArray) ++ (strOfNums y279)).size + 1 ≤ 9223372036854775807 then (some (bt275.1.toList == (((⟨#[1]⟩ : ByteArray) ++ (strOfNums y279)) ++ (⟨#[0]⟩ : ByteArray)).toList)) else (none)) else (none))) else (some false))) else (some false)) else (some false)))) else (none))) = some r := by rw [if_pos rfl] at H; exact H
                  clear H
                  have H := H1
                  clear H1
                  obtain ⟨y272, hy272⟩ : ∃ y_ : List Int, y_ = (([((a0) % 256)] : List Int)) := ⟨_, rfl⟩
                  replace H : (if (strOfNums y272).size + 1 ≤ 9223372036854775807 then ((name_Parse.f kj8 ((strOfNums y272) ++ (⟨#[46]⟩ : ByteArray))).bind fun bt275 => ((wimplelaw0_Num.f t268).bind fun t277 => (if t277 = 0 then (if t267.toList = ((strOfNums y272) ++ (⟨#[46]⟩ : ByteArray)).toList then ((wimplelaw0_Num.f bt275.2).bind fun t278 => (if t278 = 0 then ((some (([((a0) % 256)] : List Int) : List Int)).bind fun y279 => (if 1 + (strOfNums y279).size ≤ 9223372036854775807 then (if ((⟨#[1]⟩ : ByteArray) ++ (strOfNums y279)).size + 1 ≤ 9223372036854775807 then (some (bt275.1.toList == (((⟨#[1]⟩ : ByteArray) ++ (strOfNums y279)) ++ (⟨#[0]⟩ : ByteArray)).toList)) else (none)) else (none))) else (some false))) else (some false)) else (some false)))) else (none)) = some r := by first | (rw [hy272]; with_reducible exact H) | (have H2_ := (Option.bind_some _ _).symm.trans H; rw [hy272]; with_reducible exact H2_) | (have H2_ := (Option.bind_some _ _).symm.trans H; with_reducible exact H2_) | with_reducible exact H | (rw [hy272]; exact H) | exact H
                  have Ny272 := Aside0.mk hy272
                  clear hy272
                  by_cases c22 : (strOfNums y272).size + 1 ≤ 9223372036854775807
                  · rw [if_pos c22] at H
                    have c22b0 := eq_true c22
                    have c22b1 : decide ((strOfNums y272).size + 1 ≤ 9223372036854775807) = true := decide_eq_true c22
                    try have c22b2 : (9223372036854775807 < (strOfNums y272).size + 1) = False := eq_false (Nat.not_lt.2 c22)
                    replace H := Option.bind_eq_some_iff.mp H
                    obtain ⟨⟨t275, t276⟩, A230, H⟩ := H
                    replace H : ((wimplelaw0_Num.f t268).bind fun t277 => (if t277 = 0 then (if t267.toList = ((strOfNums y272) ++ (⟨#[46]⟩ : ByteArray)).toList then ((wimplelaw0_Num.f t276).bind fun t278 => (if t278 = 0 then ((some (([((a0) % 256)] : List Int) : List Int)).bind fun y279 => (if 1 + (strOfNums y279).size ≤ 9223372036854775807 then (if ((⟨#[1]⟩ : ByteArray) ++ (strOfNums y279)).size + 1 ≤ 9223372036854775807 then (some (t275.toList == (((⟨#[1]⟩ : ByteArray) ++ (strOfNums y279)) ++ (⟨#[0]⟩ : ByteArray)).toList)) else (none)) else (none))) else (some false))) else (some false)) else (some false))) = some r := H
                    have A23 := Aside0.mk A230
                    clear A230
                    replace H := Option.bind_eq_some_iff.mp H
                    obtain ⟨t277, A240, H⟩ := H
                    replace H : (if t277 = 0 then (if t267.toList = ((strOfNums y272) ++ (⟨#[46]⟩ : ByteArray)).toList then ((wimplelaw0_Num.f t276).bind fun t278 => (if t278 = 0 then ((some (([((a0) % 256)] : List Int) : List Int)).bind fun y279 => (if 1 + (strOfNums y279).size ≤ 9223372036854775807 then (if ((⟨#[1]⟩ : ByteArray) ++ (strOfNums y279)).size + 1 ≤ 9223372036854775807 then (some (t275.toList == (((⟨#[1]⟩ : ByteArray) ++ (strOfNums y279)) ++ (⟨#[0]⟩ : ByteArray)).toList)) else (none)) else (none))) else (some false))) else (some false)) else (some false)) = some r := H
                    have A24 := Aside0.mk A240
                    clear A240
                    by_cases c25 : t277 = 0
                    · rw [if_pos c25] at H
                      have c25b0 : (t277 == 0) = true := beq_iff_eq.mpr c25
                      have c25b1 : (t277 != 0) = false := bne_eq_false_iff_eq.mpr c25
                      clear c25
                      by_cases c26 : t267.toList = ((strOfNums y272) ++ (⟨#[46]⟩ : ByteArray)).toList
                      · rw [if_pos c26] at H
                        have c26b0 : (t267.toList == ((strOfNums y272) ++ (⟨#[46]⟩ : ByteArray)).toList) = true := beq_iff_eq.mpr c26
                        have c26b1 : (t267.toList != ((strOfNums y272) ++ (⟨#[46]⟩ : ByteArray)).toList) = false := bne_eq_false_iff_eq.mpr c26
                        clear c26
                        replace H := Option.bind_eq_some_iff.mp H
                        obtain ⟨t278, A270, H⟩ := H
                        replace H : (if t278 = 0 then ((some (([((a0) % 256)] : List Int) : List Int)).bind fun y279 => (if 1 + (strOfNums y279).size ≤ 9223372036854775807 then (if ((⟨#[1]⟩ : ByteArray) ++ (strOfNums y279)).size + 1 ≤ 9223372036854775807 then (some (t275.toList == (((⟨#[1]⟩ : ByteArray) ++ (strOfNums y279)) ++ (⟨#[0]⟩ : ByteArray)).toList)) else (none)) else (none))) else (some false)) = some r := H
                        have A27 := Aside0.mk A270
                        clear A270
                        by_cases c28 : t278 = 0
                        · rw [if_pos c28] at H
                          have c28b0 : (t278 == 0) = true := beq_iff_eq.mpr c28
                          have c28b1 : (t278 != 0) = false := bne_eq_false_iff_eq.mpr c28
                          clear c28
                          obtain ⟨y279, hy279⟩ : ∃ y_ : List Int, y_ = (([((a0) % 256)] : List Int)) := ⟨_, rfl⟩
                          replace H : (if 1 + (strOfNums y279).size ≤ 9223372036854775807 then (if ((⟨#[1]⟩ : ByteArray) ++ (strOfNums y279)).size + 1 ≤ 9223372036854775807 then (some (t275.toList == (((⟨#[1]⟩ : ByteArray) ++ (strOfNums y279)) ++ (⟨#[0]⟩ : ByteArray)).toList)) else (none)) else (none)) = some r := by first | (rw [hy279]; with_reducible exact H) | (have H2_ := (Option.bind_some _ _).symm.trans H; rw [hy279]; with_reducible exact H2_) | (have H2_ := (Option.bind_some _ _).symm.trans H; with_reducible exact H2_) | with_reducible exact H | (rw [hy279]; exact H) | exact H
                          have Ny279 := Aside0.mk hy279
                          clear hy279
                          by_cases c29 : 1 + (strOfNums y279).size ≤ 9223372036854775807
                          · rw [if_pos c29] at H
                            have c29b0 := eq_true c29
                            have c29b1 : decide (1 + (strOfNums y279).size ≤ 9223372036854775807) = true := decide_eq_true c29
                            try have c29b2 : (9223372036854775807 < 1 + (strOfNums y279).size) = False := eq_false (Nat.not_lt.2 c29)
                            by_cases c30 : ((⟨#[1]⟩ : ByteArray) ++ (strOfNums y279)).size + 1 ≤ 9223372036854775807
                            · rw [if_pos c30] at H
                              have c30b0 := eq_true c30
                              have c30b1 : decide (((⟨#[1]⟩ : ByteArray) ++ (strOfNums y279)).size + 1 ≤ 9223372036854775807) = true := decide_eq_true c30
                              try have c30b2 : (9223372036854775807 < ((⟨#[1]⟩ : ByteArray) ++ (strOfNums y279)).size + 1) = False := eq_false (Nat.not_lt.2 c30)
                              try have c30b3 : (9223372036854775807 < 1 + (strOfNums y279).size + 1) = False := eq_false (by have h_ := c30; simp only [ByteArray.size_append] at h_; exact Nat.not_lt.2 h_)
                              obtain rfl := Option.some.inj H
                              go_wp2_with (first | ((with_reducible refine gate_dst (N := 51) rfl ?_); (try (refine gate_guard (by rfl) ?_; dsimp only)); refine Kd.R_lit (Kd.int .u8) _ 5 ?hg (N := 51) ?hd (xs := ([((a0) % 256)] : List Int)) (inner := [.int .u8 ((a0) % 256)]) (ok := fun _ => True) (okp := fun _ => True) ?hr ?hp (fun _ hk => hk) trivial (Below.refl _ _) (Nat.le_refl _) (by simp) ?_; (case hd => rfl); (case hg => rfl); (case hr => first | (go_simp; done) | (go_simp; rfl)); (case hp => exact (Reps.one (show Kd.M (Kd.int .u8) _ _ _ ((a0) % 256) [.int .u8 ((a0) % 256)] from rfl) (Reps.none _ _))); intro v273 w31 ho32 hb hg_ hnew_; clear hg_ hnew_; (first | rw [← Ny272.out] at ho32 | (simp only [Int.reduceToNat] at ho32; rw [← Ny272.out] at ho32)); have n0_ := Aside0.mk (Kd.R_lower ho32 (below_size (by repeat (first | (with_reducible first | exact HB.out | apply below_alloc | apply pw_below_drewN | apply below_drew1) | exact HB.out)))); have n1_ := Aside0.mk (below_step (by repeat (first | (with_reducible first | exact HB.out | apply below_alloc | apply pw_below_drewN | apply below_drew1) | exact HB.out)) hb); clear HB; have HO274 := n0_; have HB := n1_; clear n0_ n1_; clear hb ho32; have hcv33 := own_string (P := Try.prog) Try.underlying32 Try.underlying5 Try.underlying9 (Kd.own_of_R HO274.out)) | ((with_reducible refine gate_callee (f := 11) rfl ?_); refine goesL_ (some 56) rfl rfl Try.func11 (by kernel_rfl) rfl #[.string ((strOfNums y272) ++ (⟨#[46]⟩ : ByteArray))] rfl (by (try simp only [List.map_toArray, List.map_cons, List.map_nil]); first | done | rfl | (simp only [List.length_drop, List.length_take]; rfl)) ?_; (with_reducible refine (name_Parse.calls kj8 ((strOfNums y272) ++ (⟨#[46]⟩ : ByteArray)) t275 t276 _ A23.out).mono ?_); rintro e w34 ⟨rfl, hb⟩; refine ⟨_, rfl, ?_⟩; have n0_ := Aside0.mk (Kd.R_below (by (with_reducible repeat (first | apply Kd.R_alloc | apply Kd.R_drewN | apply Kd.R_drew)); exact HO274.out) hb); have n1_ := Aside0.mk (below_step (by repeat (first | (with_reducible first | exact HB.out | apply below_alloc | apply pw_below_drewN | apply below_drew1) | exact HB.out)) hb); clear HO274; clear HB; have HO274 := n0_; have HB := n1_; clear n0_ n1_; (try clear hb); (try clear hb2); (try clear hk); (try clear hi)) | ((with_reducible refine gate_callee (f := 13) rfl ?_); refine goesL_ (some 60) rfl rfl Try.func13 (by kernel_rfl) rfl #[.int .i64 t268] rfl (by (try simp only [List.map_toArray, List.map_cons, List.map_nil]); first | done | rfl | (simp only [List.length_drop, List.length_take]; rfl)) ?_; (with_reducible refine (wimplelaw0_Num.calls t268 t277 _ A24.out).mono ?_); rintro e w' ⟨rfl, ⟨nd, rfl⟩⟩; refine ⟨_, rfl, ?_⟩) | (go_at_call 13; (with_reducible refine (wimplelaw0_Num.calls t276 t278 _ A27.out).mono ?_); rintro e w' ⟨rfl, ⟨nd, rfl⟩⟩) | ((with_reducible refine gate_dst (N := 75) rfl ?_); (try (refine gate_guard (by rfl) ?_; dsimp only)); refine Kd.R_lit (Kd.int .u8) _ 5 ?hg (N := 75) ?hd (xs := ([((a0) % 256)] : List Int)) (inner := [.int .u8 ((a0) % 256)]) (ok := fun _ => True) (okp := fun _ => True) ?hr ?hp (fun _ hk => hk) trivial (Below.refl _ _) (Nat.le_refl _) (by simp) ?_; (case hd => rfl); (case hg => rfl); (case hr => first | (go_simp; done) | (go_simp; rfl)); (case hp => exact (Reps.one (show Kd.M (Kd.int .u8) _ _ _ ((a0) % 256) [.int .u8 ((a0) % 256)] from rfl) (Reps.none _ _))); intro v280 w35 ho36 hb hg_ hnew_; clear hg_ hnew_; (first | rw [← Ny279.out] at ho36 | (simp only [Int.reduceToNat] at ho36; rw [← Ny279.out] at ho36)); have n0_ := Aside0.mk (Kd.R_elder' (by (with_reducible repeat (first | apply Kd.R_alloc | apply Kd.R_drewN | apply Kd.R_drew)); exact HO274.out) (Kd.R_base ho36) hb); have n1_ := Aside0.mk (Kd.R_lower (Kd.R_new' ho36 (Kd.R_lt (by (with_reducible repeat (first | apply Kd.R_alloc | apply Kd.R_drewN | apply Kd.R_drew)); exact HO274.out))) (below_size (by repeat (first | (with_reducible first | exact HB.out | apply below_alloc | apply pw_below_drewN | apply below_drew1) | exact HB.out)))); have n2_ := Aside0.mk (below_step (by repeat (first | (with_reducible first | exact HB.out | apply below_alloc | apply pw_below_drewN | apply below_drew1) | exact HB.out)) hb); clear HO274; clear HB; have HO274 := n0_; have HO281 := n1_; have HB := n2_; clear n0_ n1_ n2_; clear hb ho36; have hcv37 := own_string (P := Try.prog) Try.underlying32 Try.underlying5 Try.underlying9 (Kd.own_of_R HO281.out)))
                              go_ret
                              exact ⟨by first | rfl | (simp [errW_none, errW_some] <;> rfl) | (simp [*, errW_none, errW_some] <;> rfl), by repeat (first | (with_reducible first | exact HB.out | apply below_alloc | apply pw_below_drewN | apply below_drew1) | exact HB.out)⟩
                            · rw [if_neg c30] at H
                              exact absurd H (by simp)
                          · rw [if_neg c29] at H
                            exact absurd H (by simp)
                        · rw [if_neg c28] at H
                          have c28b0 : (t278 == 0) = false := beq_eq_false_iff_ne.mpr c28
                          have c28b1 : (t278 != 0) = true := bne_iff_ne.mpr c28
                          obtain rfl := Option.some.inj H
                          go_wp2_with (first | ((with_reducible refine gate_dst (N := 51) rfl ?_); (try (refine gate_guard (by rfl) ?_; dsimp only)); refine Kd.R_lit (Kd.int .u8) _ 5 ?hg (N := 51) ?hd (xs := ([((a0) % 256)] : List Int)) (inner := [.int .u8 ((a0) % 256)]) (ok := fun _ => True) (okp := fun _ => True) ?hr ?hp (fun _ hk => hk) trivial (Below.refl _ _) (Nat.le_refl _) (by simp) ?_; (case hd => rfl); (case hg => rfl); (case hr => first | (go_simp; done) | (go_simp; rfl)); (case hp => exact (Reps.one (show Kd.M (Kd.int .u8) _ _ _ ((a0) % 256) [.int .u8 ((a0) % 256)] from rfl) (Reps.none _ _))); intro v273 w38 ho39 hb hg_ hnew_; clear hg_ hnew_; (first | rw [← Ny272.out] at ho39 | (simp only [Int.reduceToNat] at ho39; rw [← Ny272.out] at ho39)); have n0_ := Aside0.mk (Kd.R_lower ho39 (below_size (by repeat (first | (with_reducible first | exact HB.out | apply below_alloc | apply pw_below_drewN | apply below_drew1) | exact HB.out)))); have n1_ := Aside0.mk (below_step (by repeat (first | (with_reducible first | exact HB.out | apply below_alloc | apply pw_below_drewN | apply below_drew1) | exact HB.out)) hb); clear HB; have HO274 := n0_; have HB := n1_; clear n0_ n1_; clear hb ho39; have hcv40 := own_string (P := Try.prog) Try.underlying32 Try.underlying5 Try.underlying9 (Kd.own_of_R HO274.out)) | ((with_reducible refine gate_callee (f := 11) rfl ?_); refine goesL_ (some 56) rfl rfl Try.func11 (by kernel_rfl) rfl #[.string ((strOfNums y272) ++ (⟨#[46]⟩ : ByteArray))] rfl (by (try simp only [List.map_toArray, List.map_cons, List.map_nil]); first | done | rfl | (simp only [List.length_drop, List.length_take]; rfl)) ?_; (with_reducible refine (name_Parse.calls kj8 ((strOfNums y272) ++ (⟨#[46]⟩ : ByteArray)) t275 t276 _ A23.out).mono ?_); rintro e w41 ⟨rfl, hb⟩; refine ⟨_, rfl, ?_⟩; have n0_ := Aside0.mk (Kd.R_below (by (with_reducible repeat (first | apply Kd.R_alloc | apply Kd.R_drewN | apply Kd.R_drew)); exact HO274.out) hb); have n1_ := Aside0.mk (below_step (by repeat (first | (with_reducible first | exact HB.out | apply below_alloc | apply pw_below_drewN | apply below_drew1) | exact HB.out)) hb); clear HO274; clear HB; have HO274 := n0_; have HB := n1_; clear n0_ n1_; (try clear hb); (try clear hb2); (try clear hk); (try clear hi)) | ((with_reducible refine gate_callee (f := 13) rfl ?_); refine goesL_ (some 60) rfl rfl Try.func13 (by kernel_rfl) rfl #[.int .i64 t268] rfl (by (try simp only [List.map_toArray, List.map_cons, List.map_nil]); first | done | rfl | (simp only [List.length_drop, List.length_take]; rfl)) ?_; (with_reducible refine (wimplelaw0_Num.calls t268 t277 _ A24.out).mono ?_); rintro e w' ⟨rfl, ⟨nd, rfl⟩⟩; refine ⟨_, rfl, ?_⟩) | (go_at_call 13; (with_reducible refine (wimplelaw0_Num.calls t276 t278 _ A27.out).mono ?_); rintro e w' ⟨rfl, ⟨nd, rfl⟩⟩))
                          go_ret
                          exact ⟨by first | rfl | (simp [errW_none, errW_some] <;> rfl) | (simp [*, errW_none, errW_some] <;> rfl), by repeat (first | (with_reducible first | exact HB.out | apply below_alloc | apply pw_below_drewN | apply below_drew1) | exact HB.out)⟩
                      · rw [if_neg c26] at H
                        have c26b0 : (t267.toList == ((strOfNums y272) ++ (⟨#[46]⟩ : ByteArray)).toList) = false := beq_eq_false_iff_ne.mpr c26
                        have c26b1 : (t267.toList != ((strOfNums y272) ++ (⟨#[46]⟩ : ByteArray)).toList) = true := bne_iff_ne.mpr c26
                        obtain rfl := Option.some.inj H
                        go_wp2_with (first | ((with_reducible refine gate_dst (N := 51) rfl ?_); (try (refine gate_guard (by rfl) ?_; dsimp only)); refine Kd.R_lit (Kd.int .u8) _ 5 ?hg (N := 51) ?hd (xs := ([((a0) % 256)] : List Int)) (inner := [.int .u8 ((a0) % 256)]) (ok := fun _ => True) (okp := fun _ => True) ?hr ?hp (fun _ hk => hk) trivial (Below.refl _ _) (Nat.le_refl _) (by simp) ?_; (case hd => rfl); (case hg => rfl); (case hr => first | (go_simp; done) | (go_simp; rfl)); (case hp => exact (Reps.one (show Kd.M (Kd.int .u8) _ _ _ ((a0) % 256) [.int .u8 ((a0) % 256)] from rfl) (Reps.none _ _))); intro v273 w42 ho43 hb hg_ hnew_; clear hg_ hnew_; (first | rw [← Ny272.out] at ho43 | (simp only [Int.reduceToNat] at ho43; rw [← Ny272.out] at ho43)); have n0_ := Aside0.mk (Kd.R_lower ho43 (below_size (by repeat (first | (with_reducible first | exact HB.out | apply below_alloc | apply pw_below_drewN | apply below_drew1) | exact HB.out)))); have n1_ := Aside0.mk (below_step (by repeat (first | (with_reducible first | exact HB.out | apply below_alloc | apply pw_below_drewN | apply below_drew1) | exact HB.out)) hb); clear HB; have HO274 := n0_; have HB := n1_; clear n0_ n1_; clear hb ho43; have hcv44 := own_string (P := Try.prog) Try.underlying32 Try.underlying5 Try.underlying9 (Kd.own_of_R HO274.out)) | ((with_reducible refine gate_callee (f := 11) rfl ?_); refine goesL_ (some 56) rfl rfl Try.func11 (by kernel_rfl) rfl #[.string ((strOfNums y272) ++ (⟨#[46]⟩ : ByteArray))] rfl (by (try simp only [List.map_toArray, List.map_cons, List.map_nil]); first | done | rfl | (simp only [List.length_drop, List.length_take]; rfl)) ?_; (with_reducible refine (name_Parse.calls kj8 ((strOfNums y272) ++ (⟨#[46]⟩ : ByteArray)) t275 t276 _ A23.out).mono ?_); rintro e w45 ⟨rfl, hb⟩; refine ⟨_, rfl, ?_⟩; have n0_ := Aside0.mk (Kd.R_below (by (with_reducible repeat (first | apply Kd.R_alloc | apply Kd.R_drewN | apply Kd.R_drew)); exact HO274.out) hb); have n1_ := Aside0.mk (below_step (by repeat (first | (with_reducible first | exact HB.out | apply below_alloc | apply pw_below_drewN | apply below_drew1) | exact HB.out)) hb); clear HO274; clear HB; have HO274 := n0_; have HB := n1_; clear n0_ n1_; (try clear hb); (try clear hb2); (try clear hk); (try clear hi)) | ((with_reducible refine gate_callee (f := 13) rfl ?_); refine goesL_ (some 60) rfl rfl Try.func13 (by kernel_rfl) rfl #[.int .i64 t268] rfl (by (try simp only [List.map_toArray, List.map_cons, List.map_nil]); first | done | rfl | (simp only [List.length_drop, List.length_take]; rfl)) ?_; (with_reducible refine (wimplelaw0_Num.calls t268 t277 _ A24.out).mono ?_); rintro e w' ⟨rfl, ⟨nd, rfl⟩⟩; refine ⟨_, rfl, ?_⟩))
                        go_ret
                        exact ⟨by first | rfl | (simp [errW_none, errW_some] <;> rfl) | (simp [*, errW_none, errW_some] <;> rfl), by repeat (first | (with_reducible first | exact HB.out | apply below_alloc | apply pw_below_drewN | apply below_drew1) | exact HB.out)⟩
                    · rw [if_neg c25] at H
                      have c25b0 : (t277 == 0) = false := beq_eq_false_iff_ne.mpr c25
                      have c25b1 : (t277 != 0) = true := bne_iff_ne.mpr c25
                      obtain rfl := Option.some.inj H
                      go_wp2_with (first | ((with_reducible refine gate_dst (N := 51) rfl ?_); (try (refine gate_guard (by rfl) ?_; dsimp only)); refine Kd.R_lit (Kd.int .u8) _ 5 ?hg (N := 51) ?hd (xs := ([((a0) % 256)] : List Int)) (inner := [.int .u8 ((a0) % 256)]) (ok := fun _ => True) (okp := fun _ => True) ?hr ?hp (fun _ hk => hk) trivial (Below.refl _ _) (Nat.le_refl _) (by simp) ?_; (case hd => rfl); (case hg => rfl); (case hr => first | (go_simp; done) | (go_simp; rfl)); (case hp => exact (Reps.one (show Kd.M (Kd.int .u8) _ _ _ ((a0) % 256) [.int .u8 ((a0) % 256)] from rfl) (Reps.none _ _))); intro v273 w46 ho47 hb hg_ hnew_; clear hg_ hnew_; (first | rw [← Ny272.out] at ho47 | (simp only [Int.reduceToNat] at ho47; rw [← Ny272.out] at ho47)); have n0_ := Aside0.mk (Kd.R_lower ho47 (below_size (by repeat (first | (with_reducible first | exact HB.out | apply below_alloc | apply pw_below_drewN | apply below_drew1) | exact HB.out)))); have n1_ := Aside0.mk (below_step (by repeat (first | (with_reducible first | exact HB.out | apply below_alloc | apply pw_below_drewN | apply below_drew1) | exact HB.out)) hb); clear HB; have HO274 := n0_; have HB := n1_; clear n0_ n1_; clear hb ho47; have hcv48 := own_string (P := Try.prog) Try.underlying32 Try.underlying5 Try.underlying9 (Kd.own_of_R HO274.out)) | ((with_reducible refine gate_callee (f := 11) rfl ?_); refine goesL_ (some 56) rfl rfl Try.func11 (by kernel_rfl) rfl #[.string ((strOfNums y272) ++ (⟨#[46]⟩ : ByteArray))] rfl (by (try simp only [List.map_toArray, List.map_cons, List.map_nil]); first | done | rfl | (simp only [List.length_drop, List.length_take]; rfl)) ?_; (with_reducible refine (name_Parse.calls kj8 ((strOfNums y272) ++ (⟨#[46]⟩ : ByteArray)) t275 t276 _ A23.out).mono ?_); rintro e w49 ⟨rfl, hb⟩; refine ⟨_, rfl, ?_⟩; have n0_ := Aside0.mk (Kd.R_below (by (with_reducible repeat (first | apply Kd.R_alloc | apply Kd.R_drewN | apply Kd.R_drew)); exact HO274.out) hb); have n1_ := Aside0.mk (below_step (by repeat (first | (with_reducible first | exact HB.out | apply below_alloc | apply pw_below_drewN | apply below_drew1) | exact HB.out)) hb); clear HO274; clear HB; have HO274 := n0_; have HB := n1_; clear n0_ n1_; (try clear hb); (try clear hb2); (try clear hk); (try clear hi)) | ((with_reducible refine gate_callee (f := 13) rfl ?_); refine goesL_ (some 60) rfl rfl Try.func13 (by kernel_rfl) rfl #[.int .i64 t268] rfl (by (try simp only [List.map_toArray, List.map_cons, List.map_nil]); first | done | rfl | (simp only [List.length_drop, List.length_take]; rfl)) ?_; (with_reducible refine (wimplelaw0_Num.calls t268 t277 _ A24.out).mono ?_); rintro e w' ⟨rfl, ⟨nd, rfl⟩⟩; refine ⟨_, rfl, ?_⟩))
                      go_ret
                      exact ⟨by first | rfl | (simp [errW_none, errW_some] <;> rfl) | (simp [*, errW_none, errW_some] <;> rfl), by repeat (first | (with_reducible first | exact HB.out | apply below_alloc | apply pw_below_drewN | apply below_drew1) | exact HB.out)⟩
                  · rw [if_neg c22] at H
                    exact absurd H (by simp)
                · replace c21 := Bool.eq_false_iff.mpr c21
                  subst c21
                  have H1 : ((name_Parse.f kj8 (((⟨#[92]⟩ : ByteArray) ++ (strOfNums y269)) ++ (⟨#[46]⟩ : ByteArray))).bind fun bt282 => ((wimplelaw0_Num.f t268).bind fun t284 => (if t284 = 0 then (if t267.toList = (((⟨#[92]⟩ : ByteArray) ++ (strOfNums y269)) ++ (⟨#[46]⟩ : ByteArray)).toList then ((wimplelaw0_Num.f bt282.2).bind fun t285 => (if t285 = 0 then ((some (([((a0) % 256)] : List Int) : List Int)).bind fun y286 => (if 1 + (strOfNums y286).size ≤ 9223372036854775807 then (if ((⟨#[1]⟩ : ByteArray) ++ (strOfNums y286)).size + 1 ≤ 9223372036854775807 then (some (bt282.1.toList == (((⟨#[1]⟩ : ByteArray) ++ (strOfNums y286)) ++ (⟨#[0]⟩ : ByteArray)).toList)) else (none)) else (none))) else (some false))) else (some false)) else (some false)))) = some r := by rw [if_neg (show ¬ (false = true) by decide)] at H; exact H
                  clear H
                  have H := H1
                  clear H1
                  replace H := Option.bind_eq_some_iff.mp H
                  obtain ⟨⟨t282, t283⟩, A500, H⟩ := H
                  replace H : ((wimplelaw0_Num.f t268).bind fun t284 => (if t284 = 0 then (if t267.toList = (((⟨#[92]⟩ : ByteArray) ++ (strOfNums y269)) ++ (⟨#[46]⟩ : ByteArray)).toList then ((wimplelaw0_Num.f t283).bind fun t285 => (if t285 = 0 then ((some (([((a0) % 256)] : List Int) : List Int)).bind fun y286 => (if 1 + (strOfNums y286).size ≤ 9223372036854775807 then (if ((⟨#[1]⟩ : ByteArray) ++ (strOfNums y286)).size + 1 ≤ 9223372036854775807 then (some (t282.toList == (((⟨#[1]⟩ : ByteArray) ++ (strOfNums y286)) ++ (⟨#[0]⟩ : ByteArray)).toList)) else (none)) else (none))) else (some false))) else (some false)) else (some false))) = some r := H
                  have A50 := Aside0.mk A500
                  clear A500
                  replace H := Option.bind_eq_some_iff.mp H
                  obtain ⟨t284, A510, H⟩ := H
                  replace H : (if t284 = 0 then (if t267.toList = (((⟨#[92]⟩ : ByteArray) ++ (strOfNums y269)) ++ (⟨#[46]⟩ : ByteArray)).toList then ((wimplelaw0_Num.f t283).bind fun t285 => (if t285 = 0 then ((some (([((a0) % 256)] : List Int) : List Int)).bind fun y286 => (if 1 + (strOfNums y286).size ≤ 9223372036854775807 then (if ((⟨#[1]⟩ : ByteArray) ++ (strOfNums y286)).size + 1 ≤ 9223372036854775807 then (some (t282.toList == (((⟨#[1]⟩ : ByteArray) ++ (strOfNums y286)) ++ (⟨#[0]⟩ : ByteArray)).toList)) else (none)) else (none))) else (some false))) else (some false)) else (some false)) = some r := H
                  have A51 := Aside0.mk A510
                  clear A510
                  by_cases c52 : t284 = 0
                  · rw [if_pos c52] at H
                    have c52b0 : (t284 == 0) = true := beq_iff_eq.mpr c52
                    have c52b1 : (t284 != 0) = false := bne_eq_false_iff_eq.mpr c52
                    clear c52
                    by_cases c53 : t267.toList = (((⟨#[92]⟩ : ByteArray) ++ (strOfNums y269)) ++ (⟨#[46]⟩ : ByteArray)).toList
                    · rw [if_pos c53] at H
                      have c53b0 : (t267.toList == (((⟨#[92]⟩ : ByteArray) ++ (strOfNums y269)) ++ (⟨#[46]⟩ : ByteArray)).toList) = true := beq_iff_eq.mpr c53
                      have c53b1 : (t267.toList != (((⟨#[92]⟩ : ByteArray) ++ (strOfNums y269)) ++ (⟨#[46]⟩ : ByteArray)).toList) = false := bne_eq_false_iff_eq.mpr c53
                      clear c53
                      replace H := Option.bind_eq_some_iff.mp H
                      obtain ⟨t285, A540, H⟩ := H
                      replace H : (if t285 = 0 then ((some (([((a0) % 256)] : List Int) : List Int)).bind fun y286 => (if 1 + (strOfNums y286).size ≤ 9223372036854775807 then (if ((⟨#[1]⟩ : ByteArray) ++ (strOfNums y286)).size + 1 ≤ 9223372036854775807 then (some (t282.toList == (((⟨#[1]⟩ : ByteArray) ++ (strOfNums y286)) ++ (⟨#[0]⟩ : ByteArray)).toList)) else (none)) else (none))) else (some false)) = some r := H
                      have A54 := Aside0.mk A540
                      clear A540
                      by_cases c55 : t285 = 0
                      · rw [if_pos c55] at H
                        have c55b0 : (t285 == 0) = true := beq_iff_eq.mpr c55
                        have c55b1 : (t285 != 0) = false := bne_eq_false_iff_eq.mpr c55
                        clear c55
                        obtain ⟨y286, hy286⟩ : ∃ y_ : List Int, y_ = (([((a0) % 256)] : List Int)) := ⟨_, rfl⟩
                        replace H : (if 1 + (strOfNums y286).size ≤ 9223372036854775807 then (if ((⟨#[1]⟩ : ByteArray) ++ (strOfNums y286)).size + 1 ≤ 9223372036854775807 then (some (t282.toList == (((⟨#[1]⟩ : ByteArray) ++ (strOfNums y286)) ++ (⟨#[0]⟩ : ByteArray)).toList)) else (none)) else (none)) = some r := by first | (rw [hy286]; with_reducible exact H) | (have H2_ := (Option.bind_some _ _).symm.trans H; rw [hy286]; with_reducible exact H2_) | (have H2_ := (Option.bind_some _ _).symm.trans H; with_reducible exact H2_) | with_reducible exact H | (rw [hy286]; exact H) | exact H
                        have Ny286 := Aside0.mk hy286
                        clear hy286
                        by_cases c56 : 1 + (strOfNums y286).size ≤ 9223372036854775807
                        · rw [if_pos c56] at H
                          have c56b0 := eq_true c56
                          have c56b1 : decide (1 + (strOfNums y286).size ≤ 9223372036854775807) = true := decide_eq_true c56
                          try have c56b2 : (9223372036854775807 < 1 + (strOfNums y286).size) = False := eq_false (Nat.not_lt.2 c56)
                          by_cases c57 : ((⟨#[1]⟩ : ByteArray) ++ (strOfNums y286)).size + 1 ≤ 9223372036854775807
                          · rw [if_pos c57] at H
                            have c57b0 := eq_true c57
                            have c57b1 : decide (((⟨#[1]⟩ : ByteArray) ++ (strOfNums y286)).size + 1 ≤ 9223372036854775807) = true := decide_eq_true c57
                            try have c57b2 : (9223372036854775807 < ((⟨#[1]⟩ : ByteArray) ++ (strOfNums y286)).size + 1) = False := eq_false (Nat.not_lt.2 c57)
                            try have c57b3 : (9223372036854775807 < 1 + (strOfNums y286).size + 1) = False := eq_false (by have h_ := c57; simp only [ByteArray.size_append] at h_; exact Nat.not_lt.2 h_)
                            obtain rfl := Option.some.inj H
                            go_wp2_with (first | ((with_reducible refine gate_callee (f := 11) rfl ?_); refine goesL_ (some 56) rfl rfl Try.func11 (by kernel_rfl) rfl #[.string (((⟨#[92]⟩ : ByteArray) ++ (strOfNums y269)) ++ (⟨#[46]⟩ : ByteArray))] rfl (by (try simp only [List.map_toArray, List.map_cons, List.map_nil]); first | done | rfl | (simp only [List.length_drop, List.length_take]; rfl)) ?_; (with_reducible refine (name_Parse.calls kj8 (((⟨#[92]⟩ : ByteArray) ++ (strOfNums y269)) ++ (⟨#[46]⟩ : ByteArray)) t282 t283 _ A50.out).mono ?_); rintro e w58 ⟨rfl, hb⟩; refine ⟨_, rfl, ?_⟩; have n0_ := Aside0.mk (below_step (by repeat (first | (with_reducible first | exact HB.out | apply below_alloc | apply pw_below_drewN | apply below_drew1) | exact HB.out)) hb); clear HB; have HB := n0_; clear n0_; (try clear hb); (try clear hb2); (try clear hk); (try clear hi)) | ((with_reducible refine gate_callee (f := 13) rfl ?_); refine goesL_ (some 60) rfl rfl Try.func13 (by kernel_rfl) rfl #[.int .i64 t268] rfl (by (try simp only [List.map_toArray, List.map_cons, List.map_nil]); first | done | rfl | (simp only [List.length_drop, List.length_take]; rfl)) ?_; (with_reducible refine (wimplelaw0_Num.calls t268 t284 _ A51.out).mono ?_); rintro e w' ⟨rfl, ⟨nd, rfl⟩⟩; refine ⟨_, rfl, ?_⟩) | (go_at_call 13; (with_reducible refine (wimplelaw0_Num.calls t283 t285 _ A54.out).mono ?_); rintro e w' ⟨rfl, ⟨nd, rfl⟩⟩) | ((with_reducible refine gate_dst (N := 75) rfl ?_); (try (refine gate_guard (by rfl) ?_; dsimp only)); refine Kd.R_lit (Kd.int .u8) _ 5 ?hg (N := 75) ?hd (xs := ([((a0) % 256)] : List Int)) (inner := [.int .u8 ((a0) % 256)]) (ok := fun _ => True) (okp := fun _ => True) ?hr ?hp (fun _ hk => hk) trivial (Below.refl _ _) (Nat.le_refl _) (by simp) ?_; (case hd => rfl); (case hg => rfl); (case hr => first | (go_simp; done) | (go_simp; rfl)); (case hp => exact (Reps.one (show Kd.M (Kd.int .u8) _ _ _ ((a0) % 256) [.int .u8 ((a0) % 256)] from rfl) (Reps.none _ _))); intro v287 w59 ho60 hb hg_ hnew_; clear hg_ hnew_; (first | rw [← Ny286.out] at ho60 | (simp only [Int.reduceToNat] at ho60; rw [← Ny286.out] at ho60)); have n0_ := Aside0.mk (Kd.R_lower ho60 (below_size (by repeat (first | (with_reducible first | exact HB.out | apply below_alloc | apply pw_below_drewN | apply below_drew1) | exact HB.out)))); have n1_ := Aside0.mk (below_step (by repeat (first | (with_reducible first | exact HB.out | apply below_alloc | apply pw_below_drewN | apply below_drew1) | exact HB.out)) hb); clear HB; have HO288 := n0_; have HB := n1_; clear n0_ n1_; clear hb ho60; have hcv61 := own_string (P := Try.prog) Try.underlying32 Try.underlying5 Try.underlying9 (Kd.own_of_R HO288.out)))
                            go_ret
                            exact ⟨by first | rfl | (simp [errW_none, errW_some] <;> rfl) | (simp [*, errW_none, errW_some] <;> rfl), by repeat (first | (with_reducible first | exact HB.out | apply below_alloc | apply pw_below_drewN | apply below_drew1) | exact HB.out)⟩
                          · rw [if_neg c57] at H
                            exact absurd H (by simp)
                        · rw [if_neg c56] at H
                          exact absurd H (by simp)
                      · rw [if_neg c55] at H
                        have c55b0 : (t285 == 0) = false := beq_eq_false_iff_ne.mpr c55
                        have c55b1 : (t285 != 0) = true := bne_iff_ne.mpr c55
                        obtain rfl := Option.some.inj H
                        go_wp2_with (first | ((with_reducible refine gate_callee (f := 11) rfl ?_); refine goesL_ (some 56) rfl rfl Try.func11 (by kernel_rfl) rfl #[.string (((⟨#[92]⟩ : ByteArray) ++ (strOfNums y269)) ++ (⟨#[46]⟩ : ByteArray))] rfl (by (try simp only [List.map_toArray, List.map_cons, List.map_nil]); first | done | rfl | (simp only [List.length_drop, List.length_take]; rfl)) ?_; (with_reducible refine (name_Parse.calls kj8 (((⟨#[92]⟩ : ByteArray) ++ (strOfNums y269)) ++ (⟨#[46]⟩ : ByteArray)) t282 t283 _ A50.out).mono ?_); rintro e w62 ⟨rfl, hb⟩; refine ⟨_, rfl, ?_⟩; have n0_ := Aside0.mk (below_step (by repeat (first | (with_reducible first | exact HB.out | apply below_alloc | apply pw_below_drewN | apply below_drew1) | exact HB.out)) hb); clear HB; have HB := n0_; clear n0_; (try clear hb); (try clear hb2); (try clear hk); (try clear hi)) | ((with_reducible refine gate_callee (f := 13) rfl ?_); refine goesL_ (some 60) rfl rfl Try.func13 (by kernel_rfl) rfl #[.int .i64 t268] rfl (by (try simp only [List.map_toArray, List.map_cons, List.map_nil]); first | done | rfl | (simp only [List.length_drop, List.length_take]; rfl)) ?_; (with_reducible refine (wimplelaw0_Num.calls t268 t284 _ A51.out).mono ?_); rintro e w' ⟨rfl, ⟨nd, rfl⟩⟩; refine ⟨_, rfl, ?_⟩) | (go_at_call 13; (with_reducible refine (wimplelaw0_Num.calls t283 t285 _ A54.out).mono ?_); rintro e w' ⟨rfl, ⟨nd, rfl⟩⟩))
                        go_ret
                        exact ⟨by first | rfl | (simp [errW_none, errW_some] <;> rfl) | (simp [*, errW_none, errW_some] <;> rfl), by repeat (first | (with_reducible first | exact HB.out | apply below_alloc | apply pw_below_drewN | apply below_drew1) | exact HB.out)⟩
                    · rw [if_neg c53] at H
                      have c53b0 : (t267.toList == (((⟨#[92]⟩ : ByteArray) ++ (strOfNums y269)) ++ (⟨#[46]⟩ : ByteArray)).toList) = false := beq_eq_false_iff_ne.mpr c53
                      have c53b1 : (t267.toList != (((⟨#[92]⟩ : ByteArray) ++ (strOfNums y269)) ++ (⟨#[46]⟩ : ByteArray)).toList) = true := bne_iff_ne.mpr c53
                      obtain rfl := Option.some.inj H
                      go_wp2_with (first | ((with_reducible refine gate_callee (f := 11) rfl ?_); refine goesL_ (some 56) rfl rfl Try.func11 (by kernel_rfl) rfl #[.string (((⟨#[92]⟩ : ByteArray) ++ (strOfNums y269)) ++ (⟨#[46]⟩ : ByteArray))] rfl (by (try simp only [List.map_toArray, List.map_cons, List.map_nil]); first | done | rfl | (simp only [List.length_drop, List.length_take]; rfl)) ?_; (with_reducible refine (name_Parse.calls kj8 (((⟨#[92]⟩ : ByteArray) ++ (strOfNums y269)) ++ (⟨#[46]⟩ : ByteArray)) t282 t283 _ A50.out).mono ?_); rintro e w63 ⟨rfl, hb⟩; refine ⟨_, rfl, ?_⟩; have n0_ := Aside0.mk (below_step (by repeat (first | (with_reducible first | exact HB.out | apply below_alloc | apply pw_below_drewN | apply below_drew1) | exact HB.out)) hb); clear HB; have HB := n0_; clear n0_; (try clear hb); (try clear hb2); (try clear hk); (try clear hi)) | ((with_reducible refine gate_callee (f := 13) rfl ?_); refine goesL_ (some 60) rfl rfl Try.func13 (by kernel_rfl) rfl #[.int .i64 t268] rfl (by (try simp only [List.map_toArray, List.map_cons, List.map_nil]); first | done | rfl | (simp only [List.length_drop, List.length_take]; rfl)) ?_; (with_reducible refine (wimplelaw0_Num.calls t268 t284 _ A51.out).mono ?_); rintro e w' ⟨rfl, ⟨nd, rfl⟩⟩; refine ⟨_, rfl, ?_⟩))
                      go_ret
                      exact ⟨by first | rfl | (simp [errW_none, errW_some] <;> rfl) | (simp [*, errW_none, errW_some] <;> rfl), by repeat (first | (with_reducible first | exact HB.out | apply below_alloc | apply pw_below_drewN | apply below_drew1) | exact HB.out)⟩
                  · rw [if_neg c52] at H
                    have c52b0 : (t284 == 0) = false := beq_eq_false_iff_ne.mpr c52
                    have c52b1 : (t284 != 0) = true := bne_iff_ne.mpr c52
                    obtain rfl := Option.some.inj H
                    go_wp2_with (first | ((with_reducible refine gate_callee (f := 11) rfl ?_); refine goesL_ (some 56) rfl rfl Try.func11 (by kernel_rfl) rfl #[.string (((⟨#[92]⟩ : ByteArray) ++ (strOfNums y269)) ++ (⟨#[46]⟩ : ByteArray))] rfl (by (try simp only [List.map_toArray, List.map_cons, List.map_nil]); first | done | rfl | (simp only [List.length_drop, List.length_take]; rfl)) ?_; (with_reducible refine (name_Parse.calls kj8 (((⟨#[92]⟩ : ByteArray) ++ (strOfNums y269)) ++ (⟨#[46]⟩ : ByteArray)) t282 t283 _ A50.out).mono ?_); rintro e w64 ⟨rfl, hb⟩; refine ⟨_, rfl, ?_⟩; have n0_ := Aside0.mk (below_step (by repeat (first | (with_reducible first | exact HB.out | apply below_alloc | apply pw_below_drewN | apply below_drew1) | exact HB.out)) hb); clear HB; have HB := n0_; clear n0_; (try clear hb); (try clear hb2); (try clear hk); (try clear hi)) | ((with_reducible refine gate_callee (f := 13) rfl ?_); refine goesL_ (some 60) rfl rfl Try.func13 (by kernel_rfl) rfl #[.int .i64 t268] rfl (by (try simp only [List.map_toArray, List.map_cons, List.map_nil]); first | done | rfl | (simp only [List.length_drop, List.length_take]; rfl)) ?_; (with_reducible refine (wimplelaw0_Num.calls t268 t284 _ A51.out).mono ?_); rintro e w' ⟨rfl, ⟨nd, rfl⟩⟩; refine ⟨_, rfl, ?_⟩))
                    go_ret
                    exact ⟨by first | rfl | (simp [errW_none, errW_some] <;> rfl) | (simp [*, errW_none, errW_some] <;> rfl), by repeat (first | (with_reducible first | exact HB.out | apply below_alloc | apply pw_below_drewN | apply below_drew1) | exact HB.out)⟩
          · rw [if_neg c8] at H
            exact absurd H (by simp)
        · rw [if_neg c7] at H
          exact absurd H (by simp)
      · rw [if_neg c5] at H
        exact absurd H (by simp)
    · rw [if_neg c4] at H
      exact absurd H (by simp)
  · replace c3 := Bool.eq_false_iff.mpr c3
    subst c3
    have H1 : (some false) = some r := by rw [if_neg (show ¬ (false = true) by decide)] at H; exact H
    clear H
    have H := H1
    clear H1
    obtain rfl := Option.some.inj H
    go_enter Try.func7, Try.ntmps7
    go_wp2_with (first | ((with_reducible refine gate_callee (f := 18) rfl ?_); refine goesL_ (some 9) rfl rfl Try.func18 (by kernel_rfl) rfl #[] rfl (by (try simp only [List.map_toArray, List.map_cons, List.map_nil]); first | done | rfl | (simp only [List.length_drop, List.length_take]; rfl)) ?_; (with_reducible refine (wimplelaw1_awake.calls k  false _ A2.out).mono ?_); rintro e w65 ⟨rfl, hb⟩; refine ⟨_, rfl, ?_⟩; have n0_ := Aside0.mk (below_step (by repeat (first | (with_reducible first | exact HB.out | apply below_alloc | apply pw_below_drewN | apply below_drew1) | exact HB.out)) hb); clear HB; have HB := n0_; clear n0_; (try clear hb); (try clear hb2); (try clear hk); (try clear hi)))
    go_ret
    exact ⟨by first | rfl | (simp [errW_none, errW_some] <;> rfl) | (simp [*, errW_none, errW_some] <;> rfl), by repeat (first | (with_reducible first | exact HB.out | apply below_alloc | apply pw_below_drewN | apply below_drew1) | exact HB.out)⟩

/-- THE ONE PURE STATEMENT of wimplelaw1_NamePlain: yours. -/
def wimplelaw1_NamePlain.Pure : Prop := ∀ (a0 : Int), (Lit.int .i64 a0).wf = true → ∃ k, wimplelaw1_NamePlain.f k a0 = some true
theorem wimplelaw1_NamePlain.walk (P : wimplelaw1_NamePlain.Pure) (a0 : Int) (w : World) (w0 : (Lit.int .i64 a0).wf = true) :
    Calls Try.prog 7 #[.int .i64 a0] w fun e w' => e = .returned (.bool true) ∧ Below w.heap.size w w' := by
  obtain ⟨k, h⟩ := P a0 w0
  refine (wimplelaw1_NamePlain.calls k a0 true w h).mono ?_
  rintro e w' ⟨rfl, hd⟩
  exact ⟨rfl, hd⟩

/-! ### wimplelaw1_NameWrong: function 8 -/
def wimplelaw1_NameWrong.f (k : Nat) (a0 : Int) : Option (Bool) := (wimplelaw1_awake.f k).bind fun t289 => (if t289 = true then ((some (([(⟨#[]⟩ : ByteArray), (⟨#[97]⟩ : ByteArray), (⟨#[97, 46, 46]⟩ : ByteArray), (⟨#[46, 97, 46]⟩ : ByteArray), (⟨#[46, 46]⟩ : ByteArray), (⟨#[92, 48, 54, 53, 46]⟩ : ByteArray), (⟨#[92, 50, 53, 54, 46]⟩ : ByteArray), (⟨#[92, 48, 52, 46]⟩ : ByteArray), (⟨#[97, 32, 98, 46]⟩ : ByteArray), (⟨#[92, 46]⟩ : ByteArray), (⟨#[97, 46, 92]⟩ : ByteArray), (⟨#[92, 49, 97, 50, 46]⟩ : ByteArray), (⟨#[97, 46, 98]⟩ : ByteArray)] : List ByteArray) : List ByteArray)).bind fun y290 => (if 0 ≤ (wrap64 (Int.tmod (IntKind.u64.wrap (a0)) 13)) then (if (wrap64 (Int.tmod (IntKind.u64.wrap (a0)) 13)) < (y290.length : Int) then ((name_Parse.f k (rdOf ByteArray.empty y290 (wrap64 (Int.tmod (IntKind.u64.wrap (a0)) 13)))).bind fun bt294 => ((wimplelaw0_Num.f bt294.2).bind fun t296 => (if t296 = 100 then (some (bt294.1.toList == ([] : List UInt8))) else (some false)))) else (none)) else (none))) else (some false))
theorem wimplelaw1_NameWrong.mono : ∀ a0 k, LeO (wimplelaw1_NameWrong.f k a0) (wimplelaw1_NameWrong.f (k + 1) a0) := by
  intro a0 k
  unfold wimplelaw1_NameWrong.f
  repeat' first
      | (with_reducible exact name_Parse.mono _ _)
      | (with_reducible exact wimplelaw1_awake.mono _)
      | (with_reducible exact LeO.refl _)
      | (with_reducible exact LeO.none _)
      | (with_reducible refine LeO.ite ?_ ?_)
      | (with_reducible refine LeO.bind ?_ (fun _ => ?_))
      | exact name_Parse.mono _ _
      | exact wimplelaw1_awake.mono _
      | exact LeO.none _
      | refine LeO.ite ?_ ?_
      | refine LeO.bind ?_ (fun _ => ?_)
set_option maxHeartbeats 8000000 in
set_option maxRecDepth 100000 in
theorem wimplelaw1_NameWrong.calls (k : Nat) (a0 : Int) (r : Bool) (w : World) (h : wimplelaw1_NameWrong.f k a0 = some r) :
    Calls Try.prog 8 #[.int .i64 a0] w fun e w' => e = .returned (.bool r) ∧ Below w.heap.size w w' := by
  have HB := Aside0.mk (Below.refl w.heap.size w)
  have H : ((wimplelaw1_awake.f k).bind fun t289 => (if t289 = true then ((some (([(⟨#[]⟩ : ByteArray), (⟨#[97]⟩ : ByteArray), (⟨#[97, 46, 46]⟩ : ByteArray), (⟨#[46, 97, 46]⟩ : ByteArray), (⟨#[46, 46]⟩ : ByteArray), (⟨#[92, 48, 54, 53, 46]⟩ : ByteArray), (⟨#[92, 50, 53, 54, 46]⟩ : ByteArray), (⟨#[92, 48, 52, 46]⟩ : ByteArray), (⟨#[97, 32, 98, 46]⟩ : ByteArray), (⟨#[92, 46]⟩ : ByteArray), (⟨#[97, 46, 92]⟩ : ByteArray), (⟨#[92, 49, 97, 50, 46]⟩ : ByteArray), (⟨#[97, 46, 98]⟩ : ByteArray)] : List ByteArray) : List ByteArray)).bind fun y290 => (if 0 ≤ (wrap64 (Int.tmod (IntKind.u64.wrap (a0)) 13)) then (if (wrap64 (Int.tmod (IntKind.u64.wrap (a0)) 13)) < (y290.length : Int) then ((name_Parse.f k (rdOf ByteArray.empty y290 (wrap64 (Int.tmod (IntKind.u64.wrap (a0)) 13)))).bind fun bt294 => ((wimplelaw0_Num.f bt294.2).bind fun t296 => (if t296 = 100 then (some (bt294.1.toList == ([] : List UInt8))) else (some false)))) else (none)) else (none))) else (some false))) = some r := h
  clear h
  replace H := Option.bind_eq_some_iff.mp H
  obtain ⟨t289, A20, H⟩ := H
  replace H : (if t289 = true then ((some (([(⟨#[]⟩ : ByteArray), (⟨#[97]⟩ : ByteArray), (⟨#[97, 46, 46]⟩ : ByteArray), (⟨#[46, 97, 46]⟩ : ByteArray), (⟨#[46, 46]⟩ : ByteArray), (⟨#[92, 48, 54, 53, 46]⟩ : ByteArray), (⟨#[92, 50, 53, 54, 46]⟩ : ByteArray), (⟨#[92, 48, 52, 46]⟩ : ByteArray), (⟨#[97, 32, 98, 46]⟩ : ByteArray), (⟨#[92, 46]⟩ : ByteArray), (⟨#[97, 46, 92]⟩ : ByteArray), (⟨#[92, 49, 97, 50, 46]⟩ : ByteArray), (⟨#[97, 46, 98]⟩ : ByteArray)] : List ByteArray) : List ByteArray)).bind fun y290 => (if 0 ≤ (wrap64 (Int.tmod (IntKind.u64.wrap (a0)) 13)) then (if (wrap64 (Int.tmod (IntKind.u64.wrap (a0)) 13)) < (y290.length : Int) then ((name_Parse.f k (rdOf ByteArray.empty y290 (wrap64 (Int.tmod (IntKind.u64.wrap (a0)) 13)))).bind fun bt294 => ((wimplelaw0_Num.f bt294.2).bind fun t296 => (if t296 = 100 then (some (bt294.1.toList == ([] : List UInt8))) else (some false)))) else (none)) else (none))) else (some false)) = some r := H
  have A2 := Aside0.mk A20
  clear A20
  by_cases c3 : t289 = true
  · subst c3
    have H1 : ((some (([(⟨#[]⟩ : ByteArray), (⟨#[97]⟩ : ByteArray), (⟨#[97, 46, 46]⟩ : ByteArray), (⟨#[46, 97, 46]⟩ : ByteArray), (⟨#[46, 46]⟩ : ByteArray), (⟨#[92, 48, 54, 53, 46]⟩ : ByteArray), (⟨#[92, 50, 53, 54, 46]⟩ : ByteArray), (⟨#[92, 48, 52, 46]⟩ : ByteArray), (⟨#[97, 32, 98, 46]⟩ : ByteArray), (⟨#[92, 46]⟩ : ByteArray), (⟨#[97, 46, 92]⟩ : ByteArray), (⟨#[92, 49, 97, 50, 46]⟩ : ByteArray), (⟨#[97, 46, 98]⟩ : ByteArray)] : List ByteArray) : List ByteArray)).bind fun y290 => (if 0 ≤ (wrap64 (Int.tmod (IntKind.u64.wrap (a0)) 13)) then (if (wrap64 (Int.tmod (IntKind.u64.wrap (a0)) 13)) < (y290.length : Int) then ((name_Parse.f k (rdOf ByteArray.empty y290 (wrap64 (Int.tmod (IntKind.u64.wrap (a0)) 13)))).bind fun bt294 => ((wimplelaw0_Num.f bt294.2).bind fun t296 => (if t296 = 100 then (some (bt294.1.toList == ([] : List UInt8))) else (some false)))) else (none)) else (none))) = some r := by rw [if_pos rfl] at H; exact H
    clear H
    have H := H1
    clear H1
    obtain ⟨y290, hy290⟩ : ∃ y_ : List ByteArray, y_ = (([(⟨#[]⟩ : ByteArray), (⟨#[97]⟩ : ByteArray), (⟨#[97, 46, 46]⟩ : ByteArray), (⟨#[46, 97, 46]⟩ : ByteArray), (⟨#[46, 46]⟩ : ByteArray), (⟨#[92, 48, 54, 53, 46]⟩ : ByteArray), (⟨#[92, 50, 53, 54, 46]⟩ : ByteArray), (⟨#[92, 48, 52, 46]⟩ : ByteArray), (⟨#[97, 32, 98, 46]⟩ : ByteArray), (⟨#[92, 46]⟩ : ByteArray), (⟨#[97, 46, 92]⟩ : ByteArray), (⟨#[92, 49, 97, 50, 46]⟩ : ByteArray), (⟨#[97, 46, 98]⟩ : ByteArray)] : List ByteArray)) := ⟨_, rfl⟩
    replace H : (if 0 ≤ (wrap64 (Int.tmod (IntKind.u64.wrap (a0)) 13)) then (if (wrap64 (Int.tmod (IntKind.u64.wrap (a0)) 13)) < (y290.length : Int) then ((name_Parse.f k (rdOf ByteArray.empty y290 (wrap64 (Int.tmod (IntKind.u64.wrap (a0)) 13)))).bind fun bt294 => ((wimplelaw0_Num.f bt294.2).bind fun t296 => (if t296 = 100 then (some (bt294.1.toList == ([] : List UInt8))) else (some false)))) else (none)) else (none)) = some r := by first | (rw [hy290]; with_reducible exact H) | (have H2_ := (Option.bind_some _ _).symm.trans H; rw [hy290]; with_reducible exact H2_) | (have H2_ := (Option.bind_some _ _).symm.trans H; with_reducible exact H2_) | with_reducible exact H | (rw [hy290]; exact H) | exact H
    have Ny290 := Aside0.mk hy290
    clear hy290
    obtain ⟨ji4, hji4⟩ : ∃ j_ : Int, (wrap64 (Int.tmod (IntKind.u64.wrap (a0)) 13)) = j_ := ⟨_, rfl⟩
    replace H : (if 0 ≤ (ji4) then (if (ji4) < (y290.length : Int) then ((name_Parse.f k (rdOf ByteArray.empty y290 (ji4))).bind fun bt294 => ((wimplelaw0_Num.f bt294.2).bind fun t296 => (if t296 = 100 then (some (bt294.1.toList == ([] : List UInt8))) else (some false)))) else (none)) else (none)) = some r := by first | (rw [hji4] at H; exact H) | (simp only [hji4] at H ⊢; exact H)
    (try rw [hji4] at A2)
    have hji4w : (IntKind.i64.wrap (Int.tmod (IntKind.u64.wrap (a0)) 13)) = ji4 := (i64_w _).trans hji4
    by_cases c5 : 0 ≤ (ji4)
    · rw [if_pos c5] at H
      have c5b0 : decide (0 ≤ (ji4)) = true := decide_eq_true c5
      clear c5
      by_cases c6 : (ji4) < (y290.length : Int)
      · rw [if_pos c6] at H
        have c6b0 : decide ((ji4) < (y290.length : Int)) = true := decide_eq_true c6
        clear c6
        replace H := Option.bind_eq_some_iff.mp H
        obtain ⟨⟨t294, t295⟩, A70, H⟩ := H
        replace H : ((wimplelaw0_Num.f t295).bind fun t296 => (if t296 = 100 then (some (t294.toList == ([] : List UInt8))) else (some false))) = some r := H
        have A7 := Aside0.mk A70
        clear A70
        replace H := Option.bind_eq_some_iff.mp H
        obtain ⟨t296, A80, H⟩ := H
        replace H : (if t296 = 100 then (some (t294.toList == ([] : List UInt8))) else (some false)) = some r := H
        have A8 := Aside0.mk A80
        clear A80
        by_cases c9 : t296 = 100
        · rw [if_pos c9] at H
          have c9b0 : (t296 == 100) = true := beq_iff_eq.mpr c9
          have c9b1 : (t296 != 100) = false := bne_eq_false_iff_eq.mpr c9
          clear c9
          obtain rfl := Option.some.inj H
          go_enter Try.func8, Try.ntmps8
          go_wp2_with (first | ((with_reducible refine gate_callee (f := 18) rfl ?_); refine goesL_ (some 6) rfl rfl Try.func18 (by kernel_rfl) rfl #[] rfl (by (try simp only [List.map_toArray, List.map_cons, List.map_nil]); first | done | rfl | (simp only [List.length_drop, List.length_take]; rfl)) ?_; (with_reducible refine (wimplelaw1_awake.calls k  true _ A2.out).mono ?_); rintro e w10 ⟨rfl, hb⟩; refine ⟨_, rfl, ?_⟩; have n0_ := Aside0.mk (below_step (by repeat (first | (with_reducible first | exact HB.out | apply below_alloc | apply pw_below_drewN | apply below_drew1) | exact HB.out)) hb); clear HB; have HB := n0_; clear n0_; (try clear hb); (try clear hb2); (try clear hk); (try clear hi)) | ((with_reducible refine gate_dst (N := 8) rfl ?_); refine Kd.R_lit Kd.string _ 9 ?hg (N := 8) ?hd (xs := ([(⟨#[]⟩ : ByteArray), (⟨#[97]⟩ : ByteArray), (⟨#[97, 46, 46]⟩ : ByteArray), (⟨#[46, 97, 46]⟩ : ByteArray), (⟨#[46, 46]⟩ : ByteArray), (⟨#[92, 48, 54, 53, 46]⟩ : ByteArray), (⟨#[92, 50, 53, 54, 46]⟩ : ByteArray), (⟨#[92, 48, 52, 46]⟩ : ByteArray), (⟨#[97, 32, 98, 46]⟩ : ByteArray), (⟨#[92, 46]⟩ : ByteArray), (⟨#[97, 46, 92]⟩ : ByteArray), (⟨#[92, 49, 97, 50, 46]⟩ : ByteArray), (⟨#[97, 46, 98]⟩ : ByteArray)] : List ByteArray)) (inner := [.string (⟨#[]⟩ : ByteArray), .string (⟨#[97]⟩ : ByteArray), .string (⟨#[97, 46, 46]⟩ : ByteArray), .string (⟨#[46, 97, 46]⟩ : ByteArray), .string (⟨#[46, 46]⟩ : ByteArray), .string (⟨#[92, 48, 54, 53, 46]⟩ : ByteArray), .string (⟨#[92, 50, 53, 54, 46]⟩ : ByteArray), .string (⟨#[92, 48, 52, 46]⟩ : ByteArray), .string (⟨#[97, 32, 98, 46]⟩ : ByteArray), .string (⟨#[92, 46]⟩ : ByteArray), .string (⟨#[97, 46, 92]⟩ : ByteArray), .string (⟨#[92, 49, 97, 50, 46]⟩ : ByteArray), .string (⟨#[97, 46, 98]⟩ : ByteArray)]) (ok := fun _ => True) (okp := fun _ => True) ?hr ?hp (fun _ hk => hk) trivial (Below.refl _ _) (Nat.le_refl _) (by simp) ?_; (case hd => rfl); (case hg => rfl); (case hr => first | (go_simp; done) | (go_simp; rfl)); (case hp => exact (Reps.one (show Kd.M Kd.string _ _ _ (⟨#[]⟩ : ByteArray) [.string (⟨#[]⟩ : ByteArray)] from rfl) (Reps.one (show Kd.M Kd.string _ _ _ (⟨#[97]⟩ : ByteArray) [.string (⟨#[97]⟩ : ByteArray)] from rfl) (Reps.one (show Kd.M Kd.string _ _ _ (⟨#[97, 46, 46]⟩ : ByteArray) [.string (⟨#[97, 46, 46]⟩ : ByteArray)] from rfl) (Reps.one (show Kd.M Kd.string _ _ _ (⟨#[46, 97, 46]⟩ : ByteArray) [.string (⟨#[46, 97, 46]⟩ : ByteArray)] from rfl) (Reps.one (show Kd.M Kd.string _ _ _ (⟨#[46, 46]⟩ : ByteArray) [.string (⟨#[46, 46]⟩ : ByteArray)] from rfl) (Reps.one (show Kd.M Kd.string _ _ _ (⟨#[92, 48, 54, 53, 46]⟩ : ByteArray) [.string (⟨#[92, 48, 54, 53, 46]⟩ : ByteArray)] from rfl) (Reps.one (show Kd.M Kd.string _ _ _ (⟨#[92, 50, 53, 54, 46]⟩ : ByteArray) [.string (⟨#[92, 50, 53, 54, 46]⟩ : ByteArray)] from rfl) (Reps.one (show Kd.M Kd.string _ _ _ (⟨#[92, 48, 52, 46]⟩ : ByteArray) [.string (⟨#[92, 48, 52, 46]⟩ : ByteArray)] from rfl) (Reps.one (show Kd.M Kd.string _ _ _ (⟨#[97, 32, 98, 46]⟩ : ByteArray) [.string (⟨#[97, 32, 98, 46]⟩ : ByteArray)] from rfl) (Reps.one (show Kd.M Kd.string _ _ _ (⟨#[92, 46]⟩ : ByteArray) [.string (⟨#[92, 46]⟩ : ByteArray)] from rfl) (Reps.one (show Kd.M Kd.string _ _ _ (⟨#[97, 46, 92]⟩ : ByteArray) [.string (⟨#[97, 46, 92]⟩ : ByteArray)] from rfl) (Reps.one (show Kd.M Kd.string _ _ _ (⟨#[92, 49, 97, 50, 46]⟩ : ByteArray) [.string (⟨#[92, 49, 97, 50, 46]⟩ : ByteArray)] from rfl) (Reps.one (show Kd.M Kd.string _ _ _ (⟨#[97, 46, 98]⟩ : ByteArray) [.string (⟨#[97, 46, 98]⟩ : ByteArray)] from rfl) (Reps.none _ _))))))))))))))); intro v291 w11 ho12 hb hg_ hnew_; clear hg_ hnew_; (first | rw [← Ny290.out] at ho12 | (simp only [Int.reduceToNat] at ho12; rw [← Ny290.out] at ho12)); have n0_ := Aside0.mk (Kd.R_lower ho12 (below_size (by repeat (first | (with_reducible first | exact HB.out | apply below_alloc | apply pw_below_drewN | apply below_drew1) | exact HB.out)))); have n1_ := Aside0.mk (below_step (by repeat (first | (with_reducible first | exact HB.out | apply below_alloc | apply pw_below_drewN | apply below_drew1) | exact HB.out)) hb); clear HB; have HO292 := n0_; have HB := n1_; clear n0_ n1_; clear hb ho12; obtain ⟨Ao13, co13, eo13⟩ := Kd.R_slice HO292.out; subst eo13; have p293 : 0 ≤ ((ji4) : Int) := of_decide_eq_true (by first | (with_reducible assumption) | assumption); have q293 : (ji4) < (y290.length : Int) := of_decide_eq_true (by first | (with_reducible assumption) | assumption); obtain ⟨ad293, e293, hx293_0⟩ := Kd.at_string (Kd.R_reads' HO292.out).2.2 (ji4) p293 q293; cases e293; replace p293 := eq_true p293; replace q293 := eq_true q293) | ((with_reducible refine gate_callee (f := 11) rfl ?_); refine goesL_ (some 17) rfl rfl Try.func11 (by kernel_rfl) rfl #[.string (rdOf ByteArray.empty y290 (ji4))] rfl (by (try simp only [List.map_toArray, List.map_cons, List.map_nil]); first | done | (simp only [hji4]; rfl) | rfl | (simp only [List.length_drop, List.length_take]; rfl)) ?_; (with_reducible refine (name_Parse.calls k (rdOf ByteArray.empty y290 (ji4)) t294 t295 _ A7.out).mono ?_); rintro e w14 ⟨rfl, hb⟩; refine ⟨_, rfl, ?_⟩; have n0_ := Aside0.mk (Kd.R_below (by (with_reducible repeat (first | apply Kd.R_alloc | apply Kd.R_drewN | apply Kd.R_drew)); exact HO292.out) hb); have n1_ := Aside0.mk (below_step (by repeat (first | (with_reducible first | exact HB.out | apply below_alloc | apply pw_below_drewN | apply below_drew1) | exact HB.out)) hb); clear HO292; clear HB; have HO292 := n0_; have HB := n1_; clear n0_ n1_; (try clear hb); (try clear hb2); (try clear hk); (try clear hi)) | ((with_reducible refine gate_callee (f := 13) rfl ?_); refine goesL_ (some 21) rfl rfl Try.func13 (by kernel_rfl) rfl #[.int .i64 t295] rfl (by (try simp only [List.map_toArray, List.map_cons, List.map_nil]); first | done | rfl | (simp only [List.length_drop, List.length_take]; rfl)) ?_; (with_reducible refine (wimplelaw0_Num.calls t295 t296 _ A8.out).mono ?_); rintro e w' ⟨rfl, ⟨nd, rfl⟩⟩; refine ⟨_, rfl, ?_⟩))
          go_ret
          exact ⟨by first | rfl | (simp [errW_none, errW_some] <;> rfl) | (simp only [← hji4]; first | rfl | (simp [errW_none, errW_some] <;> rfl)) | (simp [*, errW_none, errW_some] <;> rfl), by repeat (first | (with_reducible first | exact HB.out | apply below_alloc | apply pw_below_drewN | apply below_drew1) | exact HB.out)⟩
        · rw [if_neg c9] at H
          have c9b0 : (t296 == 100) = false := beq_eq_false_iff_ne.mpr c9
          have c9b1 : (t296 != 100) = true := bne_iff_ne.mpr c9
          obtain rfl := Option.some.inj H
          go_enter Try.func8, Try.ntmps8
          go_wp2_with (first | ((with_reducible refine gate_callee (f := 18) rfl ?_); refine goesL_ (some 6) rfl rfl Try.func18 (by kernel_rfl) rfl #[] rfl (by (try simp only [List.map_toArray, List.map_cons, List.map_nil]); first | done | rfl | (simp only [List.length_drop, List.length_take]; rfl)) ?_; (with_reducible refine (wimplelaw1_awake.calls k  true _ A2.out).mono ?_); rintro e w15 ⟨rfl, hb⟩; refine ⟨_, rfl, ?_⟩; have n0_ := Aside0.mk (below_step (by repeat (first | (with_reducible first | exact HB.out | apply below_alloc | apply pw_below_drewN | apply below_drew1) | exact HB.out)) hb); clear HB; have HB := n0_; clear n0_; (try clear hb); (try clear hb2); (try clear hk); (try clear hi)) | ((with_reducible refine gate_dst (N := 8) rfl ?_); refine Kd.R_lit Kd.string _ 9 ?hg (N := 8) ?hd (xs := ([(⟨#[]⟩ : ByteArray), (⟨#[97]⟩ : ByteArray), (⟨#[97, 46, 46]⟩ : ByteArray), (⟨#[46, 97, 46]⟩ : ByteArray), (⟨#[46, 46]⟩ : ByteArray), (⟨#[92, 48, 54, 53, 46]⟩ : ByteArray), (⟨#[92, 50, 53, 54, 46]⟩ : ByteArray), (⟨#[92, 48, 52, 46]⟩ : ByteArray), (⟨#[97, 32, 98, 46]⟩ : ByteArray), (⟨#[92, 46]⟩ : ByteArray), (⟨#[97, 46, 92]⟩ : ByteArray), (⟨#[92, 49, 97, 50, 46]⟩ : ByteArray), (⟨#[97, 46, 98]⟩ : ByteArray)] : List ByteArray)) (inner := [.string (⟨#[]⟩ : ByteArray), .string (⟨#[97]⟩ : ByteArray), .string (⟨#[97, 46, 46]⟩ : ByteArray), .string (⟨#[46, 97, 46]⟩ : ByteArray), .string (⟨#[46, 46]⟩ : ByteArray), .string (⟨#[92, 48, 54, 53, 46]⟩ : ByteArray), .string (⟨#[92, 50, 53, 54, 46]⟩ : ByteArray), .string (⟨#[92, 48, 52, 46]⟩ : ByteArray), .string (⟨#[97, 32, 98, 46]⟩ : ByteArray), .string (⟨#[92, 46]⟩ : ByteArray), .string (⟨#[97, 46, 92]⟩ : ByteArray), .string (⟨#[92, 49, 97, 50, 46]⟩ : ByteArray), .string (⟨#[97, 46, 98]⟩ : ByteArray)]) (ok := fun _ => True) (okp := fun _ => True) ?hr ?hp (fun _ hk => hk) trivial (Below.refl _ _) (Nat.le_refl _) (by simp) ?_; (case hd => rfl); (case hg => rfl); (case hr => first | (go_simp; done) | (go_simp; rfl)); (case hp => exact (Reps.one (show Kd.M Kd.string _ _ _ (⟨#[]⟩ : ByteArray) [.string (⟨#[]⟩ : ByteArray)] from rfl) (Reps.one (show Kd.M Kd.string _ _ _ (⟨#[97]⟩ : ByteArray) [.string (⟨#[97]⟩ : ByteArray)] from rfl) (Reps.one (show Kd.M Kd.string _ _ _ (⟨#[97, 46, 46]⟩ : ByteArray) [.string (⟨#[97, 46, 46]⟩ : ByteArray)] from rfl) (Reps.one (show Kd.M Kd.string _ _ _ (⟨#[46, 97, 46]⟩ : ByteArray) [.string (⟨#[46, 97, 46]⟩ : ByteArray)] from rfl) (Reps.one (show Kd.M Kd.string _ _ _ (⟨#[46, 46]⟩ : ByteArray) [.string (⟨#[46, 46]⟩ : ByteArray)] from rfl) (Reps.one (show Kd.M Kd.string _ _ _ (⟨#[92, 48, 54, 53, 46]⟩ : ByteArray) [.string (⟨#[92, 48, 54, 53, 46]⟩ : ByteArray)] from rfl) (Reps.one (show Kd.M Kd.string _ _ _ (⟨#[92, 50, 53, 54, 46]⟩ : ByteArray) [.string (⟨#[92, 50, 53, 54, 46]⟩ : ByteArray)] from rfl) (Reps.one (show Kd.M Kd.string _ _ _ (⟨#[92, 48, 52, 46]⟩ : ByteArray) [.string (⟨#[92, 48, 52, 46]⟩ : ByteArray)] from rfl) (Reps.one (show Kd.M Kd.string _ _ _ (⟨#[97, 32, 98, 46]⟩ : ByteArray) [.string (⟨#[97, 32, 98, 46]⟩ : ByteArray)] from rfl) (Reps.one (show Kd.M Kd.string _ _ _ (⟨#[92, 46]⟩ : ByteArray) [.string (⟨#[92, 46]⟩ : ByteArray)] from rfl) (Reps.one (show Kd.M Kd.string _ _ _ (⟨#[97, 46, 92]⟩ : ByteArray) [.string (⟨#[97, 46, 92]⟩ : ByteArray)] from rfl) (Reps.one (show Kd.M Kd.string _ _ _ (⟨#[92, 49, 97, 50, 46]⟩ : ByteArray) [.string (⟨#[92, 49, 97, 50, 46]⟩ : ByteArray)] from rfl) (Reps.one (show Kd.M Kd.string _ _ _ (⟨#[97, 46, 98]⟩ : ByteArray) [.string (⟨#[97, 46, 98]⟩ : ByteArray)] from rfl) (Reps.none _ _))))))))))))))); intro v291 w16 ho17 hb hg_ hnew_; clear hg_ hnew_; (first | rw [← Ny290.out] at ho17 | (simp only [Int.reduceToNat] at ho17; rw [← Ny290.out] at ho17)); have n0_ := Aside0.mk (Kd.R_lower ho17 (below_size (by repeat (first | (with_reducible first | exact HB.out | apply below_alloc | apply pw_below_drewN | apply below_drew1) | exact HB.out)))); have n1_ := Aside0.mk (below_step (by repeat (first | (with_reducible first | exact HB.out | apply below_alloc | apply pw_below_drewN | apply below_drew1) | exact HB.out)) hb); clear HB; have HO292 := n0_; have HB := n1_; clear n0_ n1_; clear hb ho17; obtain ⟨Ao18, co18, eo18⟩ := Kd.R_slice HO292.out; subst eo18; have p293 : 0 ≤ ((ji4) : Int) := of_decide_eq_true (by first | (with_reducible assumption) | assumption); have q293 : (ji4) < (y290.length : Int) := of_decide_eq_true (by first | (with_reducible assumption) | assumption); obtain ⟨ad293, e293, hx293_0⟩ := Kd.at_string (Kd.R_reads' HO292.out).2.2 (ji4) p293 q293; cases e293; replace p293 := eq_true p293; replace q293 := eq_true q293) | ((with_reducible refine gate_callee (f := 11) rfl ?_); refine goesL_ (some 17) rfl rfl Try.func11 (by kernel_rfl) rfl #[.string (rdOf ByteArray.empty y290 (ji4))] rfl (by (try simp only [List.map_toArray, List.map_cons, List.map_nil]); first | done | (simp only [hji4]; rfl) | rfl | (simp only [List.length_drop, List.length_take]; rfl)) ?_; (with_reducible refine (name_Parse.calls k (rdOf ByteArray.empty y290 (ji4)) t294 t295 _ A7.out).mono ?_); rintro e w19 ⟨rfl, hb⟩; refine ⟨_, rfl, ?_⟩; have n0_ := Aside0.mk (Kd.R_below (by (with_reducible repeat (first | apply Kd.R_alloc | apply Kd.R_drewN | apply Kd.R_drew)); exact HO292.out) hb); have n1_ := Aside0.mk (below_step (by repeat (first | (with_reducible first | exact HB.out | apply below_alloc | apply pw_below_drewN | apply below_drew1) | exact HB.out)) hb); clear HO292; clear HB; have HO292 := n0_; have HB := n1_; clear n0_ n1_; (try clear hb); (try clear hb2); (try clear hk); (try clear hi)) | ((with_reducible refine gate_callee (f := 13) rfl ?_); refine goesL_ (some 21) rfl rfl Try.func13 (by kernel_rfl) rfl #[.int .i64 t295] rfl (by (try simp only [List.map_toArray, List.map_cons, List.map_nil]); first | done | rfl | (simp only [List.length_drop, List.length_take]; rfl)) ?_; (with_reducible refine (wimplelaw0_Num.calls t295 t296 _ A8.out).mono ?_); rintro e w' ⟨rfl, ⟨nd, rfl⟩⟩; refine ⟨_, rfl, ?_⟩))
          go_ret
          exact ⟨by first | rfl | (simp [errW_none, errW_some] <;> rfl) | (simp only [← hji4]; first | rfl | (simp [errW_none, errW_some] <;> rfl)) | (simp [*, errW_none, errW_some] <;> rfl), by repeat (first | (with_reducible first | exact HB.out | apply below_alloc | apply pw_below_drewN | apply below_drew1) | exact HB.out)⟩
      · rw [if_neg c6] at H
        exact absurd H (by simp)
    · rw [if_neg c5] at H
      exact absurd H (by simp)
  · replace c3 := Bool.eq_false_iff.mpr c3
    subst c3
    have H1 : (some false) = some r := by rw [if_neg (show ¬ (false = true) by decide)] at H; exact H
    clear H
    have H := H1
    clear H1
    obtain rfl := Option.some.inj H
    go_enter Try.func8, Try.ntmps8
    go_wp2_with (first | ((with_reducible refine gate_callee (f := 18) rfl ?_); refine goesL_ (some 6) rfl rfl Try.func18 (by kernel_rfl) rfl #[] rfl (by (try simp only [List.map_toArray, List.map_cons, List.map_nil]); first | done | rfl | (simp only [List.length_drop, List.length_take]; rfl)) ?_; (with_reducible refine (wimplelaw1_awake.calls k  false _ A2.out).mono ?_); rintro e w20 ⟨rfl, hb⟩; refine ⟨_, rfl, ?_⟩; have n0_ := Aside0.mk (below_step (by repeat (first | (with_reducible first | exact HB.out | apply below_alloc | apply pw_below_drewN | apply below_drew1) | exact HB.out)) hb); clear HB; have HB := n0_; clear n0_; (try clear hb); (try clear hb2); (try clear hk); (try clear hi)))
    go_ret
    exact ⟨by first | rfl | (simp [errW_none, errW_some] <;> rfl) | (simp [*, errW_none, errW_some] <;> rfl), by repeat (first | (with_reducible first | exact HB.out | apply below_alloc | apply pw_below_drewN | apply below_drew1) | exact HB.out)⟩

/-- THE ONE PURE STATEMENT of wimplelaw1_NameWrong: yours. -/
def wimplelaw1_NameWrong.Pure : Prop := ∀ (a0 : Int), (Lit.int .i64 a0).wf = true → ∃ k, wimplelaw1_NameWrong.f k a0 = some true
theorem wimplelaw1_NameWrong.walk (P : wimplelaw1_NameWrong.Pure) (a0 : Int) (w : World) (w0 : (Lit.int .i64 a0).wf = true) :
    Calls Try.prog 8 #[.int .i64 a0] w fun e w' => e = .returned (.bool true) ∧ Below w.heap.size w w' := by
  obtain ⟨k, h⟩ := P a0 w0
  refine (wimplelaw1_NameWrong.calls k a0 true w h).mono ?_
  rintro e w' ⟨rfl, hd⟩
  exact ⟨rfl, hd⟩

end Go.Proofs.Ytefmomphapjfiaa.P
