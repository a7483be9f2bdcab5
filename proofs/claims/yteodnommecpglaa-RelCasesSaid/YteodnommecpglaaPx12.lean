-- Written by a program of this session's prover (over the kit's printer, with contracts of the session's own); Lean checks it.
import Derived.Test.YteodnommecpglaaPx0
import Derived.Test.YteodnommecpglaaPx4
import Derived.Test.YteodnommecpglaaPx5
import Derived.Test.YteodnommecpglaaPx6
import Derived.Test.YteodnommecpglaaPx9
import Derived.Test.YteodnommecpglaaPx11
namespace Go.Proofs.Yteodnommecpglaa.P
open Go.RowKit Go.Proofs.YteodnommecpglaaW.PrintWords Go.Proofs.YteodnommecpglaaW.PrintLast Go.Proofs.YteodnommecpglaaW.PrintMore
attribute [local go_sem] max2_int min2_int max_two min_two max_three min_three max_four min_four   -- for this text's walks alone
set_option linter.unusedVariables false
set_option linter.unusedSimpArgs false

/-! ### wimplelaw2_RelCases: function 6 -/
def wimplelaw2_RelCases.f (k : Nat) (a0 : Int) (a1 : Int) : Option (Bool) := (wimplelaw2_awake.f k).bind fun t308 => (if t308 = true then ((some (([(a0) % 256] : List Int) : List Int)).bind fun y309 => (if 1 + (strOfNums y309).size ≤ 9223372036854775807 then (if ((⟨#[1]⟩ : ByteArray) ++ (strOfNums y309)).size + 1 ≤ 9223372036854775807 then ((some (([(a1) % 256] : List Int) : List Int)).bind fun y312 => (if 1 + (strOfNums y312).size ≤ 9223372036854775807 then (if ((⟨#[1]⟩ : ByteArray) ++ (strOfNums y312)).size + 1 ≤ 9223372036854775807 then ((wimplelaw2_folded.f ((a0) % 256)).bind fun t315 => ((wimplelaw2_folded.f ((a1) % 256)).bind fun t316 => ((rel_Same.f k (((⟨#[1]⟩ : ByteArray) ++ (strOfNums y309)) ++ (⟨#[0]⟩ : ByteArray)) (((⟨#[1]⟩ : ByteArray) ++ (strOfNums y312)) ++ (⟨#[0]⟩ : ByteArray))).bind fun t317 => (if (t317 == (t315 == t316)) = true then ((rel_Above.f k (((⟨#[1]⟩ : ByteArray) ++ (strOfNums y309)) ++ (⟨#[0]⟩ : ByteArray)) (((⟨#[1]⟩ : ByteArray) ++ (strOfNums y312)) ++ (⟨#[0]⟩ : ByteArray))).bind fun t318 => (if (t318 == (t315 == t316)) = true then ((rel_Compare.f k (((⟨#[1]⟩ : ByteArray) ++ (strOfNums y309)) ++ (⟨#[0]⟩ : ByteArray)) (((⟨#[1]⟩ : ByteArray) ++ (strOfNums y312)) ++ (⟨#[0]⟩ : ByteArray))).bind fun t319 => (if ((t319 == 0) == (t315 == t316)) = true then ((rel_Compare.f k (((⟨#[1]⟩ : ByteArray) ++ (strOfNums y309)) ++ (⟨#[0]⟩ : ByteArray)) (((⟨#[1]⟩ : ByteArray) ++ (strOfNums y312)) ++ (⟨#[0]⟩ : ByteArray))).bind fun t320 => ((wimplelaw2_folded.f ((a0) % 256)).bind fun t321 => ((wimplelaw2_folded.f ((a1) % 256)).bind fun t322 => (if ((decide (t320 < 0)) == (decide (t321 < t322))) = true then ((rel_Fold.f k (((⟨#[1]⟩ : ByteArray) ++ (strOfNums y309)) ++ (⟨#[0]⟩ : ByteArray))).bind fun t323 => ((wimplelaw2_folded.f ((a0) % 256)).bind fun t324 => ((some (([t324] : List Int) : List Int)).bind fun y325 => (if 1 + (strOfNums y325).size ≤ 9223372036854775807 then (if ((⟨#[1]⟩ : ByteArray) ++ (strOfNums y325)).size + 1 ≤ 9223372036854775807 then (some (t323.toList == (((⟨#[1]⟩ : ByteArray) ++ (strOfNums y325)) ++ (⟨#[0]⟩ : ByteArray)).toList)) else (none)) else (none))))) else (none))))) else (none))) else (none))) else (none))))) else (none)) else (none))) else (none)) else (none))) else (none))
theorem wimplelaw2_RelCases.mono : ∀ a0 a1 k, LeO (wimplelaw2_RelCases.f k a0 a1) (wimplelaw2_RelCases.f (k + 1) a0 a1) := by
  intro a0 a1 k
  unfold wimplelaw2_RelCases.f
  repeat' first
      | (with_reducible exact rel_Above.mono _ _ _)
      | (with_reducible exact rel_Compare.mono _ _ _)
      | (with_reducible exact rel_Fold.mono _ _)
      | (with_reducible exact rel_Same.mono _ _ _)
      | (with_reducible exact wimplelaw2_awake.mono _)
      | (with_reducible exact LeO.refl _)
      | (with_reducible exact LeO.none _)
      | (with_reducible refine LeO.ite ?_ ?_)
      | (with_reducible refine LeO.bind ?_ (fun _ => ?_))
      | exact rel_Above.mono _ _ _
      | exact rel_Compare.mono _ _ _
      | exact rel_Fold.mono _ _
      | exact rel_Same.mono _ _ _
      | exact wimplelaw2_awake.mono _
      | exact LeO.none _
      | refine LeO.ite ?_ ?_
      | refine LeO.bind ?_ (fun _ => ?_)
def wimplelaw2_RelCases.T4 : Bool × List (List Nat × List Nat) := (true, [([], []), ([0], [0]), ([1], [1]), ([2], [2]), ([3], [3]), ([], []), ([5], [5]), ([6], [6]), ([7], [7]), ([8], [8]), ([4, 0, 1, 2, 3, 4], [4]), ([9, 10, 0, 1, 2, 3, 4, 5, 6, 7, 8, 9, 10], [9])])
def wimplelaw2_RelCases.B4 : List Nat := [0, 1, 3, 7, 15, 0, 32, 96, 224, 480, 31, 2047]
theorem wimplelaw2_RelCases.tab4 : rtab .any (opsOf Try.f6 4) = wimplelaw2_RelCases.T4 := by kernel_rfl
theorem wimplelaw2_RelCases.bits4 : waitsOk wimplelaw2_RelCases.T4.2 wimplelaw2_RelCases.B4 = true := by kernel_rfl
set_option maxHeartbeats 8000000 in
set_option maxRecDepth 100000 in
theorem wimplelaw2_RelCases.calls (k : Nat) (a0 : Int) (a1 : Int) (r : Bool) (w : World) (h : wimplelaw2_RelCases.f k a0 a1 = some r) :
    Calls Try.prog 6 #[.int .i64 a0, .int .i64 a1] w fun e w' => e = .returned (.bool r) ∧ Below w.heap.size w w' := by
  have HB := Aside0.mk (Below.refl w.heap.size w)
  have H : ((wimplelaw2_awake.f k).bind fun t308 => (if t308 = true then ((some (([(a0) % 256] : List Int) : List Int)).bind fun y309 => (if 1 + (strOfNums y309).size ≤ 9223372036854775807 then (if ((⟨#[1]⟩ : ByteArray) ++ (strOfNums y309)).size + 1 ≤ 9223372036854775807 then ((some (([(a1) % 256] : List Int) : List Int)).bind fun y312 => (if 1 + (strOfNums y312).size ≤ 9223372036854775807 then (if ((⟨#[1]⟩ : ByteArray) ++ (strOfNums y312)).size + 1 ≤ 9223372036854775807 then ((wimplelaw2_folded.f ((a0) % 256)).bind fun t315 => ((wimplelaw2_folded.f ((a1) % 256)).bind fun t316 => ((rel_Same.f k (((⟨#[1]⟩ : ByteArray) ++ (strOfNums y309)) ++ (⟨#[0]⟩ : ByteArray)) (((⟨#[1]⟩ : ByteArray) ++ (strOfNums y312)) ++ (⟨#[0]⟩ : ByteArray))).bind fun t317 => (if (t317 == (t315 == t316)) = true then ((rel_Above.f k (((⟨#[1]⟩ : ByteArray) ++ (strOfNums y309)) ++ (⟨#[0]⟩ : ByteArray)) (((⟨#[1]⟩ : ByteArray) ++ (strOfNums y312)) ++ (⟨#[0]⟩ : ByteArray))).bind fun t318 => (if (t318 == (t315 == t316)) = true then ((rel_Compare.f k (((⟨#[1]⟩ : ByteArray) ++ (strOfNums y309)) ++ (⟨#[0]⟩ : ByteArray)) (((⟨#[1]⟩ : ByteArray) ++ (strOfNums y312)) ++ (⟨#[0]⟩ : ByteArray))).bind fun t319 => (if ((t319 == 0) == (t315 == t316)) = true then ((rel_Compare.f k (((⟨#[1]⟩ : ByteArray) ++ (strOfNums y309)) ++ (⟨#[0]⟩ : ByteArray)) (((⟨#[1]⟩ : ByteArray) ++ (strOfNums y312)) ++ (⟨#[0]⟩ : ByteArray))).bind fun t320 => ((wimplelaw2_folded.f ((a0) % 256)).bind fun t321 => ((wimplelaw2_folded.f ((a1) % 256)).bind fun t322 => (if ((decide (t320 < 0)) == (decide (t321 < t322))) = true then ((rel_Fold.f k (((⟨#[1]⟩ : ByteArray) ++ (strOfNums y309)) ++ (⟨#[0]⟩ : ByteArray))).bind fun t323 => ((wimplelaw2_folded.f ((a0) % 256)).bind fun t324 => ((some (([t324] : List Int) : List Int)).bind fun y325 => (if 1 + (strOfNums y325).size ≤ 9223372036854775807 then (if ((⟨#[1]⟩ : ByteArray) ++ (strOfNums y325)).size + 1 ≤ 9223372036854775807 then (some (t323.toList == (((⟨#[1]⟩ : ByteArray) ++ (strOfNums y325)) ++ (⟨#[0]⟩ : ByteArray)).toList)) else (none)) else (none))))) else (none))))) else (none))) else (none))) else (none))))) else (none)) else (none))) else (none)) else (none))) else (none))) = some r := h
  clear h
  replace H := Option.bind_eq_some_iff.mp H
  obtain ⟨t308, A30, H⟩ := H
  replace H : (if t308 = true then ((some (([(a0) % 256] : List Int) : List Int)).bind fun y309 => (if 1 + (strOfNums y309).size ≤ 9223372036854775807 then (if ((⟨#[1]⟩ : ByteArray) ++ (strOfNums y309)).size + 1 ≤ 9223372036854775807 then ((some (([(a1) % 256] : List Int) : List Int)).bind fun y312 => (if 1 + (strOfNums y312).size ≤ 9223372036854775807 then (if ((⟨#[1]⟩ : ByteArray) ++ (strOfNums y312)).size + 1 ≤ 9223372036854775807 then ((wimplelaw2_folded.f ((a0) % 256)).bind fun t315 => ((wimplelaw2_folded.f ((a1) % 256)).bind fun t316 => ((rel_Same.f k (((⟨#[1]⟩ : ByteArray) ++ (strOfNums y309)) ++ (⟨#[0]⟩ : ByteArray)) (((⟨#[1]⟩ : ByteArray) ++ (strOfNums y312)) ++ (⟨#[0]⟩ : ByteArray))).bind fun t317 => (if (t317 == (t315 == t316)) = true then ((rel_Above.f k (((⟨#[1]⟩ : ByteArray) ++ (strOfNums y309)) ++ (⟨#[0]⟩ : ByteArray)) (((⟨#[1]⟩ : ByteArray) ++ (strOfNums y312)) ++ (⟨#[0]⟩ : ByteArray))).bind fun t318 => (if (t318 == (t315 == t316)) = true then ((rel_Compare.f k (((⟨#[1]⟩ : ByteArray) ++ (strOfNums y309)) ++ (⟨#[0]⟩ : ByteArray)) (((⟨#[1]⟩ : ByteArray) ++ (strOfNums y312)) ++ (⟨#[0]⟩ : ByteArray))).bind fun t319 => (if ((t319 == 0) == (t315 == t316)) = true then ((rel_Compare.f k (((⟨#[1]⟩ : ByteArray) ++ (strOfNums y309)) ++ (⟨#[0]⟩ : ByteArray)) (((⟨#[1]⟩ : ByteArray) ++ (strOfNums y312)) ++ (⟨#[0]⟩ : ByteArray))).bind fun t320 => ((wimplelaw2_folded.f ((a0) % 256)).bind fun t321 => ((wimplelaw2_folded.f ((a1) % 256)).bind fun t322 => (if ((decide (t320 < 0)) == (decide (t321 < t322))) = true then ((rel_Fold.f k (((⟨#[1]⟩ : ByteArray) ++ (strOfNums y309)) ++ (⟨#[0]⟩ : ByteArray))).bind fun t323 => ((wimplelaw2_folded.f ((a0) % 256)).bind fun t324 => ((some (([t324] : List Int) : List Int)).bind fun y325 => (if 1 + (strOfNums y325).size ≤ 9223372036854775807 then (if ((⟨#[1]⟩ : ByteArray) ++ (strOfNums y325)).size + 1 ≤ 9223372036854775807 then (some (t323.toList == (((⟨#[1]⟩ : ByteArray) ++ (strOfNums y325)) ++ (⟨#[0]⟩ : ByteArray)).toList)) else (none)) else (none))))) else (none))))) else (none))) else (none))) else (none))))) else (none)) else (none))) else (none)) else (none))) else (none)) = some r := H
  have A3 := Aside0.mk A30
  clear A30
  by_cases c4 : t308 = true
  · subst c4
    have H1 : ((some (([(a0) % 256] : List Int) : List Int)).bind fun y309 => (if 1 + (strOfNums y309).size ≤ 9223372036854775807 then (if ((⟨#[1]⟩ : ByteArray) ++ (strOfNums y309)).size + 1 ≤ 9223372036854775807 then ((some (([(a1) % 256] : List Int) : List Int)).bind fun y312 => (if 1 + (strOfNums y312).size ≤ 9223372036854775807 then (if ((⟨#[1]⟩ : ByteArray) ++ (strOfNums y312)).size + 1 ≤ 9223372036854775807 then ((wimplelaw2_folded.f ((a0) % 256)).bind fun t315 => ((wimplelaw2_folded.f ((a1) % 256)).bind fun t316 => ((rel_Same.f k (((⟨#[1]⟩ : ByteArray) ++ (strOfNums y309)) ++ (⟨#[0]⟩ : ByteArray)) (((⟨#[1]⟩ : ByteArray) ++ (strOfNums y312)) ++ (⟨#[0]⟩ : ByteArray))).bind fun t317 => (if (t317 == (t315 == t316)) = true then ((rel_Above.f k (((⟨#[1]⟩ : ByteArray) ++ (strOfNums y309)) ++ (⟨#[0]⟩ : ByteArray)) (((⟨#[1]⟩ : ByteArray) ++ (strOfNums y312)) ++ (⟨#[0]⟩ : ByteArray))).bind fun t318 => (if (t318 == (t315 == t316)) = true then ((rel_Compare.f k (((⟨#[1]⟩ : ByteArray) ++ (strOfNums y309)) ++ (⟨#[0]⟩ : ByteArray)) (((⟨#[1]⟩ : ByteArray) ++ (strOfNums y312)) ++ (⟨#[0]⟩ : ByteArray))).bind fun t319 => (if ((t319 == 0) == (t315 == t316)) = true then ((rel_Compare.f k (((⟨#[1]⟩ : ByteArray) ++ (strOfNums y309)) ++ (⟨#[0]⟩ : ByteArray)) (((⟨#[1]⟩ : ByteArray) ++ (strOfNums y312)) ++ (⟨#[0]⟩ : ByteArray))).bind fun t320 => ((wimplelaw2_folded.f ((a0) % 256)).bind fun t321 => ((wimplelaw2_folded.f ((a1) % 256)).bind fun t322 => (if ((decide (t320 < 0)) == (decide (t321 < t322))) = true then ((rel_Fold.f k (((⟨#[1]⟩ : ByteArray) ++ (strOfNums y309)) ++ (⟨#[0]⟩ : ByteArray))).bind fun t323 => ((wimplelaw2_folded.f ((a0) % 256)).bind fun t324 => ((some (([t324] : List Int) : List Int)).bind fun y325 => (if 1 + (strOfNums y325).size ≤ 9223372036854775807 then (if ((⟨#[1]⟩ : ByteArray) ++ (strOfNums y325)).size + 1 ≤ 9223372036854775807 then (some (t323.toList == (((⟨#[1]⟩ : ByteArray) ++ (strOfNums y325)) ++ (⟨#[0]⟩ : ByteArray)).toList)) else (none)) else (none))))) else (none))))) else (none))) else (none))) else (none))))) else (none)) else (none))) else (none)) else (none))) = some r := by rw [if_pos rfl] at H; exact H
    clear H
    have H := H1
    clear H1
    obtain ⟨y309, hy309⟩ : ∃ y_ : List Int, y_ = (([(a0) % 256] : List Int)) := ⟨_, rfl⟩
    replace H : (if 1 + (strOfNums y309).size ≤ 9223372036854775807 then (if ((⟨#[1]⟩ : ByteArray) ++ (strOfNums y309)).size + 1 ≤ 9223372036854775807 then ((some (([(a1) % 256] : List Int) : List Int)).bind fun y312 => (if 1 + (strOfNums y312).size ≤ 9223372036854775807 then (if ((⟨#[1]⟩ : ByteArray) ++ (strOfNums y312)).size + 1 ≤ 9223372036854775807 then ((wimplelaw2_folded.f ((a0) % 256)).bind fun t315 => ((wimplelaw2_folded.f ((a1) % 256)).bind fun t316 => ((rel_Same.f k (((⟨#[1]⟩ : ByteArray) ++ (strOfNums y309)) ++ (⟨#[0]⟩ : ByteArray)) (((⟨#[1]⟩ : ByteArray) ++ (strOfNums y312)) ++ (⟨#[0]⟩ : ByteArray))).bind fun t317 => (if (t317 == (t315 == t316)) = true then ((rel_Above.f k (((⟨#[1]⟩ : ByteArray) ++ (strOfNums y309)) ++ (⟨#[0]⟩ : ByteArray)) (((⟨#[1]⟩ : ByteArray) ++ (strOfNums y312)) ++ (⟨#[0]⟩ : ByteArray))).bind fun t318 => (if (t318 == (t315 == t316)) = true then ((rel_Compare.f k (((⟨#[1]⟩ : ByteArray) ++ (strOfNums y309)) ++ (⟨#[0]⟩ : ByteArray)) (((⟨#[1]⟩ : ByteArray) ++ (strOfNums y312)) ++ (⟨#[0]⟩ : ByteArray))).bind fun t319 => (if ((t319 == 0) == (t315 == t316)) = true then ((rel_Compare.f k (((⟨#[1]⟩ : ByteArray) ++ (strOfNums y309)) ++ (⟨#[0]⟩ : ByteArray)) (((⟨#[1]⟩ : ByteArray) ++ (strOfNums y312)) ++ (⟨#[0]⟩ : ByteArray))).bind fun t320 => ((wimplelaw2_folded.f ((a0) % 256)).bind fun t321 => ((wimplelaw2_folded.f ((a1) % 256)).bind fun t322 => (if ((decide (t320 < 0)) == (decide (t321 < t322))) = true then ((rel_Fold.f k (((⟨#[1]⟩ : ByteArray) ++ (strOfNums y309)) ++ (⟨#[0]⟩ : ByteArray))).bind fun t323 => ((wimplelaw2_folded.f ((a0) % 256)).bind fun t324 => ((some (([t324] : List Int) : List Int)).bind fun y325 => (if 1 + (strOfNums y325).size ≤ 9223372036854775807 then (if ((⟨#[1]⟩ : ByteArray) ++ (strOfNums y325)).size + 1 ≤ 9223372036854775807 then (some (t323.toList == (((⟨#[1]⟩ : ByteArray) ++ (strOfNums y325)) ++ (⟨#[0]⟩ : ByteArray)).toList)) else (none)) else (none))))) else (none))))) else (none))) else (none))) else (none))))) else (none)) else (none))) else (none)) else (none)) = some r := by first | (rw [hy309]; with_reducible exact H) | (have H2_ := (Option.bind_some _ _).symm.trans H; rw [hy309]; with_reducible exact H2_) | (have H2_ := (Option.bind_some _ _).symm.trans H; with_reducible exact H2_) | with_reducible exact H | (rw [hy309]; exact H) | exact H
    have Ny309 := Aside0.mk hy309
    clear hy309
    by_cases c5 : 1 + (strOfNums y309).size ≤ 9223372036854775807
    · rw [if_pos c5] at H
      have c5b0 := eq_true c5
      have c5b1 : decide (1 + (strOfNums y309).size ≤ 9223372036854775807) = true := decide_eq_true c5
      try have c5b2 : (9223372036854775807 < 1 + (strOfNums y309).size) = False := eq_false (Nat.not_lt.2 c5)
      by_cases c6 : ((⟨#[1]⟩ : ByteArray) ++ (strOfNums y309)).size + 1 ≤ 9223372036854775807
      · rw [if_pos c6] at H
        have c6b0 := eq_true c6
        have c6b1 : decide (((⟨#[1]⟩ : ByteArray) ++ (strOfNums y309)).size + 1 ≤ 9223372036854775807) = true := decide_eq_true c6
        try have c6b2 : (9223372036854775807 < ((⟨#[1]⟩ : ByteArray) ++ (strOfNums y309)).size + 1) = False := eq_false (Nat.not_lt.2 c6)
        try (have c6q := c6; simp only [ByteArray.size_append] at c6q; have c6q2 := eq_false (Nat.not_lt.2 c6q); clear c6q)
        try have c6b3 : (9223372036854775807 < 1 + (strOfNums y309).size + 1) = False := eq_false (by have h_ := c6; simp only [ByteArray.size_append] at h_; exact Nat.not_lt.2 h_)
        obtain ⟨y312, hy312⟩ : ∃ y_ : List Int, y_ = (([(a1) % 256] : List Int)) := ⟨_, rfl⟩
        replace H : (if 1 + (strOfNums y312).size ≤ 9223372036854775807 then (if ((⟨#[1]⟩ : ByteArray) ++ (strOfNums y312)).size + 1 ≤ 9223372036854775807 then ((wimplelaw2_folded.f ((a0) % 256)).bind fun t315 => ((wimplelaw2_folded.f ((a1) % 256)).bind fun t316 => ((rel_Same.f k (((⟨#[1]⟩ : ByteArray) ++ (strOfNums y309)) ++ (⟨#[0]⟩ : ByteArray)) (((⟨#[1]⟩ : ByteArray) ++ (strOfNums y312)) ++ (⟨#[0]⟩ : ByteArray))).bind fun t317 => (if (t317 == (t315 == t316)) = true then ((rel_Above.f k (((⟨#[1]⟩ : ByteArray) ++ (strOfNums y309)) ++ (⟨#[0]⟩ : ByteArray)) (((⟨#[1]⟩ : ByteArray) ++ (strOfNums y312)) ++ (⟨#[0]⟩ : ByteArray))).bind fun t318 => (if (t318 == (t315 == t316)) = true then ((rel_Compare.f k (((⟨#[1]⟩ : ByteArray) ++ (strOfNums y309)) ++ (⟨#[0]⟩ : ByteArray)) (((⟨#[1]⟩ : ByteArray) ++ (strOfNums y312)) ++ (⟨#[0]⟩ : ByteArray))).bind fun t319 => (if ((t319 == 0) == (t315 == t316)) = true then ((rel_Compare.f k (((⟨#[1]⟩ : ByteArray) ++ (strOfNums y309)) ++ (⟨#[0]⟩ : ByteArray)) (((⟨#[1]⟩ : ByteArray) ++ (strOfNums y312)) ++ (⟨#[0]⟩ : ByteArray))).bind fun t320 => ((wimplelaw2_folded.f ((a0) % 256)).bind fun t321 => ((wimplelaw2_folded.f ((a1) % 256)).bind fun t322 => (if ((decide (t320 < 0)) == (decide (t321 < t322))) = true then ((rel_Fold.f k (((⟨#[1]⟩ : ByteArray) ++ (strOfNums y309)) ++ (⟨#[0]⟩ : ByteArray))).bind fun t323 => ((wimplelaw2_folded.f ((a0) % 256)).bind fun t324 => ((some (([t324] : List Int) : List Int)).bind fun y325 => (if 1 + (strOfNums y325).size ≤ 9223372036854775807 then (if ((⟨#[1]⟩ : ByteArray) ++ (strOfNums y325)).size + 1 ≤ 9223372036854775807 then (some (t323.toList == (((⟨#[1]⟩ : ByteArray) ++ (strOfNums y325)) ++ (⟨#[0]⟩ : ByteArray)).toList)) else (none)) else (none))))) else (none))))) else (none))) else (none))) else (none))))) else (none)) else (none)) = some r := by first | (rw [hy312]; with_reducible exact H) | (have H2_ := (Option.bind_some _ _).symm.trans H; rw [hy312]; with_reducible exact H2_) | (have H2_ := (Option.bind_some _ _).symm.trans H; with_reducible exact H2_) | with_reducible exact H | (rw [hy312]; exact H) | exact H
        have Ny312 := Aside0.mk hy312
        clear hy312
        by_cases c7 : 1 + (strOfNums y312).size ≤ 9223372036854775807
        · rw [if_pos c7] at H
          have c7b0 := eq_true c7
          have c7b1 : decide (1 + (strOfNums y312).size ≤ 9223372036854775807) = true := decide_eq_true c7
          try have c7b2 : (9223372036854775807 < 1 + (strOfNums y312).size) = False := eq_false (Nat.not_lt.2 c7)
          by_cases c8 : ((⟨#[1]⟩ : ByteArray) ++ (strOfNums y312)).size + 1 ≤ 9223372036854775807
          · rw [if_pos c8] at H
            have c8b0 := eq_true c8
            have c8b1 : decide (((⟨#[1]⟩ : ByteArray) ++ (strOfNums y312)).size + 1 ≤ 9223372036854775807) = true := decide_eq_true c8
            try have c8b2 : (9223372036854775807 < ((⟨#[1]⟩ : ByteArray) ++ (strOfNums y312)).size + 1) = False := eq_false (Nat.not_lt.2 c8)
            try (have c8q := c8; simp only [ByteArray.size_append] at c8q; have c8q2 := eq_false (Nat.not_lt.2 c8q); clear c8q)
            try have c8b3 : (9223372036854775807 < 1 + (strOfNums y312).size + 1) = False := eq_false (by have h_ := c8; simp only [ByteArray.size_append] at h_; exact Nat.not_lt.2 h_)
            replace H := Option.bind_eq_some_iff.mp H
            obtain ⟨t315, A90, H⟩ := H
            replace H : ((wimplelaw2_folded.f ((a1) % 256)).bind fun t316 => ((rel_Same.f k (((⟨#[1]⟩ : ByteArray) ++ (strOfNums y309)) ++ (⟨#[0]⟩ : ByteArray)) (((⟨#[1]⟩ : ByteArray) ++ (strOfNums y312)) ++ (⟨#[0]⟩ : ByteArray))).bind fun t317 => (if (t317 == (t315 == t316)) = true then ((rel_Above.f k (((⟨#[1]⟩ : ByteArray) ++ (strOfNums y309)) ++ (⟨#[0]⟩ : ByteArray)) (((⟨#[1]⟩ : ByteArray) ++ (strOfNums y312)) ++ (⟨#[0]⟩ : ByteArray))).bind fun t318 => (if (t318 == (t315 == t316)) = true then ((rel_Compare.f k (((⟨#[1]⟩ : ByteArray) ++ (strOfNums y309)) ++ (⟨#[0]⟩ : ByteArray)) (((⟨#[1]⟩ : ByteArray) ++ (strOfNums y312)) ++ (⟨#[0]⟩ : ByteArray))).bind fun t319 => (if ((t319 == 0) == (t315 == t316)) = true then ((rel_Compare.f k (((⟨#[1]⟩ : ByteArray) ++ (strOfNums y309)) ++ (⟨#[0]⟩ : ByteArray)) (((⟨#[1]⟩ : ByteArray) ++ (strOfNums y312)) ++ (⟨#[0]⟩ : ByteArray))).bind fun t320 => ((wimplelaw2_folded.f ((a0) % 256)).bind fun t321 => ((wimplelaw2_folded.f ((a1) % 256)).bind fun t322 => (if ((decide (t320 < 0)) == (decide (t321 < t322))) = true then ((rel_Fold.f k (((⟨#[1]⟩ : ByteArray) ++ (strOfNums y309)) ++ (⟨#[0]⟩ : ByteArray))).bind fun t323 => ((wimplelaw2_folded.f ((a0) % 256)).bind fun t324 => ((some (([t324] : List Int) : List Int)).bind fun y325 => (if 1 + (strOfNums y325).size ≤ 9223372036854775807 then (if ((⟨#[1]⟩ : ByteArray) ++ (strOfNums y325)).size + 1 ≤ 9223372036854775807 then (some (t323.toList == (((⟨#[1]⟩ : ByteArray) ++ (strOfNums y325)) ++ (⟨#[0]⟩ : ByteArray)).toList)) else (none)) else (none))))) else (none))))) else (none))) else (none))) else (none)))) = some r := H
            have A9 := Aside0.mk A90
            clear A90
            replace H := Option.bind_eq_some_iff.mp H
            obtain ⟨t316, A100, H⟩ := H
            replace H : ((rel_Same.f k (((⟨#[1]⟩ : ByteArray) ++ (strOfNums y309)) ++ (⟨#[0]⟩ : ByteArray)) (((⟨#[1]⟩ : ByteArray) ++ (strOfNums y312)) ++ (⟨#[0]⟩ : ByteArray))).bind fun t317 => (if (t317 == (t315 == t316)) = true then ((rel_Above.f k (((⟨#[1]⟩ : ByteArray) ++ (strOfNums y309)) ++ (⟨#[0]⟩ : ByteArray)) (((⟨#[1]⟩ : ByteArray) ++ (strOfNums y312)) ++ (⟨#[0]⟩ : ByteArray))).bind fun t318 => (if (t318 == (t315 == t316)) = true then ((rel_Compare.f k (((⟨#[1]⟩ : ByteArray) ++ (strOfNums y309)) ++ (⟨#[0]⟩ : ByteArray)) (((⟨#[1]⟩ : ByteArray) ++ (strOfNums y312)) ++ (⟨#[0]⟩ : ByteArray))).bind fun t319 => (if ((t319 == 0) == (t315 == t316)) = true then ((rel_Compare.f k (((⟨#[1]⟩ : ByteArray) ++ (strOfNums y309)) ++ (⟨#[0]⟩ : ByteArray)) (((⟨#[1]⟩ : ByteArray) ++ (strOfNums y312)) ++ (⟨#[0]⟩ : ByteArray))).bind fun t320 => ((wimplelaw2_folded.f ((a0) % 256)).bind fun t321 => ((wimplelaw2_folded.f ((a1) % 256)).bind fun t322 => (if ((decide (t320 < 0)) == (decide (t321 < t322))) = true then ((rel_Fold.f k (((⟨#[1]⟩ : ByteArray) ++ (strOfNums y309)) ++ (⟨#[0]⟩ : ByteArray))).bind fun t323 => ((wimplelaw2_folded.f ((a0) % 256)).bind fun t324 => ((some (([t324] : List Int) : List Int)).bind fun y325 => (if 1 + (strOfNums y325).size ≤ 9223372036854775807 then (if ((⟨#[1]⟩ : ByteArray) ++ (strOfNums y325)).size + 1 ≤ 9223372036854775807 then (some (t323.toList == (((⟨#[1]⟩ : ByteArray) ++ (strOfNums y325)) ++ (⟨#[0]⟩ : ByteArray)).toList)) else (none)) else (none))))) else (none))))) else (none))) else (none))) else (none))) = some r := H
            have A10 := Aside0.mk A100
            clear A100
            replace H := Option.bind_eq_some_iff.mp H
            obtain ⟨t317, A110, H⟩ := H
            replace H : (if (t317 == (t315 == t316)) = true then ((rel_Above.f k (((⟨#[1]⟩ : ByteArray) ++ (strOfNums y309)) ++ (⟨#[0]⟩ : ByteArray)) (((⟨#[1]⟩ : ByteArray) ++ (strOfNums y312)) ++ (⟨#[0]⟩ : ByteArray))).bind fun t318 => (if (t318 == (t315 == t316)) = true then ((rel_Compare.f k (((⟨#[1]⟩ : ByteArray) ++ (strOfNums y309)) ++ (⟨#[0]⟩ : ByteArray)) (((⟨#[1]⟩ : ByteArray) ++ (strOfNums y312)) ++ (⟨#[0]⟩ : ByteArray))).bind fun t319 => (if ((t319 == 0) == (t315 == t316)) = true then ((rel_Compare.f k (((⟨#[1]⟩ : ByteArray) ++ (strOfNums y309)) ++ (⟨#[0]⟩ : ByteArray)) (((⟨#[1]⟩ : ByteArray) ++ (strOfNums y312)) ++ (⟨#[0]⟩ : ByteArray))).bind fun t320 => ((wimplelaw2_folded.f ((a0) % 256)).bind fun t321 => ((wimplelaw2_folded.f ((a1) % 256)).bind fun t322 => (if ((decide (t320 < 0)) == (decide (t321 < t322))) = true then ((rel_Fold.f k (((⟨#[1]⟩ : ByteArray) ++ (strOfNums y309)) ++ (⟨#[0]⟩ : ByteArray))).bind fun t323 => ((wimplelaw2_folded.f ((a0) % 256)).bind fun t324 => ((some (([t324] : List Int) : List Int)).bind fun y325 => (if 1 + (strOfNums y325).size ≤ 9223372036854775807 then (if ((⟨#[1]⟩ : ByteArray) ++ (strOfNums y325)).size + 1 ≤ 9223372036854775807 then (some (t323.toList == (((⟨#[1]⟩ : ByteArray) ++ (strOfNums y325)) ++ (⟨#[0]⟩ : ByteArray)).toList)) else (none)) else (none))))) else (none))))) else (none))) else (none))) else (none)) = some r := H
            have A11 := Aside0.mk A110
            clear A110
            by_cases c12 : (t317 == (t315 == t316)) = true
            · rw [if_pos c12] at H
              have c12b0 : (t317 == (t315 == t316)) = true := c12
              (try (have c12b1 : decide (t317 = (t315 == t316)) = true := by simpa using c12))
              (try (have c12b2 : (t317 == (t315 == t316)) = true := by simpa using c12))
              clear c12
              replace H := Option.bind_eq_some_iff.mp H
              obtain ⟨t318, A130, H⟩ := H
              replace H : (if (t318 == (t315 == t316)) = true then ((rel_Compare.f k (((⟨#[1]⟩ : ByteArray) ++ (strOfNums y309)) ++ (⟨#[0]⟩ : ByteArray)) (((⟨#[1]⟩ : ByteArray) ++ (strOfNums y312)) ++ (⟨#[0]⟩ : ByteArray))).bind fun t319 => (if ((t319 == 0) == (t315 == t316)) = true then ((rel_Compare.f k (((⟨#[1]⟩ : ByteArray) ++ (strOfNums y309)) ++ (⟨#[0]⟩ : ByteArray)) (((⟨#[1]⟩ : ByteArray) ++ (strOfNums y312)) ++ (⟨#[0]⟩ : ByteArray))).bind fun t320 => ((wimplelaw2_folded.f ((a0) % 256)).bind fun t321 => ((wimplelaw2_folded.f ((a1) % 256)).bind fun t322 => (if ((decide (t320 < 0)) == (decide (t321 < t322))) = true then ((rel_Fold.f k (((⟨#[1]⟩ : ByteArray) ++ (strOfNums y309)) ++ (⟨#[0]⟩ : ByteArray))).bind fun t323 => ((wimplelaw2_folded.f ((a0) % 256)).bind fun t324 => ((some (([t324] : List Int) : List Int)).bind fun y325 => (if 1 + (strOfNums y325).size ≤ 9223372036854775807 then (if ((⟨#[1]⟩ : ByteArray) ++ (strOfNums y325)).size + 1 ≤ 9223372036854775807 then (some (t323.toList == (((⟨#[1]⟩ : ByteArray) ++ (strOfNums y325)) ++ (⟨#[0]⟩ : ByteArray)).toList)) else (none)) else (none))))) else (none))))) else (none))) else (none)) = some r := H
              have A13 := Aside0.mk A130
              clear A130
              by_cases c14 : (t318 == (t315 == t316)) = true
              · rw [if_pos c14] at H
                have c14b0 : (t318 == (t315 == t316)) = true := c14
                (try (have c14b1 : decide (t318 = (t315 == t316)) = true := by simpa using c14))
                (try (have c14b2 : (t318 == (t315 == t316)) = true := by simpa using c14))
                clear c14
                replace H := Option.bind_eq_some_iff.mp H
                obtain ⟨t319, A150, H⟩ := H
                replace H : (if ((t319 == 0) == (t315 == t316)) = true then ((rel_Compare.f k (((⟨#[1]⟩ : ByteArray) ++ (strOfNums y309)) ++ (⟨#[0]⟩ : ByteArray)) (((⟨#[1]⟩ : ByteArray) ++ (strOfNums y312)) ++ (⟨#[0]⟩ : ByteArray))).bind fun t320 => ((wimplelaw2_folded.f ((a0) % 256)).bind fun t321 => ((wimplelaw2_folded.f ((a1) % 256)).bind fun t322 => (if ((decide (t320 < 0)) == (decide (t321 < t322))) = true then ((rel_Fold.f k (((⟨#[1]⟩ : ByteArray) ++ (strOfNums y309)) ++ (⟨#[0]⟩ : ByteArray))).bind fun t323 => ((wimplelaw2_folded.f ((a0) % 256)).bind fun t324 => ((some (([t324] : List Int) : List Int)).bind fun y325 => (if 1 + (strOfNums y325).size ≤ 9223372036854775807 then (if ((⟨#[1]⟩ : ByteArray) ++ (strOfNums y325)).size + 1 ≤ 9223372036854775807 then (some (t323.toList == (((⟨#[1]⟩ : ByteArray) ++ (strOfNums y325)) ++ (⟨#[0]⟩ : ByteArray)).toList)) else (none)) else (none))))) else (none))))) else (none)) = some r := H
                have A15 := Aside0.mk A150
                clear A150
                by_cases c16 : ((t319 == 0) == (t315 == t316)) = true
                · rw [if_pos c16] at H
                  have c16b0 : ((t319 == 0) == (t315 == t316)) = true := c16
                  try have c16e : (t319 == 0) = (t315 == t316) := eq_of_beq c16b0
                  (try (have c16b1 : decide ((t319 == 0) = (t315 == t316)) = true := by simpa using c16))
                  (try (have c16b2 : ((t319 == 0) == (t315 == t316)) = true := by simpa using c16))
                  clear c16
                  replace H := Option.bind_eq_some_iff.mp H
                  obtain ⟨t320, A170, H⟩ := H
                  replace H : ((wimplelaw2_folded.f ((a0) % 256)).bind fun t321 => ((wimplelaw2_folded.f ((a1) % 256)).bind fun t322 => (if ((decide (t320 < 0)) == (decide (t321 < t322))) = true then ((rel_Fold.f k (((⟨#[1]⟩ : ByteArray) ++ (strOfNums y309)) ++ (⟨#[0]⟩ : ByteArray))).bind fun t323 => ((wimplelaw2_folded.f ((a0) % 256)).bind fun t324 => ((some (([t324] : List Int) : List Int)).bind fun y325 => (if 1 + (strOfNums y325).size ≤ 9223372036854775807 then (if ((⟨#[1]⟩ : ByteArray) ++ (strOfNums y325)).size + 1 ≤ 9223372036854775807 then (some (t323.toList == (((⟨#[1]⟩ : ByteArray) ++ (strOfNums y325)) ++ (⟨#[0]⟩ : ByteArray)).toList)) else (none)) else (none))))) else (none)))) = some r := H
                  have A17 := Aside0.mk A170
                  clear A170
                  obtain rfl : t319 = t320 := Option.some.inj (A15.out.symm.trans A17.out)
                  replace H := Option.bind_eq_some_iff.mp H
                  obtain ⟨t321, A180, H⟩ := H
                  replace H : ((wimplelaw2_folded.f ((a1) % 256)).bind fun t322 => (if ((decide (t319 < 0)) == (decide (t321 < t322))) = true then ((rel_Fold.f k (((⟨#[1]⟩ : ByteArray) ++ (strOfNums y309)) ++ (⟨#[0]⟩ : ByteArray))).bind fun t323 => ((wimplelaw2_folded.f ((a0) % 256)).bind fun t324 => ((some (([t324] : List Int) : List Int)).bind fun y325 => (if 1 + (strOfNums y325).size ≤ 9223372036854775807 then (if ((⟨#[1]⟩ : ByteArray) ++ (strOfNums y325)).size + 1 ≤ 9223372036854775807 then (some (t323.toList == (((⟨#[1]⟩ : ByteArray) ++ (strOfNums y325)) ++ (⟨#[0]⟩ : ByteArray)).toList)) else (none)) else (none))))) else (none))) = some r := H
                  have A18 := Aside0.mk A180
                  clear A180
                  obtain rfl : t315 = t321 := Option.some.inj (A9.out.symm.trans A18.out)
                  replace H := Option.bind_eq_some_iff.mp H
                  obtain ⟨t322, A190, H⟩ := H
                  replace H : (if ((decide (t319 < 0)) == (decide (t315 < t322))) = true then ((rel_Fold.f k (((⟨#[1]⟩ : ByteArray) ++ (strOfNums y309)) ++ (⟨#[0]⟩ : ByteArray))).bind fun t323 => ((wimplelaw2_folded.f ((a0) % 256)).bind fun t324 => ((some (([t324] : List Int) : List Int)).bind fun y325 => (if 1 + (strOfNums y325).size ≤ 9223372036854775807 then (if ((⟨#[1]⟩ : ByteArray) ++ (strOfNums y325)).size + 1 ≤ 9223372036854775807 then (some (t323.toList == (((⟨#[1]⟩ : ByteArray) ++ (strOfNums y325)) ++ (⟨#[0]⟩ : ByteArray)).toList)) else (none)) else (none))))) else (none)) = some r := H
                  have A19 := Aside0.mk A190
                  clear A190
                  obtain rfl : t316 = t322 := Option.some.inj (A10.out.symm.trans A19.out)
                  by_cases c20 : ((decide (t319 < 0)) == (decide (t315 < t316))) = true
                  · rw [if_pos c20] at H
                    have c20b0 : ((decide (t319 < 0)) == (decide (t315 < t316))) = true := c20
                    try have c20i : (t319 < 0) ↔ (t315 < t316) := by simpa using c20b0
                    (try (have c20b1 : decide ((decide (t319 < 0)) = (decide (t315 < t316))) = true := by simpa using c20))
                    (try (have c20b2 : ((decide (t319 < 0)) == (decide (t315 < t316))) = true := by simpa using c20))
                    clear c20
                    replace H := Option.bind_eq_some_iff.mp H
                    obtain ⟨t323, A210, H⟩ := H
                    replace H : ((wimplelaw2_folded.f ((a0) % 256)).bind fun t324 => ((some (([t324] : List Int) : List Int)).bind fun y325 => (if 1 + (strOfNums y325).size ≤ 9223372036854775807 then (if ((⟨#[1]⟩ : ByteArray) ++ (strOfNums y325)).size + 1 ≤ 9223372036854775807 then (some (t323.toList == (((⟨#[1]⟩ : ByteArray) ++ (strOfNums y325)) ++ (⟨#[0]⟩ : ByteArray)).toList)) else (none)) else (none)))) = some r := H
                    have A21 := Aside0.mk A210
                    clear A210
                    replace H := Option.bind_eq_some_iff.mp H
                    obtain ⟨t324, A220, H⟩ := H
                    replace H : ((some (([t324] : List Int) : List Int)).bind fun y325 => (if 1 + (strOfNums y325).size ≤ 9223372036854775807 then (if ((⟨#[1]⟩ : ByteArray) ++ (strOfNums y325)).size + 1 ≤ 9223372036854775807 then (some (t323.toList == (((⟨#[1]⟩ : ByteArray) ++ (strOfNums y325)) ++ (⟨#[0]⟩ : ByteArray)).toList)) else (none)) else (none))) = some r := H
                    have A22 := Aside0.mk A220
                    clear A220
                    obtain rfl : t315 = t324 := Option.some.inj (A9.out.symm.trans A22.out)
                    obtain ⟨y325, hy325⟩ : ∃ y_ : List Int, y_ = (([t315] : List Int)) := ⟨_, rfl⟩
                    replace H : (if 1 + (strOfNums y325).size ≤ 9223372036854775807 then (if ((⟨#[1]⟩ : ByteArray) ++ (strOfNums y325)).size + 1 ≤ 9223372036854775807 then (some (t323.toList == (((⟨#[1]⟩ : ByteArray) ++ (strOfNums y325)) ++ (⟨#[0]⟩ : ByteArray)).toList)) else (none)) else (none)) = some r := by first | (rw [hy325]; with_reducible exact H) | (have H2_ := (Option.bind_some _ _).symm.trans H; rw [hy325]; with_reducible exact H2_) | (have H2_ := (Option.bind_some _ _).symm.trans H; with_reducible exact H2_) | with_reducible exact H | (rw [hy325]; exact H) | exact H
                    have Ny325 := Aside0.mk hy325
                    clear hy325
                    by_cases c23 : 1 + (strOfNums y325).size ≤ 9223372036854775807
                    · rw [if_pos c23] at H
                      have c23b0 := eq_true c23
                      have c23b1 : decide (1 + (strOfNums y325).size ≤ 9223372036854775807) = true := decide_eq_true c23
                      try have c23b2 : (9223372036854775807 < 1 + (strOfNums y325).size) = False := eq_false (Nat.not_lt.2 c23)
                      by_cases c24 : ((⟨#[1]⟩ : ByteArray) ++ (strOfNums y325)).size + 1 ≤ 9223372036854775807
                      · rw [if_pos c24] at H
                        have c24b0 := eq_true c24
                        have c24b1 : decide (((⟨#[1]⟩ : ByteArray) ++ (strOfNums y325)).size + 1 ≤ 9223372036854775807) = true := decide_eq_true c24
                        try have c24b2 : (9223372036854775807 < ((⟨#[1]⟩ : ByteArray) ++ (strOfNums y325)).size + 1) = False := eq_false (Nat.not_lt.2 c24)
                        try (have c24q := c24; simp only [ByteArray.size_append] at c24q; have c24q2 := eq_false (Nat.not_lt.2 c24q); clear c24q)
                        try have c24b3 : (9223372036854775807 < 1 + (strOfNums y325).size + 1) = False := eq_false (by have h_ := c24; simp only [ByteArray.size_append] at h_; exact Nat.not_lt.2 h_)
                        obtain rfl := Option.some.inj H
                        go_enter Try.func6, Try.ntmps6
                        try simp only [List.append_eq, List.cons_append, List.nil_append]
                        try go_wp2_with (first | ((with_reducible refine gate_callee (f := 26) rfl ?_); refine goesL_ (some 10) rfl rfl Try.func26 (by kernel_rfl) rfl #[] rfl (by (try simp only [List.map_toArray, List.map_cons, List.map_nil]); first | done | rfl | (simp only [List.length_drop, List.length_take]; rfl)) ?_; (with_reducible refine (wimplelaw2_awake.calls k  true _ A3.out).mono ?_); rintro e w25 ⟨rfl, hb⟩; refine ⟨_, rfl, ?_⟩; have n0_ := Aside0.mk (below_step (by repeat (first | (with_reducible first | exact HB.out | apply below_alloc | apply pw_below_drewN | apply below_drew1) | exact HB.out)) hb); clear HB; have HB := n0_; clear n0_; (try clear hb); (try clear hb2); (try clear hk); (try clear hi)))
                        have n0_ := Aside0.mk (below_drew1 HB.out)
                        clear HB
                        have HB := n0_
                        clear n0_
                        refine start_ (n := 12) (S := fun w' => True) (ds := []) #[false, false, false, false, false, false, false, false, false, false, false, false] (by kernel_rfl) rfl rfl trivial (fun hHeld => ?_); refine with_tabW wimplelaw2_RelCases.tab4 wimplelaw2_RelCases.bits4 (fun HT_ HW_ => ?_)
                        generalize w25.drew = w26 at HB hHeld ⊢
                        refine pure_ (i := 0) (N := some 16) (v := ?_) (a' := ?_) #[true, false, false, false, false, false, false, false, false, false, false, false] rfl rfl (any_of HT_.out (by kernel_rfl)) (fun _ _ _ h => h) (Or.inl ⟨by rfl, ?_⟩) ?_ ?_
                        rotate_left
                        · intro w'
                          go_simp
                          with_reducible rfl
                        rotate_left
                        · simp only [Act.put, List.setIfInBounds_toArray, List.set_cons_zero, List.set_cons_succ, i64_w, i32_w]
                          rfl
                        refine pure_ (i := 5) (N := some 21) (v := ?_) (a' := ?_) #[true, false, false, false, false, true, false, false, false, false, false, false] rfl rfl (any_of HT_.out (by kernel_rfl)) (fun _ _ _ h => h) (Or.inl ⟨by rfl, ?_⟩) ?_ ?_
                        rotate_left
                        · intro w'
                          go_simp
                          with_reducible rfl
                        rotate_left
                        · simp only [Act.put, List.setIfInBounds_toArray, List.set_cons_zero, List.set_cons_succ, i64_w, i32_w]
                          rfl
                        refine join_ (σ := Value × Value) 1 #[true, true, true, true, true, true, true, true, true, true, true, false] (fun s_ => [(17, s_.1), (18, .string (strOfNums y309)), (22, s_.2), (23, .string (strOfNums y312)), (19, .string ((⟨#[1]⟩ : ByteArray) ++ (strOfNums y309))), (20, .string (((⟨#[1]⟩ : ByteArray) ++ (strOfNums y309)) ++ (⟨#[0]⟩ : ByteArray))), (24, .string ((⟨#[1]⟩ : ByteArray) ++ (strOfNums y312))), (25, .string (((⟨#[1]⟩ : ByteArray) ++ (strOfNums y312)) ++ (⟨#[0]⟩ : ByteArray))), (7, .string (((⟨#[1]⟩ : ByteArray) ++ (strOfNums y309)) ++ (⟨#[0]⟩ : ByteArray)))]) (fun s_ w' => (Kd.R (Kd.int .u8) 5 w' w.heap.size (fun k_ => some k_ ≠ (s_.2 : Value).ownBlock) s_.1 y309) ∧ (Kd.R (Kd.int .u8) 5 w' w.heap.size (fun k_ => some k_ ≠ (s_.1 : Value).ownBlock) s_.2 y312) ∧ (Below w.heap.size w w')) ?_ ?_
                        rotate_left
                        · intro hJ1_2_6_7
                          refine join_ (σ := Value × Value) 4 #[true, true, true, true, true, true, true, false, false, false, true, false] (fun s_ => [(17, s_.1), (18, .string (strOfNums y309)), (22, s_.2), (19, .string ((⟨#[1]⟩ : ByteArray) ++ (strOfNums y309))), (20, .string (((⟨#[1]⟩ : ByteArray) ++ (strOfNums y309)) ++ (⟨#[0]⟩ : ByteArray))), (7, .string (((⟨#[1]⟩ : ByteArray) ++ (strOfNums y309)) ++ (⟨#[0]⟩ : ByteArray)))]) (fun s_ w' => (Kd.R (Kd.int .u8) 5 w' w.heap.size (fun k_ => some k_ ≠ (s_.2 : Value).ownBlock) s_.1 y309) ∧ (Kd.R (Kd.int .u8) 5 w' w.heap.size (fun k_ => some k_ ≠ (s_.1 : Value).ownBlock) s_.2 y312) ∧ (Below w.heap.size w w')) ?_ ?_
                          rotate_left
                          · intro hJ1_2_6
                            refine join_ (σ := Value × Value) 5 #[true, true, false, false, false, true, true, true, true, true, false, false] (fun s_ => [(17, s_.1), (22, s_.2), (23, .string (strOfNums y312)), (24, .string ((⟨#[1]⟩ : ByteArray) ++ (strOfNums y312))), (25, .string (((⟨#[1]⟩ : ByteArray) ++ (strOfNums y312)) ++ (⟨#[0]⟩ : ByteArray)))]) (fun s_ w' => (Kd.R (Kd.int .u8) 5 w' w.heap.size (fun k_ => some k_ ≠ (s_.2 : Value).ownBlock) s_.1 y309) ∧ (Kd.R (Kd.int .u8) 5 w' w.heap.size (fun k_ => some k_ ≠ (s_.1 : Value).ownBlock) s_.2 y312) ∧ (Below w.heap.size w w')) ?_ ?_
                            rotate_left
                            · intro hJ1_6_7
                              refine join_ (σ := Value) 5 #[true, true, true, true, true, true, false, false, false, false, true, false] (fun s_ => [(17, s_), (18, .string (strOfNums y309)), (19, .string ((⟨#[1]⟩ : ByteArray) ++ (strOfNums y309))), (20, .string (((⟨#[1]⟩ : ByteArray) ++ (strOfNums y309)) ++ (⟨#[0]⟩ : ByteArray))), (7, .string (((⟨#[1]⟩ : ByteArray) ++ (strOfNums y309)) ++ (⟨#[0]⟩ : ByteArray)))]) (fun s_ w' => (Kd.R (Kd.int .u8) 5 w' w.heap.size (fun _ => True) s_ y309) ∧ (Below w.heap.size w w')) ?_ ?_
                              rotate_left
                              · intro hJ1_2
                                refine join_ (σ := Value × Value) 8 #[true, true, false, false, false, true, true, false, false, false, false, false] (fun s_ => [(17, s_.1), (22, s_.2)]) (fun s_ w' => (Kd.R (Kd.int .u8) 5 w' w.heap.size (fun k_ => some k_ ≠ (s_.2 : Value).ownBlock) s_.1 y309) ∧ (Kd.R (Kd.int .u8) 5 w' w.heap.size (fun k_ => some k_ ≠ (s_.1 : Value).ownBlock) s_.2 y312) ∧ (Below w.heap.size w w')) ?_ ?_
                                rotate_left
                                · intro hJ1_6
                                  refine join_ (σ := Value) 6 #[true, false, false, false, false, true, true, true, true, true, false, false] (fun s_ => [(22, s_), (23, .string (strOfNums y312)), (24, .string ((⟨#[1]⟩ : ByteArray) ++ (strOfNums y312))), (25, .string (((⟨#[1]⟩ : ByteArray) ++ (strOfNums y312)) ++ (⟨#[0]⟩ : ByteArray)))]) (fun s_ w' => (Kd.R (Kd.int .u8) 5 w' w.heap.size (fun _ => True) s_ y312) ∧ (Below w.heap.size w w')) ?_ ?_
                                  rotate_left
                                  · intro hJ6_7
                                    refine join_ (σ := Value) 9 #[true, true, false, false, false, true, false, false, false, false, false, false] (fun s_ => [(17, s_)]) (fun s_ w' => (Kd.R (Kd.int .u8) 5 w' w.heap.size (fun _ => True) s_ y309) ∧ (Below w.heap.size w w')) ?_ ?_
                                    rotate_left
                                    · intro hJ1
                                      refine join_ (σ := Value) 9 #[true, false, false, false, false, true, true, false, false, false, false, false] (fun s_ => [(22, s_)]) (fun s_ w' => (Kd.R (Kd.int .u8) 5 w' w.heap.size (fun _ => True) s_ y312) ∧ (Below w.heap.size w w')) ?_ ?_
                                      rotate_left
                                      · intro hJ6
                                        refine two_ (i := 1) (j := 6) (Ni := some 17) (Nj := some 22) #[true, true, false, false, false, true, false, false, false, false, false, false] #[true, false, false, false, false, true, true, false, false, false, false, false] rfl rfl rfl rfl (two_of HT_.out (by kernel_rfl)) (by decide) (by decide) (fun K hK => ?_) (fun K hK => ?_)
                                        · skip
                                          refine Kd.R_lit_step (Kd.int .u8) _ 5 ?hg (N := 17) ?hd (xs := ([(a0) % 256] : List Int)) (inner := [.int .u8 ((a0) % 256)]) (ok := fun _ => True) (okp := fun _ => True) ?hr ?hp (fun _ hk => hk) trivial (Below.refl _ _) (Nat.le_refl _) (by simp) ?_; (case hd => rfl); (case hg => rfl); (case hr => first | (go_simp; done) | (go_simp; rfl)); (case hp => exact (Reps.one (show Kd.M (Kd.int .u8) _ _ _ ((a0) % 256) [.int .u8 ((a0) % 256)] from rfl) (Reps.none _ _)))
                                          intro v310 w27 ho28 hb hg_ hnew_
                                          clear hg_ hnew_
                                          (first | rw [← Ny309.out] at ho28 | (simp only [Int.reduceToNat] at ho28; rw [← Ny309.out] at ho28))
                                          have n0_ := Aside0.mk (Kd.R_lower ho28 (below_size (by repeat (first | (with_reducible first | exact HB.out | apply below_alloc | apply pw_below_drewN | apply below_drew1) | exact HB.out))))
                                          have n1_ := Aside0.mk (below_step (by repeat (first | (with_reducible first | exact HB.out | apply below_alloc | apply pw_below_drewN | apply below_drew1) | exact HB.out)) hb)
                                          clear HB
                                          have HO311 := n0_
                                          have HB := n1_
                                          clear n0_ n1_
                                          clear hb ho28
                                          refine hK.out _ _ trivial (fun hHeld => ?_)
                                          clear hK K
                                          refine norm_ (a' := ?_) ?_ ?_
                                          rotate_left
                                          · show Act.put _ (some 17) _ = _
                                            simp only [Act.put, List.setIfInBounds_toArray, List.set_cons_zero, List.set_cons_succ, i64_w, i32_w]
                                            rfl
                                          exact norm_ (by first | (simp only [putAll, Act.put, List.setIfInBounds_toArray, List.set_cons_zero, List.set_cons_succ]; done) | (simp only [putAll, Act.put, List.setIfInBounds_toArray, List.set_cons_zero, List.set_cons_succ]; rfl)) (hJ1 (v310) _ ⟨(by (with_reducible repeat (first | apply Kd.R_alloc | apply Kd.R_drewN | apply Kd.R_drew)); exact HO311.out), (by repeat (first | (with_reducible first | exact HB.out | apply below_alloc | apply pw_below_drewN | apply below_drew1) | exact HB.out))⟩)
                                        · skip
                                          refine Kd.R_lit_step (Kd.int .u8) _ 5 ?hg (N := 22) ?hd (xs := ([(a1) % 256] : List Int)) (inner := [.int .u8 ((a1) % 256)]) (ok := fun _ => True) (okp := fun _ => True) ?hr ?hp (fun _ hk => hk) trivial (Below.refl _ _) (Nat.le_refl _) (by simp) ?_; (case hd => rfl); (case hg => rfl); (case hr => first | (go_simp; done) | (go_simp; rfl)); (case hp => exact (Reps.one (show Kd.M (Kd.int .u8) _ _ _ ((a1) % 256) [.int .u8 ((a1) % 256)] from rfl) (Reps.none _ _)))
                                          intro v313 w27 ho28 hb hg_ hnew_
                                          clear hg_ hnew_
                                          (first | rw [← Ny312.out] at ho28 | (simp only [Int.reduceToNat] at ho28; rw [← Ny312.out] at ho28))
                                          have n0_ := Aside0.mk (Kd.R_lower ho28 (below_size (by repeat (first | (with_reducible first | exact HB.out | apply below_alloc | apply pw_below_drewN | apply below_drew1) | exact HB.out))))
                                          have n1_ := Aside0.mk (below_step (by repeat (first | (with_reducible first | exact HB.out | apply below_alloc | apply pw_below_drewN | apply below_drew1) | exact HB.out)) hb)
                                          clear HB
                                          have HO314 := n0_
                                          have HB := n1_
                                          clear n0_ n1_
                                          clear hb ho28
                                          refine hK.out _ _ trivial (fun hHeld => ?_)
                                          clear hK K
                                          refine norm_ (a' := ?_) ?_ ?_
                                          rotate_left
                                          · show Act.put _ (some 22) _ = _
                                            simp only [Act.put, List.setIfInBounds_toArray, List.set_cons_zero, List.set_cons_succ, i64_w, i32_w]
                                            rfl
                                          exact norm_ (by first | (simp only [putAll, Act.put, List.setIfInBounds_toArray, List.set_cons_zero, List.set_cons_succ]; done) | (simp only [putAll, Act.put, List.setIfInBounds_toArray, List.set_cons_zero, List.set_cons_succ]; rfl)) (hJ6 (v313) _ ⟨(by (with_reducible repeat (first | apply Kd.R_alloc | apply Kd.R_drewN | apply Kd.R_drew)); exact HO314.out), (by repeat (first | (with_reducible first | exact HB.out | apply below_alloc | apply pw_below_drewN | apply below_drew1) | exact HB.out))⟩)
                                      · skip
                                        rintro v313 w29 ⟨h0_, h1_⟩
                                        have n0_ : Aside0 (Kd.R (Kd.int .u8) 5 w29 w.heap.size (fun _ => True) v313 y312) := ⟨h0_⟩
                                        have n1_ : Aside0 (Below w.heap.size w w29) := ⟨h1_⟩
                                        clear HB
                                        clear h0_ h1_
                                        have HO314 := n0_
                                        have HB := n1_
                                        clear n0_ n1_
                                        have hHeld := trivial
                                        refine norm_ (a' := ?_) ?_ ?_
                                        rotate_left
                                        · simp only [putAll, Act.put, List.setIfInBounds_toArray, List.set_cons_zero, List.set_cons_succ]
                                          rfl
                                        refine two_ (i := 1) (j := 7) (Ni := some 17) (Nj := some 23) #[true, true, false, false, false, true, true, false, false, false, false, false] #[true, false, false, false, false, true, true, true, false, false, false, false] rfl rfl rfl rfl (two_of HT_.out (by kernel_rfl)) (by decide) (by decide) (fun K hK => ?_) (fun K hK => ?_)
                                        · skip
                                          refine Kd.R_lit_step (Kd.int .u8) _ 5 ?hg (N := 17) ?hd (xs := ([(a0) % 256] : List Int)) (inner := [.int .u8 ((a0) % 256)]) (ok := fun _ => True) (okp := fun _ => True) ?hr ?hp (fun _ hk => hk) trivial (Below.refl _ _) (Nat.le_refl _) (by simp) ?_; (case hd => rfl); (case hg => rfl); (case hr => first | (go_simp; done) | (go_simp; rfl)); (case hp => exact (Reps.one (show Kd.M (Kd.int .u8) _ _ _ ((a0) % 256) [.int .u8 ((a0) % 256)] from rfl) (Reps.none _ _)))
                                          intro v310 w30 ho31 hb hg_ hnew_
                                          clear hg_ hnew_
                                          (first | rw [← Ny309.out] at ho31 | (simp only [Int.reduceToNat] at ho31; rw [← Ny309.out] at ho31))
                                          have n0_ := Aside0.mk (Kd.R_elder' (by (with_reducible repeat (first | apply Kd.R_alloc | apply Kd.R_drewN | apply Kd.R_drew)); exact HO314.out) (Kd.R_base ho31) hb)
                                          have n1_ := Aside0.mk (Kd.R_lower (Kd.R_new' ho31 (Kd.R_lt (by (with_reducible repeat (first | apply Kd.R_alloc | apply Kd.R_drewN | apply Kd.R_drew)); exact HO314.out))) (below_size (by repeat (first | (with_reducible first | exact HB.out | apply below_alloc | apply pw_below_drewN | apply below_drew1) | exact HB.out))))
                                          have n2_ := Aside0.mk (below_step (by repeat (first | (with_reducible first | exact HB.out | apply below_alloc | apply pw_below_drewN | apply below_drew1) | exact HB.out)) hb)
                                          clear HO314
                                          clear HB
                                          have HO314 := n0_
                                          have HO311 := n1_
                                          have HB := n2_
                                          clear n0_ n1_ n2_
                                          clear hb ho31
                                          refine hK.out _ _ trivial (fun hHeld => ?_)
                                          clear hK K
                                          refine norm_ (a' := ?_) ?_ ?_
                                          rotate_left
                                          · show Act.put _ (some 17) _ = _
                                            simp only [Act.put, List.setIfInBounds_toArray, List.set_cons_zero, List.set_cons_succ, i64_w, i32_w]
                                            rfl
                                          exact norm_ (by first | (simp only [putAll, Act.put, List.setIfInBounds_toArray, List.set_cons_zero, List.set_cons_succ]; done) | (simp only [putAll, Act.put, List.setIfInBounds_toArray, List.set_cons_zero, List.set_cons_succ]; rfl)) (hJ1_6 (v310, v313) _ ⟨(by (with_reducible repeat (first | apply Kd.R_alloc | apply Kd.R_drewN | apply Kd.R_drew)); exact Kd.R_mono HO311.out (fun _ hk => hk.2)), (by (with_reducible repeat (first | apply Kd.R_alloc | apply Kd.R_drewN | apply Kd.R_drew)); exact Kd.R_mono HO314.out (fun _ hk => hk.2)), (by repeat (first | (with_reducible first | exact HB.out | apply below_alloc | apply pw_below_drewN | apply below_drew1) | exact HB.out))⟩)
                                        · skip
                                          have hcv30 := own_string (P := Try.prog) Try.underlying40 Try.underlying5 Try.underlying9 (Kd.own_of_R HO314.out)
                                          refine value_ (w1 := ?_) (v := ?_) (by rfl) rfl ?_ ?_
                                          rotate_left 2
                                          · go_simp
                                            constructor
                                            · rfl
                                            · rfl
                                          clear hcv30
                                          refine hK.out _ _ trivial (fun hHeld => ?_)
                                          clear hK K
                                          refine norm_ (a' := ?_) ?_ ?_
                                          rotate_left
                                          · show Act.put _ (some 23) _ = _
                                            simp only [Act.put, List.setIfInBounds_toArray, List.set_cons_zero, List.set_cons_succ, i64_w, i32_w]
                                            rfl
                                          refine pure_ (i := 8) (N := some 24) (v := ?_) (a' := ?_) #[true, false, false, false, false, true, true, true, true, false, false, false] rfl rfl (any_of HT_.out (by kernel_rfl)) (fun _ _ _ h => h) (Or.inl ⟨by rfl, ?_⟩) ?_ ?_
                                          rotate_left
                                          · intro w'
                                            go_simp
                                            with_reducible rfl
                                          rotate_left
                                          · simp only [Act.put, List.setIfInBounds_toArray, List.set_cons_zero, List.set_cons_succ, i64_w, i32_w]
                                            rfl
                                          refine pure_ (i := 9) (N := some 25) (v := ?_) (a' := ?_) #[true, false, false, false, false, true, true, true, true, true, false, false] rfl rfl (any_of HT_.out (by kernel_rfl)) (fun _ _ _ h => h) (Or.inl ⟨by rfl, ?_⟩) ?_ ?_
                                          rotate_left
                                          · intro w'
                                            go_simp
                                            with_reducible rfl
                                          rotate_left
                                          · simp only [Act.put, List.setIfInBounds_toArray, List.set_cons_zero, List.set_cons_succ, i64_w, i32_w]
                                            rfl
                                          exact norm_ (by first | (simp only [putAll, Act.put, List.setIfInBounds_toArray, List.set_cons_zero, List.set_cons_succ]; done) | (simp only [putAll, Act.put, List.setIfInBounds_toArray, List.set_cons_zero, List.set_cons_succ]; rfl)) (hJ6_7 (v313) _ ⟨(by (with_reducible repeat (first | apply Kd.R_alloc | apply Kd.R_drewN | apply Kd.R_drew)); exact HO314.out), (by repeat (first | (with_reducible first | exact HB.out | apply below_alloc | apply pw_below_drewN | apply below_drew1) | exact HB.out))⟩)
                                    · skip
                                      rintro v310 w29 ⟨h0_, h1_⟩
                                      have n0_ : Aside0 (Kd.R (Kd.int .u8) 5 w29 w.heap.size (fun _ => True) v310 y309) := ⟨h0_⟩
                                      have n1_ : Aside0 (Below w.heap.size w w29) := ⟨h1_⟩
                                      clear HB
                                      clear h0_ h1_
                                      have HO311 := n0_
                                      have HB := n1_
                                      clear n0_ n1_
                                      have hHeld := trivial
                                      refine norm_ (a' := ?_) ?_ ?_
                                      rotate_left
                                      · simp only [putAll, Act.put, List.setIfInBounds_toArray, List.set_cons_zero, List.set_cons_succ]
                                        rfl
                                      refine two_ (i := 2) (j := 6) (Ni := some 18) (Nj := some 22) #[true, true, true, false, false, true, false, false, false, false, false, false] #[true, true, false, false, false, true, true, false, false, false, false, false] rfl rfl rfl rfl (two_of HT_.out (by kernel_rfl)) (by decide) (by decide) (fun K hK => ?_) (fun K hK => ?_)
                                      · skip
                                        have hcv30 := own_string (P := Try.prog) Try.underlying40 Try.underlying5 Try.underlying9 (Kd.own_of_R HO311.out)
                                        refine value_ (w1 := ?_) (v := ?_) (by rfl) rfl ?_ ?_
                                        rotate_left 2
                                        · go_simp
                                          constructor
                                          · rfl
                                          · rfl
                                        clear hcv30
                                        refine hK.out _ _ trivial (fun hHeld => ?_)
                                        clear hK K
                                        refine norm_ (a' := ?_) ?_ ?_
                                        rotate_left
                                        · show Act.put _ (some 18) _ = _
                                          simp only [Act.put, List.setIfInBounds_toArray, List.set_cons_zero, List.set_cons_succ, i64_w, i32_w]
                                          rfl
                                        refine pure_ (i := 3) (N := some 19) (v := ?_) (a' := ?_) #[true, true, true, true, false, true, false, false, false, false, false, false] rfl rfl (any_of HT_.out (by kernel_rfl)) (fun _ _ _ h => h) (Or.inl ⟨by rfl, ?_⟩) ?_ ?_
                                        rotate_left
                                        · intro w'
                                          go_simp
                                          with_reducible rfl
                                        rotate_left
                                        · simp only [Act.put, List.setIfInBounds_toArray, List.set_cons_zero, List.set_cons_succ, i64_w, i32_w]
                                          rfl
                                        refine pure_ (i := 4) (N := some 20) (v := ?_) (a' := ?_) #[true, true, true, true, true, true, false, false, false, false, false, false] rfl rfl (any_of HT_.out (by kernel_rfl)) (fun _ _ _ h => h) (Or.inl ⟨by rfl, ?_⟩) ?_ ?_
                                        rotate_left
                                        · intro w'
                                          go_simp
                                          with_reducible rfl
                                        rotate_left
                                        · simp only [Act.put, List.setIfInBounds_toArray, List.set_cons_zero, List.set_cons_succ, i64_w, i32_w]
                                          rfl
                                        refine pure_ (i := 10) (N := some 7) (v := ?_) (a' := ?_) #[true, true, true, true, true, true, false, false, false, false, true, false] rfl rfl (any_of HT_.out (by kernel_rfl)) (fun _ _ _ h => h) (Or.inl ⟨by rfl, ?_⟩) ?_ ?_
                                        rotate_left
                                        · intro w'
                                          go_simp
                                          with_reducible rfl
                                        rotate_left
                                        · simp only [Act.put, List.setIfInBounds_toArray, List.set_cons_zero, List.set_cons_succ, i64_w, i32_w]
                                          rfl
                                        exact norm_ (by first | (simp only [putAll, Act.put, List.setIfInBounds_toArray, List.set_cons_zero, List.set_cons_succ]; done) | (simp only [putAll, Act.put, List.setIfInBounds_toArray, List.set_cons_zero, List.set_cons_succ]; rfl)) (hJ1_2 (v310) _ ⟨(by (with_reducible repeat (first | apply Kd.R_alloc | apply Kd.R_drewN | apply Kd.R_drew)); exact HO311.out), (by repeat (first | (with_reducible first | exact HB.out | apply below_alloc | apply pw_below_drewN | apply below_drew1) | exact HB.out))⟩)
                                      · skip
                                        refine Kd.R_lit_step (Kd.int .u8) _ 5 ?hg (N := 22) ?hd (xs := ([(a1) % 256] : List Int)) (inner := [.int .u8 ((a1) % 256)]) (ok := fun _ => True) (okp := fun _ => True) ?hr ?hp (fun _ hk => hk) trivial (Below.refl _ _) (Nat.le_refl _) (by simp) ?_; (case hd => rfl); (case hg => rfl); (case hr => first | (go_simp; done) | (go_simp; rfl)); (case hp => exact (Reps.one (show Kd.M (Kd.int .u8) _ _ _ ((a1) % 256) [.int .u8 ((a1) % 256)] from rfl) (Reps.none _ _)))
                                        intro v313 w30 ho31 hb hg_ hnew_
                                        clear hg_ hnew_
                                        (first | rw [← Ny312.out] at ho31 | (simp only [Int.reduceToNat] at ho31; rw [← Ny312.out] at ho31))
                                        have n0_ := Aside0.mk (Kd.R_elder' (by (with_reducible repeat (first | apply Kd.R_alloc | apply Kd.R_drewN | apply Kd.R_drew)); exact HO311.out) (Kd.R_base ho31) hb)
                                        have n1_ := Aside0.mk (Kd.R_lower (Kd.R_new' ho31 (Kd.R_lt (by (with_reducible repeat (first | apply Kd.R_alloc | apply Kd.R_drewN | apply Kd.R_drew)); exact HO311.out))) (below_size (by repeat (first | (with_reducible first | exact HB.out | apply below_alloc | apply pw_below_drewN | apply below_drew1) | exact HB.out))))
                                        have n2_ := Aside0.mk (below_step (by repeat (first | (with_reducible first | exact HB.out | apply below_alloc | apply pw_below_drewN | apply below_drew1) | exact HB.out)) hb)
                                        clear HO311
                                        clear HB
                                        have HO311 := n0_
                                        have HO314 := n1_
                                        have HB := n2_
                                        clear n0_ n1_ n2_
                                        clear hb ho31
                                        refine hK.out _ _ trivial (fun hHeld => ?_)
                                        clear hK K
                                        refine norm_ (a' := ?_) ?_ ?_
                                        rotate_left
                                        · show Act.put _ (some 22) _ = _
                                          simp only [Act.put, List.setIfInBounds_toArray, List.set_cons_zero, List.set_cons_succ, i64_w, i32_w]
                                          rfl
                                        exact norm_ (by first | (simp only [putAll, Act.put, List.setIfInBounds_toArray, List.set_cons_zero, List.set_cons_succ]; done) | (simp only [putAll, Act.put, List.setIfInBounds_toArray, List.set_cons_zero, List.set_cons_succ]; rfl)) (hJ1_6 (v310, v313) _ ⟨(by (with_reducible repeat (first | apply Kd.R_alloc | apply Kd.R_drewN | apply Kd.R_drew)); exact Kd.R_mono HO311.out (fun _ hk => hk.2)), (by (with_reducible repeat (first | apply Kd.R_alloc | apply Kd.R_drewN | apply Kd.R_drew)); exact Kd.R_mono HO314.out (fun _ hk => hk.2)), (by repeat (first | (with_reducible first | exact HB.out | apply below_alloc | apply pw_below_drewN | apply below_drew1) | exact HB.out))⟩)
                                  · skip
                                    rintro v313 w30 ⟨h0_, h1_⟩
                                    have n0_ : Aside0 (Kd.R (Kd.int .u8) 5 w30 w.heap.size (fun _ => True) v313 y312) := ⟨h0_⟩
                                    have n1_ : Aside0 (Below w.heap.size w w30) := ⟨h1_⟩
                                    clear HB
                                    clear h0_ h1_
                                    have HO314 := n0_
                                    have HB := n1_
                                    clear n0_ n1_
                                    have hHeld := trivial
                                    refine norm_ (a' := ?_) ?_ ?_
                                    rotate_left
                                    · simp only [putAll, Act.put, List.setIfInBounds_toArray, List.set_cons_zero, List.set_cons_succ]
                                      rfl
                                    refine one_ (i := 1) (N := some 17) #[true, true, false, false, false, true, true, true, true, true, false, false] rfl rfl (one_of HT_.out (by kernel_rfl)) (by decide) (fun K hK => ?_)
                                    refine Kd.R_lit_step (Kd.int .u8) _ 5 ?hg (N := 17) ?hd (xs := ([(a0) % 256] : List Int)) (inner := [.int .u8 ((a0) % 256)]) (ok := fun _ => True) (okp := fun _ => True) ?hr ?hp (fun _ hk => hk) trivial (Below.refl _ _) (Nat.le_refl _) (by simp) ?_; (case hd => rfl); (case hg => rfl); (case hr => first | (go_simp; done) | (go_simp; rfl)); (case hp => exact (Reps.one (show Kd.M (Kd.int .u8) _ _ _ ((a0) % 256) [.int .u8 ((a0) % 256)] from rfl) (Reps.none _ _)))
                                    intro v310 w31 ho32 hb hg_ hnew_
                                    clear hg_ hnew_
                                    (first | rw [← Ny309.out] at ho32 | (simp only [Int.reduceToNat] at ho32; rw [← Ny309.out] at ho32))
                                    have n0_ := Aside0.mk (Kd.R_elder' (by (with_reducible repeat (first | apply Kd.R_alloc | apply Kd.R_drewN | apply Kd.R_drew)); exact HO314.out) (Kd.R_base ho32) hb)
                                    have n1_ := Aside0.mk (Kd.R_lower (Kd.R_new' ho32 (Kd.R_lt (by (with_reducible repeat (first | apply Kd.R_alloc | apply Kd.R_drewN | apply Kd.R_drew)); exact HO314.out))) (below_size (by repeat (first | (with_reducible first | exact HB.out | apply below_alloc | apply pw_below_drewN | apply below_drew1) | exact HB.out))))
                                    have n2_ := Aside0.mk (below_step (by repeat (first | (with_reducible first | exact HB.out | apply below_alloc | apply pw_below_drewN | apply below_drew1) | exact HB.out)) hb)
                                    clear HO314
                                    clear HB
                                    have HO314 := n0_
                                    have HO311 := n1_
                                    have HB := n2_
                                    clear n0_ n1_ n2_
                                    clear hb ho32
                                    refine hK.out _ _ trivial (fun hHeld => ?_)
                                    clear hK K
                                    refine norm_ (a' := ?_) ?_ ?_
                                    rotate_left
                                    · show Act.put _ (some 17) _ = _
                                      simp only [Act.put, List.setIfInBounds_toArray, List.set_cons_zero, List.set_cons_succ, i64_w, i32_w]
                                      rfl
                                    exact norm_ (by first | (simp only [putAll, Act.put, List.setIfInBounds_toArray, List.set_cons_zero, List.set_cons_succ]; done) | (simp only [putAll, Act.put, List.setIfInBounds_toArray, List.set_cons_zero, List.set_cons_succ]; rfl)) (hJ1_6_7 (v310, v313) _ ⟨(by (with_reducible repeat (first | apply Kd.R_alloc | apply Kd.R_drewN | apply Kd.R_drew)); exact Kd.R_mono HO311.out (fun _ hk => hk.2)), (by (with_reducible repeat (first | apply Kd.R_alloc | apply Kd.R_drewN | apply Kd.R_drew)); exact Kd.R_mono HO314.out (fun _ hk => hk.2)), (by repeat (first | (with_reducible first | exact HB.out | apply below_alloc | apply pw_below_drewN | apply below_drew1) | exact HB.out))⟩)
                                · skip
                                  rintro ⟨v310, v313⟩ w31 ⟨h0_, h1_, h2_⟩
                                  have n0_ : Aside0 (Kd.R (Kd.int .u8) 5 w31 w.heap.size (fun k_ => some k_ ≠ (v313 : Value).ownBlock) v310 y309) := ⟨h0_⟩
                                  have n1_ : Aside0 (Kd.R (Kd.int .u8) 5 w31 w.heap.size (fun k_ => some k_ ≠ (v310 : Value).ownBlock) v313 y312) := ⟨h1_⟩
                                  have n2_ : Aside0 (Below w.heap.size w w31) := ⟨h2_⟩
                                  clear HB
                                  clear h0_ h1_ h2_
                                  have HO311 := n0_
                                  have HO314 := n1_
                                  have HB := n2_
                                  clear n0_ n1_ n2_
                                  have hHeld := trivial
                                  refine norm_ (a' := ?_) ?_ ?_
                                  rotate_left
                                  · simp only [putAll, Act.put, List.setIfInBounds_toArray, List.set_cons_zero, List.set_cons_succ]
                                    rfl
                                  refine two_ (i := 2) (j := 7) (Ni := some 18) (Nj := some 23) #[true, true, true, false, false, true, true, false, false, false, false, false] #[true, true, false, false, false, true, true, true, false, false, false, false] rfl rfl rfl rfl (two_of HT_.out (by kernel_rfl)) (by decide) (by decide) (fun K hK => ?_) (fun K hK => ?_)
                                  · skip
                                    have hcv32 := own_string (P := Try.prog) Try.underlying40 Try.underlying5 Try.underlying9 (Kd.own_of_R HO311.out)
                                    refine value_ (w1 := ?_) (v := ?_) (by rfl) rfl ?_ ?_
                                    rotate_left 2
                                    · go_simp
                                      constructor
                                      · rfl
                                      · rfl
                                    clear hcv32
                                    refine hK.out _ _ trivial (fun hHeld => ?_)
                                    clear hK K
                                    refine norm_ (a' := ?_) ?_ ?_
                                    rotate_left
                                    · show Act.put _ (some 18) _ = _
                                      simp only [Act.put, List.setIfInBounds_toArray, List.set_cons_zero, List.set_cons_succ, i64_w, i32_w]
                                      rfl
                                    refine pure_ (i := 3) (N := some 19) (v := ?_) (a' := ?_) #[true, true, true, true, false, true, true, false, false, false, false, false] rfl rfl (any_of HT_.out (by kernel_rfl)) (fun _ _ _ h => h) (Or.inl ⟨by rfl, ?_⟩) ?_ ?_
                                    rotate_left
                                    · intro w'
                                      go_simp
                                      with_reducible rfl
                                    rotate_left
                                    · simp only [Act.put, List.setIfInBounds_toArray, List.set_cons_zero, List.set_cons_succ, i64_w, i32_w]
                                      rfl
                                    refine pure_ (i := 4) (N := some 20) (v := ?_) (a' := ?_) #[true, true, true, true, true, true, true, false, false, false, false, false] rfl rfl (any_of HT_.out (by kernel_rfl)) (fun _ _ _ h => h) (Or.inl ⟨by rfl, ?_⟩) ?_ ?_
                                    rotate_left
                                    · intro w'
                                      go_simp
                                      with_reducible rfl
                                    rotate_left
                                    · simp only [Act.put, List.setIfInBounds_toArray, List.set_cons_zero, List.set_cons_succ, i64_w, i32_w]
                                      rfl
                                    refine pure_ (i := 10) (N := some 7) (v := ?_) (a' := ?_) #[true, true, true, true, true, true, true, false, false, false, true, false] rfl rfl (any_of HT_.out (by kernel_rfl)) (fun _ _ _ h => h) (Or.inl ⟨by rfl, ?_⟩) ?_ ?_
                                    rotate_left
                                    · intro w'
                                      go_simp
                                      with_reducible rfl
                                    rotate_left
                                    · simp only [Act.put, List.setIfInBounds_toArray, List.set_cons_zero, List.set_cons_succ, i64_w, i32_w]
                                      rfl
                                    exact norm_ (by first | (simp only [putAll, Act.put, List.setIfInBounds_toArray, List.set_cons_zero, List.set_cons_succ]; done) | (simp only [putAll, Act.put, List.setIfInBounds_toArray, List.set_cons_zero, List.set_cons_succ]; rfl)) (hJ1_2_6 (v310, v313) _ ⟨(by (with_reducible repeat (first | apply Kd.R_alloc | apply Kd.R_drewN | apply Kd.R_drew)); exact HO311.out), (by (with_reducible repeat (first | apply Kd.R_alloc | apply Kd.R_drewN | apply Kd.R_drew)); exact HO314.out), (by repeat (first | (with_reducible first | exact HB.out | apply below_alloc | apply pw_below_drewN | apply below_drew1) | exact HB.out))⟩)
                                  · skip
                                    have hcv32 := own_string (P := Try.prog) Try.underlying40 Try.underlying5 Try.underlying9 (Kd.own_of_R HO314.out)
                                    refine value_ (w1 := ?_) (v := ?_) (by rfl) rfl ?_ ?_
                                    rotate_left 2
                                    · go_simp
                                      constructor
                                      · rfl
                                      · rfl
                                    clear hcv32
                                    refine hK.out _ _ trivial (fun hHeld => ?_)
                                    clear hK K
                                    refine norm_ (a' := ?_) ?_ ?_
                                    rotate_left
                                    · show Act.put _ (some 23) _ = _
                                      simp only [Act.put, List.setIfInBounds_toArray, List.set_cons_zero, List.set_cons_succ, i64_w, i32_w]
                                      rfl
                                    refine pure_ (i := 8) (N := some 24) (v := ?_) (a' := ?_) #[true, true, false, false, false, true, true, true, true, false, false, false] rfl rfl (any_of HT_.out (by kernel_rfl)) (fun _ _ _ h => h) (Or.inl ⟨by rfl, ?_⟩) ?_ ?_
                                    rotate_left
                                    · intro w'
                                      go_simp
                                      with_reducible rfl
                                    rotate_left
                                    · simp only [Act.put, List.setIfInBounds_toArray, List.set_cons_zero, List.set_cons_succ, i64_w, i32_w]
                                      rfl
                                    refine pure_ (i := 9) (N := some 25) (v := ?_) (a' := ?_) #[true, true, false, false, false, true, true, true, true, true, false, false] rfl rfl (any_of HT_.out (by kernel_rfl)) (fun _ _ _ h => h) (Or.inl ⟨by rfl, ?_⟩) ?_ ?_
                                    rotate_left
                                    · intro w'
                                      go_simp
                                      with_reducible rfl
                                    rotate_left
                                    · simp only [Act.put, List.setIfInBounds_toArray, List.set_cons_zero, List.set_cons_succ, i64_w, i32_w]
                                      rfl
                                    exact norm_ (by first | (simp only [putAll, Act.put, List.setIfInBounds_toArray, List.set_cons_zero, List.set_cons_succ]; done) | (simp only [putAll, Act.put, List.setIfInBounds_toArray, List.set_cons_zero, List.set_cons_succ]; rfl)) (hJ1_6_7 (v310, v313) _ ⟨(by (with_reducible repeat (first | apply Kd.R_alloc | apply Kd.R_drewN | apply Kd.R_drew)); exact HO311.out), (by (with_reducible repeat (first | apply Kd.R_alloc | apply Kd.R_drewN | apply Kd.R_drew)); exact HO314.out), (by repeat (first | (with_reducible first | exact HB.out | apply below_alloc | apply pw_below_drewN | apply below_drew1) | exact HB.out))⟩)
                              · skip
                                rintro v310 w30 ⟨h0_, h1_⟩
                                have n0_ : Aside0 (Kd.R (Kd.int .u8) 5 w30 w.heap.size (fun _ => True) v310 y309) := ⟨h0_⟩
                                have n1_ : Aside0 (Below w.heap.size w w30) := ⟨h1_⟩
                                clear HB
                                clear h0_ h1_
                                have HO311 := n0_
                                have HB := n1_
                                clear n0_ n1_
                                have hHeld := trivial
                                refine norm_ (a' := ?_) ?_ ?_
                                rotate_left
                                · simp only [putAll, Act.put, List.setIfInBounds_toArray, List.set_cons_zero, List.set_cons_succ]
                                  rfl
                                refine one_ (i := 6) (N := some 22) #[true, true, true, true, true, true, true, false, false, false, true, false] rfl rfl (one_of HT_.out (by kernel_rfl)) (by decide) (fun K hK => ?_)
                                refine Kd.R_lit_step (Kd.int .u8) _ 5 ?hg (N := 22) ?hd (xs := ([(a1) % 256] : List Int)) (inner := [.int .u8 ((a1) % 256)]) (ok := fun _ => True) (okp := fun _ => True) ?hr ?hp (fun _ hk => hk) trivial (Below.refl _ _) (Nat.le_refl _) (by simp) ?_; (case hd => rfl); (case hg => rfl); (case hr => first | (go_simp; done) | (go_simp; rfl)); (case hp => exact (Reps.one (show Kd.M (Kd.int .u8) _ _ _ ((a1) % 256) [.int .u8 ((a1) % 256)] from rfl) (Reps.none _ _)))
                                intro v313 w31 ho32 hb hg_ hnew_
                                clear hg_ hnew_
                                (first | rw [← Ny312.out] at ho32 | (simp only [Int.reduceToNat] at ho32; rw [← Ny312.out] at ho32))
                                have n0_ := Aside0.mk (Kd.R_elder' (by (with_reducible repeat (first | apply Kd.R_alloc | apply Kd.R_drewN | apply Kd.R_drew)); exact HO311.out) (Kd.R_base ho32) hb)
                                have n1_ := Aside0.mk (Kd.R_lower (Kd.R_new' ho32 (Kd.R_lt (by (with_reducible repeat (first | apply Kd.R_alloc | apply Kd.R_drewN | apply Kd.R_drew)); exact HO311.out))) (below_size (by repeat (first | (with_reducible first | exact HB.out | apply below_alloc | apply pw_below_drewN | apply below_drew1) | exact HB.out))))
                                have n2_ := Aside0.mk (below_step (by repeat (first | (with_reducible first | exact HB.out | apply below_alloc | apply pw_below_drewN | apply below_drew1) | exact HB.out)) hb)
                                clear HO311
                                clear HB
                                have HO311 := n0_
                                have HO314 := n1_
                                have HB := n2_
                                clear n0_ n1_ n2_
                                clear hb ho32
                                refine hK.out _ _ trivial (fun hHeld => ?_)
                                clear hK K
                                refine norm_ (a' := ?_) ?_ ?_
                                rotate_left
                                · show Act.put _ (some 22) _ = _
                                  simp only [Act.put, List.setIfInBounds_toArray, List.set_cons_zero, List.set_cons_succ, i64_w, i32_w]
                                  rfl
                                exact norm_ (by first | (simp only [putAll, Act.put, List.setIfInBounds_toArray, List.set_cons_zero, List.set_cons_succ]; done) | (simp only [putAll, Act.put, List.setIfInBounds_toArray, List.set_cons_zero, List.set_cons_succ]; rfl)) (hJ1_2_6 (v310, v313) _ ⟨(by (with_reducible repeat (first | apply Kd.R_alloc | apply Kd.R_drewN | apply Kd.R_drew)); exact Kd.R_mono HO311.out (fun _ hk => hk.2)), (by (with_reducible repeat (first | apply Kd.R_alloc | apply Kd.R_drewN | apply Kd.R_drew)); exact Kd.R_mono HO314.out (fun _ hk => hk.2)), (by repeat (first | (with_reducible first | exact HB.out | apply below_alloc | apply pw_below_drewN | apply below_drew1) | exact HB.out))⟩)
                            · skip
                              rintro ⟨v310, v313⟩ w32 ⟨h0_, h1_, h2_⟩
                              have n0_ : Aside0 (Kd.R (Kd.int .u8) 5 w32 w.heap.size (fun k_ => some k_ ≠ (v313 : Value).ownBlock) v310 y309) := ⟨h0_⟩
                              have n1_ : Aside0 (Kd.R (Kd.int .u8) 5 w32 w.heap.size (fun k_ => some k_ ≠ (v310 : Value).ownBlock) v313 y312) := ⟨h1_⟩
                              have n2_ : Aside0 (Below w.heap.size w w32) := ⟨h2_⟩
                              clear HB
                              clear h0_ h1_ h2_
                              have HO311 := n0_
                              have HO314 := n1_
                              have HB := n2_
                              clear n0_ n1_ n2_
                              have hHeld := trivial
                              refine norm_ (a' := ?_) ?_ ?_
                              rotate_left
                              · simp only [putAll, Act.put, List.setIfInBounds_toArray, List.set_cons_zero, List.set_cons_succ]
                                rfl
                              refine one_ (i := 2) (N := some 18) #[true, true, true, false, false, true, true, true, true, true, false, false] rfl rfl (one_of HT_.out (by kernel_rfl)) (by decide) (fun K hK => ?_)
                              have hcv33 := own_string (P := Try.prog) Try.underlying40 Try.underlying5 Try.underlying9 (Kd.own_of_R HO311.out)
                              refine value_ (w1 := ?_) (v := ?_) (by rfl) rfl ?_ ?_
                              rotate_left 2
                              · go_simp
                                constructor
                                · rfl
                                · rfl
                              clear hcv33
                              refine hK.out _ _ trivial (fun hHeld => ?_)
                              clear hK K
                              refine norm_ (a' := ?_) ?_ ?_
                              rotate_left
                              · show Act.put _ (some 18) _ = _
                                simp only [Act.put, List.setIfInBounds_toArray, List.set_cons_zero, List.set_cons_succ, i64_w, i32_w]
                                rfl
                              refine pure_ (i := 3) (N := some 19) (v := ?_) (a' := ?_) #[true, true, true, true, false, true, true, true, true, true, false, false] rfl rfl (any_of HT_.out (by kernel_rfl)) (fun _ _ _ h => h) (Or.inl ⟨by rfl, ?_⟩) ?_ ?_
                              rotate_left
                              · intro w'
                                go_simp
                                with_reducible rfl
                              rotate_left
                              · simp only [Act.put, List.setIfInBounds_toArray, List.set_cons_zero, List.set_cons_succ, i64_w, i32_w]
                                rfl
                              refine pure_ (i := 4) (N := some 20) (v := ?_) (a' := ?_) #[true, true, true, true, true, true, true, true, true, true, false, false] rfl rfl (any_of HT_.out (by kernel_rfl)) (fun _ _ _ h => h) (Or.inl ⟨by rfl, ?_⟩) ?_ ?_
                              rotate_left
                              · intro w'
                                go_simp
                                with_reducible rfl
                              rotate_left
                              · simp only [Act.put, List.setIfInBounds_toArray, List.set_cons_zero, List.set_cons_succ, i64_w, i32_w]
                                rfl
                              refine pure_ (i := 10) (N := some 7) (v := ?_) (a' := ?_) #[true, true, true, true, true, true, true, true, true, true, true, false] rfl rfl (any_of HT_.out (by kernel_rfl)) (fun _ _ _ h => h) (Or.inl ⟨by rfl, ?_⟩) ?_ ?_
                              rotate_left
                              · intro w'
                                go_simp
                                with_reducible rfl
                              rotate_left
                              · simp only [Act.put, List.setIfInBounds_toArray, List.set_cons_zero, List.set_cons_succ, i64_w, i32_w]
                                rfl
                              exact norm_ (by first | (simp only [putAll, Act.put, List.setIfInBounds_toArray, List.set_cons_zero, List.set_cons_succ]; done) | (simp only [putAll, Act.put, List.setIfInBounds_toArray, List.set_cons_zero, List.set_cons_succ]; rfl)) (hJ1_2_6_7 (v310, v313) _ ⟨(by (with_reducible repeat (first | apply Kd.R_alloc | apply Kd.R_drewN | apply Kd.R_drew)); exact HO311.out), (by (with_reducible repeat (first | apply Kd.R_alloc | apply Kd.R_drewN | apply Kd.R_drew)); exact HO314.out), (by repeat (first | (with_reducible first | exact HB.out | apply below_alloc | apply pw_below_drewN | apply below_drew1) | exact HB.out))⟩)
                          · skip
                            rintro ⟨v310, v313⟩ w32 ⟨h0_, h1_, h2_⟩
                            have n0_ : Aside0 (Kd.R (Kd.int .u8) 5 w32 w.heap.size (fun k_ => some k_ ≠ (v313 : Value).ownBlock) v310 y309) := ⟨h0_⟩
                            have n1_ : Aside0 (Kd.R (Kd.int .u8) 5 w32 w.heap.size (fun k_ => some k_ ≠ (v310 : Value).ownBlock) v313 y312) := ⟨h1_⟩
                            have n2_ : Aside0 (Below w.heap.size w w32) := ⟨h2_⟩
                            clear HB
                            clear h0_ h1_ h2_
                            have HO311 := n0_
                            have HO314 := n1_
                            have HB := n2_
                            clear n0_ n1_ n2_
                            have hHeld := trivial
                            refine norm_ (a' := ?_) ?_ ?_
                            rotate_left
                            · simp only [putAll, Act.put, List.setIfInBounds_toArray, List.set_cons_zero, List.set_cons_succ]
                              rfl
                            refine one_ (i := 7) (N := some 23) #[true, true, true, true, true, true, true, true, false, false, true, false] rfl rfl (one_of HT_.out (by kernel_rfl)) (by decide) (fun K hK => ?_)
                            have hcv33 := own_string (P := Try.prog) Try.underlying40 Try.underlying5 Try.underlying9 (Kd.own_of_R HO314.out)
                            refine value_ (w1 := ?_) (v := ?_) (by rfl) rfl ?_ ?_
                            rotate_left 2
                            · go_simp
                              constructor
                              · rfl
                              · rfl
                            clear hcv33
                            refine hK.out _ _ trivial (fun hHeld => ?_)
                            clear hK K
                            refine norm_ (a' := ?_) ?_ ?_
                            rotate_left
                            · show Act.put _ (some 23) _ = _
                              simp only [Act.put, List.setIfInBounds_toArray, List.set_cons_zero, List.set_cons_succ, i64_w, i32_w]
                              rfl
                            refine pure_ (i := 8) (N := some 24) (v := ?_) (a' := ?_) #[true, true, true, true, true, true, true, true, true, false, true, false] rfl rfl (any_of HT_.out (by kernel_rfl)) (fun _ _ _ h => h) (Or.inl ⟨by rfl, ?_⟩) ?_ ?_
                            rotate_left
                            · intro w'
                              go_simp
                              with_reducible rfl
                            rotate_left
                            · simp only [Act.put, List.setIfInBounds_toArray, List.set_cons_zero, List.set_cons_succ, i64_w, i32_w]
                              rfl
                            refine pure_ (i := 9) (N := some 25) (v := ?_) (a' := ?_) #[true, true, true, true, true, true, true, true, true, true, true, false] rfl rfl (any_of HT_.out (by kernel_rfl)) (fun _ _ _ h => h) (Or.inl ⟨by rfl, ?_⟩) ?_ ?_
                            rotate_left
                            · intro w'
                              go_simp
                              with_reducible rfl
                            rotate_left
                            · simp only [Act.put, List.setIfInBounds_toArray, List.set_cons_zero, List.set_cons_succ, i64_w, i32_w]
                              rfl
                            exact norm_ (by first | (simp only [putAll, Act.put, List.setIfInBounds_toArray, List.set_cons_zero, List.set_cons_succ]; done) | (simp only [putAll, Act.put, List.setIfInBounds_toArray, List.set_cons_zero, List.set_cons_succ]; rfl)) (hJ1_2_6_7 (v310, v313) _ ⟨(by (with_reducible repeat (first | apply Kd.R_alloc | apply Kd.R_drewN | apply Kd.R_drew)); exact HO311.out), (by (with_reducible repeat (first | apply Kd.R_alloc | apply Kd.R_drewN | apply Kd.R_drew)); exact HO314.out), (by repeat (first | (with_reducible first | exact HB.out | apply below_alloc | apply pw_below_drewN | apply below_drew1) | exact HB.out))⟩)
                        rintro ⟨v310, v313⟩ w33 ⟨h0_, h1_, h2_⟩
                        have n0_ : Aside0 (Kd.R (Kd.int .u8) 5 w33 w.heap.size (fun k_ => some k_ ≠ (v313 : Value).ownBlock) v310 y309) := ⟨h0_⟩
                        have n1_ : Aside0 (Kd.R (Kd.int .u8) 5 w33 w.heap.size (fun k_ => some k_ ≠ (v310 : Value).ownBlock) v313 y312) := ⟨h1_⟩
                        have n2_ : Aside0 (Below w.heap.size w w33) := ⟨h2_⟩
                        clear HB
                        clear h0_ h1_ h2_
                        have HO311 := n0_
                        have HO314 := n1_
                        have HB := n2_
                        clear n0_ n1_ n2_
                        have hHeld := trivial
                        refine norm_ (a' := ?_) ?_ ?_
                        rotate_left
                        · simp only [putAll, Act.put, List.setIfInBounds_toArray, List.set_cons_zero, List.set_cons_succ]
                          rfl
                        refine pure_ (i := 11) (N := some 8) (v := ?_) (a' := ?_) #[true, true, true, true, true, true, true, true, true, true, true, true] rfl rfl (any_of HT_.out (by kernel_rfl)) (fun _ _ _ h => h) (Or.inl ⟨by rfl, ?_⟩) ?_ ?_
                        rotate_left
                        · intro w'
                          go_simp
                          with_reducible rfl
                        rotate_left
                        · simp only [Act.put, List.setIfInBounds_toArray, List.set_cons_zero, List.set_cons_succ, i64_w, i32_w]
                          rfl
                        refine done_ (done_of HT_.out (by kernel_rfl)) ?_
                        try go_wp2_with (first | ((with_reducible refine gate_callee (f := 29) rfl ?_); refine goesL_ (some 27) rfl rfl Try.func29 (by kernel_rfl) rfl #[.int .u8 ((a0) % 256)] rfl (by (try simp only [List.map_toArray, List.map_cons, List.map_nil]); first | done | rfl | (simp only [List.length_drop, List.length_take]; rfl)) ?_; (with_reducible refine (wimplelaw2_folded.calls ((a0) % 256) t315 _ A9.out).mono ?_); rintro e w' ⟨rfl, ⟨nd, rfl⟩⟩; refine ⟨_, rfl, ?_⟩) | ((with_reducible refine gate_callee (f := 29) rfl ?_); refine goesL_ (some 29) rfl rfl Try.func29 (by kernel_rfl) rfl #[.int .u8 ((a1) % 256)] rfl (by (try simp only [List.map_toArray, List.map_cons, List.map_nil]); first | done | rfl | (simp only [List.length_drop, List.length_take]; rfl)) ?_; (with_reducible refine (wimplelaw2_folded.calls ((a1) % 256) t316 _ A10.out).mono ?_); rintro e w' ⟨rfl, ⟨nd, rfl⟩⟩; refine ⟨_, rfl, ?_⟩) | ((with_reducible refine gate_callee (f := 19) rfl ?_); refine goesL_ (some 33) rfl rfl Try.func19 (by kernel_rfl) rfl #[.string (((⟨#[1]⟩ : ByteArray) ++ (strOfNums y309)) ++ (⟨#[0]⟩ : ByteArray)), .string (((⟨#[1]⟩ : ByteArray) ++ (strOfNums y312)) ++ (⟨#[0]⟩ : ByteArray))] rfl (by (try simp only [List.map_toArray, List.map_cons, List.map_nil]); first | done | rfl | (simp only [List.length_drop, List.length_take]; rfl)) ?_; (with_reducible refine (rel_Same.calls k (((⟨#[1]⟩ : ByteArray) ++ (strOfNums y309)) ++ (⟨#[0]⟩ : ByteArray)) (((⟨#[1]⟩ : ByteArray) ++ (strOfNums y312)) ++ (⟨#[0]⟩ : ByteArray)) t317 _ A11.out).mono ?_); rintro e w34 ⟨rfl, hb⟩; refine ⟨_, rfl, ?_⟩; have n0_ := Aside0.mk (Kd.R_below (by (with_reducible repeat (first | apply Kd.R_alloc | apply Kd.R_drewN | apply Kd.R_drew)); exact HO311.out) hb); have n1_ := Aside0.mk (Kd.R_below (by (with_reducible repeat (first | apply Kd.R_alloc | apply Kd.R_drewN | apply Kd.R_drew)); exact HO314.out) hb); have n2_ := Aside0.mk (below_step (by repeat (first | (with_reducible first | exact HB.out | apply below_alloc | apply pw_below_drewN | apply below_drew1) | exact HB.out)) hb); clear HO311; clear HO314; clear HB; have HO311 := n0_; have HO314 := n1_; have HB := n2_; clear n0_ n1_ n2_; (try clear hb); (try clear hb2); (try clear hk); (try clear hi)) | (go_at_call 21; (with_reducible refine (rel_Above.calls k (((⟨#[1]⟩ : ByteArray) ++ (strOfNums y309)) ++ (⟨#[0]⟩ : ByteArray)) (((⟨#[1]⟩ : ByteArray) ++ (strOfNums y312)) ++ (⟨#[0]⟩ : ByteArray)) t318 _ A13.out).mono ?_); rintro e w35 ⟨rfl, hb⟩; have n0_ := Aside0.mk (Kd.R_below (by (with_reducible repeat (first | apply Kd.R_alloc | apply Kd.R_drewN | apply Kd.R_drew)); exact HO311.out) hb); have n1_ := Aside0.mk (Kd.R_below (by (with_reducible repeat (first | apply Kd.R_alloc | apply Kd.R_drewN | apply Kd.R_drew)); exact HO314.out) hb); have n2_ := Aside0.mk (below_step (by repeat (first | (with_reducible first | exact HB.out | apply below_alloc | apply pw_below_drewN | apply below_drew1) | exact HB.out)) hb); clear HO311; clear HO314; clear HB; have HO311 := n0_; have HO314 := n1_; have HB := n2_; clear n0_ n1_ n2_; (try clear hb); (try clear hb2); (try clear hk); (try clear hi)) | (go_at_call 24; (with_reducible refine (rel_Compare.calls k (((⟨#[1]⟩ : ByteArray) ++ (strOfNums y309)) ++ (⟨#[0]⟩ : ByteArray)) (((⟨#[1]⟩ : ByteArray) ++ (strOfNums y312)) ++ (⟨#[0]⟩ : ByteArray)) t319 _ A15.out).mono ?_); rintro e w36 ⟨rfl, hb⟩; have n0_ := Aside0.mk (Kd.R_below (by (with_reducible repeat (first | apply Kd.R_alloc | apply Kd.R_drewN | apply Kd.R_drew)); exact HO311.out) hb); have n1_ := Aside0.mk (Kd.R_below (by (with_reducible repeat (first | apply Kd.R_alloc | apply Kd.R_drewN | apply Kd.R_drew)); exact HO314.out) hb); have n2_ := Aside0.mk (below_step (by repeat (first | (with_reducible first | exact HB.out | apply below_alloc | apply pw_below_drewN | apply below_drew1) | exact HB.out)) hb); clear HO311; clear HO314; clear HB; have HO311 := n0_; have HO314 := n1_; have HB := n2_; clear n0_ n1_ n2_; (try clear hb); (try clear hb2); (try clear hk); (try clear hi)) | (go_at_call 24; (with_reducible refine (rel_Compare.calls k (((⟨#[1]⟩ : ByteArray) ++ (strOfNums y309)) ++ (⟨#[0]⟩ : ByteArray)) (((⟨#[1]⟩ : ByteArray) ++ (strOfNums y312)) ++ (⟨#[0]⟩ : ByteArray)) t319 _ A17.out).mono ?_); rintro e w37 ⟨rfl, hb⟩; have n0_ := Aside0.mk (Kd.R_below (by (with_reducible repeat (first | apply Kd.R_alloc | apply Kd.R_drewN | apply Kd.R_drew)); exact HO311.out) hb); have n1_ := Aside0.mk (Kd.R_below (by (with_reducible repeat (first | apply Kd.R_alloc | apply Kd.R_drewN | apply Kd.R_drew)); exact HO314.out) hb); have n2_ := Aside0.mk (below_step (by repeat (first | (with_reducible first | exact HB.out | apply below_alloc | apply pw_below_drewN | apply below_drew1) | exact HB.out)) hb); clear HO311; clear HO314; clear HB; have HO311 := n0_; have HO314 := n1_; have HB := n2_; clear n0_ n1_ n2_; (try clear hb); (try clear hb2); (try clear hk); (try clear hi)) | (go_at_call 29; (with_reducible refine (wimplelaw2_folded.calls ((a0) % 256) t315 _ A18.out).mono ?_); rintro e w' ⟨rfl, ⟨nd, rfl⟩⟩) | (go_at_call 29; (with_reducible refine (wimplelaw2_folded.calls ((a1) % 256) t316 _ A19.out).mono ?_); rintro e w' ⟨rfl, ⟨nd, rfl⟩⟩) | (go_at_call 17; (with_reducible refine (rel_Fold.calls k (((⟨#[1]⟩ : ByteArray) ++ (strOfNums y309)) ++ (⟨#[0]⟩ : ByteArray)) t323 _ A21.out).mono ?_); rintro e w38 ⟨rfl, hb⟩; have n0_ := Aside0.mk (Kd.R_below (by (with_reducible repeat (first | apply Kd.R_alloc | apply Kd.R_drewN | apply Kd.R_drew)); exact HO311.out) hb); have n1_ := Aside0.mk (Kd.R_below (by (with_reducible repeat (first | apply Kd.R_alloc | apply Kd.R_drewN | apply Kd.R_drew)); exact HO314.out) hb); have n2_ := Aside0.mk (below_step (by repeat (first | (with_reducible first | exact HB.out | apply below_alloc | apply pw_below_drewN | apply below_drew1) | exact HB.out)) hb); clear HO311; clear HO314; clear HB; have HO311 := n0_; have HO314 := n1_; have HB := n2_; clear n0_ n1_ n2_; (try clear hb); (try clear hb2); (try clear hk); (try clear hi)) | (go_at_call 29; (with_reducible refine (wimplelaw2_folded.calls ((a0) % 256) t315 _ A22.out).mono ?_); rintro e w' ⟨rfl, ⟨nd, rfl⟩⟩) | ((with_reducible refine gate_dst (N := 68) rfl ?_); (try (refine gate_guard (by rfl) ?_; dsimp only)); refine Kd.R_lit (Kd.int .u8) _ 5 ?hg (N := 68) ?hd (xs := ([t315] : List Int)) (inner := [.int .u8 t315]) (ok := fun _ => True) (okp := fun _ => True) ?hr ?hp (fun _ hk => hk) trivial (Below.refl _ _) (Nat.le_refl _) (by simp) ?_; (case hd => rfl); (case hg => rfl); (case hr => first | (go_simp; done) | (go_simp; rfl)); (case hp => exact (Reps.one (show Kd.M (Kd.int .u8) _ _ _ t315 [.int .u8 t315] from rfl) (Reps.none _ _))); intro v326 w39 ho40 hb hg_ hnew_; clear hg_ hnew_; (first | rw [← Ny325.out] at ho40 | (simp only [Int.reduceToNat] at ho40; rw [← Ny325.out] at ho40)); have n0_ := Aside0.mk (Kd.R_elder' (by (with_reducible repeat (first | apply Kd.R_alloc | apply Kd.R_drewN | apply Kd.R_drew)); exact HO311.out) (Kd.R_base ho40) hb); have n1_ := Aside0.mk (Kd.R_elder' (by (with_reducible repeat (first | apply Kd.R_alloc | apply Kd.R_drewN | apply Kd.R_drew)); exact HO314.out) (Kd.R_base ho40) hb); have n2_ := Aside0.mk (Kd.R_lower (Kd.R_new' (Kd.R_new' ho40 (Kd.R_lt (by (with_reducible repeat (first | apply Kd.R_alloc | apply Kd.R_drewN | apply Kd.R_drew)); exact HO311.out))) (Kd.R_lt (by (with_reducible repeat (first | apply Kd.R_alloc | apply Kd.R_drewN | apply Kd.R_drew)); exact HO314.out))) (below_size (by repeat (first | (with_reducible first | exact HB.out | apply below_alloc | apply pw_below_drewN | apply below_drew1) | exact HB.out)))); have n3_ := Aside0.mk (below_step (by repeat (first | (with_reducible first | exact HB.out | apply below_alloc | apply pw_below_drewN | apply below_drew1) | exact HB.out)) hb); clear HO311; clear HO314; clear HB; have HO311 := n0_; have HO314 := n1_; have HO327 := n2_; have HB := n3_; clear n0_ n1_ n2_ n3_; clear hb ho40; have hcv41 := own_string (P := Try.prog) Try.underlying40 Try.underlying5 Try.underlying9 (Kd.own_of_R HO327.out)))
                        go_ret
                        exact ⟨by first | rfl | (simp [errW_none, errW_some] <;> rfl) | (simp [*, errW_none, errW_some] <;> rfl), by repeat (first | (with_reducible first | exact HB.out | apply below_alloc | apply pw_below_drewN | apply below_drew1) | exact HB.out)⟩
                      · rw [if_neg c24] at H
                        exact absurd H (by simp)
                    · rw [if_neg c23] at H
                      exact absurd H (by simp)
                  · rw [if_neg c20] at H
                    have c20b0 : ((decide (t319 < 0)) == (decide (t315 < t316))) = false := by simpa using c20
                    try have c20i : ¬ ((t319 < 0) ↔ (t315 < t316)) := by simpa using c20b0
                    (try (have c20b1 : decide ((decide (t319 < 0)) = (decide (t315 < t316))) = false := by simpa using c20))
                    (try (have c20b2 : ((decide (t319 < 0)) == (decide (t315 < t316))) = false := by simpa using c20))
                    (try (have c20b3 : ¬ ((decide (t319 < 0)) = (decide (t315 < t316))) := by simpa using c20))
                    clear c20
                    exact absurd H (by simp)
                · rw [if_neg c16] at H
                  have c16b0 : ((t319 == 0) == (t315 == t316)) = false := by simpa using c16
                  try have c16e : (t319 == 0) = !((t315 == t316)) := (by have h_ := c16b0; revert h_; cases (t319 == 0) <;> cases ((t315 == t316)) <;> simp)
                  (try (have c16b1 : decide ((t319 == 0) = (t315 == t316)) = false := by simpa using c16))
                  (try (have c16b2 : ((t319 == 0) == (t315 == t316)) = false := by simpa using c16))
                  (try (have c16b3 : ¬ ((t319 == 0) = (t315 == t316)) := by simpa using c16))
                  clear c16
                  exact absurd H (by simp)
              · rw [if_neg c14] at H
                have c14b0 : (t318 == (t315 == t316)) = false := by simpa using c14
                (try (have c14b1 : decide (t318 = (t315 == t316)) = false := by simpa using c14))
                (try (have c14b2 : (t318 == (t315 == t316)) = false := by simpa using c14))
                (try (have c14b3 : ¬ (t318 = (t315 == t316)) := by simpa using c14))
                clear c14
                exact absurd H (by simp)
            · rw [if_neg c12] at H
              have c12b0 : (t317 == (t315 == t316)) = false := by simpa using c12
              (try (have c12b1 : decide (t317 = (t315 == t316)) = false := by simpa using c12))
              (try (have c12b2 : (t317 == (t315 == t316)) = false := by simpa using c12))
              (try (have c12b3 : ¬ (t317 = (t315 == t316)) := by simpa using c12))
              clear c12
              exact absurd H (by simp)
          · rw [if_neg c8] at H
            exact absurd H (by simp)
        · rw [if_neg c7] at H
          exact absurd H (by simp)
      · rw [if_neg c6] at H
        exact absurd H (by simp)
    · rw [if_neg c5] at H
      exact absurd H (by simp)
  · replace c4 := Bool.eq_false_iff.mpr c4
    subst c4
    have H1 : (none) = some r := by rw [if_neg (show ¬ (false = true) by decide)] at H; exact H
    clear H
    have H := H1
    clear H1
    exact absurd H (by simp)

/-- THE ONE PURE STATEMENT of wimplelaw2_RelCases: yours. -/
def wimplelaw2_RelCases.Pure : Prop := ∀ (a0 : Int) (a1 : Int), (Lit.int .i64 a0).wf = true → (Lit.int .i64 a1).wf = true → ∃ k, wimplelaw2_RelCases.f k a0 a1 = some true
theorem wimplelaw2_RelCases.walk (P : wimplelaw2_RelCases.Pure) (a0 : Int) (a1 : Int) (w : World) (w0 : (Lit.int .i64 a0).wf = true) (w1 : (Lit.int .i64 a1).wf = true) :
    Calls Try.prog 6 #[.int .i64 a0, .int .i64 a1] w fun e w' => e = .returned (.bool true) ∧ Below w.heap.size w w' := by
  obtain ⟨k, h⟩ := P a0 a1 w0 w1
  refine (wimplelaw2_RelCases.calls k a0 a1 true w h).mono ?_
  rintro e w' ⟨rfl, hd⟩
  exact ⟨rfl, hd⟩

end Go.Proofs.Yteodnommecpglaa.P
