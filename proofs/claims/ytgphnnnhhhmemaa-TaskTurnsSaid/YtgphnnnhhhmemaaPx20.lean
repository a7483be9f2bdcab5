-- Written by a program of this session's prover (over the kit's printer, with contracts of the session's own); Lean checks it.
import Derived.Test.YtgphnnnhhhmemaaPx0
import Derived.Test.YtgphnnnhhhmemaaPx1
import Derived.Test.YtgphnnnhhhmemaaPx9
import Derived.Test.YtgphnnnhhhmemaaPx13
import Derived.Test.YtgphnnnhhhmemaaPx17
namespace Go.Proofs.Ytgphnnnhhhmemaa.P
open Go.RowKit Go.Proofs.YtgphnnnhhhmemaaW.PrintWords Go.Proofs.YtgphnnnhhhmemaaW.PrintLast Go.Proofs.YtgphnnnhhhmemaaW.PrintMore
attribute [local go_sem] max2_int min2_int max_two min_two max_three min_three max_four min_four   -- for this text's walks alone
set_option linter.unusedVariables false
set_option linter.unusedSimpArgs false

attribute [local go_sem high] eqA23
/-! ### wimplelaw22_TaskTurns: function 5 -/
def wimplelaw22_TaskTurns.j0 : Nat → Int → Int → Bool → Bool → ByteArray → Int → ByteArray → ByteArray → Int → Bool → Int → Int → ByteArray → Int → ByteArray → Int → ByteArray → ByteArray → Int → Bool → Int → Int → Option (Bool)
 | 0, _, _, _, _, _, _, _, _, _, _, _, _, _, _, _, _, _, _, _, _, _, _ => none
 | k + 1, x2, x8, x10, x11, x339000, x339001, x339002, x339003, x339004, x339005, x339006, x339007, x340000, x340001, x352000, x352001, x352002, x352003, x352004, x352005, x352006, x352007 => if x11 = true then (if x10 = true then ((wimpleref1_Fold.f k x340000).bind fun t353 => (if x339005 = true then (if (x352005 == true) = true then (if x352003.toList = t353.toList then (if x352004 = (wrap64 (x339004 + 1)) then (if x352000.toList = x339000.toList then (if x352001 = x339001 then (if x352002.toList = x339002.toList then (if x352006 = x339006 then (if x352007 = x339007 then (if ((x8 == 0) == true) = true then (some ((x8 == 2) == (x2 == 0))) else (none)) else (none)) else (none)) else (none)) else (none)) else (none)) else (none)) else (none)) else (none)) else (if (x352005 == (x2 == 2)) = true then (if x352003.toList = t353.toList then (if x352004 = (wrap64 (x339004 + 1)) then (if x352000.toList = x339000.toList then (if x352001 = x339001 then (if x352002.toList = x339002.toList then (if x352006 = x339006 then (if x352007 = x339007 then (if ((x8 == 0) == true) = true then (some ((x8 == 2) == (x2 == 0))) else (none)) else (none)) else (none)) else (none)) else (none)) else (none)) else (none)) else (none)) else (none)))) else (if x339005 = true then (if (x352005 == true) = true then (if x352003.toList = x339003.toList then (if x352004 = (wrap64 (x339004 + 1)) then (if x352000.toList = x339000.toList then (if x352001 = x339001 then (if x352002.toList = x339002.toList then (if x352006 = x339006 then (if x352007 = x339007 then (if ((x8 == 0) == true) = true then (some ((x8 == 2) == (x2 == 0))) else (none)) else (none)) else (none)) else (none)) else (none)) else (none)) else (none)) else (none)) else (none)) else (if (x352005 == (x2 == 2)) = true then (if x352003.toList = x339003.toList then (if x352004 = (wrap64 (x339004 + 1)) then (if x352000.toList = x339000.toList then (if x352001 = x339001 then (if x352002.toList = x339002.toList then (if x352006 = x339006 then (if x352007 = x339007 then (if ((x8 == 0) == true) = true then (some ((x8 == 2) == (x2 == 0))) else (none)) else (none)) else (none)) else (none)) else (none)) else (none)) else (none)) else (none)) else (none)))) else (if x10 = true then ((wimpleref1_Fold.f k x340000).bind fun t354 => (if x339005 = true then (if (x352005 == true) = true then (if x352003.toList = t354.toList then (if x352004 = x339004 then (if x352000.toList = x339000.toList then (if x352001 = x339001 then (if x352002.toList = x339002.toList then (if x352006 = x339006 then (if x352007 = x339007 then (if ((x8 == 0) == (x2 == 2)) = true then (some ((x8 == 2) == (x2 == 0))) else (none)) else (none)) else (none)) else (none)) else (none)) else (none)) else (none)) else (none)) else (none)) else (if (x352005 == (x2 == 2)) = true then (if x352003.toList = t354.toList then (if x352004 = x339004 then (if x352000.toList = x339000.toList then (if x352001 = x339001 then (if x352002.toList = x339002.toList then (if x352006 = x339006 then (if x352007 = x339007 then (if ((x8 == 0) == (x2 == 2)) = true then (some ((x8 == 2) == (x2 == 0))) else (none)) else (none)) else (none)) else (none)) else (none)) else (none)) else (none)) else (none)) else (none)))) else (if x339005 = true then (if (x352005 == true) = true then (if x352003.toList = x339003.toList then (if x352004 = x339004 then (if x352000.toList = x339000.toList then (if x352001 = x339001 then (if x352002.toList = x339002.toList then (if x352006 = x339006 then (if x352007 = x339007 then (if ((x8 == 0) == (x2 == 2)) = true then (some ((x8 == 2) == (x2 == 0))) else (none)) else (none)) else (none)) else (none)) else (none)) else (none)) else (none)) else (none)) else (none)) else (if (x352005 == (x2 == 2)) = true then (if x352003.toList = x339003.toList then (if x352004 = x339004 then (if x352000.toList = x339000.toList then (if x352001 = x339001 then (if x352002.toList = x339002.toList then (if x352006 = x339006 then (if x352007 = x339007 then (if ((x8 == 0) == (x2 == 2)) = true then (some ((x8 == 2) == (x2 == 0))) else (none)) else (none)) else (none)) else (none)) else (none)) else (none)) else (none)) else (none)) else (none))))
def wimplelaw22_TaskTurns.f (k : Nat) (a0_0 : ByteArray) (a0_1 : Int) (a0_2 : ByteArray) (a0_3 : ByteArray) (a0_4 : Int) (a0_5 : Bool) (a0_6 : Int) (a0_7 : Int) (a1_0 : ByteArray) (a1_1 : Int) (a2 : Int) : Option (Bool) := (wimplelaw22_awake.f k).bind fun t340 => (if t340 = true then ((task_Take.f k a0_0 a0_1 a0_2 a0_3 a0_4 a0_5 a0_6 a0_7 a1_0 a1_1 a2).bind fun bt341 => ((wimplelaw0_Num.f bt341.2.2.2.2.2.2.2.2.2).bind fun t352 => (if t352 = 0 then (if a2 = 3 then (wimplelaw22_TaskTurns.j0 k a2 bt341.2.2.2.2.2.2.2.2.1 (a2 == 3) true a0_0 a0_1 a0_2 a0_3 a0_4 a0_5 a0_6 a0_7 a1_0 a1_1 bt341.1 bt341.2.1 bt341.2.2.1 bt341.2.2.2.1 bt341.2.2.2.2.1 bt341.2.2.2.2.2.1 bt341.2.2.2.2.2.2.1 bt341.2.2.2.2.2.2.2.1) else (wimplelaw22_TaskTurns.j0 k a2 bt341.2.2.2.2.2.2.2.2.1 (a2 == 3) (a2 == 1) a0_0 a0_1 a0_2 a0_3 a0_4 a0_5 a0_6 a0_7 a1_0 a1_1 bt341.1 bt341.2.1 bt341.2.2.1 bt341.2.2.2.1 bt341.2.2.2.2.1 bt341.2.2.2.2.2.1 bt341.2.2.2.2.2.2.1 bt341.2.2.2.2.2.2.2.1)) else (if a2 < 0 then (some (bt341.1.toList == ([] : List UInt8) && (bt341.2.1 == 0 && (bt341.2.2.1.toList == ([] : List UInt8) && (bt341.2.2.2.1.toList == ([] : List UInt8) && (bt341.2.2.2.2.1 == 0 && (!bt341.2.2.2.2.2.1 && (bt341.2.2.2.2.2.2.1 == 0 && (bt341.2.2.2.2.2.2.2.1 == 0))))))))) else (if a2 > 7 then (some (bt341.1.toList == ([] : List UInt8) && (bt341.2.1 == 0 && (bt341.2.2.1.toList == ([] : List UInt8) && (bt341.2.2.2.1.toList == ([] : List UInt8) && (bt341.2.2.2.2.1 == 0 && (!bt341.2.2.2.2.2.1 && (bt341.2.2.2.2.2.2.1 == 0 && (bt341.2.2.2.2.2.2.2.1 == 0))))))))) else (none)))))) else (none))
theorem wimplelaw22_TaskTurns.mono_l : ∀ k, (∀ y0 y1 y2 y3 y4 y5 y6 y7 y8 y9 y10 y11 y12 y13 y14 y15 y16 y17 y18 y19 y20 y21, LeO (wimplelaw22_TaskTurns.j0 k y0 y1 y2 y3 y4 y5 y6 y7 y8 y9 y10 y11 y12 y13 y14 y15 y16 y17 y18 y19 y20 y21) (wimplelaw22_TaskTurns.j0 (k + 1) y0 y1 y2 y3 y4 y5 y6 y7 y8 y9 y10 y11 y12 y13 y14 y15 y16 y17 y18 y19 y20 y21))
 | 0 => fun _ _ _ _ _ _ _ _ _ _ _ _ _ _ _ _ _ _ _ _ _ _ r h => by simp [wimplelaw22_TaskTurns.j0] at h
 | k + 1 => by
  have ih0 := wimplelaw22_TaskTurns.mono_l k
  ·intro y0 y1 y2 y3 y4 y5 y6 y7 y8 y9 y10 y11 y12 y13 y14 y15 y16 y17 y18 y19 y20 y21
   unfold wimplelaw22_TaskTurns.j0
   repeat' first
   | (with_reducible exact ih0 _ _ _ _ _ _ _ _ _ _ _ _ _ _ _ _ _ _ _ _ _ _)
   | (with_reducible exact task_Take.mono _ _ _ _ _ _ _ _ _ _ _ _)
   | (with_reducible exact wimplelaw22_awake.mono _)
   | (with_reducible exact wimpleref1_Fold.mono _ _)
   | (with_reducible exact LeO.refl _)
   | (with_reducible exact LeO.none _)
   | (with_reducible refine LeO.ite ?_ ?_)
   | (with_reducible refine LeO.bind ?_ (fun _ => ?_))
   | exact ih0 _ _ _ _ _ _ _ _ _ _ _ _ _ _ _ _ _ _ _ _ _ _
   | exact task_Take.mono _ _ _ _ _ _ _ _ _ _ _ _
   | exact wimplelaw22_awake.mono _
   | exact wimpleref1_Fold.mono _ _
   | exact LeO.none _
   | refine LeO.ite ?_ ?_
   | refine LeO.bind ?_ (fun _ => ?_)
theorem wimplelaw22_TaskTurns.mono : ∀ a0 a1 a2 a3 a4 a5 a6 a7 a8 a9 a10 k, LeO (wimplelaw22_TaskTurns.f k a0 a1 a2 a3 a4 a5 a6 a7 a8 a9 a10) (wimplelaw22_TaskTurns.f (k + 1) a0 a1 a2 a3 a4 a5 a6 a7 a8 a9 a10) := by
 intro a0 a1 a2 a3 a4 a5 a6 a7 a8 a9 a10 k
 have ih0 := wimplelaw22_TaskTurns.mono_l k
 unfold wimplelaw22_TaskTurns.f
 repeat' first
   | (with_reducible exact ih0 _ _ _ _ _ _ _ _ _ _ _ _ _ _ _ _ _ _ _ _ _ _)
   | (with_reducible exact task_Take.mono _ _ _ _ _ _ _ _ _ _ _ _)
   | (with_reducible exact wimplelaw22_awake.mono _)
   | (with_reducible exact wimpleref1_Fold.mono _ _)
   | (with_reducible exact LeO.refl _)
   | (with_reducible exact LeO.none _)
   | (with_reducible refine LeO.ite ?_ ?_)
   | (with_reducible refine LeO.bind ?_ (fun _ => ?_))
   | exact ih0 _ _ _ _ _ _ _ _ _ _ _ _ _ _ _ _ _ _ _ _ _ _
   | exact task_Take.mono _ _ _ _ _ _ _ _ _ _ _ _
   | exact wimplelaw22_awake.mono _
   | exact wimpleref1_Fold.mono _ _
   | exact LeO.none _
   | refine LeO.ite ?_ ?_
   | refine LeO.bind ?_ (fun _ => ?_)
set_option maxHeartbeats 8000000 in
set_option maxRecDepth 100000 in
theorem wimplelaw22_TaskTurns.calls (k : Nat) (a0_0 : ByteArray) (a0_1 : Int) (a0_2 : ByteArray) (a0_3 : ByteArray) (a0_4 : Int) (a0_5 : Bool) (a0_6 : Int) (a0_7 : Int) (a1_0 : ByteArray) (a1_1 : Int) (a2 : Int) (r : Bool) (w : World) (h : wimplelaw22_TaskTurns.f k a0_0 a0_1 a0_2 a0_3 a0_4 a0_5 a0_6 a0_7 a1_0 a1_1 a2 = some r) :
  Calls Try.prog 5 #[.agg #[.string a0_0, .int .i64 a0_1, .string a0_2, .string a0_3, .int .i64 a0_4, .bool a0_5, .int .i64 a0_6, .int .i64 a0_7], .agg #[.string a1_0, .int .i64 a1_1], .int .i64 a2] w fun e w' => e = .returned (.bool r) ∧ Below w.heap.size w w' := by
 have hu23 := Try.underlying23
 have hu25 := Try.underlying25
 have HB := Aside0.mk (Below.refl w.heap.size w)
 have H : ((wimplelaw22_awake.f k).bind fun t340 => (if t340 = true then ((task_Take.f k a0_0 a0_1 a0_2 a0_3 a0_4 a0_5 a0_6 a0_7 a1_0 a1_1 a2).bind fun bt341 => ((wimplelaw0_Num.f bt341.2.2.2.2.2.2.2.2.2).bind fun t352 => (if t352 = 0 then (if a2 = 3 then (wimplelaw22_TaskTurns.j0 k a2 bt341.2.2.2.2.2.2.2.2.1 (a2 == 3) true a0_0 a0_1 a0_2 a0_3 a0_4 a0_5 a0_6 a0_7 a1_0 a1_1 bt341.1 bt341.2.1 bt341.2.2.1 bt341.2.2.2.1 bt341.2.2.2.2.1 bt341.2.2.2.2.2.1 bt341.2.2.2.2.2.2.1 bt341.2.2.2.2.2.2.2.1) else (wimplelaw22_TaskTurns.j0 k a2 bt341.2.2.2.2.2.2.2.2.1 (a2 == 3) (a2 == 1) a0_0 a0_1 a0_2 a0_3 a0_4 a0_5 a0_6 a0_7 a1_0 a1_1 bt341.1 bt341.2.1 bt341.2.2.1 bt341.2.2.2.1 bt341.2.2.2.2.1 bt341.2.2.2.2.2.1 bt341.2.2.2.2.2.2.1 bt341.2.2.2.2.2.2.2.1)) else (if a2 < 0 then (some (bt341.1.toList == ([] : List UInt8) && (bt341.2.1 == 0 && (bt341.2.2.1.toList == ([] : List UInt8) && (bt341.2.2.2.1.toList == ([] : List UInt8) && (bt341.2.2.2.2.1 == 0 && (!bt341.2.2.2.2.2.1 && (bt341.2.2.2.2.2.2.1 == 0 && (bt341.2.2.2.2.2.2.2.1 == 0))))))))) else (if a2 > 7 then (some (bt341.1.toList == ([] : List UInt8) && (bt341.2.1 == 0 && (bt341.2.2.1.toList == ([] : List UInt8) && (bt341.2.2.2.1.toList == ([] : List UInt8) && (bt341.2.2.2.2.1 == 0 && (!bt341.2.2.2.2.2.1 && (bt341.2.2.2.2.2.2.1 == 0 && (bt341.2.2.2.2.2.2.2.1 == 0))))))))) else (none)))))) else (none))) = some r := h
 clear h
 replace H := Option.bind_eq_some_iff.mp H
 obtain ⟨t340, A40, H⟩ := H
 replace H : (if t340 = true then ((task_Take.f k a0_0 a0_1 a0_2 a0_3 a0_4 a0_5 a0_6 a0_7 a1_0 a1_1 a2).bind fun bt341 => ((wimplelaw0_Num.f bt341.2.2.2.2.2.2.2.2.2).bind fun t352 => (if t352 = 0 then (if a2 = 3 then (wimplelaw22_TaskTurns.j0 k a2 bt341.2.2.2.2.2.2.2.2.1 (a2 == 3) true a0_0 a0_1 a0_2 a0_3 a0_4 a0_5 a0_6 a0_7 a1_0 a1_1 bt341.1 bt341.2.1 bt341.2.2.1 bt341.2.2.2.1 bt341.2.2.2.2.1 bt341.2.2.2.2.2.1 bt341.2.2.2.2.2.2.1 bt341.2.2.2.2.2.2.2.1) else (wimplelaw22_TaskTurns.j0 k a2 bt341.2.2.2.2.2.2.2.2.1 (a2 == 3) (a2 == 1) a0_0 a0_1 a0_2 a0_3 a0_4 a0_5 a0_6 a0_7 a1_0 a1_1 bt341.1 bt341.2.1 bt341.2.2.1 bt341.2.2.2.1 bt341.2.2.2.2.1 bt341.2.2.2.2.2.1 bt341.2.2.2.2.2.2.1 bt341.2.2.2.2.2.2.2.1)) else (if a2 < 0 then (some (bt341.1.toList == ([] : List UInt8) && (bt341.2.1 == 0 && (bt341.2.2.1.toList == ([] : List UInt8) && (bt341.2.2.2.1.toList == ([] : List UInt8) && (bt341.2.2.2.2.1 == 0 && (!bt341.2.2.2.2.2.1 && (bt341.2.2.2.2.2.2.1 == 0 && (bt341.2.2.2.2.2.2.2.1 == 0))))))))) else (if a2 > 7 then (some (bt341.1.toList == ([] : List UInt8) && (bt341.2.1 == 0 && (bt341.2.2.1.toList == ([] : List UInt8) && (bt341.2.2.2.1.toList == ([] : List UInt8) && (bt341.2.2.2.2.1 == 0 && (!bt341.2.2.2.2.2.1 && (bt341.2.2.2.2.2.2.1 == 0 && (bt341.2.2.2.2.2.2.2.1 == 0))))))))) else (none)))))) else (none)) = some r := H
 have A4 := Aside0.mk A40
 clear A40
 by_cases c5 : t340 = true
 ·subst c5
  have H1 : ((task_Take.f k a0_0 a0_1 a0_2 a0_3 a0_4 a0_5 a0_6 a0_7 a1_0 a1_1 a2).bind fun bt341 => ((wimplelaw0_Num.f bt341.2.2.2.2.2.2.2.2.2).bind fun t352 => (if t352 = 0 then (if a2 = 3 then (wimplelaw22_TaskTurns.j0 k a2 bt341.2.2.2.2.2.2.2.2.1 (a2 == 3) true a0_0 a0_1 a0_2 a0_3 a0_4 a0_5 a0_6 a0_7 a1_0 a1_1 bt341.1 bt341.2.1 bt341.2.2.1 bt341.2.2.2.1 bt341.2.2.2.2.1 bt341.2.2.2.2.2.1 bt341.2.2.2.2.2.2.1 bt341.2.2.2.2.2.2.2.1) else (wimplelaw22_TaskTurns.j0 k a2 bt341.2.2.2.2.2.2.2.2.1 (a2 == 3) (a2 == 1) a0_0 a0_1 a0_2 a0_3 a0_4 a0_5 a0_6 a0_7 a1_0 a1_1 bt341.1 bt341.2.1 bt341.2.2.1 bt341.2.2.2.1 bt341.2.2.2.2.1 bt341.2.2.2.2.2.1 bt341.2.2.2.2.2.2.1 bt341.2.2.2.2.2.2.2.1)) else (if a2 < 0 then (some (bt341.1.toList == ([] : List UInt8) && (bt341.2.1 == 0 && (bt341.2.2.1.toList == ([] : List UInt8) && (bt341.2.2.2.1.toList == ([] : List UInt8) && (bt341.2.2.2.2.1 == 0 && (!bt341.2.2.2.2.2.1 && (bt341.2.2.2.2.2.2.1 == 0 && (bt341.2.2.2.2.2.2.2.1 == 0))))))))) else (if a2 > 7 then (some (bt341.1.toList == ([] : List UInt8) && (bt341.2.1 == 0 && (bt341.2.2.1.toList == ([] : List UInt8) && (bt341.2.2.2.1.toList == ([] : List UInt8) && (bt341.2.2.2.2.1 == 0 && (!bt341.2.2.2.2.2.1 && (bt341.2.2.2.2.2.2.1 == 0 && (bt341.2.2.2.2.2.2.2.1 == 0))))))))) else (none)))))) = some r := by rw [if_pos rfl] at H; exact H
  clear H
  have H := H1
  clear H1
  replace H := Option.bind_eq_some_iff.mp H
  obtain ⟨⟨t341, t342, t343, t344, t345, t346, t347, t348, t349, t350⟩, A60, H⟩ := H
  replace H : ((wimplelaw0_Num.f t350).bind fun t352 => (if t352 = 0 then (if a2 = 3 then (wimplelaw22_TaskTurns.j0 k a2 t349 (a2 == 3) true a0_0 a0_1 a0_2 a0_3 a0_4 a0_5 a0_6 a0_7 a1_0 a1_1 t341 t342 t343 t344 t345 t346 t347 t348) else (wimplelaw22_TaskTurns.j0 k a2 t349 (a2 == 3) (a2 == 1) a0_0 a0_1 a0_2 a0_3 a0_4 a0_5 a0_6 a0_7 a1_0 a1_1 t341 t342 t343 t344 t345 t346 t347 t348)) else (if a2 < 0 then (some (t341.toList == ([] : List UInt8) && (t342 == 0 && (t343.toList == ([] : List UInt8) && (t344.toList == ([] : List UInt8) && (t345 == 0 && (!t346 && (t347 == 0 && (t348 == 0))))))))) else (if a2 > 7 then (some (t341.toList == ([] : List UInt8) && (t342 == 0 && (t343.toList == ([] : List UInt8) && (t344.toList == ([] : List UInt8) && (t345 == 0 && (!t346 && (t347 == 0 && (t348 == 0))))))))) else (none))))) = some r := H
  have A6 := Aside0.mk A60
  clear A60
  replace H := Option.bind_eq_some_iff.mp H
  obtain ⟨t352, A70, H⟩ := H
  replace H : (if t352 = 0 then (if a2 = 3 then (wimplelaw22_TaskTurns.j0 k a2 t349 (a2 == 3) true a0_0 a0_1 a0_2 a0_3 a0_4 a0_5 a0_6 a0_7 a1_0 a1_1 t341 t342 t343 t344 t345 t346 t347 t348) else (wimplelaw22_TaskTurns.j0 k a2 t349 (a2 == 3) (a2 == 1) a0_0 a0_1 a0_2 a0_3 a0_4 a0_5 a0_6 a0_7 a1_0 a1_1 t341 t342 t343 t344 t345 t346 t347 t348)) else (if a2 < 0 then (some (t341.toList == ([] : List UInt8) && (t342 == 0 && (t343.toList == ([] : List UInt8) && (t344.toList == ([] : List UInt8) && (t345 == 0 && (!t346 && (t347 == 0 && (t348 == 0))))))))) else (if a2 > 7 then (some (t341.toList == ([] : List UInt8) && (t342 == 0 && (t343.toList == ([] : List UInt8) && (t344.toList == ([] : List UInt8) && (t345 == 0 && (!t346 && (t347 == 0 && (t348 == 0))))))))) else (none)))) = some r := H
  have A7 := Aside0.mk A70
  clear A70
  by_cases c8 : t352 = 0
  ·rw [if_pos c8] at H
   have c8b0 : (t352 == 0) = true := beq_iff_eq.mpr c8
   have c8b1 : (t352 != 0) = false := bne_eq_false_iff_eq.mpr c8
   clear c8
   have HC9 := Aside0.mk H
   clear H
   go_enter Try.func5, Try.ntmps5
   try simp only [List.append_eq, List.cons_append, List.nil_append]
   go_upto_region 7 with (first | ((with_reducible refine gate_dst (N := 3) rfl ?_); refine box_event ?hg (N := 3) ?hd (cs := #[.string a0_0, .int .i64 a0_1, .string a0_2, .string a0_3, .int .i64 a0_4, .bool a0_5, .int .i64 a0_6, .int .i64 a0_7]) (t := 23) ?hr ?_; (case hd => rfl); (case hg => rfl); (case hr => first | (go_simp; done) | (go_simp; rfl)); intro gb338 hg w10 hbox hb; have n0_ := Aside0.mk (below_step (by repeat (first | (with_reducible first | exact HB.out | apply below_alloc | apply pw_below_drewN | apply below_drew1) | exact HB.out)) hb); have n1_ := Aside0.mk (hbox); have n2_ := Aside0.mk ((by rw [hg]; exact (below_size (by repeat (first | (with_reducible first | exact HB.out | apply below_alloc | apply pw_below_drewN | apply below_drew1) | exact HB.out))) : w.heap.size ≤ gb338)); have n3_ := Aside0.mk ((by rw [hg]; exact (below_size (by repeat (first | (with_reducible first | exact HB.out | apply below_alloc | apply pw_below_drewN | apply below_drew1) | exact HB.out))) : w.heap.size ≤ gb338)); clear HB; have HB := n0_; have BK338 := n1_; have GW338 := n2_; have GE338 := n3_; clear n0_ n1_ n2_ n3_; clear hb hbox hg) | ((with_reducible refine gate_dst (N := 4) rfl ?_); refine box_event ?hg (N := 4) ?hd (cs := #[.string a1_0, .int .i64 a1_1]) (t := 25) ?hr ?_; (case hd => rfl); (case hg => rfl); (case hr => first | (go_simp; done) | (go_simp; rfl)); intro gb339 hg w11 hbox hb; have n0_ := Aside0.mk (blk_below (g := gb338) (o := .cells #[.string a0_0, .int .i64 a0_1, .string a0_2, .string a0_3, .int .i64 a0_4, .bool a0_5, .int .i64 a0_6, .int .i64 a0_7] 23 (0, 0)) (by (with_reducible repeat (first | refine blk_drewN ?_ _ | refine blk_drew ?_ | refine blk_alloc ?_ _)); exact BK338.out) hb); have n1_ := Aside0.mk (below_step (by repeat (first | (with_reducible first | exact HB.out | apply below_alloc | apply pw_below_drewN | apply below_drew1 | refine below_set ?_ GE338.out) | exact HB.out)) hb); have n2_ := Aside0.mk (hbox); have n3_ := Aside0.mk ((by rw [hg]; exact (below_size (by repeat (first | (with_reducible first | exact HB.out | apply below_alloc | apply pw_below_drewN | apply below_drew1 | refine below_set ?_ GE338.out) | exact HB.out))) : w.heap.size ≤ gb339)); have n4_ := Aside0.mk ((by rw [hg]; exact (below_size (by repeat (first | (with_reducible first | exact HB.out | apply below_alloc | apply pw_below_drewN | apply below_drew1 | refine below_set ?_ GE338.out) | exact HB.out))) : w.heap.size ≤ gb339)); have n5_ := Aside0.mk ((by rw [hg]; exact Nat.ne_of_lt (blk_lt (g := gb338) (o := .cells #[.string a0_0, .int .i64 a0_1, .string a0_2, .string a0_3, .int .i64 a0_4, .bool a0_5, .int .i64 a0_6, .int .i64 a0_7] 23 (0, 0)) (by (with_reducible repeat (first | refine blk_drewN ?_ _ | refine blk_drew ?_ | refine blk_alloc ?_ _)); exact BK338.out)) : gb338 ≠ gb339)); have n6_ := Aside0.mk ((by rw [hg]; exact Nat.ne_of_gt (blk_lt (g := gb338) (o := .cells #[.string a0_0, .int .i64 a0_1, .string a0_2, .string a0_3, .int .i64 a0_4, .bool a0_5, .int .i64 a0_6, .int .i64 a0_7] 23 (0, 0)) (by (with_reducible repeat (first | refine blk_drewN ?_ _ | refine blk_drew ?_ | refine blk_alloc ?_ _)); exact BK338.out)) : gb339 ≠ gb338)); clear BK338; clear HB; have BK338 := n0_; have HB := n1_; have BK339 := n2_; have GW339 := n3_; have GE339 := n4_; have NB338_339 := n5_; have NB339_338 := n6_; clear n0_ n1_ n2_ n3_ n4_ n5_ n6_; clear hb hbox hg) | ((with_reducible refine gate_callee (f := 16) rfl ?_); refine goesL_ (some 15) rfl rfl Try.func16 (by kernel_rfl) rfl #[] rfl (by (try simp only [List.map_toArray, List.map_cons, List.map_nil]); first | done | rfl | (simp only [List.length_drop, List.length_take]; rfl)) ?_; (with_reducible refine (wimplelaw22_awake.calls k  true _ A4.out).mono ?_); rintro e w12 ⟨rfl, hb⟩; refine ⟨_, rfl, ?_⟩; have n0_ := Aside0.mk (blk_below (g := gb338) (o := .cells #[.string a0_0, .int .i64 a0_1, .string a0_2, .string a0_3, .int .i64 a0_4, .bool a0_5, .int .i64 a0_6, .int .i64 a0_7] 23 (0, 0)) (by (with_reducible repeat (first | refine blk_drewN ?_ _ | refine blk_drew ?_ | refine blk_alloc ?_ _)); exact BK338.out) hb); have n1_ := Aside0.mk (blk_below (g := gb339) (o := .cells #[.string a1_0, .int .i64 a1_1] 25 (0, 0)) (by (with_reducible repeat (first | refine blk_drewN ?_ _ | refine blk_drew ?_ | refine blk_alloc ?_ _)); exact BK339.out) hb); have n2_ := Aside0.mk (below_step (by repeat (first | (with_reducible first | exact HB.out | apply below_alloc | apply pw_below_drewN | apply below_drew1 | refine below_set ?_ GE338.out | refine below_set ?_ GE339.out) | exact HB.out)) hb); clear BK338; clear BK339; clear HB; have BK338 := n0_; have BK339 := n1_; have HB := n2_; clear n0_ n1_ n2_; (try clear hb); (try clear hb2); (try clear hk); (try clear hi); have hnb13 := NB338_339.out; have hnc13 := NB339_338.out; have hcz14_0 : w12.cell? ⟨gb338, 0, none⟩ = some (.string a0_0) := (blk_cell BK338.out 0).trans rfl; have hcz14_1 : w12.cell? ⟨gb338, 1, none⟩ = some (.int .i64 a0_1) := (blk_cell BK338.out 1).trans rfl; have hcz14_2 : w12.cell? ⟨gb338, 2, none⟩ = some (.string a0_2) := (blk_cell BK338.out 2).trans rfl; have hcz14_3 : w12.cell? ⟨gb338, 3, none⟩ = some (.string a0_3) := (blk_cell BK338.out 3).trans rfl; have hcz14_4 : w12.cell? ⟨gb338, 4, none⟩ = some (.int .i64 a0_4) := (blk_cell BK338.out 4).trans rfl; have hcz14_5 : w12.cell? ⟨gb338, 5, none⟩ = some (.bool a0_5) := (blk_cell BK338.out 5).trans rfl; have hcz14_6 : w12.cell? ⟨gb338, 6, none⟩ = some (.int .i64 a0_6) := (blk_cell BK338.out 6).trans rfl; have hcz14_7 : w12.cell? ⟨gb338, 7, none⟩ = some (.int .i64 a0_7) := (blk_cell BK338.out 7).trans rfl; have hfz14_0 := blk_frozen BK338.out 0; have hfz14_1 := blk_frozen BK338.out 1; have hfz14_2 := blk_frozen BK338.out 2; have hfz14_3 := blk_frozen BK338.out 3; have hfz14_4 := blk_frozen BK338.out 4; have hfz14_5 := blk_frozen BK338.out 5; have hfz14_6 := blk_frozen BK338.out 6; have hfz14_7 := blk_frozen BK338.out 7; have hcz15_0 : w12.cell? ⟨gb339, 0, none⟩ = some (.string a1_0) := (blk_cell BK339.out 0).trans rfl; have hcz15_1 : w12.cell? ⟨gb339, 1, none⟩ = some (.int .i64 a1_1) := (blk_cell BK339.out 1).trans rfl; have hfz15_0 := blk_frozen BK339.out 0; have hfz15_1 := blk_frozen BK339.out 1) | ((with_reducible refine gate_callee (f := 11) rfl ?_); refine goesL_ (some 21) rfl rfl Try.func11 (by kernel_rfl) rfl #[.agg #[.string a0_0, .int .i64 a0_1, .string a0_2, .string a0_3, .int .i64 a0_4, .bool a0_5, .int .i64 a0_6, .int .i64 a0_7], .agg #[.string a1_0, .int .i64 a1_1], .int .i64 a2] rfl (by (try simp only [List.map_toArray, List.map_cons, List.map_nil]); first | done | rfl | (simp only [List.length_drop, List.length_take]; rfl)) ?_; (with_reducible refine (task_Take.calls k a0_0 a0_1 a0_2 a0_3 a0_4 a0_5 a0_6 a0_7 a1_0 a1_1 a2 t341 t342 t343 t344 t345 t346 t347 t348 t349 t350 _ A6.out).mono ?_); rintro e w16 ⟨rfl, hb⟩; refine ⟨_, rfl, ?_⟩; have n0_ := Aside0.mk (blk_below (g := gb338) (o := .cells #[.string a0_0, .int .i64 a0_1, .string a0_2, .string a0_3, .int .i64 a0_4, .bool a0_5, .int .i64 a0_6, .int .i64 a0_7] 23 (0, 0)) (by (with_reducible repeat (first | refine blk_drewN ?_ _ | refine blk_drew ?_ | refine blk_alloc ?_ _)); exact BK338.out) hb); have n1_ := Aside0.mk (blk_below (g := gb339) (o := .cells #[.string a1_0, .int .i64 a1_1] 25 (0, 0)) (by (with_reducible repeat (first | refine blk_drewN ?_ _ | refine blk_drew ?_ | refine blk_alloc ?_ _)); exact BK339.out) hb); have n2_ := Aside0.mk (below_step (by repeat (first | (with_reducible first | exact HB.out | apply below_alloc | apply pw_below_drewN | apply below_drew1 | refine below_set ?_ GE338.out | refine below_set ?_ GE339.out) | exact HB.out)) hb); clear BK338; clear BK339; clear HB; have BK338 := n0_; have BK339 := n1_; have HB := n2_; clear n0_ n1_ n2_; (try clear hb); (try clear hb2); (try clear hk); (try clear hi)) | ((with_reducible refine gate_dst (N := 7) rfl ?_); refine box_event ?hg (N := 7) ?hd (cs := #[.string (⟨#[]⟩ : ByteArray), .int .i64 0, .string (⟨#[]⟩ : ByteArray), .string (⟨#[]⟩ : ByteArray), .int .i64 0, .bool false, .int .i64 0, .int .i64 0]) (t := 23) ?hr ?_; (case hd => rfl); (case hg => rfl); (case hr => first | (go_simp; done) | (go_simp; rfl)); intro gb351 hg w17 hbox hb; have n0_ := Aside0.mk (blk_below (g := gb338) (o := .cells #[.string a0_0, .int .i64 a0_1, .string a0_2, .string a0_3, .int .i64 a0_4, .bool a0_5, .int .i64 a0_6, .int .i64 a0_7] 23 (0, 0)) (by (with_reducible repeat (first | refine blk_drewN ?_ _ | refine blk_drew ?_ | refine blk_alloc ?_ _)); exact BK338.out) hb); have n1_ := Aside0.mk (blk_below (g := gb339) (o := .cells #[.string a1_0, .int .i64 a1_1] 25 (0, 0)) (by (with_reducible repeat (first | refine blk_drewN ?_ _ | refine blk_drew ?_ | refine blk_alloc ?_ _)); exact BK339.out) hb); have n2_ := Aside0.mk (below_step (by repeat (first | (with_reducible first | exact HB.out | apply below_alloc | apply pw_below_drewN | apply below_drew1 | refine below_set ?_ GE338.out | refine below_set ?_ GE339.out) | exact HB.out)) hb); have n3_ := Aside0.mk (hbox); have n4_ := Aside0.mk ((by rw [hg]; exact (below_size (by repeat (first | (with_reducible first | exact HB.out | apply below_alloc | apply pw_below_drewN | apply below_drew1 | refine below_set ?_ GE338.out | refine below_set ?_ GE339.out) | exact HB.out))) : w.heap.size ≤ gb351)); have n5_ := Aside0.mk ((by rw [hg]; exact (below_size (by repeat (first | (with_reducible first | exact HB.out | apply below_alloc | apply pw_below_drewN | apply below_drew1 | refine below_set ?_ GE338.out | refine below_set ?_ GE339.out) | exact HB.out))) : w.heap.size ≤ gb351)); have n6_ := Aside0.mk ((by rw [hg]; exact Nat.ne_of_lt (blk_lt (g := gb338) (o := .cells #[.string a0_0, .int .i64 a0_1, .string a0_2, .string a0_3, .int .i64 a0_4, .bool a0_5, .int .i64 a0_6, .int .i64 a0_7] 23 (0, 0)) (by (with_reducible repeat (first | refine blk_drewN ?_ _ | refine blk_drew ?_ | refine blk_alloc ?_ _)); exact BK338.out)) : gb338 ≠ gb351)); have n7_ := Aside0.mk ((by rw [hg]; exact Nat.ne_of_gt (blk_lt (g := gb338) (o := .cells #[.string a0_0, .int .i64 a0_1, .string a0_2, .string a0_3, .int .i64 a0_4, .bool a0_5, .int .i64 a0_6, .int .i64 a0_7] 23 (0, 0)) (by (with_reducible repeat (first | refine blk_drewN ?_ _ | refine blk_drew ?_ | refine blk_alloc ?_ _)); exact BK338.out)) : gb351 ≠ gb338)); have n8_ := Aside0.mk ((by rw [hg]; exact Nat.ne_of_lt (blk_lt (g := gb339) (o := .cells #[.string a1_0, .int .i64 a1_1] 25 (0, 0)) (by (with_reducible repeat (first | refine blk_drewN ?_ _ | refine blk_drew ?_ | refine blk_alloc ?_ _)); exact BK339.out)) : gb339 ≠ gb351)); have n9_ := Aside0.mk ((by rw [hg]; exact Nat.ne_of_gt (blk_lt (g := gb339) (o := .cells #[.string a1_0, .int .i64 a1_1] 25 (0, 0)) (by (with_reducible repeat (first | refine blk_drewN ?_ _ | refine blk_drew ?_ | refine blk_alloc ?_ _)); exact BK339.out)) : gb351 ≠ gb339)); clear BK338; clear BK339; clear HB; have BK338 := n0_; have BK339 := n1_; have HB := n2_; have BK351 := n3_; have GW351 := n4_; have GE351 := n5_; have NB338_351 := n6_; have NB351_338 := n7_; have NB339_351 := n8_; have NB351_339 := n9_; clear n0_ n1_ n2_ n3_ n4_ n5_ n6_ n7_ n8_ n9_; clear hb hbox hg; have hnb18 := NB351_338.out; have hnc18 := NB338_351.out; have hnb19 := NB351_339.out; have hnc19 := NB339_351.out; have hcz20_0 : w17.cell? ⟨gb351, 0, none⟩ = some (.string (⟨#[]⟩ : ByteArray)) := (blk_cell BK351.out 0).trans rfl; have hcz20_1 : w17.cell? ⟨gb351, 1, none⟩ = some (.int .i64 0) := (blk_cell BK351.out 1).trans rfl; have hcz20_2 : w17.cell? ⟨gb351, 2, none⟩ = some (.string (⟨#[]⟩ : ByteArray)) := (blk_cell BK351.out 2).trans rfl; have hcz20_3 : w17.cell? ⟨gb351, 3, none⟩ = some (.string (⟨#[]⟩ : ByteArray)) := (blk_cell BK351.out 3).trans rfl; have hcz20_4 : w17.cell? ⟨gb351, 4, none⟩ = some (.int .i64 0) := (blk_cell BK351.out 4).trans rfl; have hcz20_5 : w17.cell? ⟨gb351, 5, none⟩ = some (.bool false) := (blk_cell BK351.out 5).trans rfl; have hcz20_6 : w17.cell? ⟨gb351, 6, none⟩ = some (.int .i64 0) := (blk_cell BK351.out 6).trans rfl; have hcz20_7 : w17.cell? ⟨gb351, 7, none⟩ = some (.int .i64 0) := (blk_cell BK351.out 7).trans rfl; have hfz20_0 := blk_frozen BK351.out 0; have hfz20_1 := blk_frozen BK351.out 1; have hfz20_2 := blk_frozen BK351.out 2; have hfz20_3 := blk_frozen BK351.out 3; have hfz20_4 := blk_frozen BK351.out 4; have hfz20_5 := blk_frozen BK351.out 5; have hfz20_6 := blk_frozen BK351.out 6; have hfz20_7 := blk_frozen BK351.out 7) | ((with_reducible refine gate_callee (f := 15) rfl ?_); refine goesL_ (some 26) rfl rfl Try.func15 (by kernel_rfl) rfl #[.int .i64 t350] rfl (by (try simp only [List.map_toArray, List.map_cons, List.map_nil]); first | done | rfl | (simp only [List.length_drop, List.length_take]; rfl)) ?_; (with_reducible refine (wimplelaw0_Num.calls t350 t352 _ A7.out).mono ?_); rintro e w' ⟨rfl, ⟨nd, rfl⟩⟩; refine ⟨_, rfl, ?_⟩))
   (try simp only [Act.put, List.setIfInBounds_toArray, List.set_cons_zero, List.set_cons_succ])
   go_cut [11] (fun v11 wc => ∃ (kq : Nat) (x11_8 : Bool), v11 = .bool x11_8 ∧ Aside0 (wimplelaw22_TaskTurns.j0 kq a2 t349 (a2 == 3) x11_8 a0_0 a0_1 a0_2 a0_3 a0_4 a0_5 a0_6 a0_7 a1_0 a1_1 t341 t342 t343 t344 t345 t346 t347 t348 = some r) ∧ Aside0 (kq ≤ k) ∧ Aside0 (wc.heap[gb338]? = some (.cells #[.string a0_0, .int .i64 a0_1, .string a0_2, .string a0_3, .int .i64 a0_4, .bool a0_5, .int .i64 a0_6, .int .i64 a0_7] 23 (0, 0))) ∧ Aside0 (wc.heap[gb339]? = some (.cells #[.string a1_0, .int .i64 a1_1] 25 (0, 0))) ∧ Aside0 (wc.heap[gb351]? = some (.cells #[.string t341, .int .i64 t342, .string t343, .string t344, .int .i64 t345, .bool t346, .int .i64 t347, .int .i64 t348] 23 (0, 0))) ∧ Aside0 (Below w.heap.size w wc))
   case first =>
    have H := HC9.out
    clear HC9
    by_cases c21 : a2 = 3
    ·rw [if_pos c21] at H
     have c21b0 : (a2 == 3) = true := beq_iff_eq.mpr c21
     have c21b1 : (a2 != 3) = false := bne_eq_false_iff_eq.mpr c21
     clear c21
     (first | rw [c21b0] | (simp only [i64_w, i32_w]; rw [c21b0]) | skip)
     have H' := Aside0.mk H
     clear H
     go_wp2
     (refine Met.intro ?_; go_step; (try simp only [c21b0]); (repeat apply Exists.intro); refine ⟨?rel, rfl⟩)
     case rel => (try simp only [c21b0] at H'); exact ⟨_, (true), (by first | rfl | (simp; done) | (simp [*]; done) | (simp [ByteArray.size_append]; exact Iff.rfl)), H', ⟨by first | omega | exact Nat.le_refl _⟩, ⟨by (with_reducible repeat (first | refine blk_drewN ?_ _ | refine blk_drew ?_ | refine blk_alloc ?_ _)); refine blk_far ?_ NB338_351.out _; (with_reducible repeat (first | refine blk_drewN ?_ _ | refine blk_drew ?_ | refine blk_alloc ?_ _)); refine blk_far ?_ NB338_351.out _; (with_reducible repeat (first | refine blk_drewN ?_ _ | refine blk_drew ?_ | refine blk_alloc ?_ _)); refine blk_far ?_ NB338_351.out _; (with_reducible repeat (first | refine blk_drewN ?_ _ | refine blk_drew ?_ | refine blk_alloc ?_ _)); refine blk_far ?_ NB338_351.out _; (with_reducible repeat (first | refine blk_drewN ?_ _ | refine blk_drew ?_ | refine blk_alloc ?_ _)); refine blk_far ?_ NB338_351.out _; (with_reducible repeat (first | refine blk_drewN ?_ _ | refine blk_drew ?_ | refine blk_alloc ?_ _)); refine blk_far ?_ NB338_351.out _; (with_reducible repeat (first | refine blk_drewN ?_ _ | refine blk_drew ?_ | refine blk_alloc ?_ _)); refine blk_far ?_ NB338_351.out _; (with_reducible repeat (first | refine blk_drewN ?_ _ | refine blk_drew ?_ | refine blk_alloc ?_ _)); refine blk_far ?_ NB338_351.out _; (with_reducible repeat (first | refine blk_drewN ?_ _ | refine blk_drew ?_ | refine blk_alloc ?_ _)); exact BK338.out⟩, ⟨by (with_reducible repeat (first | refine blk_drewN ?_ _ | refine blk_drew ?_ | refine blk_alloc ?_ _)); refine blk_far ?_ NB339_351.out _; (with_reducible repeat (first | refine blk_drewN ?_ _ | refine blk_drew ?_ | refine blk_alloc ?_ _)); refine blk_far ?_ NB339_351.out _; (with_reducible repeat (first | refine blk_drewN ?_ _ | refine blk_drew ?_ | refine blk_alloc ?_ _)); refine blk_far ?_ NB339_351.out _; (with_reducible repeat (first | refine blk_drewN ?_ _ | refine blk_drew ?_ | refine blk_alloc ?_ _)); refine blk_far ?_ NB339_351.out _; (with_reducible repeat (first | refine blk_drewN ?_ _ | refine blk_drew ?_ | refine blk_alloc ?_ _)); refine blk_far ?_ NB339_351.out _; (with_reducible repeat (first | refine blk_drewN ?_ _ | refine blk_drew ?_ | refine blk_alloc ?_ _)); refine blk_far ?_ NB339_351.out _; (with_reducible repeat (first | refine blk_drewN ?_ _ | refine blk_drew ?_ | refine blk_alloc ?_ _)); refine blk_far ?_ NB339_351.out _; (with_reducible repeat (first | refine blk_drewN ?_ _ | refine blk_drew ?_ | refine blk_alloc ?_ _)); refine blk_far ?_ NB339_351.out _; (with_reducible repeat (first | refine blk_drewN ?_ _ | refine blk_drew ?_ | refine blk_alloc ?_ _)); exact BK339.out⟩, ⟨by (with_reducible repeat (first | refine blk_drewN ?_ _ | refine blk_drew ?_ | refine blk_alloc ?_ _)); refine blk_put (cs := #[.string t341, .int .i64 t342, .string t343, .string t344, .int .i64 t345, .bool t346, .int .i64 t347, .int .i64 0]) ?_ 7 _ rfl; (with_reducible repeat (first | refine blk_drewN ?_ _ | refine blk_drew ?_ | refine blk_alloc ?_ _)); refine blk_put (cs := #[.string t341, .int .i64 t342, .string t343, .string t344, .int .i64 t345, .bool t346, .int .i64 0, .int .i64 0]) ?_ 6 _ rfl; (with_reducible repeat (first | refine blk_drewN ?_ _ | refine blk_drew ?_ | refine blk_alloc ?_ _)); refine blk_put (cs := #[.string t341, .int .i64 t342, .string t343, .string t344, .int .i64 t345, .bool false, .int .i64 0, .int .i64 0]) ?_ 5 _ rfl; (with_reducible repeat (first | refine blk_drewN ?_ _ | refine blk_drew ?_ | refine blk_alloc ?_ _)); refine blk_put (cs := #[.string t341, .int .i64 t342, .string t343, .string t344, .int .i64 0, .bool false, .int .i64 0, .int .i64 0]) ?_ 4 _ rfl; (with_reducible repeat (first | refine blk_drewN ?_ _ | refine blk_drew ?_ | refine blk_alloc ?_ _)); refine blk_put (cs := #[.string t341, .int .i64 t342, .string t343, .string (⟨#[]⟩ : ByteArray), .int .i64 0, .bool false, .int .i64 0, .int .i64 0]) ?_ 3 _ rfl; (with_reducible repeat (first | refine blk_drewN ?_ _ | refine blk_drew ?_ | refine blk_alloc ?_ _)); refine blk_put (cs := #[.string t341, .int .i64 t342, .string (⟨#[]⟩ : ByteArray), .string (⟨#[]⟩ : ByteArray), .int .i64 0, .bool false, .int .i64 0, .int .i64 0]) ?_ 2 _ rfl; (with_reducible repeat (first | refine blk_drewN ?_ _ | refine blk_drew ?_ | refine blk_alloc ?_ _)); refine blk_put (cs := #[.string t341, .int .i64 0, .string (⟨#[]⟩ : ByteArray), .string (⟨#[]⟩ : ByteArray), .int .i64 0, .bool false, .int .i64 0, .int .i64 0]) ?_ 1 _ rfl; (with_reducible repeat (first | refine blk_drewN ?_ _ | refine blk_drew ?_ | refine blk_alloc ?_ _)); refine blk_put (cs := #[.string (⟨#[]⟩ : ByteArray), .int .i64 0, .string (⟨#[]⟩ : ByteArray), .string (⟨#[]⟩ : ByteArray), .int .i64 0, .bool false, .int .i64 0, .int .i64 0]) ?_ 0 _ rfl; (with_reducible repeat (first | refine blk_drewN ?_ _ | refine blk_drew ?_ | refine blk_alloc ?_ _)); exact BK351.out⟩, ⟨by repeat (first | (with_reducible first | exact HB.out | apply below_alloc | apply pw_below_drewN | apply below_drew1 | refine below_set ?_ GE338.out | refine below_set ?_ GE339.out | refine below_set ?_ GE351.out) | exact HB.out)⟩⟩
    ·rw [if_neg c21] at H
     have c21b0 : (a2 == 3) = false := beq_eq_false_iff_ne.mpr c21
     have c21b1 : (a2 != 3) = true := bne_iff_ne.mpr c21
     (first | rw [c21b0] | (simp only [i64_w, i32_w]; rw [c21b0]) | skip)
     have H' := Aside0.mk H
     clear H
     go_wp2
     (refine Met.intro ?_; go_step; (try simp only [c21b0]); (repeat apply Exists.intro); refine ⟨?rel, rfl⟩)
     case rel => (try simp only [c21b0] at H'); exact ⟨_, ((a2 == 1)), (by first | rfl | (simp; done) | (simp [*]; done) | (simp [ByteArray.size_append]; exact Iff.rfl)), H', ⟨by first | omega | exact Nat.le_refl _⟩, ⟨by (with_reducible repeat (first | refine blk_drewN ?_ _ | refine blk_drew ?_ | refine blk_alloc ?_ _)); refine blk_far ?_ NB338_351.out _; (with_reducible repeat (first | refine blk_drewN ?_ _ | refine blk_drew ?_ | refine blk_alloc ?_ _)); refine blk_far ?_ NB338_351.out _; (with_reducible repeat (first | refine blk_drewN ?_ _ | refine blk_drew ?_ | refine blk_alloc ?_ _)); refine blk_far ?_ NB338_351.out _; (with_reducible repeat (first | refine blk_drewN ?_ _ | refine blk_drew ?_ | refine blk_alloc ?_ _)); refine blk_far ?_ NB338_351.out _; (with_reducible repeat (first | refine blk_drewN ?_ _ | refine blk_drew ?_ | refine blk_alloc ?_ _)); refine blk_far ?_ NB338_351.out _; (with_reducible repeat (first | refine blk_drewN ?_ _ | refine blk_drew ?_ | refine blk_alloc ?_ _)); refine blk_far ?_ NB338_351.out _; (with_reducible repeat (first | refine blk_drewN ?_ _ | refine blk_drew ?_ | refine blk_alloc ?_ _)); refine blk_far ?_ NB338_351.out _; (with_reducible repeat (first | refine blk_drewN ?_ _ | refine blk_drew ?_ | refine blk_alloc ?_ _)); refine blk_far ?_ NB338_351.out _; (with_reducible repeat (first | refine blk_drewN ?_ _ | refine blk_drew ?_ | refine blk_alloc ?_ _)); exact BK338.out⟩, ⟨by (with_reducible repeat (first | refine blk_drewN ?_ _ | refine blk_drew ?_ | refine blk_alloc ?_ _)); refine blk_far ?_ NB339_351.out _; (with_reducible repeat (first | refine blk_drewN ?_ _ | refine blk_drew ?_ | refine blk_alloc ?_ _)); refine blk_far ?_ NB339_351.out _; (with_reducible repeat (first | refine blk_drewN ?_ _ | refine blk_drew ?_ | refine blk_alloc ?_ _)); refine blk_far ?_ NB339_351.out _; (with_reducible repeat (first | refine blk_drewN ?_ _ | refine blk_drew ?_ | refine blk_alloc ?_ _)); refine blk_far ?_ NB339_351.out _; (with_reducible repeat (first | refine blk_drewN ?_ _ | refine blk_drew ?_ | refine blk_alloc ?_ _)); refine blk_far ?_ NB339_351.out _; (with_reducible repeat (first | refine blk_drewN ?_ _ | refine blk_drew ?_ | refine blk_alloc ?_ _)); refine blk_far ?_ NB339_351.out _; (with_reducible repeat (first | refine blk_drewN ?_ _ | refine blk_drew ?_ | refine blk_alloc ?_ _)); refine blk_far ?_ NB339_351.out _; (with_reducible repeat (first | refine blk_drewN ?_ _ | refine blk_drew ?_ | refine blk_alloc ?_ _)); refine blk_far ?_ NB339_351.out _; (with_reducible repeat (first | refine blk_drewN ?_ _ | refine blk_drew ?_ | refine blk_alloc ?_ _)); exact BK339.out⟩, ⟨by (with_reducible repeat (first | refine blk_drewN ?_ _ | refine blk_drew ?_ | refine blk_alloc ?_ _)); refine blk_put (cs := #[.string t341, .int .i64 t342, .string t343, .string t344, .int .i64 t345, .bool t346, .int .i64 t347, .int .i64 0]) ?_ 7 _ rfl; (with_reducible repeat (first | refine blk_drewN ?_ _ | refine blk_drew ?_ | refine blk_alloc ?_ _)); refine blk_put (cs := #[.string t341, .int .i64 t342, .string t343, .string t344, .int .i64 t345, .bool t346, .int .i64 0, .int .i64 0]) ?_ 6 _ rfl; (with_reducible repeat (first | refine blk_drewN ?_ _ | refine blk_drew ?_ | refine blk_alloc ?_ _)); refine blk_put (cs := #[.string t341, .int .i64 t342, .string t343, .string t344, .int .i64 t345, .bool false, .int .i64 0, .int .i64 0]) ?_ 5 _ rfl; (with_reducible repeat (first | refine blk_drewN ?_ _ | refine blk_drew ?_ | refine blk_alloc ?_ _)); refine blk_put (cs := #[.string t341, .int .i64 t342, .string t343, .string t344, .int .i64 0, .bool false, .int .i64 0, .int .i64 0]) ?_ 4 _ rfl; (with_reducible repeat (first | refine blk_drewN ?_ _ | refine blk_drew ?_ | refine blk_alloc ?_ _)); refine blk_put (cs := #[.string t341, .int .i64 t342, .string t343, .string (⟨#[]⟩ : ByteArray), .int .i64 0, .bool false, .int .i64 0, .int .i64 0]) ?_ 3 _ rfl; (with_reducible repeat (first | refine blk_drewN ?_ _ | refine blk_drew ?_ | refine blk_alloc ?_ _)); refine blk_put (cs := #[.string t341, .int .i64 t342, .string (⟨#[]⟩ : ByteArray), .string (⟨#[]⟩ : ByteArray), .int .i64 0, .bool false, .int .i64 0, .int .i64 0]) ?_ 2 _ rfl; (with_reducible repeat (first | refine blk_drewN ?_ _ | refine blk_drew ?_ | refine blk_alloc ?_ _)); refine blk_put (cs := #[.string t341, .int .i64 0, .string (⟨#[]⟩ : ByteArray), .string (⟨#[]⟩ : ByteArray), .int .i64 0, .bool false, .int .i64 0, .int .i64 0]) ?_ 1 _ rfl; (with_reducible repeat (first | refine blk_drewN ?_ _ | refine blk_drew ?_ | refine blk_alloc ?_ _)); refine blk_put (cs := #[.string (⟨#[]⟩ : ByteArray), .int .i64 0, .string (⟨#[]⟩ : ByteArray), .string (⟨#[]⟩ : ByteArray), .int .i64 0, .bool false, .int .i64 0, .int .i64 0]) ?_ 0 _ rfl; (with_reducible repeat (first | refine blk_drewN ?_ _ | refine blk_drew ?_ | refine blk_alloc ?_ _)); exact BK351.out⟩, ⟨by repeat (first | (with_reducible first | exact HB.out | apply below_alloc | apply pw_below_drewN | apply below_drew1 | refine below_set ?_ GE338.out | refine below_set ?_ GE339.out | refine below_set ?_ GE351.out) | exact HB.out)⟩⟩
   case rest =>
    clear HC9
    try clear c1
    try clear c2
    try clear p2
    try clear c5
    try clear c8
    try clear c8b0
    try clear c8b1
    try clear c11
    try clear c13
    try clear c15
    try clear c16
    try clear c18
    try clear c19
    try clear c21
    try clear c21b0
    try clear c21b1
    try clear hcz14_0
    try clear hcz14_1
    try clear hcz14_2
    try clear hcz14_3
    try clear hcz14_4
    try clear hcz14_5
    try clear hcz14_6
    try clear hcz14_7
    try clear hcz15_0
    try clear hcz15_1
    try clear hcz20_0
    try clear hcz20_1
    try clear hcz20_2
    try clear hcz20_3
    try clear hcz20_4
    try clear hcz20_5
    try clear hcz20_6
    try clear hcz20_7
    try clear hfz14_0
    try clear hfz14_1
    try clear hfz14_2
    try clear hfz14_3
    try clear hfz14_4
    try clear hfz14_5
    try clear hfz14_6
    try clear hfz14_7
    try clear hfz15_0
    try clear hfz15_1
    try clear hfz20_0
    try clear hfz20_1
    try clear hfz20_2
    try clear hfz20_3
    try clear hfz20_4
    try clear hfz20_5
    try clear hfz20_6
    try clear hfz20_7
    obtain ⟨kq, x11_8, rfl, HA, HJ8, BK338, BK339, BK351, HB⟩ := hcut
    cases kq with
    | zero => exact absurd HA.out (by simp [wimplelaw22_TaskTurns.j0])
    | succ kj8 =>
     have H := HA.out
     clear HA
     simp only [wimplelaw22_TaskTurns.j0] at H
     by_cases c22 : x11_8 = true
     ·subst c22
      have H1 : (if (a2 == 3) = true then ((wimpleref1_Fold.f kj8 a1_0).bind fun t353 => (if a0_5 = true then (if (t346 == true) = true then (if t344.toList = t353.toList then (if t345 = (wrap64 (a0_4 + 1)) then (if t341.toList = a0_0.toList then (if t342 = a0_1 then (if t343.toList = a0_2.toList then (if t347 = a0_6 then (if t348 = a0_7 then (if ((t349 == 0) == true) = true then (some ((t349 == 2) == (a2 == 0))) else (none)) else (none)) else (none)) else (none)) else (none)) else (none)) else (none)) else (none)) else (none)) else (if (t346 == (a2 == 2)) = true then (if t344.toList = t353.toList then (if t345 = (wrap64 (a0_4 + 1)) then (if t341.toList = a0_0.toList then (if t342 = a0_1 then (if t343.toList = a0_2.toList then (if t347 = a0_6 then (if t348 = a0_7 then (if ((t349 == 0) == true) = true then (some ((t349 == 2) == (a2 == 0))) else (none)) else (none)) else (none)) else (none)) else (none)) else (none)) else (none)) else (none)) else (none)))) else (if a0_5 = true then (if (t346 == true) = true then (if t344.toList = a0_3.toList then (if t345 = (wrap64 (a0_4 + 1)) then (if t341.toList = a0_0.toList then (if t342 = a0_1 then (if t343.toList = a0_2.toList then (if t347 = a0_6 then (if t348 = a0_7 then (if ((t349 == 0) == true) = true then (some ((t349 == 2) == (a2 == 0))) else (none)) else (none)) else (none)) else (none)) else (none)) else (none)) else (none)) else (none)) else (none)) else (if (t346 == (a2 == 2)) = true then (if t344.toList = a0_3.toList then (if t345 = (wrap64 (a0_4 + 1)) then (if t341.toList = a0_0.toList then (if t342 = a0_1 then (if t343.toList = a0_2.toList then (if t347 = a0_6 then (if t348 = a0_7 then (if ((t349 == 0) == true) = true then (some ((t349 == 2) == (a2 == 0))) else (none)) else (none)) else (none)) else (none)) else (none)) else (none)) else (none)) else (none)) else (none)))) = some r := by rw [if_pos rfl] at H; exact H
      clear H
      have H := H1
      clear H1
      by_cases c23 : (a2 == 3) = true
      ·rw [if_pos c23] at H
       have c23b0 : (a2 == 3) = true := c23
       (try (have c23b1 : decide (a2 = 3) = true := by simpa using c23))
       (try (have c23b2 : (a2 == 3) = true := by simpa using c23))
       clear c23
       replace H := Option.bind_eq_some_iff.mp H
       obtain ⟨t353, A240, H⟩ := H
       replace H : (if a0_5 = true then (if (t346 == true) = true then (if t344.toList = t353.toList then (if t345 = (wrap64 (a0_4 + 1)) then (if t341.toList = a0_0.toList then (if t342 = a0_1 then (if t343.toList = a0_2.toList then (if t347 = a0_6 then (if t348 = a0_7 then (if ((t349 == 0) == true) = true then (some ((t349 == 2) == (a2 == 0))) else (none)) else (none)) else (none)) else (none)) else (none)) else (none)) else (none)) else (none)) else (none)) else (if (t346 == (a2 == 2)) = true then (if t344.toList = t353.toList then (if t345 = (wrap64 (a0_4 + 1)) then (if t341.toList = a0_0.toList then (if t342 = a0_1 then (if t343.toList = a0_2.toList then (if t347 = a0_6 then (if t348 = a0_7 then (if ((t349 == 0) == true) = true then (some ((t349 == 2) == (a2 == 0))) else (none)) else (none)) else (none)) else (none)) else (none)) else (none)) else (none)) else (none)) else (none))) = some r := H
       have A24 := Aside0.mk A240
       clear A240
       by_cases c25 : a0_5 = true
       ·subst c25
        have H1 : (if (t346 == true) = true then (if t344.toList = t353.toList then (if t345 = (wrap64 (a0_4 + 1)) then (if t341.toList = a0_0.toList then (if t342 = a0_1 then (if t343.toList = a0_2.toList then (if t347 = a0_6 then (if t348 = a0_7 then (if ((t349 == 0) == true) = true then (some ((t349 == 2) == (a2 == 0))) else (none)) else (none)) else (none)) else (none)) else (none)) else (none)) else (none)) else (none)) else (none)) = some r := by rw [if_pos rfl] at H; exact H
        clear H
        have H := H1
        clear H1
        by_cases c26 : (t346 == true) = true
        ·rw [if_pos c26] at H
         have c26b0 : (t346 == true) = true := c26
         (try (have c26b1 : decide (t346 = true) = true := by simpa using c26))
         (try (have c26b2 : (t346 == true) = true := by simpa using c26))
         clear c26
         by_cases c27 : t344.toList = t353.toList
         ·rw [if_pos c27] at H
          have c27b0 : (t344.toList == t353.toList) = true := beq_iff_eq.mpr c27
          have c27b1 : (t344.toList != t353.toList) = false := bne_eq_false_iff_eq.mpr c27
          clear c27
          by_cases c28 : t345 = (wrap64 (a0_4 + 1))
          ·rw [if_pos c28] at H
           have c28b0 : (t345 == (wrap64 (a0_4 + 1))) = true := beq_iff_eq.mpr c28
           have c28b1 : (t345 != (wrap64 (a0_4 + 1))) = false := bne_eq_false_iff_eq.mpr c28
           clear c28
           by_cases c29 : t341.toList = a0_0.toList
           ·rw [if_pos c29] at H
            have c29b0 : (t341.toList == a0_0.toList) = true := beq_iff_eq.mpr c29
            have c29b1 : (t341.toList != a0_0.toList) = false := bne_eq_false_iff_eq.mpr c29
            clear c29
            by_cases c30 : t342 = a0_1
            ·rw [if_pos c30] at H
             have c30b0 : (t342 == a0_1) = true := beq_iff_eq.mpr c30
             have c30b1 : (t342 != a0_1) = false := bne_eq_false_iff_eq.mpr c30
             clear c30
             by_cases c31 : t343.toList = a0_2.toList
             ·rw [if_pos c31] at H
              have c31b0 : (t343.toList == a0_2.toList) = true := beq_iff_eq.mpr c31
              have c31b1 : (t343.toList != a0_2.toList) = false := bne_eq_false_iff_eq.mpr c31
              clear c31
              by_cases c32 : t347 = a0_6
              ·rw [if_pos c32] at H
               have c32b0 : (t347 == a0_6) = true := beq_iff_eq.mpr c32
               have c32b1 : (t347 != a0_6) = false := bne_eq_false_iff_eq.mpr c32
               clear c32
               by_cases c33 : t348 = a0_7
               ·rw [if_pos c33] at H
                have c33b0 : (t348 == a0_7) = true := beq_iff_eq.mpr c33
                have c33b1 : (t348 != a0_7) = false := bne_eq_false_iff_eq.mpr c33
                clear c33
                by_cases c34 : ((t349 == 0) == true) = true
                ·rw [if_pos c34] at H
                 have c34b0 : ((t349 == 0) == true) = true := c34
                 try have c34e : (t349 == 0) = true := by simpa using c34b0
                 (try (have c34b1 : decide ((t349 == 0) = true) = true := by simpa using c34))
                 (try (have c34b2 : ((t349 == 0) == true) = true := by simpa using c34))
                 clear c34
                 obtain rfl := Option.some.inj H
                 have hnb35 := NB338_339.out
                 have hnc35 := NB339_338.out
                 have hnb36 := NB338_351.out
                 have hnc36 := NB351_338.out
                 have hcz37_0 : wc.cell? ⟨gb338, 0, none⟩ = some (.string a0_0) := (blk_cell BK338.out 0).trans rfl
                 have hcz37_1 : wc.cell? ⟨gb338, 1, none⟩ = some (.int .i64 a0_1) := (blk_cell BK338.out 1).trans rfl
                 have hcz37_2 : wc.cell? ⟨gb338, 2, none⟩ = some (.string a0_2) := (blk_cell BK338.out 2).trans rfl
                 have hcz37_3 : wc.cell? ⟨gb338, 3, none⟩ = some (.string a0_3) := (blk_cell BK338.out 3).trans rfl
                 have hcz37_4 : wc.cell? ⟨gb338, 4, none⟩ = some (.int .i64 a0_4) := (blk_cell BK338.out 4).trans rfl
                 have hcz37_5 : wc.cell? ⟨gb338, 5, none⟩ = some (.bool true) := (blk_cell BK338.out 5).trans rfl
                 have hcz37_6 : wc.cell? ⟨gb338, 6, none⟩ = some (.int .i64 a0_6) := (blk_cell BK338.out 6).trans rfl
                 have hcz37_7 : wc.cell? ⟨gb338, 7, none⟩ = some (.int .i64 a0_7) := (blk_cell BK338.out 7).trans rfl
                 have hfz37_0 := blk_frozen BK338.out 0
                 have hfz37_1 := blk_frozen BK338.out 1
                 have hfz37_2 := blk_frozen BK338.out 2
                 have hfz37_3 := blk_frozen BK338.out 3
                 have hfz37_4 := blk_frozen BK338.out 4
                 have hfz37_5 := blk_frozen BK338.out 5
                 have hfz37_6 := blk_frozen BK338.out 6
                 have hfz37_7 := blk_frozen BK338.out 7
                 have hnb38 := NB339_351.out
                 have hnc38 := NB351_339.out
                 have hcz39_0 : wc.cell? ⟨gb339, 0, none⟩ = some (.string a1_0) := (blk_cell BK339.out 0).trans rfl
                 have hcz39_1 : wc.cell? ⟨gb339, 1, none⟩ = some (.int .i64 a1_1) := (blk_cell BK339.out 1).trans rfl
                 have hfz39_0 := blk_frozen BK339.out 0
                 have hfz39_1 := blk_frozen BK339.out 1
                 go_wp2_with (first | ((with_reducible refine gate_callee (f := 17) rfl ?_); refine goesL_ (some 56) rfl rfl Try.func17 (by kernel_rfl) rfl #[.string a1_0] rfl (by (try simp only [List.map_toArray, List.map_cons, List.map_nil]); first | done | rfl | (simp only [List.length_drop, List.length_take]; rfl)) ?_; (with_reducible refine (wimpleref1_Fold.calls kj8 a1_0 t353 _ A24.out).mono ?_); rintro e w40 ⟨rfl, hb⟩; refine ⟨_, rfl, ?_⟩; have n0_ := Aside0.mk (blk_below (g := gb338) (o := .cells #[.string a0_0, .int .i64 a0_1, .string a0_2, .string a0_3, .int .i64 a0_4, .bool true, .int .i64 a0_6, .int .i64 a0_7] 23 (0, 0)) (by (with_reducible repeat (first | refine blk_drewN ?_ _ | refine blk_drew ?_ | refine blk_alloc ?_ _)); exact BK338.out) hb); have n1_ := Aside0.mk (blk_below (g := gb339) (o := .cells #[.string a1_0, .int .i64 a1_1] 25 (0, 0)) (by (with_reducible repeat (first | refine blk_drewN ?_ _ | refine blk_drew ?_ | refine blk_alloc ?_ _)); exact BK339.out) hb); have n2_ := Aside0.mk (blk_below (g := gb351) (o := .cells #[.string t341, .int .i64 t342, .string t343, .string t344, .int .i64 t345, .bool t346, .int .i64 t347, .int .i64 t348] 23 (0, 0)) (by (with_reducible repeat (first | refine blk_drewN ?_ _ | refine blk_drew ?_ | refine blk_alloc ?_ _)); exact BK351.out) hb); have n3_ := Aside0.mk (below_step (by repeat (first | (with_reducible first | exact HB.out | apply below_alloc | apply pw_below_drewN | apply below_drew1 | refine below_set ?_ GE338.out | refine below_set ?_ GE339.out | refine below_set ?_ GE351.out) | exact HB.out)) hb); clear BK338; clear BK339; clear BK351; clear HB; have BK338 := n0_; have BK339 := n1_; have BK351 := n2_; have HB := n3_; clear n0_ n1_ n2_ n3_; (try clear hb); (try clear hb2); (try clear hk); (try clear hi); have hcz41_0 : w40.cell? ⟨gb351, 0, none⟩ = some (.string t341) := (blk_cell BK351.out 0).trans rfl; have hcz41_1 : w40.cell? ⟨gb351, 1, none⟩ = some (.int .i64 t342) := (blk_cell BK351.out 1).trans rfl; have hcz41_2 : w40.cell? ⟨gb351, 2, none⟩ = some (.string t343) := (blk_cell BK351.out 2).trans rfl; have hcz41_3 : w40.cell? ⟨gb351, 3, none⟩ = some (.string t344) := (blk_cell BK351.out 3).trans rfl; have hcz41_4 : w40.cell? ⟨gb351, 4, none⟩ = some (.int .i64 t345) := (blk_cell BK351.out 4).trans rfl; have hcz41_5 : w40.cell? ⟨gb351, 5, none⟩ = some (.bool t346) := (blk_cell BK351.out 5).trans rfl; have hcz41_6 : w40.cell? ⟨gb351, 6, none⟩ = some (.int .i64 t347) := (blk_cell BK351.out 6).trans rfl; have hcz41_7 : w40.cell? ⟨gb351, 7, none⟩ = some (.int .i64 t348) := (blk_cell BK351.out 7).trans rfl; have hfz41_0 := blk_frozen BK351.out 0; have hfz41_1 := blk_frozen BK351.out 1; have hfz41_2 := blk_frozen BK351.out 2; have hfz41_3 := blk_frozen BK351.out 3; have hfz41_4 := blk_frozen BK351.out 4; have hfz41_5 := blk_frozen BK351.out 5; have hfz41_6 := blk_frozen BK351.out 6; have hfz41_7 := blk_frozen BK351.out 7; have hcz42_0 : w40.cell? ⟨gb338, 0, none⟩ = some (.string a0_0) := (blk_cell BK338.out 0).trans rfl; have hcz42_1 : w40.cell? ⟨gb338, 1, none⟩ = some (.int .i64 a0_1) := (blk_cell BK338.out 1).trans rfl; have hcz42_2 : w40.cell? ⟨gb338, 2, none⟩ = some (.string a0_2) := (blk_cell BK338.out 2).trans rfl; have hcz42_3 : w40.cell? ⟨gb338, 3, none⟩ = some (.string a0_3) := (blk_cell BK338.out 3).trans rfl; have hcz42_4 : w40.cell? ⟨gb338, 4, none⟩ = some (.int .i64 a0_4) := (blk_cell BK338.out 4).trans rfl; have hcz42_5 : w40.cell? ⟨gb338, 5, none⟩ = some (.bool true) := (blk_cell BK338.out 5).trans rfl; have hcz42_6 : w40.cell? ⟨gb338, 6, none⟩ = some (.int .i64 a0_6) := (blk_cell BK338.out 6).trans rfl; have hcz42_7 : w40.cell? ⟨gb338, 7, none⟩ = some (.int .i64 a0_7) := (blk_cell BK338.out 7).trans rfl; have hfz42_0 := blk_frozen BK338.out 0; have hfz42_1 := blk_frozen BK338.out 1; have hfz42_2 := blk_frozen BK338.out 2; have hfz42_3 := blk_frozen BK338.out 3; have hfz42_4 := blk_frozen BK338.out 4; have hfz42_5 := blk_frozen BK338.out 5; have hfz42_6 := blk_frozen BK338.out 6; have hfz42_7 := blk_frozen BK338.out 7))
                 go_ret
                 exact ⟨by first | rfl | (simp [errW_none, errW_some] <;> rfl) | (simp [*, errW_none, errW_some] <;> rfl), by repeat (first | (with_reducible first | exact HB.out | apply below_alloc | apply pw_below_drewN | apply below_drew1 | refine below_set ?_ GE338.out | refine below_set ?_ GE339.out | refine below_set ?_ GE351.out) | exact HB.out)⟩
                ·rw [if_neg c34] at H
                 have c34b0 : ((t349 == 0) == true) = false := by simpa using c34
                 try have c34e : (t349 == 0) = false := by simpa using c34b0
                 (try (have c34b1 : decide ((t349 == 0) = true) = false := by simpa using c34))
                 (try (have c34b2 : ((t349 == 0) == true) = false := by simpa using c34))
                 (try (have c34b3 : ¬ ((t349 == 0) = true) := by simpa using c34))
                 clear c34
                 exact absurd H (by simp)
               ·rw [if_neg c33] at H
                have c33b0 : (t348 == a0_7) = false := beq_eq_false_iff_ne.mpr c33
                have c33b1 : (t348 != a0_7) = true := bne_iff_ne.mpr c33
                exact absurd H (by simp)
              ·rw [if_neg c32] at H
               have c32b0 : (t347 == a0_6) = false := beq_eq_false_iff_ne.mpr c32
               have c32b1 : (t347 != a0_6) = true := bne_iff_ne.mpr c32
               exact absurd H (by simp)
             ·rw [if_neg c31] at H
              have c31b0 : (t343.toList == a0_2.toList) = false := beq_eq_false_iff_ne.mpr c31
              have c31b1 : (t343.toList != a0_2.toList) = true := bne_iff_ne.mpr c31
              exact absurd H (by simp)
            ·rw [if_neg c30] at H
             have c30b0 : (t342 == a0_1) = false := beq_eq_false_iff_ne.mpr c30
             have c30b1 : (t342 != a0_1) = true := bne_iff_ne.mpr c30
             exact absurd H (by simp)
           ·rw [if_neg c29] at H
            have c29b0 : (t341.toList == a0_0.toList) = false := beq_eq_false_iff_ne.mpr c29
            have c29b1 : (t341.toList != a0_0.toList) = true := bne_iff_ne.mpr c29
            exact absurd H (by simp)
          ·rw [if_neg c28] at H
           have c28b0 : (t345 == (wrap64 (a0_4 + 1))) = false := beq_eq_false_iff_ne.mpr c28
           have c28b1 : (t345 != (wrap64 (a0_4 + 1))) = true := bne_iff_ne.mpr c28
           exact absurd H (by simp)
         ·rw [if_neg c27] at H
          have c27b0 : (t344.toList == t353.toList) = false := beq_eq_false_iff_ne.mpr c27
          have c27b1 : (t344.toList != t353.toList) = true := bne_iff_ne.mpr c27
          exact absurd H (by simp)
        ·rw [if_neg c26] at H
         have c26b0 : (t346 == true) = false := by simpa using c26
         (try (have c26b1 : decide (t346 = true) = false := by simpa using c26))
         (try (have c26b2 : (t346 == true) = false := by simpa using c26))
         (try (have c26b3 : ¬ (t346 = true) := by simpa using c26))
         clear c26
         exact absurd H (by simp)
       ·replace c25 := Bool.eq_false_iff.mpr c25
        subst c25
        have H1 : (if (t346 == (a2 == 2)) = true then (if t344.toList = t353.toList then (if t345 = (wrap64 (a0_4 + 1)) then (if t341.toList = a0_0.toList then (if t342 = a0_1 then (if t343.toList = a0_2.toList then (if t347 = a0_6 then (if t348 = a0_7 then (if ((t349 == 0) == true) = true then (some ((t349 == 2) == (a2 == 0))) else (none)) else (none)) else (none)) else (none)) else (none)) else (none)) else (none)) else (none)) else (none)) = some r := by rw [if_neg (show ¬ (false = true) by decide)] at H; exact H
        clear H
        have H := H1
        clear H1
        by_cases c115 : (t346 == (a2 == 2)) = true
        ·rw [if_pos c115] at H
         have c115b0 : (t346 == (a2 == 2)) = true := c115
         (try (have c115b1 : decide (t346 = (a2 == 2)) = true := by simpa using c115))
         (try (have c115b2 : (t346 == (a2 == 2)) = true := by simpa using c115))
         clear c115
         by_cases c116 : t344.toList = t353.toList
         ·rw [if_pos c116] at H
          have c116b0 : (t344.toList == t353.toList) = true := beq_iff_eq.mpr c116
          have c116b1 : (t344.toList != t353.toList) = false := bne_eq_false_iff_eq.mpr c116
          clear c116
          by_cases c117 : t345 = (wrap64 (a0_4 + 1))
          ·rw [if_pos c117] at H
           have c117b0 : (t345 == (wrap64 (a0_4 + 1))) = true := beq_iff_eq.mpr c117
           have c117b1 : (t345 != (wrap64 (a0_4 + 1))) = false := bne_eq_false_iff_eq.mpr c117
           clear c117
           by_cases c118 : t341.toList = a0_0.toList
           ·rw [if_pos c118] at H
            have c118b0 : (t341.toList == a0_0.toList) = true := beq_iff_eq.mpr c118
            have c118b1 : (t341.toList != a0_0.toList) = false := bne_eq_false_iff_eq.mpr c118
            clear c118
            by_cases c119 : t342 = a0_1
            ·rw [if_pos c119] at H
             have c119b0 : (t342 == a0_1) = true := beq_iff_eq.mpr c119
             have c119b1 : (t342 != a0_1) = false := bne_eq_false_iff_eq.mpr c119
             clear c119
             by_cases c120 : t343.toList = a0_2.toList
             ·rw [if_pos c120] at H
              have c120b0 : (t343.toList == a0_2.toList) = true := beq_iff_eq.mpr c120
              have c120b1 : (t343.toList != a0_2.toList) = false := bne_eq_false_iff_eq.mpr c120
              clear c120
              by_cases c121 : t347 = a0_6
              ·rw [if_pos c121] at H
               have c121b0 : (t347 == a0_6) = true := beq_iff_eq.mpr c121
               have c121b1 : (t347 != a0_6) = false := bne_eq_false_iff_eq.mpr c121
               clear c121
               by_cases c122 : t348 = a0_7
               ·rw [if_pos c122] at H
                have c122b0 : (t348 == a0_7) = true := beq_iff_eq.mpr c122
                have c122b1 : (t348 != a0_7) = false := bne_eq_false_iff_eq.mpr c122
                clear c122
                by_cases c123 : ((t349 == 0) == true) = true
                ·rw [if_pos c123] at H
                 have c123b0 : ((t349 == 0) == true) = true := c123
                 try have c123e : (t349 == 0) = true := by simpa using c123b0
                 (try (have c123b1 : decide ((t349 == 0) = true) = true := by simpa using c123))
                 (try (have c123b2 : ((t349 == 0) == true) = true := by simpa using c123))
                 clear c123
                 obtain rfl := Option.some.inj H
                 have hnb124 := NB338_339.out
                 have hnc124 := NB339_338.out
                 have hnb125 := NB338_351.out
                 have hnc125 := NB351_338.out
                 have hcz126_0 : wc.cell? ⟨gb338, 0, none⟩ = some (.string a0_0) := (blk_cell BK338.out 0).trans rfl
                 have hcz126_1 : wc.cell? ⟨gb338, 1, none⟩ = some (.int .i64 a0_1) := (blk_cell BK338.out 1).trans rfl
                 have hcz126_2 : wc.cell? ⟨gb338, 2, none⟩ = some (.string a0_2) := (blk_cell BK338.out 2).trans rfl
                 have hcz126_3 : wc.cell? ⟨gb338, 3, none⟩ = some (.string a0_3) := (blk_cell BK338.out 3).trans rfl
                 have hcz126_4 : wc.cell? ⟨gb338, 4, none⟩ = some (.int .i64 a0_4) := (blk_cell BK338.out 4).trans rfl
                 have hcz126_5 : wc.cell? ⟨gb338, 5, none⟩ = some (.bool false) := (blk_cell BK338.out 5).trans rfl
                 have hcz126_6 : wc.cell? ⟨gb338, 6, none⟩ = some (.int .i64 a0_6) := (blk_cell BK338.out 6).trans rfl
                 have hcz126_7 : wc.cell? ⟨gb338, 7, none⟩ = some (.int .i64 a0_7) := (blk_cell BK338.out 7).trans rfl
                 have hfz126_0 := blk_frozen BK338.out 0
                 have hfz126_1 := blk_frozen BK338.out 1
                 have hfz126_2 := blk_frozen BK338.out 2
                 have hfz126_3 := blk_frozen BK338.out 3
                 have hfz126_4 := blk_frozen BK338.out 4
                 have hfz126_5 := blk_frozen BK338.out 5
                 have hfz126_6 := blk_frozen BK338.out 6
                 have hfz126_7 := blk_frozen BK338.out 7
                 have hnb127 := NB339_351.out
                 have hnc127 := NB351_339.out
                 have hcz128_0 : wc.cell? ⟨gb339, 0, none⟩ = some (.string a1_0) := (blk_cell BK339.out 0).trans rfl
                 have hcz128_1 : wc.cell? ⟨gb339, 1, none⟩ = some (.int .i64 a1_1) := (blk_cell BK339.out 1).trans rfl
                 have hfz128_0 := blk_frozen BK339.out 0
                 have hfz128_1 := blk_frozen BK339.out 1
                 go_wp2_with (first | ((with_reducible refine gate_callee (f := 17) rfl ?_); refine goesL_ (some 56) rfl rfl Try.func17 (by kernel_rfl) rfl #[.string a1_0] rfl (by (try simp only [List.map_toArray, List.map_cons, List.map_nil]); first | done | rfl | (simp only [List.length_drop, List.length_take]; rfl)) ?_; (with_reducible refine (wimpleref1_Fold.calls kj8 a1_0 t353 _ A24.out).mono ?_); rintro e w129 ⟨rfl, hb⟩; refine ⟨_, rfl, ?_⟩; have n0_ := Aside0.mk (blk_below (g := gb338) (o := .cells #[.string a0_0, .int .i64 a0_1, .string a0_2, .string a0_3, .int .i64 a0_4, .bool false, .int .i64 a0_6, .int .i64 a0_7] 23 (0, 0)) (by (with_reducible repeat (first | refine blk_drewN ?_ _ | refine blk_drew ?_ | refine blk_alloc ?_ _)); exact BK338.out) hb); have n1_ := Aside0.mk (blk_below (g := gb339) (o := .cells #[.string a1_0, .int .i64 a1_1] 25 (0, 0)) (by (with_reducible repeat (first | refine blk_drewN ?_ _ | refine blk_drew ?_ | refine blk_alloc ?_ _)); exact BK339.out) hb); have n2_ := Aside0.mk (blk_below (g := gb351) (o := .cells #[.string t341, .int .i64 t342, .string t343, .string t344, .int .i64 t345, .bool t346, .int .i64 t347, .int .i64 t348] 23 (0, 0)) (by (with_reducible repeat (first | refine blk_drewN ?_ _ | refine blk_drew ?_ | refine blk_alloc ?_ _)); exact BK351.out) hb); have n3_ := Aside0.mk (below_step (by repeat (first | (with_reducible first | exact HB.out | apply below_alloc | apply pw_below_drewN | apply below_drew1 | refine below_set ?_ GE338.out | refine below_set ?_ GE339.out | refine below_set ?_ GE351.out) | exact HB.out)) hb); clear BK338; clear BK339; clear BK351; clear HB; have BK338 := n0_; have BK339 := n1_; have BK351 := n2_; have HB := n3_; clear n0_ n1_ n2_ n3_; (try clear hb); (try clear hb2); (try clear hk); (try clear hi); have hcz130_0 : w129.cell? ⟨gb351, 0, none⟩ = some (.string t341) := (blk_cell BK351.out 0).trans rfl; have hcz130_1 : w129.cell? ⟨gb351, 1, none⟩ = some (.int .i64 t342) := (blk_cell BK351.out 1).trans rfl; have hcz130_2 : w129.cell? ⟨gb351, 2, none⟩ = some (.string t343) := (blk_cell BK351.out 2).trans rfl; have hcz130_3 : w129.cell? ⟨gb351, 3, none⟩ = some (.string t344) := (blk_cell BK351.out 3).trans rfl; have hcz130_4 : w129.cell? ⟨gb351, 4, none⟩ = some (.int .i64 t345) := (blk_cell BK351.out 4).trans rfl; have hcz130_5 : w129.cell? ⟨gb351, 5, none⟩ = some (.bool t346) := (blk_cell BK351.out 5).trans rfl; have hcz130_6 : w129.cell? ⟨gb351, 6, none⟩ = some (.int .i64 t347) := (blk_cell BK351.out 6).trans rfl; have hcz130_7 : w129.cell? ⟨gb351, 7, none⟩ = some (.int .i64 t348) := (blk_cell BK351.out 7).trans rfl; have hfz130_0 := blk_frozen BK351.out 0; have hfz130_1 := blk_frozen BK351.out 1; have hfz130_2 := blk_frozen BK351.out 2; have hfz130_3 := blk_frozen BK351.out 3; have hfz130_4 := blk_frozen BK351.out 4; have hfz130_5 := blk_frozen BK351.out 5; have hfz130_6 := blk_frozen BK351.out 6; have hfz130_7 := blk_frozen BK351.out 7; have hcz131_0 : w129.cell? ⟨gb338, 0, none⟩ = some (.string a0_0) := (blk_cell BK338.out 0).trans rfl; have hcz131_1 : w129.cell? ⟨gb338, 1, none⟩ = some (.int .i64 a0_1) := (blk_cell BK338.out 1).trans rfl; have hcz131_2 : w129.cell? ⟨gb338, 2, none⟩ = some (.string a0_2) := (blk_cell BK338.out 2).trans rfl; have hcz131_3 : w129.cell? ⟨gb338, 3, none⟩ = some (.string a0_3) := (blk_cell BK338.out 3).trans rfl; have hcz131_4 : w129.cell? ⟨gb338, 4, none⟩ = some (.int .i64 a0_4) := (blk_cell BK338.out 4).trans rfl; have hcz131_5 : w129.cell? ⟨gb338, 5, none⟩ = some (.bool false) := (blk_cell BK338.out 5).trans rfl; have hcz131_6 : w129.cell? ⟨gb338, 6, none⟩ = some (.int .i64 a0_6) := (blk_cell BK338.out 6).trans rfl; have hcz131_7 : w129.cell? ⟨gb338, 7, none⟩ = some (.int .i64 a0_7) := (blk_cell BK338.out 7).trans rfl; have hfz131_0 := blk_frozen BK338.out 0; have hfz131_1 := blk_frozen BK338.out 1; have hfz131_2 := blk_frozen BK338.out 2; have hfz131_3 := blk_frozen BK338.out 3; have hfz131_4 := blk_frozen BK338.out 4; have hfz131_5 := blk_frozen BK338.out 5; have hfz131_6 := blk_frozen BK338.out 6; have hfz131_7 := blk_frozen BK338.out 7))
                 go_ret
                 exact ⟨by first | rfl | (simp [errW_none, errW_some] <;> rfl) | (simp [*, errW_none, errW_some] <;> rfl), by repeat (first | (with_reducible first | exact HB.out | apply below_alloc | apply pw_below_drewN | apply below_drew1 | refine below_set ?_ GE338.out | refine below_set ?_ GE339.out | refine below_set ?_ GE351.out) | exact HB.out)⟩
                ·rw [if_neg c123] at H
                 have c123b0 : ((t349 == 0) == true) = false := by simpa using c123
                 try have c123e : (t349 == 0) = false := by simpa using c123b0
                 (try (have c123b1 : decide ((t349 == 0) = true) = false := by simpa using c123))
                 (try (have c123b2 : ((t349 == 0) == true) = false := by simpa using c123))
                 (try (have c123b3 : ¬ ((t349 == 0) = true) := by simpa using c123))
                 clear c123
                 exact absurd H (by simp)
               ·rw [if_neg c122] at H
                have c122b0 : (t348 == a0_7) = false := beq_eq_false_iff_ne.mpr c122
                have c122b1 : (t348 != a0_7) = true := bne_iff_ne.mpr c122
                exact absurd H (by simp)
              ·rw [if_neg c121] at H
               have c121b0 : (t347 == a0_6) = false := beq_eq_false_iff_ne.mpr c121
               have c121b1 : (t347 != a0_6) = true := bne_iff_ne.mpr c121
               exact absurd H (by simp)
             ·rw [if_neg c120] at H
              have c120b0 : (t343.toList == a0_2.toList) = false := beq_eq_false_iff_ne.mpr c120
              have c120b1 : (t343.toList != a0_2.toList) = true := bne_iff_ne.mpr c120
              exact absurd H (by simp)
            ·rw [if_neg c119] at H
             have c119b0 : (t342 == a0_1) = false := beq_eq_false_iff_ne.mpr c119
             have c119b1 : (t342 != a0_1) = true := bne_iff_ne.mpr c119
             exact absurd H (by simp)
           ·rw [if_neg c118] at H
            have c118b0 : (t341.toList == a0_0.toList) = false := beq_eq_false_iff_ne.mpr c118
            have c118b1 : (t341.toList != a0_0.toList) = true := bne_iff_ne.mpr c118
            exact absurd H (by simp)
          ·rw [if_neg c117] at H
           have c117b0 : (t345 == (wrap64 (a0_4 + 1))) = false := beq_eq_false_iff_ne.mpr c117
           have c117b1 : (t345 != (wrap64 (a0_4 + 1))) = true := bne_iff_ne.mpr c117
           exact absurd H (by simp)
         ·rw [if_neg c116] at H
          have c116b0 : (t344.toList == t353.toList) = false := beq_eq_false_iff_ne.mpr c116
          have c116b1 : (t344.toList != t353.toList) = true := bne_iff_ne.mpr c116
          exact absurd H (by simp)
        ·rw [if_neg c115] at H
         have c115b0 : (t346 == (a2 == 2)) = false := by simpa using c115
         (try (have c115b1 : decide (t346 = (a2 == 2)) = false := by simpa using c115))
         (try (have c115b2 : (t346 == (a2 == 2)) = false := by simpa using c115))
         (try (have c115b3 : ¬ (t346 = (a2 == 2)) := by simpa using c115))
         clear c115
         exact absurd H (by simp)
      ·rw [if_neg c23] at H
       have c23b0 : (a2 == 3) = false := by simpa using c23
       (try (have c23b1 : decide (a2 = 3) = false := by simpa using c23))
       (try (have c23b2 : (a2 == 3) = false := by simpa using c23))
       (try (have c23b3 : ¬ (a2 = 3) := by simpa using c23))
       clear c23
       by_cases c204 : a0_5 = true
       ·subst c204
        have H1 : (if (t346 == true) = true then (if t344.toList = a0_3.toList then (if t345 = (wrap64 (a0_4 + 1)) then (if t341.toList = a0_0.toList then (if t342 = a0_1 then (if t343.toList = a0_2.toList then (if t347 = a0_6 then (if t348 = a0_7 then (if ((t349 == 0) == true) = true then (some ((t349 == 2) == (a2 == 0))) else (none)) else (none)) else (none)) else (none)) else (none)) else (none)) else (none)) else (none)) else (none)) = some r := by rw [if_pos rfl] at H; exact H
        clear H
        have H := H1
        clear H1
        by_cases c205 : (t346 == true) = true
        ·rw [if_pos c205] at H
         have c205b0 : (t346 == true) = true := c205
         (try (have c205b1 : decide (t346 = true) = true := by simpa using c205))
         (try (have c205b2 : (t346 == true) = true := by simpa using c205))
         clear c205
         by_cases c206 : t344.toList = a0_3.toList
         ·rw [if_pos c206] at H
          have c206b0 : (t344.toList == a0_3.toList) = true := beq_iff_eq.mpr c206
          have c206b1 : (t344.toList != a0_3.toList) = false := bne_eq_false_iff_eq.mpr c206
          clear c206
          by_cases c207 : t345 = (wrap64 (a0_4 + 1))
          ·rw [if_pos c207] at H
           have c207b0 : (t345 == (wrap64 (a0_4 + 1))) = true := beq_iff_eq.mpr c207
           have c207b1 : (t345 != (wrap64 (a0_4 + 1))) = false := bne_eq_false_iff_eq.mpr c207
           clear c207
           by_cases c208 : t341.toList = a0_0.toList
           ·rw [if_pos c208] at H
            have c208b0 : (t341.toList == a0_0.toList) = true := beq_iff_eq.mpr c208
            have c208b1 : (t341.toList != a0_0.toList) = false := bne_eq_false_iff_eq.mpr c208
            clear c208
            by_cases c209 : t342 = a0_1
            ·rw [if_pos c209] at H
             have c209b0 : (t342 == a0_1) = true := beq_iff_eq.mpr c209
             have c209b1 : (t342 != a0_1) = false := bne_eq_false_iff_eq.mpr c209
             clear c209
             by_cases c210 : t343.toList = a0_2.toList
             ·rw [if_pos c210] at H
              have c210b0 : (t343.toList == a0_2.toList) = true := beq_iff_eq.mpr c210
              have c210b1 : (t343.toList != a0_2.toList) = false := bne_eq_false_iff_eq.mpr c210
              clear c210
              by_cases c211 : t347 = a0_6
              ·rw [if_pos c211] at H
               have c211b0 : (t347 == a0_6) = true := beq_iff_eq.mpr c211
               have c211b1 : (t347 != a0_6) = false := bne_eq_false_iff_eq.mpr c211
               clear c211
               by_cases c212 : t348 = a0_7
               ·rw [if_pos c212] at H
                have c212b0 : (t348 == a0_7) = true := beq_iff_eq.mpr c212
                have c212b1 : (t348 != a0_7) = false := bne_eq_false_iff_eq.mpr c212
                clear c212
                by_cases c213 : ((t349 == 0) == true) = true
                ·rw [if_pos c213] at H
                 have c213b0 : ((t349 == 0) == true) = true := c213
                 try have c213e : (t349 == 0) = true := by simpa using c213b0
                 (try (have c213b1 : decide ((t349 == 0) = true) = true := by simpa using c213))
                 (try (have c213b2 : ((t349 == 0) == true) = true := by simpa using c213))
                 clear c213
                 obtain rfl := Option.some.inj H
                 have hnb214 := NB338_339.out
                 have hnc214 := NB339_338.out
                 have hnb215 := NB338_351.out
                 have hnc215 := NB351_338.out
                 have hcz216_0 : wc.cell? ⟨gb338, 0, none⟩ = some (.string a0_0) := (blk_cell BK338.out 0).trans rfl
                 have hcz216_1 : wc.cell? ⟨gb338, 1, none⟩ = some (.int .i64 a0_1) := (blk_cell BK338.out 1).trans rfl
                 have hcz216_2 : wc.cell? ⟨gb338, 2, none⟩ = some (.string a0_2) := (blk_cell BK338.out 2).trans rfl
                 have hcz216_3 : wc.cell? ⟨gb338, 3, none⟩ = some (.string a0_3) := (blk_cell BK338.out 3).trans rfl
                 have hcz216_4 : wc.cell? ⟨gb338, 4, none⟩ = some (.int .i64 a0_4) := (blk_cell BK338.out 4).trans rfl
                 have hcz216_5 : wc.cell? ⟨gb338, 5, none⟩ = some (.bool true) := (blk_cell BK338.out 5).trans rfl
                 have hcz216_6 : wc.cell? ⟨gb338, 6, none⟩ = some (.int .i64 a0_6) := (blk_cell BK338.out 6).trans rfl
                 have hcz216_7 : wc.cell? ⟨gb338, 7, none⟩ = some (.int .i64 a0_7) := (blk_cell BK338.out 7).trans rfl
                 have hfz216_0 := blk_frozen BK338.out 0
                 have hfz216_1 := blk_frozen BK338.out 1
                 have hfz216_2 := blk_frozen BK338.out 2
                 have hfz216_3 := blk_frozen BK338.out 3
                 have hfz216_4 := blk_frozen BK338.out 4
                 have hfz216_5 := blk_frozen BK338.out 5
                 have hfz216_6 := blk_frozen BK338.out 6
                 have hfz216_7 := blk_frozen BK338.out 7
                 have hnb217 := NB351_339.out
                 have hnc217 := NB339_351.out
                 have hcz218_0 : wc.cell? ⟨gb351, 0, none⟩ = some (.string t341) := (blk_cell BK351.out 0).trans rfl
                 have hcz218_1 : wc.cell? ⟨gb351, 1, none⟩ = some (.int .i64 t342) := (blk_cell BK351.out 1).trans rfl
                 have hcz218_2 : wc.cell? ⟨gb351, 2, none⟩ = some (.string t343) := (blk_cell BK351.out 2).trans rfl
                 have hcz218_3 : wc.cell? ⟨gb351, 3, none⟩ = some (.string t344) := (blk_cell BK351.out 3).trans rfl
                 have hcz218_4 : wc.cell? ⟨gb351, 4, none⟩ = some (.int .i64 t345) := (blk_cell BK351.out 4).trans rfl
                 have hcz218_5 : wc.cell? ⟨gb351, 5, none⟩ = some (.bool t346) := (blk_cell BK351.out 5).trans rfl
                 have hcz218_6 : wc.cell? ⟨gb351, 6, none⟩ = some (.int .i64 t347) := (blk_cell BK351.out 6).trans rfl
                 have hcz218_7 : wc.cell? ⟨gb351, 7, none⟩ = some (.int .i64 t348) := (blk_cell BK351.out 7).trans rfl
                 have hfz218_0 := blk_frozen BK351.out 0
                 have hfz218_1 := blk_frozen BK351.out 1
                 have hfz218_2 := blk_frozen BK351.out 2
                 have hfz218_3 := blk_frozen BK351.out 3
                 have hfz218_4 := blk_frozen BK351.out 4
                 have hfz218_5 := blk_frozen BK351.out 5
                 have hfz218_6 := blk_frozen BK351.out 6
                 have hfz218_7 := blk_frozen BK351.out 7
                 go_wp2
                 go_ret
                 exact ⟨by first | rfl | (simp [errW_none, errW_some] <;> rfl) | (simp [*, errW_none, errW_some] <;> rfl), by repeat (first | (with_reducible first | exact HB.out | apply below_alloc | apply pw_below_drewN | apply below_drew1 | refine below_set ?_ GE338.out | refine below_set ?_ GE339.out | refine below_set ?_ GE351.out) | exact HB.out)⟩
                ·rw [if_neg c213] at H
                 have c213b0 : ((t349 == 0) == true) = false := by simpa using c213
                 try have c213e : (t349 == 0) = false := by simpa using c213b0
                 (try (have c213b1 : decide ((t349 == 0) = true) = false := by simpa using c213))
                 (try (have c213b2 : ((t349 == 0) == true) = false := by simpa using c213))
                 (try (have c213b3 : ¬ ((t349 == 0) = true) := by simpa using c213))
                 clear c213
                 exact absurd H (by simp)
               ·rw [if_neg c212] at H
                have c212b0 : (t348 == a0_7) = false := beq_eq_false_iff_ne.mpr c212
                have c212b1 : (t348 != a0_7) = true := bne_iff_ne.mpr c212
                exact absurd H (by simp)
              ·rw [if_neg c211] at H
               have c211b0 : (t347 == a0_6) = false := beq_eq_false_iff_ne.mpr c211
               have c211b1 : (t347 != a0_6) = true := bne_iff_ne.mpr c211
               exact absurd H (by simp)
             ·rw [if_neg c210] at H
              have c210b0 : (t343.toList == a0_2.toList) = false := beq_eq_false_iff_ne.mpr c210
              have c210b1 : (t343.toList != a0_2.toList) = true := bne_iff_ne.mpr c210
              exact absurd H (by simp)
            ·rw [if_neg c209] at H
             have c209b0 : (t342 == a0_1) = false := beq_eq_false_iff_ne.mpr c209
             have c209b1 : (t342 != a0_1) = true := bne_iff_ne.mpr c209
             exact absurd H (by simp)
           ·rw [if_neg c208] at H
            have c208b0 : (t341.toList == a0_0.toList) = false := beq_eq_false_iff_ne.mpr c208
            have c208b1 : (t341.toList != a0_0.toList) = true := bne_iff_ne.mpr c208
            exact absurd H (by simp)
          ·rw [if_neg c207] at H
           have c207b0 : (t345 == (wrap64 (a0_4 + 1))) = false := beq_eq_false_iff_ne.mpr c207
           have c207b1 : (t345 != (wrap64 (a0_4 + 1))) = true := bne_iff_ne.mpr c207
           exact absurd H (by simp)
         ·rw [if_neg c206] at H
          have c206b0 : (t344.toList == a0_3.toList) = false := beq_eq_false_iff_ne.mpr c206
          have c206b1 : (t344.toList != a0_3.toList) = true := bne_iff_ne.mpr c206
          exact absurd H (by simp)
        ·rw [if_neg c205] at H
         have c205b0 : (t346 == true) = false := by simpa using c205
         (try (have c205b1 : decide (t346 = true) = false := by simpa using c205))
         (try (have c205b2 : (t346 == true) = false := by simpa using c205))
         (try (have c205b3 : ¬ (t346 = true) := by simpa using c205))
         clear c205
         exact absurd H (by simp)
       ·replace c204 := Bool.eq_false_iff.mpr c204
        subst c204
        have H1 : (if (t346 == (a2 == 2)) = true then (if t344.toList = a0_3.toList then (if t345 = (wrap64 (a0_4 + 1)) then (if t341.toList = a0_0.toList then (if t342 = a0_1 then (if t343.toList = a0_2.toList then (if t347 = a0_6 then (if t348 = a0_7 then (if ((t349 == 0) == true) = true then (some ((t349 == 2) == (a2 == 0))) else (none)) else (none)) else (none)) else (none)) else (none)) else (none)) else (none)) else (none)) else (none)) = some r := by rw [if_neg (show ¬ (false = true) by decide)] at H; exact H
        clear H
        have H := H1
        clear H1
        by_cases c264 : (t346 == (a2 == 2)) = true
        ·rw [if_pos c264] at H
         have c264b0 : (t346 == (a2 == 2)) = true := c264
         (try (have c264b1 : decide (t346 = (a2 == 2)) = true := by simpa using c264))
         (try (have c264b2 : (t346 == (a2 == 2)) = true := by simpa using c264))
         clear c264
         by_cases c265 : t344.toList = a0_3.toList
         ·rw [if_pos c265] at H
          have c265b0 : (t344.toList == a0_3.toList) = true := beq_iff_eq.mpr c265
          have c265b1 : (t344.toList != a0_3.toList) = false := bne_eq_false_iff_eq.mpr c265
          clear c265
          by_cases c266 : t345 = (wrap64 (a0_4 + 1))
          ·rw [if_pos c266] at H
           have c266b0 : (t345 == (wrap64 (a0_4 + 1))) = true := beq_iff_eq.mpr c266
           have c266b1 : (t345 != (wrap64 (a0_4 + 1))) = false := bne_eq_false_iff_eq.mpr c266
           clear c266
           by_cases c267 : t341.toList = a0_0.toList
           ·rw [if_pos c267] at H
            have c267b0 : (t341.toList == a0_0.toList) = true := beq_iff_eq.mpr c267
            have c267b1 : (t341.toList != a0_0.toList) = false := bne_eq_false_iff_eq.mpr c267
            clear c267
            by_cases c268 : t342 = a0_1
            ·rw [if_pos c268] at H
             have c268b0 : (t342 == a0_1) = true := beq_iff_eq.mpr c268
             have c268b1 : (t342 != a0_1) = false := bne_eq_false_iff_eq.mpr c268
             clear c268
             by_cases c269 : t343.toList = a0_2.toList
             ·rw [if_pos c269] at H
              have c269b0 : (t343.toList == a0_2.toList) = true := beq_iff_eq.mpr c269
              have c269b1 : (t343.toList != a0_2.toList) = false := bne_eq_false_iff_eq.mpr c269
              clear c269
              by_cases c270 : t347 = a0_6
              ·rw [if_pos c270] at H
               have c270b0 : (t347 == a0_6) = true := beq_iff_eq.mpr c270
               have c270b1 : (t347 != a0_6) = false := bne_eq_false_iff_eq.mpr c270
               clear c270
               by_cases c271 : t348 = a0_7
               ·rw [if_pos c271] at H
                have c271b0 : (t348 == a0_7) = true := beq_iff_eq.mpr c271
                have c271b1 : (t348 != a0_7) = false := bne_eq_false_iff_eq.mpr c271
                clear c271
                by_cases c272 : ((t349 == 0) == true) = true
                ·rw [if_pos c272] at H
                 have c272b0 : ((t349 == 0) == true) = true := c272
                 try have c272e : (t349 == 0) = true := by simpa using c272b0
                 (try (have c272b1 : decide ((t349 == 0) = true) = true := by simpa using c272))
                 (try (have c272b2 : ((t349 == 0) == true) = true := by simpa using c272))
                 clear c272
                 obtain rfl := Option.some.inj H
                 have hnb273 := NB338_339.out
                 have hnc273 := NB339_338.out
                 have hnb274 := NB338_351.out
                 have hnc274 := NB351_338.out
                 have hcz275_0 : wc.cell? ⟨gb338, 0, none⟩ = some (.string a0_0) := (blk_cell BK338.out 0).trans rfl
                 have hcz275_1 : wc.cell? ⟨gb338, 1, none⟩ = some (.int .i64 a0_1) := (blk_cell BK338.out 1).trans rfl
                 have hcz275_2 : wc.cell? ⟨gb338, 2, none⟩ = some (.string a0_2) := (blk_cell BK338.out 2).trans rfl
                 have hcz275_3 : wc.cell? ⟨gb338, 3, none⟩ = some (.string a0_3) := (blk_cell BK338.out 3).trans rfl
                 have hcz275_4 : wc.cell? ⟨gb338, 4, none⟩ = some (.int .i64 a0_4) := (blk_cell BK338.out 4).trans rfl
                 have hcz275_5 : wc.cell? ⟨gb338, 5, none⟩ = some (.bool false) := (blk_cell BK338.out 5).trans rfl
                 have hcz275_6 : wc.cell? ⟨gb338, 6, none⟩ = some (.int .i64 a0_6) := (blk_cell BK338.out 6).trans rfl
                 have hcz275_7 : wc.cell? ⟨gb338, 7, none⟩ = some (.int .i64 a0_7) := (blk_cell BK338.out 7).trans rfl
                 have hfz275_0 := blk_frozen BK338.out 0
                 have hfz275_1 := blk_frozen BK338.out 1
                 have hfz275_2 := blk_frozen BK338.out 2
                 have hfz275_3 := blk_frozen BK338.out 3
                 have hfz275_4 := blk_frozen BK338.out 4
                 have hfz275_5 := blk_frozen BK338.out 5
                 have hfz275_6 := blk_frozen BK338.out 6
                 have hfz275_7 := blk_frozen BK338.out 7
                 have hnb276 := NB351_339.out
                 have hnc276 := NB339_351.out
                 have hcz277_0 : wc.cell? ⟨gb351, 0, none⟩ = some (.string t341) := (blk_cell BK351.out 0).trans rfl
                 have hcz277_1 : wc.cell? ⟨gb351, 1, none⟩ = some (.int .i64 t342) := (blk_cell BK351.out 1).trans rfl
                 have hcz277_2 : wc.cell? ⟨gb351, 2, none⟩ = some (.string t343) := (blk_cell BK351.out 2).trans rfl
                 have hcz277_3 : wc.cell? ⟨gb351, 3, none⟩ = some (.string t344) := (blk_cell BK351.out 3).trans rfl
                 have hcz277_4 : wc.cell? ⟨gb351, 4, none⟩ = some (.int .i64 t345) := (blk_cell BK351.out 4).trans rfl
                 have hcz277_5 : wc.cell? ⟨gb351, 5, none⟩ = some (.bool t346) := (blk_cell BK351.out 5).trans rfl
                 have hcz277_6 : wc.cell? ⟨gb351, 6, none⟩ = some (.int .i64 t347) := (blk_cell BK351.out 6).trans rfl
                 have hcz277_7 : wc.cell? ⟨gb351, 7, none⟩ = some (.int .i64 t348) := (blk_cell BK351.out 7).trans rfl
                 have hfz277_0 := blk_frozen BK351.out 0
                 have hfz277_1 := blk_frozen BK351.out 1
                 have hfz277_2 := blk_frozen BK351.out 2
                 have hfz277_3 := blk_frozen BK351.out 3
                 have hfz277_4 := blk_frozen BK351.out 4
                 have hfz277_5 := blk_frozen BK351.out 5
                 have hfz277_6 := blk_frozen BK351.out 6
                 have hfz277_7 := blk_frozen BK351.out 7
                 go_wp2
                 go_ret
                 exact ⟨by first | rfl | (simp [errW_none, errW_some] <;> rfl) | (simp [*, errW_none, errW_some] <;> rfl), by repeat (first | (with_reducible first | exact HB.out | apply below_alloc | apply pw_below_drewN | apply below_drew1 | refine below_set ?_ GE338.out | refine below_set ?_ GE339.out | refine below_set ?_ GE351.out) | exact HB.out)⟩
                ·rw [if_neg c272] at H
                 have c272b0 : ((t349 == 0) == true) = false := by simpa using c272
                 try have c272e : (t349 == 0) = false := by simpa using c272b0
                 (try (have c272b1 : decide ((t349 == 0) = true) = false := by simpa using c272))
                 (try (have c272b2 : ((t349 == 0) == true) = false := by simpa using c272))
                 (try (have c272b3 : ¬ ((t349 == 0) = true) := by simpa using c272))
                 clear c272
                 exact absurd H (by simp)
               ·rw [if_neg c271] at H
                have c271b0 : (t348 == a0_7) = false := beq_eq_false_iff_ne.mpr c271
                have c271b1 : (t348 != a0_7) = true := bne_iff_ne.mpr c271
                exact absurd H (by simp)
              ·rw [if_neg c270] at H
               have c270b0 : (t347 == a0_6) = false := beq_eq_false_iff_ne.mpr c270
               have c270b1 : (t347 != a0_6) = true := bne_iff_ne.mpr c270
               exact absurd H (by simp)
             ·rw [if_neg c269] at H
              have c269b0 : (t343.toList == a0_2.toList) = false := beq_eq_false_iff_ne.mpr c269
              have c269b1 : (t343.toList != a0_2.toList) = true := bne_iff_ne.mpr c269
              exact absurd H (by simp)
            ·rw [if_neg c268] at H
             have c268b0 : (t342 == a0_1) = false := beq_eq_false_iff_ne.mpr c268
             have c268b1 : (t342 != a0_1) = true := bne_iff_ne.mpr c268
             exact absurd H (by simp)
           ·rw [if_neg c267] at H
            have c267b0 : (t341.toList == a0_0.toList) = false := beq_eq_false_iff_ne.mpr c267
            have c267b1 : (t341.toList != a0_0.toList) = true := bne_iff_ne.mpr c267
            exact absurd H (by simp)
          ·rw [if_neg c266] at H
           have c266b0 : (t345 == (wrap64 (a0_4 + 1))) = false := beq_eq_false_iff_ne.mpr c266
           have c266b1 : (t345 != (wrap64 (a0_4 + 1))) = true := bne_iff_ne.mpr c266
           exact absurd H (by simp)
         ·rw [if_neg c265] at H
          have c265b0 : (t344.toList == a0_3.toList) = false := beq_eq_false_iff_ne.mpr c265
          have c265b1 : (t344.toList != a0_3.toList) = true := bne_iff_ne.mpr c265
          exact absurd H (by simp)
        ·rw [if_neg c264] at H
         have c264b0 : (t346 == (a2 == 2)) = false := by simpa using c264
         (try (have c264b1 : decide (t346 = (a2 == 2)) = false := by simpa using c264))
         (try (have c264b2 : (t346 == (a2 == 2)) = false := by simpa using c264))
         (try (have c264b3 : ¬ (t346 = (a2 == 2)) := by simpa using c264))
         clear c264
         exact absurd H (by simp)
     ·replace c22 := Bool.eq_false_iff.mpr c22
      subst c22
      have H1 : (if (a2 == 3) = true then ((wimpleref1_Fold.f kj8 a1_0).bind fun t354 => (if a0_5 = true then (if (t346 == true) = true then (if t344.toList = t354.toList then (if t345 = a0_4 then (if t341.toList = a0_0.toList then (if t342 = a0_1 then (if t343.toList = a0_2.toList then (if t347 = a0_6 then (if t348 = a0_7 then (if ((t349 == 0) == (a2 == 2)) = true then (some ((t349 == 2) == (a2 == 0))) else (none)) else (none)) else (none)) else (none)) else (none)) else (none)) else (none)) else (none)) else (none)) else (if (t346 == (a2 == 2)) = true then (if t344.toList = t354.toList then (if t345 = a0_4 then (if t341.toList = a0_0.toList then (if t342 = a0_1 then (if t343.toList = a0_2.toList then (if t347 = a0_6 then (if t348 = a0_7 then (if ((t349 == 0) == (a2 == 2)) = true then (some ((t349 == 2) == (a2 == 0))) else (none)) else (none)) else (none)) else (none)) else (none)) else (none)) else (none)) else (none)) else (none)))) else (if a0_5 = true then (if (t346 == true) = true then (if t344.toList = a0_3.toList then (if t345 = a0_4 then (if t341.toList = a0_0.toList then (if t342 = a0_1 then (if t343.toList = a0_2.toList then (if t347 = a0_6 then (if t348 = a0_7 then (if ((t349 == 0) == (a2 == 2)) = true then (some ((t349 == 2) == (a2 == 0))) else (none)) else (none)) else (none)) else (none)) else (none)) else (none)) else (none)) else (none)) else (none)) else (if (t346 == (a2 == 2)) = true then (if t344.toList = a0_3.toList then (if t345 = a0_4 then (if t341.toList = a0_0.toList then (if t342 = a0_1 then (if t343.toList = a0_2.toList then (if t347 = a0_6 then (if t348 = a0_7 then (if ((t349 == 0) == (a2 == 2)) = true then (some ((t349 == 2) == (a2 == 0))) else (none)) else (none)) else (none)) else (none)) else (none)) else (none)) else (none)) else (none)) else (none)))) = some r := by rw [if_neg (show ¬ (false = true) by decide)] at H; exact H
      clear H
      have H := H1
      clear H1
      by_cases c323 : (a2 == 3) = true
      ·rw [if_pos c323] at H
       have c323b0 : (a2 == 3) = true := c323
       (try (have c323b1 : decide (a2 = 3) = true := by simpa using c323))
       (try (have c323b2 : (a2 == 3) = true := by simpa using c323))
       clear c323
       replace H := Option.bind_eq_some_iff.mp H
       obtain ⟨t354, A3240, H⟩ := H
       replace H : (if a0_5 = true then (if (t346 == true) = true then (if t344.toList = t354.toList then (if t345 = a0_4 then (if t341.toList = a0_0.toList then (if t342 = a0_1 then (if t343.toList = a0_2.toList then (if t347 = a0_6 then (if t348 = a0_7 then (if ((t349 == 0) == (a2 == 2)) = true then (some ((t349 == 2) == (a2 == 0))) else (none)) else (none)) else (none)) else (none)) else (none)) else (none)) else (none)) else (none)) else (none)) else (if (t346 == (a2 == 2)) = true then (if t344.toList = t354.toList then (if t345 = a0_4 then (if t341.toList = a0_0.toList then (if t342 = a0_1 then (if t343.toList = a0_2.toList then (if t347 = a0_6 then (if t348 = a0_7 then (if ((t349 == 0) == (a2 == 2)) = true then (some ((t349 == 2) == (a2 == 0))) else (none)) else (none)) else (none)) else (none)) else (none)) else (none)) else (none)) else (none)) else (none))) = some r := H
       have A324 := Aside0.mk A3240
       clear A3240
       by_cases c325 : a0_5 = true
       ·subst c325
        have H1 : (if (t346 == true) = true then (if t344.toList = t354.toList then (if t345 = a0_4 then (if t341.toList = a0_0.toList then (if t342 = a0_1 then (if t343.toList = a0_2.toList then (if t347 = a0_6 then (if t348 = a0_7 then (if ((t349 == 0) == (a2 == 2)) = true then (some ((t349 == 2) == (a2 == 0))) else (none)) else (none)) else (none)) else (none)) else (none)) else (none)) else (none)) else (none)) else (none)) = some r := by rw [if_pos rfl] at H; exact H
        clear H
        have H := H1
        clear H1
        by_cases c326 : (t346 == true) = true
        ·rw [if_pos c326] at H
         have c326b0 : (t346 == true) = true := c326
         (try (have c326b1 : decide (t346 = true) = true := by simpa using c326))
         (try (have c326b2 : (t346 == true) = true := by simpa using c326))
         clear c326
         by_cases c327 : t344.toList = t354.toList
         ·rw [if_pos c327] at H
          have c327b0 : (t344.toList == t354.toList) = true := beq_iff_eq.mpr c327
          have c327b1 : (t344.toList != t354.toList) = false := bne_eq_false_iff_eq.mpr c327
          clear c327
          by_cases c328 : t345 = a0_4
          ·rw [if_pos c328] at H
           have c328b0 : (t345 == a0_4) = true := beq_iff_eq.mpr c328
           have c328b1 : (t345 != a0_4) = false := bne_eq_false_iff_eq.mpr c328
           clear c328
           by_cases c329 : t341.toList = a0_0.toList
           ·rw [if_pos c329] at H
            have c329b0 : (t341.toList == a0_0.toList) = true := beq_iff_eq.mpr c329
            have c329b1 : (t341.toList != a0_0.toList) = false := bne_eq_false_iff_eq.mpr c329
            clear c329
            by_cases c330 : t342 = a0_1
            ·rw [if_pos c330] at H
             have c330b0 : (t342 == a0_1) = true := beq_iff_eq.mpr c330
             have c330b1 : (t342 != a0_1) = false := bne_eq_false_iff_eq.mpr c330
             clear c330
             by_cases c331 : t343.toList = a0_2.toList
             ·rw [if_pos c331] at H
              have c331b0 : (t343.toList == a0_2.toList) = true := beq_iff_eq.mpr c331
              have c331b1 : (t343.toList != a0_2.toList) = false := bne_eq_false_iff_eq.mpr c331
              clear c331
              by_cases c332 : t347 = a0_6
              ·rw [if_pos c332] at H
               have c332b0 : (t347 == a0_6) = true := beq_iff_eq.mpr c332
               have c332b1 : (t347 != a0_6) = false := bne_eq_false_iff_eq.mpr c332
               clear c332
               by_cases c333 : t348 = a0_7
               ·rw [if_pos c333] at H
                have c333b0 : (t348 == a0_7) = true := beq_iff_eq.mpr c333
                have c333b1 : (t348 != a0_7) = false := bne_eq_false_iff_eq.mpr c333
                clear c333
                by_cases c334 : ((t349 == 0) == (a2 == 2)) = true
                ·rw [if_pos c334] at H
                 have c334b0 : ((t349 == 0) == (a2 == 2)) = true := c334
                 try have c334e : (t349 == 0) = (a2 == 2) := eq_of_beq c334b0
                 (try (have c334b1 : decide ((t349 == 0) = (a2 == 2)) = true := by simpa using c334))
                 (try (have c334b2 : ((t349 == 0) == (a2 == 2)) = true := by simpa using c334))
                 clear c334
                 obtain rfl := Option.some.inj H
                 have hnb335 := NB338_339.out
                 have hnc335 := NB339_338.out
                 have hnb336 := NB338_351.out
                 have hnc336 := NB351_338.out
                 have hcz337_0 : wc.cell? ⟨gb338, 0, none⟩ = some (.string a0_0) := (blk_cell BK338.out 0).trans rfl
                 have hcz337_1 : wc.cell? ⟨gb338, 1, none⟩ = some (.int .i64 a0_1) := (blk_cell BK338.out 1).trans rfl
                 have hcz337_2 : wc.cell? ⟨gb338, 2, none⟩ = some (.string a0_2) := (blk_cell BK338.out 2).trans rfl
                 have hcz337_3 : wc.cell? ⟨gb338, 3, none⟩ = some (.string a0_3) := (blk_cell BK338.out 3).trans rfl
                 have hcz337_4 : wc.cell? ⟨gb338, 4, none⟩ = some (.int .i64 a0_4) := (blk_cell BK338.out 4).trans rfl
                 have hcz337_5 : wc.cell? ⟨gb338, 5, none⟩ = some (.bool true) := (blk_cell BK338.out 5).trans rfl
                 have hcz337_6 : wc.cell? ⟨gb338, 6, none⟩ = some (.int .i64 a0_6) := (blk_cell BK338.out 6).trans rfl
                 have hcz337_7 : wc.cell? ⟨gb338, 7, none⟩ = some (.int .i64 a0_7) := (blk_cell BK338.out 7).trans rfl
                 have hfz337_0 := blk_frozen BK338.out 0
                 have hfz337_1 := blk_frozen BK338.out 1
                 have hfz337_2 := blk_frozen BK338.out 2
                 have hfz337_3 := blk_frozen BK338.out 3
                 have hfz337_4 := blk_frozen BK338.out 4
                 have hfz337_5 := blk_frozen BK338.out 5
                 have hfz337_6 := blk_frozen BK338.out 6
                 have hfz337_7 := blk_frozen BK338.out 7
                 have hnb338 := NB339_351.out
                 have hnc338 := NB351_339.out
                 have hcz339_0 : wc.cell? ⟨gb339, 0, none⟩ = some (.string a1_0) := (blk_cell BK339.out 0).trans rfl
                 have hcz339_1 : wc.cell? ⟨gb339, 1, none⟩ = some (.int .i64 a1_1) := (blk_cell BK339.out 1).trans rfl
                 have hfz339_0 := blk_frozen BK339.out 0
                 have hfz339_1 := blk_frozen BK339.out 1
                 go_wp2_with (first | ((with_reducible refine gate_callee (f := 17) rfl ?_); refine goesL_ (some 56) rfl rfl Try.func17 (by kernel_rfl) rfl #[.string a1_0] rfl (by (try simp only [List.map_toArray, List.map_cons, List.map_nil]); first | done | rfl | (simp only [List.length_drop, List.length_take]; rfl)) ?_; (with_reducible refine (wimpleref1_Fold.calls kj8 a1_0 t354 _ A324.out).mono ?_); rintro e w340 ⟨rfl, hb⟩; refine ⟨_, rfl, ?_⟩; have n0_ := Aside0.mk (blk_below (g := gb338) (o := .cells #[.string a0_0, .int .i64 a0_1, .string a0_2, .string a0_3, .int .i64 a0_4, .bool true, .int .i64 a0_6, .int .i64 a0_7] 23 (0, 0)) (by (with_reducible repeat (first | refine blk_drewN ?_ _ | refine blk_drew ?_ | refine blk_alloc ?_ _)); exact BK338.out) hb); have n1_ := Aside0.mk (blk_below (g := gb339) (o := .cells #[.string a1_0, .int .i64 a1_1] 25 (0, 0)) (by (with_reducible repeat (first | refine blk_drewN ?_ _ | refine blk_drew ?_ | refine blk_alloc ?_ _)); exact BK339.out) hb); have n2_ := Aside0.mk (blk_below (g := gb351) (o := .cells #[.string t341, .int .i64 t342, .string t343, .string t344, .int .i64 t345, .bool t346, .int .i64 t347, .int .i64 t348] 23 (0, 0)) (by (with_reducible repeat (first | refine blk_drewN ?_ _ | refine blk_drew ?_ | refine blk_alloc ?_ _)); exact BK351.out) hb); have n3_ := Aside0.mk (below_step (by repeat (first | (with_reducible first | exact HB.out | apply below_alloc | apply pw_below_drewN | apply below_drew1 | refine below_set ?_ GE338.out | refine below_set ?_ GE339.out | refine below_set ?_ GE351.out) | exact HB.out)) hb); clear BK338; clear BK339; clear BK351; clear HB; have BK338 := n0_; have BK339 := n1_; have BK351 := n2_; have HB := n3_; clear n0_ n1_ n2_ n3_; (try clear hb); (try clear hb2); (try clear hk); (try clear hi); have hcz341_0 : w340.cell? ⟨gb351, 0, none⟩ = some (.string t341) := (blk_cell BK351.out 0).trans rfl; have hcz341_1 : w340.cell? ⟨gb351, 1, none⟩ = some (.int .i64 t342) := (blk_cell BK351.out 1).trans rfl; have hcz341_2 : w340.cell? ⟨gb351, 2, none⟩ = some (.string t343) := (blk_cell BK351.out 2).trans rfl; have hcz341_3 : w340.cell? ⟨gb351, 3, none⟩ = some (.string t344) := (blk_cell BK351.out 3).trans rfl; have hcz341_4 : w340.cell? ⟨gb351, 4, none⟩ = some (.int .i64 t345) := (blk_cell BK351.out 4).trans rfl; have hcz341_5 : w340.cell? ⟨gb351, 5, none⟩ = some (.bool t346) := (blk_cell BK351.out 5).trans rfl; have hcz341_6 : w340.cell? ⟨gb351, 6, none⟩ = some (.int .i64 t347) := (blk_cell BK351.out 6).trans rfl; have hcz341_7 : w340.cell? ⟨gb351, 7, none⟩ = some (.int .i64 t348) := (blk_cell BK351.out 7).trans rfl; have hfz341_0 := blk_frozen BK351.out 0; have hfz341_1 := blk_frozen BK351.out 1; have hfz341_2 := blk_frozen BK351.out 2; have hfz341_3 := blk_frozen BK351.out 3; have hfz341_4 := blk_frozen BK351.out 4; have hfz341_5 := blk_frozen BK351.out 5; have hfz341_6 := blk_frozen BK351.out 6; have hfz341_7 := blk_frozen BK351.out 7; have hcz342_0 : w340.cell? ⟨gb338, 0, none⟩ = some (.string a0_0) := (blk_cell BK338.out 0).trans rfl; have hcz342_1 : w340.cell? ⟨gb338, 1, none⟩ = some (.int .i64 a0_1) := (blk_cell BK338.out 1).trans rfl; have hcz342_2 : w340.cell? ⟨gb338, 2, none⟩ = some (.string a0_2) := (blk_cell BK338.out 2).trans rfl; have hcz342_3 : w340.cell? ⟨gb338, 3, none⟩ = some (.string a0_3) := (blk_cell BK338.out 3).trans rfl; have hcz342_4 : w340.cell? ⟨gb338, 4, none⟩ = some (.int .i64 a0_4) := (blk_cell BK338.out 4).trans rfl; have hcz342_5 : w340.cell? ⟨gb338, 5, none⟩ = some (.bool true) := (blk_cell BK338.out 5).trans rfl; have hcz342_6 : w340.cell? ⟨gb338, 6, none⟩ = some (.int .i64 a0_6) := (blk_cell BK338.out 6).trans rfl; have hcz342_7 : w340.cell? ⟨gb338, 7, none⟩ = some (.int .i64 a0_7) := (blk_cell BK338.out 7).trans rfl; have hfz342_0 := blk_frozen BK338.out 0; have hfz342_1 := blk_frozen BK338.out 1; have hfz342_2 := blk_frozen BK338.out 2; have hfz342_3 := blk_frozen BK338.out 3; have hfz342_4 := blk_frozen BK338.out 4; have hfz342_5 := blk_frozen BK338.out 5; have hfz342_6 := blk_frozen BK338.out 6; have hfz342_7 := blk_frozen BK338.out 7))
                 go_ret
                 exact ⟨by first | rfl | (simp [errW_none, errW_some] <;> rfl) | (simp [*, errW_none, errW_some] <;> rfl), by repeat (first | (with_reducible first | exact HB.out | apply below_alloc | apply pw_below_drewN | apply below_drew1 | refine below_set ?_ GE338.out | refine below_set ?_ GE339.out | refine below_set ?_ GE351.out) | exact HB.out)⟩
                ·rw [if_neg c334] at H
                 have c334b0 : ((t349 == 0) == (a2 == 2)) = false := by simpa using c334
                 try have c334e : (t349 == 0) = !((a2 == 2)) := (by have h_ := c334b0; revert h_; cases (t349 == 0) <;> cases ((a2 == 2)) <;> simp)
                 (try (have c334b1 : decide ((t349 == 0) = (a2 == 2)) = false := by simpa using c334))
                 (try (have c334b2 : ((t349 == 0) == (a2 == 2)) = false := by simpa using c334))
                 (try (have c334b3 : ¬ ((t349 == 0) = (a2 == 2)) := by simpa using c334))
                 clear c334
                 exact absurd H (by simp)
               ·rw [if_neg c333] at H
                have c333b0 : (t348 == a0_7) = false := beq_eq_false_iff_ne.mpr c333
                have c333b1 : (t348 != a0_7) = true := bne_iff_ne.mpr c333
                exact absurd H (by simp)
              ·rw [if_neg c332] at H
               have c332b0 : (t347 == a0_6) = false := beq_eq_false_iff_ne.mpr c332
               have c332b1 : (t347 != a0_6) = true := bne_iff_ne.mpr c332
               exact absurd H (by simp)
             ·rw [if_neg c331] at H
              have c331b0 : (t343.toList == a0_2.toList) = false := beq_eq_false_iff_ne.mpr c331
              have c331b1 : (t343.toList != a0_2.toList) = true := bne_iff_ne.mpr c331
              exact absurd H (by simp)
            ·rw [if_neg c330] at H
             have c330b0 : (t342 == a0_1) = false := beq_eq_false_iff_ne.mpr c330
             have c330b1 : (t342 != a0_1) = true := bne_iff_ne.mpr c330
             exact absurd H (by simp)
           ·rw [if_neg c329] at H
            have c329b0 : (t341.toList == a0_0.toList) = false := beq_eq_false_iff_ne.mpr c329
            have c329b1 : (t341.toList != a0_0.toList) = true := bne_iff_ne.mpr c329
            exact absurd H (by simp)
          ·rw [if_neg c328] at H
           have c328b0 : (t345 == a0_4) = false := beq_eq_false_iff_ne.mpr c328
           have c328b1 : (t345 != a0_4) = true := bne_iff_ne.mpr c328
           exact absurd H (by simp)
         ·rw [if_neg c327] at H
          have c327b0 : (t344.toList == t354.toList) = false := beq_eq_false_iff_ne.mpr c327
          have c327b1 : (t344.toList != t354.toList) = true := bne_iff_ne.mpr c327
          exact absurd H (by simp)
        ·rw [if_neg c326] at H
         have c326b0 : (t346 == true) = false := by simpa using c326
         (try (have c326b1 : decide (t346 = true) = false := by simpa using c326))
         (try (have c326b2 : (t346 == true) = false := by simpa using c326))
         (try (have c326b3 : ¬ (t346 = true) := by simpa using c326))
         clear c326
         exact absurd H (by simp)
       ·replace c325 := Bool.eq_false_iff.mpr c325
        subst c325
        have H1 : (if (t346 == (a2 == 2)) = true then (if t344.toList = t354.toList then (if t345 = a0_4 then (if t341.toList = a0_0.toList then (if t342 = a0_1 then (if t343.toList = a0_2.toList then (if t347 = a0_6 then (if t348 = a0_7 then (if ((t349 == 0) == (a2 == 2)) = true then (some ((t349 == 2) == (a2 == 0))) else (none)) else (none)) else (none)) else (none)) else (none)) else (none)) else (none)) else (none)) else (none)) = some r := by rw [if_neg (show ¬ (false = true) by decide)] at H; exact H
        clear H
        have H := H1
        clear H1
        by_cases c415 : (t346 == (a2 == 2)) = true
        ·rw [if_pos c415] at H
         have c415b0 : (t346 == (a2 == 2)) = true := c415
         (try (have c415b1 : decide (t346 = (a2 == 2)) = true := by simpa using c415))
         (try (have c415b2 : (t346 == (a2 == 2)) = true := by simpa using c415))
         clear c415
         by_cases c416 : t344.toList = t354.toList
         ·rw [if_pos c416] at H
          have c416b0 : (t344.toList == t354.toList) = true := beq_iff_eq.mpr c416
          have c416b1 : (t344.toList != t354.toList) = false := bne_eq_false_iff_eq.mpr c416
          clear c416
          by_cases c417 : t345 = a0_4
          ·rw [if_pos c417] at H
           have c417b0 : (t345 == a0_4) = true := beq_iff_eq.mpr c417
           have c417b1 : (t345 != a0_4) = false := bne_eq_false_iff_eq.mpr c417
           clear c417
           by_cases c418 : t341.toList = a0_0.toList
           ·rw [if_pos c418] at H
            have c418b0 : (t341.toList == a0_0.toList) = true := beq_iff_eq.mpr c418
            have c418b1 : (t341.toList != a0_0.toList) = false := bne_eq_false_iff_eq.mpr c418
            clear c418
            by_cases c419 : t342 = a0_1
            ·rw [if_pos c419] at H
             have c419b0 : (t342 == a0_1) = true := beq_iff_eq.mpr c419
             have c419b1 : (t342 != a0_1) = false := bne_eq_false_iff_eq.mpr c419
             clear c419
             by_cases c420 : t343.toList = a0_2.toList
             ·rw [if_pos c420] at H
              have c420b0 : (t343.toList == a0_2.toList) = true := beq_iff_eq.mpr c420
              have c420b1 : (t343.toList != a0_2.toList) = false := bne_eq_false_iff_eq.mpr c420
              clear c420
              by_cases c421 : t347 = a0_6
              ·rw [if_pos c421] at H
               have c421b0 : (t347 == a0_6) = true := beq_iff_eq.mpr c421
               have c421b1 : (t347 != a0_6) = false := bne_eq_false_iff_eq.mpr c421
               clear c421
               by_cases c422 : t348 = a0_7
               ·rw [if_pos c422] at H
                have c422b0 : (t348 == a0_7) = true := beq_iff_eq.mpr c422
                have c422b1 : (t348 != a0_7) = false := bne_eq_false_iff_eq.mpr c422
                clear c422
                by_cases c423 : ((t349 == 0) == (a2 == 2)) = true
                ·rw [if_pos c423] at H
                 have c423b0 : ((t349 == 0) == (a2 == 2)) = true := c423
                 try have c423e : (t349 == 0) = (a2 == 2) := eq_of_beq c423b0
                 (try (have c423b1 : decide ((t349 == 0) = (a2 == 2)) = true := by simpa using c423))
                 (try (have c423b2 : ((t349 == 0) == (a2 == 2)) = true := by simpa using c423))
                 clear c423
                 obtain rfl := Option.some.inj H
                 have hnb424 := NB338_339.out
                 have hnc424 := NB339_338.out
                 have hnb425 := NB338_351.out
                 have hnc425 := NB351_338.out
                 have hcz426_0 : wc.cell? ⟨gb338, 0, none⟩ = some (.string a0_0) := (blk_cell BK338.out 0).trans rfl
                 have hcz426_1 : wc.cell? ⟨gb338, 1, none⟩ = some (.int .i64 a0_1) := (blk_cell BK338.out 1).trans rfl
                 have hcz426_2 : wc.cell? ⟨gb338, 2, none⟩ = some (.string a0_2) := (blk_cell BK338.out 2).trans rfl
                 have hcz426_3 : wc.cell? ⟨gb338, 3, none⟩ = some (.string a0_3) := (blk_cell BK338.out 3).trans rfl
                 have hcz426_4 : wc.cell? ⟨gb338, 4, none⟩ = some (.int .i64 a0_4) := (blk_cell BK338.out 4).trans rfl
                 have hcz426_5 : wc.cell? ⟨gb338, 5, none⟩ = some (.bool false) := (blk_cell BK338.out 5).trans rfl
                 have hcz426_6 : wc.cell? ⟨gb338, 6, none⟩ = some (.int .i64 a0_6) := (blk_cell BK338.out 6).trans rfl
                 have hcz426_7 : wc.cell? ⟨gb338, 7, none⟩ = some (.int .i64 a0_7) := (blk_cell BK338.out 7).trans rfl
                 have hfz426_0 := blk_frozen BK338.out 0
                 have hfz426_1 := blk_frozen BK338.out 1
                 have hfz426_2 := blk_frozen BK338.out 2
                 have hfz426_3 := blk_frozen BK338.out 3
                 have hfz426_4 := blk_frozen BK338.out 4
                 have hfz426_5 := blk_frozen BK338.out 5
                 have hfz426_6 := blk_frozen BK338.out 6
                 have hfz426_7 := blk_frozen BK338.out 7
                 have hnb427 := NB339_351.out
                 have hnc427 := NB351_339.out
                 have hcz428_0 : wc.cell? ⟨gb339, 0, none⟩ = some (.string a1_0) := (blk_cell BK339.out 0).trans rfl
                 have hcz428_1 : wc.cell? ⟨gb339, 1, none⟩ = some (.int .i64 a1_1) := (blk_cell BK339.out 1).trans rfl
                 have hfz428_0 := blk_frozen BK339.out 0
                 have hfz428_1 := blk_frozen BK339.out 1
                 go_wp2_with (first | ((with_reducible refine gate_callee (f := 17) rfl ?_); refine goesL_ (some 56) rfl rfl Try.func17 (by kernel_rfl) rfl #[.string a1_0] rfl (by (try simp only [List.map_toArray, List.map_cons, List.map_nil]); first | done | rfl | (simp only [List.length_drop, List.length_take]; rfl)) ?_; (with_reducible refine (wimpleref1_Fold.calls kj8 a1_0 t354 _ A324.out).mono ?_); rintro e w429 ⟨rfl, hb⟩; refine ⟨_, rfl, ?_⟩; have n0_ := Aside0.mk (blk_below (g := gb338) (o := .cells #[.string a0_0, .int .i64 a0_1, .string a0_2, .string a0_3, .int .i64 a0_4, .bool false, .int .i64 a0_6, .int .i64 a0_7] 23 (0, 0)) (by (with_reducible repeat (first | refine blk_drewN ?_ _ | refine blk_drew ?_ | refine blk_alloc ?_ _)); exact BK338.out) hb); have n1_ := Aside0.mk (blk_below (g := gb339) (o := .cells #[.string a1_0, .int .i64 a1_1] 25 (0, 0)) (by (with_reducible repeat (first | refine blk_drewN ?_ _ | refine blk_drew ?_ | refine blk_alloc ?_ _)); exact BK339.out) hb); have n2_ := Aside0.mk (blk_below (g := gb351) (o := .cells #[.string t341, .int .i64 t342, .string t343, .string t344, .int .i64 t345, .bool t346, .int .i64 t347, .int .i64 t348] 23 (0, 0)) (by (with_reducible repeat (first | refine blk_drewN ?_ _ | refine blk_drew ?_ | refine blk_alloc ?_ _)); exact BK351.out) hb); have n3_ := Aside0.mk (below_step (by repeat (first | (with_reducible first | exact HB.out | apply below_alloc | apply pw_below_drewN | apply below_drew1 | refine below_set ?_ GE338.out | refine below_set ?_ GE339.out | refine below_set ?_ GE351.out) | exact HB.out)) hb); clear BK338; clear BK339; clear BK351; clear HB; have BK338 := n0_; have BK339 := n1_; have BK351 := n2_; have HB := n3_; clear n0_ n1_ n2_ n3_; (try clear hb); (try clear hb2); (try clear hk); (try clear hi); have hcz430_0 : w429.cell? ⟨gb351, 0, none⟩ = some (.string t341) := (blk_cell BK351.out 0).trans rfl; have hcz430_1 : w429.cell? ⟨gb351, 1, none⟩ = some (.int .i64 t342) := (blk_cell BK351.out 1).trans rfl; have hcz430_2 : w429.cell? ⟨gb351, 2, none⟩ = some (.string t343) := (blk_cell BK351.out 2).trans rfl; have hcz430_3 : w429.cell? ⟨gb351, 3, none⟩ = some (.string t344) := (blk_cell BK351.out 3).trans rfl; have hcz430_4 : w429.cell? ⟨gb351, 4, none⟩ = some (.int .i64 t345) := (blk_cell BK351.out 4).trans rfl; have hcz430_5 : w429.cell? ⟨gb351, 5, none⟩ = some (.bool t346) := (blk_cell BK351.out 5).trans rfl; have hcz430_6 : w429.cell? ⟨gb351, 6, none⟩ = some (.int .i64 t347) := (blk_cell BK351.out 6).trans rfl; have hcz430_7 : w429.cell? ⟨gb351, 7, none⟩ = some (.int .i64 t348) := (blk_cell BK351.out 7).trans rfl; have hfz430_0 := blk_frozen BK351.out 0; have hfz430_1 := blk_frozen BK351.out 1; have hfz430_2 := blk_frozen BK351.out 2; have hfz430_3 := blk_frozen BK351.out 3; have hfz430_4 := blk_frozen BK351.out 4; have hfz430_5 := blk_frozen BK351.out 5; have hfz430_6 := blk_frozen BK351.out 6; have hfz430_7 := blk_frozen BK351.out 7; have hcz431_0 : w429.cell? ⟨gb338, 0, none⟩ = some (.string a0_0) := (blk_cell BK338.out 0).trans rfl; have hcz431_1 : w429.cell? ⟨gb338, 1, none⟩ = some (.int .i64 a0_1) := (blk_cell BK338.out 1).trans rfl; have hcz431_2 : w429.cell? ⟨gb338, 2, none⟩ = some (.string a0_2) := (blk_cell BK338.out 2).trans rfl; have hcz431_3 : w429.cell? ⟨gb338, 3, none⟩ = some (.string a0_3) := (blk_cell BK338.out 3).trans rfl; have hcz431_4 : w429.cell? ⟨gb338, 4, none⟩ = some (.int .i64 a0_4) := (blk_cell BK338.out 4).trans rfl; have hcz431_5 : w429.cell? ⟨gb338, 5, none⟩ = some (.bool false) := (blk_cell BK338.out 5).trans rfl; have hcz431_6 : w429.cell? ⟨gb338, 6, none⟩ = some (.int .i64 a0_6) := (blk_cell BK338.out 6).trans rfl; have hcz431_7 : w429.cell? ⟨gb338, 7, none⟩ = some (.int .i64 a0_7) := (blk_cell BK338.out 7).trans rfl; have hfz431_0 := blk_frozen BK338.out 0; have hfz431_1 := blk_frozen BK338.out 1; have hfz431_2 := blk_frozen BK338.out 2; have hfz431_3 := blk_frozen BK338.out 3; have hfz431_4 := blk_frozen BK338.out 4; have hfz431_5 := blk_frozen BK338.out 5; have hfz431_6 := blk_frozen BK338.out 6; have hfz431_7 := blk_frozen BK338.out 7))
                 go_ret
                 exact ⟨by first | rfl | (simp [errW_none, errW_some] <;> rfl) | (simp [*, errW_none, errW_some] <;> rfl), by repeat (first | (with_reducible first | exact HB.out | apply below_alloc | apply pw_below_drewN | apply below_drew1 | refine below_set ?_ GE338.out | refine below_set ?_ GE339.out | refine below_set ?_ GE351.out) | exact HB.out)⟩
                ·rw [if_neg c423] at H
                 have c423b0 : ((t349 == 0) == (a2 == 2)) = false := by simpa using c423
                 try have c423e : (t349 == 0) = !((a2 == 2)) := (by have h_ := c423b0; revert h_; cases (t349 == 0) <;> cases ((a2 == 2)) <;> simp)
                 (try (have c423b1 : decide ((t349 == 0) = (a2 == 2)) = false := by simpa using c423))
                 (try (have c423b2 : ((t349 == 0) == (a2 == 2)) = false := by simpa using c423))
                 (try (have c423b3 : ¬ ((t349 == 0) = (a2 == 2)) := by simpa using c423))
                 clear c423
                 exact absurd H (by simp)
               ·rw [if_neg c422] at H
                have c422b0 : (t348 == a0_7) = false := beq_eq_false_iff_ne.mpr c422
                have c422b1 : (t348 != a0_7) = true := bne_iff_ne.mpr c422
                exact absurd H (by simp)
              ·rw [if_neg c421] at H
               have c421b0 : (t347 == a0_6) = false := beq_eq_false_iff_ne.mpr c421
               have c421b1 : (t347 != a0_6) = true := bne_iff_ne.mpr c421
               exact absurd H (by simp)
             ·rw [if_neg c420] at H
              have c420b0 : (t343.toList == a0_2.toList) = false := beq_eq_false_iff_ne.mpr c420
              have c420b1 : (t343.toList != a0_2.toList) = true := bne_iff_ne.mpr c420
              exact absurd H (by simp)
            ·rw [if_neg c419] at H
             have c419b0 : (t342 == a0_1) = false := beq_eq_false_iff_ne.mpr c419
             have c419b1 : (t342 != a0_1) = true := bne_iff_ne.mpr c419
             exact absurd H (by simp)
           ·rw [if_neg c418] at H
            have c418b0 : (t341.toList == a0_0.toList) = false := beq_eq_false_iff_ne.mpr c418
            have c418b1 : (t341.toList != a0_0.toList) = true := bne_iff_ne.mpr c418
            exact absurd H (by simp)
          ·rw [if_neg c417] at H
           have c417b0 : (t345 == a0_4) = false := beq_eq_false_iff_ne.mpr c417
           have c417b1 : (t345 != a0_4) = true := bne_iff_ne.mpr c417
           exact absurd H (by simp)
         ·rw [if_neg c416] at H
          have c416b0 : (t344.toList == t354.toList) = false := beq_eq_false_iff_ne.mpr c416
          have c416b1 : (t344.toList != t354.toList) = true := bne_iff_ne.mpr c416
          exact absurd H (by simp)
        ·rw [if_neg c415] at H
         have c415b0 : (t346 == (a2 == 2)) = false := by simpa using c415
         (try (have c415b1 : decide (t346 = (a2 == 2)) = false := by simpa using c415))
         (try (have c415b2 : (t346 == (a2 == 2)) = false := by simpa using c415))
         (try (have c415b3 : ¬ (t346 = (a2 == 2)) := by simpa using c415))
         clear c415
         exact absurd H (by simp)
      ·rw [if_neg c323] at H
       have c323b0 : (a2 == 3) = false := by simpa using c323
       (try (have c323b1 : decide (a2 = 3) = false := by simpa using c323))
       (try (have c323b2 : (a2 == 3) = false := by simpa using c323))
       (try (have c323b3 : ¬ (a2 = 3) := by simpa using c323))
       clear c323
       by_cases c504 : a0_5 = true
       ·subst c504
        have H1 : (if (t346 == true) = true then (if t344.toList = a0_3.toList then (if t345 = a0_4 then (if t341.toList = a0_0.toList then (if t342 = a0_1 then (if t343.toList = a0_2.toList then (if t347 = a0_6 then (if t348 = a0_7 then (if ((t349 == 0) == (a2 == 2)) = true then (some ((t349 == 2) == (a2 == 0))) else (none)) else (none)) else (none)) else (none)) else (none)) else (none)) else (none)) else (none)) else (none)) = some r := by rw [if_pos rfl] at H; exact H
        clear H
        have H := H1
        clear H1
        by_cases c505 : (t346 == true) = true
        ·rw [if_pos c505] at H
         have c505b0 : (t346 == true) = true := c505
         (try (have c505b1 : decide (t346 = true) = true := by simpa using c505))
         (try (have c505b2 : (t346 == true) = true := by simpa using c505))
         clear c505
         by_cases c506 : t344.toList = a0_3.toList
         ·rw [if_pos c506] at H
          have c506b0 : (t344.toList == a0_3.toList) = true := beq_iff_eq.mpr c506
          have c506b1 : (t344.toList != a0_3.toList) = false := bne_eq_false_iff_eq.mpr c506
          clear c506
          by_cases c507 : t345 = a0_4
          ·rw [if_pos c507] at H
           have c507b0 : (t345 == a0_4) = true := beq_iff_eq.mpr c507
           have c507b1 : (t345 != a0_4) = false := bne_eq_false_iff_eq.mpr c507
           clear c507
           by_cases c508 : t341.toList = a0_0.toList
           ·rw [if_pos c508] at H
            have c508b0 : (t341.toList == a0_0.toList) = true := beq_iff_eq.mpr c508
            have c508b1 : (t341.toList != a0_0.toList) = false := bne_eq_false_iff_eq.mpr c508
            clear c508
            by_cases c509 : t342 = a0_1
            ·rw [if_pos c509] at H
             have c509b0 : (t342 == a0_1) = true := beq_iff_eq.mpr c509
             have c509b1 : (t342 != a0_1) = false := bne_eq_false_iff_eq.mpr c509
             clear c509
             by_cases c510 : t343.toList = a0_2.toList
             ·rw [if_pos c510] at H
              have c510b0 : (t343.toList == a0_2.toList) = true := beq_iff_eq.mpr c510
              have c510b1 : (t343.toList != a0_2.toList) = false := bne_eq_false_iff_eq.mpr c510
              clear c510
              by_cases c511 : t347 = a0_6
              ·rw [if_pos c511] at H
               have c511b0 : (t347 == a0_6) = true := beq_iff_eq.mpr c511
               have c511b1 : (t347 != a0_6) = false := bne_eq_false_iff_eq.mpr c511
               clear c511
               by_cases c512 : t348 = a0_7
               ·rw [if_pos c512] at H
                have c512b0 : (t348 == a0_7) = true := beq_iff_eq.mpr c512
                have c512b1 : (t348 != a0_7) = false := bne_eq_false_iff_eq.mpr c512
                clear c512
                by_cases c513 : ((t349 == 0) == (a2 == 2)) = true
                ·rw [if_pos c513] at H
                 have c513b0 : ((t349 == 0) == (a2 == 2)) = true := c513
                 try have c513e : (t349 == 0) = (a2 == 2) := eq_of_beq c513b0
                 (try (have c513b1 : decide ((t349 == 0) = (a2 == 2)) = true := by simpa using c513))
                 (try (have c513b2 : ((t349 == 0) == (a2 == 2)) = true := by simpa using c513))
                 clear c513
                 obtain rfl := Option.some.inj H
                 have hnb514 := NB338_339.out
                 have hnc514 := NB339_338.out
                 have hnb515 := NB338_351.out
                 have hnc515 := NB351_338.out
                 have hcz516_0 : wc.cell? ⟨gb338, 0, none⟩ = some (.string a0_0) := (blk_cell BK338.out 0).trans rfl
                 have hcz516_1 : wc.cell? ⟨gb338, 1, none⟩ = some (.int .i64 a0_1) := (blk_cell BK338.out 1).trans rfl
                 have hcz516_2 : wc.cell? ⟨gb338, 2, none⟩ = some (.string a0_2) := (blk_cell BK338.out 2).trans rfl
                 have hcz516_3 : wc.cell? ⟨gb338, 3, none⟩ = some (.string a0_3) := (blk_cell BK338.out 3).trans rfl
                 have hcz516_4 : wc.cell? ⟨gb338, 4, none⟩ = some (.int .i64 a0_4) := (blk_cell BK338.out 4).trans rfl
                 have hcz516_5 : wc.cell? ⟨gb338, 5, none⟩ = some (.bool true) := (blk_cell BK338.out 5).trans rfl
                 have hcz516_6 : wc.cell? ⟨gb338, 6, none⟩ = some (.int .i64 a0_6) := (blk_cell BK338.out 6).trans rfl
                 have hcz516_7 : wc.cell? ⟨gb338, 7, none⟩ = some (.int .i64 a0_7) := (blk_cell BK338.out 7).trans rfl
                 have hfz516_0 := blk_frozen BK338.out 0
                 have hfz516_1 := blk_frozen BK338.out 1
                 have hfz516_2 := blk_frozen BK338.out 2
                 have hfz516_3 := blk_frozen BK338.out 3
                 have hfz516_4 := blk_frozen BK338.out 4
                 have hfz516_5 := blk_frozen BK338.out 5
                 have hfz516_6 := blk_frozen BK338.out 6
                 have hfz516_7 := blk_frozen BK338.out 7
                 have hnb517 := NB351_339.out
                 have hnc517 := NB339_351.out
                 have hcz518_0 : wc.cell? ⟨gb351, 0, none⟩ = some (.string t341) := (blk_cell BK351.out 0).trans rfl
                 have hcz518_1 : wc.cell? ⟨gb351, 1, none⟩ = some (.int .i64 t342) := (blk_cell BK351.out 1).trans rfl
                 have hcz518_2 : wc.cell? ⟨gb351, 2, none⟩ = some (.string t343) := (blk_cell BK351.out 2).trans rfl
                 have hcz518_3 : wc.cell? ⟨gb351, 3, none⟩ = some (.string t344) := (blk_cell BK351.out 3).trans rfl
                 have hcz518_4 : wc.cell? ⟨gb351, 4, none⟩ = some (.int .i64 t345) := (blk_cell BK351.out 4).trans rfl
                 have hcz518_5 : wc.cell? ⟨gb351, 5, none⟩ = some (.bool t346) := (blk_cell BK351.out 5).trans rfl
                 have hcz518_6 : wc.cell? ⟨gb351, 6, none⟩ = some (.int .i64 t347) := (blk_cell BK351.out 6).trans rfl
                 have hcz518_7 : wc.cell? ⟨gb351, 7, none⟩ = some (.int .i64 t348) := (blk_cell BK351.out 7).trans rfl
                 have hfz518_0 := blk_frozen BK351.out 0
                 have hfz518_1 := blk_frozen BK351.out 1
                 have hfz518_2 := blk_frozen BK351.out 2
                 have hfz518_3 := blk_frozen BK351.out 3
                 have hfz518_4 := blk_frozen BK351.out 4
                 have hfz518_5 := blk_frozen BK351.out 5
                 have hfz518_6 := blk_frozen BK351.out 6
                 have hfz518_7 := blk_frozen BK351.out 7
                 go_wp2
                 go_ret
                 exact ⟨by first | rfl | (simp [errW_none, errW_some] <;> rfl) | (simp [*, errW_none, errW_some] <;> rfl), by repeat (first | (with_reducible first | exact HB.out | apply below_alloc | apply pw_below_drewN | apply below_drew1 | refine below_set ?_ GE338.out | refine below_set ?_ GE339.out | refine below_set ?_ GE351.out) | exact HB.out)⟩
                ·rw [if_neg c513] at H
                 have c513b0 : ((t349 == 0) == (a2 == 2)) = false := by simpa using c513
                 try have c513e : (t349 == 0) = !((a2 == 2)) := (by have h_ := c513b0; revert h_; cases (t349 == 0) <;> cases ((a2 == 2)) <;> simp)
                 (try (have c513b1 : decide ((t349 == 0) = (a2 == 2)) = false := by simpa using c513))
                 (try (have c513b2 : ((t349 == 0) == (a2 == 2)) = false := by simpa using c513))
                 (try (have c513b3 : ¬ ((t349 == 0) = (a2 == 2)) := by simpa using c513))
                 clear c513
                 exact absurd H (by simp)
               ·rw [if_neg c512] at H
                have c512b0 : (t348 == a0_7) = false := beq_eq_false_iff_ne.mpr c512
                have c512b1 : (t348 != a0_7) = true := bne_iff_ne.mpr c512
                exact absurd H (by simp)
              ·rw [if_neg c511] at H
               have c511b0 : (t347 == a0_6) = false := beq_eq_false_iff_ne.mpr c511
               have c511b1 : (t347 != a0_6) = true := bne_iff_ne.mpr c511
               exact absurd H (by simp)
             ·rw [if_neg c510] at H
              have c510b0 : (t343.toList == a0_2.toList) = false := beq_eq_false_iff_ne.mpr c510
              have c510b1 : (t343.toList != a0_2.toList) = true := bne_iff_ne.mpr c510
              exact absurd H (by simp)
            ·rw [if_neg c509] at H
             have c509b0 : (t342 == a0_1) = false := beq_eq_false_iff_ne.mpr c509
             have c509b1 : (t342 != a0_1) = true := bne_iff_ne.mpr c509
             exact absurd H (by simp)
           ·rw [if_neg c508] at H
            have c508b0 : (t341.toList == a0_0.toList) = false := beq_eq_false_iff_ne.mpr c508
            have c508b1 : (t341.toList != a0_0.toList) = true := bne_iff_ne.mpr c508
            exact absurd H (by simp)
          ·rw [if_neg c507] at H
           have c507b0 : (t345 == a0_4) = false := beq_eq_false_iff_ne.mpr c507
           have c507b1 : (t345 != a0_4) = true := bne_iff_ne.mpr c507
           exact absurd H (by simp)
         ·rw [if_neg c506] at H
          have c506b0 : (t344.toList == a0_3.toList) = false := beq_eq_false_iff_ne.mpr c506
          have c506b1 : (t344.toList != a0_3.toList) = true := bne_iff_ne.mpr c506
          exact absurd H (by simp)
        ·rw [if_neg c505] at H
         have c505b0 : (t346 == true) = false := by simpa using c505
         (try (have c505b1 : decide (t346 = true) = false := by simpa using c505))
         (try (have c505b2 : (t346 == true) = false := by simpa using c505))
         (try (have c505b3 : ¬ (t346 = true) := by simpa using c505))
         clear c505
         exact absurd H (by simp)
       ·replace c504 := Bool.eq_false_iff.mpr c504
        subst c504
        have H1 : (if (t346 == (a2 == 2)) = true then (if t344.toList = a0_3.toList then (if t345 = a0_4 then (if t341.toList = a0_0.toList then (if t342 = a0_1 then (if t343.toList = a0_2.toList then (if t347 = a0_6 then (if t348 = a0_7 then (if ((t349 == 0) == (a2 == 2)) = true then (some ((t349 == 2) == (a2 == 0))) else (none)) else (none)) else (none)) else (none)) else (none)) else (none)) else (none)) else (none)) else (none)) = some r := by rw [if_neg (show ¬ (false = true) by decide)] at H; exact H
        clear H
        have H := H1
        clear H1
        by_cases c564 : (t346 == (a2 == 2)) = true
        ·rw [if_pos c564] at H
         have c564b0 : (t346 == (a2 == 2)) = true := c564
         (try (have c564b1 : decide (t346 = (a2 == 2)) = true := by simpa using c564))
         (try (have c564b2 : (t346 == (a2 == 2)) = true := by simpa using c564))
         clear c564
         by_cases c565 : t344.toList = a0_3.toList
         ·rw [if_pos c565] at H
          have c565b0 : (t344.toList == a0_3.toList) = true := beq_iff_eq.mpr c565
          have c565b1 : (t344.toList != a0_3.toList) = false := bne_eq_false_iff_eq.mpr c565
          clear c565
          by_cases c566 : t345 = a0_4
          ·rw [if_pos c566] at H
           have c566b0 : (t345 == a0_4) = true := beq_iff_eq.mpr c566
           have c566b1 : (t345 != a0_4) = false := bne_eq_false_iff_eq.mpr c566
           clear c566
           by_cases c567 : t341.toList = a0_0.toList
           ·rw [if_pos c567] at H
            have c567b0 : (t341.toList == a0_0.toList) = true := beq_iff_eq.mpr c567
            have c567b1 : (t341.toList != a0_0.toList) = false := bne_eq_false_iff_eq.mpr c567
            clear c567
            by_cases c568 : t342 = a0_1
            ·rw [if_pos c568] at H
             have c568b0 : (t342 == a0_1) = true := beq_iff_eq.mpr c568
             have c568b1 : (t342 != a0_1) = false := bne_eq_false_iff_eq.mpr c568
             clear c568
             by_cases c569 : t343.toList = a0_2.toList
             ·rw [if_pos c569] at H
              have c569b0 : (t343.toList == a0_2.toList) = true := beq_iff_eq.mpr c569
              have c569b1 : (t343.toList != a0_2.toList) = false := bne_eq_false_iff_eq.mpr c569
              clear c569
              by_cases c570 : t347 = a0_6
              ·rw [if_pos c570] at H
               have c570b0 : (t347 == a0_6) = true := beq_iff_eq.mpr c570
               have c570b1 : (t347 != a0_6) = false := bne_eq_false_iff_eq.mpr c570
               clear c570
               by_cases c571 : t348 = a0_7
               ·rw [if_pos c571] at H
                have c571b0 : (t348 == a0_7) = true := beq_iff_eq.mpr c571
                have c571b1 : (t348 != a0_7) = false := bne_eq_false_iff_eq.mpr c571
                clear c571
                by_cases c572 : ((t349 == 0) == (a2 == 2)) = true
                ·rw [if_pos c572] at H
                 have c572b0 : ((t349 == 0) == (a2 == 2)) = true := c572
                 try have c572e : (t349 == 0) = (a2 == 2) := eq_of_beq c572b0
                 (try (have c572b1 : decide ((t349 == 0) = (a2 == 2)) = true := by simpa using c572))
                 (try (have c572b2 : ((t349 == 0) == (a2 == 2)) = true := by simpa using c572))
                 clear c572
                 obtain rfl := Option.some.inj H
                 have hnb573 := NB338_339.out
                 have hnc573 := NB339_338.out
                 have hnb574 := NB338_351.out
                 have hnc574 := NB351_338.out
                 have hcz575_0 : wc.cell? ⟨gb338, 0, none⟩ = some (.string a0_0) := (blk_cell BK338.out 0).trans rfl
                 have hcz575_1 : wc.cell? ⟨gb338, 1, none⟩ = some (.int .i64 a0_1) := (blk_cell BK338.out 1).trans rfl
                 have hcz575_2 : wc.cell? ⟨gb338, 2, none⟩ = some (.string a0_2) := (blk_cell BK338.out 2).trans rfl
                 have hcz575_3 : wc.cell? ⟨gb338, 3, none⟩ = some (.string a0_3) := (blk_cell BK338.out 3).trans rfl
                 have hcz575_4 : wc.cell? ⟨gb338, 4, none⟩ = some (.int .i64 a0_4) := (blk_cell BK338.out 4).trans rfl
                 have hcz575_5 : wc.cell? ⟨gb338, 5, none⟩ = some (.bool false) := (blk_cell BK338.out 5).trans rfl
                 have hcz575_6 : wc.cell? ⟨gb338, 6, none⟩ = some (.int .i64 a0_6) := (blk_cell BK338.out 6).trans rfl
                 have hcz575_7 : wc.cell? ⟨gb338, 7, none⟩ = some (.int .i64 a0_7) := (blk_cell BK338.out 7).trans rfl
                 have hfz575_0 := blk_frozen BK338.out 0
                 have hfz575_1 := blk_frozen BK338.out 1
                 have hfz575_2 := blk_frozen BK338.out 2
                 have hfz575_3 := blk_frozen BK338.out 3
                 have hfz575_4 := blk_frozen BK338.out 4
                 have hfz575_5 := blk_frozen BK338.out 5
                 have hfz575_6 := blk_frozen BK338.out 6
                 have hfz575_7 := blk_frozen BK338.out 7
                 have hnb576 := NB351_339.out
                 have hnc576 := NB339_351.out
                 have hcz577_0 : wc.cell? ⟨gb351, 0, none⟩ = some (.string t341) := (blk_cell BK351.out 0).trans rfl
                 have hcz577_1 : wc.cell? ⟨gb351, 1, none⟩ = some (.int .i64 t342) := (blk_cell BK351.out 1).trans rfl
                 have hcz577_2 : wc.cell? ⟨gb351, 2, none⟩ = some (.string t343) := (blk_cell BK351.out 2).trans rfl
                 have hcz577_3 : wc.cell? ⟨gb351, 3, none⟩ = some (.string t344) := (blk_cell BK351.out 3).trans rfl
                 have hcz577_4 : wc.cell? ⟨gb351, 4, none⟩ = some (.int .i64 t345) := (blk_cell BK351.out 4).trans rfl
                 have hcz577_5 : wc.cell? ⟨gb351, 5, none⟩ = some (.bool t346) := (blk_cell BK351.out 5).trans rfl
                 have hcz577_6 : wc.cell? ⟨gb351, 6, none⟩ = some (.int .i64 t347) := (blk_cell BK351.out 6).trans rfl
                 have hcz577_7 : wc.cell? ⟨gb351, 7, none⟩ = some (.int .i64 t348) := (blk_cell BK351.out 7).trans rfl
                 have hfz577_0 := blk_frozen BK351.out 0
                 have hfz577_1 := blk_frozen BK351.out 1
                 have hfz577_2 := blk_frozen BK351.out 2
                 have hfz577_3 := blk_frozen BK351.out 3
                 have hfz577_4 := blk_frozen BK351.out 4
                 have hfz577_5 := blk_frozen BK351.out 5
                 have hfz577_6 := blk_frozen BK351.out 6
                 have hfz577_7 := blk_frozen BK351.out 7
                 go_wp2
                 go_ret
                 exact ⟨by first | rfl | (simp [errW_none, errW_some] <;> rfl) | (simp [*, errW_none, errW_some] <;> rfl), by repeat (first | (with_reducible first | exact HB.out | apply below_alloc | apply pw_below_drewN | apply below_drew1 | refine below_set ?_ GE338.out | refine below_set ?_ GE339.out | refine below_set ?_ GE351.out) | exact HB.out)⟩
                ·rw [if_neg c572] at H
                 have c572b0 : ((t349 == 0) == (a2 == 2)) = false := by simpa using c572
                 try have c572e : (t349 == 0) = !((a2 == 2)) := (by have h_ := c572b0; revert h_; cases (t349 == 0) <;> cases ((a2 == 2)) <;> simp)
                 (try (have c572b1 : decide ((t349 == 0) = (a2 == 2)) = false := by simpa using c572))
                 (try (have c572b2 : ((t349 == 0) == (a2 == 2)) = false := by simpa using c572))
                 (try (have c572b3 : ¬ ((t349 == 0) = (a2 == 2)) := by simpa using c572))
                 clear c572
                 exact absurd H (by simp)
               ·rw [if_neg c571] at H
                have c571b0 : (t348 == a0_7) = false := beq_eq_false_iff_ne.mpr c571
                have c571b1 : (t348 != a0_7) = true := bne_iff_ne.mpr c571
                exact absurd H (by simp)
              ·rw [if_neg c570] at H
               have c570b0 : (t347 == a0_6) = false := beq_eq_false_iff_ne.mpr c570
               have c570b1 : (t347 != a0_6) = true := bne_iff_ne.mpr c570
               exact absurd H (by simp)
             ·rw [if_neg c569] at H
              have c569b0 : (t343.toList == a0_2.toList) = false := beq_eq_false_iff_ne.mpr c569
              have c569b1 : (t343.toList != a0_2.toList) = true := bne_iff_ne.mpr c569
              exact absurd H (by simp)
            ·rw [if_neg c568] at H
             have c568b0 : (t342 == a0_1) = false := beq_eq_false_iff_ne.mpr c568
             have c568b1 : (t342 != a0_1) = true := bne_iff_ne.mpr c568
             exact absurd H (by simp)
           ·rw [if_neg c567] at H
            have c567b0 : (t341.toList == a0_0.toList) = false := beq_eq_false_iff_ne.mpr c567
            have c567b1 : (t341.toList != a0_0.toList) = true := bne_iff_ne.mpr c567
            exact absurd H (by simp)
          ·rw [if_neg c566] at H
           have c566b0 : (t345 == a0_4) = false := beq_eq_false_iff_ne.mpr c566
           have c566b1 : (t345 != a0_4) = true := bne_iff_ne.mpr c566
           exact absurd H (by simp)
         ·rw [if_neg c565] at H
          have c565b0 : (t344.toList == a0_3.toList) = false := beq_eq_false_iff_ne.mpr c565
          have c565b1 : (t344.toList != a0_3.toList) = true := bne_iff_ne.mpr c565
          exact absurd H (by simp)
        ·rw [if_neg c564] at H
         have c564b0 : (t346 == (a2 == 2)) = false := by simpa using c564
         (try (have c564b1 : decide (t346 = (a2 == 2)) = false := by simpa using c564))
         (try (have c564b2 : (t346 == (a2 == 2)) = false := by simpa using c564))
         (try (have c564b3 : ¬ (t346 = (a2 == 2)) := by simpa using c564))
         clear c564
         exact absurd H (by simp)
  ·rw [if_neg c8] at H
   have c8b0 : (t352 == 0) = false := beq_eq_false_iff_ne.mpr c8
   have c8b1 : (t352 != 0) = true := bne_iff_ne.mpr c8
   by_cases c623 : a2 < 0
   ·rw [if_pos c623] at H
    have c623b0 : decide (a2 < 0) = true := decide_eq_true c623
    clear c623
    obtain rfl := Option.some.inj H
    go_enter Try.func5, Try.ntmps5
    try simp only [List.append_eq, List.cons_append, List.nil_append]
    go_wp2_with (first | ((with_reducible refine gate_dst (N := 3) rfl ?_); refine box_event ?hg (N := 3) ?hd (cs := #[.string a0_0, .int .i64 a0_1, .string a0_2, .string a0_3, .int .i64 a0_4, .bool a0_5, .int .i64 a0_6, .int .i64 a0_7]) (t := 23) ?hr ?_; (case hd => rfl); (case hg => rfl); (case hr => first | (go_simp; done) | (go_simp; rfl)); intro gb338 hg w624 hbox hb; have n0_ := Aside0.mk (below_step (by repeat (first | (with_reducible first | exact HB.out | apply below_alloc | apply pw_below_drewN | apply below_drew1) | exact HB.out)) hb); have n1_ := Aside0.mk (hbox); have n2_ := Aside0.mk ((by rw [hg]; exact (below_size (by repeat (first | (with_reducible first | exact HB.out | apply below_alloc | apply pw_below_drewN | apply below_drew1) | exact HB.out))) : w.heap.size ≤ gb338)); have n3_ := Aside0.mk ((by rw [hg]; exact (below_size (by repeat (first | (with_reducible first | exact HB.out | apply below_alloc | apply pw_below_drewN | apply below_drew1) | exact HB.out))) : w.heap.size ≤ gb338)); clear HB; have HB := n0_; have BK338 := n1_; have GW338 := n2_; have GE338 := n3_; clear n0_ n1_ n2_ n3_; clear hb hbox hg) | ((with_reducible refine gate_dst (N := 4) rfl ?_); refine box_event ?hg (N := 4) ?hd (cs := #[.string a1_0, .int .i64 a1_1]) (t := 25) ?hr ?_; (case hd => rfl); (case hg => rfl); (case hr => first | (go_simp; done) | (go_simp; rfl)); intro gb339 hg w625 hbox hb; have n0_ := Aside0.mk (blk_below (g := gb338) (o := .cells #[.string a0_0, .int .i64 a0_1, .string a0_2, .string a0_3, .int .i64 a0_4, .bool a0_5, .int .i64 a0_6, .int .i64 a0_7] 23 (0, 0)) (by (with_reducible repeat (first | refine blk_drewN ?_ _ | refine blk_drew ?_ | refine blk_alloc ?_ _)); exact BK338.out) hb); have n1_ := Aside0.mk (below_step (by repeat (first | (with_reducible first | exact HB.out | apply below_alloc | apply pw_below_drewN | apply below_drew1 | refine below_set ?_ GE338.out) | exact HB.out)) hb); have n2_ := Aside0.mk (hbox); have n3_ := Aside0.mk ((by rw [hg]; exact (below_size (by repeat (first | (with_reducible first | exact HB.out | apply below_alloc | apply pw_below_drewN | apply below_drew1 | refine below_set ?_ GE338.out) | exact HB.out))) : w.heap.size ≤ gb339)); have n4_ := Aside0.mk ((by rw [hg]; exact (below_size (by repeat (first | (with_reducible first | exact HB.out | apply below_alloc | apply pw_below_drewN | apply below_drew1 | refine below_set ?_ GE338.out) | exact HB.out))) : w.heap.size ≤ gb339)); have n5_ := Aside0.mk ((by rw [hg]; exact Nat.ne_of_lt (blk_lt (g := gb338) (o := .cells #[.string a0_0, .int .i64 a0_1, .string a0_2, .string a0_3, .int .i64 a0_4, .bool a0_5, .int .i64 a0_6, .int .i64 a0_7] 23 (0, 0)) (by (with_reducible repeat (first | refine blk_drewN ?_ _ | refine blk_drew ?_ | refine blk_alloc ?_ _)); exact BK338.out)) : gb338 ≠ gb339)); have n6_ := Aside0.mk ((by rw [hg]; exact Nat.ne_of_gt (blk_lt (g := gb338) (o := .cells #[.string a0_0, .int .i64 a0_1, .string a0_2, .string a0_3, .int .i64 a0_4, .bool a0_5, .int .i64 a0_6, .int .i64 a0_7] 23 (0, 0)) (by (with_reducible repeat (first | refine blk_drewN ?_ _ | refine blk_drew ?_ | refine blk_alloc ?_ _)); exact BK338.out)) : gb339 ≠ gb338)); clear BK338; clear HB; have BK338 := n0_; have HB := n1_; have BK339 := n2_; have GW339 := n3_; have GE339 := n4_; have NB338_339 := n5_; have NB339_338 := n6_; clear n0_ n1_ n2_ n3_ n4_ n5_ n6_; clear hb hbox hg) | ((with_reducible refine gate_callee (f := 16) rfl ?_); refine goesL_ (some 15) rfl rfl Try.func16 (by kernel_rfl) rfl #[] rfl (by (try simp only [List.map_toArray, List.map_cons, List.map_nil]); first | done | rfl | (simp only [List.length_drop, List.length_take]; rfl)) ?_; (with_reducible refine (wimplelaw22_awake.calls k  true _ A4.out).mono ?_); rintro e w626 ⟨rfl, hb⟩; refine ⟨_, rfl, ?_⟩; have n0_ := Aside0.mk (blk_below (g := gb338) (o := .cells #[.string a0_0, .int .i64 a0_1, .string a0_2, .string a0_3, .int .i64 a0_4, .bool a0_5, .int .i64 a0_6, .int .i64 a0_7] 23 (0, 0)) (by (with_reducible repeat (first | refine blk_drewN ?_ _ | refine blk_drew ?_ | refine blk_alloc ?_ _)); exact BK338.out) hb); have n1_ := Aside0.mk (blk_below (g := gb339) (o := .cells #[.string a1_0, .int .i64 a1_1] 25 (0, 0)) (by (with_reducible repeat (first | refine blk_drewN ?_ _ | refine blk_drew ?_ | refine blk_alloc ?_ _)); exact BK339.out) hb); have n2_ := Aside0.mk (below_step (by repeat (first | (with_reducible first | exact HB.out | apply below_alloc | apply pw_below_drewN | apply below_drew1 | refine below_set ?_ GE338.out | refine below_set ?_ GE339.out) | exact HB.out)) hb); clear BK338; clear BK339; clear HB; have BK338 := n0_; have BK339 := n1_; have HB := n2_; clear n0_ n1_ n2_; (try clear hb); (try clear hb2); (try clear hk); (try clear hi); have hnb627 := NB338_339.out; have hnc627 := NB339_338.out; have hcz628_0 : w626.cell? ⟨gb338, 0, none⟩ = some (.string a0_0) := (blk_cell BK338.out 0).trans rfl; have hcz628_1 : w626.cell? ⟨gb338, 1, none⟩ = some (.int .i64 a0_1) := (blk_cell BK338.out 1).trans rfl; have hcz628_2 : w626.cell? ⟨gb338, 2, none⟩ = some (.string a0_2) := (blk_cell BK338.out 2).trans rfl; have hcz628_3 : w626.cell? ⟨gb338, 3, none⟩ = some (.string a0_3) := (blk_cell BK338.out 3).trans rfl; have hcz628_4 : w626.cell? ⟨gb338, 4, none⟩ = some (.int .i64 a0_4) := (blk_cell BK338.out 4).trans rfl; have hcz628_5 : w626.cell? ⟨gb338, 5, none⟩ = some (.bool a0_5) := (blk_cell BK338.out 5).trans rfl; have hcz628_6 : w626.cell? ⟨gb338, 6, none⟩ = some (.int .i64 a0_6) := (blk_cell BK338.out 6).trans rfl; have hcz628_7 : w626.cell? ⟨gb338, 7, none⟩ = some (.int .i64 a0_7) := (blk_cell BK338.out 7).trans rfl; have hfz628_0 := blk_frozen BK338.out 0; have hfz628_1 := blk_frozen BK338.out 1; have hfz628_2 := blk_frozen BK338.out 2; have hfz628_3 := blk_frozen BK338.out 3; have hfz628_4 := blk_frozen BK338.out 4; have hfz628_5 := blk_frozen BK338.out 5; have hfz628_6 := blk_frozen BK338.out 6; have hfz628_7 := blk_frozen BK338.out 7; have hcz629_0 : w626.cell? ⟨gb339, 0, none⟩ = some (.string a1_0) := (blk_cell BK339.out 0).trans rfl; have hcz629_1 : w626.cell? ⟨gb339, 1, none⟩ = some (.int .i64 a1_1) := (blk_cell BK339.out 1).trans rfl; have hfz629_0 := blk_frozen BK339.out 0; have hfz629_1 := blk_frozen BK339.out 1) | ((with_reducible refine gate_callee (f := 11) rfl ?_); refine goesL_ (some 21) rfl rfl Try.func11 (by kernel_rfl) rfl #[.agg #[.string a0_0, .int .i64 a0_1, .string a0_2, .string a0_3, .int .i64 a0_4, .bool a0_5, .int .i64 a0_6, .int .i64 a0_7], .agg #[.string a1_0, .int .i64 a1_1], .int .i64 a2] rfl (by (try simp only [List.map_toArray, List.map_cons, List.map_nil]); first | done | rfl | (simp only [List.length_drop, List.length_take]; rfl)) ?_; (with_reducible refine (task_Take.calls k a0_0 a0_1 a0_2 a0_3 a0_4 a0_5 a0_6 a0_7 a1_0 a1_1 a2 t341 t342 t343 t344 t345 t346 t347 t348 t349 t350 _ A6.out).mono ?_); rintro e w630 ⟨rfl, hb⟩; refine ⟨_, rfl, ?_⟩; have n0_ := Aside0.mk (blk_below (g := gb338) (o := .cells #[.string a0_0, .int .i64 a0_1, .string a0_2, .string a0_3, .int .i64 a0_4, .bool a0_5, .int .i64 a0_6, .int .i64 a0_7] 23 (0, 0)) (by (with_reducible repeat (first | refine blk_drewN ?_ _ | refine blk_drew ?_ | refine blk_alloc ?_ _)); exact BK338.out) hb); have n1_ := Aside0.mk (blk_below (g := gb339) (o := .cells #[.string a1_0, .int .i64 a1_1] 25 (0, 0)) (by (with_reducible repeat (first | refine blk_drewN ?_ _ | refine blk_drew ?_ | refine blk_alloc ?_ _)); exact BK339.out) hb); have n2_ := Aside0.mk (below_step (by repeat (first | (with_reducible first | exact HB.out | apply below_alloc | apply pw_below_drewN | apply below_drew1 | refine below_set ?_ GE338.out | refine below_set ?_ GE339.out) | exact HB.out)) hb); clear BK338; clear BK339; clear HB; have BK338 := n0_; have BK339 := n1_; have HB := n2_; clear n0_ n1_ n2_; (try clear hb); (try clear hb2); (try clear hk); (try clear hi)) | ((with_reducible refine gate_dst (N := 7) rfl ?_); refine box_event ?hg (N := 7) ?hd (cs := #[.string (⟨#[]⟩ : ByteArray), .int .i64 0, .string (⟨#[]⟩ : ByteArray), .string (⟨#[]⟩ : ByteArray), .int .i64 0, .bool false, .int .i64 0, .int .i64 0]) (t := 23) ?hr ?_; (case hd => rfl); (case hg => rfl); (case hr => first | (go_simp; done) | (go_simp; rfl)); intro gb351 hg w631 hbox hb; have n0_ := Aside0.mk (blk_below (g := gb338) (o := .cells #[.string a0_0, .int .i64 a0_1, .string a0_2, .string a0_3, .int .i64 a0_4, .bool a0_5, .int .i64 a0_6, .int .i64 a0_7] 23 (0, 0)) (by (with_reducible repeat (first | refine blk_drewN ?_ _ | refine blk_drew ?_ | refine blk_alloc ?_ _)); exact BK338.out) hb); have n1_ := Aside0.mk (blk_below (g := gb339) (o := .cells #[.string a1_0, .int .i64 a1_1] 25 (0, 0)) (by (with_reducible repeat (first | refine blk_drewN ?_ _ | refine blk_drew ?_ | refine blk_alloc ?_ _)); exact BK339.out) hb); have n2_ := Aside0.mk (below_step (by repeat (first | (with_reducible first | exact HB.out | apply below_alloc | apply pw_below_drewN | apply below_drew1 | refine below_set ?_ GE338.out | refine below_set ?_ GE339.out) | exact HB.out)) hb); have n3_ := Aside0.mk (hbox); have n4_ := Aside0.mk ((by rw [hg]; exact (below_size (by repeat (first | (with_reducible first | exact HB.out | apply below_alloc | apply pw_below_drewN | apply below_drew1 | refine below_set ?_ GE338.out | refine below_set ?_ GE339.out) | exact HB.out))) : w.heap.size ≤ gb351)); have n5_ := Aside0.mk ((by rw [hg]; exact (below_size (by repeat (first | (with_reducible first | exact HB.out | apply below_alloc | apply pw_below_drewN | apply below_drew1 | refine below_set ?_ GE338.out | refine below_set ?_ GE339.out) | exact HB.out))) : w.heap.size ≤ gb351)); have n6_ := Aside0.mk ((by rw [hg]; exact Nat.ne_of_lt (blk_lt (g := gb338) (o := .cells #[.string a0_0, .int .i64 a0_1, .string a0_2, .string a0_3, .int .i64 a0_4, .bool a0_5, .int .i64 a0_6, .int .i64 a0_7] 23 (0, 0)) (by (with_reducible repeat (first | refine blk_drewN ?_ _ | refine blk_drew ?_ | refine blk_alloc ?_ _)); exact BK338.out)) : gb338 ≠ gb351)); have n7_ := Aside0.mk ((by rw [hg]; exact Nat.ne_of_gt (blk_lt (g := gb338) (o := .cells #[.string a0_0, .int .i64 a0_1, .string a0_2, .string a0_3, .int .i64 a0_4, .bool a0_5, .int .i64 a0_6, .int .i64 a0_7] 23 (0, 0)) (by (with_reducible repeat (first | refine blk_drewN ?_ _ | refine blk_drew ?_ | refine blk_alloc ?_ _)); exact BK338.out)) : gb351 ≠ gb338)); have n8_ := Aside0.mk ((by rw [hg]; exact Nat.ne_of_lt (blk_lt (g := gb339) (o := .cells #[.string a1_0, .int .i64 a1_1] 25 (0, 0)) (by (with_reducible repeat (first | refine blk_drewN ?_ _ | refine blk_drew ?_ | refine blk_alloc ?_ _)); exact BK339.out)) : gb339 ≠ gb351)); have n9_ := Aside0.mk ((by rw [hg]; exact Nat.ne_of_gt (blk_lt (g := gb339) (o := .cells #[.string a1_0, .int .i64 a1_1] 25 (0, 0)) (by (with_reducible repeat (first | refine blk_drewN ?_ _ | refine blk_drew ?_ | refine blk_alloc ?_ _)); exact BK339.out)) : gb351 ≠ gb339)); clear BK338; clear BK339; clear HB; have BK338 := n0_; have BK339 := n1_; have HB := n2_; have BK351 := n3_; have GW351 := n4_; have GE351 := n5_; have NB338_351 := n6_; have NB351_338 := n7_; have NB339_351 := n8_; have NB351_339 := n9_; clear n0_ n1_ n2_ n3_ n4_ n5_ n6_ n7_ n8_ n9_; clear hb hbox hg; have hnb632 := NB351_338.out; have hnc632 := NB338_351.out; have hnb633 := NB351_339.out; have hnc633 := NB339_351.out; have hcz634_0 : w631.cell? ⟨gb351, 0, none⟩ = some (.string (⟨#[]⟩ : ByteArray)) := (blk_cell BK351.out 0).trans rfl; have hcz634_1 : w631.cell? ⟨gb351, 1, none⟩ = some (.int .i64 0) := (blk_cell BK351.out 1).trans rfl; have hcz634_2 : w631.cell? ⟨gb351, 2, none⟩ = some (.string (⟨#[]⟩ : ByteArray)) := (blk_cell BK351.out 2).trans rfl; have hcz634_3 : w631.cell? ⟨gb351, 3, none⟩ = some (.string (⟨#[]⟩ : ByteArray)) := (blk_cell BK351.out 3).trans rfl; have hcz634_4 : w631.cell? ⟨gb351, 4, none⟩ = some (.int .i64 0) := (blk_cell BK351.out 4).trans rfl; have hcz634_5 : w631.cell? ⟨gb351, 5, none⟩ = some (.bool false) := (blk_cell BK351.out 5).trans rfl; have hcz634_6 : w631.cell? ⟨gb351, 6, none⟩ = some (.int .i64 0) := (blk_cell BK351.out 6).trans rfl; have hcz634_7 : w631.cell? ⟨gb351, 7, none⟩ = some (.int .i64 0) := (blk_cell BK351.out 7).trans rfl; have hfz634_0 := blk_frozen BK351.out 0; have hfz634_1 := blk_frozen BK351.out 1; have hfz634_2 := blk_frozen BK351.out 2; have hfz634_3 := blk_frozen BK351.out 3; have hfz634_4 := blk_frozen BK351.out 4; have hfz634_5 := blk_frozen BK351.out 5; have hfz634_6 := blk_frozen BK351.out 6; have hfz634_7 := blk_frozen BK351.out 7) | ((with_reducible refine gate_callee (f := 15) rfl ?_); refine goesL_ (some 26) rfl rfl Try.func15 (by kernel_rfl) rfl #[.int .i64 t350] rfl (by (try simp only [List.map_toArray, List.map_cons, List.map_nil]); first | done | rfl | (simp only [List.length_drop, List.length_take]; rfl)) ?_; (with_reducible refine (wimplelaw0_Num.calls t350 t352 _ A7.out).mono ?_); rintro e w' ⟨rfl, ⟨nd, rfl⟩⟩; refine ⟨_, rfl, ?_⟩))
    go_ret
    exact ⟨by first | rfl | (simp [errW_none, errW_some] <;> rfl) | (simp [*, errW_none, errW_some] <;> rfl), by repeat (first | (with_reducible first | exact HB.out | apply below_alloc | apply pw_below_drewN | apply below_drew1 | refine below_set ?_ GE338.out | refine below_set ?_ GE339.out | refine below_set ?_ GE351.out) | exact HB.out)⟩
   ·rw [if_neg c623] at H
    have c623b0 : decide (a2 < 0) = false := decide_eq_false c623
    clear c623
    by_cases c635 : a2 > 7
    ·rw [if_pos c635] at H
     have c635b0 : decide (7 < a2) = true := decide_eq_true c635
     clear c635
     obtain rfl := Option.some.inj H
     go_enter Try.func5, Try.ntmps5
     try simp only [List.append_eq, List.cons_append, List.nil_append]
     go_wp2_with (first | ((with_reducible refine gate_dst (N := 3) rfl ?_); refine box_event ?hg (N := 3) ?hd (cs := #[.string a0_0, .int .i64 a0_1, .string a0_2, .string a0_3, .int .i64 a0_4, .bool a0_5, .int .i64 a0_6, .int .i64 a0_7]) (t := 23) ?hr ?_; (case hd => rfl); (case hg => rfl); (case hr => first | (go_simp; done) | (go_simp; rfl)); intro gb338 hg w636 hbox hb; have n0_ := Aside0.mk (below_step (by repeat (first | (with_reducible first | exact HB.out | apply below_alloc | apply pw_below_drewN | apply below_drew1) | exact HB.out)) hb); have n1_ := Aside0.mk (hbox); have n2_ := Aside0.mk ((by rw [hg]; exact (below_size (by repeat (first | (with_reducible first | exact HB.out | apply below_alloc | apply pw_below_drewN | apply below_drew1) | exact HB.out))) : w.heap.size ≤ gb338)); have n3_ := Aside0.mk ((by rw [hg]; exact (below_size (by repeat (first | (with_reducible first | exact HB.out | apply below_alloc | apply pw_below_drewN | apply below_drew1) | exact HB.out))) : w.heap.size ≤ gb338)); clear HB; have HB := n0_; have BK338 := n1_; have GW338 := n2_; have GE338 := n3_; clear n0_ n1_ n2_ n3_; clear hb hbox hg) | ((with_reducible refine gate_dst (N := 4) rfl ?_); refine box_event ?hg (N := 4) ?hd (cs := #[.string a1_0, .int .i64 a1_1]) (t := 25) ?hr ?_; (case hd => rfl); (case hg => rfl); (case hr => first | (go_simp; done) | (go_simp; rfl)); intro gb339 hg w637 hbox hb; have n0_ := Aside0.mk (blk_below (g := gb338) (o := .cells #[.string a0_0, .int .i64 a0_1, .string a0_2, .string a0_3, .int .i64 a0_4, .bool a0_5, .int .i64 a0_6, .int .i64 a0_7] 23 (0, 0)) (by (with_reducible repeat (first | refine blk_drewN ?_ _ | refine blk_drew ?_ | refine blk_alloc ?_ _)); exact BK338.out) hb); have n1_ := Aside0.mk (below_step (by repeat (first | (with_reducible first | exact HB.out | apply below_alloc | apply pw_below_drewN | apply below_drew1 | refine below_set ?_ GE338.out) | exact HB.out)) hb); have n2_ := Aside0.mk (hbox); have n3_ := Aside0.mk ((by rw [hg]; exact (below_size (by repeat (first | (with_reducible first | exact HB.out | apply below_alloc | apply pw_below_drewN | apply below_drew1 | refine below_set ?_ GE338.out) | exact HB.out))) : w.heap.size ≤ gb339)); have n4_ := Aside0.mk ((by rw [hg]; exact (below_size (by repeat (first | (with_reducible first | exact HB.out | apply below_alloc | apply pw_below_drewN | apply below_drew1 | refine below_set ?_ GE338.out) | exact HB.out))) : w.heap.size ≤ gb339)); have n5_ := Aside0.mk ((by rw [hg]; exact Nat.ne_of_lt (blk_lt (g := gb338) (o := .cells #[.string a0_0, .int .i64 a0_1, .string a0_2, .string a0_3, .int .i64 a0_4, .bool a0_5, .int .i64 a0_6, .int .i64 a0_7] 23 (0, 0)) (by (with_reducible repeat (first | refine blk_drewN ?_ _ | refine blk_drew ?_ | refine blk_alloc ?_ _)); exact BK338.out)) : gb338 ≠ gb339)); have n6_ := Aside0.mk ((by rw [hg]; exact Nat.ne_of_gt (blk_lt (g := gb338) (o := .cells #[.string a0_0, .int .i64 a0_1, .string a0_2, .string a0_3, .int .i64 a0_4, .bool a0_5, .int .i64 a0_6, .int .i64 a0_7] 23 (0, 0)) (by (with_reducible repeat (first | refine blk_drewN ?_ _ | refine blk_drew ?_ | refine blk_alloc ?_ _)); exact BK338.out)) : gb339 ≠ gb338)); clear BK338; clear HB; have BK338 := n0_; have HB := n1_; have BK339 := n2_; have GW339 := n3_; have GE339 := n4_; have NB338_339 := n5_; have NB339_338 := n6_; clear n0_ n1_ n2_ n3_ n4_ n5_ n6_; clear hb hbox hg) | ((with_reducible refine gate_callee (f := 16) rfl ?_); refine goesL_ (some 15) rfl rfl Try.func16 (by kernel_rfl) rfl #[] rfl (by (try simp only [List.map_toArray, List.map_cons, List.map_nil]); first | done | rfl | (simp only [List.length_drop, List.length_take]; rfl)) ?_; (with_reducible refine (wimplelaw22_awake.calls k  true _ A4.out).mono ?_); rintro e w638 ⟨rfl, hb⟩; refine ⟨_, rfl, ?_⟩; have n0_ := Aside0.mk (blk_below (g := gb338) (o := .cells #[.string a0_0, .int .i64 a0_1, .string a0_2, .string a0_3, .int .i64 a0_4, .bool a0_5, .int .i64 a0_6, .int .i64 a0_7] 23 (0, 0)) (by (with_reducible repeat (first | refine blk_drewN ?_ _ | refine blk_drew ?_ | refine blk_alloc ?_ _)); exact BK338.out) hb); have n1_ := Aside0.mk (blk_below (g := gb339) (o := .cells #[.string a1_0, .int .i64 a1_1] 25 (0, 0)) (by (with_reducible repeat (first | refine blk_drewN ?_ _ | refine blk_drew ?_ | refine blk_alloc ?_ _)); exact BK339.out) hb); have n2_ := Aside0.mk (below_step (by repeat (first | (with_reducible first | exact HB.out | apply below_alloc | apply pw_below_drewN | apply below_drew1 | refine below_set ?_ GE338.out | refine below_set ?_ GE339.out) | exact HB.out)) hb); clear BK338; clear BK339; clear HB; have BK338 := n0_; have BK339 := n1_; have HB := n2_; clear n0_ n1_ n2_; (try clear hb); (try clear hb2); (try clear hk); (try clear hi); have hnb639 := NB338_339.out; have hnc639 := NB339_338.out; have hcz640_0 : w638.cell? ⟨gb338, 0, none⟩ = some (.string a0_0) := (blk_cell BK338.out 0).trans rfl; have hcz640_1 : w638.cell? ⟨gb338, 1, none⟩ = some (.int .i64 a0_1) := (blk_cell BK338.out 1).trans rfl; have hcz640_2 : w638.cell? ⟨gb338, 2, none⟩ = some (.string a0_2) := (blk_cell BK338.out 2).trans rfl; have hcz640_3 : w638.cell? ⟨gb338, 3, none⟩ = some (.string a0_3) := (blk_cell BK338.out 3).trans rfl; have hcz640_4 : w638.cell? ⟨gb338, 4, none⟩ = some (.int .i64 a0_4) := (blk_cell BK338.out 4).trans rfl; have hcz640_5 : w638.cell? ⟨gb338, 5, none⟩ = some (.bool a0_5) := (blk_cell BK338.out 5).trans rfl; have hcz640_6 : w638.cell? ⟨gb338, 6, none⟩ = some (.int .i64 a0_6) := (blk_cell BK338.out 6).trans rfl; have hcz640_7 : w638.cell? ⟨gb338, 7, none⟩ = some (.int .i64 a0_7) := (blk_cell BK338.out 7).trans rfl; have hfz640_0 := blk_frozen BK338.out 0; have hfz640_1 := blk_frozen BK338.out 1; have hfz640_2 := blk_frozen BK338.out 2; have hfz640_3 := blk_frozen BK338.out 3; have hfz640_4 := blk_frozen BK338.out 4; have hfz640_5 := blk_frozen BK338.out 5; have hfz640_6 := blk_frozen BK338.out 6; have hfz640_7 := blk_frozen BK338.out 7; have hcz641_0 : w638.cell? ⟨gb339, 0, none⟩ = some (.string a1_0) := (blk_cell BK339.out 0).trans rfl; have hcz641_1 : w638.cell? ⟨gb339, 1, none⟩ = some (.int .i64 a1_1) := (blk_cell BK339.out 1).trans rfl; have hfz641_0 := blk_frozen BK339.out 0; have hfz641_1 := blk_frozen BK339.out 1) | ((with_reducible refine gate_callee (f := 11) rfl ?_); refine goesL_ (some 21) rfl rfl Try.func11 (by kernel_rfl) rfl #[.agg #[.string a0_0, .int .i64 a0_1, .string a0_2, .string a0_3, .int .i64 a0_4, .bool a0_5, .int .i64 a0_6, .int .i64 a0_7], .agg #[.string a1_0, .int .i64 a1_1], .int .i64 a2] rfl (by (try simp only [List.map_toArray, List.map_cons, List.map_nil]); first | done | rfl | (simp only [List.length_drop, List.length_take]; rfl)) ?_; (with_reducible refine (task_Take.calls k a0_0 a0_1 a0_2 a0_3 a0_4 a0_5 a0_6 a0_7 a1_0 a1_1 a2 t341 t342 t343 t344 t345 t346 t347 t348 t349 t350 _ A6.out).mono ?_); rintro e w642 ⟨rfl, hb⟩; refine ⟨_, rfl, ?_⟩; have n0_ := Aside0.mk (blk_below (g := gb338) (o := .cells #[.string a0_0, .int .i64 a0_1, .string a0_2, .string a0_3, .int .i64 a0_4, .bool a0_5, .int .i64 a0_6, .int .i64 a0_7] 23 (0, 0)) (by (with_reducible repeat (first | refine blk_drewN ?_ _ | refine blk_drew ?_ | refine blk_alloc ?_ _)); exact BK338.out) hb); have n1_ := Aside0.mk (blk_below (g := gb339) (o := .cells #[.string a1_0, .int .i64 a1_1] 25 (0, 0)) (by (with_reducible repeat (first | refine blk_drewN ?_ _ | refine blk_drew ?_ | refine blk_alloc ?_ _)); exact BK339.out) hb); have n2_ := Aside0.mk (below_step (by repeat (first | (with_reducible first | exact HB.out | apply below_alloc | apply pw_below_drewN | apply below_drew1 | refine below_set ?_ GE338.out | refine below_set ?_ GE339.out) | exact HB.out)) hb); clear BK338; clear BK339; clear HB; have BK338 := n0_; have BK339 := n1_; have HB := n2_; clear n0_ n1_ n2_; (try clear hb); (try clear hb2); (try clear hk); (try clear hi)) | ((with_reducible refine gate_dst (N := 7) rfl ?_); refine box_event ?hg (N := 7) ?hd (cs := #[.string (⟨#[]⟩ : ByteArray), .int .i64 0, .string (⟨#[]⟩ : ByteArray), .string (⟨#[]⟩ : ByteArray), .int .i64 0, .bool false, .int .i64 0, .int .i64 0]) (t := 23) ?hr ?_; (case hd => rfl); (case hg => rfl); (case hr => first | (go_simp; done) | (go_simp; rfl)); intro gb351 hg w643 hbox hb; have n0_ := Aside0.mk (blk_below (g := gb338) (o := .cells #[.string a0_0, .int .i64 a0_1, .string a0_2, .string a0_3, .int .i64 a0_4, .bool a0_5, .int .i64 a0_6, .int .i64 a0_7] 23 (0, 0)) (by (with_reducible repeat (first | refine blk_drewN ?_ _ | refine blk_drew ?_ | refine blk_alloc ?_ _)); exact BK338.out) hb); have n1_ := Aside0.mk (blk_below (g := gb339) (o := .cells #[.string a1_0, .int .i64 a1_1] 25 (0, 0)) (by (with_reducible repeat (first | refine blk_drewN ?_ _ | refine blk_drew ?_ | refine blk_alloc ?_ _)); exact BK339.out) hb); have n2_ := Aside0.mk (below_step (by repeat (first | (with_reducible first | exact HB.out | apply below_alloc | apply pw_below_drewN | apply below_drew1 | refine below_set ?_ GE338.out | refine below_set ?_ GE339.out) | exact HB.out)) hb); have n3_ := Aside0.mk (hbox); have n4_ := Aside0.mk ((by rw [hg]; exact (below_size (by repeat (first | (with_reducible first | exact HB.out | apply below_alloc | apply pw_below_drewN | apply below_drew1 | refine below_set ?_ GE338.out | refine below_set ?_ GE339.out) | exact HB.out))) : w.heap.size ≤ gb351)); have n5_ := Aside0.mk ((by rw [hg]; exact (below_size (by repeat (first | (with_reducible first | exact HB.out | apply below_alloc | apply pw_below_drewN | apply below_drew1 | refine below_set ?_ GE338.out | refine below_set ?_ GE339.out) | exact HB.out))) : w.heap.size ≤ gb351)); have n6_ := Aside0.mk ((by rw [hg]; exact Nat.ne_of_lt (blk_lt (g := gb338) (o := .cells #[.string a0_0, .int .i64 a0_1, .string a0_2, .string a0_3, .int .i64 a0_4, .bool a0_5, .int .i64 a0_6, .int .i64 a0_7] 23 (0, 0)) (by (with_reducible repeat (first | refine blk_drewN ?_ _ | refine blk_drew ?_ | refine blk_alloc ?_ _)); exact BK338.out)) : gb338 ≠ gb351)); have n7_ := Aside0.mk ((by rw [hg]; exact Nat.ne_of_gt (blk_lt (g := gb338) (o := .cells #[.string a0_0, .int .i64 a0_1, .string a0_2, .string a0_3, .int .i64 a0_4, .bool a0_5, .int .i64 a0_6, .int .i64 a0_7] 23 (0, 0)) (by (with_reducible repeat (first | refine blk_drewN ?_ _ | refine blk_drew ?_ | refine blk_alloc ?_ _)); exact BK338.out)) : gb351 ≠ gb338)); have n8_ := Aside0.mk ((by rw [hg]; exact Nat.ne_of_lt (blk_lt (g := gb339) (o := .cells #[.string a1_0, .int .i64 a1_1] 25 (0, 0)) (by (with_reducible repeat (first | refine blk_drewN ?_ _ | refine blk_drew ?_ | refine blk_alloc ?_ _)); exact BK339.out)) : gb339 ≠ gb351)); have n9_ := Aside0.mk ((by rw [hg]; exact Nat.ne_of_gt (blk_lt (g := gb339) (o := .cells #[.string a1_0, .int .i64 a1_1] 25 (0, 0)) (by (with_reducible repeat (first | refine blk_drewN ?_ _ | refine blk_drew ?_ | refine blk_alloc ?_ _)); exact BK339.out)) : gb351 ≠ gb339)); clear BK338; clear BK339; clear HB; have BK338 := n0_; have BK339 := n1_; have HB := n2_; have BK351 := n3_; have GW351 := n4_; have GE351 := n5_; have NB338_351 := n6_; have NB351_338 := n7_; have NB339_351 := n8_; have NB351_339 := n9_; clear n0_ n1_ n2_ n3_ n4_ n5_ n6_ n7_ n8_ n9_; clear hb hbox hg; have hnb644 := NB351_338.out; have hnc644 := NB338_351.out; have hnb645 := NB351_339.out; have hnc645 := NB339_351.out; have hcz646_0 : w643.cell? ⟨gb351, 0, none⟩ = some (.string (⟨#[]⟩ : ByteArray)) := (blk_cell BK351.out 0).trans rfl; have hcz646_1 : w643.cell? ⟨gb351, 1, none⟩ = some (.int .i64 0) := (blk_cell BK351.out 1).trans rfl; have hcz646_2 : w643.cell? ⟨gb351, 2, none⟩ = some (.string (⟨#[]⟩ : ByteArray)) := (blk_cell BK351.out 2).trans rfl; have hcz646_3 : w643.cell? ⟨gb351, 3, none⟩ = some (.string (⟨#[]⟩ : ByteArray)) := (blk_cell BK351.out 3).trans rfl; have hcz646_4 : w643.cell? ⟨gb351, 4, none⟩ = some (.int .i64 0) := (blk_cell BK351.out 4).trans rfl; have hcz646_5 : w643.cell? ⟨gb351, 5, none⟩ = some (.bool false) := (blk_cell BK351.out 5).trans rfl; have hcz646_6 : w643.cell? ⟨gb351, 6, none⟩ = some (.int .i64 0) := (blk_cell BK351.out 6).trans rfl; have hcz646_7 : w643.cell? ⟨gb351, 7, none⟩ = some (.int .i64 0) := (blk_cell BK351.out 7).trans rfl; have hfz646_0 := blk_frozen BK351.out 0; have hfz646_1 := blk_frozen BK351.out 1; have hfz646_2 := blk_frozen BK351.out 2; have hfz646_3 := blk_frozen BK351.out 3; have hfz646_4 := blk_frozen BK351.out 4; have hfz646_5 := blk_frozen BK351.out 5; have hfz646_6 := blk_frozen BK351.out 6; have hfz646_7 := blk_frozen BK351.out 7) | ((with_reducible refine gate_callee (f := 15) rfl ?_); refine goesL_ (some 26) rfl rfl Try.func15 (by kernel_rfl) rfl #[.int .i64 t350] rfl (by (try simp only [List.map_toArray, List.map_cons, List.map_nil]); first | done | rfl | (simp only [List.length_drop, List.length_take]; rfl)) ?_; (with_reducible refine (wimplelaw0_Num.calls t350 t352 _ A7.out).mono ?_); rintro e w' ⟨rfl, ⟨nd, rfl⟩⟩; refine ⟨_, rfl, ?_⟩))
     go_ret
     exact ⟨by first | rfl | (simp [errW_none, errW_some] <;> rfl) | (simp [*, errW_none, errW_some] <;> rfl), by repeat (first | (with_reducible first | exact HB.out | apply below_alloc | apply pw_below_drewN | apply below_drew1 | refine below_set ?_ GE338.out | refine below_set ?_ GE339.out | refine below_set ?_ GE351.out) | exact HB.out)⟩
    ·rw [if_neg c635] at H
     have c635b0 : decide (7 < a2) = false := decide_eq_false c635
     clear c635
     exact absurd H (by simp)
 ·replace c5 := Bool.eq_false_iff.mpr c5
  subst c5
  have H1 : (none) = some r := by rw [if_neg (show ¬ (false = true) by decide)] at H; exact H
  clear H
  have H := H1
  clear H1
  exact absurd H (by simp)

end Go.Proofs.Ytgphnnnhhhmemaa.P
