-- Written by a program of this session's prover (over the kit's printer, with contracts of the session's own); Lean checks it.
import Derived.Test.YtgphnnnhhhmemaaPx0
import Derived.Test.YtgphnnnhhhmemaaPx1
import Derived.Test.YtgphnnnhhhmemaaPx4
import Derived.Test.YtgphnnnhhhmemaaPx5
import Derived.Test.YtgphnnnhhhmemaaPx10
import Derived.Test.YtgphnnnhhhmemaaPx11
import Derived.Test.YtgphnnnhhhmemaaPx14
namespace Go.Proofs.Ytgphnnnhhhmemaa.P
open Go.RowKit Go.Proofs.YtgphnnnhhhmemaaW.PrintWords Go.Proofs.YtgphnnnhhhmemaaW.PrintLast Go.Proofs.YtgphnnnhhhmemaaW.PrintMore
attribute [local go_sem] max2_int min2_int max_two min_two max_three min_three max_four min_four   -- for this text's walks alone
set_option linter.unusedVariables false
set_option linter.unusedSimpArgs false

attribute [local go_sem high] eqA23
/-! ### wimplelaw22_TaskFresh: function 8 -/
def wimplelaw22_TaskFresh.f (k : Nat) (a0 : ByteArray) (a1 : Int) (a2 : Int) : Option (Bool) := (wimplelaw22_awake.f k).bind fun t441 => (if t441 = true then ((wimpleref1_May.f k a0).bind fun t442 => (if t442 = true then ((wimpleref1_Count.f k a0).bind fun t454 => (if (IntKind.u64.wrap (wrap64 (t454 + 1))) = 0 then (none) else ((wimpleref1_Last.f k a0 (wrap64 (Int.tmod (IntKind.u64.wrap (a1)) (IntKind.u64.wrap (wrap64 (t454 + 1)))))).bind fun bt455 => ((task_New.f k a0 (wrap64 (1 + (Go.bits .and .i64 a2 32767))) bt455.1).bind fun bt457 => ((wimplelaw0_Num.f bt457.2.2.2.2.2.2.2.2).bind fun t467 => (if t467 = 0 then ((wimpleref1_Fold.f k a0).bind fun t468 => ((wimpleref1_Fold.f k bt455.1).bind fun t469 => ((wimpleref1_Fold.f k bt455.1).bind fun t470 => (some (bt457.1.toList == t468.toList && (bt457.2.1 == (wrap64 (1 + (Go.bits .and .i64 a2 32767))) && (bt457.2.2.1.toList == t469.toList && (bt457.2.2.2.1.toList == t470.toList && (bt457.2.2.2.2.1 == 0 && (!bt457.2.2.2.2.2.1 && (bt457.2.2.2.2.2.2.1 == 0 && (bt457.2.2.2.2.2.2.2.1 == 0)))))))))))) else (some false))))))) else ((task_New.f k a0 1 (⟨#[0]⟩ : ByteArray)).bind fun bt443 => ((wimplelaw0_Num.f bt443.2.2.2.2.2.2.2.2).bind fun t453 => (some (t453 == 2200)))))) else (some false))
theorem wimplelaw22_TaskFresh.mono : ∀ a0 a1 a2 k, LeO (wimplelaw22_TaskFresh.f k a0 a1 a2) (wimplelaw22_TaskFresh.f (k + 1) a0 a1 a2) := by
  intro a0 a1 a2 k
  unfold wimplelaw22_TaskFresh.f
  repeat' first
      | (with_reducible exact task_New.mono _ _ _ _)
      | (with_reducible exact wimplelaw22_awake.mono _)
      | (with_reducible exact wimpleref1_Count.mono _ _)
      | (with_reducible exact wimpleref1_Fold.mono _ _)
      | (with_reducible exact wimpleref1_Last.mono _ _ _)
      | (with_reducible exact wimpleref1_May.mono _ _)
      | (with_reducible exact LeO.refl _)
      | (with_reducible exact LeO.none _)
      | (with_reducible refine LeO.ite ?_ ?_)
      | (with_reducible refine LeO.bind ?_ (fun _ => ?_))
      | exact task_New.mono _ _ _ _
      | exact wimplelaw22_awake.mono _
      | exact wimpleref1_Count.mono _ _
      | exact wimpleref1_Fold.mono _ _
      | exact wimpleref1_Last.mono _ _ _
      | exact wimpleref1_May.mono _ _
      | exact LeO.none _
      | refine LeO.ite ?_ ?_
      | refine LeO.bind ?_ (fun _ => ?_)
def wimplelaw22_TaskFresh.T9 : Bool × List (List Nat × List Nat) := (true, [([], []), ([0], [0]), ([1], [1]), ([2, 1], [2]), ([3], [3]), ([3], [3]), ([5, 3, 3], [3, 5]), ([3], [3]), ([3], [3]), ([8, 6, 3], [3, 8]), ([3], [3]), ([10, 9, 3], [3, 10]), ([6, 7, 9, 11, 3], [3, 6, 7, 9, 11]), ([4, 12, 3], [3, 4, 12]), ([3, 13], [3, 13]), ([14, 11, 0, 1, 2, 3, 4, 5, 6, 7, 8, 9, 10, 11, 12, 13, 14], [14])])
def wimplelaw22_TaskFresh.B9 : List Nat := [0, 1, 3, 7, 15, 15, 47, 15, 15, 367, 15, 1903, 4079, 8191, 16383, 32767]
theorem wimplelaw22_TaskFresh.tab9 : rtab .any (opsOf Try.f8 9) = wimplelaw22_TaskFresh.T9 := by kernel_rfl
theorem wimplelaw22_TaskFresh.bits9 : waitsOk wimplelaw22_TaskFresh.T9.2 wimplelaw22_TaskFresh.B9 = true := by kernel_rfl
set_option maxHeartbeats 8000000 in
set_option maxRecDepth 100000 in
theorem wimplelaw22_TaskFresh.calls (k : Nat) (a0 : ByteArray) (a1 : Int) (a2 : Int) (r : Bool) (w : World) (h : wimplelaw22_TaskFresh.f k a0 a1 a2 = some r) :
    Calls Try.prog 8 #[.string a0, .int .i64 a1, .int .i64 a2] w fun e w' => e = .returned (.bool r) ∧ Below w.heap.size w w' := by
  have hu23 := Try.underlying23
  have HB := Aside0.mk (Below.refl w.heap.size w)
  have H : ((wimplelaw22_awake.f k).bind fun t441 => (if t441 = true then ((wimpleref1_May.f k a0).bind fun t442 => (if t442 = true then ((wimpleref1_Count.f k a0).bind fun t454 => (if (IntKind.u64.wrap (wrap64 (t454 + 1))) = 0 then (none) else ((wimpleref1_Last.f k a0 (wrap64 (Int.tmod (IntKind.u64.wrap (a1)) (IntKind.u64.wrap (wrap64 (t454 + 1)))))).bind fun bt455 => ((task_New.f k a0 (wrap64 (1 + (Go.bits .and .i64 a2 32767))) bt455.1).bind fun bt457 => ((wimplelaw0_Num.f bt457.2.2.2.2.2.2.2.2).bind fun t467 => (if t467 = 0 then ((wimpleref1_Fold.f k a0).bind fun t468 => ((wimpleref1_Fold.f k bt455.1).bind fun t469 => ((wimpleref1_Fold.f k bt455.1).bind fun t470 => (some (bt457.1.toList == t468.toList && (bt457.2.1 == (wrap64 (1 + (Go.bits .and .i64 a2 32767))) && (bt457.2.2.1.toList == t469.toList && (bt457.2.2.2.1.toList == t470.toList && (bt457.2.2.2.2.1 == 0 && (!bt457.2.2.2.2.2.1 && (bt457.2.2.2.2.2.2.1 == 0 && (bt457.2.2.2.2.2.2.2.1 == 0)))))))))))) else (some false))))))) else ((task_New.f k a0 1 (⟨#[0]⟩ : ByteArray)).bind fun bt443 => ((wimplelaw0_Num.f bt443.2.2.2.2.2.2.2.2).bind fun t453 => (some (t453 == 2200)))))) else (some false))) = some r := h
  clear h
  replace H := Option.bind_eq_some_iff.mp H
  obtain ⟨t441, A40, H⟩ := H
  replace H : (if t441 = true then ((wimpleref1_May.f k a0).bind fun t442 => (if t442 = true then ((wimpleref1_Count.f k a0).bind fun t454 => (if (IntKind.u64.wrap (wrap64 (t454 + 1))) = 0 then (none) else ((wimpleref1_Last.f k a0 (wrap64 (Int.tmod (IntKind.u64.wrap (a1)) (IntKind.u64.wrap (wrap64 (t454 + 1)))))).bind fun bt455 => ((task_New.f k a0 (wrap64 (1 + (Go.bits .and .i64 a2 32767))) bt455.1).bind fun bt457 => ((wimplelaw0_Num.f bt457.2.2.2.2.2.2.2.2).bind fun t467 => (if t467 = 0 then ((wimpleref1_Fold.f k a0).bind fun t468 => ((wimpleref1_Fold.f k bt455.1).bind fun t469 => ((wimpleref1_Fold.f k bt455.1).bind fun t470 => (some (bt457.1.toList == t468.toList && (bt457.2.1 == (wrap64 (1 + (Go.bits .and .i64 a2 32767))) && (bt457.2.2.1.toList == t469.toList && (bt457.2.2.2.1.toList == t470.toList && (bt457.2.2.2.2.1 == 0 && (!bt457.2.2.2.2.2.1 && (bt457.2.2.2.2.2.2.1 == 0 && (bt457.2.2.2.2.2.2.2.1 == 0)))))))))))) else (some false))))))) else ((task_New.f k a0 1 (⟨#[0]⟩ : ByteArray)).bind fun bt443 => ((wimplelaw0_Num.f bt443.2.2.2.2.2.2.2.2).bind fun t453 => (some (t453 == 2200)))))) else (some false)) = some r := H
  have A4 := Aside0.mk A40
  clear A40
  by_cases c5 : t441 = true
  · subst c5
    have H1 : ((wimpleref1_May.f k a0).bind fun t442 => (if t442 = true then ((wimpleref1_Count.f k a0).bind fun t454 => (if (IntKind.u64.wrap (wrap64 (t454 + 1))) = 0 then (none) else ((wimpleref1_Last.f k a0 (wrap64 (Int.tmod (IntKind.u64.wrap (a1)) (IntKind.u64.wrap (wrap64 (t454 + 1)))))).bind fun bt455 => ((task_New.f k a0 (wrap64 (1 + (Go.bits .and .i64 a2 32767))) bt455.1).bind fun bt457 => ((wimplelaw0_Num.f bt457.2.2.2.2.2.2.2.2).bind fun t467 => (if t467 = 0 then ((wimpleref1_Fold.f k a0).bind fun t468 => ((wimpleref1_Fold.f k bt455.1).bind fun t469 => ((wimpleref1_Fold.f k bt455.1).bind fun t470 => (some (bt457.1.toList == t468.toList && (bt457.2.1 == (wrap64 (1 + (Go.bits .and .i64 a2 32767))) && (bt457.2.2.1.toList == t469.toList && (bt457.2.2.2.1.toList == t470.toList && (bt457.2.2.2.2.1 == 0 && (!bt457.2.2.2.2.2.1 && (bt457.2.2.2.2.2.2.1 == 0 && (bt457.2.2.2.2.2.2.2.1 == 0)))))))))))) else (some false))))))) else ((task_New.f k a0 1 (⟨#[0]⟩ : ByteArray)).bind fun bt443 => ((wimplelaw0_Num.f bt443.2.2.2.2.2.2.2.2).bind fun t453 => (some (t453 == 2200)))))) = some r := by rw [if_pos rfl] at H; exact H
    clear H
    have H := H1
    clear H1
    replace H := Option.bind_eq_some_iff.mp H
    obtain ⟨t442, A60, H⟩ := H
    replace H : (if t442 = true then ((wimpleref1_Count.f k a0).bind fun t454 => (if (IntKind.u64.wrap (wrap64 (t454 + 1))) = 0 then (none) else ((wimpleref1_Last.f k a0 (wrap64 (Int.tmod (IntKind.u64.wrap (a1)) (IntKind.u64.wrap (wrap64 (t454 + 1)))))).bind fun bt455 => ((task_New.f k a0 (wrap64 (1 + (Go.bits .and .i64 a2 32767))) bt455.1).bind fun bt457 => ((wimplelaw0_Num.f bt457.2.2.2.2.2.2.2.2).bind fun t467 => (if t467 = 0 then ((wimpleref1_Fold.f k a0).bind fun t468 => ((wimpleref1_Fold.f k bt455.1).bind fun t469 => ((wimpleref1_Fold.f k bt455.1).bind fun t470 => (some (bt457.1.toList == t468.toList && (bt457.2.1 == (wrap64 (1 + (Go.bits .and .i64 a2 32767))) && (bt457.2.2.1.toList == t469.toList && (bt457.2.2.2.1.toList == t470.toList && (bt457.2.2.2.2.1 == 0 && (!bt457.2.2.2.2.2.1 && (bt457.2.2.2.2.2.2.1 == 0 && (bt457.2.2.2.2.2.2.2.1 == 0)))))))))))) else (some false))))))) else ((task_New.f k a0 1 (⟨#[0]⟩ : ByteArray)).bind fun bt443 => ((wimplelaw0_Num.f bt443.2.2.2.2.2.2.2.2).bind fun t453 => (some (t453 == 2200))))) = some r := H
    have A6 := Aside0.mk A60
    clear A60
    by_cases c7 : t442 = true
    · subst c7
      have H1 : ((wimpleref1_Count.f k a0).bind fun t454 => (if (IntKind.u64.wrap (wrap64 (t454 + 1))) = 0 then (none) else ((wimpleref1_Last.f k a0 (wrap64 (Int.tmod (IntKind.u64.wrap (a1)) (IntKind.u64.wrap (wrap64 (t454 + 1)))))).bind fun bt455 => ((task_New.f k a0 (wrap64 (1 + (Go.bits .and .i64 a2 32767))) bt455.1).bind fun bt457 => ((wimplelaw0_Num.f bt457.2.2.2.2.2.2.2.2).bind fun t467 => (if t467 = 0 then ((wimpleref1_Fold.f k a0).bind fun t468 => ((wimpleref1_Fold.f k bt455.1).bind fun t469 => ((wimpleref1_Fold.f k bt455.1).bind fun t470 => (some (bt457.1.toList == t468.toList && (bt457.2.1 == (wrap64 (1 + (Go.bits .and .i64 a2 32767))) && (bt457.2.2.1.toList == t469.toList && (bt457.2.2.2.1.toList == t470.toList && (bt457.2.2.2.2.1 == 0 && (!bt457.2.2.2.2.2.1 && (bt457.2.2.2.2.2.2.1 == 0 && (bt457.2.2.2.2.2.2.2.1 == 0)))))))))))) else (some false))))))) = some r := by rw [if_pos rfl] at H; exact H
      clear H
      have H := H1
      clear H1
      replace H := Option.bind_eq_some_iff.mp H
      obtain ⟨t454, A80, H⟩ := H
      replace H : (if (IntKind.u64.wrap (wrap64 (t454 + 1))) = 0 then (none) else ((wimpleref1_Last.f k a0 (wrap64 (Int.tmod (IntKind.u64.wrap (a1)) (IntKind.u64.wrap (wrap64 (t454 + 1)))))).bind fun bt455 => ((task_New.f k a0 (wrap64 (1 + (Go.bits .and .i64 a2 32767))) bt455.1).bind fun bt457 => ((wimplelaw0_Num.f bt457.2.2.2.2.2.2.2.2).bind fun t467 => (if t467 = 0 then ((wimpleref1_Fold.f k a0).bind fun t468 => ((wimpleref1_Fold.f k bt455.1).bind fun t469 => ((wimpleref1_Fold.f k bt455.1).bind fun t470 => (some (bt457.1.toList == t468.toList && (bt457.2.1 == (wrap64 (1 + (Go.bits .and .i64 a2 32767))) && (bt457.2.2.1.toList == t469.toList && (bt457.2.2.2.1.toList == t470.toList && (bt457.2.2.2.2.1 == 0 && (!bt457.2.2.2.2.2.1 && (bt457.2.2.2.2.2.2.1 == 0 && (bt457.2.2.2.2.2.2.2.1 == 0)))))))))))) else (some false)))))) = some r := H
      have A8 := Aside0.mk A80
      clear A80
      by_cases c9 : (IntKind.u64.wrap (wrap64 (t454 + 1))) = 0
      · rw [if_pos c9] at H
        exact absurd H (by simp)
      · rw [if_neg c9] at H
        have c9b0 : ((IntKind.u64.wrap (wrap64 (t454 + 1))) == 0) = false := beq_eq_false_iff_ne.mpr c9
        have c9b1 : ((IntKind.u64.wrap (wrap64 (t454 + 1))) != 0) = true := bne_iff_ne.mpr c9
        replace H := Option.bind_eq_some_iff.mp H
        obtain ⟨⟨t455, t456⟩, A100, H⟩ := H
        replace H : ((task_New.f k a0 (wrap64 (1 + (Go.bits .and .i64 a2 32767))) t455).bind fun bt457 => ((wimplelaw0_Num.f bt457.2.2.2.2.2.2.2.2).bind fun t467 => (if t467 = 0 then ((wimpleref1_Fold.f k a0).bind fun t468 => ((wimpleref1_Fold.f k t455).bind fun t469 => ((wimpleref1_Fold.f k t455).bind fun t470 => (some (bt457.1.toList == t468.toList && (bt457.2.1 == (wrap64 (1 + (Go.bits .and .i64 a2 32767))) && (bt457.2.2.1.toList == t469.toList && (bt457.2.2.2.1.toList == t470.toList && (bt457.2.2.2.2.1 == 0 && (!bt457.2.2.2.2.2.1 && (bt457.2.2.2.2.2.2.1 == 0 && (bt457.2.2.2.2.2.2.2.1 == 0)))))))))))) else (some false)))) = some r := H
        have A10 := Aside0.mk A100
        clear A100
        replace H := Option.bind_eq_some_iff.mp H
        obtain ⟨⟨t457, t458, t459, t460, t461, t462, t463, t464, t465⟩, A110, H⟩ := H
        replace H : ((wimplelaw0_Num.f t465).bind fun t467 => (if t467 = 0 then ((wimpleref1_Fold.f k a0).bind fun t468 => ((wimpleref1_Fold.f k t455).bind fun t469 => ((wimpleref1_Fold.f k t455).bind fun t470 => (some (t457.toList == t468.toList && (t458 == (wrap64 (1 + (Go.bits .and .i64 a2 32767))) && (t459.toList == t469.toList && (t460.toList == t470.toList && (t461 == 0 && (!t462 && (t463 == 0 && (t464 == 0)))))))))))) else (some false))) = some r := H
        have A11 := Aside0.mk A110
        clear A110
        replace H := Option.bind_eq_some_iff.mp H
        obtain ⟨t467, A120, H⟩ := H
        replace H : (if t467 = 0 then ((wimpleref1_Fold.f k a0).bind fun t468 => ((wimpleref1_Fold.f k t455).bind fun t469 => ((wimpleref1_Fold.f k t455).bind fun t470 => (some (t457.toList == t468.toList && (t458 == (wrap64 (1 + (Go.bits .and .i64 a2 32767))) && (t459.toList == t469.toList && (t460.toList == t470.toList && (t461 == 0 && (!t462 && (t463 == 0 && (t464 == 0)))))))))))) else (some false)) = some r := H
        have A12 := Aside0.mk A120
        clear A120
        by_cases c13 : t467 = 0
        · rw [if_pos c13] at H
          have c13b0 : (t467 == 0) = true := beq_iff_eq.mpr c13
          have c13b1 : (t467 != 0) = false := bne_eq_false_iff_eq.mpr c13
          clear c13
          replace H := Option.bind_eq_some_iff.mp H
          obtain ⟨t468, A140, H⟩ := H
          replace H : ((wimpleref1_Fold.f k t455).bind fun t469 => ((wimpleref1_Fold.f k t455).bind fun t470 => (some (t457.toList == t468.toList && (t458 == (wrap64 (1 + (Go.bits .and .i64 a2 32767))) && (t459.toList == t469.toList && (t460.toList == t470.toList && (t461 == 0 && (!t462 && (t463 == 0 && (t464 == 0))))))))))) = some r := H
          have A14 := Aside0.mk A140
          clear A140
          replace H := Option.bind_eq_some_iff.mp H
          obtain ⟨t469, A150, H⟩ := H
          replace H : ((wimpleref1_Fold.f k t455).bind fun t470 => (some (t457.toList == t468.toList && (t458 == (wrap64 (1 + (Go.bits .and .i64 a2 32767))) && (t459.toList == t469.toList && (t460.toList == t470.toList && (t461 == 0 && (!t462 && (t463 == 0 && (t464 == 0)))))))))) = some r := H
          have A15 := Aside0.mk A150
          clear A150
          replace H := Option.bind_eq_some_iff.mp H
          obtain ⟨t470, A160, H⟩ := H
          replace H : (some (t457.toList == t468.toList && (t458 == (wrap64 (1 + (Go.bits .and .i64 a2 32767))) && (t459.toList == t469.toList && (t460.toList == t470.toList && (t461 == 0 && (!t462 && (t463 == 0 && (t464 == 0))))))))) = some r := H
          have A16 := Aside0.mk A160
          clear A160
          obtain rfl : t469 = t470 := Option.some.inj (A15.out.symm.trans A16.out)
          obtain rfl := Option.some.inj H
          go_enter Try.func8, Try.ntmps8
          try simp only [List.append_eq, List.cons_append, List.nil_append]
          try go_wp2_with (first | ((with_reducible refine gate_callee (f := 16) rfl ?_); refine goesL_ (some 14) rfl rfl Try.func16 (by kernel_rfl) rfl #[] rfl (by (try simp only [List.map_toArray, List.map_cons, List.map_nil]); first | done | rfl | (simp only [List.length_drop, List.length_take]; rfl)) ?_; (with_reducible refine (wimplelaw22_awake.calls k  true _ A4.out).mono ?_); rintro e w17 ⟨rfl, hb⟩; refine ⟨_, rfl, ?_⟩; have n0_ := Aside0.mk (below_step (by repeat (first | (with_reducible first | exact HB.out | apply below_alloc | apply pw_below_drewN | apply below_drew1) | exact HB.out)) hb); clear HB; have HB := n0_; clear n0_; (try clear hb); (try clear hb2); (try clear hk); (try clear hi)) | ((with_reducible refine gate_callee (f := 19) rfl ?_); refine goesL_ (some 17) rfl rfl Try.func19 (by kernel_rfl) rfl #[.string a0] rfl (by (try simp only [List.map_toArray, List.map_cons, List.map_nil]); first | done | rfl | (simp only [List.length_drop, List.length_take]; rfl)) ?_; (with_reducible refine (wimpleref1_May.calls k a0 true _ A6.out).mono ?_); rintro e w18 ⟨rfl, hb⟩; refine ⟨_, rfl, ?_⟩; have n0_ := Aside0.mk (below_step (by repeat (first | (with_reducible first | exact HB.out | apply below_alloc | apply pw_below_drewN | apply below_drew1) | exact HB.out)) hb); clear HB; have HB := n0_; clear n0_; (try clear hb); (try clear hb2); (try clear hk); (try clear hi)) | ((with_reducible refine gate_callee (f := 20) rfl ?_); refine goesL_ (some 32) rfl rfl Try.func20 (by kernel_rfl) rfl #[.string a0] rfl (by (try simp only [List.map_toArray, List.map_cons, List.map_nil]); first | done | rfl | (simp only [List.length_drop, List.length_take]; rfl)) ?_; (with_reducible refine (wimpleref1_Count.calls k a0 t454 _ A8.out).mono ?_); rintro e w19 ⟨rfl, hb⟩; refine ⟨_, rfl, ?_⟩; have n0_ := Aside0.mk (below_step (by repeat (first | (with_reducible first | exact HB.out | apply below_alloc | apply pw_below_drewN | apply below_drew1) | exact HB.out)) hb); clear HB; have HB := n0_; clear n0_; (try clear hb); (try clear hb2); (try clear hk); (try clear hi)) | ((with_reducible refine gate_callee (f := 21) rfl ?_); refine goesL_ (some 37) rfl rfl Try.func21 (by kernel_rfl) rfl #[.string a0, .int .i64 (wrap64 (Int.tmod (IntKind.u64.wrap (a1)) (IntKind.u64.wrap (wrap64 (t454 + 1)))))] rfl (by (try simp only [List.map_toArray, List.map_cons, List.map_nil]); first | done | rfl | (simp only [List.length_drop, List.length_take]; rfl)) ?_; (with_reducible refine (wimpleref1_Last.calls k a0 (wrap64 (Int.tmod (IntKind.u64.wrap (a1)) (IntKind.u64.wrap (wrap64 (t454 + 1))))) t455 t456 _ A10.out).mono ?_); rintro e w20 ⟨rfl, hb⟩; refine ⟨_, rfl, ?_⟩; have n0_ := Aside0.mk (below_step (by repeat (first | (with_reducible first | exact HB.out | apply below_alloc | apply pw_below_drewN | apply below_drew1) | exact HB.out)) hb); clear HB; have HB := n0_; clear n0_; (try clear hb); (try clear hb2); (try clear hk); (try clear hi)) | ((with_reducible refine gate_callee (f := 9) rfl ?_); refine goesL_ (some 47) rfl rfl Try.func9 (by kernel_rfl) rfl #[.string a0, .int .i64 (wrap64 (1 + (Go.bits .and .i64 a2 32767))), .string t455] rfl (by (try simp only [List.map_toArray, List.map_cons, List.map_nil]); first | done | rfl | (simp only [List.length_drop, List.length_take]; rfl)) ?_; (with_reducible refine (task_New.calls k a0 (wrap64 (1 + (Go.bits .and .i64 a2 32767))) t455 t457 t458 t459 t460 t461 t462 t463 t464 t465 _ A11.out).mono ?_); rintro e w21 ⟨rfl, hb⟩; refine ⟨_, rfl, ?_⟩; have n0_ := Aside0.mk (below_step (by repeat (first | (with_reducible first | exact HB.out | apply below_alloc | apply pw_below_drewN | apply below_drew1) | exact HB.out)) hb); clear HB; have HB := n0_; clear n0_; (try clear hb); (try clear hb2); (try clear hk); (try clear hi)) | ((with_reducible refine gate_dst (N := 12) rfl ?_); refine box_event ?hg (N := 12) ?hd (cs := #[.string (⟨#[]⟩ : ByteArray), .int .i64 0, .string (⟨#[]⟩ : ByteArray), .string (⟨#[]⟩ : ByteArray), .int .i64 0, .bool false, .int .i64 0, .int .i64 0]) (t := 23) ?hr ?_; (case hd => rfl); (case hg => rfl); (case hr => first | (go_simp; done) | (go_simp; rfl)); intro gb466 hg w22 hbox hb; have n0_ := Aside0.mk (below_step (by repeat (first | (with_reducible first | exact HB.out | apply below_alloc | apply pw_below_drewN | apply below_drew1) | exact HB.out)) hb); have n1_ := Aside0.mk (hbox); have n2_ := Aside0.mk ((by rw [hg]; exact (below_size (by repeat (first | (with_reducible first | exact HB.out | apply below_alloc | apply pw_below_drewN | apply below_drew1) | exact HB.out))) : w.heap.size ≤ gb466)); have n3_ := Aside0.mk ((by rw [hg]; exact (below_size (by repeat (first | (with_reducible first | exact HB.out | apply below_alloc | apply pw_below_drewN | apply below_drew1) | exact HB.out))) : w.heap.size ≤ gb466)); clear HB; have HB := n0_; have BK466 := n1_; have GW466 := n2_; have GE466 := n3_; clear n0_ n1_ n2_ n3_; clear hb hbox hg; have hcz23_0 : w22.cell? ⟨gb466, 0, none⟩ = some (.string (⟨#[]⟩ : ByteArray)) := (blk_cell BK466.out 0).trans rfl; have hcz23_1 : w22.cell? ⟨gb466, 1, none⟩ = some (.int .i64 0) := (blk_cell BK466.out 1).trans rfl; have hcz23_2 : w22.cell? ⟨gb466, 2, none⟩ = some (.string (⟨#[]⟩ : ByteArray)) := (blk_cell BK466.out 2).trans rfl; have hcz23_3 : w22.cell? ⟨gb466, 3, none⟩ = some (.string (⟨#[]⟩ : ByteArray)) := (blk_cell BK466.out 3).trans rfl; have hcz23_4 : w22.cell? ⟨gb466, 4, none⟩ = some (.int .i64 0) := (blk_cell BK466.out 4).trans rfl; have hcz23_5 : w22.cell? ⟨gb466, 5, none⟩ = some (.bool false) := (blk_cell BK466.out 5).trans rfl; have hcz23_6 : w22.cell? ⟨gb466, 6, none⟩ = some (.int .i64 0) := (blk_cell BK466.out 6).trans rfl; have hcz23_7 : w22.cell? ⟨gb466, 7, none⟩ = some (.int .i64 0) := (blk_cell BK466.out 7).trans rfl; have hfz23_0 := blk_frozen BK466.out 0; have hfz23_1 := blk_frozen BK466.out 1; have hfz23_2 := blk_frozen BK466.out 2; have hfz23_3 := blk_frozen BK466.out 3; have hfz23_4 := blk_frozen BK466.out 4; have hfz23_5 := blk_frozen BK466.out 5; have hfz23_6 := blk_frozen BK466.out 6; have hfz23_7 := blk_frozen BK466.out 7))
          have n0_ : Aside0 (((((((((w22.setCell ⟨gb466, 0, none⟩ (.string t457)).setCell ⟨gb466, 1, none⟩ (.int .i64 t458)).setCell ⟨gb466, 2, none⟩ (.string t459)).setCell ⟨gb466, 3, none⟩ (.string t460)).setCell ⟨gb466, 4, none⟩ (.int .i64 t461)).setCell ⟨gb466, 5, none⟩ (.bool t462)).setCell ⟨gb466, 6, none⟩ (.int .i64 t463)).setCell ⟨gb466, 7, none⟩ (.int .i64 t464)).heap[gb466]? = some (.cells #[.string t457, .int .i64 t458, .string t459, .string t460, .int .i64 t461, .bool t462, .int .i64 t463, .int .i64 t464] 23 (0, 0))) := ⟨by (with_reducible repeat (first | refine blk_drewN ?_ _ | refine blk_drew ?_ | refine blk_alloc ?_ _)); refine blk_put (cs := #[.string t457, .int .i64 t458, .string t459, .string t460, .int .i64 t461, .bool t462, .int .i64 t463, .int .i64 0]) ?_ 7 _ rfl; (with_reducible repeat (first | refine blk_drewN ?_ _ | refine blk_drew ?_ | refine blk_alloc ?_ _)); refine blk_put (cs := #[.string t457, .int .i64 t458, .string t459, .string t460, .int .i64 t461, .bool t462, .int .i64 0, .int .i64 0]) ?_ 6 _ rfl; (with_reducible repeat (first | refine blk_drewN ?_ _ | refine blk_drew ?_ | refine blk_alloc ?_ _)); refine blk_put (cs := #[.string t457, .int .i64 t458, .string t459, .string t460, .int .i64 t461, .bool false, .int .i64 0, .int .i64 0]) ?_ 5 _ rfl; (with_reducible repeat (first | refine blk_drewN ?_ _ | refine blk_drew ?_ | refine blk_alloc ?_ _)); refine blk_put (cs := #[.string t457, .int .i64 t458, .string t459, .string t460, .int .i64 0, .bool false, .int .i64 0, .int .i64 0]) ?_ 4 _ rfl; (with_reducible repeat (first | refine blk_drewN ?_ _ | refine blk_drew ?_ | refine blk_alloc ?_ _)); refine blk_put (cs := #[.string t457, .int .i64 t458, .string t459, .string (⟨#[]⟩ : ByteArray), .int .i64 0, .bool false, .int .i64 0, .int .i64 0]) ?_ 3 _ rfl; (with_reducible repeat (first | refine blk_drewN ?_ _ | refine blk_drew ?_ | refine blk_alloc ?_ _)); refine blk_put (cs := #[.string t457, .int .i64 t458, .string (⟨#[]⟩ : ByteArray), .string (⟨#[]⟩ : ByteArray), .int .i64 0, .bool false, .int .i64 0, .int .i64 0]) ?_ 2 _ rfl; (with_reducible repeat (first | refine blk_drewN ?_ _ | refine blk_drew ?_ | refine blk_alloc ?_ _)); refine blk_put (cs := #[.string t457, .int .i64 0, .string (⟨#[]⟩ : ByteArray), .string (⟨#[]⟩ : ByteArray), .int .i64 0, .bool false, .int .i64 0, .int .i64 0]) ?_ 1 _ rfl; (with_reducible repeat (first | refine blk_drewN ?_ _ | refine blk_drew ?_ | refine blk_alloc ?_ _)); refine blk_put (cs := #[.string (⟨#[]⟩ : ByteArray), .int .i64 0, .string (⟨#[]⟩ : ByteArray), .string (⟨#[]⟩ : ByteArray), .int .i64 0, .bool false, .int .i64 0, .int .i64 0]) ?_ 0 _ rfl; (with_reducible repeat (first | refine blk_drewN ?_ _ | refine blk_drew ?_ | refine blk_alloc ?_ _)); exact BK466.out⟩
          have n1_ : Aside0 (Below w.heap.size w ((((((((w22.setCell ⟨gb466, 0, none⟩ (.string t457)).setCell ⟨gb466, 1, none⟩ (.int .i64 t458)).setCell ⟨gb466, 2, none⟩ (.string t459)).setCell ⟨gb466, 3, none⟩ (.string t460)).setCell ⟨gb466, 4, none⟩ (.int .i64 t461)).setCell ⟨gb466, 5, none⟩ (.bool t462)).setCell ⟨gb466, 6, none⟩ (.int .i64 t463)).setCell ⟨gb466, 7, none⟩ (.int .i64 t464))) := ⟨by repeat (first | (with_reducible first | exact HB.out | apply below_alloc | apply pw_below_drewN | apply below_drew1 | refine below_set ?_ GE466.out) | exact HB.out)⟩
          (try clear BK466)
          (try clear HB)
          generalize ((((((((w22.setCell ⟨gb466, 0, none⟩ (.string t457)).setCell ⟨gb466, 1, none⟩ (.int .i64 t458)).setCell ⟨gb466, 2, none⟩ (.string t459)).setCell ⟨gb466, 3, none⟩ (.string t460)).setCell ⟨gb466, 4, none⟩ (.int .i64 t461)).setCell ⟨gb466, 5, none⟩ (.bool t462)).setCell ⟨gb466, 6, none⟩ (.int .i64 t463)).setCell ⟨gb466, 7, none⟩ (.int .i64 t464)) = w24 at n0_ n1_ ⊢
          have BK466 := n0_
          have HB := n1_
          clear n0_ n1_
          have n0_ := Aside0.mk (blk_drew BK466.out)
          have n1_ := Aside0.mk (below_drew1 HB.out)
          clear BK466
          clear HB
          have BK466 := n0_
          have HB := n1_
          clear n0_ n1_
          refine start_ (n := 16) (S := fun w' => w'.cell? ⟨gb466, 0, none⟩ = some (.string t457) ∧ w'.cell? ⟨gb466, 1, none⟩ = some (.int .i64 t458) ∧ w'.cell? ⟨gb466, 2, none⟩ = some (.string t459) ∧ w'.cell? ⟨gb466, 3, none⟩ = some (.string t460) ∧ w'.cell? ⟨gb466, 4, none⟩ = some (.int .i64 t461) ∧ w'.cell? ⟨gb466, 5, none⟩ = some (.bool t462) ∧ w'.cell? ⟨gb466, 6, none⟩ = some (.int .i64 t463) ∧ w'.cell? ⟨gb466, 7, none⟩ = some (.int .i64 t464)) (ds := []) #[false, false, false, false, false, false, false, false, false, false, false, false, false, false, false, false] (by kernel_rfl) rfl rfl ⟨(blk_cell BK466.out 0).trans rfl, (blk_cell BK466.out 1).trans rfl, (blk_cell BK466.out 2).trans rfl, (blk_cell BK466.out 3).trans rfl, (blk_cell BK466.out 4).trans rfl, (blk_cell BK466.out 5).trans rfl, (blk_cell BK466.out 6).trans rfl, (blk_cell BK466.out 7).trans rfl⟩ (fun hHeld => ?_); refine with_tabW wimplelaw22_TaskFresh.tab9 wimplelaw22_TaskFresh.bits9 (fun HT_ HW_ => ?_)
          generalize w24.drew = w25 at BK466 HB hHeld ⊢
          refine pure_ (i := 0) (N := some 50) (v := ?_) (a' := ?_) #[true, false, false, false, false, false, false, false, false, false, false, false, false, false, false, false] rfl rfl (any_of HT_.out (by kernel_rfl)) (fun _ _ _ h => h) (Or.inl ⟨by rfl, ?_⟩) ?_ ?_
          rotate_left
          · intro w'
            go_simp
            with_reducible rfl
          rotate_left
          · simp only [Act.put, List.setIfInBounds_toArray, List.set_cons_zero, List.set_cons_succ, i64_w, i32_w]
            rfl
          refine one_ (i := 1) (N := some 51) #[true, true, false, false, false, false, false, false, false, false, false, false, false, false, false, false] rfl rfl (one_of HT_.out (by kernel_rfl)) (by decide) (fun K hK => ?_)
          refine goes_ Try.func15 (by kernel_rfl) rfl #[.int .i64 t465] (by rfl) rfl rfl (by (try simp only [List.map_toArray, List.map_cons, List.map_nil]); first | done | rfl | (simp only [List.length_drop, List.length_take]; rfl)) ?_
          with_reducible refine (wimplelaw0_Num.calls t465 t467 _ A12.out).mono ?_
          rintro e w' ⟨rfl, ⟨nd, rfl⟩⟩
          refine ⟨_, rfl, ?_⟩
          refine hK.out _ _ ⟨(blk_cell BK466.out 0).trans rfl, (blk_cell BK466.out 1).trans rfl, (blk_cell BK466.out 2).trans rfl, (blk_cell BK466.out 3).trans rfl, (blk_cell BK466.out 4).trans rfl, (blk_cell BK466.out 5).trans rfl, (blk_cell BK466.out 6).trans rfl, (blk_cell BK466.out 7).trans rfl⟩ (fun hHeld => ?_)
          clear hK K
          refine norm_ (a' := ?_) ?_ ?_
          rotate_left
          · show Act.put _ (some 51) _ = _
            simp only [Act.put, List.setIfInBounds_toArray, List.set_cons_zero, List.set_cons_succ, i64_w, i32_w]
            rfl
          refine pure_ (i := 2) (N := some 52) (v := ?_) (a' := ?_) #[true, true, true, false, false, false, false, false, false, false, false, false, false, false, false, false] rfl rfl (any_of HT_.out (by kernel_rfl)) (fun _ _ _ h => h) (Or.inl ⟨by rfl, ?_⟩) ?_ ?_
          rotate_left
          · intro w'
            go_simp
            with_reducible rfl
          rotate_left
          · simp only [Act.put, List.setIfInBounds_toArray, List.set_cons_zero, List.set_cons_succ, i64_w, i32_w]
            rfl
          refine pure_ (i := 3) (N := some 53) (v := ?_) (a' := ?_) #[true, true, true, true, false, false, false, false, false, false, false, false, false, false, false, false] rfl rfl (any_of HT_.out (by kernel_rfl)) (fun _ _ _ h => h) (Or.inl ⟨by rfl, ?_⟩) ?_ ?_
          rotate_left
          · intro w'
            go_simp
            with_reducible rfl
          rotate_left
          · simp only [Act.put, List.setIfInBounds_toArray, List.set_cons_zero, List.set_cons_succ, i64_w, i32_w]
            rfl
          refine pure_ (i := 5) (N := some 55) (v := ?_) (a' := ?_) #[true, true, true, true, false, true, false, false, false, false, false, false, false, false, false, false] rfl rfl (any_of HT_.out (by kernel_rfl)) (fun _ _ _ h => h) (Or.inl ⟨by rfl, ?_⟩) ?_ ?_
          rotate_left
          · intro w'
            go_simp
            with_reducible rfl
          rotate_left
          · simp only [Act.put, List.setIfInBounds_toArray, List.set_cons_zero, List.set_cons_succ, i64_w, i32_w]
            rfl
          refine pure_ (i := 7) (N := some 57) (v := ?_) (a' := ?_) #[true, true, true, true, false, true, false, true, false, false, false, false, false, false, false, false] rfl rfl (any_of HT_.out (by kernel_rfl)) (fun _ _ _ h => h) (Or.inl ⟨by rfl, ?_⟩) ?_ ?_
          rotate_left
          · intro w'
            go_simp
            with_reducible rfl
          rotate_left
          · simp only [Act.put, List.setIfInBounds_toArray, List.set_cons_zero, List.set_cons_succ, i64_w, i32_w]
            rfl
          refine pure_ (i := 8) (N := some 58) (v := ?_) (a' := ?_) #[true, true, true, true, false, true, false, true, true, false, false, false, false, false, false, false] rfl rfl (any_of HT_.out (by kernel_rfl)) (fun _ _ _ h => h) (Or.inl ⟨by rfl, ?_⟩) ?_ ?_
          rotate_left
          · intro w'
            go_simp
            with_reducible rfl
          rotate_left
          · simp only [Act.put, List.setIfInBounds_toArray, List.set_cons_zero, List.set_cons_succ, i64_w, i32_w]
            rfl
          refine pure_ (i := 10) (N := some 60) (v := ?_) (a' := ?_) #[true, true, true, true, false, true, false, true, true, false, true, false, false, false, false, false] rfl rfl (any_of HT_.out (by kernel_rfl)) (fun _ _ _ h => h) (Or.inl ⟨by rfl, ?_⟩) ?_ ?_
          rotate_left
          · intro w'
            go_simp
            with_reducible rfl
          rotate_left
          · simp only [Act.put, List.setIfInBounds_toArray, List.set_cons_zero, List.set_cons_succ, i64_w, i32_w]
            rfl
          refine take_ (i := 4) (N := some 54) (v := ?_) (a' := ?_) #[true, true, true, true, true, true, false, true, true, false, true, false, false, false, false, false] rfl rfl (take_ofW HT_.out HW_.out (by kernel_rfl)) (fun _ _ _ h => h) (Or.inl ⟨by rfl, ?_⟩) hHeld ?_ ?_
          rotate_left
          · rintro w' ⟨s0, s1, s2, s3, s4, s5, s6, s7⟩
            go_simp
            with_reducible rfl
          rotate_left
          · simp only [Act.put, List.setIfInBounds_toArray, List.set_cons_zero, List.set_cons_succ, i64_w, i32_w]
            rfl
          refine one_ (i := 6) (N := some 56) #[true, true, true, true, true, true, true, true, true, false, true, false, false, false, false, false] rfl rfl (one_of HT_.out (by kernel_rfl)) (by decide) (fun K hK => ?_)
          refine goes_ Try.func17 (by kernel_rfl) rfl #[.string a0] (by rfl) rfl rfl (by (try simp only [List.map_toArray, List.map_cons, List.map_nil]); first | done | rfl | (simp only [List.length_drop, List.length_take]; rfl)) ?_
          with_reducible refine (wimpleref1_Fold.calls k a0 t468 _ A14.out).mono ?_
          rintro e w26 ⟨rfl, hb⟩
          refine ⟨_, rfl, ?_⟩
          have n0_ := Aside0.mk (blk_below (g := gb466) (o := .cells #[.string t457, .int .i64 t458, .string t459, .string t460, .int .i64 t461, .bool t462, .int .i64 t463, .int .i64 t464] 23 (0, 0)) (by (with_reducible repeat (first | refine blk_drewN ?_ _ | refine blk_drew ?_ | refine blk_alloc ?_ _)); exact BK466.out) hb)
          have n1_ := Aside0.mk (below_step (by repeat (first | (with_reducible first | exact HB.out | apply below_alloc | apply pw_below_drewN | apply below_drew1 | refine below_set ?_ GE466.out) | exact HB.out)) hb)
          clear BK466
          clear HB
          have BK466 := n0_
          have HB := n1_
          clear n0_ n1_
          (try clear hb)
          (try clear hb2)
          (try clear hk)
          (try clear hi)
          refine hK.out _ _ ⟨(blk_cell BK466.out 0).trans rfl, (blk_cell BK466.out 1).trans rfl, (blk_cell BK466.out 2).trans rfl, (blk_cell BK466.out 3).trans rfl, (blk_cell BK466.out 4).trans rfl, (blk_cell BK466.out 5).trans rfl, (blk_cell BK466.out 6).trans rfl, (blk_cell BK466.out 7).trans rfl⟩ (fun hHeld => ?_)
          clear hK K
          refine norm_ (a' := ?_) ?_ ?_
          rotate_left
          · show Act.put _ (some 56) _ = _
            simp only [Act.put, List.setIfInBounds_toArray, List.set_cons_zero, List.set_cons_succ, i64_w, i32_w]
            rfl
          refine one_ (i := 9) (N := some 59) #[true, true, true, true, true, true, true, true, true, true, true, false, false, false, false, false] rfl rfl (one_of HT_.out (by kernel_rfl)) (by decide) (fun K hK => ?_)
          refine goes_ Try.func17 (by kernel_rfl) rfl #[.string t455] (by rfl) rfl rfl (by (try simp only [List.map_toArray, List.map_cons, List.map_nil]); first | done | rfl | (simp only [List.length_drop, List.length_take]; rfl)) ?_
          with_reducible refine (wimpleref1_Fold.calls k t455 t469 _ A15.out).mono ?_
          rintro e w27 ⟨rfl, hb⟩
          refine ⟨_, rfl, ?_⟩
          have n0_ := Aside0.mk (blk_below (g := gb466) (o := .cells #[.string t457, .int .i64 t458, .string t459, .string t460, .int .i64 t461, .bool t462, .int .i64 t463, .int .i64 t464] 23 (0, 0)) (by (with_reducible repeat (first | refine blk_drewN ?_ _ | refine blk_drew ?_ | refine blk_alloc ?_ _)); exact BK466.out) hb)
          have n1_ := Aside0.mk (below_step (by repeat (first | (with_reducible first | exact HB.out | apply below_alloc | apply pw_below_drewN | apply below_drew1 | refine below_set ?_ GE466.out) | exact HB.out)) hb)
          clear BK466
          clear HB
          have BK466 := n0_
          have HB := n1_
          clear n0_ n1_
          (try clear hb)
          (try clear hb2)
          (try clear hk)
          (try clear hi)
          refine hK.out _ _ ⟨(blk_cell BK466.out 0).trans rfl, (blk_cell BK466.out 1).trans rfl, (blk_cell BK466.out 2).trans rfl, (blk_cell BK466.out 3).trans rfl, (blk_cell BK466.out 4).trans rfl, (blk_cell BK466.out 5).trans rfl, (blk_cell BK466.out 6).trans rfl, (blk_cell BK466.out 7).trans rfl⟩ (fun hHeld => ?_)
          clear hK K
          refine norm_ (a' := ?_) ?_ ?_
          rotate_left
          · show Act.put _ (some 59) _ = _
            simp only [Act.put, List.setIfInBounds_toArray, List.set_cons_zero, List.set_cons_succ, i64_w, i32_w]
            rfl
          refine one_ (i := 11) (N := some 61) #[true, true, true, true, true, true, true, true, true, true, true, true, false, false, false, false] rfl rfl (one_of HT_.out (by kernel_rfl)) (by decide) (fun K hK => ?_)
          refine goes_ Try.func17 (by kernel_rfl) rfl #[.string t455] (by rfl) rfl rfl (by (try simp only [List.map_toArray, List.map_cons, List.map_nil]); first | done | rfl | (simp only [List.length_drop, List.length_take]; rfl)) ?_
          with_reducible refine (wimpleref1_Fold.calls k t455 t469 _ A16.out).mono ?_
          rintro e w28 ⟨rfl, hb⟩
          refine ⟨_, rfl, ?_⟩
          have n0_ := Aside0.mk (blk_below (g := gb466) (o := .cells #[.string t457, .int .i64 t458, .string t459, .string t460, .int .i64 t461, .bool t462, .int .i64 t463, .int .i64 t464] 23 (0, 0)) (by (with_reducible repeat (first | refine blk_drewN ?_ _ | refine blk_drew ?_ | refine blk_alloc ?_ _)); exact BK466.out) hb)
          have n1_ := Aside0.mk (below_step (by repeat (first | (with_reducible first | exact HB.out | apply below_alloc | apply pw_below_drewN | apply below_drew1 | refine below_set ?_ GE466.out) | exact HB.out)) hb)
          clear BK466
          clear HB
          have BK466 := n0_
          have HB := n1_
          clear n0_ n1_
          (try clear hb)
          (try clear hb2)
          (try clear hk)
          (try clear hi)
          refine hK.out _ _ ⟨(blk_cell BK466.out 0).trans rfl, (blk_cell BK466.out 1).trans rfl, (blk_cell BK466.out 2).trans rfl, (blk_cell BK466.out 3).trans rfl, (blk_cell BK466.out 4).trans rfl, (blk_cell BK466.out 5).trans rfl, (blk_cell BK466.out 6).trans rfl, (blk_cell BK466.out 7).trans rfl⟩ (fun hHeld => ?_)
          clear hK K
          refine norm_ (a' := ?_) ?_ ?_
          rotate_left
          · show Act.put _ (some 61) _ = _
            simp only [Act.put, List.setIfInBounds_toArray, List.set_cons_zero, List.set_cons_succ, i64_w, i32_w]
            rfl
          refine pure_ (i := 12) (N := some 62) (v := ?_) (a' := ?_) #[true, true, true, true, true, true, true, true, true, true, true, true, true, false, false, false] rfl rfl (any_of HT_.out (by kernel_rfl)) (fun _ _ _ h => h) (Or.inl ⟨by rfl, ?_⟩) ?_ ?_
          rotate_left
          · intro w'
            go_simp
            with_reducible rfl
          rotate_left
          · simp only [Act.put, List.setIfInBounds_toArray, List.set_cons_zero, List.set_cons_succ, i64_w, i32_w]
            rfl
          refine pure_ (i := 13) (N := some 63) (v := ?_) (a' := ?_) #[true, true, true, true, true, true, true, true, true, true, true, true, true, true, false, false] rfl rfl (any_of HT_.out (by kernel_rfl)) (fun _ _ _ h => h) (Or.inl ⟨by rfl, ?_⟩) ?_ ?_
          rotate_left
          · intro w'
            go_simp
            with_reducible rfl
          rotate_left
          · simp only [Act.put, List.setIfInBounds_toArray, List.set_cons_zero, List.set_cons_succ, i64_w, i32_w]
            rfl
          refine pure_ (i := 14) (N := some 64) (v := ?_) (a' := ?_) #[true, true, true, true, true, true, true, true, true, true, true, true, true, true, true, false] rfl rfl (any_of HT_.out (by kernel_rfl)) (fun _ _ _ h => h) (Or.inl ⟨by rfl, ?_⟩) ?_ ?_
          rotate_left
          · intro w'
            go_simp
            with_reducible rfl
          rotate_left
          · simp only [Act.put, List.setIfInBounds_toArray, List.set_cons_zero, List.set_cons_succ, i64_w, i32_w]
            rfl
          refine pure_ (i := 15) (N := some 6) (v := ?_) (a' := ?_) #[true, true, true, true, true, true, true, true, true, true, true, true, true, true, true, true] rfl rfl (any_of HT_.out (by kernel_rfl)) (fun _ _ _ h => h) (Or.inl ⟨by rfl, ?_⟩) ?_ ?_
          rotate_left
          · intro w'
            go_simp
            with_reducible rfl
          rotate_left
          · simp only [Act.put, List.setIfInBounds_toArray, List.set_cons_zero, List.set_cons_succ, i64_w, i32_w]
            rfl
          refine done_ (done_of HT_.out (by kernel_rfl)) ?_
          try go_wp2
          go_ret
          exact ⟨by first | rfl | (simp [errW_none, errW_some] <;> rfl) | (simp [*, errW_none, errW_some] <;> rfl), by repeat (first | (with_reducible first | exact HB.out | apply below_alloc | apply pw_below_drewN | apply below_drew1 | refine below_set ?_ GE466.out) | exact HB.out)⟩
        · rw [if_neg c13] at H
          have c13b0 : (t467 == 0) = false := beq_eq_false_iff_ne.mpr c13
          have c13b1 : (t467 != 0) = true := bne_iff_ne.mpr c13
          obtain rfl := Option.some.inj H
          go_enter Try.func8, Try.ntmps8
          try simp only [List.append_eq, List.cons_append, List.nil_append]
          try go_wp2_with (first | ((with_reducible refine gate_callee (f := 16) rfl ?_); refine goesL_ (some 14) rfl rfl Try.func16 (by kernel_rfl) rfl #[] rfl (by (try simp only [List.map_toArray, List.map_cons, List.map_nil]); first | done | rfl | (simp only [List.length_drop, List.length_take]; rfl)) ?_; (with_reducible refine (wimplelaw22_awake.calls k  true _ A4.out).mono ?_); rintro e w29 ⟨rfl, hb⟩; refine ⟨_, rfl, ?_⟩; have n0_ := Aside0.mk (below_step (by repeat (first | (with_reducible first | exact HB.out | apply below_alloc | apply pw_below_drewN | apply below_drew1) | exact HB.out)) hb); clear HB; have HB := n0_; clear n0_; (try clear hb); (try clear hb2); (try clear hk); (try clear hi)) | ((with_reducible refine gate_callee (f := 19) rfl ?_); refine goesL_ (some 17) rfl rfl Try.func19 (by kernel_rfl) rfl #[.string a0] rfl (by (try simp only [List.map_toArray, List.map_cons, List.map_nil]); first | done | rfl | (simp only [List.length_drop, List.length_take]; rfl)) ?_; (with_reducible refine (wimpleref1_May.calls k a0 true _ A6.out).mono ?_); rintro e w30 ⟨rfl, hb⟩; refine ⟨_, rfl, ?_⟩; have n0_ := Aside0.mk (below_step (by repeat (first | (with_reducible first | exact HB.out | apply below_alloc | apply pw_below_drewN | apply below_drew1) | exact HB.out)) hb); clear HB; have HB := n0_; clear n0_; (try clear hb); (try clear hb2); (try clear hk); (try clear hi)) | ((with_reducible refine gate_callee (f := 20) rfl ?_); refine goesL_ (some 32) rfl rfl Try.func20 (by kernel_rfl) rfl #[.string a0] rfl (by (try simp only [List.map_toArray, List.map_cons, List.map_nil]); first | done | rfl | (simp only [List.length_drop, List.length_take]; rfl)) ?_; (with_reducible refine (wimpleref1_Count.calls k a0 t454 _ A8.out).mono ?_); rintro e w31 ⟨rfl, hb⟩; refine ⟨_, rfl, ?_⟩; have n0_ := Aside0.mk (below_step (by repeat (first | (with_reducible first | exact HB.out | apply below_alloc | apply pw_below_drewN | apply below_drew1) | exact HB.out)) hb); clear HB; have HB := n0_; clear n0_; (try clear hb); (try clear hb2); (try clear hk); (try clear hi)) | ((with_reducible refine gate_callee (f := 21) rfl ?_); refine goesL_ (some 37) rfl rfl Try.func21 (by kernel_rfl) rfl #[.string a0, .int .i64 (wrap64 (Int.tmod (IntKind.u64.wrap (a1)) (IntKind.u64.wrap (wrap64 (t454 + 1)))))] rfl (by (try simp only [List.map_toArray, List.map_cons, List.map_nil]); first | done | rfl | (simp only [List.length_drop, List.length_take]; rfl)) ?_; (with_reducible refine (wimpleref1_Last.calls k a0 (wrap64 (Int.tmod (IntKind.u64.wrap (a1)) (IntKind.u64.wrap (wrap64 (t454 + 1))))) t455 t456 _ A10.out).mono ?_); rintro e w32 ⟨rfl, hb⟩; refine ⟨_, rfl, ?_⟩; have n0_ := Aside0.mk (below_step (by repeat (first | (with_reducible first | exact HB.out | apply below_alloc | apply pw_below_drewN | apply below_drew1) | exact HB.out)) hb); clear HB; have HB := n0_; clear n0_; (try clear hb); (try clear hb2); (try clear hk); (try clear hi)) | ((with_reducible refine gate_callee (f := 9) rfl ?_); refine goesL_ (some 47) rfl rfl Try.func9 (by kernel_rfl) rfl #[.string a0, .int .i64 (wrap64 (1 + (Go.bits .and .i64 a2 32767))), .string t455] rfl (by (try simp only [List.map_toArray, List.map_cons, List.map_nil]); first | done | rfl | (simp only [List.length_drop, List.length_take]; rfl)) ?_; (with_reducible refine (task_New.calls k a0 (wrap64 (1 + (Go.bits .and .i64 a2 32767))) t455 t457 t458 t459 t460 t461 t462 t463 t464 t465 _ A11.out).mono ?_); rintro e w33 ⟨rfl, hb⟩; refine ⟨_, rfl, ?_⟩; have n0_ := Aside0.mk (below_step (by repeat (first | (with_reducible first | exact HB.out | apply below_alloc | apply pw_below_drewN | apply below_drew1) | exact HB.out)) hb); clear HB; have HB := n0_; clear n0_; (try clear hb); (try clear hb2); (try clear hk); (try clear hi)) | ((with_reducible refine gate_dst (N := 12) rfl ?_); refine box_event ?hg (N := 12) ?hd (cs := #[.string (⟨#[]⟩ : ByteArray), .int .i64 0, .string (⟨#[]⟩ : ByteArray), .string (⟨#[]⟩ : ByteArray), .int .i64 0, .bool false, .int .i64 0, .int .i64 0]) (t := 23) ?hr ?_; (case hd => rfl); (case hg => rfl); (case hr => first | (go_simp; done) | (go_simp; rfl)); intro gb466 hg w34 hbox hb; have n0_ := Aside0.mk (below_step (by repeat (first | (with_reducible first | exact HB.out | apply below_alloc | apply pw_below_drewN | apply below_drew1) | exact HB.out)) hb); have n1_ := Aside0.mk (hbox); have n2_ := Aside0.mk ((by rw [hg]; exact (below_size (by repeat (first | (with_reducible first | exact HB.out | apply below_alloc | apply pw_below_drewN | apply below_drew1) | exact HB.out))) : w.heap.size ≤ gb466)); have n3_ := Aside0.mk ((by rw [hg]; exact (below_size (by repeat (first | (with_reducible first | exact HB.out | apply below_alloc | apply pw_below_drewN | apply below_drew1) | exact HB.out))) : w.heap.size ≤ gb466)); clear HB; have HB := n0_; have BK466 := n1_; have GW466 := n2_; have GE466 := n3_; clear n0_ n1_ n2_ n3_; clear hb hbox hg; have hcz35_0 : w34.cell? ⟨gb466, 0, none⟩ = some (.string (⟨#[]⟩ : ByteArray)) := (blk_cell BK466.out 0).trans rfl; have hcz35_1 : w34.cell? ⟨gb466, 1, none⟩ = some (.int .i64 0) := (blk_cell BK466.out 1).trans rfl; have hcz35_2 : w34.cell? ⟨gb466, 2, none⟩ = some (.string (⟨#[]⟩ : ByteArray)) := (blk_cell BK466.out 2).trans rfl; have hcz35_3 : w34.cell? ⟨gb466, 3, none⟩ = some (.string (⟨#[]⟩ : ByteArray)) := (blk_cell BK466.out 3).trans rfl; have hcz35_4 : w34.cell? ⟨gb466, 4, none⟩ = some (.int .i64 0) := (blk_cell BK466.out 4).trans rfl; have hcz35_5 : w34.cell? ⟨gb466, 5, none⟩ = some (.bool false) := (blk_cell BK466.out 5).trans rfl; have hcz35_6 : w34.cell? ⟨gb466, 6, none⟩ = some (.int .i64 0) := (blk_cell BK466.out 6).trans rfl; have hcz35_7 : w34.cell? ⟨gb466, 7, none⟩ = some (.int .i64 0) := (blk_cell BK466.out 7).trans rfl; have hfz35_0 := blk_frozen BK466.out 0; have hfz35_1 := blk_frozen BK466.out 1; have hfz35_2 := blk_frozen BK466.out 2; have hfz35_3 := blk_frozen BK466.out 3; have hfz35_4 := blk_frozen BK466.out 4; have hfz35_5 := blk_frozen BK466.out 5; have hfz35_6 := blk_frozen BK466.out 6; have hfz35_7 := blk_frozen BK466.out 7))
          have n0_ : Aside0 (((((((((w34.setCell ⟨gb466, 0, none⟩ (.string t457)).setCell ⟨gb466, 1, none⟩ (.int .i64 t458)).setCell ⟨gb466, 2, none⟩ (.string t459)).setCell ⟨gb466, 3, none⟩ (.string t460)).setCell ⟨gb466, 4, none⟩ (.int .i64 t461)).setCell ⟨gb466, 5, none⟩ (.bool t462)).setCell ⟨gb466, 6, none⟩ (.int .i64 t463)).setCell ⟨gb466, 7, none⟩ (.int .i64 t464)).heap[gb466]? = some (.cells #[.string t457, .int .i64 t458, .string t459, .string t460, .int .i64 t461, .bool t462, .int .i64 t463, .int .i64 t464] 23 (0, 0))) := ⟨by (with_reducible repeat (first | refine blk_drewN ?_ _ | refine blk_drew ?_ | refine blk_alloc ?_ _)); refine blk_put (cs := #[.string t457, .int .i64 t458, .string t459, .string t460, .int .i64 t461, .bool t462, .int .i64 t463, .int .i64 0]) ?_ 7 _ rfl; (with_reducible repeat (first | refine blk_drewN ?_ _ | refine blk_drew ?_ | refine blk_alloc ?_ _)); refine blk_put (cs := #[.string t457, .int .i64 t458, .string t459, .string t460, .int .i64 t461, .bool t462, .int .i64 0, .int .i64 0]) ?_ 6 _ rfl; (with_reducible repeat (first | refine blk_drewN ?_ _ | refine blk_drew ?_ | refine blk_alloc ?_ _)); refine blk_put (cs := #[.string t457, .int .i64 t458, .string t459, .string t460, .int .i64 t461, .bool false, .int .i64 0, .int .i64 0]) ?_ 5 _ rfl; (with_reducible repeat (first | refine blk_drewN ?_ _ | refine blk_drew ?_ | refine blk_alloc ?_ _)); refine blk_put (cs := #[.string t457, .int .i64 t458, .string t459, .string t460, .int .i64 0, .bool false, .int .i64 0, .int .i64 0]) ?_ 4 _ rfl; (with_reducible repeat (first | refine blk_drewN ?_ _ | refine blk_drew ?_ | refine blk_alloc ?_ _)); refine blk_put (cs := #[.string t457, .int .i64 t458, .string t459, .string (⟨#[]⟩ : ByteArray), .int .i64 0, .bool false, .int .i64 0, .int .i64 0]) ?_ 3 _ rfl; (with_reducible repeat (first | refine blk_drewN ?_ _ | refine blk_drew ?_ | refine blk_alloc ?_ _)); refine blk_put (cs := #[.string t457, .int .i64 t458, .string (⟨#[]⟩ : ByteArray), .string (⟨#[]⟩ : ByteArray), .int .i64 0, .bool false, .int .i64 0, .int .i64 0]) ?_ 2 _ rfl; (with_reducible repeat (first | refine blk_drewN ?_ _ | refine blk_drew ?_ | refine blk_alloc ?_ _)); refine blk_put (cs := #[.string t457, .int .i64 0, .string (⟨#[]⟩ : ByteArray), .string (⟨#[]⟩ : ByteArray), .int .i64 0, .bool false, .int .i64 0, .int .i64 0]) ?_ 1 _ rfl; (with_reducible repeat (first | refine blk_drewN ?_ _ | refine blk_drew ?_ | refine blk_alloc ?_ _)); refine blk_put (cs := #[.string (⟨#[]⟩ : ByteArray), .int .i64 0, .string (⟨#[]⟩ : ByteArray), .string (⟨#[]⟩ : ByteArray), .int .i64 0, .bool false, .int .i64 0, .int .i64 0]) ?_ 0 _ rfl; (with_reducible repeat (first | refine blk_drewN ?_ _ | refine blk_drew ?_ | refine blk_alloc ?_ _)); exact BK466.out⟩
          have n1_ : Aside0 (Below w.heap.size w ((((((((w34.setCell ⟨gb466, 0, none⟩ (.string t457)).setCell ⟨gb466, 1, none⟩ (.int .i64 t458)).setCell ⟨gb466, 2, none⟩ (.string t459)).setCell ⟨gb466, 3, none⟩ (.string t460)).setCell ⟨gb466, 4, none⟩ (.int .i64 t461)).setCell ⟨gb466, 5, none⟩ (.bool t462)).setCell ⟨gb466, 6, none⟩ (.int .i64 t463)).setCell ⟨gb466, 7, none⟩ (.int .i64 t464))) := ⟨by repeat (first | (with_reducible first | exact HB.out | apply below_alloc | apply pw_below_drewN | apply below_drew1 | refine below_set ?_ GE466.out) | exact HB.out)⟩
          (try clear BK466)
          (try clear HB)
          generalize ((((((((w34.setCell ⟨gb466, 0, none⟩ (.string t457)).setCell ⟨gb466, 1, none⟩ (.int .i64 t458)).setCell ⟨gb466, 2, none⟩ (.string t459)).setCell ⟨gb466, 3, none⟩ (.string t460)).setCell ⟨gb466, 4, none⟩ (.int .i64 t461)).setCell ⟨gb466, 5, none⟩ (.bool t462)).setCell ⟨gb466, 6, none⟩ (.int .i64 t463)).setCell ⟨gb466, 7, none⟩ (.int .i64 t464)) = w36 at n0_ n1_ ⊢
          have BK466 := n0_
          have HB := n1_
          clear n0_ n1_
          have n0_ := Aside0.mk (blk_drew BK466.out)
          have n1_ := Aside0.mk (below_drew1 HB.out)
          clear BK466
          clear HB
          have BK466 := n0_
          have HB := n1_
          clear n0_ n1_
          refine start_ (n := 16) (S := fun w' => True) (ds := []) #[false, false, false, false, false, false, false, false, false, false, false, false, false, false, false, false] (by kernel_rfl) rfl rfl trivial (fun hHeld => ?_); refine with_tabW wimplelaw22_TaskFresh.tab9 wimplelaw22_TaskFresh.bits9 (fun HT_ HW_ => ?_)
          generalize w36.drew = w37 at BK466 HB hHeld ⊢
          refine pure_ (i := 0) (N := some 50) (v := ?_) (a' := ?_) #[true, false, false, false, false, false, false, false, false, false, false, false, false, false, false, false] rfl rfl (any_of HT_.out (by kernel_rfl)) (fun _ _ _ h => h) (Or.inl ⟨by rfl, ?_⟩) ?_ ?_
          rotate_left
          · intro w'
            go_simp
            with_reducible rfl
          rotate_left
          · simp only [Act.put, List.setIfInBounds_toArray, List.set_cons_zero, List.set_cons_succ, i64_w, i32_w]
            rfl
          refine one_ (i := 1) (N := some 51) #[true, true, false, false, false, false, false, false, false, false, false, false, false, false, false, false] rfl rfl (one_of HT_.out (by kernel_rfl)) (by decide) (fun K hK => ?_)
          refine goes_ Try.func15 (by kernel_rfl) rfl #[.int .i64 t465] (by rfl) rfl rfl (by (try simp only [List.map_toArray, List.map_cons, List.map_nil]); first | done | rfl | (simp only [List.length_drop, List.length_take]; rfl)) ?_
          with_reducible refine (wimplelaw0_Num.calls t465 t467 _ A12.out).mono ?_
          rintro e w' ⟨rfl, ⟨nd, rfl⟩⟩
          refine ⟨_, rfl, ?_⟩
          refine hK.out _ _ trivial (fun hHeld => ?_)
          clear hK K
          refine norm_ (a' := ?_) ?_ ?_
          rotate_left
          · show Act.put _ (some 51) _ = _
            simp only [Act.put, List.setIfInBounds_toArray, List.set_cons_zero, List.set_cons_succ, i64_w, i32_w]
            rfl
          refine pure_ (i := 2) (N := some 52) (v := ?_) (a' := ?_) #[true, true, true, false, false, false, false, false, false, false, false, false, false, false, false, false] rfl rfl (any_of HT_.out (by kernel_rfl)) (fun _ _ _ h => h) (Or.inl ⟨by rfl, ?_⟩) ?_ ?_
          rotate_left
          · intro w'
            go_simp
            with_reducible rfl
          rotate_left
          · simp only [Act.put, List.setIfInBounds_toArray, List.set_cons_zero, List.set_cons_succ, i64_w, i32_w]
            rfl
          refine pure_ (i := 3) (N := some 53) (v := ?_) (a' := ?_) #[true, true, true, true, false, false, false, false, false, false, false, false, false, false, false, false] rfl rfl (any_of HT_.out (by kernel_rfl)) (fun _ _ _ h => h) (Or.inl ⟨by rfl, ?_⟩) ?_ ?_
          rotate_left
          · intro w'
            go_simp
            with_reducible rfl
          rotate_left
          · simp only [Act.put, List.setIfInBounds_toArray, List.set_cons_zero, List.set_cons_succ, i64_w, i32_w]
            rfl
          refine pure_ (i := 4) (N := some 54) (v := undef) (a' := ?_) #[true, true, true, true, true, false, false, false, false, false, false, false, false, false, false, false] rfl rfl (any_of HT_.out (by kernel_rfl)) (fun _ _ _ h => h) (Or.inr ⟨by rfl, rfl⟩) ?_ ?_
          rotate_left
          · simp only [Act.put, List.setIfInBounds_toArray, List.set_cons_zero, List.set_cons_succ, i64_w, i32_w]
            rfl
          refine pure_ (i := 5) (N := some 55) (v := undef) (a' := ?_) #[true, true, true, true, true, true, false, false, false, false, false, false, false, false, false, false] rfl rfl (any_of HT_.out (by kernel_rfl)) (fun _ _ _ h => h) (Or.inr ⟨by rfl, rfl⟩) ?_ ?_
          rotate_left
          · simp only [Act.put, List.setIfInBounds_toArray, List.set_cons_zero, List.set_cons_succ, i64_w, i32_w]
            rfl
          refine pure_ (i := 6) (N := some 56) (v := undef) (a' := ?_) #[true, true, true, true, true, true, true, false, false, false, false, false, false, false, false, false] rfl rfl (any_of HT_.out (by kernel_rfl)) (fun _ _ _ h => h) (Or.inr ⟨by rfl, rfl⟩) ?_ ?_
          rotate_left
          · simp only [Act.put, List.setIfInBounds_toArray, List.set_cons_zero, List.set_cons_succ, i64_w, i32_w]
            rfl
          refine pure_ (i := 7) (N := some 57) (v := undef) (a' := ?_) #[true, true, true, true, true, true, true, true, false, false, false, false, false, false, false, false] rfl rfl (any_of HT_.out (by kernel_rfl)) (fun _ _ _ h => h) (Or.inr ⟨by rfl, rfl⟩) ?_ ?_
          rotate_left
          · simp only [Act.put, List.setIfInBounds_toArray, List.set_cons_zero, List.set_cons_succ, i64_w, i32_w]
            rfl
          refine pure_ (i := 8) (N := some 58) (v := undef) (a' := ?_) #[true, true, true, true, true, true, true, true, true, false, false, false, false, false, false, false] rfl rfl (any_of HT_.out (by kernel_rfl)) (fun _ _ _ h => h) (Or.inr ⟨by rfl, rfl⟩) ?_ ?_
          rotate_left
          · simp only [Act.put, List.setIfInBounds_toArray, List.set_cons_zero, List.set_cons_succ, i64_w, i32_w]
            rfl
          refine pure_ (i := 9) (N := some 59) (v := undef) (a' := ?_) #[true, true, true, true, true, true, true, true, true, true, false, false, false, false, false, false] rfl rfl (any_of HT_.out (by kernel_rfl)) (fun _ _ _ h => h) (Or.inr ⟨by rfl, rfl⟩) ?_ ?_
          rotate_left
          · simp only [Act.put, List.setIfInBounds_toArray, List.set_cons_zero, List.set_cons_succ, i64_w, i32_w]
            rfl
          refine pure_ (i := 10) (N := some 60) (v := undef) (a' := ?_) #[true, true, true, true, true, true, true, true, true, true, true, false, false, false, false, false] rfl rfl (any_of HT_.out (by kernel_rfl)) (fun _ _ _ h => h) (Or.inr ⟨by rfl, rfl⟩) ?_ ?_
          rotate_left
          · simp only [Act.put, List.setIfInBounds_toArray, List.set_cons_zero, List.set_cons_succ, i64_w, i32_w]
            rfl
          refine pure_ (i := 11) (N := some 61) (v := undef) (a' := ?_) #[true, true, true, true, true, true, true, true, true, true, true, true, false, false, false, false] rfl rfl (any_of HT_.out (by kernel_rfl)) (fun _ _ _ h => h) (Or.inr ⟨by rfl, rfl⟩) ?_ ?_
          rotate_left
          · simp only [Act.put, List.setIfInBounds_toArray, List.set_cons_zero, List.set_cons_succ, i64_w, i32_w]
            rfl
          refine pure_ (i := 12) (N := some 62) (v := undef) (a' := ?_) #[true, true, true, true, true, true, true, true, true, true, true, true, true, false, false, false] rfl rfl (any_of HT_.out (by kernel_rfl)) (fun _ _ _ h => h) (Or.inr ⟨by rfl, rfl⟩) ?_ ?_
          rotate_left
          · simp only [Act.put, List.setIfInBounds_toArray, List.set_cons_zero, List.set_cons_succ, i64_w, i32_w]
            rfl
          refine pure_ (i := 13) (N := some 63) (v := undef) (a' := ?_) #[true, true, true, true, true, true, true, true, true, true, true, true, true, true, false, false] rfl rfl (any_of HT_.out (by kernel_rfl)) (fun _ _ _ h => h) (Or.inr ⟨by rfl, rfl⟩) ?_ ?_
          rotate_left
          · simp only [Act.put, List.setIfInBounds_toArray, List.set_cons_zero, List.set_cons_succ, i64_w, i32_w]
            rfl
          refine pure_ (i := 14) (N := some 64) (v := ?_) (a' := ?_) #[true, true, true, true, true, true, true, true, true, true, true, true, true, true, true, false] rfl rfl (any_of HT_.out (by kernel_rfl)) (fun _ _ _ h => h) (Or.inl ⟨by rfl, ?_⟩) ?_ ?_
          rotate_left
          · intro w'
            go_simp
            with_reducible rfl
          rotate_left
          · simp only [Act.put, List.setIfInBounds_toArray, List.set_cons_zero, List.set_cons_succ, i64_w, i32_w]
            rfl
          refine pure_ (i := 15) (N := some 6) (v := ?_) (a' := ?_) #[true, true, true, true, true, true, true, true, true, true, true, true, true, true, true, true] rfl rfl (any_of HT_.out (by kernel_rfl)) (fun _ _ _ h => h) (Or.inl ⟨by rfl, ?_⟩) ?_ ?_
          rotate_left
          · intro w'
            go_simp
            with_reducible rfl
          rotate_left
          · simp only [Act.put, List.setIfInBounds_toArray, List.set_cons_zero, List.set_cons_succ, i64_w, i32_w]
            rfl
          refine done_ (done_of HT_.out (by kernel_rfl)) ?_
          try go_wp2
          go_ret
          exact ⟨by first | rfl | (simp [errW_none, errW_some] <;> rfl) | (simp [*, errW_none, errW_some] <;> rfl), by repeat (first | (with_reducible first | exact HB.out | apply below_alloc | apply pw_below_drewN | apply below_drew1 | refine below_set ?_ GE466.out) | exact HB.out)⟩
    · replace c7 := Bool.eq_false_iff.mpr c7
      subst c7
      have H1 : ((task_New.f k a0 1 (⟨#[0]⟩ : ByteArray)).bind fun bt443 => ((wimplelaw0_Num.f bt443.2.2.2.2.2.2.2.2).bind fun t453 => (some (t453 == 2200)))) = some r := by rw [if_neg (show ¬ (false = true) by decide)] at H; exact H
      clear H
      have H := H1
      clear H1
      replace H := Option.bind_eq_some_iff.mp H
      obtain ⟨⟨t443, t444, t445, t446, t447, t448, t449, t450, t451⟩, A380, H⟩ := H
      replace H : ((wimplelaw0_Num.f t451).bind fun t453 => (some (t453 == 2200))) = some r := H
      have A38 := Aside0.mk A380
      clear A380
      replace H := Option.bind_eq_some_iff.mp H
      obtain ⟨t453, A390, H⟩ := H
      replace H : (some (t453 == 2200)) = some r := H
      have A39 := Aside0.mk A390
      clear A390
      obtain rfl := Option.some.inj H
      go_enter Try.func8, Try.ntmps8
      try simp only [List.append_eq, List.cons_append, List.nil_append]
      go_wp2_with (first | ((with_reducible refine gate_callee (f := 16) rfl ?_); refine goesL_ (some 14) rfl rfl Try.func16 (by kernel_rfl) rfl #[] rfl (by (try simp only [List.map_toArray, List.map_cons, List.map_nil]); first | done | rfl | (simp only [List.length_drop, List.length_take]; rfl)) ?_; (with_reducible refine (wimplelaw22_awake.calls k  true _ A4.out).mono ?_); rintro e w40 ⟨rfl, hb⟩; refine ⟨_, rfl, ?_⟩; have n0_ := Aside0.mk (below_step (by repeat (first | (with_reducible first | exact HB.out | apply below_alloc | apply pw_below_drewN | apply below_drew1) | exact HB.out)) hb); clear HB; have HB := n0_; clear n0_; (try clear hb); (try clear hb2); (try clear hk); (try clear hi)) | ((with_reducible refine gate_callee (f := 19) rfl ?_); refine goesL_ (some 17) rfl rfl Try.func19 (by kernel_rfl) rfl #[.string a0] rfl (by (try simp only [List.map_toArray, List.map_cons, List.map_nil]); first | done | rfl | (simp only [List.length_drop, List.length_take]; rfl)) ?_; (with_reducible refine (wimpleref1_May.calls k a0 false _ A6.out).mono ?_); rintro e w41 ⟨rfl, hb⟩; refine ⟨_, rfl, ?_⟩; have n0_ := Aside0.mk (below_step (by repeat (first | (with_reducible first | exact HB.out | apply below_alloc | apply pw_below_drewN | apply below_drew1) | exact HB.out)) hb); clear HB; have HB := n0_; clear n0_; (try clear hb); (try clear hb2); (try clear hk); (try clear hi)) | ((with_reducible refine gate_callee (f := 9) rfl ?_); refine goesL_ (some 21) rfl rfl Try.func9 (by kernel_rfl) rfl #[.string a0, .int .i64 1, .string (⟨#[0]⟩ : ByteArray)] rfl (by (try simp only [List.map_toArray, List.map_cons, List.map_nil]); first | done | rfl | (simp only [List.length_drop, List.length_take]; rfl)) ?_; (with_reducible refine (task_New.calls k a0 1 (⟨#[0]⟩ : ByteArray) t443 t444 t445 t446 t447 t448 t449 t450 t451 _ A38.out).mono ?_); rintro e w42 ⟨rfl, hb⟩; refine ⟨_, rfl, ?_⟩; have n0_ := Aside0.mk (below_step (by repeat (first | (with_reducible first | exact HB.out | apply below_alloc | apply pw_below_drewN | apply below_drew1) | exact HB.out)) hb); clear HB; have HB := n0_; clear n0_; (try clear hb); (try clear hb2); (try clear hk); (try clear hi)) | ((with_reducible refine gate_dst (N := 7) rfl ?_); refine box_event ?hg (N := 7) ?hd (cs := #[.string (⟨#[]⟩ : ByteArray), .int .i64 0, .string (⟨#[]⟩ : ByteArray), .string (⟨#[]⟩ : ByteArray), .int .i64 0, .bool false, .int .i64 0, .int .i64 0]) (t := 23) ?hr ?_; (case hd => rfl); (case hg => rfl); (case hr => first | (go_simp; done) | (go_simp; rfl)); intro gb452 hg w43 hbox hb; have n0_ := Aside0.mk (below_step (by repeat (first | (with_reducible first | exact HB.out | apply below_alloc | apply pw_below_drewN | apply below_drew1) | exact HB.out)) hb); have n1_ := Aside0.mk (hbox); have n2_ := Aside0.mk ((by rw [hg]; exact (below_size (by repeat (first | (with_reducible first | exact HB.out | apply below_alloc | apply pw_below_drewN | apply below_drew1) | exact HB.out))) : w.heap.size ≤ gb452)); have n3_ := Aside0.mk ((by rw [hg]; exact (below_size (by repeat (first | (with_reducible first | exact HB.out | apply below_alloc | apply pw_below_drewN | apply below_drew1) | exact HB.out))) : w.heap.size ≤ gb452)); clear HB; have HB := n0_; have BK452 := n1_; have GW452 := n2_; have GE452 := n3_; clear n0_ n1_ n2_ n3_; clear hb hbox hg; have hcz44_0 : w43.cell? ⟨gb452, 0, none⟩ = some (.string (⟨#[]⟩ : ByteArray)) := (blk_cell BK452.out 0).trans rfl; have hcz44_1 : w43.cell? ⟨gb452, 1, none⟩ = some (.int .i64 0) := (blk_cell BK452.out 1).trans rfl; have hcz44_2 : w43.cell? ⟨gb452, 2, none⟩ = some (.string (⟨#[]⟩ : ByteArray)) := (blk_cell BK452.out 2).trans rfl; have hcz44_3 : w43.cell? ⟨gb452, 3, none⟩ = some (.string (⟨#[]⟩ : ByteArray)) := (blk_cell BK452.out 3).trans rfl; have hcz44_4 : w43.cell? ⟨gb452, 4, none⟩ = some (.int .i64 0) := (blk_cell BK452.out 4).trans rfl; have hcz44_5 : w43.cell? ⟨gb452, 5, none⟩ = some (.bool false) := (blk_cell BK452.out 5).trans rfl; have hcz44_6 : w43.cell? ⟨gb452, 6, none⟩ = some (.int .i64 0) := (blk_cell BK452.out 6).trans rfl; have hcz44_7 : w43.cell? ⟨gb452, 7, none⟩ = some (.int .i64 0) := (blk_cell BK452.out 7).trans rfl; have hfz44_0 := blk_frozen BK452.out 0; have hfz44_1 := blk_frozen BK452.out 1; have hfz44_2 := blk_frozen BK452.out 2; have hfz44_3 := blk_frozen BK452.out 3; have hfz44_4 := blk_frozen BK452.out 4; have hfz44_5 := blk_frozen BK452.out 5; have hfz44_6 := blk_frozen BK452.out 6; have hfz44_7 := blk_frozen BK452.out 7) | ((with_reducible refine gate_callee (f := 15) rfl ?_); refine goesL_ (some 25) rfl rfl Try.func15 (by kernel_rfl) rfl #[.int .i64 t451] rfl (by (try simp only [List.map_toArray, List.map_cons, List.map_nil]); first | done | rfl | (simp only [List.length_drop, List.length_take]; rfl)) ?_; (with_reducible refine (wimplelaw0_Num.calls t451 t453 _ A39.out).mono ?_); rintro e w' ⟨rfl, ⟨nd, rfl⟩⟩; refine ⟨_, rfl, ?_⟩))
      go_ret
      exact ⟨by first | rfl | (simp [errW_none, errW_some] <;> rfl) | (simp [*, errW_none, errW_some] <;> rfl), by repeat (first | (with_reducible first | exact HB.out | apply below_alloc | apply pw_below_drewN | apply below_drew1 | refine below_set ?_ GE452.out) | exact HB.out)⟩
  · replace c5 := Bool.eq_false_iff.mpr c5
    subst c5
    have H1 : (some false) = some r := by rw [if_neg (show ¬ (false = true) by decide)] at H; exact H
    clear H
    have H := H1
    clear H1
    obtain rfl := Option.some.inj H
    go_enter Try.func8, Try.ntmps8
    try simp only [List.append_eq, List.cons_append, List.nil_append]
    go_wp2_with (first | ((with_reducible refine gate_callee (f := 16) rfl ?_); refine goesL_ (some 14) rfl rfl Try.func16 (by kernel_rfl) rfl #[] rfl (by (try simp only [List.map_toArray, List.map_cons, List.map_nil]); first | done | rfl | (simp only [List.length_drop, List.length_take]; rfl)) ?_; (with_reducible refine (wimplelaw22_awake.calls k  false _ A4.out).mono ?_); rintro e w45 ⟨rfl, hb⟩; refine ⟨_, rfl, ?_⟩; have n0_ := Aside0.mk (below_step (by repeat (first | (with_reducible first | exact HB.out | apply below_alloc | apply pw_below_drewN | apply below_drew1) | exact HB.out)) hb); clear HB; have HB := n0_; clear n0_; (try clear hb); (try clear hb2); (try clear hk); (try clear hi)))
    go_ret
    exact ⟨by first | rfl | (simp [errW_none, errW_some] <;> rfl) | (simp [*, errW_none, errW_some] <;> rfl), by repeat (first | (with_reducible first | exact HB.out | apply below_alloc | apply pw_below_drewN | apply below_drew1) | exact HB.out)⟩

/-- THE ONE PURE STATEMENT of wimplelaw22_TaskFresh: yours. -/
def wimplelaw22_TaskFresh.Pure : Prop := ∀ (a0 : ByteArray) (a1 : Int) (a2 : Int), a0.size ≤ 140737488351232 → (Lit.int .i64 a1).wf = true → (Lit.int .i64 a2).wf = true → ∃ k, wimplelaw22_TaskFresh.f k a0 a1 a2 = some true
theorem wimplelaw22_TaskFresh.walk (P : wimplelaw22_TaskFresh.Pure) (a0 : ByteArray) (a1 : Int) (a2 : Int) (w : World) (w0 : a0.size ≤ 140737488351232) (w1 : (Lit.int .i64 a1).wf = true) (w2 : (Lit.int .i64 a2).wf = true) :
    Calls Try.prog 8 #[.string a0, .int .i64 a1, .int .i64 a2] w fun e w' => e = .returned (.bool true) ∧ Below w.heap.size w w' := by
  obtain ⟨k, h⟩ := P a0 a1 a2 w0 w1 w2
  refine (wimplelaw22_TaskFresh.calls k a0 a1 a2 true w h).mono ?_
  rintro e w' ⟨rfl, hd⟩
  exact ⟨rfl, hd⟩

end Go.Proofs.Ytgphnnnhhhmemaa.P
