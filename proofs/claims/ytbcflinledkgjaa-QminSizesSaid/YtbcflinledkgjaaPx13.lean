-- Written by a program of this session's prover (over the kit's printer, with contracts of the session's own); Lean checks it.
import Derived.Test.YtbcflinledkgjaaPx0
import Derived.Test.YtbcflinledkgjaaPx2
import Derived.Test.YtbcflinledkgjaaPx10
namespace Go.Proofs.Ytbcflinledkgjaa.P
open Go.RowKit Go.Proofs.YtbcflinledkgjaaW.PrintWords Go.Proofs.YtbcflinledkgjaaW.PrintLast Go.Proofs.YtbcflinledkgjaaW.PrintMore
attribute [local go_sem] max2_int min2_int max_two min_two max_three min_three max_four min_four   -- for this text's walks alone
set_option linter.unusedVariables false
set_option linter.unusedSimpArgs false

/-! ### wimplelaw17_QminSizes: function 6 -/
mutual
def wimplelaw17_QminSizes.j0 : Nat → Int → Int → Int → Int → Int → Bool → Option (Bool)
 | 0, _, _, _, _, _, _ => none
 | k + 1, x9, x10, x11, x12, x13, x45 => if x45 = true then (some false) else (if x9 < x12 then (wimplelaw17_QminSizes.j1 k x9 x10 x11 x13 true) else (wimplelaw17_QminSizes.j1 k x9 x10 x11 x13 (decide (x10 ≤ (wrap64 (x11 - x9))))))
def wimplelaw17_QminSizes.j1 : Nat → Int → Int → Int → Int → Bool → Option (Bool)
 | 0, _, _, _, _, _ => none
 | k + 1, x9, x10, x11, x13, x46 => if x46 = true then (some (x13 == 1)) else (if x9 ≥ x11 then (some (x13 == x10)) else (if (wrap64 (x13 * (wrap64 (x11 - x9)))) ≥ x10 then (some (decide ((wrap64 ((wrap64 (x13 - 1)) * (wrap64 (x11 - x9)))) < x10))) else (some false)))
end
def wimplelaw17_QminSizes.f (k : Nat) (a0 : Int) (a1 : Int) (a2 : Int) (a3 : Int) : Option (Bool) := (wimplelaw17_awake.f k).bind fun t253 => (if t253 = true then ((qmin_Size.f (Go.bits .and .i64 a0 31) (wrap64 (1 + (Go.bits .and .i64 a1 127))) (Go.bits .and .i64 a2 31) (Go.bits .and .i64 a3 31)).bind fun bt254 => ((wimplelaw0_Num.f bt254.2).bind fun t256 => (if t256 = 0 then (if bt254.1 < 1 then (wimplelaw17_QminSizes.j0 k (Go.bits .and .i64 a0 31) (wrap64 (1 + (Go.bits .and .i64 a1 127))) (Go.bits .and .i64 a2 31) (Go.bits .and .i64 a3 31) bt254.1 true) else (wimplelaw17_QminSizes.j0 k (Go.bits .and .i64 a0 31) (wrap64 (1 + (Go.bits .and .i64 a1 127))) (Go.bits .and .i64 a2 31) (Go.bits .and .i64 a3 31) bt254.1 (decide (bt254.1 > (wrap64 (1 + (Go.bits .and .i64 a1 127))))))) else (wimplelaw17_QminSizes.j0 k (Go.bits .and .i64 a0 31) (wrap64 (1 + (Go.bits .and .i64 a1 127))) (Go.bits .and .i64 a2 31) (Go.bits .and .i64 a3 31) bt254.1 true)))) else (some false))
theorem wimplelaw17_QminSizes.mono_l : ∀ k, (∀ y0 y1 y2 y3 y4 y5, LeO (wimplelaw17_QminSizes.j0 k y0 y1 y2 y3 y4 y5) (wimplelaw17_QminSizes.j0 (k + 1) y0 y1 y2 y3 y4 y5)) ∧ (∀ y0 y1 y2 y3 y4, LeO (wimplelaw17_QminSizes.j1 k y0 y1 y2 y3 y4) (wimplelaw17_QminSizes.j1 (k + 1) y0 y1 y2 y3 y4))
 | 0 => ⟨fun _ _ _ _ _ _ r h => by simp [wimplelaw17_QminSizes.j0] at h, fun _ _ _ _ _ r h => by simp [wimplelaw17_QminSizes.j1] at h⟩
 | k + 1 => by
  obtain ⟨ih0, ih1⟩ := wimplelaw17_QminSizes.mono_l k
  refine ⟨?_, ?_⟩
  ·intro y0 y1 y2 y3 y4 y5
   unfold wimplelaw17_QminSizes.j0
   repeat' first
   | (with_reducible exact ih0 _ _ _ _ _ _)
   | (with_reducible exact ih1 _ _ _ _ _)
   | (with_reducible exact wimplelaw17_awake.mono _)
   | (with_reducible exact LeO.refl _)
   | (with_reducible exact LeO.none _)
   | (with_reducible refine LeO.ite ?_ ?_)
   | (with_reducible refine LeO.bind ?_ (fun _ => ?_))
   | exact ih0 _ _ _ _ _ _
   | exact ih1 _ _ _ _ _
   | exact wimplelaw17_awake.mono _
   | exact LeO.none _
   | refine LeO.ite ?_ ?_
   | refine LeO.bind ?_ (fun _ => ?_)
  ·intro y0 y1 y2 y3 y4
   unfold wimplelaw17_QminSizes.j1
   repeat' first
   | (with_reducible exact ih0 _ _ _ _ _ _)
   | (with_reducible exact ih1 _ _ _ _ _)
   | (with_reducible exact wimplelaw17_awake.mono _)
   | (with_reducible exact LeO.refl _)
   | (with_reducible exact LeO.none _)
   | (with_reducible refine LeO.ite ?_ ?_)
   | (with_reducible refine LeO.bind ?_ (fun _ => ?_))
   | exact ih0 _ _ _ _ _ _
   | exact ih1 _ _ _ _ _
   | exact wimplelaw17_awake.mono _
   | exact LeO.none _
   | refine LeO.ite ?_ ?_
   | refine LeO.bind ?_ (fun _ => ?_)
theorem wimplelaw17_QminSizes.mono : ∀ a0 a1 a2 a3 k, LeO (wimplelaw17_QminSizes.f k a0 a1 a2 a3) (wimplelaw17_QminSizes.f (k + 1) a0 a1 a2 a3) := by
 intro a0 a1 a2 a3 k
 obtain ⟨ih0, ih1⟩ := wimplelaw17_QminSizes.mono_l k
 unfold wimplelaw17_QminSizes.f
 repeat' first
   | (with_reducible exact ih0 _ _ _ _ _ _)
   | (with_reducible exact ih1 _ _ _ _ _)
   | (with_reducible exact wimplelaw17_awake.mono _)
   | (with_reducible exact LeO.refl _)
   | (with_reducible exact LeO.none _)
   | (with_reducible refine LeO.ite ?_ ?_)
   | (with_reducible refine LeO.bind ?_ (fun _ => ?_))
   | exact ih0 _ _ _ _ _ _
   | exact ih1 _ _ _ _ _
   | exact wimplelaw17_awake.mono _
   | exact LeO.none _
   | refine LeO.ite ?_ ?_
   | refine LeO.bind ?_ (fun _ => ?_)
set_option maxHeartbeats 8000000 in
set_option maxRecDepth 100000 in
theorem wimplelaw17_QminSizes.calls (k : Nat) (a0 : Int) (a1 : Int) (a2 : Int) (a3 : Int) (r : Bool) (w : World) (h : wimplelaw17_QminSizes.f k a0 a1 a2 a3 = some r) :
  Calls Try.prog 6 #[.int .i64 a0, .int .i64 a1, .int .i64 a2, .int .i64 a3] w fun e w' => e = .returned (.bool r) ∧ Below w.heap.size w w' := by
 have HB := Aside0.mk (Below.refl w.heap.size w)
 have H : ((wimplelaw17_awake.f k).bind fun t253 => (if t253 = true then ((qmin_Size.f (Go.bits .and .i64 a0 31) (wrap64 (1 + (Go.bits .and .i64 a1 127))) (Go.bits .and .i64 a2 31) (Go.bits .and .i64 a3 31)).bind fun bt254 => ((wimplelaw0_Num.f bt254.2).bind fun t256 => (if t256 = 0 then (if bt254.1 < 1 then (wimplelaw17_QminSizes.j0 k (Go.bits .and .i64 a0 31) (wrap64 (1 + (Go.bits .and .i64 a1 127))) (Go.bits .and .i64 a2 31) (Go.bits .and .i64 a3 31) bt254.1 true) else (wimplelaw17_QminSizes.j0 k (Go.bits .and .i64 a0 31) (wrap64 (1 + (Go.bits .and .i64 a1 127))) (Go.bits .and .i64 a2 31) (Go.bits .and .i64 a3 31) bt254.1 (decide (bt254.1 > (wrap64 (1 + (Go.bits .and .i64 a1 127))))))) else (wimplelaw17_QminSizes.j0 k (Go.bits .and .i64 a0 31) (wrap64 (1 + (Go.bits .and .i64 a1 127))) (Go.bits .and .i64 a2 31) (Go.bits .and .i64 a3 31) bt254.1 true)))) else (some false))) = some r := h
 clear h
 replace H := Option.bind_eq_some_iff.mp H
 obtain ⟨t253, A50, H⟩ := H
 replace H : (if t253 = true then ((qmin_Size.f (Go.bits .and .i64 a0 31) (wrap64 (1 + (Go.bits .and .i64 a1 127))) (Go.bits .and .i64 a2 31) (Go.bits .and .i64 a3 31)).bind fun bt254 => ((wimplelaw0_Num.f bt254.2).bind fun t256 => (if t256 = 0 then (if bt254.1 < 1 then (wimplelaw17_QminSizes.j0 k (Go.bits .and .i64 a0 31) (wrap64 (1 + (Go.bits .and .i64 a1 127))) (Go.bits .and .i64 a2 31) (Go.bits .and .i64 a3 31) bt254.1 true) else (wimplelaw17_QminSizes.j0 k (Go.bits .and .i64 a0 31) (wrap64 (1 + (Go.bits .and .i64 a1 127))) (Go.bits .and .i64 a2 31) (Go.bits .and .i64 a3 31) bt254.1 (decide (bt254.1 > (wrap64 (1 + (Go.bits .and .i64 a1 127))))))) else (wimplelaw17_QminSizes.j0 k (Go.bits .and .i64 a0 31) (wrap64 (1 + (Go.bits .and .i64 a1 127))) (Go.bits .and .i64 a2 31) (Go.bits .and .i64 a3 31) bt254.1 true)))) else (some false)) = some r := H
 have A5 := Aside0.mk A50
 clear A50
 by_cases c6 : t253 = true
 ·subst c6
  have H1 : ((qmin_Size.f (Go.bits .and .i64 a0 31) (wrap64 (1 + (Go.bits .and .i64 a1 127))) (Go.bits .and .i64 a2 31) (Go.bits .and .i64 a3 31)).bind fun bt254 => ((wimplelaw0_Num.f bt254.2).bind fun t256 => (if t256 = 0 then (if bt254.1 < 1 then (wimplelaw17_QminSizes.j0 k (Go.bits .and .i64 a0 31) (wrap64 (1 + (Go.bits .and .i64 a1 127))) (Go.bits .and .i64 a2 31) (Go.bits .and .i64 a3 31) bt254.1 true) else (wimplelaw17_QminSizes.j0 k (Go.bits .and .i64 a0 31) (wrap64 (1 + (Go.bits .and .i64 a1 127))) (Go.bits .and .i64 a2 31) (Go.bits .and .i64 a3 31) bt254.1 (decide (bt254.1 > (wrap64 (1 + (Go.bits .and .i64 a1 127))))))) else (wimplelaw17_QminSizes.j0 k (Go.bits .and .i64 a0 31) (wrap64 (1 + (Go.bits .and .i64 a1 127))) (Go.bits .and .i64 a2 31) (Go.bits .and .i64 a3 31) bt254.1 true)))) = some r := by rw [if_pos rfl] at H; exact H
  clear H
  have H := H1
  clear H1
  replace H := Option.bind_eq_some_iff.mp H
  obtain ⟨⟨t254, t255⟩, A70, H⟩ := H
  replace H : ((wimplelaw0_Num.f t255).bind fun t256 => (if t256 = 0 then (if t254 < 1 then (wimplelaw17_QminSizes.j0 k (Go.bits .and .i64 a0 31) (wrap64 (1 + (Go.bits .and .i64 a1 127))) (Go.bits .and .i64 a2 31) (Go.bits .and .i64 a3 31) t254 true) else (wimplelaw17_QminSizes.j0 k (Go.bits .and .i64 a0 31) (wrap64 (1 + (Go.bits .and .i64 a1 127))) (Go.bits .and .i64 a2 31) (Go.bits .and .i64 a3 31) t254 (decide (t254 > (wrap64 (1 + (Go.bits .and .i64 a1 127))))))) else (wimplelaw17_QminSizes.j0 k (Go.bits .and .i64 a0 31) (wrap64 (1 + (Go.bits .and .i64 a1 127))) (Go.bits .and .i64 a2 31) (Go.bits .and .i64 a3 31) t254 true))) = some r := H
  have A7 := Aside0.mk A70
  clear A70
  have HC8 := Aside0.mk H
  clear H
  go_enter Try.func6, Try.ntmps6
  try simp only [List.append_eq, List.cons_append, List.nil_append]
  go_upto_region 5 with (first | ((with_reducible refine gate_callee (f := 15) rfl ?_); refine goesL_ (some 15) rfl rfl Try.func15 (by kernel_rfl) rfl #[] rfl (by (try simp only [List.map_toArray, List.map_cons, List.map_nil]); first | done | rfl | (simp only [List.length_drop, List.length_take]; rfl)) ?_; (with_reducible refine (wimplelaw17_awake.calls k  true _ A5.out).mono ?_); rintro e w9 ⟨rfl, hb⟩; refine ⟨_, rfl, ?_⟩; have n0_ := Aside0.mk (below_step (by repeat (first | (with_reducible first | exact HB.out | apply below_alloc | apply pw_below_drewN | apply below_drew1) | exact HB.out)) hb); clear HB; have HB := n0_; clear n0_; (try clear hb); (try clear hb2); (try clear hk); (try clear hi)) | ((with_reducible refine gate_callee (f := 10) rfl ?_); refine goesL_ (some 31) rfl rfl Try.func10 (by kernel_rfl) rfl #[.int .i64 (Go.bits .and .i64 a0 31), .int .i64 (wrap64 (1 + (Go.bits .and .i64 a1 127))), .int .i64 (Go.bits .and .i64 a2 31), .int .i64 (Go.bits .and .i64 a3 31)] rfl (by (try simp only [List.map_toArray, List.map_cons, List.map_nil]); first | done | rfl | (simp only [List.length_drop, List.length_take]; rfl)) ?_; (with_reducible refine (qmin_Size.calls (Go.bits .and .i64 a0 31) (wrap64 (1 + (Go.bits .and .i64 a1 127))) (Go.bits .and .i64 a2 31) (Go.bits .and .i64 a3 31) t254 t255 _ A7.out).mono ?_); rintro e w10 ⟨rfl, hb⟩; refine ⟨_, rfl, ?_⟩; have n0_ := Aside0.mk (below_step (by repeat (first | (with_reducible first | exact HB.out | apply below_alloc | apply pw_below_drewN | apply below_drew1) | exact HB.out)) hb); clear HB; have HB := n0_; clear n0_; (try clear hb); (try clear hb2); (try clear hk); (try clear hi)))
  (try simp only [Act.put, List.setIfInBounds_toArray, List.set_cons_zero, List.set_cons_succ])
  go_cut [45] (fun v45 wc => ∃ (kq : Nat) (x45_7 : Bool), v45 = .bool x45_7 ∧ Aside0 (wimplelaw17_QminSizes.j0 kq (Go.bits .and .i64 a0 31) (wrap64 (1 + (Go.bits .and .i64 a1 127))) (Go.bits .and .i64 a2 31) (Go.bits .and .i64 a3 31) t254 x45_7 = some r) ∧ Aside0 (kq ≤ k) ∧ Aside0 (Below w.heap.size w wc))
  case first =>
   have H := HC8.out
   clear HC8
   replace H := Option.bind_eq_some_iff.mp H
   obtain ⟨t256, A110, H⟩ := H
   replace H : (if t256 = 0 then (if t254 < 1 then (wimplelaw17_QminSizes.j0 k (Go.bits .and .i64 a0 31) (wrap64 (1 + (Go.bits .and .i64 a1 127))) (Go.bits .and .i64 a2 31) (Go.bits .and .i64 a3 31) t254 true) else (wimplelaw17_QminSizes.j0 k (Go.bits .and .i64 a0 31) (wrap64 (1 + (Go.bits .and .i64 a1 127))) (Go.bits .and .i64 a2 31) (Go.bits .and .i64 a3 31) t254 (decide (t254 > (wrap64 (1 + (Go.bits .and .i64 a1 127))))))) else (wimplelaw17_QminSizes.j0 k (Go.bits .and .i64 a0 31) (wrap64 (1 + (Go.bits .and .i64 a1 127))) (Go.bits .and .i64 a2 31) (Go.bits .and .i64 a3 31) t254 true)) = some r := H
   have A11 := Aside0.mk A110
   clear A110
   by_cases c12 : t256 = 0
   ·rw [if_pos c12] at H
    have c12b0 : (t256 == 0) = true := beq_iff_eq.mpr c12
    have c12b1 : (t256 != 0) = false := bne_eq_false_iff_eq.mpr c12
    clear c12
    (first | rw [c12b0] | (simp only [i64_w, i32_w]; rw [c12b0]) | skip)
    by_cases c13 : t254 < 1
    ·rw [if_pos c13] at H
     have c13b0 : decide (t254 < 1) = true := decide_eq_true c13
     clear c13
     have H' := Aside0.mk H
     clear H
     go_wp2_with (first | ((with_reducible refine gate_callee (f := 14) rfl ?_); refine goesL_ (some 35) rfl rfl Try.func14 (by kernel_rfl) rfl #[.int .i64 t255] rfl (by (try simp only [List.map_toArray, List.map_cons, List.map_nil]); first | done | rfl | (simp only [List.length_drop, List.length_take]; rfl)) ?_; (with_reducible refine (wimplelaw0_Num.calls t255 t256 _ A11.out).mono ?_); rintro e w' ⟨rfl, ⟨nd, rfl⟩⟩; refine ⟨_, rfl, ?_⟩))
     go_meet
     case rel => exact ⟨_, (true), (by first | rfl | (simp; done) | (simp [*]; done) | (simp [ByteArray.size_append]; exact Iff.rfl)), H', ⟨by first | omega | exact Nat.le_refl _⟩, ⟨by repeat (first | (with_reducible first | exact HB.out | apply below_alloc | apply pw_below_drewN | apply below_drew1) | exact HB.out)⟩⟩
    ·rw [if_neg c13] at H
     have c13b0 : decide (t254 < 1) = false := decide_eq_false c13
     clear c13
     have H' := Aside0.mk H
     clear H
     go_wp2_with (first | ((with_reducible refine gate_callee (f := 14) rfl ?_); refine goesL_ (some 35) rfl rfl Try.func14 (by kernel_rfl) rfl #[.int .i64 t255] rfl (by (try simp only [List.map_toArray, List.map_cons, List.map_nil]); first | done | rfl | (simp only [List.length_drop, List.length_take]; rfl)) ?_; (with_reducible refine (wimplelaw0_Num.calls t255 t256 _ A11.out).mono ?_); rintro e w' ⟨rfl, ⟨nd, rfl⟩⟩; refine ⟨_, rfl, ?_⟩))
     go_meet
     case rel => exact ⟨_, (decide (t254 > (wrap64 (1 + (Go.bits .and .i64 a1 127))))), (by first | rfl | (simp; done) | (simp [*]; done) | (simp [ByteArray.size_append]; exact Iff.rfl)), H', ⟨by first | omega | exact Nat.le_refl _⟩, ⟨by repeat (first | (with_reducible first | exact HB.out | apply below_alloc | apply pw_below_drewN | apply below_drew1) | exact HB.out)⟩⟩
   ·rw [if_neg c12] at H
    have c12b0 : (t256 == 0) = false := beq_eq_false_iff_ne.mpr c12
    have c12b1 : (t256 != 0) = true := bne_iff_ne.mpr c12
    (first | rw [c12b0] | (simp only [i64_w, i32_w]; rw [c12b0]) | skip)
    have H' := Aside0.mk H
    clear H
    go_wp2_with (first | ((with_reducible refine gate_callee (f := 14) rfl ?_); refine goesL_ (some 35) rfl rfl Try.func14 (by kernel_rfl) rfl #[.int .i64 t255] rfl (by (try simp only [List.map_toArray, List.map_cons, List.map_nil]); first | done | rfl | (simp only [List.length_drop, List.length_take]; rfl)) ?_; (with_reducible refine (wimplelaw0_Num.calls t255 t256 _ A11.out).mono ?_); rintro e w' ⟨rfl, ⟨nd, rfl⟩⟩; refine ⟨_, rfl, ?_⟩))
    go_meet
    case rel => exact ⟨_, (true), (by first | rfl | (simp; done) | (simp [*]; done) | (simp [ByteArray.size_append]; exact Iff.rfl)), H', ⟨by first | omega | exact Nat.le_refl _⟩, ⟨by repeat (first | (with_reducible first | exact HB.out | apply below_alloc | apply pw_below_drewN | apply below_drew1) | exact HB.out)⟩⟩
  case rest =>
   clear HC8
   try clear c1
   try clear p2
   try clear c6
   try clear p6
   try clear c10
   try clear c12
   try clear c12b0
   try clear c12b1
   try clear c13
   try clear c13b0
   obtain ⟨kq, x45_7, rfl, HA, HJ7, HB⟩ := hcut
   cases kq with
   | zero => exact absurd HA.out (by simp [wimplelaw17_QminSizes.j0])
   | succ kj7 =>
    have H := HA.out
    clear HA
    simp only [wimplelaw17_QminSizes.j0] at H
    by_cases c14 : x45_7 = true
    ·subst c14
     have H1 : (some false) = some r := by rw [if_pos rfl] at H; exact H
     clear H
     have H := H1
     clear H1
     obtain rfl := Option.some.inj H
     go_wp2
     go_ret
     exact ⟨by first | rfl | (simp [errW_none, errW_some] <;> rfl) | (simp [*, errW_none, errW_some] <;> rfl), by repeat (first | (with_reducible first | exact HB.out | apply below_alloc | apply pw_below_drewN | apply below_drew1) | exact HB.out)⟩
    ·replace c14 := Bool.eq_false_iff.mpr c14
     subst c14
     have H1 : (if (Go.bits .and .i64 a0 31) < (Go.bits .and .i64 a3 31) then (wimplelaw17_QminSizes.j1 kj7 (Go.bits .and .i64 a0 31) (wrap64 (1 + (Go.bits .and .i64 a1 127))) (Go.bits .and .i64 a2 31) t254 true) else (wimplelaw17_QminSizes.j1 kj7 (Go.bits .and .i64 a0 31) (wrap64 (1 + (Go.bits .and .i64 a1 127))) (Go.bits .and .i64 a2 31) t254 (decide ((wrap64 (1 + (Go.bits .and .i64 a1 127))) ≤ (wrap64 ((Go.bits .and .i64 a2 31) - (Go.bits .and .i64 a0 31))))))) = some r := by rw [if_neg (show ¬ (false = true) by decide)] at H; exact H
     clear H
     have H := H1
     clear H1
     have HC15 := Aside0.mk H
     clear H
     go_upto_region 7 with (fail)
     go_cut [46] (fun v46 wc => ∃ (kq : Nat) (x46_14 : Bool), v46 = .bool x46_14 ∧ Aside0 (wimplelaw17_QminSizes.j1 kq (Go.bits .and .i64 a0 31) (wrap64 (1 + (Go.bits .and .i64 a1 127))) (Go.bits .and .i64 a2 31) t254 x46_14 = some r) ∧ Aside0 (kq ≤ kj7) ∧ Aside0 (Below w.heap.size w wc))
     case first =>
      have H := HC15.out
      clear HC15
      by_cases c16 : (Go.bits .and .i64 a0 31) < (Go.bits .and .i64 a3 31)
      ·rw [if_pos c16] at H
       have c16b0 : decide ((Go.bits .and .i64 a0 31) < (Go.bits .and .i64 a3 31)) = true := decide_eq_true c16
       clear c16
       (first | rw [c16b0] | (simp only [i64_w, i32_w]; rw [c16b0]) | skip)
       have H' := Aside0.mk H
       clear H
       go_wp2
       go_meet
       case rel => exact ⟨_, (true), (by first | rfl | (simp; done) | (simp [*]; done) | (simp [ByteArray.size_append]; exact Iff.rfl)), H', ⟨by have := HJ7.out; first | omega | exact Nat.le_refl _⟩, ⟨by repeat (first | (with_reducible first | exact HB.out | apply below_alloc | apply pw_below_drewN | apply below_drew1) | exact HB.out)⟩⟩
      ·rw [if_neg c16] at H
       have c16b0 : decide ((Go.bits .and .i64 a0 31) < (Go.bits .and .i64 a3 31)) = false := decide_eq_false c16
       clear c16
       (first | rw [c16b0] | (simp only [i64_w, i32_w]; rw [c16b0]) | skip)
       have H' := Aside0.mk H
       clear H
       go_wp2
       go_meet
       case rel => exact ⟨_, (decide ((wrap64 (1 + (Go.bits .and .i64 a1 127))) ≤ (wrap64 ((Go.bits .and .i64 a2 31) - (Go.bits .and .i64 a0 31))))), (by first | rfl | (simp; done) | (simp [*]; done) | (simp [ByteArray.size_append]; exact Iff.rfl)), H', ⟨by have := HJ7.out; first | omega | exact Nat.le_refl _⟩, ⟨by repeat (first | (with_reducible first | exact HB.out | apply below_alloc | apply pw_below_drewN | apply below_drew1) | exact HB.out)⟩⟩
     case rest =>
      clear HC15
      try clear c1
      try clear p2
      try clear c6
      try clear p6
      try clear c10
      try clear c12
      try clear c12b0
      try clear c12b1
      try clear c13
      try clear c13b0
      try clear c14
      try clear c15
      try clear c16
      try clear c16b0
      try clear p2
      try clear p6
      obtain ⟨kq, x46_14, rfl, HA, HJ14, HB⟩ := hcut
      cases kq with
      | zero => exact absurd HA.out (by simp [wimplelaw17_QminSizes.j1])
      | succ kj14 =>
       have H := HA.out
       clear HA
       simp only [wimplelaw17_QminSizes.j1] at H
       by_cases c17 : x46_14 = true
       ·subst c17
        have H1 : (some (t254 == 1)) = some r := by rw [if_pos rfl] at H; exact H
        clear H
        have H := H1
        clear H1
        obtain rfl := Option.some.inj H
        go_wp2
        go_ret
        exact ⟨by first | rfl | (simp [errW_none, errW_some] <;> rfl) | (simp [*, errW_none, errW_some] <;> rfl), by repeat (first | (with_reducible first | exact HB.out | apply below_alloc | apply pw_below_drewN | apply below_drew1) | exact HB.out)⟩
       ·replace c17 := Bool.eq_false_iff.mpr c17
        subst c17
        have H1 : (if (Go.bits .and .i64 a0 31) ≥ (Go.bits .and .i64 a2 31) then (some (t254 == (wrap64 (1 + (Go.bits .and .i64 a1 127))))) else (if (wrap64 (t254 * (wrap64 ((Go.bits .and .i64 a2 31) - (Go.bits .and .i64 a0 31))))) ≥ (wrap64 (1 + (Go.bits .and .i64 a1 127))) then (some (decide ((wrap64 ((wrap64 (t254 - 1)) * (wrap64 ((Go.bits .and .i64 a2 31) - (Go.bits .and .i64 a0 31))))) < (wrap64 (1 + (Go.bits .and .i64 a1 127)))))) else (some false))) = some r := by rw [if_neg (show ¬ (false = true) by decide)] at H; exact H
        clear H
        have H := H1
        clear H1
        by_cases c18 : (Go.bits .and .i64 a0 31) ≥ (Go.bits .and .i64 a2 31)
        ·rw [if_pos c18] at H
         have c18b0 : decide ((Go.bits .and .i64 a2 31) ≤ (Go.bits .and .i64 a0 31)) = true := decide_eq_true c18
         clear c18
         obtain rfl := Option.some.inj H
         go_wp2
         go_ret
         exact ⟨by first | rfl | (simp [errW_none, errW_some] <;> rfl) | (simp [*, errW_none, errW_some] <;> rfl), by repeat (first | (with_reducible first | exact HB.out | apply below_alloc | apply pw_below_drewN | apply below_drew1) | exact HB.out)⟩
        ·rw [if_neg c18] at H
         have c18b0 : decide ((Go.bits .and .i64 a2 31) ≤ (Go.bits .and .i64 a0 31)) = false := decide_eq_false c18
         clear c18
         by_cases c19 : (wrap64 (t254 * (wrap64 ((Go.bits .and .i64 a2 31) - (Go.bits .and .i64 a0 31))))) ≥ (wrap64 (1 + (Go.bits .and .i64 a1 127)))
         ·rw [if_pos c19] at H
          have c19b0 : decide ((wrap64 (1 + (Go.bits .and .i64 a1 127))) ≤ (wrap64 (t254 * (wrap64 ((Go.bits .and .i64 a2 31) - (Go.bits .and .i64 a0 31)))))) = true := decide_eq_true c19
          clear c19
          obtain rfl := Option.some.inj H
          go_wp2
          go_ret
          exact ⟨by first | rfl | (simp [errW_none, errW_some] <;> rfl) | (simp [*, errW_none, errW_some] <;> rfl), by repeat (first | (with_reducible first | exact HB.out | apply below_alloc | apply pw_below_drewN | apply below_drew1) | exact HB.out)⟩
         ·rw [if_neg c19] at H
          have c19b0 : decide ((wrap64 (1 + (Go.bits .and .i64 a1 127))) ≤ (wrap64 (t254 * (wrap64 ((Go.bits .and .i64 a2 31) - (Go.bits .and .i64 a0 31)))))) = false := decide_eq_false c19
          clear c19
          obtain rfl := Option.some.inj H
          go_wp2
          go_ret
          exact ⟨by first | rfl | (simp [errW_none, errW_some] <;> rfl) | (simp [*, errW_none, errW_some] <;> rfl), by repeat (first | (with_reducible first | exact HB.out | apply below_alloc | apply pw_below_drewN | apply below_drew1) | exact HB.out)⟩
 ·replace c6 := Bool.eq_false_iff.mpr c6
  subst c6
  have H1 : (some false) = some r := by rw [if_neg (show ¬ (false = true) by decide)] at H; exact H
  clear H
  have H := H1
  clear H1
  obtain rfl := Option.some.inj H
  go_enter Try.func6, Try.ntmps6
  try simp only [List.append_eq, List.cons_append, List.nil_append]
  go_wp2_with (first | ((with_reducible refine gate_callee (f := 15) rfl ?_); refine goesL_ (some 15) rfl rfl Try.func15 (by kernel_rfl) rfl #[] rfl (by (try simp only [List.map_toArray, List.map_cons, List.map_nil]); first | done | rfl | (simp only [List.length_drop, List.length_take]; rfl)) ?_; (with_reducible refine (wimplelaw17_awake.calls k  false _ A5.out).mono ?_); rintro e w20 ⟨rfl, hb⟩; refine ⟨_, rfl, ?_⟩; have n0_ := Aside0.mk (below_step (by repeat (first | (with_reducible first | exact HB.out | apply below_alloc | apply pw_below_drewN | apply below_drew1) | exact HB.out)) hb); clear HB; have HB := n0_; clear n0_; (try clear hb); (try clear hb2); (try clear hk); (try clear hi)))
  go_ret
  exact ⟨by first | rfl | (simp [errW_none, errW_some] <;> rfl) | (simp [*, errW_none, errW_some] <;> rfl), by repeat (first | (with_reducible first | exact HB.out | apply below_alloc | apply pw_below_drewN | apply below_drew1) | exact HB.out)⟩

/-- THE ONE PURE STATEMENT of wimplelaw17_QminSizes: yours. -/
def wimplelaw17_QminSizes.Pure : Prop := ∀ (a0 : Int) (a1 : Int) (a2 : Int) (a3 : Int), (Lit.int .i64 a0).wf = true → (Lit.int .i64 a1).wf = true → (Lit.int .i64 a2).wf = true → (Lit.int .i64 a3).wf = true → ∃ k, wimplelaw17_QminSizes.f k a0 a1 a2 a3 = some true
theorem wimplelaw17_QminSizes.walk (P : wimplelaw17_QminSizes.Pure) (a0 : Int) (a1 : Int) (a2 : Int) (a3 : Int) (w : World) (w0 : (Lit.int .i64 a0).wf = true) (w1 : (Lit.int .i64 a1).wf = true) (w2 : (Lit.int .i64 a2).wf = true) (w3 : (Lit.int .i64 a3).wf = true) :
  Calls Try.prog 6 #[.int .i64 a0, .int .i64 a1, .int .i64 a2, .int .i64 a3] w fun e w' => e = .returned (.bool true) ∧ Below w.heap.size w w' := by
 obtain ⟨k, h⟩ := P a0 a1 a2 a3 w0 w1 w2 w3
 refine (wimplelaw17_QminSizes.calls k a0 a1 a2 a3 true w h).mono ?_
 rintro e w' ⟨rfl, hd⟩
 exact ⟨rfl, hd⟩

end Go.Proofs.Ytbcflinledkgjaa.P
