-- Written by a program of this session's prover (over the kit's printer, with contracts of the session's own); Lean checks it.
import Derived.Test.YtbcflinledkgjaaPx0
import Derived.Test.YtbcflinledkgjaaPx2
import Derived.Test.YtbcflinledkgjaaPx10
import Derived.Test.YtbcflinledkgjaaPx16
namespace Go.Proofs.Ytbcflinledkgjaa.P
open Go.RowKit Go.Proofs.YtbcflinledkgjaaW.PrintWords Go.Proofs.YtbcflinledkgjaaW.PrintLast Go.Proofs.YtbcflinledkgjaaW.PrintMore
attribute [local go_sem] max2_int min2_int max_two min_two max_three min_three max_four min_four   -- for this text's walks alone
set_option linter.unusedVariables false
set_option linter.unusedSimpArgs false

/-! ### wimplelaw17_QminLong: function 9 -/
mutual
def wimplelaw17_QminLong.j0 : Nat → Int → Int → Int → Option (Bool)
 | 0, _, _, _ => none
 | k + 1, x1, x2, x7 => wimplelaw17_QminLong.l0 k x7 (wrap64 (1 + (Go.bits .and .i64 x1 15))) (Go.bits .and .i64 x2 7) (⟨#[0]⟩ : ByteArray) 0
def wimplelaw17_QminLong.l0 : Nat → Int → Int → Int → ByteArray → Int → Option (Bool)
 | 0, _, _, _, _, _ => none
 | k + 1, x7, x8, x9, x10, x11 => if x11 < x7 then (if 2 + x10.size ≤ 9223372036854775807 then (wimplelaw17_QminLong.l0 k x7 x8 x9 ((⟨#[1, 97]⟩ : ByteArray) ++ x10) (wrap64 (x11 + 1))) else (none)) else (wimplelaw17_QminLong.l1 k x8 x9 x10 x7 0 1000 0)
def wimplelaw17_QminLong.l1 : Nat → Int → Int → ByteArray → Int → Int → Int → Int → Option (Bool)
 | 0, _, _, _, _, _, _, _ => none
 | k + 1, x8, x9, x10, x12, x13, x14, x15 => if x12 > 0 then (wimplelaw17_QminLong.j3 k x8 x9 x10 x12 x13 x14 x15 (decide (x13 < 200))) else (wimplelaw17_QminLong.j3 k x8 x9 x10 x12 x13 x14 x15 false)
def wimplelaw17_QminLong.j3 : Nat → Int → Int → ByteArray → Int → Int → Int → Int → Bool → Option (Bool)
 | 0, _, _, _, _, _, _, _, _ => none
 | k + 1, x8, x9, x10, x12, x13, x14, x15, x45 => if x45 = true then ((qmin_Size.f x13 x12 x8 x9).bind fun bt302 => ((wimplelaw0_Num.f bt302.2).bind fun t304 => (if t304 = 0 then (if bt302.1 < 1 then (wimplelaw17_QminLong.j4 k x8 x9 x10 x12 x13 x14 x15 bt302.1 true) else (wimplelaw17_QminLong.j4 k x8 x9 x10 x12 x13 x14 x15 bt302.1 (decide (bt302.1 > x12)))) else (wimplelaw17_QminLong.j4 k x8 x9 x10 x12 x13 x14 x15 bt302.1 true)))) else ((qmin_Next.f k x10 9 (⟨#[]⟩ : ByteArray) (⟨#[0]⟩ : ByteArray) 0 false 0 0 x8 x9).bind fun bt297 => ((wimplelaw0_Num.f bt297.2.2).bind fun t301 => (if t301 = 0 then (if x13 ≤ (wrap64 ((mx x8 x9) + 1)) then (if x15 = 0 then (some (decide ((bt297.1.size : Int) ≥ 3))) else (if (wrap64 (x15 - x14)) ≤ 1 then (some (decide ((bt297.1.size : Int) ≥ 3))) else (some false))) else (some false)) else (some false))))
def wimplelaw17_QminLong.j4 : Nat → Int → Int → ByteArray → Int → Int → Int → Int → Int → Bool → Option (Bool)
 | 0, _, _, _, _, _, _, _, _, _ => none
 | k + 1, x8, x9, x10, x12, x13, x14, x15, x16, x65 => if x65 = true then (some false) else (if x13 ≥ x9 then (wimplelaw17_QminLong.j5 k x8 x9 x10 x12 x13 x14 x15 x16 (decide (x13 < x8))) else (wimplelaw17_QminLong.j5 k x8 x9 x10 x12 x13 x14 x15 x16 false))
def wimplelaw17_QminLong.j5 : Nat → Int → Int → ByteArray → Int → Int → Int → Int → Int → Bool → Option (Bool)
 | 0, _, _, _, _, _, _, _, _, _ => none
 | k + 1, x8, x9, x10, x12, x13, x14, x15, x16, x73 => if x73 = true then (if x13 < x9 then (if x16 = 1 then (wimplelaw17_QminLong.l1 k x8 x9 x10 (wrap64 (x12 - x16)) (wrap64 (x13 + 1)) (mn x14 x16) (mx x15 x16)) else (some false)) else (wimplelaw17_QminLong.l1 k x8 x9 x10 (wrap64 (x12 - x16)) (wrap64 (x13 + 1)) (mn x14 x16) (mx x15 x16))) else (if x13 < x9 then (if x16 = 1 then (wimplelaw17_QminLong.l1 k x8 x9 x10 (wrap64 (x12 - x16)) (wrap64 (x13 + 1)) x14 x15) else (some false)) else (wimplelaw17_QminLong.l1 k x8 x9 x10 (wrap64 (x12 - x16)) (wrap64 (x13 + 1)) x14 x15))
end
def wimplelaw17_QminLong.f (k : Nat) (a0 : Int) (a1 : Int) (a2 : Int) : Option (Bool) := (wimplelaw17_awake.f k).bind fun t296 => (if t296 = true then (if (wrap64 (1 + (Go.bits .and .i64 a0 127))) > 126 then (wimplelaw17_QminLong.j0 k a1 a2 126) else (wimplelaw17_QminLong.j0 k a1 a2 (wrap64 (1 + (Go.bits .and .i64 a0 127))))) else (some false))
theorem wimplelaw17_QminLong.mono_l : ∀ k, (∀ y0 y1 y2, LeO (wimplelaw17_QminLong.j0 k y0 y1 y2) (wimplelaw17_QminLong.j0 (k + 1) y0 y1 y2)) ∧ (∀ y0 y1 y2 y3 y4, LeO (wimplelaw17_QminLong.l0 k y0 y1 y2 y3 y4) (wimplelaw17_QminLong.l0 (k + 1) y0 y1 y2 y3 y4)) ∧ (∀ y0 y1 y2 y3 y4 y5 y6, LeO (wimplelaw17_QminLong.l1 k y0 y1 y2 y3 y4 y5 y6) (wimplelaw17_QminLong.l1 (k + 1) y0 y1 y2 y3 y4 y5 y6)) ∧ (∀ y0 y1 y2 y3 y4 y5 y6 y7, LeO (wimplelaw17_QminLong.j3 k y0 y1 y2 y3 y4 y5 y6 y7) (wimplelaw17_QminLong.j3 (k + 1) y0 y1 y2 y3 y4 y5 y6 y7)) ∧ (∀ y0 y1 y2 y3 y4 y5 y6 y7 y8, LeO (wimplelaw17_QminLong.j4 k y0 y1 y2 y3 y4 y5 y6 y7 y8) (wimplelaw17_QminLong.j4 (k + 1) y0 y1 y2 y3 y4 y5 y6 y7 y8)) ∧ (∀ y0 y1 y2 y3 y4 y5 y6 y7 y8, LeO (wimplelaw17_QminLong.j5 k y0 y1 y2 y3 y4 y5 y6 y7 y8) (wimplelaw17_QminLong.j5 (k + 1) y0 y1 y2 y3 y4 y5 y6 y7 y8))
 | 0 => ⟨fun _ _ _ r h => by simp [wimplelaw17_QminLong.j0] at h, fun _ _ _ _ _ r h => by simp [wimplelaw17_QminLong.l0] at h, fun _ _ _ _ _ _ _ r h => by simp [wimplelaw17_QminLong.l1] at h, fun _ _ _ _ _ _ _ _ r h => by simp [wimplelaw17_QminLong.j3] at h, fun _ _ _ _ _ _ _ _ _ r h => by simp [wimplelaw17_QminLong.j4] at h, fun _ _ _ _ _ _ _ _ _ r h => by simp [wimplelaw17_QminLong.j5] at h⟩
 | k + 1 => by
  obtain ⟨ih0, ih1, ih2, ih3, ih4, ih5⟩ := wimplelaw17_QminLong.mono_l k
  refine ⟨?_, ?_, ?_, ?_, ?_, ?_⟩
  ·intro y0 y1 y2
   unfold wimplelaw17_QminLong.j0
   repeat' first
   | (with_reducible exact ih0 _ _ _)
   | (with_reducible exact ih1 _ _ _ _ _)
   | (with_reducible exact ih2 _ _ _ _ _ _ _)
   | (with_reducible exact ih3 _ _ _ _ _ _ _ _)
   | (with_reducible exact ih4 _ _ _ _ _ _ _ _ _)
   | (with_reducible exact ih5 _ _ _ _ _ _ _ _ _)
   | (with_reducible exact qmin_Next.mono _ _ _ _ _ _ _ _ _ _ _)
   | (with_reducible exact wimplelaw17_awake.mono _)
   | (with_reducible exact LeO.refl _)
   | (with_reducible exact LeO.none _)
   | (with_reducible refine LeO.ite ?_ ?_)
   | (with_reducible refine LeO.bind ?_ (fun _ => ?_))
   | exact ih0 _ _ _
   | exact ih1 _ _ _ _ _
   | exact ih2 _ _ _ _ _ _ _
   | exact ih3 _ _ _ _ _ _ _ _
   | exact ih4 _ _ _ _ _ _ _ _ _
   | exact ih5 _ _ _ _ _ _ _ _ _
   | exact qmin_Next.mono _ _ _ _ _ _ _ _ _ _ _
   | exact wimplelaw17_awake.mono _
   | exact LeO.none _
   | refine LeO.ite ?_ ?_
   | refine LeO.bind ?_ (fun _ => ?_)
  ·intro y0 y1 y2 y3 y4
   unfold wimplelaw17_QminLong.l0
   repeat' first
   | (with_reducible exact ih0 _ _ _)
   | (with_reducible exact ih1 _ _ _ _ _)
   | (with_reducible exact ih2 _ _ _ _ _ _ _)
   | (with_reducible exact ih3 _ _ _ _ _ _ _ _)
   | (with_reducible exact ih4 _ _ _ _ _ _ _ _ _)
   | (with_reducible exact ih5 _ _ _ _ _ _ _ _ _)
   | (with_reducible exact qmin_Next.mono _ _ _ _ _ _ _ _ _ _ _)
   | (with_reducible exact wimplelaw17_awake.mono _)
   | (with_reducible exact LeO.refl _)
   | (with_reducible exact LeO.none _)
   | (with_reducible refine LeO.ite ?_ ?_)
   | (with_reducible refine LeO.bind ?_ (fun _ => ?_))
   | exact ih0 _ _ _
   | exact ih1 _ _ _ _ _
   | exact ih2 _ _ _ _ _ _ _
   | exact ih3 _ _ _ _ _ _ _ _
   | exact ih4 _ _ _ _ _ _ _ _ _
   | exact ih5 _ _ _ _ _ _ _ _ _
   | exact qmin_Next.mono _ _ _ _ _ _ _ _ _ _ _
   | exact wimplelaw17_awake.mono _
   | exact LeO.none _
   | refine LeO.ite ?_ ?_
   | refine LeO.bind ?_ (fun _ => ?_)
  ·intro y0 y1 y2 y3 y4 y5 y6
   unfold wimplelaw17_QminLong.l1
   repeat' first
   | (with_reducible exact ih0 _ _ _)
   | (with_reducible exact ih1 _ _ _ _ _)
   | (with_reducible exact ih2 _ _ _ _ _ _ _)
   | (with_reducible exact ih3 _ _ _ _ _ _ _ _)
   | (with_reducible exact ih4 _ _ _ _ _ _ _ _ _)
   | (with_reducible exact ih5 _ _ _ _ _ _ _ _ _)
   | (with_reducible exact qmin_Next.mono _ _ _ _ _ _ _ _ _ _ _)
   | (with_reducible exact wimplelaw17_awake.mono _)
   | (with_reducible exact LeO.refl _)
   | (with_reducible exact LeO.none _)
   | (with_reducible refine LeO.ite ?_ ?_)
   | (with_reducible refine LeO.bind ?_ (fun _ => ?_))
   | exact ih0 _ _ _
   | exact ih1 _ _ _ _ _
   | exact ih2 _ _ _ _ _ _ _
   | exact ih3 _ _ _ _ _ _ _ _
   | exact ih4 _ _ _ _ _ _ _ _ _
   | exact ih5 _ _ _ _ _ _ _ _ _
   | exact qmin_Next.mono _ _ _ _ _ _ _ _ _ _ _
   | exact wimplelaw17_awake.mono _
   | exact LeO.none _
   | refine LeO.ite ?_ ?_
   | refine LeO.bind ?_ (fun _ => ?_)
  ·intro y0 y1 y2 y3 y4 y5 y6 y7
   unfold wimplelaw17_QminLong.j3
   repeat' first
   | (with_reducible exact ih0 _ _ _)
   | (with_reducible exact ih1 _ _ _ _ _)
   | (with_reducible exact ih2 _ _ _ _ _ _ _)
   | (with_reducible exact ih3 _ _ _ _ _ _ _ _)
   | (with_reducible exact ih4 _ _ _ _ _ _ _ _ _)
   | (with_reducible exact ih5 _ _ _ _ _ _ _ _ _)
   | (with_reducible exact qmin_Next.mono _ _ _ _ _ _ _ _ _ _ _)
   | (with_reducible exact wimplelaw17_awake.mono _)
   | (with_reducible exact LeO.refl _)
   | (with_reducible exact LeO.none _)
   | (with_reducible refine LeO.ite ?_ ?_)
   | (with_reducible refine LeO.bind ?_ (fun _ => ?_))
   | exact ih0 _ _ _
   | exact ih1 _ _ _ _ _
   | exact ih2 _ _ _ _ _ _ _
   | exact ih3 _ _ _ _ _ _ _ _
   | exact ih4 _ _ _ _ _ _ _ _ _
   | exact ih5 _ _ _ _ _ _ _ _ _
   | exact qmin_Next.mono _ _ _ _ _ _ _ _ _ _ _
   | exact wimplelaw17_awake.mono _
   | exact LeO.none _
   | refine LeO.ite ?_ ?_
   | refine LeO.bind ?_ (fun _ => ?_)
  ·intro y0 y1 y2 y3 y4 y5 y6 y7 y8
   unfold wimplelaw17_QminLong.j4
   repeat' first
   | (with_reducible exact ih0 _ _ _)
   | (with_reducible exact ih1 _ _ _ _ _)
   | (with_reducible exact ih2 _ _ _ _ _ _ _)
   | (with_reducible exact ih3 _ _ _ _ _ _ _ _)
   | (with_reducible exact ih4 _ _ _ _ _ _ _ _ _)
   | (with_reducible exact ih5 _ _ _ _ _ _ _ _ _)
   | (with_reducible exact qmin_Next.mono _ _ _ _ _ _ _ _ _ _ _)
   | (with_reducible exact wimplelaw17_awake.mono _)
   | (with_reducible exact LeO.refl _)
   | (with_reducible exact LeO.none _)
   | (with_reducible refine LeO.ite ?_ ?_)
   | (with_reducible refine LeO.bind ?_ (fun _ => ?_))
   | exact ih0 _ _ _
   | exact ih1 _ _ _ _ _
   | exact ih2 _ _ _ _ _ _ _
   | exact ih3 _ _ _ _ _ _ _ _
   | exact ih4 _ _ _ _ _ _ _ _ _
   | exact ih5 _ _ _ _ _ _ _ _ _
   | exact qmin_Next.mono _ _ _ _ _ _ _ _ _ _ _
   | exact wimplelaw17_awake.mono _
   | exact LeO.none _
   | refine LeO.ite ?_ ?_
   | refine LeO.bind ?_ (fun _ => ?_)
  ·intro y0 y1 y2 y3 y4 y5 y6 y7 y8
   unfold wimplelaw17_QminLong.j5
   repeat' first
   | (with_reducible exact ih0 _ _ _)
   | (with_reducible exact ih1 _ _ _ _ _)
   | (with_reducible exact ih2 _ _ _ _ _ _ _)
   | (with_reducible exact ih3 _ _ _ _ _ _ _ _)
   | (with_reducible exact ih4 _ _ _ _ _ _ _ _ _)
   | (with_reducible exact ih5 _ _ _ _ _ _ _ _ _)
   | (with_reducible exact qmin_Next.mono _ _ _ _ _ _ _ _ _ _ _)
   | (with_reducible exact wimplelaw17_awake.mono _)
   | (with_reducible exact LeO.refl _)
   | (with_reducible exact LeO.none _)
   | (with_reducible refine LeO.ite ?_ ?_)
   | (with_reducible refine LeO.bind ?_ (fun _ => ?_))
   | exact ih0 _ _ _
   | exact ih1 _ _ _ _ _
   | exact ih2 _ _ _ _ _ _ _
   | exact ih3 _ _ _ _ _ _ _ _
   | exact ih4 _ _ _ _ _ _ _ _ _
   | exact ih5 _ _ _ _ _ _ _ _ _
   | exact qmin_Next.mono _ _ _ _ _ _ _ _ _ _ _
   | exact wimplelaw17_awake.mono _
   | exact LeO.none _
   | refine LeO.ite ?_ ?_
   | refine LeO.bind ?_ (fun _ => ?_)
theorem wimplelaw17_QminLong.mono : ∀ a0 a1 a2 k, LeO (wimplelaw17_QminLong.f k a0 a1 a2) (wimplelaw17_QminLong.f (k + 1) a0 a1 a2) := by
 intro a0 a1 a2 k
 obtain ⟨ih0, ih1, ih2, ih3, ih4, ih5⟩ := wimplelaw17_QminLong.mono_l k
 unfold wimplelaw17_QminLong.f
 repeat' first
   | (with_reducible exact ih0 _ _ _)
   | (with_reducible exact ih1 _ _ _ _ _)
   | (with_reducible exact ih2 _ _ _ _ _ _ _)
   | (with_reducible exact ih3 _ _ _ _ _ _ _ _)
   | (with_reducible exact ih4 _ _ _ _ _ _ _ _ _)
   | (with_reducible exact ih5 _ _ _ _ _ _ _ _ _)
   | (with_reducible exact qmin_Next.mono _ _ _ _ _ _ _ _ _ _ _)
   | (with_reducible exact wimplelaw17_awake.mono _)
   | (with_reducible exact LeO.refl _)
   | (with_reducible exact LeO.none _)
   | (with_reducible refine LeO.ite ?_ ?_)
   | (with_reducible refine LeO.bind ?_ (fun _ => ?_))
   | exact ih0 _ _ _
   | exact ih1 _ _ _ _ _
   | exact ih2 _ _ _ _ _ _ _
   | exact ih3 _ _ _ _ _ _ _ _
   | exact ih4 _ _ _ _ _ _ _ _ _
   | exact ih5 _ _ _ _ _ _ _ _ _
   | exact qmin_Next.mono _ _ _ _ _ _ _ _ _ _ _
   | exact wimplelaw17_awake.mono _
   | exact LeO.none _
   | refine LeO.ite ?_ ?_
   | refine LeO.bind ?_ (fun _ => ?_)
set_option maxHeartbeats 8000000 in
set_option maxRecDepth 100000 in
theorem wimplelaw17_QminLong.calls (k : Nat) (a0 : Int) (a1 : Int) (a2 : Int) (r : Bool) (w : World) (h : wimplelaw17_QminLong.f k a0 a1 a2 = some r) :
  Calls Try.prog 9 #[.int .i64 a0, .int .i64 a1, .int .i64 a2] w fun e w' => e = .returned (.bool r) ∧ Below w.heap.size w w' := by
 have hu23 := Try.underlying23
 have hu30 := Try.underlying30
 have HB := Aside0.mk (Below.refl w.heap.size w)
 have H : ((wimplelaw17_awake.f k).bind fun t296 => (if t296 = true then (if (wrap64 (1 + (Go.bits .and .i64 a0 127))) > 126 then (wimplelaw17_QminLong.j0 k a1 a2 126) else (wimplelaw17_QminLong.j0 k a1 a2 (wrap64 (1 + (Go.bits .and .i64 a0 127))))) else (some false))) = some r := h
 clear h
 replace H := Option.bind_eq_some_iff.mp H
 obtain ⟨t296, A40, H⟩ := H
 replace H : (if t296 = true then (if (wrap64 (1 + (Go.bits .and .i64 a0 127))) > 126 then (wimplelaw17_QminLong.j0 k a1 a2 126) else (wimplelaw17_QminLong.j0 k a1 a2 (wrap64 (1 + (Go.bits .and .i64 a0 127))))) else (some false)) = some r := H
 have A4 := Aside0.mk A40
 clear A40
 by_cases c5 : t296 = true
 ·subst c5
  have H1 : (if (wrap64 (1 + (Go.bits .and .i64 a0 127))) > 126 then (wimplelaw17_QminLong.j0 k a1 a2 126) else (wimplelaw17_QminLong.j0 k a1 a2 (wrap64 (1 + (Go.bits .and .i64 a0 127))))) = some r := by rw [if_pos rfl] at H; exact H
  clear H
  have H := H1
  clear H1
  have HC6 := Aside0.mk H
  clear H
  go_enter Try.func9, Try.ntmps9
  try simp only [List.append_eq, List.cons_append, List.nil_append]
  go_upto_if 26 with (first | ((with_reducible refine gate_callee (f := 15) rfl ?_); refine goesL_ (some 20) rfl rfl Try.func15 (by kernel_rfl) rfl #[] rfl (by (try simp only [List.map_toArray, List.map_cons, List.map_nil]); first | done | rfl | (simp only [List.length_drop, List.length_take]; rfl)) ?_; (with_reducible refine (wimplelaw17_awake.calls k  true _ A4.out).mono ?_); rintro e w7 ⟨rfl, hb⟩; refine ⟨_, rfl, ?_⟩; have n0_ := Aside0.mk (below_step (by repeat (first | (with_reducible first | exact HB.out | apply below_alloc | apply pw_below_drewN | apply below_drew1) | exact HB.out)) hb); clear HB; have HB := n0_; clear n0_; (try clear hb); (try clear hb2); (try clear hk); (try clear hi)))
  (try simp only [Act.put, List.setIfInBounds_toArray, List.set_cons_zero, List.set_cons_succ])
  go_cut [7] (fun v7 wc => ∃ (kq : Nat) (x7_5 : Int), v7 = .int .i64 x7_5 ∧ Aside0 (wimplelaw17_QminLong.j0 kq a1 a2 x7_5 = some r) ∧ Aside0 (kq ≤ k) ∧ Aside0 (Below w.heap.size w wc))
  case first =>
   have H := HC6.out
   clear HC6
   by_cases c8 : (wrap64 (1 + (Go.bits .and .i64 a0 127))) > 126
   ·rw [if_pos c8] at H
    have c8b0 : decide (126 < (wrap64 (1 + (Go.bits .and .i64 a0 127)))) = true := decide_eq_true c8
    clear c8
    (first | rw [c8b0] | (simp only [i64_w, i32_w]; rw [c8b0]) | skip)
    have H' := Aside0.mk H
    clear H
    go_wp2
    go_meet
    case rel => exact ⟨_, (126), (by first | rfl | (simp; done) | (simp [*]; done) | (simp [ByteArray.size_append]; exact Iff.rfl)), H', ⟨by first | omega | exact Nat.le_refl _⟩, ⟨by repeat (first | (with_reducible first | exact HB.out | apply below_alloc | apply pw_below_drewN | apply below_drew1) | exact HB.out)⟩⟩
   ·rw [if_neg c8] at H
    have c8b0 : decide (126 < (wrap64 (1 + (Go.bits .and .i64 a0 127)))) = false := decide_eq_false c8
    clear c8
    (first | rw [c8b0] | (simp only [i64_w, i32_w]; rw [c8b0]) | skip)
    have H' := Aside0.mk H
    clear H
    go_wp2
    go_meet
    case rel => exact ⟨_, (wrap64 (1 + (Go.bits .and .i64 a0 127))), (by first | rfl | (simp; done) | (simp [*]; done) | (simp [ByteArray.size_append]; exact Iff.rfl)), H', ⟨by first | omega | exact Nat.le_refl _⟩, ⟨by repeat (first | (with_reducible first | exact HB.out | apply below_alloc | apply pw_below_drewN | apply below_drew1) | exact HB.out)⟩⟩
  case rest =>
   clear HC6
   try clear c1
   try clear p2
   try clear c5
   try clear p6
   try clear c8
   try clear c8b0
   obtain ⟨kq, x7_5, rfl, HA, HJ5, HB⟩ := hcut
   cases kq with
   | zero => exact absurd HA.out (by simp [wimplelaw17_QminLong.j0])
   | succ kj5 =>
    have H := HA.out
    clear HA
    simp only [wimplelaw17_QminLong.j0] at H
    have H' := Aside0.mk H
    clear H
    go_wp2
    go_loopg [10, 11] kj5 (fun kq v10 v11 w' => ∃ (x10_2 : ByteArray) (x11_2 : Int), v10 = .string x10_2 ∧ v11 = .int .i64 x11_2 ∧ Aside0 (wimplelaw17_QminLong.l0 kq x7_5 (wrap64 (1 + (Go.bits .and .i64 a1 15))) (Go.bits .and .i64 a2 7) x10_2 x11_2 = some r) ∧ Aside0 (kq ≤ kj5) ∧ Aside0 (Below w.heap.size w w'))
    case atStart => exact ⟨((⟨#[0]⟩ : ByteArray)), (0), (by first | rfl | (simp; done) | (simp [*]; done) | (simp [ByteArray.size_append]; exact Iff.rfl)), (by first | rfl | (simp; done) | (simp [*]; done) | (simp [ByteArray.size_append]; exact Iff.rfl)), H', ⟨Nat.le_refl _⟩, ⟨by repeat (first | (with_reducible first | exact HB.out | apply below_alloc | apply pw_below_drewN | apply below_drew1) | exact HB.out)⟩⟩
    case round =>
     clear H'
     try clear c1
     try clear p2
     try clear c5
     try clear p6
     try clear c8
     try clear c8b0
     try clear p2
     try clear p6
     obtain ⟨x10_2, x11_2, rfl, rfl, HA, HK2, HB⟩ := hrel
     cases gk with
     | zero => exact absurd HA.out (by simp [wimplelaw17_QminLong.l0])
     | succ k2 =>
      have H := HA.out
      clear HA
      simp only [wimplelaw17_QminLong.l0] at H
      by_cases c9 : x11_2 < x7_5
      ·rw [if_pos c9] at H
       have c9b0 : decide (x11_2 < x7_5) = true := decide_eq_true c9
       clear c9
       by_cases c10 : 2 + x10_2.size ≤ 9223372036854775807
       ·rw [if_pos c10] at H
        have c10b0 := eq_true c10
        have c10b1 : decide (2 + x10_2.size ≤ 9223372036854775807) = true := decide_eq_true c10
        try have c10b2 : (9223372036854775807 < 2 + x10_2.size) = False := eq_false (Nat.not_lt.2 c10)
        have H' := Aside0.mk H
        clear H
        go_wp2
        (try subst hji24); (try subst hji25); (try subst hji33)
        go_roundg k2
        case measure => have := HJ5.out; have := HK2.out; omega
        case rel => exact ⟨((⟨#[1, 97]⟩ : ByteArray) ++ x10_2), (wrap64 (x11_2 + 1)), (by first | rfl | (simp; done) | (simp [*]; done) | (simp [ByteArray.size_append]; exact Iff.rfl)), (by first | rfl | (simp; done) | (simp [*]; done) | (simp [ByteArray.size_append]; exact Iff.rfl)), H', ⟨by have := HJ5.out; have := HK2.out; omega⟩, ⟨by repeat (first | (with_reducible first | exact HB.out | apply below_alloc | apply pw_below_drewN | apply below_drew1) | exact HB.out)⟩⟩
       ·rw [if_neg c10] at H
        exact absurd H (by simp)
      ·rw [if_neg c9] at H
       have c9b0 : decide (x11_2 < x7_5) = false := decide_eq_false c9
       clear c9
       have H' := Aside0.mk H
       clear H
       go_wp2
       go_loopg [12, 13, 14, 15] k2 (fun kq v12 v13 v14 v15 w' => ∃ (x12_3 : Int) (x13_3 : Int) (x14_3 : Int) (x15_3 : Int), v12 = .int .i64 x12_3 ∧ v13 = .int .i64 x13_3 ∧ v14 = .int .i64 x14_3 ∧ v15 = .int .i64 x15_3 ∧ Aside0 (wimplelaw17_QminLong.l1 kq (wrap64 (1 + (Go.bits .and .i64 a1 15))) (Go.bits .and .i64 a2 7) x10_2 x12_3 x13_3 x14_3 x15_3 = some r) ∧ Aside0 (kq ≤ k2) ∧ Aside0 (Below w.heap.size w w'))
       case atStart => exact ⟨(x7_5), (0), (1000), (0), (by first | rfl | (simp; done) | (simp [*]; done) | (simp [ByteArray.size_append]; exact Iff.rfl)), (by first | rfl | (simp; done) | (simp [*]; done) | (simp [ByteArray.size_append]; exact Iff.rfl)), (by first | rfl | (simp; done) | (simp [*]; done) | (simp [ByteArray.size_append]; exact Iff.rfl)), (by first | rfl | (simp; done) | (simp [*]; done) | (simp [ByteArray.size_append]; exact Iff.rfl)), H', ⟨Nat.le_refl _⟩, ⟨by repeat (first | (with_reducible first | exact HB.out | apply below_alloc | apply pw_below_drewN | apply below_drew1) | exact HB.out)⟩⟩
       case round =>
        clear H'
        try clear c1
        try clear p2
        try clear c5
        try clear p6
        try clear c8
        try clear c8b0
        try clear c9
        try clear c9b0
        try clear c10
        try clear c10b0
        try clear c10b1
        try clear c10b2
        try clear p2
        try clear p6
        obtain ⟨x12_3, x13_3, x14_3, x15_3, rfl, rfl, rfl, rfl, HA, HK3, HB⟩ := hrel
        cases gk with
        | zero => exact absurd HA.out (by simp [wimplelaw17_QminLong.l1])
        | succ k3 =>
         have H := HA.out
         clear HA
         simp only [wimplelaw17_QminLong.l1] at H
         have HC11 := Aside0.mk H
         clear H
         go_upto_region 13 with (fail)
         go_cut [45] (fun v45 wc => ∃ (kq : Nat) (x45_10 : Bool), v45 = .bool x45_10 ∧ Aside0 (wimplelaw17_QminLong.j3 kq (wrap64 (1 + (Go.bits .and .i64 a1 15))) (Go.bits .and .i64 a2 7) x10_2 x12_3 x13_3 x14_3 x15_3 x45_10 = some r) ∧ Aside0 (kq ≤ k3) ∧ Aside0 (Below w.heap.size w wc))
         case first =>
          have H := HC11.out
          clear HC11
          by_cases c12 : x12_3 > 0
          ·rw [if_pos c12] at H
           have c12b0 : decide (0 < x12_3) = true := decide_eq_true c12
           clear c12
           (first | rw [c12b0] | (simp only [i64_w, i32_w]; rw [c12b0]) | skip)
           have H' := Aside0.mk H
           clear H
           go_wp2
           go_meet
           case rel => exact ⟨_, (decide (x13_3 < 200)), (by first | rfl | (simp; done) | (simp [*]; done) | (simp [ByteArray.size_append]; exact Iff.rfl)), H', ⟨by have := HJ5.out; have := HK2.out; have := HK3.out; first | omega | exact Nat.le_refl _⟩, ⟨by repeat (first | (with_reducible first | exact HB.out | apply below_alloc | apply pw_below_drewN | apply below_drew1) | exact HB.out)⟩⟩
          ·rw [if_neg c12] at H
           have c12b0 : decide (0 < x12_3) = false := decide_eq_false c12
           clear c12
           (first | rw [c12b0] | (simp only [i64_w, i32_w]; rw [c12b0]) | skip)
           have H' := Aside0.mk H
           clear H
           go_wp2
           go_meet
           case rel => exact ⟨_, (false), (by first | rfl | (simp; done) | (simp [*]; done) | (simp [ByteArray.size_append]; exact Iff.rfl)), H', ⟨by have := HJ5.out; have := HK2.out; have := HK3.out; first | omega | exact Nat.le_refl _⟩, ⟨by repeat (first | (with_reducible first | exact HB.out | apply below_alloc | apply pw_below_drewN | apply below_drew1) | exact HB.out)⟩⟩
         case rest =>
          clear HC11
          try clear c1
          try clear p2
          try clear c5
          try clear p6
          try clear c8
          try clear c8b0
          try clear c9
          try clear c9b0
          try clear c10
          try clear c10b0
          try clear c10b1
          try clear c10b2
          try clear c12
          try clear c12b0
          try clear p2
          try clear p6
          obtain ⟨kq, x45_10, rfl, HA, HJ10, HB⟩ := hcut
          cases kq with
          | zero => exact absurd HA.out (by simp [wimplelaw17_QminLong.j3])
          | succ kj10 =>
           have H := HA.out
           clear HA
           simp only [wimplelaw17_QminLong.j3] at H
           by_cases c13 : x45_10 = true
           ·subst c13
            have H1 : ((qmin_Size.f x13_3 x12_3 (wrap64 (1 + (Go.bits .and .i64 a1 15))) (Go.bits .and .i64 a2 7)).bind fun bt302 => ((wimplelaw0_Num.f bt302.2).bind fun t304 => (if t304 = 0 then (if bt302.1 < 1 then (wimplelaw17_QminLong.j4 kj10 (wrap64 (1 + (Go.bits .and .i64 a1 15))) (Go.bits .and .i64 a2 7) x10_2 x12_3 x13_3 x14_3 x15_3 bt302.1 true) else (wimplelaw17_QminLong.j4 kj10 (wrap64 (1 + (Go.bits .and .i64 a1 15))) (Go.bits .and .i64 a2 7) x10_2 x12_3 x13_3 x14_3 x15_3 bt302.1 (decide (bt302.1 > x12_3)))) else (wimplelaw17_QminLong.j4 kj10 (wrap64 (1 + (Go.bits .and .i64 a1 15))) (Go.bits .and .i64 a2 7) x10_2 x12_3 x13_3 x14_3 x15_3 bt302.1 true)))) = some r := by rw [if_pos rfl] at H; exact H
            clear H
            have H := H1
            clear H1
            replace H := Option.bind_eq_some_iff.mp H
            obtain ⟨⟨t302, t303⟩, A140, H⟩ := H
            replace H : ((wimplelaw0_Num.f t303).bind fun t304 => (if t304 = 0 then (if t302 < 1 then (wimplelaw17_QminLong.j4 kj10 (wrap64 (1 + (Go.bits .and .i64 a1 15))) (Go.bits .and .i64 a2 7) x10_2 x12_3 x13_3 x14_3 x15_3 t302 true) else (wimplelaw17_QminLong.j4 kj10 (wrap64 (1 + (Go.bits .and .i64 a1 15))) (Go.bits .and .i64 a2 7) x10_2 x12_3 x13_3 x14_3 x15_3 t302 (decide (t302 > x12_3)))) else (wimplelaw17_QminLong.j4 kj10 (wrap64 (1 + (Go.bits .and .i64 a1 15))) (Go.bits .and .i64 a2 7) x10_2 x12_3 x13_3 x14_3 x15_3 t302 true))) = some r := H
            have A14 := Aside0.mk A140
            clear A140
            have HC15 := Aside0.mk H
            clear H
            go_upto_region 15 with (first | ((with_reducible refine gate_callee (f := 10) rfl ?_); refine goesL_ (some 51) rfl rfl Try.func10 (by kernel_rfl) rfl #[.int .i64 x13_3, .int .i64 x12_3, .int .i64 (wrap64 (1 + (Go.bits .and .i64 a1 15))), .int .i64 (Go.bits .and .i64 a2 7)] rfl (by (try simp only [List.map_toArray, List.map_cons, List.map_nil]); first | done | rfl | (simp only [List.length_drop, List.length_take]; rfl)) ?_; (with_reducible refine (qmin_Size.calls x13_3 x12_3 (wrap64 (1 + (Go.bits .and .i64 a1 15))) (Go.bits .and .i64 a2 7) t302 t303 _ A14.out).mono ?_); rintro e w16 ⟨rfl, hb⟩; refine ⟨_, rfl, ?_⟩; have n0_ := Aside0.mk (below_step (by repeat (first | (with_reducible first | exact HB.out | apply below_alloc | apply pw_below_drewN | apply below_drew1) | exact HB.out)) hb); clear HB; have HB := n0_; clear n0_; (try clear hb); (try clear hb2); (try clear hk); (try clear hi)))
            (try simp only [Act.put, List.setIfInBounds_toArray, List.set_cons_zero, List.set_cons_succ])
            go_cut [65] (fun v65 wc => ∃ (kq : Nat) (x65_14 : Bool), v65 = .bool x65_14 ∧ Aside0 (wimplelaw17_QminLong.j4 kq (wrap64 (1 + (Go.bits .and .i64 a1 15))) (Go.bits .and .i64 a2 7) x10_2 x12_3 x13_3 x14_3 x15_3 t302 x65_14 = some r) ∧ Aside0 (kq ≤ kj10) ∧ Aside0 (Below w.heap.size w wc))
            case first =>
             have H := HC15.out
             clear HC15
             replace H := Option.bind_eq_some_iff.mp H
             obtain ⟨t304, A170, H⟩ := H
             replace H : (if t304 = 0 then (if t302 < 1 then (wimplelaw17_QminLong.j4 kj10 (wrap64 (1 + (Go.bits .and .i64 a1 15))) (Go.bits .and .i64 a2 7) x10_2 x12_3 x13_3 x14_3 x15_3 t302 true) else (wimplelaw17_QminLong.j4 kj10 (wrap64 (1 + (Go.bits .and .i64 a1 15))) (Go.bits .and .i64 a2 7) x10_2 x12_3 x13_3 x14_3 x15_3 t302 (decide (t302 > x12_3)))) else (wimplelaw17_QminLong.j4 kj10 (wrap64 (1 + (Go.bits .and .i64 a1 15))) (Go.bits .and .i64 a2 7) x10_2 x12_3 x13_3 x14_3 x15_3 t302 true)) = some r := H
             have A17 := Aside0.mk A170
             clear A170
             by_cases c18 : t304 = 0
             ·rw [if_pos c18] at H
              have c18b0 : (t304 == 0) = true := beq_iff_eq.mpr c18
              have c18b1 : (t304 != 0) = false := bne_eq_false_iff_eq.mpr c18
              clear c18
              (first | rw [c18b0] | (simp only [i64_w, i32_w]; rw [c18b0]) | skip)
              by_cases c19 : t302 < 1
              ·rw [if_pos c19] at H
               have c19b0 : decide (t302 < 1) = true := decide_eq_true c19
               clear c19
               have H' := Aside0.mk H
               clear H
               go_wp2_with (first | ((with_reducible refine gate_callee (f := 14) rfl ?_); refine goesL_ (some 55) rfl rfl Try.func14 (by kernel_rfl) rfl #[.int .i64 t303] rfl (by (try simp only [List.map_toArray, List.map_cons, List.map_nil]); first | done | rfl | (simp only [List.length_drop, List.length_take]; rfl)) ?_; (with_reducible refine (wimplelaw0_Num.calls t303 t304 _ A17.out).mono ?_); rintro e w' ⟨rfl, ⟨nd, rfl⟩⟩; refine ⟨_, rfl, ?_⟩))
               go_meet
               case rel => exact ⟨_, (true), (by first | rfl | (simp; done) | (simp [*]; done) | (simp [ByteArray.size_append]; exact Iff.rfl)), H', ⟨by have := HJ5.out; have := HK2.out; have := HK3.out; have := HJ10.out; first | omega | exact Nat.le_refl _⟩, ⟨by repeat (first | (with_reducible first | exact HB.out | apply below_alloc | apply pw_below_drewN | apply below_drew1) | exact HB.out)⟩⟩
              ·rw [if_neg c19] at H
               have c19b0 : decide (t302 < 1) = false := decide_eq_false c19
               clear c19
               have H' := Aside0.mk H
               clear H
               go_wp2_with (first | ((with_reducible refine gate_callee (f := 14) rfl ?_); refine goesL_ (some 55) rfl rfl Try.func14 (by kernel_rfl) rfl #[.int .i64 t303] rfl (by (try simp only [List.map_toArray, List.map_cons, List.map_nil]); first | done | rfl | (simp only [List.length_drop, List.length_take]; rfl)) ?_; (with_reducible refine (wimplelaw0_Num.calls t303 t304 _ A17.out).mono ?_); rintro e w' ⟨rfl, ⟨nd, rfl⟩⟩; refine ⟨_, rfl, ?_⟩))
               go_meet
               case rel => exact ⟨_, (decide (t302 > x12_3)), (by first | rfl | (simp; done) | (simp [*]; done) | (simp [ByteArray.size_append]; exact Iff.rfl)), H', ⟨by have := HJ5.out; have := HK2.out; have := HK3.out; have := HJ10.out; first | omega | exact Nat.le_refl _⟩, ⟨by repeat (first | (with_reducible first | exact HB.out | apply below_alloc | apply pw_below_drewN | apply below_drew1) | exact HB.out)⟩⟩
             ·rw [if_neg c18] at H
              have c18b0 : (t304 == 0) = false := beq_eq_false_iff_ne.mpr c18
              have c18b1 : (t304 != 0) = true := bne_iff_ne.mpr c18
              (first | rw [c18b0] | (simp only [i64_w, i32_w]; rw [c18b0]) | skip)
              have H' := Aside0.mk H
              clear H
              go_wp2_with (first | ((with_reducible refine gate_callee (f := 14) rfl ?_); refine goesL_ (some 55) rfl rfl Try.func14 (by kernel_rfl) rfl #[.int .i64 t303] rfl (by (try simp only [List.map_toArray, List.map_cons, List.map_nil]); first | done | rfl | (simp only [List.length_drop, List.length_take]; rfl)) ?_; (with_reducible refine (wimplelaw0_Num.calls t303 t304 _ A17.out).mono ?_); rintro e w' ⟨rfl, ⟨nd, rfl⟩⟩; refine ⟨_, rfl, ?_⟩))
              go_meet
              case rel => exact ⟨_, (true), (by first | rfl | (simp; done) | (simp [*]; done) | (simp [ByteArray.size_append]; exact Iff.rfl)), H', ⟨by have := HJ5.out; have := HK2.out; have := HK3.out; have := HJ10.out; first | omega | exact Nat.le_refl _⟩, ⟨by repeat (first | (with_reducible first | exact HB.out | apply below_alloc | apply pw_below_drewN | apply below_drew1) | exact HB.out)⟩⟩
            case rest =>
             clear HC15
             try clear c1
             try clear p2
             try clear c5
             try clear p6
             try clear c8
             try clear c8b0
             try clear c9
             try clear c9b0
             try clear c10
             try clear c10b0
             try clear c10b1
             try clear c10b2
             try clear c12
             try clear c12b0
             try clear c13
             try clear c14
             try clear c15
             try clear c18
             try clear c18b0
             try clear c18b1
             try clear c19
             try clear c19b0
             try clear p2
             try clear p6
             obtain ⟨kq, x65_14, rfl, HA, HJ14, HB⟩ := hcut
             cases kq with
             | zero => exact absurd HA.out (by simp [wimplelaw17_QminLong.j4])
             | succ kj14 =>
              have H := HA.out
              clear HA
              simp only [wimplelaw17_QminLong.j4] at H
              by_cases c20 : x65_14 = true
              ·subst c20
               have H1 : (some false) = some r := by rw [if_pos rfl] at H; exact H
               clear H
               have H := H1
               clear H1
               obtain rfl := Option.some.inj H
               go_wp2
               go_ret
               exact ⟨by first | rfl | (simp [errW_none, errW_some] <;> rfl) | (simp [*, errW_none, errW_some] <;> rfl), by repeat (first | (with_reducible first | exact HB.out | apply below_alloc | apply pw_below_drewN | apply below_drew1) | exact HB.out)⟩
              ·replace c20 := Bool.eq_false_iff.mpr c20
               subst c20
               have H1 : (if x13_3 ≥ (Go.bits .and .i64 a2 7) then (wimplelaw17_QminLong.j5 kj14 (wrap64 (1 + (Go.bits .and .i64 a1 15))) (Go.bits .and .i64 a2 7) x10_2 x12_3 x13_3 x14_3 x15_3 t302 (decide (x13_3 < (wrap64 (1 + (Go.bits .and .i64 a1 15)))))) else (wimplelaw17_QminLong.j5 kj14 (wrap64 (1 + (Go.bits .and .i64 a1 15))) (Go.bits .and .i64 a2 7) x10_2 x12_3 x13_3 x14_3 x15_3 t302 false)) = some r := by rw [if_neg (show ¬ (false = true) by decide)] at H; exact H
               clear H
               have H := H1
               clear H1
               have HC21 := Aside0.mk H
               clear H
               go_upto_region 17 with (fail)
               go_cut [73] (fun v73 wc => ∃ (kq : Nat) (x73_20 : Bool), v73 = .bool x73_20 ∧ Aside0 (wimplelaw17_QminLong.j5 kq (wrap64 (1 + (Go.bits .and .i64 a1 15))) (Go.bits .and .i64 a2 7) x10_2 x12_3 x13_3 x14_3 x15_3 t302 x73_20 = some r) ∧ Aside0 (kq ≤ kj14) ∧ Aside0 (Below w.heap.size w wc))
               case first =>
                have H := HC21.out
                clear HC21
                by_cases c22 : x13_3 ≥ (Go.bits .and .i64 a2 7)
                ·rw [if_pos c22] at H
                 have c22b0 : decide ((Go.bits .and .i64 a2 7) ≤ x13_3) = true := decide_eq_true c22
                 clear c22
                 (first | rw [c22b0] | (simp only [i64_w, i32_w]; rw [c22b0]) | skip)
                 have H' := Aside0.mk H
                 clear H
                 go_wp2
                 go_meet
                 case rel => exact ⟨_, (decide (x13_3 < (wrap64 (1 + (Go.bits .and .i64 a1 15))))), (by first | rfl | (simp; done) | (simp [*]; done) | (simp [ByteArray.size_append]; exact Iff.rfl)), H', ⟨by have := HJ5.out; have := HK2.out; have := HK3.out; have := HJ10.out; have := HJ14.out; first | omega | exact Nat.le_refl _⟩, ⟨by repeat (first | (with_reducible first | exact HB.out | apply below_alloc | apply pw_below_drewN | apply below_drew1) | exact HB.out)⟩⟩
                ·rw [if_neg c22] at H
                 have c22b0 : decide ((Go.bits .and .i64 a2 7) ≤ x13_3) = false := decide_eq_false c22
                 clear c22
                 (first | rw [c22b0] | (simp only [i64_w, i32_w]; rw [c22b0]) | skip)
                 have H' := Aside0.mk H
                 clear H
                 go_wp2
                 go_meet
                 case rel => exact ⟨_, (false), (by first | rfl | (simp; done) | (simp [*]; done) | (simp [ByteArray.size_append]; exact Iff.rfl)), H', ⟨by have := HJ5.out; have := HK2.out; have := HK3.out; have := HJ10.out; have := HJ14.out; first | omega | exact Nat.le_refl _⟩, ⟨by repeat (first | (with_reducible first | exact HB.out | apply below_alloc | apply pw_below_drewN | apply below_drew1) | exact HB.out)⟩⟩
               case rest =>
                clear HC21
                try clear c1
                try clear c2
                try clear p2
                try clear c5
                try clear p6
                try clear c8
                try clear c8b0
                try clear c9
                try clear c9b0
                try clear c10
                try clear c10b0
                try clear c10b1
                try clear c10b2
                try clear c12
                try clear c12b0
                try clear c13
                try clear c14
                try clear c15
                try clear c18
                try clear c18b0
                try clear c18b1
                try clear c19
                try clear c19b0
                try clear c20
                try clear c22
                try clear c22b0
                try clear p2
                try clear p6
                obtain ⟨kq, x73_20, rfl, HA, HJ20, HB⟩ := hcut
                cases kq with
                | zero => exact absurd HA.out (by simp [wimplelaw17_QminLong.j5])
                | succ kj20 =>
                 have H := HA.out
                 clear HA
                 simp only [wimplelaw17_QminLong.j5] at H
                 by_cases c23 : x73_20 = true
                 ·subst c23
                  have H1 : (if x13_3 < (Go.bits .and .i64 a2 7) then (if t302 = 1 then (wimplelaw17_QminLong.l1 kj20 (wrap64 (1 + (Go.bits .and .i64 a1 15))) (Go.bits .and .i64 a2 7) x10_2 (wrap64 (x12_3 - t302)) (wrap64 (x13_3 + 1)) (mn x14_3 t302) (mx x15_3 t302)) else (some false)) else (wimplelaw17_QminLong.l1 kj20 (wrap64 (1 + (Go.bits .and .i64 a1 15))) (Go.bits .and .i64 a2 7) x10_2 (wrap64 (x12_3 - t302)) (wrap64 (x13_3 + 1)) (mn x14_3 t302) (mx x15_3 t302))) = some r := by rw [if_pos rfl] at H; exact H
                  clear H
                  have H := H1
                  clear H1
                  obtain ⟨ji24, hji24⟩ : ∃ j_ : Int, (mn x14_3 t302) = j_ := ⟨_, rfl⟩
                  replace H : (if x13_3 < (Go.bits .and .i64 a2 7) then (if t302 = 1 then (wimplelaw17_QminLong.l1 kj20 (wrap64 (1 + (Go.bits .and .i64 a1 15))) (Go.bits .and .i64 a2 7) x10_2 (wrap64 (x12_3 - t302)) (wrap64 (x13_3 + 1)) ji24 (mx x15_3 t302)) else (some false)) else (wimplelaw17_QminLong.l1 kj20 (wrap64 (1 + (Go.bits .and .i64 a1 15))) (Go.bits .and .i64 a2 7) x10_2 (wrap64 (x12_3 - t302)) (wrap64 (x13_3 + 1)) ji24 (mx x15_3 t302))) = some r := by first | (rw [hji24] at H; exact H) | (simp only [hji24] at H ⊢; exact H)
                  have hji24_ : (if t302 < x14_3 then t302 else x14_3) = ji24 := hji24
                  obtain ⟨ji25, hji25⟩ : ∃ j_ : Int, (mx x15_3 t302) = j_ := ⟨_, rfl⟩
                  replace H : (if x13_3 < (Go.bits .and .i64 a2 7) then (if t302 = 1 then (wimplelaw17_QminLong.l1 kj20 (wrap64 (1 + (Go.bits .and .i64 a1 15))) (Go.bits .and .i64 a2 7) x10_2 (wrap64 (x12_3 - t302)) (wrap64 (x13_3 + 1)) ji24 ji25) else (some false)) else (wimplelaw17_QminLong.l1 kj20 (wrap64 (1 + (Go.bits .and .i64 a1 15))) (Go.bits .and .i64 a2 7) x10_2 (wrap64 (x12_3 - t302)) (wrap64 (x13_3 + 1)) ji24 ji25)) = some r := by first | (rw [hji25] at H; exact H) | (simp only [hji25] at H ⊢; exact H)
                  have hji25_ : (if x15_3 < t302 then t302 else x15_3) = ji25 := hji25
                  by_cases c26 : x13_3 < (Go.bits .and .i64 a2 7)
                  ·rw [if_pos c26] at H
                   have c26b0 : decide (x13_3 < (Go.bits .and .i64 a2 7)) = true := decide_eq_true c26
                   clear c26
                   by_cases c27 : t302 = 1
                   ·rw [if_pos c27] at H
                    have c27b0 : (t302 == 1) = true := beq_iff_eq.mpr c27
                    have c27b1 : (t302 != 1) = false := bne_eq_false_iff_eq.mpr c27
                    clear c27
                    have H' := Aside0.mk H
                    clear H
                    go_wp2
                    (try subst hji33)
                    go_roundg kj20
                    case measure => have := HJ5.out; have := HK2.out; have := HK3.out; have := HJ10.out; have := HJ14.out; have := HJ20.out; omega
                    case rel => exact ⟨(wrap64 (x12_3 - t302)), (wrap64 (x13_3 + 1)), (ji24), (ji25), (by first | rfl | (simp; done) | (simp [*]; done) | (simp [ByteArray.size_append]; exact Iff.rfl)), (by first | rfl | (simp; done) | (simp [*]; done) | (simp [ByteArray.size_append]; exact Iff.rfl)), (by first | rfl | (simp; done) | (simp only [← hji24] <;> (first | rfl | simp)) | (simp [*]; done)), (by first | rfl | (simp; done) | (simp only [← hji25] <;> (first | rfl | simp)) | (simp [*]; done)), H', ⟨by have := HJ5.out; have := HK2.out; have := HK3.out; have := HJ10.out; have := HJ14.out; have := HJ20.out; omega⟩, ⟨by repeat (first | (with_reducible first | exact HB.out | apply below_alloc | apply pw_below_drewN | apply below_drew1) | exact HB.out)⟩⟩
                   ·rw [if_neg c27] at H
                    have c27b0 : (t302 == 1) = false := beq_eq_false_iff_ne.mpr c27
                    have c27b1 : (t302 != 1) = true := bne_iff_ne.mpr c27
                    obtain rfl := Option.some.inj H
                    go_wp2
                    go_ret
                    exact ⟨by first | rfl | (simp [errW_none, errW_some] <;> rfl) | (simp only [← hji24, ← hji25]; first | rfl | (simp [errW_none, errW_some] <;> rfl)) | (simp [*, errW_none, errW_some] <;> rfl), by repeat (first | (with_reducible first | exact HB.out | apply below_alloc | apply pw_below_drewN | apply below_drew1) | exact HB.out)⟩
                  ·rw [if_neg c26] at H
                   have c26b0 : decide (x13_3 < (Go.bits .and .i64 a2 7)) = false := decide_eq_false c26
                   clear c26
                   have H' := Aside0.mk H
                   clear H
                   go_wp2
                   (try subst hji33)
                   go_roundg kj20
                   case measure => have := HJ5.out; have := HK2.out; have := HK3.out; have := HJ10.out; have := HJ14.out; have := HJ20.out; omega
                   case rel => exact ⟨(wrap64 (x12_3 - t302)), (wrap64 (x13_3 + 1)), (ji24), (ji25), (by first | rfl | (simp; done) | (simp [*]; done) | (simp [ByteArray.size_append]; exact Iff.rfl)), (by first | rfl | (simp; done) | (simp [*]; done) | (simp [ByteArray.size_append]; exact Iff.rfl)), (by first | rfl | (simp; done) | (simp only [← hji24] <;> (first | rfl | simp)) | (simp [*]; done)), (by first | rfl | (simp; done) | (simp only [← hji25] <;> (first | rfl | simp)) | (simp [*]; done)), H', ⟨by have := HJ5.out; have := HK2.out; have := HK3.out; have := HJ10.out; have := HJ14.out; have := HJ20.out; omega⟩, ⟨by repeat (first | (with_reducible first | exact HB.out | apply below_alloc | apply pw_below_drewN | apply below_drew1) | exact HB.out)⟩⟩
                 ·replace c23 := Bool.eq_false_iff.mpr c23
                  subst c23
                  have H1 : (if x13_3 < (Go.bits .and .i64 a2 7) then (if t302 = 1 then (wimplelaw17_QminLong.l1 kj20 (wrap64 (1 + (Go.bits .and .i64 a1 15))) (Go.bits .and .i64 a2 7) x10_2 (wrap64 (x12_3 - t302)) (wrap64 (x13_3 + 1)) x14_3 x15_3) else (some false)) else (wimplelaw17_QminLong.l1 kj20 (wrap64 (1 + (Go.bits .and .i64 a1 15))) (Go.bits .and .i64 a2 7) x10_2 (wrap64 (x12_3 - t302)) (wrap64 (x13_3 + 1)) x14_3 x15_3)) = some r := by rw [if_neg (show ¬ (false = true) by decide)] at H; exact H
                  clear H
                  have H := H1
                  clear H1
                  by_cases c28 : x13_3 < (Go.bits .and .i64 a2 7)
                  ·rw [if_pos c28] at H
                   have c28b0 : decide (x13_3 < (Go.bits .and .i64 a2 7)) = true := decide_eq_true c28
                   clear c28
                   by_cases c29 : t302 = 1
                   ·rw [if_pos c29] at H
                    have c29b0 : (t302 == 1) = true := beq_iff_eq.mpr c29
                    have c29b1 : (t302 != 1) = false := bne_eq_false_iff_eq.mpr c29
                    clear c29
                    have H' := Aside0.mk H
                    clear H
                    go_wp2
                    (try subst hji24); (try subst hji25); (try subst hji33)
                    go_roundg kj20
                    case measure => have := HJ5.out; have := HK2.out; have := HK3.out; have := HJ10.out; have := HJ14.out; have := HJ20.out; omega
                    case rel => exact ⟨(wrap64 (x12_3 - t302)), (wrap64 (x13_3 + 1)), (x14_3), (x15_3), (by first | rfl | (simp; done) | (simp [*]; done) | (simp [ByteArray.size_append]; exact Iff.rfl)), (by first | rfl | (simp; done) | (simp [*]; done) | (simp [ByteArray.size_append]; exact Iff.rfl)), (by first | rfl | (simp; done) | (simp [*]; done) | (simp [ByteArray.size_append]; exact Iff.rfl)), (by first | rfl | (simp; done) | (simp [*]; done) | (simp [ByteArray.size_append]; exact Iff.rfl)), H', ⟨by have := HJ5.out; have := HK2.out; have := HK3.out; have := HJ10.out; have := HJ14.out; have := HJ20.out; omega⟩, ⟨by repeat (first | (with_reducible first | exact HB.out | apply below_alloc | apply pw_below_drewN | apply below_drew1) | exact HB.out)⟩⟩
                   ·rw [if_neg c29] at H
                    have c29b0 : (t302 == 1) = false := beq_eq_false_iff_ne.mpr c29
                    have c29b1 : (t302 != 1) = true := bne_iff_ne.mpr c29
                    obtain rfl := Option.some.inj H
                    go_wp2
                    go_ret
                    exact ⟨by first | rfl | (simp [errW_none, errW_some] <;> rfl) | (simp [*, errW_none, errW_some] <;> rfl), by repeat (first | (with_reducible first | exact HB.out | apply below_alloc | apply pw_below_drewN | apply below_drew1) | exact HB.out)⟩
                  ·rw [if_neg c28] at H
                   have c28b0 : decide (x13_3 < (Go.bits .and .i64 a2 7)) = false := decide_eq_false c28
                   clear c28
                   have H' := Aside0.mk H
                   clear H
                   go_wp2
                   (try subst hji24); (try subst hji25); (try subst hji33)
                   go_roundg kj20
                   case measure => have := HJ5.out; have := HK2.out; have := HK3.out; have := HJ10.out; have := HJ14.out; have := HJ20.out; omega
                   case rel => exact ⟨(wrap64 (x12_3 - t302)), (wrap64 (x13_3 + 1)), (x14_3), (x15_3), (by first | rfl | (simp; done) | (simp [*]; done) | (simp [ByteArray.size_append]; exact Iff.rfl)), (by first | rfl | (simp; done) | (simp [*]; done) | (simp [ByteArray.size_append]; exact Iff.rfl)), (by first | rfl | (simp; done) | (simp [*]; done) | (simp [ByteArray.size_append]; exact Iff.rfl)), (by first | rfl | (simp; done) | (simp [*]; done) | (simp [ByteArray.size_append]; exact Iff.rfl)), H', ⟨by have := HJ5.out; have := HK2.out; have := HK3.out; have := HJ10.out; have := HJ14.out; have := HJ20.out; omega⟩, ⟨by repeat (first | (with_reducible first | exact HB.out | apply below_alloc | apply pw_below_drewN | apply below_drew1) | exact HB.out)⟩⟩
           ·replace c13 := Bool.eq_false_iff.mpr c13
            subst c13
            have H1 : ((qmin_Next.f kj10 x10_2 9 (⟨#[]⟩ : ByteArray) (⟨#[0]⟩ : ByteArray) 0 false 0 0 (wrap64 (1 + (Go.bits .and .i64 a1 15))) (Go.bits .and .i64 a2 7)).bind fun bt297 => ((wimplelaw0_Num.f bt297.2.2).bind fun t301 => (if t301 = 0 then (if x13_3 ≤ (wrap64 ((mx (wrap64 (1 + (Go.bits .and .i64 a1 15))) (Go.bits .and .i64 a2 7)) + 1)) then (if x15_3 = 0 then (some (decide ((bt297.1.size : Int) ≥ 3))) else (if (wrap64 (x15_3 - x14_3)) ≤ 1 then (some (decide ((bt297.1.size : Int) ≥ 3))) else (some false))) else (some false)) else (some false)))) = some r := by rw [if_neg (show ¬ (false = true) by decide)] at H; exact H
            clear H
            have H := H1
            clear H1
            replace H := Option.bind_eq_some_iff.mp H
            obtain ⟨⟨t297, t298, t299⟩, A300, H⟩ := H
            replace H : ((wimplelaw0_Num.f t299).bind fun t301 => (if t301 = 0 then (if x13_3 ≤ (wrap64 ((mx (wrap64 (1 + (Go.bits .and .i64 a1 15))) (Go.bits .and .i64 a2 7)) + 1)) then (if x15_3 = 0 then (some (decide ((t297.size : Int) ≥ 3))) else (if (wrap64 (x15_3 - x14_3)) ≤ 1 then (some (decide ((t297.size : Int) ≥ 3))) else (some false))) else (some false)) else (some false))) = some r := H
            have A30 := Aside0.mk A300
            clear A300
            replace H := Option.bind_eq_some_iff.mp H
            obtain ⟨t301, A310, H⟩ := H
            replace H : (if t301 = 0 then (if x13_3 ≤ (wrap64 ((mx (wrap64 (1 + (Go.bits .and .i64 a1 15))) (Go.bits .and .i64 a2 7)) + 1)) then (if x15_3 = 0 then (some (decide ((t297.size : Int) ≥ 3))) else (if (wrap64 (x15_3 - x14_3)) ≤ 1 then (some (decide ((t297.size : Int) ≥ 3))) else (some false))) else (some false)) else (some false)) = some r := H
            have A31 := Aside0.mk A310
            clear A310
            by_cases c32 : t301 = 0
            ·rw [if_pos c32] at H
             have c32b0 : (t301 == 0) = true := beq_iff_eq.mpr c32
             have c32b1 : (t301 != 0) = false := bne_eq_false_iff_eq.mpr c32
             clear c32
             obtain ⟨ji33, hji33⟩ : ∃ j_ : Int, (mx (wrap64 (1 + (Go.bits .and .i64 a1 15))) (Go.bits .and .i64 a2 7)) = j_ := ⟨_, rfl⟩
             replace H : (if x13_3 ≤ (wrap64 ((ji33) + 1)) then (if x15_3 = 0 then (some (decide ((t297.size : Int) ≥ 3))) else (if (wrap64 (x15_3 - x14_3)) ≤ 1 then (some (decide ((t297.size : Int) ≥ 3))) else (some false))) else (some false)) = some r := by first | (rw [hji33] at H; exact H) | (simp only [hji33] at H ⊢; exact H)
             (try rw [hji33] at A30)
             (try rw [hji33] at A31)
             have hji33_ : (if (wrap64 (1 + (Go.bits .and .i64 a1 15))) < (Go.bits .and .i64 a2 7) then (Go.bits .and .i64 a2 7) else (wrap64 (1 + (Go.bits .and .i64 a1 15)))) = ji33 := hji33
             by_cases c34 : x13_3 ≤ (wrap64 ((ji33) + 1))
             ·rw [if_pos c34] at H
              have c34b0 : decide (x13_3 ≤ (wrap64 ((ji33) + 1))) = true := decide_eq_true c34
              clear c34
              by_cases c35 : x15_3 = 0
              ·rw [if_pos c35] at H
               have c35b0 : (x15_3 == 0) = true := beq_iff_eq.mpr c35
               have c35b1 : (x15_3 != 0) = false := bne_eq_false_iff_eq.mpr c35
               clear c35
               obtain rfl := Option.some.inj H
               go_wp2_with (first | ((with_reducible refine gate_callee (f := 12) rfl ?_); refine goesL_ (some 97) rfl rfl Try.func12 (by kernel_rfl) rfl #[.agg #[.string x10_2, .int .i64 9, .string (⟨#[]⟩ : ByteArray), .string (⟨#[0]⟩ : ByteArray), .int .i64 0, .bool false, .int .i64 0, .int .i64 0], .int .i64 (wrap64 (1 + (Go.bits .and .i64 a1 15))), .int .i64 (Go.bits .and .i64 a2 7)] rfl (by (try simp only [List.map_toArray, List.map_cons, List.map_nil]); first | done | rfl | (simp only [List.length_drop, List.length_take]; rfl)) ?_; (with_reducible refine (qmin_Next.calls kj10 x10_2 9 (⟨#[]⟩ : ByteArray) (⟨#[0]⟩ : ByteArray) 0 false 0 0 (wrap64 (1 + (Go.bits .and .i64 a1 15))) (Go.bits .and .i64 a2 7) t297 t298 t299 _ A30.out).mono ?_); rintro e w36 ⟨rfl, hb⟩; refine ⟨_, rfl, ?_⟩; have n0_ := Aside0.mk (below_step (by repeat (first | (with_reducible first | exact HB.out | apply below_alloc | apply pw_below_drewN | apply below_drew1) | exact HB.out)) hb); clear HB; have HB := n0_; clear n0_; (try clear hb); (try clear hb2); (try clear hk); (try clear hi)) | ((with_reducible refine gate_dst (N := 18) rfl ?_); (try (refine gate_guard (by rfl) ?_; dsimp only)); refine box_event ?hg (N := 18) ?hd (cs := #[.string (⟨#[]⟩ : ByteArray), .int .i64 0]) (t := 30) ?hr ?_; (case hd => rfl); (case hg => rfl); (case hr => first | (go_simp; done) | (go_simp; rfl)); intro gb300 hg w37 hbox hb; have n0_ := Aside0.mk (below_step (by repeat (first | (with_reducible first | exact HB.out | apply below_alloc | apply pw_below_drewN | apply below_drew1) | exact HB.out)) hb); have n1_ := Aside0.mk (hbox); have n2_ := Aside0.mk ((by rw [hg]; exact (below_size (by repeat (first | (with_reducible first | exact HB.out | apply below_alloc | apply pw_below_drewN | apply below_drew1) | exact HB.out))) : w.heap.size ≤ gb300)); have n3_ := Aside0.mk ((by rw [hg]; exact (below_size (by repeat (first | (with_reducible first | exact HB.out | apply below_alloc | apply pw_below_drewN | apply below_drew1) | exact HB.out))) : w.heap.size ≤ gb300)); clear HB; have HB := n0_; have BK300 := n1_; have GW300 := n2_; have GE300 := n3_; clear n0_ n1_ n2_ n3_; clear hb hbox hg; have hcz38_0 : w37.cell? ⟨gb300, 0, none⟩ = some (.string (⟨#[]⟩ : ByteArray)) := (blk_cell BK300.out 0).trans rfl; have hcz38_1 : w37.cell? ⟨gb300, 1, none⟩ = some (.int .i64 0) := (blk_cell BK300.out 1).trans rfl; have hfz38_0 := blk_frozen BK300.out 0; have hfz38_1 := blk_frozen BK300.out 1) | ((with_reducible refine gate_callee (f := 14) rfl ?_); refine goesL_ (some 101) rfl rfl Try.func14 (by kernel_rfl) rfl #[.int .i64 t299] rfl (by (try simp only [List.map_toArray, List.map_cons, List.map_nil]); first | done | rfl | (simp only [List.length_drop, List.length_take]; rfl)) ?_; (with_reducible refine (wimplelaw0_Num.calls t299 t301 _ A31.out).mono ?_); rintro e w' ⟨rfl, ⟨nd, rfl⟩⟩; refine ⟨_, rfl, ?_⟩))
               go_ret
               exact ⟨by first | rfl | (simp [errW_none, errW_some] <;> rfl) | (simp only [← hji33]; first | rfl | (simp [errW_none, errW_some] <;> rfl)) | (simp [*, errW_none, errW_some] <;> rfl), by repeat (first | (with_reducible first | exact HB.out | apply below_alloc | apply pw_below_drewN | apply below_drew1 | refine below_set ?_ GE300.out) | exact HB.out)⟩
              ·rw [if_neg c35] at H
               have c35b0 : (x15_3 == 0) = false := beq_eq_false_iff_ne.mpr c35
               have c35b1 : (x15_3 != 0) = true := bne_iff_ne.mpr c35
               by_cases c39 : (wrap64 (x15_3 - x14_3)) ≤ 1
               ·rw [if_pos c39] at H
                have c39b0 : decide ((wrap64 (x15_3 - x14_3)) ≤ 1) = true := decide_eq_true c39
                clear c39
                obtain rfl := Option.some.inj H
                go_wp2_with (first | ((with_reducible refine gate_callee (f := 12) rfl ?_); refine goesL_ (some 97) rfl rfl Try.func12 (by kernel_rfl) rfl #[.agg #[.string x10_2, .int .i64 9, .string (⟨#[]⟩ : ByteArray), .string (⟨#[0]⟩ : ByteArray), .int .i64 0, .bool false, .int .i64 0, .int .i64 0], .int .i64 (wrap64 (1 + (Go.bits .and .i64 a1 15))), .int .i64 (Go.bits .and .i64 a2 7)] rfl (by (try simp only [List.map_toArray, List.map_cons, List.map_nil]); first | done | rfl | (simp only [List.length_drop, List.length_take]; rfl)) ?_; (with_reducible refine (qmin_Next.calls kj10 x10_2 9 (⟨#[]⟩ : ByteArray) (⟨#[0]⟩ : ByteArray) 0 false 0 0 (wrap64 (1 + (Go.bits .and .i64 a1 15))) (Go.bits .and .i64 a2 7) t297 t298 t299 _ A30.out).mono ?_); rintro e w40 ⟨rfl, hb⟩; refine ⟨_, rfl, ?_⟩; have n0_ := Aside0.mk (below_step (by repeat (first | (with_reducible first | exact HB.out | apply below_alloc | apply pw_below_drewN | apply below_drew1) | exact HB.out)) hb); clear HB; have HB := n0_; clear n0_; (try clear hb); (try clear hb2); (try clear hk); (try clear hi)) | ((with_reducible refine gate_dst (N := 18) rfl ?_); (try (refine gate_guard (by rfl) ?_; dsimp only)); refine box_event ?hg (N := 18) ?hd (cs := #[.string (⟨#[]⟩ : ByteArray), .int .i64 0]) (t := 30) ?hr ?_; (case hd => rfl); (case hg => rfl); (case hr => first | (go_simp; done) | (go_simp; rfl)); intro gb300 hg w41 hbox hb; have n0_ := Aside0.mk (below_step (by repeat (first | (with_reducible first | exact HB.out | apply below_alloc | apply pw_below_drewN | apply below_drew1) | exact HB.out)) hb); have n1_ := Aside0.mk (hbox); have n2_ := Aside0.mk ((by rw [hg]; exact (below_size (by repeat (first | (with_reducible first | exact HB.out | apply below_alloc | apply pw_below_drewN | apply below_drew1) | exact HB.out))) : w.heap.size ≤ gb300)); have n3_ := Aside0.mk ((by rw [hg]; exact (below_size (by repeat (first | (with_reducible first | exact HB.out | apply below_alloc | apply pw_below_drewN | apply below_drew1) | exact HB.out))) : w.heap.size ≤ gb300)); clear HB; have HB := n0_; have BK300 := n1_; have GW300 := n2_; have GE300 := n3_; clear n0_ n1_ n2_ n3_; clear hb hbox hg; have hcz42_0 : w41.cell? ⟨gb300, 0, none⟩ = some (.string (⟨#[]⟩ : ByteArray)) := (blk_cell BK300.out 0).trans rfl; have hcz42_1 : w41.cell? ⟨gb300, 1, none⟩ = some (.int .i64 0) := (blk_cell BK300.out 1).trans rfl; have hfz42_0 := blk_frozen BK300.out 0; have hfz42_1 := blk_frozen BK300.out 1) | ((with_reducible refine gate_callee (f := 14) rfl ?_); refine goesL_ (some 101) rfl rfl Try.func14 (by kernel_rfl) rfl #[.int .i64 t299] rfl (by (try simp only [List.map_toArray, List.map_cons, List.map_nil]); first | done | rfl | (simp only [List.length_drop, List.length_take]; rfl)) ?_; (with_reducible refine (wimplelaw0_Num.calls t299 t301 _ A31.out).mono ?_); rintro e w' ⟨rfl, ⟨nd, rfl⟩⟩; refine ⟨_, rfl, ?_⟩))
                go_ret
                exact ⟨by first | rfl | (simp [errW_none, errW_some] <;> rfl) | (simp only [← hji33]; first | rfl | (simp [errW_none, errW_some] <;> rfl)) | (simp [*, errW_none, errW_some] <;> rfl), by repeat (first | (with_reducible first | exact HB.out | apply below_alloc | apply pw_below_drewN | apply below_drew1 | refine below_set ?_ GE300.out) | exact HB.out)⟩
               ·rw [if_neg c39] at H
                have c39b0 : decide ((wrap64 (x15_3 - x14_3)) ≤ 1) = false := decide_eq_false c39
                clear c39
                obtain rfl := Option.some.inj H
                go_wp2_with (first | ((with_reducible refine gate_callee (f := 12) rfl ?_); refine goesL_ (some 97) rfl rfl Try.func12 (by kernel_rfl) rfl #[.agg #[.string x10_2, .int .i64 9, .string (⟨#[]⟩ : ByteArray), .string (⟨#[0]⟩ : ByteArray), .int .i64 0, .bool false, .int .i64 0, .int .i64 0], .int .i64 (wrap64 (1 + (Go.bits .and .i64 a1 15))), .int .i64 (Go.bits .and .i64 a2 7)] rfl (by (try simp only [List.map_toArray, List.map_cons, List.map_nil]); first | done | rfl | (simp only [List.length_drop, List.length_take]; rfl)) ?_; (with_reducible refine (qmin_Next.calls kj10 x10_2 9 (⟨#[]⟩ : ByteArray) (⟨#[0]⟩ : ByteArray) 0 false 0 0 (wrap64 (1 + (Go.bits .and .i64 a1 15))) (Go.bits .and .i64 a2 7) t297 t298 t299 _ A30.out).mono ?_); rintro e w43 ⟨rfl, hb⟩; refine ⟨_, rfl, ?_⟩; have n0_ := Aside0.mk (below_step (by repeat (first | (with_reducible first | exact HB.out | apply below_alloc | apply pw_below_drewN | apply below_drew1) | exact HB.out)) hb); clear HB; have HB := n0_; clear n0_; (try clear hb); (try clear hb2); (try clear hk); (try clear hi)) | ((with_reducible refine gate_dst (N := 18) rfl ?_); (try (refine gate_guard (by rfl) ?_; dsimp only)); refine box_event ?hg (N := 18) ?hd (cs := #[.string (⟨#[]⟩ : ByteArray), .int .i64 0]) (t := 30) ?hr ?_; (case hd => rfl); (case hg => rfl); (case hr => first | (go_simp; done) | (go_simp; rfl)); intro gb300 hg w44 hbox hb; have n0_ := Aside0.mk (below_step (by repeat (first | (with_reducible first | exact HB.out | apply below_alloc | apply pw_below_drewN | apply below_drew1) | exact HB.out)) hb); have n1_ := Aside0.mk (hbox); have n2_ := Aside0.mk ((by rw [hg]; exact (below_size (by repeat (first | (with_reducible first | exact HB.out | apply below_alloc | apply pw_below_drewN | apply below_drew1) | exact HB.out))) : w.heap.size ≤ gb300)); have n3_ := Aside0.mk ((by rw [hg]; exact (below_size (by repeat (first | (with_reducible first | exact HB.out | apply below_alloc | apply pw_below_drewN | apply below_drew1) | exact HB.out))) : w.heap.size ≤ gb300)); clear HB; have HB := n0_; have BK300 := n1_; have GW300 := n2_; have GE300 := n3_; clear n0_ n1_ n2_ n3_; clear hb hbox hg; have hcz45_0 : w44.cell? ⟨gb300, 0, none⟩ = some (.string (⟨#[]⟩ : ByteArray)) := (blk_cell BK300.out 0).trans rfl; have hcz45_1 : w44.cell? ⟨gb300, 1, none⟩ = some (.int .i64 0) := (blk_cell BK300.out 1).trans rfl; have hfz45_0 := blk_frozen BK300.out 0; have hfz45_1 := blk_frozen BK300.out 1) | ((with_reducible refine gate_callee (f := 14) rfl ?_); refine goesL_ (some 101) rfl rfl Try.func14 (by kernel_rfl) rfl #[.int .i64 t299] rfl (by (try simp only [List.map_toArray, List.map_cons, List.map_nil]); first | done | rfl | (simp only [List.length_drop, List.length_take]; rfl)) ?_; (with_reducible refine (wimplelaw0_Num.calls t299 t301 _ A31.out).mono ?_); rintro e w' ⟨rfl, ⟨nd, rfl⟩⟩; refine ⟨_, rfl, ?_⟩))
                go_ret
                exact ⟨by first | rfl | (simp [errW_none, errW_some] <;> rfl) | (simp only [← hji33]; first | rfl | (simp [errW_none, errW_some] <;> rfl)) | (simp [*, errW_none, errW_some] <;> rfl), by repeat (first | (with_reducible first | exact HB.out | apply below_alloc | apply pw_below_drewN | apply below_drew1 | refine below_set ?_ GE300.out) | exact HB.out)⟩
             ·rw [if_neg c34] at H
              have c34b0 : decide (x13_3 ≤ (wrap64 ((ji33) + 1))) = false := decide_eq_false c34
              clear c34
              obtain rfl := Option.some.inj H
              go_wp2_with (first | ((with_reducible refine gate_callee (f := 12) rfl ?_); refine goesL_ (some 97) rfl rfl Try.func12 (by kernel_rfl) rfl #[.agg #[.string x10_2, .int .i64 9, .string (⟨#[]⟩ : ByteArray), .string (⟨#[0]⟩ : ByteArray), .int .i64 0, .bool false, .int .i64 0, .int .i64 0], .int .i64 (wrap64 (1 + (Go.bits .and .i64 a1 15))), .int .i64 (Go.bits .and .i64 a2 7)] rfl (by (try simp only [List.map_toArray, List.map_cons, List.map_nil]); first | done | rfl | (simp only [List.length_drop, List.length_take]; rfl)) ?_; (with_reducible refine (qmin_Next.calls kj10 x10_2 9 (⟨#[]⟩ : ByteArray) (⟨#[0]⟩ : ByteArray) 0 false 0 0 (wrap64 (1 + (Go.bits .and .i64 a1 15))) (Go.bits .and .i64 a2 7) t297 t298 t299 _ A30.out).mono ?_); rintro e w46 ⟨rfl, hb⟩; refine ⟨_, rfl, ?_⟩; have n0_ := Aside0.mk (below_step (by repeat (first | (with_reducible first | exact HB.out | apply below_alloc | apply pw_below_drewN | apply below_drew1) | exact HB.out)) hb); clear HB; have HB := n0_; clear n0_; (try clear hb); (try clear hb2); (try clear hk); (try clear hi)) | ((with_reducible refine gate_dst (N := 18) rfl ?_); (try (refine gate_guard (by rfl) ?_; dsimp only)); refine box_event ?hg (N := 18) ?hd (cs := #[.string (⟨#[]⟩ : ByteArray), .int .i64 0]) (t := 30) ?hr ?_; (case hd => rfl); (case hg => rfl); (case hr => first | (go_simp; done) | (go_simp; rfl)); intro gb300 hg w47 hbox hb; have n0_ := Aside0.mk (below_step (by repeat (first | (with_reducible first | exact HB.out | apply below_alloc | apply pw_below_drewN | apply below_drew1) | exact HB.out)) hb); have n1_ := Aside0.mk (hbox); have n2_ := Aside0.mk ((by rw [hg]; exact (below_size (by repeat (first | (with_reducible first | exact HB.out | apply below_alloc | apply pw_below_drewN | apply below_drew1) | exact HB.out))) : w.heap.size ≤ gb300)); have n3_ := Aside0.mk ((by rw [hg]; exact (below_size (by repeat (first | (with_reducible first | exact HB.out | apply below_alloc | apply pw_below_drewN | apply below_drew1) | exact HB.out))) : w.heap.size ≤ gb300)); clear HB; have HB := n0_; have BK300 := n1_; have GW300 := n2_; have GE300 := n3_; clear n0_ n1_ n2_ n3_; clear hb hbox hg; have hcz48_0 : w47.cell? ⟨gb300, 0, none⟩ = some (.string (⟨#[]⟩ : ByteArray)) := (blk_cell BK300.out 0).trans rfl; have hcz48_1 : w47.cell? ⟨gb300, 1, none⟩ = some (.int .i64 0) := (blk_cell BK300.out 1).trans rfl; have hfz48_0 := blk_frozen BK300.out 0; have hfz48_1 := blk_frozen BK300.out 1) | ((with_reducible refine gate_callee (f := 14) rfl ?_); refine goesL_ (some 101) rfl rfl Try.func14 (by kernel_rfl) rfl #[.int .i64 t299] rfl (by (try simp only [List.map_toArray, List.map_cons, List.map_nil]); first | done | rfl | (simp only [List.length_drop, List.length_take]; rfl)) ?_; (with_reducible refine (wimplelaw0_Num.calls t299 t301 _ A31.out).mono ?_); rintro e w' ⟨rfl, ⟨nd, rfl⟩⟩; refine ⟨_, rfl, ?_⟩))
              go_ret
              exact ⟨by first | rfl | (simp [errW_none, errW_some] <;> rfl) | (simp only [← hji33]; first | rfl | (simp [errW_none, errW_some] <;> rfl)) | (simp [*, errW_none, errW_some] <;> rfl), by repeat (first | (with_reducible first | exact HB.out | apply below_alloc | apply pw_below_drewN | apply below_drew1 | refine below_set ?_ GE300.out) | exact HB.out)⟩
            ·rw [if_neg c32] at H
             have c32b0 : (t301 == 0) = false := beq_eq_false_iff_ne.mpr c32
             have c32b1 : (t301 != 0) = true := bne_iff_ne.mpr c32
             obtain rfl := Option.some.inj H
             go_wp2_with (first | ((with_reducible refine gate_callee (f := 12) rfl ?_); refine goesL_ (some 97) rfl rfl Try.func12 (by kernel_rfl) rfl #[.agg #[.string x10_2, .int .i64 9, .string (⟨#[]⟩ : ByteArray), .string (⟨#[0]⟩ : ByteArray), .int .i64 0, .bool false, .int .i64 0, .int .i64 0], .int .i64 (wrap64 (1 + (Go.bits .and .i64 a1 15))), .int .i64 (Go.bits .and .i64 a2 7)] rfl (by (try simp only [List.map_toArray, List.map_cons, List.map_nil]); first | done | rfl | (simp only [List.length_drop, List.length_take]; rfl)) ?_; (with_reducible refine (qmin_Next.calls kj10 x10_2 9 (⟨#[]⟩ : ByteArray) (⟨#[0]⟩ : ByteArray) 0 false 0 0 (wrap64 (1 + (Go.bits .and .i64 a1 15))) (Go.bits .and .i64 a2 7) t297 t298 t299 _ A30.out).mono ?_); rintro e w49 ⟨rfl, hb⟩; refine ⟨_, rfl, ?_⟩; have n0_ := Aside0.mk (below_step (by repeat (first | (with_reducible first | exact HB.out | apply below_alloc | apply pw_below_drewN | apply below_drew1) | exact HB.out)) hb); clear HB; have HB := n0_; clear n0_; (try clear hb); (try clear hb2); (try clear hk); (try clear hi)) | ((with_reducible refine gate_dst (N := 18) rfl ?_); (try (refine gate_guard (by rfl) ?_; dsimp only)); refine box_event ?hg (N := 18) ?hd (cs := #[.string (⟨#[]⟩ : ByteArray), .int .i64 0]) (t := 30) ?hr ?_; (case hd => rfl); (case hg => rfl); (case hr => first | (go_simp; done) | (go_simp; rfl)); intro gb300 hg w50 hbox hb; have n0_ := Aside0.mk (below_step (by repeat (first | (with_reducible first | exact HB.out | apply below_alloc | apply pw_below_drewN | apply below_drew1) | exact HB.out)) hb); have n1_ := Aside0.mk (hbox); have n2_ := Aside0.mk ((by rw [hg]; exact (below_size (by repeat (first | (with_reducible first | exact HB.out | apply below_alloc | apply pw_below_drewN | apply below_drew1) | exact HB.out))) : w.heap.size ≤ gb300)); have n3_ := Aside0.mk ((by rw [hg]; exact (below_size (by repeat (first | (with_reducible first | exact HB.out | apply below_alloc | apply pw_below_drewN | apply below_drew1) | exact HB.out))) : w.heap.size ≤ gb300)); clear HB; have HB := n0_; have BK300 := n1_; have GW300 := n2_; have GE300 := n3_; clear n0_ n1_ n2_ n3_; clear hb hbox hg; have hcz51_0 : w50.cell? ⟨gb300, 0, none⟩ = some (.string (⟨#[]⟩ : ByteArray)) := (blk_cell BK300.out 0).trans rfl; have hcz51_1 : w50.cell? ⟨gb300, 1, none⟩ = some (.int .i64 0) := (blk_cell BK300.out 1).trans rfl; have hfz51_0 := blk_frozen BK300.out 0; have hfz51_1 := blk_frozen BK300.out 1) | ((with_reducible refine gate_callee (f := 14) rfl ?_); refine goesL_ (some 101) rfl rfl Try.func14 (by kernel_rfl) rfl #[.int .i64 t299] rfl (by (try simp only [List.map_toArray, List.map_cons, List.map_nil]); first | done | rfl | (simp only [List.length_drop, List.length_take]; rfl)) ?_; (with_reducible refine (wimplelaw0_Num.calls t299 t301 _ A31.out).mono ?_); rintro e w' ⟨rfl, ⟨nd, rfl⟩⟩; refine ⟨_, rfl, ?_⟩))
             go_ret
             exact ⟨by first | rfl | (simp [errW_none, errW_some] <;> rfl) | (simp [*, errW_none, errW_some] <;> rfl), by repeat (first | (with_reducible first | exact HB.out | apply below_alloc | apply pw_below_drewN | apply below_drew1 | refine below_set ?_ GE300.out) | exact HB.out)⟩
 ·replace c5 := Bool.eq_false_iff.mpr c5
  subst c5
  have H1 : (some false) = some r := by rw [if_neg (show ¬ (false = true) by decide)] at H; exact H
  clear H
  have H := H1
  clear H1
  obtain rfl := Option.some.inj H
  go_enter Try.func9, Try.ntmps9
  try simp only [List.append_eq, List.cons_append, List.nil_append]
  go_wp2_with (first | ((with_reducible refine gate_callee (f := 15) rfl ?_); refine goesL_ (some 20) rfl rfl Try.func15 (by kernel_rfl) rfl #[] rfl (by (try simp only [List.map_toArray, List.map_cons, List.map_nil]); first | done | rfl | (simp only [List.length_drop, List.length_take]; rfl)) ?_; (with_reducible refine (wimplelaw17_awake.calls k  false _ A4.out).mono ?_); rintro e w52 ⟨rfl, hb⟩; refine ⟨_, rfl, ?_⟩; have n0_ := Aside0.mk (below_step (by repeat (first | (with_reducible first | exact HB.out | apply below_alloc | apply pw_below_drewN | apply below_drew1) | exact HB.out)) hb); clear HB; have HB := n0_; clear n0_; (try clear hb); (try clear hb2); (try clear hk); (try clear hi)))
  go_ret
  exact ⟨by first | rfl | (simp [errW_none, errW_some] <;> rfl) | (simp [*, errW_none, errW_some] <;> rfl), by repeat (first | (with_reducible first | exact HB.out | apply below_alloc | apply pw_below_drewN | apply below_drew1) | exact HB.out)⟩

/-- THE ONE PURE STATEMENT of wimplelaw17_QminLong: yours. -/
def wimplelaw17_QminLong.Pure : Prop := ∀ (a0 : Int) (a1 : Int) (a2 : Int), (Lit.int .i64 a0).wf = true → (Lit.int .i64 a1).wf = true → (Lit.int .i64 a2).wf = true → ∃ k, wimplelaw17_QminLong.f k a0 a1 a2 = some true
theorem wimplelaw17_QminLong.walk (P : wimplelaw17_QminLong.Pure) (a0 : Int) (a1 : Int) (a2 : Int) (w : World) (w0 : (Lit.int .i64 a0).wf = true) (w1 : (Lit.int .i64 a1).wf = true) (w2 : (Lit.int .i64 a2).wf = true) :
  Calls Try.prog 9 #[.int .i64 a0, .int .i64 a1, .int .i64 a2] w fun e w' => e = .returned (.bool true) ∧ Below w.heap.size w w' := by
 obtain ⟨k, h⟩ := P a0 a1 a2 w0 w1 w2
 refine (wimplelaw17_QminLong.calls k a0 a1 a2 true w h).mono ?_
 rintro e w' ⟨rfl, hd⟩
 exact ⟨rfl, hd⟩

end Go.Proofs.Ytbcflinledkgjaa.P
