-- Written by a program of this session's prover (over the kit's printer, with contracts of the session's own); Lean checks it.
import Derived.Test.YtbcflinledkgjaaPx0
import Derived.Test.YtbcflinledkgjaaPx10
import Derived.Test.YtbcflinledkgjaaPx12
import Derived.Test.YtbcflinledkgjaaPx13
import Derived.Test.YtbcflinledkgjaaPx14
import Derived.Test.YtbcflinledkgjaaPx16
namespace Go.Proofs.Ytbcflinledkgjaa.P
open Go.RowKit Go.Proofs.YtbcflinledkgjaaW.PrintWords Go.Proofs.YtbcflinledkgjaaW.PrintLast Go.Proofs.YtbcflinledkgjaaW.PrintMore
attribute [local go_sem] max2_int min2_int max_two min_two max_three min_three max_four min_four   -- for this text's walks alone
set_option linter.unusedVariables false
set_option linter.unusedSimpArgs false

/-! ### wimplelaw17_QminWalk: function 5 -/
mutual
def wimplelaw17_QminWalk.l0 : Nat → ByteArray → Int → Int → Int → Int → Int → ByteArray → Int → ByteArray → ByteArray → Int → Bool → Int → Int → Option (Bool)
 | 0, _, _, _, _, _, _, _, _, _, _, _, _, _, _ => none
 | k + 1, x0, x9, x10, x11, x12, x16, x245000, x245001, x245002, x245003, x245004, x245005, x245006, x245007 => (qmin_Next.f k x245000 x245001 x245002 x245003 x245004 x245005 x245006 x245007 x10 x11).bind fun bt245 => ((wimplelaw0_Num.f bt245.2.2).bind fun t249 => (if t249 = 0 then (wimplelaw17_QminWalk.j1 k x0 x9 x10 x11 x12 x16 (decide (x16 > x9)) x245000 x245001 x245002 x245003 x245004 x245005 x245006 x245007 bt245.1 bt245.2.1) else (wimplelaw17_QminWalk.j1 k x0 x9 x10 x11 x12 x16 true x245000 x245001 x245002 x245003 x245004 x245005 x245006 x245007 bt245.1 bt245.2.1)))
def wimplelaw17_QminWalk.j1 : Nat → ByteArray → Int → Int → Int → Int → Int → Bool → ByteArray → Int → ByteArray → ByteArray → Int → Bool → Int → Int → ByteArray → Int → Option (Bool)
 | 0, _, _, _, _, _, _, _, _, _, _, _, _, _, _, _, _, _ => none
 | k + 1, x0, x9, x10, x11, x12, x16, x63, x245000, x245001, x245002, x245003, x245004, x245005, x245006, x245007, x249000, x249001 => if x63 = true then (some false) else ((wimpleref1_Same.f k x249000 x0).bind fun t250 => (if t250 = true then (some (decide (x16 ≤ (mx x10 x11)))) else ((wimpleref1_Count.f k x249000).bind fun t251 => ((wimpleref1_Count.f k x245003).bind fun t252 => (if (wrap64 (t251 - t252)) < 1 then (some false) else (if (wrap64 (x9 - x12)) ≤ x10 then (if (wrap64 (t251 - t252)) = 1 then (wimplelaw17_QminWalk.l0 k x0 x9 x10 x11 x12 (wrap64 (x16 + 1)) x245000 x245001 x245002 x249000 (wrap64 (x245004 + 1)) x245005 x245006 x245007) else (some false)) else (wimplelaw17_QminWalk.l0 k x0 x9 x10 x11 x12 (wrap64 (x16 + 1)) x245000 x245001 x245002 x249000 (wrap64 (x245004 + 1)) x245005 x245006 x245007)))))))
end
def wimplelaw17_QminWalk.f (k : Nat) (a0 : ByteArray) (a1 : Int) (a2 : Int) (a3 : Int) : Option (Bool) := (wimplelaw17_awake.f k).bind fun t238 => (if t238 = true then ((wimpleref1_May.f k a0).bind fun t239 => (if t239 = true then ((wimpleref1_Count.f k a0).bind fun t240 => (if (IntKind.u64.wrap (wrap64 (t240 + 1))) = 0 then (none) else ((wimpleref1_Fold.f k a0).bind fun t241 => ((wimpleref1_Last.f k t241 (wrap64 (Int.tmod (IntKind.u64.wrap (a1)) (IntKind.u64.wrap (wrap64 (t240 + 1)))))).bind fun bt242 => (wimplelaw17_QminWalk.l0 k a0 t240 (Go.bits .and .i64 a2 15) (Go.bits .and .i64 a3 15) (wrap64 (Int.tmod (IntKind.u64.wrap (a1)) (IntKind.u64.wrap (wrap64 (t240 + 1))))) 0 a0 16 bt242.1 bt242.1 0 false 0 0))))) else (some true))) else (some false))
theorem wimplelaw17_QminWalk.mono_l : ∀ k, (∀ y0 y1 y2 y3 y4 y5 y6 y7 y8 y9 y10 y11 y12 y13, LeO (wimplelaw17_QminWalk.l0 k y0 y1 y2 y3 y4 y5 y6 y7 y8 y9 y10 y11 y12 y13) (wimplelaw17_QminWalk.l0 (k + 1) y0 y1 y2 y3 y4 y5 y6 y7 y8 y9 y10 y11 y12 y13)) ∧ (∀ y0 y1 y2 y3 y4 y5 y6 y7 y8 y9 y10 y11 y12 y13 y14 y15 y16, LeO (wimplelaw17_QminWalk.j1 k y0 y1 y2 y3 y4 y5 y6 y7 y8 y9 y10 y11 y12 y13 y14 y15 y16) (wimplelaw17_QminWalk.j1 (k + 1) y0 y1 y2 y3 y4 y5 y6 y7 y8 y9 y10 y11 y12 y13 y14 y15 y16))
 | 0 => ⟨fun _ _ _ _ _ _ _ _ _ _ _ _ _ _ r h => by simp [wimplelaw17_QminWalk.l0] at h, fun _ _ _ _ _ _ _ _ _ _ _ _ _ _ _ _ _ r h => by simp [wimplelaw17_QminWalk.j1] at h⟩
 | k + 1 => by
  obtain ⟨ih0, ih1⟩ := wimplelaw17_QminWalk.mono_l k
  refine ⟨?_, ?_⟩
  ·intro y0 y1 y2 y3 y4 y5 y6 y7 y8 y9 y10 y11 y12 y13
   unfold wimplelaw17_QminWalk.l0
   repeat' first
   | (with_reducible exact ih0 _ _ _ _ _ _ _ _ _ _ _ _ _ _)
   | (with_reducible exact ih1 _ _ _ _ _ _ _ _ _ _ _ _ _ _ _ _ _)
   | (with_reducible exact qmin_Next.mono _ _ _ _ _ _ _ _ _ _ _)
   | (with_reducible exact wimplelaw17_awake.mono _)
   | (with_reducible exact wimpleref1_Count.mono _ _)
   | (with_reducible exact wimpleref1_Fold.mono _ _)
   | (with_reducible exact wimpleref1_Last.mono _ _ _)
   | (with_reducible exact wimpleref1_May.mono _ _)
   | (with_reducible exact wimpleref1_Same.mono _ _ _)
   | (with_reducible exact LeO.refl _)
   | (with_reducible exact LeO.none _)
   | (with_reducible refine LeO.ite ?_ ?_)
   | (with_reducible refine LeO.bind ?_ (fun _ => ?_))
   | exact ih0 _ _ _ _ _ _ _ _ _ _ _ _ _ _
   | exact ih1 _ _ _ _ _ _ _ _ _ _ _ _ _ _ _ _ _
   | exact qmin_Next.mono _ _ _ _ _ _ _ _ _ _ _
   | exact wimplelaw17_awake.mono _
   | exact wimpleref1_Count.mono _ _
   | exact wimpleref1_Fold.mono _ _
   | exact wimpleref1_Last.mono _ _ _
   | exact wimpleref1_May.mono _ _
   | exact wimpleref1_Same.mono _ _ _
   | exact LeO.none _
   | refine LeO.ite ?_ ?_
   | refine LeO.bind ?_ (fun _ => ?_)
  ·intro y0 y1 y2 y3 y4 y5 y6 y7 y8 y9 y10 y11 y12 y13 y14 y15 y16
   unfold wimplelaw17_QminWalk.j1
   repeat' first
   | (with_reducible exact ih0 _ _ _ _ _ _ _ _ _ _ _ _ _ _)
   | (with_reducible exact ih1 _ _ _ _ _ _ _ _ _ _ _ _ _ _ _ _ _)
   | (with_reducible exact qmin_Next.mono _ _ _ _ _ _ _ _ _ _ _)
   | (with_reducible exact wimplelaw17_awake.mono _)
   | (with_reducible exact wimpleref1_Count.mono _ _)
   | (with_reducible exact wimpleref1_Fold.mono _ _)
   | (with_reducible exact wimpleref1_Last.mono _ _ _)
   | (with_reducible exact wimpleref1_May.mono _ _)
   | (with_reducible exact wimpleref1_Same.mono _ _ _)
   | (with_reducible exact LeO.refl _)
   | (with_reducible exact LeO.none _)
   | (with_reducible refine LeO.ite ?_ ?_)
   | (with_reducible refine LeO.bind ?_ (fun _ => ?_))
   | exact ih0 _ _ _ _ _ _ _ _ _ _ _ _ _ _
   | exact ih1 _ _ _ _ _ _ _ _ _ _ _ _ _ _ _ _ _
   | exact qmin_Next.mono _ _ _ _ _ _ _ _ _ _ _
   | exact wimplelaw17_awake.mono _
   | exact wimpleref1_Count.mono _ _
   | exact wimpleref1_Fold.mono _ _
   | exact wimpleref1_Last.mono _ _ _
   | exact wimpleref1_May.mono _ _
   | exact wimpleref1_Same.mono _ _ _
   | exact LeO.none _
   | refine LeO.ite ?_ ?_
   | refine LeO.bind ?_ (fun _ => ?_)
theorem wimplelaw17_QminWalk.mono : ∀ a0 a1 a2 a3 k, LeO (wimplelaw17_QminWalk.f k a0 a1 a2 a3) (wimplelaw17_QminWalk.f (k + 1) a0 a1 a2 a3) := by
 intro a0 a1 a2 a3 k
 obtain ⟨ih0, ih1⟩ := wimplelaw17_QminWalk.mono_l k
 unfold wimplelaw17_QminWalk.f
 repeat' first
   | (with_reducible exact ih0 _ _ _ _ _ _ _ _ _ _ _ _ _ _)
   | (with_reducible exact ih1 _ _ _ _ _ _ _ _ _ _ _ _ _ _ _ _ _)
   | (with_reducible exact qmin_Next.mono _ _ _ _ _ _ _ _ _ _ _)
   | (with_reducible exact wimplelaw17_awake.mono _)
   | (with_reducible exact wimpleref1_Count.mono _ _)
   | (with_reducible exact wimpleref1_Fold.mono _ _)
   | (with_reducible exact wimpleref1_Last.mono _ _ _)
   | (with_reducible exact wimpleref1_May.mono _ _)
   | (with_reducible exact wimpleref1_Same.mono _ _ _)
   | (with_reducible exact LeO.refl _)
   | (with_reducible exact LeO.none _)
   | (with_reducible refine LeO.ite ?_ ?_)
   | (with_reducible refine LeO.bind ?_ (fun _ => ?_))
   | exact ih0 _ _ _ _ _ _ _ _ _ _ _ _ _ _
   | exact ih1 _ _ _ _ _ _ _ _ _ _ _ _ _ _ _ _ _
   | exact qmin_Next.mono _ _ _ _ _ _ _ _ _ _ _
   | exact wimplelaw17_awake.mono _
   | exact wimpleref1_Count.mono _ _
   | exact wimpleref1_Fold.mono _ _
   | exact wimpleref1_Last.mono _ _ _
   | exact wimpleref1_May.mono _ _
   | exact wimpleref1_Same.mono _ _ _
   | exact LeO.none _
   | refine LeO.ite ?_ ?_
   | refine LeO.bind ?_ (fun _ => ?_)
def wimplelaw17_QminWalk.T15 : Bool × List (List Nat × List Nat) := (true, [([], []), ([0], [0]), ([1], [1]), ([], []), ([3], [3]), ([4, 2], [4]), ([2, 5], [2, 5]), ([6, 5, 0, 1, 2, 3, 4, 5, 6], [6])])
def wimplelaw17_QminWalk.B15 : List Nat := [0, 1, 3, 0, 8, 31, 63, 127]
theorem wimplelaw17_QminWalk.tab15 : rtab .any (opsOf Try.f5 15) = wimplelaw17_QminWalk.T15 := by kernel_rfl
theorem wimplelaw17_QminWalk.bits15 : waitsOk wimplelaw17_QminWalk.T15.2 wimplelaw17_QminWalk.B15 = true := by kernel_rfl
set_option maxHeartbeats 8000000 in
set_option maxRecDepth 100000 in
theorem wimplelaw17_QminWalk.calls (k : Nat) (a0 : ByteArray) (a1 : Int) (a2 : Int) (a3 : Int) (r : Bool) (w : World) (h : wimplelaw17_QminWalk.f k a0 a1 a2 a3 = some r) :
  Calls Try.prog 5 #[.string a0, .int .i64 a1, .int .i64 a2, .int .i64 a3] w fun e w' => e = .returned (.bool r) ∧ Below w.heap.size w w' := by
 have hu23 := Try.underlying23
 have hu30 := Try.underlying30
 have HB := Aside0.mk (Below.refl w.heap.size w)
 have H : ((wimplelaw17_awake.f k).bind fun t238 => (if t238 = true then ((wimpleref1_May.f k a0).bind fun t239 => (if t239 = true then ((wimpleref1_Count.f k a0).bind fun t240 => (if (IntKind.u64.wrap (wrap64 (t240 + 1))) = 0 then (none) else ((wimpleref1_Fold.f k a0).bind fun t241 => ((wimpleref1_Last.f k t241 (wrap64 (Int.tmod (IntKind.u64.wrap (a1)) (IntKind.u64.wrap (wrap64 (t240 + 1)))))).bind fun bt242 => (wimplelaw17_QminWalk.l0 k a0 t240 (Go.bits .and .i64 a2 15) (Go.bits .and .i64 a3 15) (wrap64 (Int.tmod (IntKind.u64.wrap (a1)) (IntKind.u64.wrap (wrap64 (t240 + 1))))) 0 a0 16 bt242.1 bt242.1 0 false 0 0))))) else (some true))) else (some false))) = some r := h
 clear h
 replace H := Option.bind_eq_some_iff.mp H
 obtain ⟨t238, A50, H⟩ := H
 replace H : (if t238 = true then ((wimpleref1_May.f k a0).bind fun t239 => (if t239 = true then ((wimpleref1_Count.f k a0).bind fun t240 => (if (IntKind.u64.wrap (wrap64 (t240 + 1))) = 0 then (none) else ((wimpleref1_Fold.f k a0).bind fun t241 => ((wimpleref1_Last.f k t241 (wrap64 (Int.tmod (IntKind.u64.wrap (a1)) (IntKind.u64.wrap (wrap64 (t240 + 1)))))).bind fun bt242 => (wimplelaw17_QminWalk.l0 k a0 t240 (Go.bits .and .i64 a2 15) (Go.bits .and .i64 a3 15) (wrap64 (Int.tmod (IntKind.u64.wrap (a1)) (IntKind.u64.wrap (wrap64 (t240 + 1))))) 0 a0 16 bt242.1 bt242.1 0 false 0 0))))) else (some true))) else (some false)) = some r := H
 have A5 := Aside0.mk A50
 clear A50
 by_cases c6 : t238 = true
 ·subst c6
  have H1 : ((wimpleref1_May.f k a0).bind fun t239 => (if t239 = true then ((wimpleref1_Count.f k a0).bind fun t240 => (if (IntKind.u64.wrap (wrap64 (t240 + 1))) = 0 then (none) else ((wimpleref1_Fold.f k a0).bind fun t241 => ((wimpleref1_Last.f k t241 (wrap64 (Int.tmod (IntKind.u64.wrap (a1)) (IntKind.u64.wrap (wrap64 (t240 + 1)))))).bind fun bt242 => (wimplelaw17_QminWalk.l0 k a0 t240 (Go.bits .and .i64 a2 15) (Go.bits .and .i64 a3 15) (wrap64 (Int.tmod (IntKind.u64.wrap (a1)) (IntKind.u64.wrap (wrap64 (t240 + 1))))) 0 a0 16 bt242.1 bt242.1 0 false 0 0))))) else (some true))) = some r := by rw [if_pos rfl] at H; exact H
  clear H
  have H := H1
  clear H1
  replace H := Option.bind_eq_some_iff.mp H
  obtain ⟨t239, A70, H⟩ := H
  replace H : (if t239 = true then ((wimpleref1_Count.f k a0).bind fun t240 => (if (IntKind.u64.wrap (wrap64 (t240 + 1))) = 0 then (none) else ((wimpleref1_Fold.f k a0).bind fun t241 => ((wimpleref1_Last.f k t241 (wrap64 (Int.tmod (IntKind.u64.wrap (a1)) (IntKind.u64.wrap (wrap64 (t240 + 1)))))).bind fun bt242 => (wimplelaw17_QminWalk.l0 k a0 t240 (Go.bits .and .i64 a2 15) (Go.bits .and .i64 a3 15) (wrap64 (Int.tmod (IntKind.u64.wrap (a1)) (IntKind.u64.wrap (wrap64 (t240 + 1))))) 0 a0 16 bt242.1 bt242.1 0 false 0 0))))) else (some true)) = some r := H
  have A7 := Aside0.mk A70
  clear A70
  by_cases c8 : t239 = true
  ·subst c8
   have H1 : ((wimpleref1_Count.f k a0).bind fun t240 => (if (IntKind.u64.wrap (wrap64 (t240 + 1))) = 0 then (none) else ((wimpleref1_Fold.f k a0).bind fun t241 => ((wimpleref1_Last.f k t241 (wrap64 (Int.tmod (IntKind.u64.wrap (a1)) (IntKind.u64.wrap (wrap64 (t240 + 1)))))).bind fun bt242 => (wimplelaw17_QminWalk.l0 k a0 t240 (Go.bits .and .i64 a2 15) (Go.bits .and .i64 a3 15) (wrap64 (Int.tmod (IntKind.u64.wrap (a1)) (IntKind.u64.wrap (wrap64 (t240 + 1))))) 0 a0 16 bt242.1 bt242.1 0 false 0 0))))) = some r := by rw [if_pos rfl] at H; exact H
   clear H
   have H := H1
   clear H1
   replace H := Option.bind_eq_some_iff.mp H
   obtain ⟨t240, A90, H⟩ := H
   replace H : (if (IntKind.u64.wrap (wrap64 (t240 + 1))) = 0 then (none) else ((wimpleref1_Fold.f k a0).bind fun t241 => ((wimpleref1_Last.f k t241 (wrap64 (Int.tmod (IntKind.u64.wrap (a1)) (IntKind.u64.wrap (wrap64 (t240 + 1)))))).bind fun bt242 => (wimplelaw17_QminWalk.l0 k a0 t240 (Go.bits .and .i64 a2 15) (Go.bits .and .i64 a3 15) (wrap64 (Int.tmod (IntKind.u64.wrap (a1)) (IntKind.u64.wrap (wrap64 (t240 + 1))))) 0 a0 16 bt242.1 bt242.1 0 false 0 0)))) = some r := H
   have A9 := Aside0.mk A90
   clear A90
   by_cases c10 : (IntKind.u64.wrap (wrap64 (t240 + 1))) = 0
   ·rw [if_pos c10] at H
    exact absurd H (by simp)
   ·rw [if_neg c10] at H
    have c10b0 : ((IntKind.u64.wrap (wrap64 (t240 + 1))) == 0) = false := beq_eq_false_iff_ne.mpr c10
    have c10b1 : ((IntKind.u64.wrap (wrap64 (t240 + 1))) != 0) = true := bne_iff_ne.mpr c10
    replace H := Option.bind_eq_some_iff.mp H
    obtain ⟨t241, A110, H⟩ := H
    replace H : ((wimpleref1_Last.f k t241 (wrap64 (Int.tmod (IntKind.u64.wrap (a1)) (IntKind.u64.wrap (wrap64 (t240 + 1)))))).bind fun bt242 => (wimplelaw17_QminWalk.l0 k a0 t240 (Go.bits .and .i64 a2 15) (Go.bits .and .i64 a3 15) (wrap64 (Int.tmod (IntKind.u64.wrap (a1)) (IntKind.u64.wrap (wrap64 (t240 + 1))))) 0 a0 16 bt242.1 bt242.1 0 false 0 0)) = some r := H
    have A11 := Aside0.mk A110
    clear A110
    replace H := Option.bind_eq_some_iff.mp H
    obtain ⟨⟨t242, t243⟩, A120, H⟩ := H
    replace H : (wimplelaw17_QminWalk.l0 k a0 t240 (Go.bits .and .i64 a2 15) (Go.bits .and .i64 a3 15) (wrap64 (Int.tmod (IntKind.u64.wrap (a1)) (IntKind.u64.wrap (wrap64 (t240 + 1))))) 0 a0 16 t242 t242 0 false 0 0) = some r := H
    have A12 := Aside0.mk A120
    clear A120
    have H' := Aside0.mk H
    clear H
    go_enter Try.func5, Try.ntmps5
    try simp only [List.append_eq, List.cons_append, List.nil_append]
    go_wp2_with (first | ((with_reducible refine gate_callee (f := 15) rfl ?_); refine goesL_ (some 20) rfl rfl Try.func15 (by kernel_rfl) rfl #[] rfl (by (try simp only [List.map_toArray, List.map_cons, List.map_nil]); first | done | rfl | (simp only [List.length_drop, List.length_take]; rfl)) ?_; (with_reducible refine (wimplelaw17_awake.calls k  true _ A5.out).mono ?_); rintro e w13 ⟨rfl, hb⟩; refine ⟨_, rfl, ?_⟩; have n0_ := Aside0.mk (below_step (by repeat (first | (with_reducible first | exact HB.out | apply below_alloc | apply pw_below_drewN | apply below_drew1) | exact HB.out)) hb); clear HB; have HB := n0_; clear n0_; (try clear hb); (try clear hb2); (try clear hk); (try clear hi)) | ((with_reducible refine gate_callee (f := 20) rfl ?_); refine goesL_ (some 23) rfl rfl Try.func20 (by kernel_rfl) rfl #[.string a0] rfl (by (try simp only [List.map_toArray, List.map_cons, List.map_nil]); first | done | rfl | (simp only [List.length_drop, List.length_take]; rfl)) ?_; (with_reducible refine (wimpleref1_May.calls k a0 true _ A7.out).mono ?_); rintro e w14 ⟨rfl, hb⟩; refine ⟨_, rfl, ?_⟩; have n0_ := Aside0.mk (below_step (by repeat (first | (with_reducible first | exact HB.out | apply below_alloc | apply pw_below_drewN | apply below_drew1) | exact HB.out)) hb); clear HB; have HB := n0_; clear n0_; (try clear hb); (try clear hb2); (try clear hk); (try clear hi)) | ((with_reducible refine gate_callee (f := 19) rfl ?_); refine goesL_ (some 26) rfl rfl Try.func19 (by kernel_rfl) rfl #[.string a0] rfl (by (try simp only [List.map_toArray, List.map_cons, List.map_nil]); first | done | rfl | (simp only [List.length_drop, List.length_take]; rfl)) ?_; (with_reducible refine (wimpleref1_Count.calls k a0 t240 _ A9.out).mono ?_); rintro e w15 ⟨rfl, hb⟩; refine ⟨_, rfl, ?_⟩; have n0_ := Aside0.mk (below_step (by repeat (first | (with_reducible first | exact HB.out | apply below_alloc | apply pw_below_drewN | apply below_drew1) | exact HB.out)) hb); clear HB; have HB := n0_; clear n0_; (try clear hb); (try clear hb2); (try clear hk); (try clear hi)) | ((with_reducible refine gate_callee (f := 17) rfl ?_); refine goesL_ (some 40) rfl rfl Try.func17 (by kernel_rfl) rfl #[.string a0] rfl (by (try simp only [List.map_toArray, List.map_cons, List.map_nil]); first | done | rfl | (simp only [List.length_drop, List.length_take]; rfl)) ?_; (with_reducible refine (wimpleref1_Fold.calls k a0 t241 _ A11.out).mono ?_); rintro e w16 ⟨rfl, hb⟩; refine ⟨_, rfl, ?_⟩; have n0_ := Aside0.mk (below_step (by repeat (first | (with_reducible first | exact HB.out | apply below_alloc | apply pw_below_drewN | apply below_drew1) | exact HB.out)) hb); clear HB; have HB := n0_; clear n0_; (try clear hb); (try clear hb2); (try clear hk); (try clear hi)) | ((with_reducible refine gate_callee (f := 21) rfl ?_); refine goesL_ (some 42) rfl rfl Try.func21 (by kernel_rfl) rfl #[.string t241, .int .i64 (wrap64 (Int.tmod (IntKind.u64.wrap (a1)) (IntKind.u64.wrap (wrap64 (t240 + 1)))))] rfl (by (try simp only [List.map_toArray, List.map_cons, List.map_nil]); first | done | rfl | (simp only [List.length_drop, List.length_take]; rfl)) ?_; (with_reducible refine (wimpleref1_Last.calls k t241 (wrap64 (Int.tmod (IntKind.u64.wrap (a1)) (IntKind.u64.wrap (wrap64 (t240 + 1))))) t242 t243 _ A12.out).mono ?_); rintro e w17 ⟨rfl, hb⟩; refine ⟨_, rfl, ?_⟩; have n0_ := Aside0.mk (below_step (by repeat (first | (with_reducible first | exact HB.out | apply below_alloc | apply pw_below_drewN | apply below_drew1) | exact HB.out)) hb); clear HB; have HB := n0_; clear n0_; (try clear hb); (try clear hb2); (try clear hk); (try clear hi)) | ((with_reducible refine gate_dst (N := 15) rfl ?_); refine box_event ?hg (N := 15) ?hd (cs := #[.string (⟨#[]⟩ : ByteArray), .int .i64 0, .string (⟨#[]⟩ : ByteArray), .string (⟨#[]⟩ : ByteArray), .int .i64 0, .bool false, .int .i64 0, .int .i64 0]) (t := 23) ?hr ?_; (case hd => rfl); (case hg => rfl); (case hr => first | (go_simp; done) | (go_simp; rfl)); intro gb244 hg w18 hbox hb; have n0_ := Aside0.mk (below_step (by repeat (first | (with_reducible first | exact HB.out | apply below_alloc | apply pw_below_drewN | apply below_drew1) | exact HB.out)) hb); have n1_ := Aside0.mk (hbox); have n2_ := Aside0.mk ((by rw [hg]; exact (below_size (by repeat (first | (with_reducible first | exact HB.out | apply below_alloc | apply pw_below_drewN | apply below_drew1) | exact HB.out))) : w.heap.size ≤ gb244)); have n3_ := Aside0.mk ((by rw [hg]; exact (below_size (by repeat (first | (with_reducible first | exact HB.out | apply below_alloc | apply pw_below_drewN | apply below_drew1) | exact HB.out))) : w.heap.size ≤ gb244)); clear HB; have HB := n0_; have BK244 := n1_; have GW244 := n2_; have GE244 := n3_; clear n0_ n1_ n2_ n3_; clear hb hbox hg; have hcz19_0 : w18.cell? ⟨gb244, 0, none⟩ = some (.string (⟨#[]⟩ : ByteArray)) := (blk_cell BK244.out 0).trans rfl; have hcz19_1 : w18.cell? ⟨gb244, 1, none⟩ = some (.int .i64 0) := (blk_cell BK244.out 1).trans rfl; have hcz19_2 : w18.cell? ⟨gb244, 2, none⟩ = some (.string (⟨#[]⟩ : ByteArray)) := (blk_cell BK244.out 2).trans rfl; have hcz19_3 : w18.cell? ⟨gb244, 3, none⟩ = some (.string (⟨#[]⟩ : ByteArray)) := (blk_cell BK244.out 3).trans rfl; have hcz19_4 : w18.cell? ⟨gb244, 4, none⟩ = some (.int .i64 0) := (blk_cell BK244.out 4).trans rfl; have hcz19_5 : w18.cell? ⟨gb244, 5, none⟩ = some (.bool false) := (blk_cell BK244.out 5).trans rfl; have hcz19_6 : w18.cell? ⟨gb244, 6, none⟩ = some (.int .i64 0) := (blk_cell BK244.out 6).trans rfl; have hcz19_7 : w18.cell? ⟨gb244, 7, none⟩ = some (.int .i64 0) := (blk_cell BK244.out 7).trans rfl; have hfz19_0 := blk_frozen BK244.out 0; have hfz19_1 := blk_frozen BK244.out 1; have hfz19_2 := blk_frozen BK244.out 2; have hfz19_3 := blk_frozen BK244.out 3; have hfz19_4 := blk_frozen BK244.out 4; have hfz19_5 := blk_frozen BK244.out 5; have hfz19_6 := blk_frozen BK244.out 6; have hfz19_7 := blk_frozen BK244.out 7))
    go_loopg [16] k (fun kq v16 w' => ∃ (x16_1 : Int) (x245003_1 : ByteArray) (x245004_1 : Int), v16 = .int .i64 x16_1 ∧ Aside0 (wimplelaw17_QminWalk.l0 kq a0 t240 (Go.bits .and .i64 a2 15) (Go.bits .and .i64 a3 15) (wrap64 (Int.tmod (IntKind.u64.wrap (a1)) (IntKind.u64.wrap (wrap64 (t240 + 1))))) x16_1 a0 16 t242 x245003_1 x245004_1 false 0 0 = some r) ∧ Aside0 (kq ≤ k) ∧ Aside0 (w'.heap[gb244]? = some (.cells #[.string a0, .int .i64 16, .string t242, .string x245003_1, .int .i64 x245004_1, .bool false, .int .i64 0, .int .i64 0] 23 (0, 0))) ∧ Aside0 (Below w.heap.size w w'))
    case atStart => exact ⟨(0), (t242), (0), (by first | rfl | (simp; done) | (simp [*]; done) | (simp [ByteArray.size_append]; exact Iff.rfl)), H', ⟨Nat.le_refl _⟩, ⟨by (with_reducible repeat (first | refine blk_drewN ?_ _ | refine blk_drew ?_ | refine blk_alloc ?_ _)); refine blk_put (cs := #[.string a0, .int .i64 16, .string t242, .string t242, .int .i64 0, .bool false, .int .i64 0, .int .i64 0]) ?_ 7 _ rfl; (with_reducible repeat (first | refine blk_drewN ?_ _ | refine blk_drew ?_ | refine blk_alloc ?_ _)); refine blk_put (cs := #[.string a0, .int .i64 16, .string t242, .string t242, .int .i64 0, .bool false, .int .i64 0, .int .i64 0]) ?_ 6 _ rfl; (with_reducible repeat (first | refine blk_drewN ?_ _ | refine blk_drew ?_ | refine blk_alloc ?_ _)); refine blk_put (cs := #[.string a0, .int .i64 16, .string t242, .string t242, .int .i64 0, .bool false, .int .i64 0, .int .i64 0]) ?_ 5 _ rfl; (with_reducible repeat (first | refine blk_drewN ?_ _ | refine blk_drew ?_ | refine blk_alloc ?_ _)); refine blk_put (cs := #[.string a0, .int .i64 16, .string t242, .string t242, .int .i64 0, .bool false, .int .i64 0, .int .i64 0]) ?_ 4 _ rfl; (with_reducible repeat (first | refine blk_drewN ?_ _ | refine blk_drew ?_ | refine blk_alloc ?_ _)); refine blk_put (cs := #[.string a0, .int .i64 16, .string t242, .string (⟨#[]⟩ : ByteArray), .int .i64 0, .bool false, .int .i64 0, .int .i64 0]) ?_ 3 _ rfl; (with_reducible repeat (first | refine blk_drewN ?_ _ | refine blk_drew ?_ | refine blk_alloc ?_ _)); refine blk_put (cs := #[.string a0, .int .i64 16, .string (⟨#[]⟩ : ByteArray), .string (⟨#[]⟩ : ByteArray), .int .i64 0, .bool false, .int .i64 0, .int .i64 0]) ?_ 2 _ rfl; (with_reducible repeat (first | refine blk_drewN ?_ _ | refine blk_drew ?_ | refine blk_alloc ?_ _)); refine blk_put (cs := #[.string a0, .int .i64 0, .string (⟨#[]⟩ : ByteArray), .string (⟨#[]⟩ : ByteArray), .int .i64 0, .bool false, .int .i64 0, .int .i64 0]) ?_ 1 _ rfl; (with_reducible repeat (first | refine blk_drewN ?_ _ | refine blk_drew ?_ | refine blk_alloc ?_ _)); refine blk_put (cs := #[.string (⟨#[]⟩ : ByteArray), .int .i64 0, .string (⟨#[]⟩ : ByteArray), .string (⟨#[]⟩ : ByteArray), .int .i64 0, .bool false, .int .i64 0, .int .i64 0]) ?_ 0 _ rfl; (with_reducible repeat (first | refine blk_drewN ?_ _ | refine blk_drew ?_ | refine blk_alloc ?_ _)); exact BK244.out⟩, ⟨by repeat (first | (with_reducible first | exact HB.out | apply below_alloc | apply pw_below_drewN | apply below_drew1 | refine below_set ?_ GE244.out) | exact HB.out)⟩⟩
    case round =>
     clear H'
     try clear c1
     try clear c2
     try clear p2
     try clear c5
     try clear c6
     try clear p6
     try clear c8
     try clear c10
     try clear c10b0
     try clear c10b1
     try clear c15
     try clear c17
     try clear c19
     try clear hcz19_0
     try clear hcz19_1
     try clear hcz19_2
     try clear hcz19_3
     try clear hcz19_4
     try clear hcz19_5
     try clear hcz19_6
     try clear hcz19_7
     try clear hfz19_0
     try clear hfz19_1
     try clear hfz19_2
     try clear hfz19_3
     try clear hfz19_4
     try clear hfz19_5
     try clear hfz19_6
     try clear hfz19_7
     obtain ⟨x16_1, x245003_1, x245004_1, rfl, HA, HK1, BK244, HB⟩ := hrel
     cases gk with
     | zero => exact absurd HA.out (by simp [wimplelaw17_QminWalk.l0])
     | succ k1 =>
      have H := HA.out
      clear HA
      simp only [wimplelaw17_QminWalk.l0] at H
      replace H := Option.bind_eq_some_iff.mp H
      obtain ⟨⟨t245, t246, t247⟩, A200, H⟩ := H
      replace H : ((wimplelaw0_Num.f t247).bind fun t249 => (if t249 = 0 then (wimplelaw17_QminWalk.j1 k1 a0 t240 (Go.bits .and .i64 a2 15) (Go.bits .and .i64 a3 15) (wrap64 (Int.tmod (IntKind.u64.wrap (a1)) (IntKind.u64.wrap (wrap64 (t240 + 1))))) x16_1 (decide (x16_1 > t240)) a0 16 t242 x245003_1 x245004_1 false 0 0 t245 t246) else (wimplelaw17_QminWalk.j1 k1 a0 t240 (Go.bits .and .i64 a2 15) (Go.bits .and .i64 a3 15) (wrap64 (Int.tmod (IntKind.u64.wrap (a1)) (IntKind.u64.wrap (wrap64 (t240 + 1))))) x16_1 true a0 16 t242 x245003_1 x245004_1 false 0 0 t245 t246))) = some r := H
      have A20 := Aside0.mk A200
      clear A200
      have HC21 := Aside0.mk H
      clear H
      have hcz22_0 : wr.cell? ⟨gb244, 0, none⟩ = some (.string a0) := (blk_cell BK244.out 0).trans rfl
      have hcz22_1 : wr.cell? ⟨gb244, 1, none⟩ = some (.int .i64 16) := (blk_cell BK244.out 1).trans rfl
      have hcz22_2 : wr.cell? ⟨gb244, 2, none⟩ = some (.string t242) := (blk_cell BK244.out 2).trans rfl
      have hcz22_3 : wr.cell? ⟨gb244, 3, none⟩ = some (.string x245003_1) := (blk_cell BK244.out 3).trans rfl
      have hcz22_4 : wr.cell? ⟨gb244, 4, none⟩ = some (.int .i64 x245004_1) := (blk_cell BK244.out 4).trans rfl
      have hcz22_5 : wr.cell? ⟨gb244, 5, none⟩ = some (.bool false) := (blk_cell BK244.out 5).trans rfl
      have hcz22_6 : wr.cell? ⟨gb244, 6, none⟩ = some (.int .i64 0) := (blk_cell BK244.out 6).trans rfl
      have hcz22_7 : wr.cell? ⟨gb244, 7, none⟩ = some (.int .i64 0) := (blk_cell BK244.out 7).trans rfl
      have hfz22_0 := blk_frozen BK244.out 0
      have hfz22_1 := blk_frozen BK244.out 1
      have hfz22_2 := blk_frozen BK244.out 2
      have hfz22_3 := blk_frozen BK244.out 3
      have hfz22_4 := blk_frozen BK244.out 4
      have hfz22_5 := blk_frozen BK244.out 5
      have hfz22_6 := blk_frozen BK244.out 6
      have hfz22_7 := blk_frozen BK244.out 7
      go_upto_region 12 with (first | ((with_reducible refine gate_callee (f := 12) rfl ?_); refine goesL_ (some 53) rfl rfl Try.func12 (by kernel_rfl) rfl #[.agg #[.string a0, .int .i64 16, .string t242, .string x245003_1, .int .i64 x245004_1, .bool false, .int .i64 0, .int .i64 0], .int .i64 (Go.bits .and .i64 a2 15), .int .i64 (Go.bits .and .i64 a3 15)] rfl (by (try simp only [List.map_toArray, List.map_cons, List.map_nil]); first | done | rfl | (simp only [List.length_drop, List.length_take]; rfl)) ?_; (with_reducible refine (qmin_Next.calls k1 a0 16 t242 x245003_1 x245004_1 false 0 0 (Go.bits .and .i64 a2 15) (Go.bits .and .i64 a3 15) t245 t246 t247 _ A20.out).mono ?_); rintro e w23 ⟨rfl, hb⟩; refine ⟨_, rfl, ?_⟩; have n0_ := Aside0.mk (blk_below (g := gb244) (o := .cells #[.string a0, .int .i64 16, .string t242, .string x245003_1, .int .i64 x245004_1, .bool false, .int .i64 0, .int .i64 0] 23 (0, 0)) (by (with_reducible repeat (first | refine blk_drewN ?_ _ | refine blk_drew ?_ | refine blk_alloc ?_ _)); exact BK244.out) hb); have n1_ := Aside0.mk (below_step (by repeat (first | (with_reducible first | exact HB.out | apply below_alloc | apply pw_below_drewN | apply below_drew1 | refine below_set ?_ GE244.out) | exact HB.out)) hb); clear BK244; clear HB; have BK244 := n0_; have HB := n1_; clear n0_ n1_; (try clear hb); (try clear hb2); (try clear hk); (try clear hi)) | ((with_reducible refine gate_dst (N := 17) rfl ?_); refine box_event ?hg (N := 17) ?hd (cs := #[.string (⟨#[]⟩ : ByteArray), .int .i64 0]) (t := 30) ?hr ?_; (case hd => rfl); (case hg => rfl); (case hr => first | (go_simp; done) | (go_simp; rfl)); intro gb248 hg w24 hbox hb; have n0_ := Aside0.mk (blk_below (g := gb244) (o := .cells #[.string a0, .int .i64 16, .string t242, .string x245003_1, .int .i64 x245004_1, .bool false, .int .i64 0, .int .i64 0] 23 (0, 0)) (by (with_reducible repeat (first | refine blk_drewN ?_ _ | refine blk_drew ?_ | refine blk_alloc ?_ _)); exact BK244.out) hb); have n1_ := Aside0.mk (below_step (by repeat (first | (with_reducible first | exact HB.out | apply below_alloc | apply pw_below_drewN | apply below_drew1 | refine below_set ?_ GE244.out) | exact HB.out)) hb); have n2_ := Aside0.mk (hbox); have n3_ := Aside0.mk ((by rw [hg]; exact (below_size (by repeat (first | (with_reducible first | exact HB.out | apply below_alloc | apply pw_below_drewN | apply below_drew1 | refine below_set ?_ GE244.out) | exact HB.out))) : w.heap.size ≤ gb248)); have n4_ := Aside0.mk ((by rw [hg]; exact (below_size (by repeat (first | (with_reducible first | exact HB.out | apply below_alloc | apply pw_below_drewN | apply below_drew1 | refine below_set ?_ GE244.out) | exact HB.out))) : w.heap.size ≤ gb248)); have n5_ := Aside0.mk ((by rw [hg]; exact Nat.ne_of_lt (blk_lt (g := gb244) (o := .cells #[.string a0, .int .i64 16, .string t242, .string x245003_1, .int .i64 x245004_1, .bool false, .int .i64 0, .int .i64 0] 23 (0, 0)) (by (with_reducible repeat (first | refine blk_drewN ?_ _ | refine blk_drew ?_ | refine blk_alloc ?_ _)); exact BK244.out)) : gb244 ≠ gb248)); have n6_ := Aside0.mk ((by rw [hg]; exact Nat.ne_of_gt (blk_lt (g := gb244) (o := .cells #[.string a0, .int .i64 16, .string t242, .string x245003_1, .int .i64 x245004_1, .bool false, .int .i64 0, .int .i64 0] 23 (0, 0)) (by (with_reducible repeat (first | refine blk_drewN ?_ _ | refine blk_drew ?_ | refine blk_alloc ?_ _)); exact BK244.out)) : gb248 ≠ gb244)); clear BK244; clear HB; have BK244 := n0_; have HB := n1_; have BK248 := n2_; have GW248 := n3_; have GE248 := n4_; have NB244_248 := n5_; have NB248_244 := n6_; clear n0_ n1_ n2_ n3_ n4_ n5_ n6_; clear hb hbox hg; have hnb25 := NB248_244.out; have hnc25 := NB244_248.out; have hcz26_0 : w24.cell? ⟨gb248, 0, none⟩ = some (.string (⟨#[]⟩ : ByteArray)) := (blk_cell BK248.out 0).trans rfl; have hcz26_1 : w24.cell? ⟨gb248, 1, none⟩ = some (.int .i64 0) := (blk_cell BK248.out 1).trans rfl; have hfz26_0 := blk_frozen BK248.out 0; have hfz26_1 := blk_frozen BK248.out 1))
      (try simp only [Act.put, List.setIfInBounds_toArray, List.set_cons_zero, List.set_cons_succ])
      go_cut [63] (fun v63 wc => ∃ (kq : Nat) (x63_20 : Bool), v63 = .bool x63_20 ∧ Aside0 (wimplelaw17_QminWalk.j1 kq a0 t240 (Go.bits .and .i64 a2 15) (Go.bits .and .i64 a3 15) (wrap64 (Int.tmod (IntKind.u64.wrap (a1)) (IntKind.u64.wrap (wrap64 (t240 + 1))))) x16_1 x63_20 a0 16 t242 x245003_1 x245004_1 false 0 0 t245 t246 = some r) ∧ Aside0 (kq ≤ k1) ∧ Aside0 (wc.heap[gb244]? = some (.cells #[.string a0, .int .i64 16, .string t242, .string x245003_1, .int .i64 x245004_1, .bool false, .int .i64 0, .int .i64 0] 23 (0, 0))) ∧ Aside0 (wc.heap[gb248]? = some (.cells #[.string t245, .int .i64 t246] 30 (0, 0))) ∧ Aside0 (Below w.heap.size w wc))
      case first =>
       have H := HC21.out
       clear HC21
       replace H := Option.bind_eq_some_iff.mp H
       obtain ⟨t249, A270, H⟩ := H
       replace H : (if t249 = 0 then (wimplelaw17_QminWalk.j1 k1 a0 t240 (Go.bits .and .i64 a2 15) (Go.bits .and .i64 a3 15) (wrap64 (Int.tmod (IntKind.u64.wrap (a1)) (IntKind.u64.wrap (wrap64 (t240 + 1))))) x16_1 (decide (x16_1 > t240)) a0 16 t242 x245003_1 x245004_1 false 0 0 t245 t246) else (wimplelaw17_QminWalk.j1 k1 a0 t240 (Go.bits .and .i64 a2 15) (Go.bits .and .i64 a3 15) (wrap64 (Int.tmod (IntKind.u64.wrap (a1)) (IntKind.u64.wrap (wrap64 (t240 + 1))))) x16_1 true a0 16 t242 x245003_1 x245004_1 false 0 0 t245 t246)) = some r := H
       have A27 := Aside0.mk A270
       clear A270
       by_cases c28 : t249 = 0
       ·rw [if_pos c28] at H
        have c28b0 : (t249 == 0) = true := beq_iff_eq.mpr c28
        have c28b1 : (t249 != 0) = false := bne_eq_false_iff_eq.mpr c28
        clear c28
        (first | rw [c28b0] | (simp only [i64_w, i32_w]; rw [c28b0]) | skip)
        have H' := Aside0.mk H
        clear H
        go_wp2_with (first | ((with_reducible refine gate_callee (f := 14) rfl ?_); refine goesL_ (some 57) rfl rfl Try.func14 (by kernel_rfl) rfl #[.int .i64 t247] rfl (by (try simp only [List.map_toArray, List.map_cons, List.map_nil]); first | done | rfl | (simp only [List.length_drop, List.length_take]; rfl)) ?_; (with_reducible refine (wimplelaw0_Num.calls t247 t249 _ A27.out).mono ?_); rintro e w' ⟨rfl, ⟨nd, rfl⟩⟩; refine ⟨_, rfl, ?_⟩))
        go_meet
        case rel => exact ⟨_, (decide (x16_1 > t240)), (by first | rfl | (simp; done) | (simp [*]; done) | (simp [ByteArray.size_append]; exact Iff.rfl)), H', ⟨by have := HK1.out; first | omega | exact Nat.le_refl _⟩, ⟨by (with_reducible repeat (first | refine blk_drewN ?_ _ | refine blk_drew ?_ | refine blk_alloc ?_ _)); refine blk_far ?_ NB244_248.out _; (with_reducible repeat (first | refine blk_drewN ?_ _ | refine blk_drew ?_ | refine blk_alloc ?_ _)); refine blk_far ?_ NB244_248.out _; (with_reducible repeat (first | refine blk_drewN ?_ _ | refine blk_drew ?_ | refine blk_alloc ?_ _)); exact BK244.out⟩, ⟨by (with_reducible repeat (first | refine blk_drewN ?_ _ | refine blk_drew ?_ | refine blk_alloc ?_ _)); refine blk_put (cs := #[.string t245, .int .i64 0]) ?_ 1 _ rfl; (with_reducible repeat (first | refine blk_drewN ?_ _ | refine blk_drew ?_ | refine blk_alloc ?_ _)); refine blk_put (cs := #[.string (⟨#[]⟩ : ByteArray), .int .i64 0]) ?_ 0 _ rfl; (with_reducible repeat (first | refine blk_drewN ?_ _ | refine blk_drew ?_ | refine blk_alloc ?_ _)); exact BK248.out⟩, ⟨by repeat (first | (with_reducible first | exact HB.out | apply below_alloc | apply pw_below_drewN | apply below_drew1 | refine below_set ?_ GE244.out | refine below_set ?_ GE248.out) | exact HB.out)⟩⟩
       ·rw [if_neg c28] at H
        have c28b0 : (t249 == 0) = false := beq_eq_false_iff_ne.mpr c28
        have c28b1 : (t249 != 0) = true := bne_iff_ne.mpr c28
        (first | rw [c28b0] | (simp only [i64_w, i32_w]; rw [c28b0]) | skip)
        have H' := Aside0.mk H
        clear H
        go_wp2_with (first | ((with_reducible refine gate_callee (f := 14) rfl ?_); refine goesL_ (some 57) rfl rfl Try.func14 (by kernel_rfl) rfl #[.int .i64 t247] rfl (by (try simp only [List.map_toArray, List.map_cons, List.map_nil]); first | done | rfl | (simp only [List.length_drop, List.length_take]; rfl)) ?_; (with_reducible refine (wimplelaw0_Num.calls t247 t249 _ A27.out).mono ?_); rintro e w' ⟨rfl, ⟨nd, rfl⟩⟩; refine ⟨_, rfl, ?_⟩))
        go_meet
        case rel => exact ⟨_, (true), (by first | rfl | (simp; done) | (simp [*]; done) | (simp [ByteArray.size_append]; exact Iff.rfl)), H', ⟨by have := HK1.out; first | omega | exact Nat.le_refl _⟩, ⟨by (with_reducible repeat (first | refine blk_drewN ?_ _ | refine blk_drew ?_ | refine blk_alloc ?_ _)); refine blk_far ?_ NB244_248.out _; (with_reducible repeat (first | refine blk_drewN ?_ _ | refine blk_drew ?_ | refine blk_alloc ?_ _)); refine blk_far ?_ NB244_248.out _; (with_reducible repeat (first | refine blk_drewN ?_ _ | refine blk_drew ?_ | refine blk_alloc ?_ _)); exact BK244.out⟩, ⟨by (with_reducible repeat (first | refine blk_drewN ?_ _ | refine blk_drew ?_ | refine blk_alloc ?_ _)); refine blk_put (cs := #[.string t245, .int .i64 0]) ?_ 1 _ rfl; (with_reducible repeat (first | refine blk_drewN ?_ _ | refine blk_drew ?_ | refine blk_alloc ?_ _)); refine blk_put (cs := #[.string (⟨#[]⟩ : ByteArray), .int .i64 0]) ?_ 0 _ rfl; (with_reducible repeat (first | refine blk_drewN ?_ _ | refine blk_drew ?_ | refine blk_alloc ?_ _)); exact BK248.out⟩, ⟨by repeat (first | (with_reducible first | exact HB.out | apply below_alloc | apply pw_below_drewN | apply below_drew1 | refine below_set ?_ GE244.out | refine below_set ?_ GE248.out) | exact HB.out)⟩⟩
      case rest =>
       clear HC21
       try clear c1
       try clear c2
       try clear p2
       try clear c5
       try clear c6
       try clear p6
       try clear c8
       try clear c10
       try clear c10b0
       try clear c10b1
       try clear c12
       try clear c14
       try clear c15
       try clear c17
       try clear c19
       try clear c20
       try clear c21
       try clear c25
       try clear c28
       try clear c28b0
       try clear c28b1
       try clear hcz19_0
       try clear hcz19_1
       try clear hcz19_2
       try clear hcz19_3
       try clear hcz19_4
       try clear hcz19_5
       try clear hcz19_6
       try clear hcz19_7
       try clear hcz22_0
       try clear hcz22_1
       try clear hcz22_2
       try clear hcz22_3
       try clear hcz22_4
       try clear hcz22_5
       try clear hcz22_6
       try clear hcz22_7
       try clear hcz26_0
       try clear hcz26_1
       try clear hfz19_0
       try clear hfz19_1
       try clear hfz19_2
       try clear hfz19_3
       try clear hfz19_4
       try clear hfz19_5
       try clear hfz19_6
       try clear hfz19_7
       try clear hfz22_0
       try clear hfz22_1
       try clear hfz22_2
       try clear hfz22_3
       try clear hfz22_4
       try clear hfz22_5
       try clear hfz22_6
       try clear hfz22_7
       try clear hfz26_0
       try clear hfz26_1
       try clear p2
       try clear p6
       obtain ⟨kq, x63_20, rfl, HA, HJ20, BK244, BK248, HB⟩ := hcut
       cases kq with
       | zero => exact absurd HA.out (by simp [wimplelaw17_QminWalk.j1])
       | succ kj20 =>
        have H := HA.out
        clear HA
        simp only [wimplelaw17_QminWalk.j1] at H
        by_cases c29 : x63_20 = true
        ·subst c29
         have H1 : (some false) = some r := by rw [if_pos rfl] at H; exact H
         clear H
         have H := H1
         clear H1
         obtain rfl := Option.some.inj H
         go_wp2
         go_ret
         exact ⟨by first | rfl | (simp [errW_none, errW_some] <;> rfl) | (simp [*, errW_none, errW_some] <;> rfl), by repeat (first | (with_reducible first | exact HB.out | apply below_alloc | apply pw_below_drewN | apply below_drew1 | refine below_set ?_ GE244.out | refine below_set ?_ GE248.out) | exact HB.out)⟩
        ·replace c29 := Bool.eq_false_iff.mpr c29
         subst c29
         have H1 : ((wimpleref1_Same.f kj20 t245 a0).bind fun t250 => (if t250 = true then (some (decide (x16_1 ≤ (mx (Go.bits .and .i64 a2 15) (Go.bits .and .i64 a3 15))))) else ((wimpleref1_Count.f kj20 t245).bind fun t251 => ((wimpleref1_Count.f kj20 x245003_1).bind fun t252 => (if (wrap64 (t251 - t252)) < 1 then (some false) else (if (wrap64 (t240 - (wrap64 (Int.tmod (IntKind.u64.wrap (a1)) (IntKind.u64.wrap (wrap64 (t240 + 1))))))) ≤ (Go.bits .and .i64 a2 15) then (if (wrap64 (t251 - t252)) = 1 then (wimplelaw17_QminWalk.l0 kj20 a0 t240 (Go.bits .and .i64 a2 15) (Go.bits .and .i64 a3 15) (wrap64 (Int.tmod (IntKind.u64.wrap (a1)) (IntKind.u64.wrap (wrap64 (t240 + 1))))) (wrap64 (x16_1 + 1)) a0 16 t242 t245 (wrap64 (x245004_1 + 1)) false 0 0) else (some false)) else (wimplelaw17_QminWalk.l0 kj20 a0 t240 (Go.bits .and .i64 a2 15) (Go.bits .and .i64 a3 15) (wrap64 (Int.tmod (IntKind.u64.wrap (a1)) (IntKind.u64.wrap (wrap64 (t240 + 1))))) (wrap64 (x16_1 + 1)) a0 16 t242 t245 (wrap64 (x245004_1 + 1)) false 0 0))))))) = some r := by rw [if_neg (show ¬ (false = true) by decide)] at H; exact H
         clear H
         have H := H1
         clear H1
         replace H := Option.bind_eq_some_iff.mp H
         obtain ⟨t250, A300, H⟩ := H
         replace H : (if t250 = true then (some (decide (x16_1 ≤ (mx (Go.bits .and .i64 a2 15) (Go.bits .and .i64 a3 15))))) else ((wimpleref1_Count.f kj20 t245).bind fun t251 => ((wimpleref1_Count.f kj20 x245003_1).bind fun t252 => (if (wrap64 (t251 - t252)) < 1 then (some false) else (if (wrap64 (t240 - (wrap64 (Int.tmod (IntKind.u64.wrap (a1)) (IntKind.u64.wrap (wrap64 (t240 + 1))))))) ≤ (Go.bits .and .i64 a2 15) then (if (wrap64 (t251 - t252)) = 1 then (wimplelaw17_QminWalk.l0 kj20 a0 t240 (Go.bits .and .i64 a2 15) (Go.bits .and .i64 a3 15) (wrap64 (Int.tmod (IntKind.u64.wrap (a1)) (IntKind.u64.wrap (wrap64 (t240 + 1))))) (wrap64 (x16_1 + 1)) a0 16 t242 t245 (wrap64 (x245004_1 + 1)) false 0 0) else (some false)) else (wimplelaw17_QminWalk.l0 kj20 a0 t240 (Go.bits .and .i64 a2 15) (Go.bits .and .i64 a3 15) (wrap64 (Int.tmod (IntKind.u64.wrap (a1)) (IntKind.u64.wrap (wrap64 (t240 + 1))))) (wrap64 (x16_1 + 1)) a0 16 t242 t245 (wrap64 (x245004_1 + 1)) false 0 0)))))) = some r := H
         have A30 := Aside0.mk A300
         clear A300
         by_cases c31 : t250 = true
         ·subst c31
          have H1 : (some (decide (x16_1 ≤ (mx (Go.bits .and .i64 a2 15) (Go.bits .and .i64 a3 15))))) = some r := by rw [if_pos rfl] at H; exact H
          clear H
          have H := H1
          clear H1
          obtain ⟨ji32, hji32⟩ : ∃ j_ : Int, (mx (Go.bits .and .i64 a2 15) (Go.bits .and .i64 a3 15)) = j_ := ⟨_, rfl⟩
          replace H : (some (decide (x16_1 ≤ (ji32)))) = some r := by first | (rw [hji32] at H; exact H) | (simp only [hji32] at H ⊢; exact H)
          (try rw [hji32] at A30)
          have hji32_ : (if (Go.bits .and .i64 a2 15) < (Go.bits .and .i64 a3 15) then (Go.bits .and .i64 a3 15) else (Go.bits .and .i64 a2 15)) = ji32 := hji32
          obtain rfl := Option.some.inj H
          have hnb33 := NB248_244.out
          have hnc33 := NB244_248.out
          have hcz34_0 : wc.cell? ⟨gb248, 0, none⟩ = some (.string t245) := (blk_cell BK248.out 0).trans rfl
          have hcz34_1 : wc.cell? ⟨gb248, 1, none⟩ = some (.int .i64 t246) := (blk_cell BK248.out 1).trans rfl
          have hfz34_0 := blk_frozen BK248.out 0
          have hfz34_1 := blk_frozen BK248.out 1
          go_wp2_with (first | ((with_reducible refine gate_callee (f := 18) rfl ?_); refine goesL_ (some 67) rfl rfl Try.func18 (by kernel_rfl) rfl #[.string t245, .string a0] rfl (by (try simp only [List.map_toArray, List.map_cons, List.map_nil]); first | done | rfl | (simp only [List.length_drop, List.length_take]; rfl)) ?_; (with_reducible refine (wimpleref1_Same.calls kj20 t245 a0 true _ A30.out).mono ?_); rintro e w35 ⟨rfl, hb⟩; refine ⟨_, rfl, ?_⟩; have n0_ := Aside0.mk (blk_below (g := gb244) (o := .cells #[.string a0, .int .i64 16, .string t242, .string x245003_1, .int .i64 x245004_1, .bool false, .int .i64 0, .int .i64 0] 23 (0, 0)) (by (with_reducible repeat (first | refine blk_drewN ?_ _ | refine blk_drew ?_ | refine blk_alloc ?_ _)); exact BK244.out) hb); have n1_ := Aside0.mk (blk_below (g := gb248) (o := .cells #[.string t245, .int .i64 t246] 30 (0, 0)) (by (with_reducible repeat (first | refine blk_drewN ?_ _ | refine blk_drew ?_ | refine blk_alloc ?_ _)); exact BK248.out) hb); have n2_ := Aside0.mk (below_step (by repeat (first | (with_reducible first | exact HB.out | apply below_alloc | apply pw_below_drewN | apply below_drew1 | refine below_set ?_ GE244.out | refine below_set ?_ GE248.out) | exact HB.out)) hb); clear BK244; clear BK248; clear HB; have BK244 := n0_; have BK248 := n1_; have HB := n2_; clear n0_ n1_ n2_; (try clear hb); (try clear hb2); (try clear hk); (try clear hi)))
          go_ret
          exact ⟨by first | rfl | (simp [errW_none, errW_some] <;> rfl) | (simp only [← hji32]; first | rfl | (simp [errW_none, errW_some] <;> rfl)) | (simp [*, errW_none, errW_some] <;> rfl), by repeat (first | (with_reducible first | exact HB.out | apply below_alloc | apply pw_below_drewN | apply below_drew1 | refine below_set ?_ GE244.out | refine below_set ?_ GE248.out) | exact HB.out)⟩
         ·replace c31 := Bool.eq_false_iff.mpr c31
          subst c31
          have H1 : ((wimpleref1_Count.f kj20 t245).bind fun t251 => ((wimpleref1_Count.f kj20 x245003_1).bind fun t252 => (if (wrap64 (t251 - t252)) < 1 then (some false) else (if (wrap64 (t240 - (wrap64 (Int.tmod (IntKind.u64.wrap (a1)) (IntKind.u64.wrap (wrap64 (t240 + 1))))))) ≤ (Go.bits .and .i64 a2 15) then (if (wrap64 (t251 - t252)) = 1 then (wimplelaw17_QminWalk.l0 kj20 a0 t240 (Go.bits .and .i64 a2 15) (Go.bits .and .i64 a3 15) (wrap64 (Int.tmod (IntKind.u64.wrap (a1)) (IntKind.u64.wrap (wrap64 (t240 + 1))))) (wrap64 (x16_1 + 1)) a0 16 t242 t245 (wrap64 (x245004_1 + 1)) false 0 0) else (some false)) else (wimplelaw17_QminWalk.l0 kj20 a0 t240 (Go.bits .and .i64 a2 15) (Go.bits .and .i64 a3 15) (wrap64 (Int.tmod (IntKind.u64.wrap (a1)) (IntKind.u64.wrap (wrap64 (t240 + 1))))) (wrap64 (x16_1 + 1)) a0 16 t242 t245 (wrap64 (x245004_1 + 1)) false 0 0))))) = some r := by rw [if_neg (show ¬ (false = true) by decide)] at H; exact H
          clear H
          have H := H1
          clear H1
          replace H := Option.bind_eq_some_iff.mp H
          obtain ⟨t251, A360, H⟩ := H
          replace H : ((wimpleref1_Count.f kj20 x245003_1).bind fun t252 => (if (wrap64 (t251 - t252)) < 1 then (some false) else (if (wrap64 (t240 - (wrap64 (Int.tmod (IntKind.u64.wrap (a1)) (IntKind.u64.wrap (wrap64 (t240 + 1))))))) ≤ (Go.bits .and .i64 a2 15) then (if (wrap64 (t251 - t252)) = 1 then (wimplelaw17_QminWalk.l0 kj20 a0 t240 (Go.bits .and .i64 a2 15) (Go.bits .and .i64 a3 15) (wrap64 (Int.tmod (IntKind.u64.wrap (a1)) (IntKind.u64.wrap (wrap64 (t240 + 1))))) (wrap64 (x16_1 + 1)) a0 16 t242 t245 (wrap64 (x245004_1 + 1)) false 0 0) else (some false)) else (wimplelaw17_QminWalk.l0 kj20 a0 t240 (Go.bits .and .i64 a2 15) (Go.bits .and .i64 a3 15) (wrap64 (Int.tmod (IntKind.u64.wrap (a1)) (IntKind.u64.wrap (wrap64 (t240 + 1))))) (wrap64 (x16_1 + 1)) a0 16 t242 t245 (wrap64 (x245004_1 + 1)) false 0 0)))) = some r := H
          have A36 := Aside0.mk A360
          clear A360
          replace H := Option.bind_eq_some_iff.mp H
          obtain ⟨t252, A370, H⟩ := H
          replace H : (if (wrap64 (t251 - t252)) < 1 then (some false) else (if (wrap64 (t240 - (wrap64 (Int.tmod (IntKind.u64.wrap (a1)) (IntKind.u64.wrap (wrap64 (t240 + 1))))))) ≤ (Go.bits .and .i64 a2 15) then (if (wrap64 (t251 - t252)) = 1 then (wimplelaw17_QminWalk.l0 kj20 a0 t240 (Go.bits .and .i64 a2 15) (Go.bits .and .i64 a3 15) (wrap64 (Int.tmod (IntKind.u64.wrap (a1)) (IntKind.u64.wrap (wrap64 (t240 + 1))))) (wrap64 (x16_1 + 1)) a0 16 t242 t245 (wrap64 (x245004_1 + 1)) false 0 0) else (some false)) else (wimplelaw17_QminWalk.l0 kj20 a0 t240 (Go.bits .and .i64 a2 15) (Go.bits .and .i64 a3 15) (wrap64 (Int.tmod (IntKind.u64.wrap (a1)) (IntKind.u64.wrap (wrap64 (t240 + 1))))) (wrap64 (x16_1 + 1)) a0 16 t242 t245 (wrap64 (x245004_1 + 1)) false 0 0))) = some r := H
          have A37 := Aside0.mk A370
          clear A370
          by_cases c38 : (wrap64 (t251 - t252)) < 1
          ·rw [if_pos c38] at H
           have c38b0 : decide ((wrap64 (t251 - t252)) < 1) = true := decide_eq_true c38
           clear c38
           obtain rfl := Option.some.inj H
           have hnb39 := NB248_244.out
           have hnc39 := NB244_248.out
           have hcz40_0 : wc.cell? ⟨gb248, 0, none⟩ = some (.string t245) := (blk_cell BK248.out 0).trans rfl
           have hcz40_1 : wc.cell? ⟨gb248, 1, none⟩ = some (.int .i64 t246) := (blk_cell BK248.out 1).trans rfl
           have hfz40_0 := blk_frozen BK248.out 0
           have hfz40_1 := blk_frozen BK248.out 1
           try go_wp2_with (first | ((with_reducible refine gate_callee (f := 18) rfl ?_); refine goesL_ (some 67) rfl rfl Try.func18 (by kernel_rfl) rfl #[.string t245, .string a0] rfl (by (try simp only [List.map_toArray, List.map_cons, List.map_nil]); first | done | rfl | (simp only [List.length_drop, List.length_take]; rfl)) ?_; (with_reducible refine (wimpleref1_Same.calls kj20 t245 a0 false _ A30.out).mono ?_); rintro e w41 ⟨rfl, hb⟩; refine ⟨_, rfl, ?_⟩; have n0_ := Aside0.mk (blk_below (g := gb244) (o := .cells #[.string a0, .int .i64 16, .string t242, .string x245003_1, .int .i64 x245004_1, .bool false, .int .i64 0, .int .i64 0] 23 (0, 0)) (by (with_reducible repeat (first | refine blk_drewN ?_ _ | refine blk_drew ?_ | refine blk_alloc ?_ _)); exact BK244.out) hb); have n1_ := Aside0.mk (blk_below (g := gb248) (o := .cells #[.string t245, .int .i64 t246] 30 (0, 0)) (by (with_reducible repeat (first | refine blk_drewN ?_ _ | refine blk_drew ?_ | refine blk_alloc ?_ _)); exact BK248.out) hb); have n2_ := Aside0.mk (below_step (by repeat (first | (with_reducible first | exact HB.out | apply below_alloc | apply pw_below_drewN | apply below_drew1 | refine below_set ?_ GE244.out | refine below_set ?_ GE248.out) | exact HB.out)) hb); clear BK244; clear BK248; clear HB; have BK244 := n0_; have BK248 := n1_; have HB := n2_; clear n0_ n1_ n2_; (try clear hb); (try clear hb2); (try clear hk); (try clear hi)))
           have n0_ := Aside0.mk (blk_drew BK244.out)
           have n1_ := Aside0.mk (blk_drew BK248.out)
           have n2_ := Aside0.mk (below_drew1 HB.out)
           clear BK244
           clear BK248
           clear HB
           have BK244 := n0_
           have BK248 := n1_
           have HB := n2_
           clear n0_ n1_ n2_
           refine start_ (n := 8) (S := fun w' => w'.cell? ⟨gb248, 0, none⟩ = some (.string t245) ∧ w'.cell? ⟨gb248, 1, none⟩ = some (.int .i64 t246) ∧ w'.cell? ⟨gb244, 0, none⟩ = some (.string a0) ∧ w'.cell? ⟨gb244, 1, none⟩ = some (.int .i64 16) ∧ w'.cell? ⟨gb244, 2, none⟩ = some (.string t242) ∧ w'.cell? ⟨gb244, 3, none⟩ = some (.string x245003_1) ∧ w'.cell? ⟨gb244, 4, none⟩ = some (.int .i64 x245004_1) ∧ w'.cell? ⟨gb244, 5, none⟩ = some (.bool false) ∧ w'.cell? ⟨gb244, 6, none⟩ = some (.int .i64 0) ∧ w'.cell? ⟨gb244, 7, none⟩ = some (.int .i64 0)) (ds := []) #[false, false, false, false, false, false, false, false] (by kernel_rfl) rfl rfl ⟨(blk_cell BK248.out 0).trans rfl, (blk_cell BK248.out 1).trans rfl, (blk_cell BK244.out 0).trans rfl, (blk_cell BK244.out 1).trans rfl, (blk_cell BK244.out 2).trans rfl, (blk_cell BK244.out 3).trans rfl, (blk_cell BK244.out 4).trans rfl, (blk_cell BK244.out 5).trans rfl, (blk_cell BK244.out 6).trans rfl, (blk_cell BK244.out 7).trans rfl⟩ (fun hHeld => ?_); refine with_tabW wimplelaw17_QminWalk.tab15 wimplelaw17_QminWalk.bits15 (fun HT_ HW_ => ?_)
           generalize w41.drew = w42 at BK244 BK248 HB hHeld ⊢
           refine pure_ (i := 0) (N := some 68) (v := ?_) (a' := ?_) #[true, false, false, false, false, false, false, false] rfl rfl (any_of HT_.out (by kernel_rfl)) (fun _ _ _ h => h) (Or.inl ⟨by rfl, ?_⟩) ?_ ?_
           rotate_left
           ·intro w'
            go_simp
            with_reducible rfl
           rotate_left
           ·simp only [Act.put, List.setIfInBounds_toArray, List.set_cons_zero, List.set_cons_succ, i64_w, i32_w]
            rfl
           refine pure_ (i := 3) (N := some 71) (v := ?_) (a' := ?_) #[true, false, false, true, false, false, false, false] rfl rfl (any_of HT_.out (by kernel_rfl)) (fun _ _ _ h => h) (Or.inl ⟨by rfl, ?_⟩) ?_ ?_
           rotate_left
           ·intro w'
            go_simp
            with_reducible rfl
           rotate_left
           ·simp only [Act.put, List.setIfInBounds_toArray, List.set_cons_zero, List.set_cons_succ, i64_w, i32_w]
            rfl
           refine take_ (i := 1) (N := some 69) (v := ?_) (a' := ?_) #[true, true, false, true, false, false, false, false] rfl rfl (take_ofW HT_.out HW_.out (by kernel_rfl)) (fun _ _ _ h => h) (Or.inl ⟨by rfl, ?_⟩) hHeld ?_ ?_
           rotate_left
           ·rintro w' ⟨s0, s1, s2, s3, s4, s5, s6, s7, s8, s9⟩
            go_simp
            with_reducible rfl
           rotate_left
           ·simp only [Act.put, List.setIfInBounds_toArray, List.set_cons_zero, List.set_cons_succ, i64_w, i32_w]
            rfl
           refine take_ (i := 4) (N := some 72) (v := ?_) (a' := ?_) #[true, true, false, true, true, false, false, false] rfl rfl (take_ofW HT_.out HW_.out (by kernel_rfl)) (fun _ _ _ h => h) (Or.inl ⟨by rfl, ?_⟩) hHeld ?_ ?_
           rotate_left
           ·rintro w' ⟨s0, s1, s2, s3, s4, s5, s6, s7, s8, s9⟩
            go_simp
            with_reducible rfl
           rotate_left
           ·simp only [Act.put, List.setIfInBounds_toArray, List.set_cons_zero, List.set_cons_succ, i64_w, i32_w]
            rfl
           refine one_ (i := 2) (N := some 70) #[true, true, true, true, true, false, false, false] rfl rfl (one_of HT_.out (by kernel_rfl)) (by decide) (fun K hK => ?_)
           refine goes_ Try.func19 (by kernel_rfl) rfl #[.string t245] (by rfl) rfl rfl (by (try simp only [List.map_toArray, List.map_cons, List.map_nil]); first | done | rfl | (simp only [List.length_drop, List.length_take]; rfl)) ?_
           with_reducible refine (wimpleref1_Count.calls kj20 t245 t251 _ A36.out).mono ?_
           rintro e w43 ⟨rfl, hb⟩
           refine ⟨_, rfl, ?_⟩
           have n0_ := Aside0.mk (blk_below (g := gb244) (o := .cells #[.string a0, .int .i64 16, .string t242, .string x245003_1, .int .i64 x245004_1, .bool false, .int .i64 0, .int .i64 0] 23 (0, 0)) (by (with_reducible repeat (first | refine blk_drewN ?_ _ | refine blk_drew ?_ | refine blk_alloc ?_ _)); exact BK244.out) hb)
           have n1_ := Aside0.mk (blk_below (g := gb248) (o := .cells #[.string t245, .int .i64 t246] 30 (0, 0)) (by (with_reducible repeat (first | refine blk_drewN ?_ _ | refine blk_drew ?_ | refine blk_alloc ?_ _)); exact BK248.out) hb)
           have n2_ := Aside0.mk (below_step (by repeat (first | (with_reducible first | exact HB.out | apply below_alloc | apply pw_below_drewN | apply below_drew1 | refine below_set ?_ GE244.out | refine below_set ?_ GE248.out) | exact HB.out)) hb)
           clear BK244
           clear BK248
           clear HB
           have BK244 := n0_
           have BK248 := n1_
           have HB := n2_
           clear n0_ n1_ n2_
           (try clear hb)
           (try clear hb2)
           (try clear hk)
           (try clear hi)
           refine hK.out _ _ ⟨(blk_cell BK248.out 0).trans rfl, (blk_cell BK248.out 1).trans rfl, (blk_cell BK244.out 0).trans rfl, (blk_cell BK244.out 1).trans rfl, (blk_cell BK244.out 2).trans rfl, (blk_cell BK244.out 3).trans rfl, (blk_cell BK244.out 4).trans rfl, (blk_cell BK244.out 5).trans rfl, (blk_cell BK244.out 6).trans rfl, (blk_cell BK244.out 7).trans rfl⟩ (fun hHeld => ?_)
           clear hK K
           refine norm_ (a' := ?_) ?_ ?_
           rotate_left
           ·show Act.put _ (some 70) _ = _
            simp only [Act.put, List.setIfInBounds_toArray, List.set_cons_zero, List.set_cons_succ, i64_w, i32_w]
            rfl
           refine one_ (i := 5) (N := some 73) #[true, true, true, true, true, true, false, false] rfl rfl (one_of HT_.out (by kernel_rfl)) (by decide) (fun K hK => ?_)
           refine goes_ Try.func19 (by kernel_rfl) rfl #[.string x245003_1] (by rfl) rfl rfl (by (try simp only [List.map_toArray, List.map_cons, List.map_nil]); first | done | rfl | (simp only [List.length_drop, List.length_take]; rfl)) ?_
           with_reducible refine (wimpleref1_Count.calls kj20 x245003_1 t252 _ A37.out).mono ?_
           rintro e w44 ⟨rfl, hb⟩
           refine ⟨_, rfl, ?_⟩
           have n0_ := Aside0.mk (blk_below (g := gb244) (o := .cells #[.string a0, .int .i64 16, .string t242, .string x245003_1, .int .i64 x245004_1, .bool false, .int .i64 0, .int .i64 0] 23 (0, 0)) (by (with_reducible repeat (first | refine blk_drewN ?_ _ | refine blk_drew ?_ | refine blk_alloc ?_ _)); exact BK244.out) hb)
           have n1_ := Aside0.mk (blk_below (g := gb248) (o := .cells #[.string t245, .int .i64 t246] 30 (0, 0)) (by (with_reducible repeat (first | refine blk_drewN ?_ _ | refine blk_drew ?_ | refine blk_alloc ?_ _)); exact BK248.out) hb)
           have n2_ := Aside0.mk (below_step (by repeat (first | (with_reducible first | exact HB.out | apply below_alloc | apply pw_below_drewN | apply below_drew1 | refine below_set ?_ GE244.out | refine below_set ?_ GE248.out) | exact HB.out)) hb)
           clear BK244
           clear BK248
           clear HB
           have BK244 := n0_
           have BK248 := n1_
           have HB := n2_
           clear n0_ n1_ n2_
           (try clear hb)
           (try clear hb2)
           (try clear hk)
           (try clear hi)
           refine hK.out _ _ ⟨(blk_cell BK248.out 0).trans rfl, (blk_cell BK248.out 1).trans rfl, (blk_cell BK244.out 0).trans rfl, (blk_cell BK244.out 1).trans rfl, (blk_cell BK244.out 2).trans rfl, (blk_cell BK244.out 3).trans rfl, (blk_cell BK244.out 4).trans rfl, (blk_cell BK244.out 5).trans rfl, (blk_cell BK244.out 6).trans rfl, (blk_cell BK244.out 7).trans rfl⟩ (fun hHeld => ?_)
           clear hK K
           refine norm_ (a' := ?_) ?_ ?_
           rotate_left
           ·show Act.put _ (some 73) _ = _
            simp only [Act.put, List.setIfInBounds_toArray, List.set_cons_zero, List.set_cons_succ, i64_w, i32_w]
            rfl
           refine pure_ (i := 6) (N := some 74) (v := ?_) (a' := ?_) #[true, true, true, true, true, true, true, false] rfl rfl (any_of HT_.out (by kernel_rfl)) (fun _ _ _ h => h) (Or.inl ⟨by rfl, ?_⟩) ?_ ?_
           rotate_left
           ·intro w'
            go_simp
            with_reducible rfl
           rotate_left
           ·simp only [Act.put, List.setIfInBounds_toArray, List.set_cons_zero, List.set_cons_succ, i64_w, i32_w]
            rfl
           refine pure_ (i := 7) (N := some 19) (v := ?_) (a' := ?_) #[true, true, true, true, true, true, true, true] rfl rfl (any_of HT_.out (by kernel_rfl)) (fun _ _ _ h => h) (Or.inl ⟨by rfl, ?_⟩) ?_ ?_
           rotate_left
           ·intro w'
            go_simp
            with_reducible rfl
           rotate_left
           ·simp only [Act.put, List.setIfInBounds_toArray, List.set_cons_zero, List.set_cons_succ, i64_w, i32_w]
            rfl
           refine done_ (done_of HT_.out (by kernel_rfl)) ?_
           try go_wp2
           go_ret
           exact ⟨by first | rfl | (simp [errW_none, errW_some] <;> rfl) | (simp [*, errW_none, errW_some] <;> rfl), by repeat (first | (with_reducible first | exact HB.out | apply below_alloc | apply pw_below_drewN | apply below_drew1 | refine below_set ?_ GE244.out | refine below_set ?_ GE248.out) | exact HB.out)⟩
          ·rw [if_neg c38] at H
           have c38b0 : decide ((wrap64 (t251 - t252)) < 1) = false := decide_eq_false c38
           clear c38
           by_cases c45 : (wrap64 (t240 - (wrap64 (Int.tmod (IntKind.u64.wrap (a1)) (IntKind.u64.wrap (wrap64 (t240 + 1))))))) ≤ (Go.bits .and .i64 a2 15)
           ·rw [if_pos c45] at H
            have c45b0 : decide ((wrap64 (t240 - (wrap64 (Int.tmod (IntKind.u64.wrap (a1)) (IntKind.u64.wrap (wrap64 (t240 + 1))))))) ≤ (Go.bits .and .i64 a2 15)) = true := decide_eq_true c45
            clear c45
            by_cases c46 : (wrap64 (t251 - t252)) = 1
            ·rw [if_pos c46] at H
             have c46b0 : ((wrap64 (t251 - t252)) == 1) = true := beq_iff_eq.mpr c46
             have c46b1 : ((wrap64 (t251 - t252)) != 1) = false := bne_eq_false_iff_eq.mpr c46
             clear c46
             have H' := Aside0.mk H
             clear H
             have hnb47 := NB248_244.out
             have hnc47 := NB244_248.out
             have hcz48_0 : wc.cell? ⟨gb248, 0, none⟩ = some (.string t245) := (blk_cell BK248.out 0).trans rfl
             have hcz48_1 : wc.cell? ⟨gb248, 1, none⟩ = some (.int .i64 t246) := (blk_cell BK248.out 1).trans rfl
             have hfz48_0 := blk_frozen BK248.out 0
             have hfz48_1 := blk_frozen BK248.out 1
             try go_wp2_with (first | ((with_reducible refine gate_callee (f := 18) rfl ?_); refine goesL_ (some 67) rfl rfl Try.func18 (by kernel_rfl) rfl #[.string t245, .string a0] rfl (by (try simp only [List.map_toArray, List.map_cons, List.map_nil]); first | done | rfl | (simp only [List.length_drop, List.length_take]; rfl)) ?_; (with_reducible refine (wimpleref1_Same.calls kj20 t245 a0 false _ A30.out).mono ?_); rintro e w49 ⟨rfl, hb⟩; refine ⟨_, rfl, ?_⟩; have n0_ := Aside0.mk (blk_below (g := gb244) (o := .cells #[.string a0, .int .i64 16, .string t242, .string x245003_1, .int .i64 x245004_1, .bool false, .int .i64 0, .int .i64 0] 23 (0, 0)) (by (with_reducible repeat (first | refine blk_drewN ?_ _ | refine blk_drew ?_ | refine blk_alloc ?_ _)); exact BK244.out) hb); have n1_ := Aside0.mk (blk_below (g := gb248) (o := .cells #[.string t245, .int .i64 t246] 30 (0, 0)) (by (with_reducible repeat (first | refine blk_drewN ?_ _ | refine blk_drew ?_ | refine blk_alloc ?_ _)); exact BK248.out) hb); have n2_ := Aside0.mk (below_step (by repeat (first | (with_reducible first | exact HB.out | apply below_alloc | apply pw_below_drewN | apply below_drew1 | refine below_set ?_ GE244.out | refine below_set ?_ GE248.out) | exact HB.out)) hb); clear BK244; clear BK248; clear HB; have BK244 := n0_; have BK248 := n1_; have HB := n2_; clear n0_ n1_ n2_; (try clear hb); (try clear hb2); (try clear hk); (try clear hi)))
             have n0_ := Aside0.mk (blk_drew BK244.out)
             have n1_ := Aside0.mk (blk_drew BK248.out)
             have n2_ := Aside0.mk (below_drew1 HB.out)
             clear BK244
             clear BK248
             clear HB
             have BK244 := n0_
             have BK248 := n1_
             have HB := n2_
             clear n0_ n1_ n2_
             refine start_ (n := 8) (S := fun w' => w'.cell? ⟨gb248, 0, none⟩ = some (.string t245) ∧ w'.cell? ⟨gb248, 1, none⟩ = some (.int .i64 t246) ∧ w'.cell? ⟨gb244, 0, none⟩ = some (.string a0) ∧ w'.cell? ⟨gb244, 1, none⟩ = some (.int .i64 16) ∧ w'.cell? ⟨gb244, 2, none⟩ = some (.string t242) ∧ w'.cell? ⟨gb244, 3, none⟩ = some (.string x245003_1) ∧ w'.cell? ⟨gb244, 4, none⟩ = some (.int .i64 x245004_1) ∧ w'.cell? ⟨gb244, 5, none⟩ = some (.bool false) ∧ w'.cell? ⟨gb244, 6, none⟩ = some (.int .i64 0) ∧ w'.cell? ⟨gb244, 7, none⟩ = some (.int .i64 0)) (ds := []) #[false, false, false, false, false, false, false, false] (by kernel_rfl) rfl rfl ⟨(blk_cell BK248.out 0).trans rfl, (blk_cell BK248.out 1).trans rfl, (blk_cell BK244.out 0).trans rfl, (blk_cell BK244.out 1).trans rfl, (blk_cell BK244.out 2).trans rfl, (blk_cell BK244.out 3).trans rfl, (blk_cell BK244.out 4).trans rfl, (blk_cell BK244.out 5).trans rfl, (blk_cell BK244.out 6).trans rfl, (blk_cell BK244.out 7).trans rfl⟩ (fun hHeld => ?_); refine with_tabW wimplelaw17_QminWalk.tab15 wimplelaw17_QminWalk.bits15 (fun HT_ HW_ => ?_)
             generalize w49.drew = w50 at BK244 BK248 HB hHeld ⊢
             refine pure_ (i := 0) (N := some 68) (v := ?_) (a' := ?_) #[true, false, false, false, false, false, false, false] rfl rfl (any_of HT_.out (by kernel_rfl)) (fun _ _ _ h => h) (Or.inl ⟨by rfl, ?_⟩) ?_ ?_
             rotate_left
             ·intro w'
              go_simp
              with_reducible rfl
             rotate_left
             ·simp only [Act.put, List.setIfInBounds_toArray, List.set_cons_zero, List.set_cons_succ, i64_w, i32_w]
              rfl
             refine pure_ (i := 3) (N := some 71) (v := ?_) (a' := ?_) #[true, false, false, true, false, false, false, false] rfl rfl (any_of HT_.out (by kernel_rfl)) (fun _ _ _ h => h) (Or.inl ⟨by rfl, ?_⟩) ?_ ?_
             rotate_left
             ·intro w'
              go_simp
              with_reducible rfl
             rotate_left
             ·simp only [Act.put, List.setIfInBounds_toArray, List.set_cons_zero, List.set_cons_succ, i64_w, i32_w]
              rfl
             refine take_ (i := 1) (N := some 69) (v := ?_) (a' := ?_) #[true, true, false, true, false, false, false, false] rfl rfl (take_ofW HT_.out HW_.out (by kernel_rfl)) (fun _ _ _ h => h) (Or.inl ⟨by rfl, ?_⟩) hHeld ?_ ?_
             rotate_left
             ·rintro w' ⟨s0, s1, s2, s3, s4, s5, s6, s7, s8, s9⟩
              go_simp
              with_reducible rfl
             rotate_left
             ·simp only [Act.put, List.setIfInBounds_toArray, List.set_cons_zero, List.set_cons_succ, i64_w, i32_w]
              rfl
             refine take_ (i := 4) (N := some 72) (v := ?_) (a' := ?_) #[true, true, false, true, true, false, false, false] rfl rfl (take_ofW HT_.out HW_.out (by kernel_rfl)) (fun _ _ _ h => h) (Or.inl ⟨by rfl, ?_⟩) hHeld ?_ ?_
             rotate_left
             ·rintro w' ⟨s0, s1, s2, s3, s4, s5, s6, s7, s8, s9⟩
              go_simp
              with_reducible rfl
             rotate_left
             ·simp only [Act.put, List.setIfInBounds_toArray, List.set_cons_zero, List.set_cons_succ, i64_w, i32_w]
              rfl
             refine one_ (i := 2) (N := some 70) #[true, true, true, true, true, false, false, false] rfl rfl (one_of HT_.out (by kernel_rfl)) (by decide) (fun K hK => ?_)
             refine goes_ Try.func19 (by kernel_rfl) rfl #[.string t245] (by rfl) rfl rfl (by (try simp only [List.map_toArray, List.map_cons, List.map_nil]); first | done | rfl | (simp only [List.length_drop, List.length_take]; rfl)) ?_
             with_reducible refine (wimpleref1_Count.calls kj20 t245 t251 _ A36.out).mono ?_
             rintro e w51 ⟨rfl, hb⟩
             refine ⟨_, rfl, ?_⟩
             have n0_ := Aside0.mk (blk_below (g := gb244) (o := .cells #[.string a0, .int .i64 16, .string t242, .string x245003_1, .int .i64 x245004_1, .bool false, .int .i64 0, .int .i64 0] 23 (0, 0)) (by (with_reducible repeat (first | refine blk_drewN ?_ _ | refine blk_drew ?_ | refine blk_alloc ?_ _)); exact BK244.out) hb)
             have n1_ := Aside0.mk (blk_below (g := gb248) (o := .cells #[.string t245, .int .i64 t246] 30 (0, 0)) (by (with_reducible repeat (first | refine blk_drewN ?_ _ | refine blk_drew ?_ | refine blk_alloc ?_ _)); exact BK248.out) hb)
             have n2_ := Aside0.mk (below_step (by repeat (first | (with_reducible first | exact HB.out | apply below_alloc | apply pw_below_drewN | apply below_drew1 | refine below_set ?_ GE244.out | refine below_set ?_ GE248.out) | exact HB.out)) hb)
             clear BK244
             clear BK248
             clear HB
             have BK244 := n0_
             have BK248 := n1_
             have HB := n2_
             clear n0_ n1_ n2_
             (try clear hb)
             (try clear hb2)
             (try clear hk)
             (try clear hi)
             refine hK.out _ _ ⟨(blk_cell BK248.out 0).trans rfl, (blk_cell BK248.out 1).trans rfl, (blk_cell BK244.out 0).trans rfl, (blk_cell BK244.out 1).trans rfl, (blk_cell BK244.out 2).trans rfl, (blk_cell BK244.out 3).trans rfl, (blk_cell BK244.out 4).trans rfl, (blk_cell BK244.out 5).trans rfl, (blk_cell BK244.out 6).trans rfl, (blk_cell BK244.out 7).trans rfl⟩ (fun hHeld => ?_)
             clear hK K
             refine norm_ (a' := ?_) ?_ ?_
             rotate_left
             ·show Act.put _ (some 70) _ = _
              simp only [Act.put, List.setIfInBounds_toArray, List.set_cons_zero, List.set_cons_succ, i64_w, i32_w]
              rfl
             refine one_ (i := 5) (N := some 73) #[true, true, true, true, true, true, false, false] rfl rfl (one_of HT_.out (by kernel_rfl)) (by decide) (fun K hK => ?_)
             refine goes_ Try.func19 (by kernel_rfl) rfl #[.string x245003_1] (by rfl) rfl rfl (by (try simp only [List.map_toArray, List.map_cons, List.map_nil]); first | done | rfl | (simp only [List.length_drop, List.length_take]; rfl)) ?_
             with_reducible refine (wimpleref1_Count.calls kj20 x245003_1 t252 _ A37.out).mono ?_
             rintro e w52 ⟨rfl, hb⟩
             refine ⟨_, rfl, ?_⟩
             have n0_ := Aside0.mk (blk_below (g := gb244) (o := .cells #[.string a0, .int .i64 16, .string t242, .string x245003_1, .int .i64 x245004_1, .bool false, .int .i64 0, .int .i64 0] 23 (0, 0)) (by (with_reducible repeat (first | refine blk_drewN ?_ _ | refine blk_drew ?_ | refine blk_alloc ?_ _)); exact BK244.out) hb)
             have n1_ := Aside0.mk (blk_below (g := gb248) (o := .cells #[.string t245, .int .i64 t246] 30 (0, 0)) (by (with_reducible repeat (first | refine blk_drewN ?_ _ | refine blk_drew ?_ | refine blk_alloc ?_ _)); exact BK248.out) hb)
             have n2_ := Aside0.mk (below_step (by repeat (first | (with_reducible first | exact HB.out | apply below_alloc | apply pw_below_drewN | apply below_drew1 | refine below_set ?_ GE244.out | refine below_set ?_ GE248.out) | exact HB.out)) hb)
             clear BK244
             clear BK248
             clear HB
             have BK244 := n0_
             have BK248 := n1_
             have HB := n2_
             clear n0_ n1_ n2_
             (try clear hb)
             (try clear hb2)
             (try clear hk)
             (try clear hi)
             refine hK.out _ _ ⟨(blk_cell BK248.out 0).trans rfl, (blk_cell BK248.out 1).trans rfl, (blk_cell BK244.out 0).trans rfl, (blk_cell BK244.out 1).trans rfl, (blk_cell BK244.out 2).trans rfl, (blk_cell BK244.out 3).trans rfl, (blk_cell BK244.out 4).trans rfl, (blk_cell BK244.out 5).trans rfl, (blk_cell BK244.out 6).trans rfl, (blk_cell BK244.out 7).trans rfl⟩ (fun hHeld => ?_)
             clear hK K
             refine norm_ (a' := ?_) ?_ ?_
             rotate_left
             ·show Act.put _ (some 73) _ = _
              simp only [Act.put, List.setIfInBounds_toArray, List.set_cons_zero, List.set_cons_succ, i64_w, i32_w]
              rfl
             refine pure_ (i := 6) (N := some 74) (v := ?_) (a' := ?_) #[true, true, true, true, true, true, true, false] rfl rfl (any_of HT_.out (by kernel_rfl)) (fun _ _ _ h => h) (Or.inl ⟨by rfl, ?_⟩) ?_ ?_
             rotate_left
             ·intro w'
              go_simp
              with_reducible rfl
             rotate_left
             ·simp only [Act.put, List.setIfInBounds_toArray, List.set_cons_zero, List.set_cons_succ, i64_w, i32_w]
              rfl
             refine pure_ (i := 7) (N := some 19) (v := ?_) (a' := ?_) #[true, true, true, true, true, true, true, true] rfl rfl (any_of HT_.out (by kernel_rfl)) (fun _ _ _ h => h) (Or.inl ⟨by rfl, ?_⟩) ?_ ?_
             rotate_left
             ·intro w'
              go_simp
              with_reducible rfl
             rotate_left
             ·simp only [Act.put, List.setIfInBounds_toArray, List.set_cons_zero, List.set_cons_succ, i64_w, i32_w]
              rfl
             refine done_ (done_of HT_.out (by kernel_rfl)) ?_
             have hcz53_0 : w52.cell? ⟨gb248, 0, none⟩ = some (.string t245) := (blk_cell BK248.out 0).trans rfl
             have hcz53_1 : w52.cell? ⟨gb248, 1, none⟩ = some (.int .i64 t246) := (blk_cell BK248.out 1).trans rfl
             have hfz53_0 := blk_frozen BK248.out 0
             have hfz53_1 := blk_frozen BK248.out 1
             have hcz54_0 : w52.cell? ⟨gb244, 0, none⟩ = some (.string a0) := (blk_cell BK244.out 0).trans rfl
             have hcz54_1 : w52.cell? ⟨gb244, 1, none⟩ = some (.int .i64 16) := (blk_cell BK244.out 1).trans rfl
             have hcz54_2 : w52.cell? ⟨gb244, 2, none⟩ = some (.string t242) := (blk_cell BK244.out 2).trans rfl
             have hcz54_3 : w52.cell? ⟨gb244, 3, none⟩ = some (.string x245003_1) := (blk_cell BK244.out 3).trans rfl
             have hcz54_4 : w52.cell? ⟨gb244, 4, none⟩ = some (.int .i64 x245004_1) := (blk_cell BK244.out 4).trans rfl
             have hcz54_5 : w52.cell? ⟨gb244, 5, none⟩ = some (.bool false) := (blk_cell BK244.out 5).trans rfl
             have hcz54_6 : w52.cell? ⟨gb244, 6, none⟩ = some (.int .i64 0) := (blk_cell BK244.out 6).trans rfl
             have hcz54_7 : w52.cell? ⟨gb244, 7, none⟩ = some (.int .i64 0) := (blk_cell BK244.out 7).trans rfl
             have hfz54_0 := blk_frozen BK244.out 0
             have hfz54_1 := blk_frozen BK244.out 1
             have hfz54_2 := blk_frozen BK244.out 2
             have hfz54_3 := blk_frozen BK244.out 3
             have hfz54_4 := blk_frozen BK244.out 4
             have hfz54_5 := blk_frozen BK244.out 5
             have hfz54_6 := blk_frozen BK244.out 6
             have hfz54_7 := blk_frozen BK244.out 7
             try go_wp2
             (try subst hji32)
             go_roundg kj20
             case measure => have := HK1.out; have := HJ20.out; omega
             case rel => exact ⟨(wrap64 (x16_1 + 1)), (t245), (wrap64 (x245004_1 + 1)), (by first | rfl | (simp; done) | (simp [*]; done) | (simp [ByteArray.size_append]; exact Iff.rfl)), H', ⟨by have := HK1.out; have := HJ20.out; omega⟩, ⟨by (with_reducible repeat (first | refine blk_drewN ?_ _ | refine blk_drew ?_ | refine blk_alloc ?_ _)); refine blk_put (cs := #[.string a0, .int .i64 16, .string t242, .string t245, .int .i64 x245004_1, .bool false, .int .i64 0, .int .i64 0]) ?_ 4 _ rfl; (with_reducible repeat (first | refine blk_drewN ?_ _ | refine blk_drew ?_ | refine blk_alloc ?_ _)); refine blk_put (cs := #[.string a0, .int .i64 16, .string t242, .string x245003_1, .int .i64 x245004_1, .bool false, .int .i64 0, .int .i64 0]) ?_ 3 _ rfl; (with_reducible repeat (first | refine blk_drewN ?_ _ | refine blk_drew ?_ | refine blk_alloc ?_ _)); exact BK244.out⟩, ⟨by repeat (first | (with_reducible first | exact HB.out | apply below_alloc | apply pw_below_drewN | apply below_drew1 | refine below_set ?_ GE244.out | refine below_set ?_ GE248.out) | exact HB.out)⟩⟩
            ·rw [if_neg c46] at H
             have c46b0 : ((wrap64 (t251 - t252)) == 1) = false := beq_eq_false_iff_ne.mpr c46
             have c46b1 : ((wrap64 (t251 - t252)) != 1) = true := bne_iff_ne.mpr c46
             obtain rfl := Option.some.inj H
             have hnb55 := NB248_244.out
             have hnc55 := NB244_248.out
             have hcz56_0 : wc.cell? ⟨gb248, 0, none⟩ = some (.string t245) := (blk_cell BK248.out 0).trans rfl
             have hcz56_1 : wc.cell? ⟨gb248, 1, none⟩ = some (.int .i64 t246) := (blk_cell BK248.out 1).trans rfl
             have hfz56_0 := blk_frozen BK248.out 0
             have hfz56_1 := blk_frozen BK248.out 1
             try go_wp2_with (first | ((with_reducible refine gate_callee (f := 18) rfl ?_); refine goesL_ (some 67) rfl rfl Try.func18 (by kernel_rfl) rfl #[.string t245, .string a0] rfl (by (try simp only [List.map_toArray, List.map_cons, List.map_nil]); first | done | rfl | (simp only [List.length_drop, List.length_take]; rfl)) ?_; (with_reducible refine (wimpleref1_Same.calls kj20 t245 a0 false _ A30.out).mono ?_); rintro e w57 ⟨rfl, hb⟩; refine ⟨_, rfl, ?_⟩; have n0_ := Aside0.mk (blk_below (g := gb244) (o := .cells #[.string a0, .int .i64 16, .string t242, .string x245003_1, .int .i64 x245004_1, .bool false, .int .i64 0, .int .i64 0] 23 (0, 0)) (by (with_reducible repeat (first | refine blk_drewN ?_ _ | refine blk_drew ?_ | refine blk_alloc ?_ _)); exact BK244.out) hb); have n1_ := Aside0.mk (blk_below (g := gb248) (o := .cells #[.string t245, .int .i64 t246] 30 (0, 0)) (by (with_reducible repeat (first | refine blk_drewN ?_ _ | refine blk_drew ?_ | refine blk_alloc ?_ _)); exact BK248.out) hb); have n2_ := Aside0.mk (below_step (by repeat (first | (with_reducible first | exact HB.out | apply below_alloc | apply pw_below_drewN | apply below_drew1 | refine below_set ?_ GE244.out | refine below_set ?_ GE248.out) | exact HB.out)) hb); clear BK244; clear BK248; clear HB; have BK244 := n0_; have BK248 := n1_; have HB := n2_; clear n0_ n1_ n2_; (try clear hb); (try clear hb2); (try clear hk); (try clear hi)))
             have n0_ := Aside0.mk (blk_drew BK244.out)
             have n1_ := Aside0.mk (blk_drew BK248.out)
             have n2_ := Aside0.mk (below_drew1 HB.out)
             clear BK244
             clear BK248
             clear HB
             have BK244 := n0_
             have BK248 := n1_
             have HB := n2_
             clear n0_ n1_ n2_
             refine start_ (n := 8) (S := fun w' => w'.cell? ⟨gb248, 0, none⟩ = some (.string t245) ∧ w'.cell? ⟨gb248, 1, none⟩ = some (.int .i64 t246) ∧ w'.cell? ⟨gb244, 0, none⟩ = some (.string a0) ∧ w'.cell? ⟨gb244, 1, none⟩ = some (.int .i64 16) ∧ w'.cell? ⟨gb244, 2, none⟩ = some (.string t242) ∧ w'.cell? ⟨gb244, 3, none⟩ = some (.string x245003_1) ∧ w'.cell? ⟨gb244, 4, none⟩ = some (.int .i64 x245004_1) ∧ w'.cell? ⟨gb244, 5, none⟩ = some (.bool false) ∧ w'.cell? ⟨gb244, 6, none⟩ = some (.int .i64 0) ∧ w'.cell? ⟨gb244, 7, none⟩ = some (.int .i64 0)) (ds := []) #[false, false, false, false, false, false, false, false] (by kernel_rfl) rfl rfl ⟨(blk_cell BK248.out 0).trans rfl, (blk_cell BK248.out 1).trans rfl, (blk_cell BK244.out 0).trans rfl, (blk_cell BK244.out 1).trans rfl, (blk_cell BK244.out 2).trans rfl, (blk_cell BK244.out 3).trans rfl, (blk_cell BK244.out 4).trans rfl, (blk_cell BK244.out 5).trans rfl, (blk_cell BK244.out 6).trans rfl, (blk_cell BK244.out 7).trans rfl⟩ (fun hHeld => ?_); refine with_tabW wimplelaw17_QminWalk.tab15 wimplelaw17_QminWalk.bits15 (fun HT_ HW_ => ?_)
             generalize w57.drew = w58 at BK244 BK248 HB hHeld ⊢
             refine pure_ (i := 0) (N := some 68) (v := ?_) (a' := ?_) #[true, false, false, false, false, false, false, false] rfl rfl (any_of HT_.out (by kernel_rfl)) (fun _ _ _ h => h) (Or.inl ⟨by rfl, ?_⟩) ?_ ?_
             rotate_left
             ·intro w'
              go_simp
              with_reducible rfl
             rotate_left
             ·simp only [Act.put, List.setIfInBounds_toArray, List.set_cons_zero, List.set_cons_succ, i64_w, i32_w]
              rfl
             refine pure_ (i := 3) (N := some 71) (v := ?_) (a' := ?_) #[true, false, false, true, false, false, false, false] rfl rfl (any_of HT_.out (by kernel_rfl)) (fun _ _ _ h => h) (Or.inl ⟨by rfl, ?_⟩) ?_ ?_
             rotate_left
             ·intro w'
              go_simp
              with_reducible rfl
             rotate_left
             ·simp only [Act.put, List.setIfInBounds_toArray, List.set_cons_zero, List.set_cons_succ, i64_w, i32_w]
              rfl
             refine take_ (i := 1) (N := some 69) (v := ?_) (a' := ?_) #[true, true, false, true, false, false, false, false] rfl rfl (take_ofW HT_.out HW_.out (by kernel_rfl)) (fun _ _ _ h => h) (Or.inl ⟨by rfl, ?_⟩) hHeld ?_ ?_
             rotate_left
             ·rintro w' ⟨s0, s1, s2, s3, s4, s5, s6, s7, s8, s9⟩
              go_simp
              with_reducible rfl
             rotate_left
             ·simp only [Act.put, List.setIfInBounds_toArray, List.set_cons_zero, List.set_cons_succ, i64_w, i32_w]
              rfl
             refine take_ (i := 4) (N := some 72) (v := ?_) (a' := ?_) #[true, true, false, true, true, false, false, false] rfl rfl (take_ofW HT_.out HW_.out (by kernel_rfl)) (fun _ _ _ h => h) (Or.inl ⟨by rfl, ?_⟩) hHeld ?_ ?_
             rotate_left
             ·rintro w' ⟨s0, s1, s2, s3, s4, s5, s6, s7, s8, s9⟩
              go_simp
              with_reducible rfl
             rotate_left
             ·simp only [Act.put, List.setIfInBounds_toArray, List.set_cons_zero, List.set_cons_succ, i64_w, i32_w]
              rfl
             refine one_ (i := 2) (N := some 70) #[true, true, true, true, true, false, false, false] rfl rfl (one_of HT_.out (by kernel_rfl)) (by decide) (fun K hK => ?_)
             refine goes_ Try.func19 (by kernel_rfl) rfl #[.string t245] (by rfl) rfl rfl (by (try simp only [List.map_toArray, List.map_cons, List.map_nil]); first | done | rfl | (simp only [List.length_drop, List.length_take]; rfl)) ?_
             with_reducible refine (wimpleref1_Count.calls kj20 t245 t251 _ A36.out).mono ?_
             rintro e w59 ⟨rfl, hb⟩
             refine ⟨_, rfl, ?_⟩
             have n0_ := Aside0.mk (blk_below (g := gb244) (o := .cells #[.string a0, .int .i64 16, .string t242, .string x245003_1, .int .i64 x245004_1, .bool false, .int .i64 0, .int .i64 0] 23 (0, 0)) (by (with_reducible repeat (first | refine blk_drewN ?_ _ | refine blk_drew ?_ | refine blk_alloc ?_ _)); exact BK244.out) hb)
             have n1_ := Aside0.mk (blk_below (g := gb248) (o := .cells #[.string t245, .int .i64 t246] 30 (0, 0)) (by (with_reducible repeat (first | refine blk_drewN ?_ _ | refine blk_drew ?_ | refine blk_alloc ?_ _)); exact BK248.out) hb)
             have n2_ := Aside0.mk (below_step (by repeat (first | (with_reducible first | exact HB.out | apply below_alloc | apply pw_below_drewN | apply below_drew1 | refine below_set ?_ GE244.out | refine below_set ?_ GE248.out) | exact HB.out)) hb)
             clear BK244
             clear BK248
             clear HB
             have BK244 := n0_
             have BK248 := n1_
             have HB := n2_
             clear n0_ n1_ n2_
             (try clear hb)
             (try clear hb2)
             (try clear hk)
             (try clear hi)
             refine hK.out _ _ ⟨(blk_cell BK248.out 0).trans rfl, (blk_cell BK248.out 1).trans rfl, (blk_cell BK244.out 0).trans rfl, (blk_cell BK244.out 1).trans rfl, (blk_cell BK244.out 2).trans rfl, (blk_cell BK244.out 3).trans rfl, (blk_cell BK244.out 4).trans rfl, (blk_cell BK244.out 5).trans rfl, (blk_cell BK244.out 6).trans rfl, (blk_cell BK244.out 7).trans rfl⟩ (fun hHeld => ?_)
             clear hK K
             refine norm_ (a' := ?_) ?_ ?_
             rotate_left
             ·show Act.put _ (some 70) _ = _
              simp only [Act.put, List.setIfInBounds_toArray, List.set_cons_zero, List.set_cons_succ, i64_w, i32_w]
              rfl
             refine one_ (i := 5) (N := some 73) #[true, true, true, true, true, true, false, false] rfl rfl (one_of HT_.out (by kernel_rfl)) (by decide) (fun K hK => ?_)
             refine goes_ Try.func19 (by kernel_rfl) rfl #[.string x245003_1] (by rfl) rfl rfl (by (try simp only [List.map_toArray, List.map_cons, List.map_nil]); first | done | rfl | (simp only [List.length_drop, List.length_take]; rfl)) ?_
             with_reducible refine (wimpleref1_Count.calls kj20 x245003_1 t252 _ A37.out).mono ?_
             rintro e w60 ⟨rfl, hb⟩
             refine ⟨_, rfl, ?_⟩
             have n0_ := Aside0.mk (blk_below (g := gb244) (o := .cells #[.string a0, .int .i64 16, .string t242, .string x245003_1, .int .i64 x245004_1, .bool false, .int .i64 0, .int .i64 0] 23 (0, 0)) (by (with_reducible repeat (first | refine blk_drewN ?_ _ | refine blk_drew ?_ | refine blk_alloc ?_ _)); exact BK244.out) hb)
             have n1_ := Aside0.mk (blk_below (g := gb248) (o := .cells #[.string t245, .int .i64 t246] 30 (0, 0)) (by (with_reducible repeat (first | refine blk_drewN ?_ _ | refine blk_drew ?_ | refine blk_alloc ?_ _)); exact BK248.out) hb)
             have n2_ := Aside0.mk (below_step (by repeat (first | (with_reducible first | exact HB.out | apply below_alloc | apply pw_below_drewN | apply below_drew1 | refine below_set ?_ GE244.out | refine below_set ?_ GE248.out) | exact HB.out)) hb)
             clear BK244
             clear BK248
             clear HB
             have BK244 := n0_
             have BK248 := n1_
             have HB := n2_
             clear n0_ n1_ n2_
             (try clear hb)
             (try clear hb2)
             (try clear hk)
             (try clear hi)
             refine hK.out _ _ ⟨(blk_cell BK248.out 0).trans rfl, (blk_cell BK248.out 1).trans rfl, (blk_cell BK244.out 0).trans rfl, (blk_cell BK244.out 1).trans rfl, (blk_cell BK244.out 2).trans rfl, (blk_cell BK244.out 3).trans rfl, (blk_cell BK244.out 4).trans rfl, (blk_cell BK244.out 5).trans rfl, (blk_cell BK244.out 6).trans rfl, (blk_cell BK244.out 7).trans rfl⟩ (fun hHeld => ?_)
             clear hK K
             refine norm_ (a' := ?_) ?_ ?_
             rotate_left
             ·show Act.put _ (some 73) _ = _
              simp only [Act.put, List.setIfInBounds_toArray, List.set_cons_zero, List.set_cons_succ, i64_w, i32_w]
              rfl
             refine pure_ (i := 6) (N := some 74) (v := ?_) (a' := ?_) #[true, true, true, true, true, true, true, false] rfl rfl (any_of HT_.out (by kernel_rfl)) (fun _ _ _ h => h) (Or.inl ⟨by rfl, ?_⟩) ?_ ?_
             rotate_left
             ·intro w'
              go_simp
              with_reducible rfl
             rotate_left
             ·simp only [Act.put, List.setIfInBounds_toArray, List.set_cons_zero, List.set_cons_succ, i64_w, i32_w]
              rfl
             refine pure_ (i := 7) (N := some 19) (v := ?_) (a' := ?_) #[true, true, true, true, true, true, true, true] rfl rfl (any_of HT_.out (by kernel_rfl)) (fun _ _ _ h => h) (Or.inl ⟨by rfl, ?_⟩) ?_ ?_
             rotate_left
             ·intro w'
              go_simp
              with_reducible rfl
             rotate_left
             ·simp only [Act.put, List.setIfInBounds_toArray, List.set_cons_zero, List.set_cons_succ, i64_w, i32_w]
              rfl
             refine done_ (done_of HT_.out (by kernel_rfl)) ?_
             try go_wp2
             go_ret
             exact ⟨by first | rfl | (simp [errW_none, errW_some] <;> rfl) | (simp [*, errW_none, errW_some] <;> rfl), by repeat (first | (with_reducible first | exact HB.out | apply below_alloc | apply pw_below_drewN | apply below_drew1 | refine below_set ?_ GE244.out | refine below_set ?_ GE248.out) | exact HB.out)⟩
           ·rw [if_neg c45] at H
            have c45b0 : decide ((wrap64 (t240 - (wrap64 (Int.tmod (IntKind.u64.wrap (a1)) (IntKind.u64.wrap (wrap64 (t240 + 1))))))) ≤ (Go.bits .and .i64 a2 15)) = false := decide_eq_false c45
            clear c45
            have H' := Aside0.mk H
            clear H
            have hnb61 := NB248_244.out
            have hnc61 := NB244_248.out
            have hcz62_0 : wc.cell? ⟨gb248, 0, none⟩ = some (.string t245) := (blk_cell BK248.out 0).trans rfl
            have hcz62_1 : wc.cell? ⟨gb248, 1, none⟩ = some (.int .i64 t246) := (blk_cell BK248.out 1).trans rfl
            have hfz62_0 := blk_frozen BK248.out 0
            have hfz62_1 := blk_frozen BK248.out 1
            try go_wp2_with (first | ((with_reducible refine gate_callee (f := 18) rfl ?_); refine goesL_ (some 67) rfl rfl Try.func18 (by kernel_rfl) rfl #[.string t245, .string a0] rfl (by (try simp only [List.map_toArray, List.map_cons, List.map_nil]); first | done | rfl | (simp only [List.length_drop, List.length_take]; rfl)) ?_; (with_reducible refine (wimpleref1_Same.calls kj20 t245 a0 false _ A30.out).mono ?_); rintro e w63 ⟨rfl, hb⟩; refine ⟨_, rfl, ?_⟩; have n0_ := Aside0.mk (blk_below (g := gb244) (o := .cells #[.string a0, .int .i64 16, .string t242, .string x245003_1, .int .i64 x245004_1, .bool false, .int .i64 0, .int .i64 0] 23 (0, 0)) (by (with_reducible repeat (first | refine blk_drewN ?_ _ | refine blk_drew ?_ | refine blk_alloc ?_ _)); exact BK244.out) hb); have n1_ := Aside0.mk (blk_below (g := gb248) (o := .cells #[.string t245, .int .i64 t246] 30 (0, 0)) (by (with_reducible repeat (first | refine blk_drewN ?_ _ | refine blk_drew ?_ | refine blk_alloc ?_ _)); exact BK248.out) hb); have n2_ := Aside0.mk (below_step (by repeat (first | (with_reducible first | exact HB.out | apply below_alloc | apply pw_below_drewN | apply below_drew1 | refine below_set ?_ GE244.out | refine below_set ?_ GE248.out) | exact HB.out)) hb); clear BK244; clear BK248; clear HB; have BK244 := n0_; have BK248 := n1_; have HB := n2_; clear n0_ n1_ n2_; (try clear hb); (try clear hb2); (try clear hk); (try clear hi)))
            have n0_ := Aside0.mk (blk_drew BK244.out)
            have n1_ := Aside0.mk (blk_drew BK248.out)
            have n2_ := Aside0.mk (below_drew1 HB.out)
            clear BK244
            clear BK248
            clear HB
            have BK244 := n0_
            have BK248 := n1_
            have HB := n2_
            clear n0_ n1_ n2_
            refine start_ (n := 8) (S := fun w' => w'.cell? ⟨gb248, 0, none⟩ = some (.string t245) ∧ w'.cell? ⟨gb248, 1, none⟩ = some (.int .i64 t246) ∧ w'.cell? ⟨gb244, 0, none⟩ = some (.string a0) ∧ w'.cell? ⟨gb244, 1, none⟩ = some (.int .i64 16) ∧ w'.cell? ⟨gb244, 2, none⟩ = some (.string t242) ∧ w'.cell? ⟨gb244, 3, none⟩ = some (.string x245003_1) ∧ w'.cell? ⟨gb244, 4, none⟩ = some (.int .i64 x245004_1) ∧ w'.cell? ⟨gb244, 5, none⟩ = some (.bool false) ∧ w'.cell? ⟨gb244, 6, none⟩ = some (.int .i64 0) ∧ w'.cell? ⟨gb244, 7, none⟩ = some (.int .i64 0)) (ds := []) #[false, false, false, false, false, false, false, false] (by kernel_rfl) rfl rfl ⟨(blk_cell BK248.out 0).trans rfl, (blk_cell BK248.out 1).trans rfl, (blk_cell BK244.out 0).trans rfl, (blk_cell BK244.out 1).trans rfl, (blk_cell BK244.out 2).trans rfl, (blk_cell BK244.out 3).trans rfl, (blk_cell BK244.out 4).trans rfl, (blk_cell BK244.out 5).trans rfl, (blk_cell BK244.out 6).trans rfl, (blk_cell BK244.out 7).trans rfl⟩ (fun hHeld => ?_); refine with_tabW wimplelaw17_QminWalk.tab15 wimplelaw17_QminWalk.bits15 (fun HT_ HW_ => ?_)
            generalize w63.drew = w64 at BK244 BK248 HB hHeld ⊢
            refine pure_ (i := 0) (N := some 68) (v := ?_) (a' := ?_) #[true, false, false, false, false, false, false, false] rfl rfl (any_of HT_.out (by kernel_rfl)) (fun _ _ _ h => h) (Or.inl ⟨by rfl, ?_⟩) ?_ ?_
            rotate_left
            ·intro w'
             go_simp
             with_reducible rfl
            rotate_left
            ·simp only [Act.put, List.setIfInBounds_toArray, List.set_cons_zero, List.set_cons_succ, i64_w, i32_w]
             rfl
            refine pure_ (i := 3) (N := some 71) (v := ?_) (a' := ?_) #[true, false, false, true, false, false, false, false] rfl rfl (any_of HT_.out (by kernel_rfl)) (fun _ _ _ h => h) (Or.inl ⟨by rfl, ?_⟩) ?_ ?_
            rotate_left
            ·intro w'
             go_simp
             with_reducible rfl
            rotate_left
            ·simp only [Act.put, List.setIfInBounds_toArray, List.set_cons_zero, List.set_cons_succ, i64_w, i32_w]
             rfl
            refine take_ (i := 1) (N := some 69) (v := ?_) (a' := ?_) #[true, true, false, true, false, false, false, false] rfl rfl (take_ofW HT_.out HW_.out (by kernel_rfl)) (fun _ _ _ h => h) (Or.inl ⟨by rfl, ?_⟩) hHeld ?_ ?_
            rotate_left
            ·rintro w' ⟨s0, s1, s2, s3, s4, s5, s6, s7, s8, s9⟩
             go_simp
             with_reducible rfl
            rotate_left
            ·simp only [Act.put, List.setIfInBounds_toArray, List.set_cons_zero, List.set_cons_succ, i64_w, i32_w]
             rfl
            refine take_ (i := 4) (N := some 72) (v := ?_) (a' := ?_) #[true, true, false, true, true, false, false, false] rfl rfl (take_ofW HT_.out HW_.out (by kernel_rfl)) (fun _ _ _ h => h) (Or.inl ⟨by rfl, ?_⟩) hHeld ?_ ?_
            rotate_left
            ·rintro w' ⟨s0, s1, s2, s3, s4, s5, s6, s7, s8, s9⟩
             go_simp
             with_reducible rfl
            rotate_left
            ·simp only [Act.put, List.setIfInBounds_toArray, List.set_cons_zero, List.set_cons_succ, i64_w, i32_w]
             rfl
            refine one_ (i := 2) (N := some 70) #[true, true, true, true, true, false, false, false] rfl rfl (one_of HT_.out (by kernel_rfl)) (by decide) (fun K hK => ?_)
            refine goes_ Try.func19 (by kernel_rfl) rfl #[.string t245] (by rfl) rfl rfl (by (try simp only [List.map_toArray, List.map_cons, List.map_nil]); first | done | rfl | (simp only [List.length_drop, List.length_take]; rfl)) ?_
            with_reducible refine (wimpleref1_Count.calls kj20 t245 t251 _ A36.out).mono ?_
            rintro e w65 ⟨rfl, hb⟩
            refine ⟨_, rfl, ?_⟩
            have n0_ := Aside0.mk (blk_below (g := gb244) (o := .cells #[.string a0, .int .i64 16, .string t242, .string x245003_1, .int .i64 x245004_1, .bool false, .int .i64 0, .int .i64 0] 23 (0, 0)) (by (with_reducible repeat (first | refine blk_drewN ?_ _ | refine blk_drew ?_ | refine blk_alloc ?_ _)); exact BK244.out) hb)
            have n1_ := Aside0.mk (blk_below (g := gb248) (o := .cells #[.string t245, .int .i64 t246] 30 (0, 0)) (by (with_reducible repeat (first | refine blk_drewN ?_ _ | refine blk_drew ?_ | refine blk_alloc ?_ _)); exact BK248.out) hb)
            have n2_ := Aside0.mk (below_step (by repeat (first | (with_reducible first | exact HB.out | apply below_alloc | apply pw_below_drewN | apply below_drew1 | refine below_set ?_ GE244.out | refine below_set ?_ GE248.out) | exact HB.out)) hb)
            clear BK244
            clear BK248
            clear HB
            have BK244 := n0_
            have BK248 := n1_
            have HB := n2_
            clear n0_ n1_ n2_
            (try clear hb)
            (try clear hb2)
            (try clear hk)
            (try clear hi)
            refine hK.out _ _ ⟨(blk_cell BK248.out 0).trans rfl, (blk_cell BK248.out 1).trans rfl, (blk_cell BK244.out 0).trans rfl, (blk_cell BK244.out 1).trans rfl, (blk_cell BK244.out 2).trans rfl, (blk_cell BK244.out 3).trans rfl, (blk_cell BK244.out 4).trans rfl, (blk_cell BK244.out 5).trans rfl, (blk_cell BK244.out 6).trans rfl, (blk_cell BK244.out 7).trans rfl⟩ (fun hHeld => ?_)
            clear hK K
            refine norm_ (a' := ?_) ?_ ?_
            rotate_left
            ·show Act.put _ (some 70) _ = _
             simp only [Act.put, List.setIfInBounds_toArray, List.set_cons_zero, List.set_cons_succ, i64_w, i32_w]
             rfl
            refine one_ (i := 5) (N := some 73) #[true, true, true, true, true, true, false, false] rfl rfl (one_of HT_.out (by kernel_rfl)) (by decide) (fun K hK => ?_)
            refine goes_ Try.func19 (by kernel_rfl) rfl #[.string x245003_1] (by rfl) rfl rfl (by (try simp only [List.map_toArray, List.map_cons, List.map_nil]); first | done | rfl | (simp only [List.length_drop, List.length_take]; rfl)) ?_
            with_reducible refine (wimpleref1_Count.calls kj20 x245003_1 t252 _ A37.out).mono ?_
            rintro e w66 ⟨rfl, hb⟩
            refine ⟨_, rfl, ?_⟩
            have n0_ := Aside0.mk (blk_below (g := gb244) (o := .cells #[.string a0, .int .i64 16, .string t242, .string x245003_1, .int .i64 x245004_1, .bool false, .int .i64 0, .int .i64 0] 23 (0, 0)) (by (with_reducible repeat (first | refine blk_drewN ?_ _ | refine blk_drew ?_ | refine blk_alloc ?_ _)); exact BK244.out) hb)
            have n1_ := Aside0.mk (blk_below (g := gb248) (o := .cells #[.string t245, .int .i64 t246] 30 (0, 0)) (by (with_reducible repeat (first | refine blk_drewN ?_ _ | refine blk_drew ?_ | refine blk_alloc ?_ _)); exact BK248.out) hb)
            have n2_ := Aside0.mk (below_step (by repeat (first | (with_reducible first | exact HB.out | apply below_alloc | apply pw_below_drewN | apply below_drew1 | refine below_set ?_ GE244.out | refine below_set ?_ GE248.out) | exact HB.out)) hb)
            clear BK244
            clear BK248
            clear HB
            have BK244 := n0_
            have BK248 := n1_
            have HB := n2_
            clear n0_ n1_ n2_
            (try clear hb)
            (try clear hb2)
            (try clear hk)
            (try clear hi)
            refine hK.out _ _ ⟨(blk_cell BK248.out 0).trans rfl, (blk_cell BK248.out 1).trans rfl, (blk_cell BK244.out 0).trans rfl, (blk_cell BK244.out 1).trans rfl, (blk_cell BK244.out 2).trans rfl, (blk_cell BK244.out 3).trans rfl, (blk_cell BK244.out 4).trans rfl, (blk_cell BK244.out 5).trans rfl, (blk_cell BK244.out 6).trans rfl, (blk_cell BK244.out 7).trans rfl⟩ (fun hHeld => ?_)
            clear hK K
            refine norm_ (a' := ?_) ?_ ?_
            rotate_left
            ·show Act.put _ (some 73) _ = _
             simp only [Act.put, List.setIfInBounds_toArray, List.set_cons_zero, List.set_cons_succ, i64_w, i32_w]
             rfl
            refine pure_ (i := 6) (N := some 74) (v := ?_) (a' := ?_) #[true, true, true, true, true, true, true, false] rfl rfl (any_of HT_.out (by kernel_rfl)) (fun _ _ _ h => h) (Or.inl ⟨by rfl, ?_⟩) ?_ ?_
            rotate_left
            ·intro w'
             go_simp
             with_reducible rfl
            rotate_left
            ·simp only [Act.put, List.setIfInBounds_toArray, List.set_cons_zero, List.set_cons_succ, i64_w, i32_w]
             rfl
            refine pure_ (i := 7) (N := some 19) (v := ?_) (a' := ?_) #[true, true, true, true, true, true, true, true] rfl rfl (any_of HT_.out (by kernel_rfl)) (fun _ _ _ h => h) (Or.inl ⟨by rfl, ?_⟩) ?_ ?_
            rotate_left
            ·intro w'
             go_simp
             with_reducible rfl
            rotate_left
            ·simp only [Act.put, List.setIfInBounds_toArray, List.set_cons_zero, List.set_cons_succ, i64_w, i32_w]
             rfl
            refine done_ (done_of HT_.out (by kernel_rfl)) ?_
            have hcz67_0 : w66.cell? ⟨gb248, 0, none⟩ = some (.string t245) := (blk_cell BK248.out 0).trans rfl
            have hcz67_1 : w66.cell? ⟨gb248, 1, none⟩ = some (.int .i64 t246) := (blk_cell BK248.out 1).trans rfl
            have hfz67_0 := blk_frozen BK248.out 0
            have hfz67_1 := blk_frozen BK248.out 1
            have hcz68_0 : w66.cell? ⟨gb244, 0, none⟩ = some (.string a0) := (blk_cell BK244.out 0).trans rfl
            have hcz68_1 : w66.cell? ⟨gb244, 1, none⟩ = some (.int .i64 16) := (blk_cell BK244.out 1).trans rfl
            have hcz68_2 : w66.cell? ⟨gb244, 2, none⟩ = some (.string t242) := (blk_cell BK244.out 2).trans rfl
            have hcz68_3 : w66.cell? ⟨gb244, 3, none⟩ = some (.string x245003_1) := (blk_cell BK244.out 3).trans rfl
            have hcz68_4 : w66.cell? ⟨gb244, 4, none⟩ = some (.int .i64 x245004_1) := (blk_cell BK244.out 4).trans rfl
            have hcz68_5 : w66.cell? ⟨gb244, 5, none⟩ = some (.bool false) := (blk_cell BK244.out 5).trans rfl
            have hcz68_6 : w66.cell? ⟨gb244, 6, none⟩ = some (.int .i64 0) := (blk_cell BK244.out 6).trans rfl
            have hcz68_7 : w66.cell? ⟨gb244, 7, none⟩ = some (.int .i64 0) := (blk_cell BK244.out 7).trans rfl
            have hfz68_0 := blk_frozen BK244.out 0
            have hfz68_1 := blk_frozen BK244.out 1
            have hfz68_2 := blk_frozen BK244.out 2
            have hfz68_3 := blk_frozen BK244.out 3
            have hfz68_4 := blk_frozen BK244.out 4
            have hfz68_5 := blk_frozen BK244.out 5
            have hfz68_6 := blk_frozen BK244.out 6
            have hfz68_7 := blk_frozen BK244.out 7
            try go_wp2
            (try subst hji32)
            go_roundg kj20
            case measure => have := HK1.out; have := HJ20.out; omega
            case rel => exact ⟨(wrap64 (x16_1 + 1)), (t245), (wrap64 (x245004_1 + 1)), (by first | rfl | (simp; done) | (simp [*]; done) | (simp [ByteArray.size_append]; exact Iff.rfl)), H', ⟨by have := HK1.out; have := HJ20.out; omega⟩, ⟨by (with_reducible repeat (first | refine blk_drewN ?_ _ | refine blk_drew ?_ | refine blk_alloc ?_ _)); refine blk_put (cs := #[.string a0, .int .i64 16, .string t242, .string t245, .int .i64 x245004_1, .bool false, .int .i64 0, .int .i64 0]) ?_ 4 _ rfl; (with_reducible repeat (first | refine blk_drewN ?_ _ | refine blk_drew ?_ | refine blk_alloc ?_ _)); refine blk_put (cs := #[.string a0, .int .i64 16, .string t242, .string x245003_1, .int .i64 x245004_1, .bool false, .int .i64 0, .int .i64 0]) ?_ 3 _ rfl; (with_reducible repeat (first | refine blk_drewN ?_ _ | refine blk_drew ?_ | refine blk_alloc ?_ _)); exact BK244.out⟩, ⟨by repeat (first | (with_reducible first | exact HB.out | apply below_alloc | apply pw_below_drewN | apply below_drew1 | refine below_set ?_ GE244.out | refine below_set ?_ GE248.out) | exact HB.out)⟩⟩
  ·replace c8 := Bool.eq_false_iff.mpr c8
   subst c8
   have H1 : (some true) = some r := by rw [if_neg (show ¬ (false = true) by decide)] at H; exact H
   clear H
   have H := H1
   clear H1
   obtain rfl := Option.some.inj H
   go_enter Try.func5, Try.ntmps5
   try simp only [List.append_eq, List.cons_append, List.nil_append]
   go_wp2_with (first | ((with_reducible refine gate_callee (f := 15) rfl ?_); refine goesL_ (some 20) rfl rfl Try.func15 (by kernel_rfl) rfl #[] rfl (by (try simp only [List.map_toArray, List.map_cons, List.map_nil]); first | done | rfl | (simp only [List.length_drop, List.length_take]; rfl)) ?_; (with_reducible refine (wimplelaw17_awake.calls k  true _ A5.out).mono ?_); rintro e w69 ⟨rfl, hb⟩; refine ⟨_, rfl, ?_⟩; have n0_ := Aside0.mk (below_step (by repeat (first | (with_reducible first | exact HB.out | apply below_alloc | apply pw_below_drewN | apply below_drew1) | exact HB.out)) hb); clear HB; have HB := n0_; clear n0_; (try clear hb); (try clear hb2); (try clear hk); (try clear hi)) | ((with_reducible refine gate_callee (f := 20) rfl ?_); refine goesL_ (some 23) rfl rfl Try.func20 (by kernel_rfl) rfl #[.string a0] rfl (by (try simp only [List.map_toArray, List.map_cons, List.map_nil]); first | done | rfl | (simp only [List.length_drop, List.length_take]; rfl)) ?_; (with_reducible refine (wimpleref1_May.calls k a0 false _ A7.out).mono ?_); rintro e w70 ⟨rfl, hb⟩; refine ⟨_, rfl, ?_⟩; have n0_ := Aside0.mk (below_step (by repeat (first | (with_reducible first | exact HB.out | apply below_alloc | apply pw_below_drewN | apply below_drew1) | exact HB.out)) hb); clear HB; have HB := n0_; clear n0_; (try clear hb); (try clear hb2); (try clear hk); (try clear hi)))
   go_ret
   exact ⟨by first | rfl | (simp [errW_none, errW_some] <;> rfl) | (simp [*, errW_none, errW_some] <;> rfl), by repeat (first | (with_reducible first | exact HB.out | apply below_alloc | apply pw_below_drewN | apply below_drew1) | exact HB.out)⟩
 ·replace c6 := Bool.eq_false_iff.mpr c6
  subst c6
  have H1 : (some false) = some r := by rw [if_neg (show ¬ (false = true) by decide)] at H; exact H
  clear H
  have H := H1
  clear H1
  obtain rfl := Option.some.inj H
  go_enter Try.func5, Try.ntmps5
  try simp only [List.append_eq, List.cons_append, List.nil_append]
  go_wp2_with (first | ((with_reducible refine gate_callee (f := 15) rfl ?_); refine goesL_ (some 20) rfl rfl Try.func15 (by kernel_rfl) rfl #[] rfl (by (try simp only [List.map_toArray, List.map_cons, List.map_nil]); first | done | rfl | (simp only [List.length_drop, List.length_take]; rfl)) ?_; (with_reducible refine (wimplelaw17_awake.calls k  false _ A5.out).mono ?_); rintro e w71 ⟨rfl, hb⟩; refine ⟨_, rfl, ?_⟩; have n0_ := Aside0.mk (below_step (by repeat (first | (with_reducible first | exact HB.out | apply below_alloc | apply pw_below_drewN | apply below_drew1) | exact HB.out)) hb); clear HB; have HB := n0_; clear n0_; (try clear hb); (try clear hb2); (try clear hk); (try clear hi)))
  go_ret
  exact ⟨by first | rfl | (simp [errW_none, errW_some] <;> rfl) | (simp [*, errW_none, errW_some] <;> rfl), by repeat (first | (with_reducible first | exact HB.out | apply below_alloc | apply pw_below_drewN | apply below_drew1) | exact HB.out)⟩

/-- THE ONE PURE STATEMENT of wimplelaw17_QminWalk: yours. -/
def wimplelaw17_QminWalk.Pure : Prop := ∀ (a0 : ByteArray) (a1 : Int) (a2 : Int) (a3 : Int), a0.size ≤ 140737488351232 → (Lit.int .i64 a1).wf = true → (Lit.int .i64 a2).wf = true → (Lit.int .i64 a3).wf = true → ∃ k, wimplelaw17_QminWalk.f k a0 a1 a2 a3 = some true
theorem wimplelaw17_QminWalk.walk (P : wimplelaw17_QminWalk.Pure) (a0 : ByteArray) (a1 : Int) (a2 : Int) (a3 : Int) (w : World) (w0 : a0.size ≤ 140737488351232) (w1 : (Lit.int .i64 a1).wf = true) (w2 : (Lit.int .i64 a2).wf = true) (w3 : (Lit.int .i64 a3).wf = true) :
  Calls Try.prog 5 #[.string a0, .int .i64 a1, .int .i64 a2, .int .i64 a3] w fun e w' => e = .returned (.bool true) ∧ Below w.heap.size w w' := by
 obtain ⟨k, h⟩ := P a0 a1 a2 a3 w0 w1 w2 w3
 refine (wimplelaw17_QminWalk.calls k a0 a1 a2 a3 true w h).mono ?_
 rintro e w' ⟨rfl, hd⟩
 exact ⟨rfl, hd⟩

end Go.Proofs.Ytbcflinledkgjaa.P
