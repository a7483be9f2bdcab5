-- Written by a program of this session's prover (over the kit's printer, with contracts of the session's own); Lean checks it.
import Derived.Test.YteodnommecpglaaPx0
import Derived.Test.YteodnommecpglaaPx1
import Derived.Test.YteodnommecpglaaPx2
import Derived.Test.YteodnommecpglaaPx4
import Derived.Test.YteodnommecpglaaPx5
import Derived.Test.YteodnommecpglaaPx6
import Derived.Test.YteodnommecpglaaPx9
namespace Go.Proofs.Yteodnommecpglaa.P
open Go.RowKit Go.Proofs.YteodnommecpglaaW.PrintWords Go.Proofs.YteodnommecpglaaW.PrintLast Go.Proofs.YteodnommecpglaaW.PrintMore
attribute [local go_sem] max2_int min2_int max_two min_two max_three min_three max_four min_four   -- for this text's walks alone
set_option linter.unusedVariables false
set_option linter.unusedSimpArgs false

/-! ### wimplelaw2_RelRules: function 4 -/
mutual
def wimplelaw2_RelRules.j0 : Nat → ByteArray → ByteArray → ByteArray → Option (Bool)
  | 0, _, _, _ => none
  | k + 1, x0, x1, x2 => (wimpleref1_May.f k x0).bind fun t268 => (if t268 = true then ((wimpleref1_May.f k x1).bind fun t269 => (if t269 = true then ((wimpleref1_May.f k x2).bind fun t270 => (wimplelaw2_RelRules.j1 k x0 x1 x2 (!t270))) else (wimplelaw2_RelRules.j1 k x0 x1 x2 true))) else (wimplelaw2_RelRules.j1 k x0 x1 x2 true))
def wimplelaw2_RelRules.j1 : Nat → ByteArray → ByteArray → ByteArray → Bool → Option (Bool)
  | 0, _, _, _, _ => none
  | k + 1, x0, x1, x2, x66 => if x66 = true then (some true) else ((rel_Compare.f k x0 x1).bind fun t271 => ((rel_Compare.f k x1 x0).bind fun t272 => (if t271 = (wrap64 (-t272)) then ((rel_Same.f k x0 x1).bind fun t273 => ((rel_Compare.f k x0 x1).bind fun t274 => (if (t273 != (t274 == 0)) = true then (wimplelaw2_RelRules.j2 k x0 x1 x2 true) else ((rel_Above.f k (⟨#[0]⟩ : ByteArray) x0).bind fun t275 => (if t275 = true then ((rel_Fold.f k x0).bind fun t276 => ((rel_Fold.f k t276).bind fun t277 => ((rel_Fold.f k x0).bind fun t278 => (if t277.toList = t278.toList then ((rel_Fold.f k x0).bind fun t279 => ((rel_Same.f k x0 t279).bind fun t280 => (wimplelaw2_RelRules.j2 k x0 x1 x2 (!t280)))) else (wimplelaw2_RelRules.j2 k x0 x1 x2 true))))) else (wimplelaw2_RelRules.j2 k x0 x1 x2 true)))))) else (wimplelaw2_RelRules.j2 k x0 x1 x2 true))))
def wimplelaw2_RelRules.j2 : Nat → ByteArray → ByteArray → ByteArray → Bool → Option (Bool)
  | 0, _, _, _, _ => none
  | k + 1, x0, x1, x2, x104 => if x104 = true then (some false) else ((rel_Compare.f k x0 x1).bind fun t281 => (if t281 ≤ 0 then ((rel_Compare.f k x1 x2).bind fun t282 => (if t282 ≤ 0 then ((rel_Compare.f k x0 x2).bind fun t283 => (wimplelaw2_RelRules.j3 k x0 x1 x2 (decide (t283 > 0)))) else (wimplelaw2_RelRules.j3 k x0 x1 x2 false))) else (wimplelaw2_RelRules.j3 k x0 x1 x2 false)))
def wimplelaw2_RelRules.j3 : Nat → ByteArray → ByteArray → ByteArray → Bool → Option (Bool)
  | 0, _, _, _, _ => none
  | k + 1, x0, x1, x2, x120 => if x120 = true then (some false) else ((rel_Above.f k x0 x1).bind fun t284 => (if t284 = true then ((rel_Above.f k x1 x2).bind fun t285 => (if t285 = true then ((rel_Above.f k x0 x2).bind fun t286 => (some t286)) else (some true))) else (some true)))
end
def wimplelaw2_RelRules.f (k : Nat) (a0 : ByteArray) (a1 : ByteArray) (a2 : ByteArray) (a3 : ByteArray) : Option (Bool) := (wimplelaw2_awake.f k).bind fun t258 => (if t258 = true then ((rel_Child.f k a3 a0).bind fun bt259 => ((wimplelaw0_Num.f bt259.2).bind fun t261 => (if t261 = 0 then ((rel_Parent.f k bt259.1).bind fun bt262 => ((wimplelaw0_Num.f bt262.2).bind fun t264 => (if t264 = 0 then (if bt262.1.toList = a0.toList then ((rel_Above.f k a0 bt259.1).bind fun t265 => (if t265 = true then ((rel_Above.f k bt259.1 a0).bind fun t266 => (if t266 = true then (some false) else ((rel_Compare.f k a0 bt259.1).bind fun t267 => (if t267 = (-1) then (wimplelaw2_RelRules.j0 k a0 a1 a2) else (some false))))) else (some false))) else (some false)) else (some false)))) else (wimplelaw2_RelRules.j0 k a0 a1 a2)))) else (some false))
theorem wimplelaw2_RelRules.mono_l : ∀ k, (∀ y0 y1 y2, LeO (wimplelaw2_RelRules.j0 k y0 y1 y2) (wimplelaw2_RelRules.j0 (k + 1) y0 y1 y2)) ∧ (∀ y0 y1 y2 y3, LeO (wimplelaw2_RelRules.j1 k y0 y1 y2 y3) (wimplelaw2_RelRules.j1 (k + 1) y0 y1 y2 y3)) ∧ (∀ y0 y1 y2 y3, LeO (wimplelaw2_RelRules.j2 k y0 y1 y2 y3) (wimplelaw2_RelRules.j2 (k + 1) y0 y1 y2 y3)) ∧ (∀ y0 y1 y2 y3, LeO (wimplelaw2_RelRules.j3 k y0 y1 y2 y3) (wimplelaw2_RelRules.j3 (k + 1) y0 y1 y2 y3))
  | 0 => ⟨fun _ _ _ r h => by simp [wimplelaw2_RelRules.j0] at h, fun _ _ _ _ r h => by simp [wimplelaw2_RelRules.j1] at h, fun _ _ _ _ r h => by simp [wimplelaw2_RelRules.j2] at h, fun _ _ _ _ r h => by simp [wimplelaw2_RelRules.j3] at h⟩
  | k + 1 => by
    obtain ⟨ih0, ih1, ih2, ih3⟩ := wimplelaw2_RelRules.mono_l k
    refine ⟨?_, ?_, ?_, ?_⟩
    · intro y0 y1 y2
      unfold wimplelaw2_RelRules.j0
      repeat' first
      | (with_reducible exact ih0 _ _ _)
      | (with_reducible exact ih1 _ _ _ _)
      | (with_reducible exact ih2 _ _ _ _)
      | (with_reducible exact ih3 _ _ _ _)
      | (with_reducible exact rel_Above.mono _ _ _)
      | (with_reducible exact rel_Child.mono _ _ _)
      | (with_reducible exact rel_Compare.mono _ _ _)
      | (with_reducible exact rel_Fold.mono _ _)
      | (with_reducible exact rel_Parent.mono _ _)
      | (with_reducible exact rel_Same.mono _ _ _)
      | (with_reducible exact wimplelaw2_awake.mono _)
      | (with_reducible exact wimpleref1_May.mono _ _)
      | (with_reducible exact LeO.refl _)
      | (with_reducible exact LeO.none _)
      | (with_reducible refine LeO.ite ?_ ?_)
      | (with_reducible refine LeO.bind ?_ (fun _ => ?_))
      | exact ih0 _ _ _
      | exact ih1 _ _ _ _
      | exact ih2 _ _ _ _
      | exact ih3 _ _ _ _
      | exact rel_Above.mono _ _ _
      | exact rel_Child.mono _ _ _
      | exact rel_Compare.mono _ _ _
      | exact rel_Fold.mono _ _
      | exact rel_Parent.mono _ _
      | exact rel_Same.mono _ _ _
      | exact wimplelaw2_awake.mono _
      | exact wimpleref1_May.mono _ _
      | exact LeO.none _
      | refine LeO.ite ?_ ?_
      | refine LeO.bind ?_ (fun _ => ?_)
    · intro y0 y1 y2 y3
      unfold wimplelaw2_RelRules.j1
      repeat' first
      | (with_reducible exact ih0 _ _ _)
      | (with_reducible exact ih1 _ _ _ _)
      | (with_reducible exact ih2 _ _ _ _)
      | (with_reducible exact ih3 _ _ _ _)
      | (with_reducible exact rel_Above.mono _ _ _)
      | (with_reducible exact rel_Child.mono _ _ _)
      | (with_reducible exact rel_Compare.mono _ _ _)
      | (with_reducible exact rel_Fold.mono _ _)
      | (with_reducible exact rel_Parent.mono _ _)
      | (with_reducible exact rel_Same.mono _ _ _)
      | (with_reducible exact wimplelaw2_awake.mono _)
      | (with_reducible exact wimpleref1_May.mono _ _)
      | (with_reducible exact LeO.refl _)
      | (with_reducible exact LeO.none _)
      | (with_reducible refine LeO.ite ?_ ?_)
      | (with_reducible refine LeO.bind ?_ (fun _ => ?_))
      | exact ih0 _ _ _
      | exact ih1 _ _ _ _
      | exact ih2 _ _ _ _
      | exact ih3 _ _ _ _
      | exact rel_Above.mono _ _ _
      | exact rel_Child.mono _ _ _
      | exact rel_Compare.mono _ _ _
      | exact rel_Fold.mono _ _
      | exact rel_Parent.mono _ _
      | exact rel_Same.mono _ _ _
      | exact wimplelaw2_awake.mono _
      | exact wimpleref1_May.mono _ _
      | exact LeO.none _
      | refine LeO.ite ?_ ?_
      | refine LeO.bind ?_ (fun _ => ?_)
    · intro y0 y1 y2 y3
      unfold wimplelaw2_RelRules.j2
      repeat' first
      | (with_reducible exact ih0 _ _ _)
      | (with_reducible exact ih1 _ _ _ _)
      | (with_reducible exact ih2 _ _ _ _)
      | (with_reducible exact ih3 _ _ _ _)
      | (with_reducible exact rel_Above.mono _ _ _)
      | (with_reducible exact rel_Child.mono _ _ _)
      | (with_reducible exact rel_Compare.mono _ _ _)
      | (with_reducible exact rel_Fold.mono _ _)
      | (with_reducible exact rel_Parent.mono _ _)
      | (with_reducible exact rel_Same.mono _ _ _)
      | (with_reducible exact wimplelaw2_awake.mono _)
      | (with_reducible exact wimpleref1_May.mono _ _)
      | (with_reducible exact LeO.refl _)
      | (with_reducible exact LeO.none _)
      | (with_reducible refine LeO.ite ?_ ?_)
      | (with_reducible refine LeO.bind ?_ (fun _ => ?_))
      | exact ih0 _ _ _
      | exact ih1 _ _ _ _
      | exact ih2 _ _ _ _
      | exact ih3 _ _ _ _
      | exact rel_Above.mono _ _ _
      | exact rel_Child.mono _ _ _
      | exact rel_Compare.mono _ _ _
      | exact rel_Fold.mono _ _
      | exact rel_Parent.mono _ _
      | exact rel_Same.mono _ _ _
      | exact wimplelaw2_awake.mono _
      | exact wimpleref1_May.mono _ _
      | exact LeO.none _
      | refine LeO.ite ?_ ?_
      | refine LeO.bind ?_ (fun _ => ?_)
    · intro y0 y1 y2 y3
      unfold wimplelaw2_RelRules.j3
      repeat' first
      | (with_reducible exact ih0 _ _ _)
      | (with_reducible exact ih1 _ _ _ _)
      | (with_reducible exact ih2 _ _ _ _)
      | (with_reducible exact ih3 _ _ _ _)
      | (with_reducible exact rel_Above.mono _ _ _)
      | (with_reducible exact rel_Child.mono _ _ _)
      | (with_reducible exact rel_Compare.mono _ _ _)
      | (with_reducible exact rel_Fold.mono _ _)
      | (with_reducible exact rel_Parent.mono _ _)
      | (with_reducible exact rel_Same.mono _ _ _)
      | (with_reducible exact wimplelaw2_awake.mono _)
      | (with_reducible exact wimpleref1_May.mono _ _)
      | (with_reducible exact LeO.refl _)
      | (with_reducible exact LeO.none _)
      | (with_reducible refine LeO.ite ?_ ?_)
      | (with_reducible refine LeO.bind ?_ (fun _ => ?_))
      | exact ih0 _ _ _
      | exact ih1 _ _ _ _
      | exact ih2 _ _ _ _
      | exact ih3 _ _ _ _
      | exact rel_Above.mono _ _ _
      | exact rel_Child.mono _ _ _
      | exact rel_Compare.mono _ _ _
      | exact rel_Fold.mono _ _
      | exact rel_Parent.mono _ _
      | exact rel_Same.mono _ _ _
      | exact wimplelaw2_awake.mono _
      | exact wimpleref1_May.mono _ _
      | exact LeO.none _
      | refine LeO.ite ?_ ?_
      | refine LeO.bind ?_ (fun _ => ?_)
theorem wimplelaw2_RelRules.mono : ∀ a0 a1 a2 a3 k, LeO (wimplelaw2_RelRules.f k a0 a1 a2 a3) (wimplelaw2_RelRules.f (k + 1) a0 a1 a2 a3) := by
  intro a0 a1 a2 a3 k
  obtain ⟨ih0, ih1, ih2, ih3⟩ := wimplelaw2_RelRules.mono_l k
  unfold wimplelaw2_RelRules.f
  repeat' first
      | (with_reducible exact ih0 _ _ _)
      | (with_reducible exact ih1 _ _ _ _)
      | (with_reducible exact ih2 _ _ _ _)
      | (with_reducible exact ih3 _ _ _ _)
      | (with_reducible exact rel_Above.mono _ _ _)
      | (with_reducible exact rel_Child.mono _ _ _)
      | (with_reducible exact rel_Compare.mono _ _ _)
      | (with_reducible exact rel_Fold.mono _ _)
      | (with_reducible exact rel_Parent.mono _ _)
      | (with_reducible exact rel_Same.mono _ _ _)
      | (with_reducible exact wimplelaw2_awake.mono _)
      | (with_reducible exact wimpleref1_May.mono _ _)
      | (with_reducible exact LeO.refl _)
      | (with_reducible exact LeO.none _)
      | (with_reducible refine LeO.ite ?_ ?_)
      | (with_reducible refine LeO.bind ?_ (fun _ => ?_))
      | exact ih0 _ _ _
      | exact ih1 _ _ _ _
      | exact ih2 _ _ _ _
      | exact ih3 _ _ _ _
      | exact rel_Above.mono _ _ _
      | exact rel_Child.mono _ _ _
      | exact rel_Compare.mono _ _ _
      | exact rel_Fold.mono _ _
      | exact rel_Parent.mono _ _
      | exact rel_Same.mono _ _ _
      | exact wimplelaw2_awake.mono _
      | exact wimpleref1_May.mono _ _
      | exact LeO.none _
      | refine LeO.ite ?_ ?_
      | refine LeO.bind ?_ (fun _ => ?_)
set_option maxHeartbeats 8000000 in
set_option maxRecDepth 100000 in
theorem wimplelaw2_RelRules.calls (k : Nat) (a0 : ByteArray) (a1 : ByteArray) (a2 : ByteArray) (a3 : ByteArray) (r : Bool) (w : World) (h : wimplelaw2_RelRules.f k a0 a1 a2 a3 = some r) :
    Calls Try.prog 4 #[.string a0, .string a1, .string a2, .string a3] w fun e w' => e = .returned (.bool r) ∧ Below w.heap.size w w' := by
  have HB := Aside0.mk (Below.refl w.heap.size w)
  have H : ((wimplelaw2_awake.f k).bind fun t258 => (if t258 = true then ((rel_Child.f k a3 a0).bind fun bt259 => ((wimplelaw0_Num.f bt259.2).bind fun t261 => (if t261 = 0 then ((rel_Parent.f k bt259.1).bind fun bt262 => ((wimplelaw0_Num.f bt262.2).bind fun t264 => (if t264 = 0 then (if bt262.1.toList = a0.toList then ((rel_Above.f k a0 bt259.1).bind fun t265 => (if t265 = true then ((rel_Above.f k bt259.1 a0).bind fun t266 => (if t266 = true then (some false) else ((rel_Compare.f k a0 bt259.1).bind fun t267 => (if t267 = (-1) then (wimplelaw2_RelRules.j0 k a0 a1 a2) else (some false))))) else (some false))) else (some false)) else (some false)))) else (wimplelaw2_RelRules.j0 k a0 a1 a2)))) else (some false))) = some r := h
  clear h
  replace H := Option.bind_eq_some_iff.mp H
  obtain ⟨t258, A50, H⟩ := H
  replace H : (if t258 = true then ((rel_Child.f k a3 a0).bind fun bt259 => ((wimplelaw0_Num.f bt259.2).bind fun t261 => (if t261 = 0 then ((rel_Parent.f k bt259.1).bind fun bt262 => ((wimplelaw0_Num.f bt262.2).bind fun t264 => (if t264 = 0 then (if bt262.1.toList = a0.toList then ((rel_Above.f k a0 bt259.1).bind fun t265 => (if t265 = true then ((rel_Above.f k bt259.1 a0).bind fun t266 => (if t266 = true then (some false) else ((rel_Compare.f k a0 bt259.1).bind fun t267 => (if t267 = (-1) then (wimplelaw2_RelRules.j0 k a0 a1 a2) else (some false))))) else (some false))) else (some false)) else (some false)))) else (wimplelaw2_RelRules.j0 k a0 a1 a2)))) else (some false)) = some r := H
  have A5 := Aside0.mk A50
  clear A50
  by_cases c6 : t258 = true
  · subst c6
    have H1 : ((rel_Child.f k a3 a0).bind fun bt259 => ((wimplelaw0_Num.f bt259.2).bind fun t261 => (if t261 = 0 then ((rel_Parent.f k bt259.1).bind fun bt262 => ((wimplelaw0_Num.f bt262.2).bind fun t264 => (if t264 = 0 then (if bt262.1.toList = a0.toList then ((rel_Above.f k a0 bt259.1).bind fun t265 => (if t265 = true then ((rel_Above.f k bt259.1 a0).bind fun t266 => (if t266 = true then (some false) else ((rel_Compare.f k a0 bt259.1).bind fun t267 => (if t267 = (-1) then (wimplelaw2_RelRules.j0 k a0 a1 a2) else (some false))))) else (some false))) else (some false)) else (some false)))) else (wimplelaw2_RelRules.j0 k a0 a1 a2)))) = some r := by rw [if_pos rfl] at H; exact H
    clear H
    have H := H1
    clear H1
    replace H := Option.bind_eq_some_iff.mp H
    obtain ⟨⟨t259, t260⟩, A70, H⟩ := H
    replace H : ((wimplelaw0_Num.f t260).bind fun t261 => (if t261 = 0 then ((rel_Parent.f k t259).bind fun bt262 => ((wimplelaw0_Num.f bt262.2).bind fun t264 => (if t264 = 0 then (if bt262.1.toList = a0.toList then ((rel_Above.f k a0 t259).bind fun t265 => (if t265 = true then ((rel_Above.f k t259 a0).bind fun t266 => (if t266 = true then (some false) else ((rel_Compare.f k a0 t259).bind fun t267 => (if t267 = (-1) then (wimplelaw2_RelRules.j0 k a0 a1 a2) else (some false))))) else (some false))) else (some false)) else (some false)))) else (wimplelaw2_RelRules.j0 k a0 a1 a2))) = some r := H
    have A7 := Aside0.mk A70
    clear A70
    replace H := Option.bind_eq_some_iff.mp H
    obtain ⟨t261, A80, H⟩ := H
    replace H : (if t261 = 0 then ((rel_Parent.f k t259).bind fun bt262 => ((wimplelaw0_Num.f bt262.2).bind fun t264 => (if t264 = 0 then (if bt262.1.toList = a0.toList then ((rel_Above.f k a0 t259).bind fun t265 => (if t265 = true then ((rel_Above.f k t259 a0).bind fun t266 => (if t266 = true then (some false) else ((rel_Compare.f k a0 t259).bind fun t267 => (if t267 = (-1) then (wimplelaw2_RelRules.j0 k a0 a1 a2) else (some false))))) else (some false))) else (some false)) else (some false)))) else (wimplelaw2_RelRules.j0 k a0 a1 a2)) = some r := H
    have A8 := Aside0.mk A80
    clear A80
    have HC9 := Aside0.mk H
    clear H
    go_enter Try.func4, Try.ntmps4
    try simp only [List.append_eq, List.cons_append, List.nil_append]
    go_upto_if 23 with (first | ((with_reducible refine gate_callee (f := 26) rfl ?_); refine goesL_ (some 13) rfl rfl Try.func26 (by kernel_rfl) rfl #[] rfl (by (try simp only [List.map_toArray, List.map_cons, List.map_nil]); first | done | rfl | (simp only [List.length_drop, List.length_take]; rfl)) ?_; (with_reducible refine (wimplelaw2_awake.calls k  true _ A5.out).mono ?_); rintro e w10 ⟨rfl, hb⟩; refine ⟨_, rfl, ?_⟩; have n0_ := Aside0.mk (below_step (by repeat (first | (with_reducible first | exact HB.out | apply below_alloc | apply pw_below_drewN | apply below_drew1) | exact HB.out)) hb); clear HB; have HB := n0_; clear n0_; (try clear hb); (try clear hb2); (try clear hk); (try clear hi)) | ((with_reducible refine gate_callee (f := 15) rfl ?_); refine goesL_ (some 18) rfl rfl Try.func15 (by kernel_rfl) rfl #[.string a3, .string a0] rfl (by (try simp only [List.map_toArray, List.map_cons, List.map_nil]); first | done | rfl | (simp only [List.length_drop, List.length_take]; rfl)) ?_; (with_reducible refine (rel_Child.calls k a3 a0 t259 t260 _ A7.out).mono ?_); rintro e w11 ⟨rfl, hb⟩; refine ⟨_, rfl, ?_⟩; have n0_ := Aside0.mk (below_step (by repeat (first | (with_reducible first | exact HB.out | apply below_alloc | apply pw_below_drewN | apply below_drew1) | exact HB.out)) hb); clear HB; have HB := n0_; clear n0_; (try clear hb); (try clear hb2); (try clear hk); (try clear hi)) | ((with_reducible refine gate_callee (f := 23) rfl ?_); refine goesL_ (some 22) rfl rfl Try.func23 (by kernel_rfl) rfl #[.int .i64 t260] rfl (by (try simp only [List.map_toArray, List.map_cons, List.map_nil]); first | done | rfl | (simp only [List.length_drop, List.length_take]; rfl)) ?_; (with_reducible refine (wimplelaw0_Num.calls t260 t261 _ A8.out).mono ?_); rintro e w' ⟨rfl, ⟨nd, rfl⟩⟩; refine ⟨_, rfl, ?_⟩))
    (try simp only [Act.put, List.setIfInBounds_toArray, List.set_cons_zero, List.set_cons_succ])
    go_cut [] (fun wc => ∃ (kq : Nat), Aside0 (wimplelaw2_RelRules.j0 kq a0 a1 a2 = some r) ∧ Aside0 (kq ≤ k) ∧ Aside0 (Below w.heap.size w wc))
    case first =>
      have H := HC9.out
      clear HC9
      by_cases c12 : t261 = 0
      · rw [if_pos c12] at H
        have c12b0 : (t261 == 0) = true := beq_iff_eq.mpr c12
        have c12b1 : (t261 != 0) = false := bne_eq_false_iff_eq.mpr c12
        clear c12
        (first | rw [c12b0] | (simp only [i64_w, i32_w]; rw [c12b0]) | skip)
        replace H := Option.bind_eq_some_iff.mp H
        obtain ⟨⟨t262, t263⟩, A130, H⟩ := H
        replace H : ((wimplelaw0_Num.f t263).bind fun t264 => (if t264 = 0 then (if t262.toList = a0.toList then ((rel_Above.f k a0 t259).bind fun t265 => (if t265 = true then ((rel_Above.f k t259 a0).bind fun t266 => (if t266 = true then (some false) else ((rel_Compare.f k a0 t259).bind fun t267 => (if t267 = (-1) then (wimplelaw2_RelRules.j0 k a0 a1 a2) else (some false))))) else (some false))) else (some false)) else (some false))) = some r := H
        have A13 := Aside0.mk A130
        clear A130
        replace H := Option.bind_eq_some_iff.mp H
        obtain ⟨t264, A140, H⟩ := H
        replace H : (if t264 = 0 then (if t262.toList = a0.toList then ((rel_Above.f k a0 t259).bind fun t265 => (if t265 = true then ((rel_Above.f k t259 a0).bind fun t266 => (if t266 = true then (some false) else ((rel_Compare.f k a0 t259).bind fun t267 => (if t267 = (-1) then (wimplelaw2_RelRules.j0 k a0 a1 a2) else (some false))))) else (some false))) else (some false)) else (some false)) = some r := H
        have A14 := Aside0.mk A140
        clear A140
        by_cases c15 : t264 = 0
        · rw [if_pos c15] at H
          have c15b0 : (t264 == 0) = true := beq_iff_eq.mpr c15
          have c15b1 : (t264 != 0) = false := bne_eq_false_iff_eq.mpr c15
          clear c15
          by_cases c16 : t262.toList = a0.toList
          · rw [if_pos c16] at H
            have c16b0 : (t262.toList == a0.toList) = true := beq_iff_eq.mpr c16
            have c16b1 : (t262.toList != a0.toList) = false := bne_eq_false_iff_eq.mpr c16
            clear c16
            replace H := Option.bind_eq_some_iff.mp H
            obtain ⟨t265, A170, H⟩ := H
            replace H : (if t265 = true then ((rel_Above.f k t259 a0).bind fun t266 => (if t266 = true then (some false) else ((rel_Compare.f k a0 t259).bind fun t267 => (if t267 = (-1) then (wimplelaw2_RelRules.j0 k a0 a1 a2) else (some false))))) else (some false)) = some r := H
            have A17 := Aside0.mk A170
            clear A170
            by_cases c18 : t265 = true
            · subst c18
              have H1 : ((rel_Above.f k t259 a0).bind fun t266 => (if t266 = true then (some false) else ((rel_Compare.f k a0 t259).bind fun t267 => (if t267 = (-1) then (wimplelaw2_RelRules.j0 k a0 a1 a2) else (some false))))) = some r := by rw [if_pos rfl] at H; exact H
              clear H
              have H := H1
              clear H1
              replace H := Option.bind_eq_some_iff.mp H
              obtain ⟨t266, A190, H⟩ := H
              replace H : (if t266 = true then (some false) else ((rel_Compare.f k a0 t259).bind fun t267 => (if t267 = (-1) then (wimplelaw2_RelRules.j0 k a0 a1 a2) else (some false)))) = some r := H
              have A19 := Aside0.mk A190
              clear A190
              by_cases c20 : t266 = true
              · subst c20
                have H1 : (some false) = some r := by rw [if_pos rfl] at H; exact H
                clear H
                have H := H1
                clear H1
                obtain rfl := Option.some.inj H
                go_wp2_with (first | ((with_reducible refine gate_callee (f := 11) rfl ?_); refine goesL_ (some 26) rfl rfl Try.func11 (by kernel_rfl) rfl #[.string t259] rfl (by (try simp only [List.map_toArray, List.map_cons, List.map_nil]); first | done | rfl | (simp only [List.length_drop, List.length_take]; rfl)) ?_; (with_reducible refine (rel_Parent.calls k t259 t262 t263 _ A13.out).mono ?_); rintro e w21 ⟨rfl, hb⟩; refine ⟨_, rfl, ?_⟩; have n0_ := Aside0.mk (below_step (by repeat (first | (with_reducible first | exact HB.out | apply below_alloc | apply pw_below_drewN | apply below_drew1) | exact HB.out)) hb); clear HB; have HB := n0_; clear n0_; (try clear hb); (try clear hb2); (try clear hk); (try clear hi)) | ((with_reducible refine gate_callee (f := 23) rfl ?_); refine goesL_ (some 30) rfl rfl Try.func23 (by kernel_rfl) rfl #[.int .i64 t263] rfl (by (try simp only [List.map_toArray, List.map_cons, List.map_nil]); first | done | rfl | (simp only [List.length_drop, List.length_take]; rfl)) ?_; (with_reducible refine (wimplelaw0_Num.calls t263 t264 _ A14.out).mono ?_); rintro e w' ⟨rfl, ⟨nd, rfl⟩⟩; refine ⟨_, rfl, ?_⟩) | (go_at_call 21; (with_reducible refine (rel_Above.calls k a0 t259 true _ A17.out).mono ?_); rintro e w22 ⟨rfl, hb⟩; have n0_ := Aside0.mk (below_step (by repeat (first | (with_reducible first | exact HB.out | apply below_alloc | apply pw_below_drewN | apply below_drew1) | exact HB.out)) hb); clear HB; have HB := n0_; clear n0_; (try clear hb); (try clear hb2); (try clear hk); (try clear hi)) | (go_at_call 21; (with_reducible refine (rel_Above.calls k t259 a0 true _ A19.out).mono ?_); rintro e w23 ⟨rfl, hb⟩; have n0_ := Aside0.mk (below_step (by repeat (first | (with_reducible first | exact HB.out | apply below_alloc | apply pw_below_drewN | apply below_drew1) | exact HB.out)) hb); clear HB; have HB := n0_; clear n0_; (try clear hb); (try clear hb2); (try clear hk); (try clear hi)))
                go_ret
                exact ⟨by first | rfl | (simp [errW_none, errW_some] <;> rfl) | (simp [*, errW_none, errW_some] <;> rfl), by repeat (first | (with_reducible first | exact HB.out | apply below_alloc | apply pw_below_drewN | apply below_drew1) | exact HB.out)⟩
              · replace c20 := Bool.eq_false_iff.mpr c20
                subst c20
                have H1 : ((rel_Compare.f k a0 t259).bind fun t267 => (if t267 = (-1) then (wimplelaw2_RelRules.j0 k a0 a1 a2) else (some false))) = some r := by rw [if_neg (show ¬ (false = true) by decide)] at H; exact H
                clear H
                have H := H1
                clear H1
                replace H := Option.bind_eq_some_iff.mp H
                obtain ⟨t267, A240, H⟩ := H
                replace H : (if t267 = (-1) then (wimplelaw2_RelRules.j0 k a0 a1 a2) else (some false)) = some r := H
                have A24 := Aside0.mk A240
                clear A240
                by_cases c25 : t267 = (-1)
                · rw [if_pos c25] at H
                  have c25b0 : (t267 == (-1)) = true := beq_iff_eq.mpr c25
                  have c25b1 : (t267 != (-1)) = false := bne_eq_false_iff_eq.mpr c25
                  clear c25
                  have H' := Aside0.mk H
                  clear H
                  go_wp2_with (first | ((with_reducible refine gate_callee (f := 11) rfl ?_); refine goesL_ (some 26) rfl rfl Try.func11 (by kernel_rfl) rfl #[.string t259] rfl (by (try simp only [List.map_toArray, List.map_cons, List.map_nil]); first | done | rfl | (simp only [List.length_drop, List.length_take]; rfl)) ?_; (with_reducible refine (rel_Parent.calls k t259 t262 t263 _ A13.out).mono ?_); rintro e w26 ⟨rfl, hb⟩; refine ⟨_, rfl, ?_⟩; have n0_ := Aside0.mk (below_step (by repeat (first | (with_reducible first | exact HB.out | apply below_alloc | apply pw_below_drewN | apply below_drew1) | exact HB.out)) hb); clear HB; have HB := n0_; clear n0_; (try clear hb); (try clear hb2); (try clear hk); (try clear hi)) | ((with_reducible refine gate_callee (f := 23) rfl ?_); refine goesL_ (some 30) rfl rfl Try.func23 (by kernel_rfl) rfl #[.int .i64 t263] rfl (by (try simp only [List.map_toArray, List.map_cons, List.map_nil]); first | done | rfl | (simp only [List.length_drop, List.length_take]; rfl)) ?_; (with_reducible refine (wimplelaw0_Num.calls t263 t264 _ A14.out).mono ?_); rintro e w' ⟨rfl, ⟨nd, rfl⟩⟩; refine ⟨_, rfl, ?_⟩) | (go_at_call 21; (with_reducible refine (rel_Above.calls k a0 t259 true _ A17.out).mono ?_); rintro e w27 ⟨rfl, hb⟩; have n0_ := Aside0.mk (below_step (by repeat (first | (with_reducible first | exact HB.out | apply below_alloc | apply pw_below_drewN | apply below_drew1) | exact HB.out)) hb); clear HB; have HB := n0_; clear n0_; (try clear hb); (try clear hb2); (try clear hk); (try clear hi)) | (go_at_call 21; (with_reducible refine (rel_Above.calls k t259 a0 false _ A19.out).mono ?_); rintro e w28 ⟨rfl, hb⟩; have n0_ := Aside0.mk (below_step (by repeat (first | (with_reducible first | exact HB.out | apply below_alloc | apply pw_below_drewN | apply below_drew1) | exact HB.out)) hb); clear HB; have HB := n0_; clear n0_; (try clear hb); (try clear hb2); (try clear hk); (try clear hi)) | (go_at_call 24; (with_reducible refine (rel_Compare.calls k a0 t259 t267 _ A24.out).mono ?_); rintro e w29 ⟨rfl, hb⟩; have n0_ := Aside0.mk (below_step (by repeat (first | (with_reducible first | exact HB.out | apply below_alloc | apply pw_below_drewN | apply below_drew1) | exact HB.out)) hb); clear HB; have HB := n0_; clear n0_; (try clear hb); (try clear hb2); (try clear hk); (try clear hi)))
                  go_meet
                  case rel => exact ⟨_, H', ⟨by first | omega | exact Nat.le_refl _⟩, ⟨by repeat (first | (with_reducible first | exact HB.out | apply below_alloc | apply pw_below_drewN | apply below_drew1) | exact HB.out)⟩⟩
                · rw [if_neg c25] at H
                  have c25b0 : (t267 == (-1)) = false := beq_eq_false_iff_ne.mpr c25
                  have c25b1 : (t267 != (-1)) = true := bne_iff_ne.mpr c25
                  obtain rfl := Option.some.inj H
                  go_wp2_with (first | ((with_reducible refine gate_callee (f := 11) rfl ?_); refine goesL_ (some 26) rfl rfl Try.func11 (by kernel_rfl) rfl #[.string t259] rfl (by (try simp only [List.map_toArray, List.map_cons, List.map_nil]); first | done | rfl | (simp only [List.length_drop, List.length_take]; rfl)) ?_; (with_reducible refine (rel_Parent.calls k t259 t262 t263 _ A13.out).mono ?_); rintro e w30 ⟨rfl, hb⟩; refine ⟨_, rfl, ?_⟩; have n0_ := Aside0.mk (below_step (by repeat (first | (with_reducible first | exact HB.out | apply below_alloc | apply pw_below_drewN | apply below_drew1) | exact HB.out)) hb); clear HB; have HB := n0_; clear n0_; (try clear hb); (try clear hb2); (try clear hk); (try clear hi)) | ((with_reducible refine gate_callee (f := 23) rfl ?_); refine goesL_ (some 30) rfl rfl Try.func23 (by kernel_rfl) rfl #[.int .i64 t263] rfl (by (try simp only [List.map_toArray, List.map_cons, List.map_nil]); first | done | rfl | (simp only [List.length_drop, List.length_take]; rfl)) ?_; (with_reducible refine (wimplelaw0_Num.calls t263 t264 _ A14.out).mono ?_); rintro e w' ⟨rfl, ⟨nd, rfl⟩⟩; refine ⟨_, rfl, ?_⟩) | (go_at_call 21; (with_reducible refine (rel_Above.calls k a0 t259 true _ A17.out).mono ?_); rintro e w31 ⟨rfl, hb⟩; have n0_ := Aside0.mk (below_step (by repeat (first | (with_reducible first | exact HB.out | apply below_alloc | apply pw_below_drewN | apply below_drew1) | exact HB.out)) hb); clear HB; have HB := n0_; clear n0_; (try clear hb); (try clear hb2); (try clear hk); (try clear hi)) | (go_at_call 21; (with_reducible refine (rel_Above.calls k t259 a0 false _ A19.out).mono ?_); rintro e w32 ⟨rfl, hb⟩; have n0_ := Aside0.mk (below_step (by repeat (first | (with_reducible first | exact HB.out | apply below_alloc | apply pw_below_drewN | apply below_drew1) | exact HB.out)) hb); clear HB; have HB := n0_; clear n0_; (try clear hb); (try clear hb2); (try clear hk); (try clear hi)) | (go_at_call 24; (with_reducible refine (rel_Compare.calls k a0 t259 t267 _ A24.out).mono ?_); rintro e w33 ⟨rfl, hb⟩; have n0_ := Aside0.mk (below_step (by repeat (first | (with_reducible first | exact HB.out | apply below_alloc | apply pw_below_drewN | apply below_drew1) | exact HB.out)) hb); clear HB; have HB := n0_; clear n0_; (try clear hb); (try clear hb2); (try clear hk); (try clear hi)))
                  go_ret
                  exact ⟨by first | rfl | (simp [errW_none, errW_some] <;> rfl) | (simp [*, errW_none, errW_some] <;> rfl), by repeat (first | (with_reducible first | exact HB.out | apply below_alloc | apply pw_below_drewN | apply below_drew1) | exact HB.out)⟩
            · replace c18 := Bool.eq_false_iff.mpr c18
              subst c18
              have H1 : (some false) = some r := by rw [if_neg (show ¬ (false = true) by decide)] at H; exact H
              clear H
              have H := H1
              clear H1
              obtain rfl := Option.some.inj H
              go_wp2_with (first | ((with_reducible refine gate_callee (f := 11) rfl ?_); refine goesL_ (some 26) rfl rfl Try.func11 (by kernel_rfl) rfl #[.string t259] rfl (by (try simp only [List.map_toArray, List.map_cons, List.map_nil]); first | done | rfl | (simp only [List.length_drop, List.length_take]; rfl)) ?_; (with_reducible refine (rel_Parent.calls k t259 t262 t263 _ A13.out).mono ?_); rintro e w34 ⟨rfl, hb⟩; refine ⟨_, rfl, ?_⟩; have n0_ := Aside0.mk (below_step (by repeat (first | (with_reducible first | exact HB.out | apply below_alloc | apply pw_below_drewN | apply below_drew1) | exact HB.out)) hb); clear HB; have HB := n0_; clear n0_; (try clear hb); (try clear hb2); (try clear hk); (try clear hi)) | ((with_reducible refine gate_callee (f := 23) rfl ?_); refine goesL_ (some 30) rfl rfl Try.func23 (by kernel_rfl) rfl #[.int .i64 t263] rfl (by (try simp only [List.map_toArray, List.map_cons, List.map_nil]); first | done | rfl | (simp only [List.length_drop, List.length_take]; rfl)) ?_; (with_reducible refine (wimplelaw0_Num.calls t263 t264 _ A14.out).mono ?_); rintro e w' ⟨rfl, ⟨nd, rfl⟩⟩; refine ⟨_, rfl, ?_⟩) | (go_at_call 21; (with_reducible refine (rel_Above.calls k a0 t259 false _ A17.out).mono ?_); rintro e w35 ⟨rfl, hb⟩; have n0_ := Aside0.mk (below_step (by repeat (first | (with_reducible first | exact HB.out | apply below_alloc | apply pw_below_drewN | apply below_drew1) | exact HB.out)) hb); clear HB; have HB := n0_; clear n0_; (try clear hb); (try clear hb2); (try clear hk); (try clear hi)))
              go_ret
              exact ⟨by first | rfl | (simp [errW_none, errW_some] <;> rfl) | (simp [*, errW_none, errW_some] <;> rfl), by repeat (first | (with_reducible first | exact HB.out | apply below_alloc | apply pw_below_drewN | apply below_drew1) | exact HB.out)⟩
          · rw [if_neg c16] at H
            have c16b0 : (t262.toList == a0.toList) = false := beq_eq_false_iff_ne.mpr c16
            have c16b1 : (t262.toList != a0.toList) = true := bne_iff_ne.mpr c16
            obtain rfl := Option.some.inj H
            go_wp2_with (first | ((with_reducible refine gate_callee (f := 11) rfl ?_); refine goesL_ (some 26) rfl rfl Try.func11 (by kernel_rfl) rfl #[.string t259] rfl (by (try simp only [List.map_toArray, List.map_cons, List.map_nil]); first | done | rfl | (simp only [List.length_drop, List.length_take]; rfl)) ?_; (with_reducible refine (rel_Parent.calls k t259 t262 t263 _ A13.out).mono ?_); rintro e w36 ⟨rfl, hb⟩; refine ⟨_, rfl, ?_⟩; have n0_ := Aside0.mk (below_step (by repeat (first | (with_reducible first | exact HB.out | apply below_alloc | apply pw_below_drewN | apply below_drew1) | exact HB.out)) hb); clear HB; have HB := n0_; clear n0_; (try clear hb); (try clear hb2); (try clear hk); (try clear hi)) | ((with_reducible refine gate_callee (f := 23) rfl ?_); refine goesL_ (some 30) rfl rfl Try.func23 (by kernel_rfl) rfl #[.int .i64 t263] rfl (by (try simp only [List.map_toArray, List.map_cons, List.map_nil]); first | done | rfl | (simp only [List.length_drop, List.length_take]; rfl)) ?_; (with_reducible refine (wimplelaw0_Num.calls t263 t264 _ A14.out).mono ?_); rintro e w' ⟨rfl, ⟨nd, rfl⟩⟩; refine ⟨_, rfl, ?_⟩))
            go_ret
            exact ⟨by first | rfl | (simp [errW_none, errW_some] <;> rfl) | (simp [*, errW_none, errW_some] <;> rfl), by repeat (first | (with_reducible first | exact HB.out | apply below_alloc | apply pw_below_drewN | apply below_drew1) | exact HB.out)⟩
        · rw [if_neg c15] at H
          have c15b0 : (t264 == 0) = false := beq_eq_false_iff_ne.mpr c15
          have c15b1 : (t264 != 0) = true := bne_iff_ne.mpr c15
          obtain rfl := Option.some.inj H
          go_wp2_with (first | ((with_reducible refine gate_callee (f := 11) rfl ?_); refine goesL_ (some 26) rfl rfl Try.func11 (by kernel_rfl) rfl #[.string t259] rfl (by (try simp only [List.map_toArray, List.map_cons, List.map_nil]); first | done | rfl | (simp only [List.length_drop, List.length_take]; rfl)) ?_; (with_reducible refine (rel_Parent.calls k t259 t262 t263 _ A13.out).mono ?_); rintro e w37 ⟨rfl, hb⟩; refine ⟨_, rfl, ?_⟩; have n0_ := Aside0.mk (below_step (by repeat (first | (with_reducible first | exact HB.out | apply below_alloc | apply pw_below_drewN | apply below_drew1) | exact HB.out)) hb); clear HB; have HB := n0_; clear n0_; (try clear hb); (try clear hb2); (try clear hk); (try clear hi)) | ((with_reducible refine gate_callee (f := 23) rfl ?_); refine goesL_ (some 30) rfl rfl Try.func23 (by kernel_rfl) rfl #[.int .i64 t263] rfl (by (try simp only [List.map_toArray, List.map_cons, List.map_nil]); first | done | rfl | (simp only [List.length_drop, List.length_take]; rfl)) ?_; (with_reducible refine (wimplelaw0_Num.calls t263 t264 _ A14.out).mono ?_); rintro e w' ⟨rfl, ⟨nd, rfl⟩⟩; refine ⟨_, rfl, ?_⟩))
          go_ret
          exact ⟨by first | rfl | (simp [errW_none, errW_some] <;> rfl) | (simp [*, errW_none, errW_some] <;> rfl), by repeat (first | (with_reducible first | exact HB.out | apply below_alloc | apply pw_below_drewN | apply below_drew1) | exact HB.out)⟩
      · rw [if_neg c12] at H
        have c12b0 : (t261 == 0) = false := beq_eq_false_iff_ne.mpr c12
        have c12b1 : (t261 != 0) = true := bne_iff_ne.mpr c12
        (first | rw [c12b0] | (simp only [i64_w, i32_w]; rw [c12b0]) | skip)
        have H' := Aside0.mk H
        clear H
        go_wp2
        go_meet
        case rel => exact ⟨_, H', ⟨by first | omega | exact Nat.le_refl _⟩, ⟨by repeat (first | (with_reducible first | exact HB.out | apply below_alloc | apply pw_below_drewN | apply below_drew1) | exact HB.out)⟩⟩
    case rest =>
      clear HC9
      try clear c1
      try clear c2
      try clear p2
      try clear c4
      try clear c6
      try clear c11
      try clear c12
      try clear c12b0
      try clear c12b1
      try clear c15
      try clear c15b0
      try clear c15b1
      try clear c16
      try clear c16b0
      try clear c16b1
      try clear c18
      try clear c20
      try clear c23
      try clear c25
      try clear c25b0
      try clear c25b1
      try clear c26
      obtain ⟨kq, HA, HJ8, HB⟩ := hcut
      cases kq with
      | zero => exact absurd HA.out (by simp [wimplelaw2_RelRules.j0])
      | succ kj8 =>
        have H := HA.out
        clear HA
        simp only [wimplelaw2_RelRules.j0] at H
        have HC38 := Aside0.mk H
        clear H
        go_upto_region 8 with (fail)
        go_cut [66] (fun v66 wc => ∃ (kq : Nat) (x66_37 : Bool), v66 = .bool x66_37 ∧ Aside0 (wimplelaw2_RelRules.j1 kq a0 a1 a2 x66_37 = some r) ∧ Aside0 (kq ≤ kj8) ∧ Aside0 (Below w.heap.size w wc))
        case first =>
          have H := HC38.out
          clear HC38
          replace H := Option.bind_eq_some_iff.mp H
          obtain ⟨t268, A390, H⟩ := H
          replace H : (if t268 = true then ((wimpleref1_May.f kj8 a1).bind fun t269 => (if t269 = true then ((wimpleref1_May.f kj8 a2).bind fun t270 => (wimplelaw2_RelRules.j1 kj8 a0 a1 a2 (!t270))) else (wimplelaw2_RelRules.j1 kj8 a0 a1 a2 true))) else (wimplelaw2_RelRules.j1 kj8 a0 a1 a2 true)) = some r := H
          have A39 := Aside0.mk A390
          clear A390
          by_cases c40 : t268 = true
          · subst c40
            have H1 : ((wimpleref1_May.f kj8 a1).bind fun t269 => (if t269 = true then ((wimpleref1_May.f kj8 a2).bind fun t270 => (wimplelaw2_RelRules.j1 kj8 a0 a1 a2 (!t270))) else (wimplelaw2_RelRules.j1 kj8 a0 a1 a2 true))) = some r := by rw [if_pos rfl] at H; exact H
            clear H
            have H := H1
            clear H1
            replace H := Option.bind_eq_some_iff.mp H
            obtain ⟨t269, A410, H⟩ := H
            replace H : (if t269 = true then ((wimpleref1_May.f kj8 a2).bind fun t270 => (wimplelaw2_RelRules.j1 kj8 a0 a1 a2 (!t270))) else (wimplelaw2_RelRules.j1 kj8 a0 a1 a2 true)) = some r := H
            have A41 := Aside0.mk A410
            clear A410
            by_cases c42 : t269 = true
            · subst c42
              have H1 : ((wimpleref1_May.f kj8 a2).bind fun t270 => (wimplelaw2_RelRules.j1 kj8 a0 a1 a2 (!t270))) = some r := by rw [if_pos rfl] at H; exact H
              clear H
              have H := H1
              clear H1
              replace H := Option.bind_eq_some_iff.mp H
              obtain ⟨t270, A430, H⟩ := H
              replace H : (wimplelaw2_RelRules.j1 kj8 a0 a1 a2 (!t270)) = some r := H
              have A43 := Aside0.mk A430
              clear A430
              have H' := Aside0.mk H
              clear H
              go_wp2_with (first | ((with_reducible refine gate_callee (f := 27) rfl ?_); refine goesL_ (some 55) rfl rfl Try.func27 (by kernel_rfl) rfl #[.string a0] rfl (by (try simp only [List.map_toArray, List.map_cons, List.map_nil]); first | done | rfl | (simp only [List.length_drop, List.length_take]; rfl)) ?_; (with_reducible refine (wimpleref1_May.calls kj8 a0 true _ A39.out).mono ?_); rintro e w44 ⟨rfl, hb⟩; refine ⟨_, rfl, ?_⟩; have n0_ := Aside0.mk (below_step (by repeat (first | (with_reducible first | exact HB.out | apply below_alloc | apply pw_below_drewN | apply below_drew1) | exact HB.out)) hb); clear HB; have HB := n0_; clear n0_; (try clear hb); (try clear hb2); (try clear hk); (try clear hi)) | (go_at_call 27; (with_reducible refine (wimpleref1_May.calls kj8 a1 true _ A41.out).mono ?_); rintro e w45 ⟨rfl, hb⟩; have n0_ := Aside0.mk (below_step (by repeat (first | (with_reducible first | exact HB.out | apply below_alloc | apply pw_below_drewN | apply below_drew1) | exact HB.out)) hb); clear HB; have HB := n0_; clear n0_; (try clear hb); (try clear hb2); (try clear hk); (try clear hi)) | (go_at_call 27; (with_reducible refine (wimpleref1_May.calls kj8 a2 t270 _ A43.out).mono ?_); rintro e w46 ⟨rfl, hb⟩; have n0_ := Aside0.mk (below_step (by repeat (first | (with_reducible first | exact HB.out | apply below_alloc | apply pw_below_drewN | apply below_drew1) | exact HB.out)) hb); clear HB; have HB := n0_; clear n0_; (try clear hb); (try clear hb2); (try clear hk); (try clear hi)))
              go_meet
              case rel => exact ⟨_, (!t270), (by first | rfl | (simp; done) | (simp [*]; done) | (simp [ByteArray.size_append]; exact Iff.rfl)), H', ⟨by have := HJ8.out; first | omega | exact Nat.le_refl _⟩, ⟨by repeat (first | (with_reducible first | exact HB.out | apply below_alloc | apply pw_below_drewN | apply below_drew1) | exact HB.out)⟩⟩
            · replace c42 := Bool.eq_false_iff.mpr c42
              subst c42
              have H1 : (wimplelaw2_RelRules.j1 kj8 a0 a1 a2 true) = some r := by rw [if_neg (show ¬ (false = true) by decide)] at H; exact H
              clear H
              have H := H1
              clear H1
              have H' := Aside0.mk H
              clear H
              go_wp2_with (first | ((with_reducible refine gate_callee (f := 27) rfl ?_); refine goesL_ (some 55) rfl rfl Try.func27 (by kernel_rfl) rfl #[.string a0] rfl (by (try simp only [List.map_toArray, List.map_cons, List.map_nil]); first | done | rfl | (simp only [List.length_drop, List.length_take]; rfl)) ?_; (with_reducible refine (wimpleref1_May.calls kj8 a0 true _ A39.out).mono ?_); rintro e w47 ⟨rfl, hb⟩; refine ⟨_, rfl, ?_⟩; have n0_ := Aside0.mk (below_step (by repeat (first | (with_reducible first | exact HB.out | apply below_alloc | apply pw_below_drewN | apply below_drew1) | exact HB.out)) hb); clear HB; have HB := n0_; clear n0_; (try clear hb); (try clear hb2); (try clear hk); (try clear hi)) | (go_at_call 27; (with_reducible refine (wimpleref1_May.calls kj8 a1 false _ A41.out).mono ?_); rintro e w48 ⟨rfl, hb⟩; have n0_ := Aside0.mk (below_step (by repeat (first | (with_reducible first | exact HB.out | apply below_alloc | apply pw_below_drewN | apply below_drew1) | exact HB.out)) hb); clear HB; have HB := n0_; clear n0_; (try clear hb); (try clear hb2); (try clear hk); (try clear hi)))
              go_meet
              case rel => exact ⟨_, (true), (by first | rfl | (simp; done) | (simp [*]; done) | (simp [ByteArray.size_append]; exact Iff.rfl)), H', ⟨by have := HJ8.out; first | omega | exact Nat.le_refl _⟩, ⟨by repeat (first | (with_reducible first | exact HB.out | apply below_alloc | apply pw_below_drewN | apply below_drew1) | exact HB.out)⟩⟩
          · replace c40 := Bool.eq_false_iff.mpr c40
            subst c40
            have H1 : (wimplelaw2_RelRules.j1 kj8 a0 a1 a2 true) = some r := by rw [if_neg (show ¬ (false = true) by decide)] at H; exact H
            clear H
            have H := H1
            clear H1
            have H' := Aside0.mk H
            clear H
            go_wp2_with (first | ((with_reducible refine gate_callee (f := 27) rfl ?_); refine goesL_ (some 55) rfl rfl Try.func27 (by kernel_rfl) rfl #[.string a0] rfl (by (try simp only [List.map_toArray, List.map_cons, List.map_nil]); first | done | rfl | (simp only [List.length_drop, List.length_take]; rfl)) ?_; (with_reducible refine (wimpleref1_May.calls kj8 a0 false _ A39.out).mono ?_); rintro e w49 ⟨rfl, hb⟩; refine ⟨_, rfl, ?_⟩; have n0_ := Aside0.mk (below_step (by repeat (first | (with_reducible first | exact HB.out | apply below_alloc | apply pw_below_drewN | apply below_drew1) | exact HB.out)) hb); clear HB; have HB := n0_; clear n0_; (try clear hb); (try clear hb2); (try clear hk); (try clear hi)))
            go_meet
            case rel => exact ⟨_, (true), (by first | rfl | (simp; done) | (simp [*]; done) | (simp [ByteArray.size_append]; exact Iff.rfl)), H', ⟨by have := HJ8.out; first | omega | exact Nat.le_refl _⟩, ⟨by repeat (first | (with_reducible first | exact HB.out | apply below_alloc | apply pw_below_drewN | apply below_drew1) | exact HB.out)⟩⟩
        case rest =>
          clear HC38
          try clear c1
          try clear c2
          try clear p2
          try clear c4
          try clear c6
          try clear c11
          try clear c12
          try clear c12b0
          try clear c12b1
          try clear c15
          try clear c15b0
          try clear c15b1
          try clear c16
          try clear c16b0
          try clear c16b1
          try clear c18
          try clear c20
          try clear c23
          try clear c25
          try clear c25b0
          try clear c25b1
          try clear c26
          try clear c27
          try clear c40
          try clear c42
          try clear p2
          obtain ⟨kq, x66_37, rfl, HA, HJ37, HB⟩ := hcut
          cases kq with
          | zero => exact absurd HA.out (by simp [wimplelaw2_RelRules.j1])
          | succ kj37 =>
            have H := HA.out
            clear HA
            simp only [wimplelaw2_RelRules.j1] at H
            by_cases c50 : x66_37 = true
            · subst c50
              have H1 : (some true) = some r := by rw [if_pos rfl] at H; exact H
              clear H
              have H := H1
              clear H1
              obtain rfl := Option.some.inj H
              go_wp2
              go_ret
              exact ⟨by first | rfl | (simp [errW_none, errW_some] <;> rfl) | (simp [*, errW_none, errW_some] <;> rfl), by repeat (first | (with_reducible first | exact HB.out | apply below_alloc | apply pw_below_drewN | apply below_drew1) | exact HB.out)⟩
            · replace c50 := Bool.eq_false_iff.mpr c50
              subst c50
              have H1 : ((rel_Compare.f kj37 a0 a1).bind fun t271 => ((rel_Compare.f kj37 a1 a0).bind fun t272 => (if t271 = (wrap64 (-t272)) then ((rel_Same.f kj37 a0 a1).bind fun t273 => ((rel_Compare.f kj37 a0 a1).bind fun t274 => (if (t273 != (t274 == 0)) = true then (wimplelaw2_RelRules.j2 kj37 a0 a1 a2 true) else ((rel_Above.f kj37 (⟨#[0]⟩ : ByteArray) a0).bind fun t275 => (if t275 = true then ((rel_Fold.f kj37 a0).bind fun t276 => ((rel_Fold.f kj37 t276).bind fun t277 => ((rel_Fold.f kj37 a0).bind fun t278 => (if t277.toList = t278.toList then ((rel_Fold.f kj37 a0).bind fun t279 => ((rel_Same.f kj37 a0 t279).bind fun t280 => (wimplelaw2_RelRules.j2 kj37 a0 a1 a2 (!t280)))) else (wimplelaw2_RelRules.j2 kj37 a0 a1 a2 true))))) else (wimplelaw2_RelRules.j2 kj37 a0 a1 a2 true)))))) else (wimplelaw2_RelRules.j2 kj37 a0 a1 a2 true)))) = some r := by rw [if_neg (show ¬ (false = true) by decide)] at H; exact H
              clear H
              have H := H1
              clear H1
              have HC51 := Aside0.mk H
              clear H
              go_upto_region 10 with (fail)
              go_cut [104] (fun v104 wc => ∃ (kq : Nat) (x104_50 : Bool), v104 = .bool x104_50 ∧ Aside0 (wimplelaw2_RelRules.j2 kq a0 a1 a2 x104_50 = some r) ∧ Aside0 (kq ≤ kj37) ∧ Aside0 (Below w.heap.size w wc))
              case first =>
                have H := HC51.out
                clear HC51
                replace H := Option.bind_eq_some_iff.mp H
                obtain ⟨t271, A520, H⟩ := H
                replace H : ((rel_Compare.f kj37 a1 a0).bind fun t272 => (if t271 = (wrap64 (-t272)) then ((rel_Same.f kj37 a0 a1).bind fun t273 => ((rel_Compare.f kj37 a0 a1).bind fun t274 => (if (t273 != (t274 == 0)) = true then (wimplelaw2_RelRules.j2 kj37 a0 a1 a2 true) else ((rel_Above.f kj37 (⟨#[0]⟩ : ByteArray) a0).bind fun t275 => (if t275 = true then ((rel_Fold.f kj37 a0).bind fun t276 => ((rel_Fold.f kj37 t276).bind fun t277 => ((rel_Fold.f kj37 a0).bind fun t278 => (if t277.toList = t278.toList then ((rel_Fold.f kj37 a0).bind fun t279 => ((rel_Same.f kj37 a0 t279).bind fun t280 => (wimplelaw2_RelRules.j2 kj37 a0 a1 a2 (!t280)))) else (wimplelaw2_RelRules.j2 kj37 a0 a1 a2 true))))) else (wimplelaw2_RelRules.j2 kj37 a0 a1 a2 true)))))) else (wimplelaw2_RelRules.j2 kj37 a0 a1 a2 true))) = some r := H
                have A52 := Aside0.mk A520
                clear A520
                replace H := Option.bind_eq_some_iff.mp H
                obtain ⟨t272, A530, H⟩ := H
                replace H : (if t271 = (wrap64 (-t272)) then ((rel_Same.f kj37 a0 a1).bind fun t273 => ((rel_Compare.f kj37 a0 a1).bind fun t274 => (if (t273 != (t274 == 0)) = true then (wimplelaw2_RelRules.j2 kj37 a0 a1 a2 true) else ((rel_Above.f kj37 (⟨#[0]⟩ : ByteArray) a0).bind fun t275 => (if t275 = true then ((rel_Fold.f kj37 a0).bind fun t276 => ((rel_Fold.f kj37 t276).bind fun t277 => ((rel_Fold.f kj37 a0).bind fun t278 => (if t277.toList = t278.toList then ((rel_Fold.f kj37 a0).bind fun t279 => ((rel_Same.f kj37 a0 t279).bind fun t280 => (wimplelaw2_RelRules.j2 kj37 a0 a1 a2 (!t280)))) else (wimplelaw2_RelRules.j2 kj37 a0 a1 a2 true))))) else (wimplelaw2_RelRules.j2 kj37 a0 a1 a2 true)))))) else (wimplelaw2_RelRules.j2 kj37 a0 a1 a2 true)) = some r := H
                have A53 := Aside0.mk A530
                clear A530
                by_cases c54 : t271 = (wrap64 (-t272))
                · rw [if_pos c54] at H
                  have c54b0 : (t271 == (wrap64 (-t272))) = true := beq_iff_eq.mpr c54
                  have c54b1 : (t271 != (wrap64 (-t272))) = false := bne_eq_false_iff_eq.mpr c54
                  clear c54
                  (first | rw [c54b0] | (simp only [i64_w, i32_w]; rw [c54b0]) | skip)
                  replace H := Option.bind_eq_some_iff.mp H
                  obtain ⟨t273, A550, H⟩ := H
                  replace H : ((rel_Compare.f kj37 a0 a1).bind fun t274 => (if (t273 != (t274 == 0)) = true then (wimplelaw2_RelRules.j2 kj37 a0 a1 a2 true) else ((rel_Above.f kj37 (⟨#[0]⟩ : ByteArray) a0).bind fun t275 => (if t275 = true then ((rel_Fold.f kj37 a0).bind fun t276 => ((rel_Fold.f kj37 t276).bind fun t277 => ((rel_Fold.f kj37 a0).bind fun t278 => (if t277.toList = t278.toList then ((rel_Fold.f kj37 a0).bind fun t279 => ((rel_Same.f kj37 a0 t279).bind fun t280 => (wimplelaw2_RelRules.j2 kj37 a0 a1 a2 (!t280)))) else (wimplelaw2_RelRules.j2 kj37 a0 a1 a2 true))))) else (wimplelaw2_RelRules.j2 kj37 a0 a1 a2 true))))) = some r := H
                  have A55 := Aside0.mk A550
                  clear A550
                  replace H := Option.bind_eq_some_iff.mp H
                  obtain ⟨t274, A560, H⟩ := H
                  replace H : (if (t273 != (t274 == 0)) = true then (wimplelaw2_RelRules.j2 kj37 a0 a1 a2 true) else ((rel_Above.f kj37 (⟨#[0]⟩ : ByteArray) a0).bind fun t275 => (if t275 = true then ((rel_Fold.f kj37 a0).bind fun t276 => ((rel_Fold.f kj37 t276).bind fun t277 => ((rel_Fold.f kj37 a0).bind fun t278 => (if t277.toList = t278.toList then ((rel_Fold.f kj37 a0).bind fun t279 => ((rel_Same.f kj37 a0 t279).bind fun t280 => (wimplelaw2_RelRules.j2 kj37 a0 a1 a2 (!t280)))) else (wimplelaw2_RelRules.j2 kj37 a0 a1 a2 true))))) else (wimplelaw2_RelRules.j2 kj37 a0 a1 a2 true)))) = some r := H
                  have A56 := Aside0.mk A560
                  clear A560
                  obtain rfl : t271 = t274 := Option.some.inj (A52.out.symm.trans A56.out)
                  by_cases c57 : (t273 != (t271 == 0)) = true
                  · rw [if_pos c57] at H
                    have c57b0 : (t273 != (t271 == 0)) = true := c57
                    (try (have c57b1 : decide (t273 = (t271 == 0)) = false := by simpa using c57))
                    (try (have c57b2 : (t273 == (t271 == 0)) = false := by simpa using c57))
                    (try (have c57b3 : ¬ (t273 = (t271 == 0)) := by simpa using c57))
                    clear c57
                    have H' := Aside0.mk H
                    clear H
                    go_wp2_with (first | ((with_reducible refine gate_callee (f := 24) rfl ?_); refine goesL_ (some 69) rfl rfl Try.func24 (by kernel_rfl) rfl #[.string a0, .string a1] rfl (by (try simp only [List.map_toArray, List.map_cons, List.map_nil]); first | done | rfl | (simp only [List.length_drop, List.length_take]; rfl)) ?_; (with_reducible refine (rel_Compare.calls kj37 a0 a1 t271 _ A52.out).mono ?_); rintro e w58 ⟨rfl, hb⟩; refine ⟨_, rfl, ?_⟩; have n0_ := Aside0.mk (below_step (by repeat (first | (with_reducible first | exact HB.out | apply below_alloc | apply pw_below_drewN | apply below_drew1) | exact HB.out)) hb); clear HB; have HB := n0_; clear n0_; (try clear hb); (try clear hb2); (try clear hk); (try clear hi)) | ((with_reducible refine gate_callee (f := 24) rfl ?_); refine goesL_ (some 72) rfl rfl Try.func24 (by kernel_rfl) rfl #[.string a1, .string a0] rfl (by (try simp only [List.map_toArray, List.map_cons, List.map_nil]); first | done | rfl | (simp only [List.length_drop, List.length_take]; rfl)) ?_; (with_reducible refine (rel_Compare.calls kj37 a1 a0 t272 _ A53.out).mono ?_); rintro e w59 ⟨rfl, hb⟩; refine ⟨_, rfl, ?_⟩; have n0_ := Aside0.mk (below_step (by repeat (first | (with_reducible first | exact HB.out | apply below_alloc | apply pw_below_drewN | apply below_drew1) | exact HB.out)) hb); clear HB; have HB := n0_; clear n0_; (try clear hb); (try clear hb2); (try clear hk); (try clear hi)) | (go_at_call 19; (with_reducible refine (rel_Same.calls kj37 a0 a1 t273 _ A55.out).mono ?_); rintro e w60 ⟨rfl, hb⟩; have n0_ := Aside0.mk (below_step (by repeat (first | (with_reducible first | exact HB.out | apply below_alloc | apply pw_below_drewN | apply below_drew1) | exact HB.out)) hb); clear HB; have HB := n0_; clear n0_; (try clear hb); (try clear hb2); (try clear hk); (try clear hi)) | (go_at_call 24; (with_reducible refine (rel_Compare.calls kj37 a0 a1 t271 _ A56.out).mono ?_); rintro e w61 ⟨rfl, hb⟩; have n0_ := Aside0.mk (below_step (by repeat (first | (with_reducible first | exact HB.out | apply below_alloc | apply pw_below_drewN | apply below_drew1) | exact HB.out)) hb); clear HB; have HB := n0_; clear n0_; (try clear hb); (try clear hb2); (try clear hk); (try clear hi)))
                    go_meet
                    case rel => exact ⟨_, (true), (by first | rfl | (simp; done) | (simp [*]; done) | (simp [ByteArray.size_append]; exact Iff.rfl)), H', ⟨by have := HJ8.out; have := HJ37.out; first | omega | exact Nat.le_refl _⟩, ⟨by repeat (first | (with_reducible first | exact HB.out | apply below_alloc | apply pw_below_drewN | apply below_drew1) | exact HB.out)⟩⟩
                  · rw [if_neg c57] at H
                    have c57b0 : (t273 != (t271 == 0)) = false := by simpa using c57
                    (try (have c57b1 : decide (t273 = (t271 == 0)) = true := by simpa using c57))
                    (try (have c57b2 : (t273 == (t271 == 0)) = true := by simpa using c57))
                    clear c57
                    replace H := Option.bind_eq_some_iff.mp H
                    obtain ⟨t275, A620, H⟩ := H
                    replace H : (if t275 = true then ((rel_Fold.f kj37 a0).bind fun t276 => ((rel_Fold.f kj37 t276).bind fun t277 => ((rel_Fold.f kj37 a0).bind fun t278 => (if t277.toList = t278.toList then ((rel_Fold.f kj37 a0).bind fun t279 => ((rel_Same.f kj37 a0 t279).bind fun t280 => (wimplelaw2_RelRules.j2 kj37 a0 a1 a2 (!t280)))) else (wimplelaw2_RelRules.j2 kj37 a0 a1 a2 true))))) else (wimplelaw2_RelRules.j2 kj37 a0 a1 a2 true)) = some r := H
                    have A62 := Aside0.mk A620
                    clear A620
                    by_cases c63 : t275 = true
                    · subst c63
                      have H1 : ((rel_Fold.f kj37 a0).bind fun t276 => ((rel_Fold.f kj37 t276).bind fun t277 => ((rel_Fold.f kj37 a0).bind fun t278 => (if t277.toList = t278.toList then ((rel_Fold.f kj37 a0).bind fun t279 => ((rel_Same.f kj37 a0 t279).bind fun t280 => (wimplelaw2_RelRules.j2 kj37 a0 a1 a2 (!t280)))) else (wimplelaw2_RelRules.j2 kj37 a0 a1 a2 true))))) = some r := by rw [if_pos rfl] at H; exact H
                      clear H
                      have H := H1
                      clear H1
                      replace H := Option.bind_eq_some_iff.mp H
                      obtain ⟨t276, A640, H⟩ := H
                      replace H : ((rel_Fold.f kj37 t276).bind fun t277 => ((rel_Fold.f kj37 a0).bind fun t278 => (if t277.toList = t278.toList then ((rel_Fold.f kj37 a0).bind fun t279 => ((rel_Same.f kj37 a0 t279).bind fun t280 => (wimplelaw2_RelRules.j2 kj37 a0 a1 a2 (!t280)))) else (wimplelaw2_RelRules.j2 kj37 a0 a1 a2 true)))) = some r := H
                      have A64 := Aside0.mk A640
                      clear A640
                      replace H := Option.bind_eq_some_iff.mp H
                      obtain ⟨t277, A650, H⟩ := H
                      replace H : ((rel_Fold.f kj37 a0).bind fun t278 => (if t277.toList = t278.toList then ((rel_Fold.f kj37 a0).bind fun t279 => ((rel_Same.f kj37 a0 t279).bind fun t280 => (wimplelaw2_RelRules.j2 kj37 a0 a1 a2 (!t280)))) else (wimplelaw2_RelRules.j2 kj37 a0 a1 a2 true))) = some r := H
                      have A65 := Aside0.mk A650
                      clear A650
                      replace H := Option.bind_eq_some_iff.mp H
                      obtain ⟨t278, A660, H⟩ := H
                      replace H : (if t277.toList = t278.toList then ((rel_Fold.f kj37 a0).bind fun t279 => ((rel_Same.f kj37 a0 t279).bind fun t280 => (wimplelaw2_RelRules.j2 kj37 a0 a1 a2 (!t280)))) else (wimplelaw2_RelRules.j2 kj37 a0 a1 a2 true)) = some r := H
                      have A66 := Aside0.mk A660
                      clear A660
                      obtain rfl : t276 = t278 := Option.some.inj (A64.out.symm.trans A66.out)
                      by_cases c67 : t277.toList = t276.toList
                      · rw [if_pos c67] at H
                        have c67b0 : (t277.toList == t276.toList) = true := beq_iff_eq.mpr c67
                        have c67b1 : (t277.toList != t276.toList) = false := bne_eq_false_iff_eq.mpr c67
                        clear c67
                        replace H := Option.bind_eq_some_iff.mp H
                        obtain ⟨t279, A680, H⟩ := H
                        replace H : ((rel_Same.f kj37 a0 t279).bind fun t280 => (wimplelaw2_RelRules.j2 kj37 a0 a1 a2 (!t280))) = some r := H
                        have A68 := Aside0.mk A680
                        clear A680
                        obtain rfl : t276 = t279 := Option.some.inj (A64.out.symm.trans A68.out)
                        replace H := Option.bind_eq_some_iff.mp H
                        obtain ⟨t280, A690, H⟩ := H
                        replace H : (wimplelaw2_RelRules.j2 kj37 a0 a1 a2 (!t280)) = some r := H
                        have A69 := Aside0.mk A690
                        clear A690
                        have H' := Aside0.mk H
                        clear H
                        go_wp2_with (first | ((with_reducible refine gate_callee (f := 24) rfl ?_); refine goesL_ (some 69) rfl rfl Try.func24 (by kernel_rfl) rfl #[.string a0, .string a1] rfl (by (try simp only [List.map_toArray, List.map_cons, List.map_nil]); first | done | rfl | (simp only [List.length_drop, List.length_take]; rfl)) ?_; (with_reducible refine (rel_Compare.calls kj37 a0 a1 t271 _ A52.out).mono ?_); rintro e w70 ⟨rfl, hb⟩; refine ⟨_, rfl, ?_⟩; have n0_ := Aside0.mk (below_step (by repeat (first | (with_reducible first | exact HB.out | apply below_alloc | apply pw_below_drewN | apply below_drew1) | exact HB.out)) hb); clear HB; have HB := n0_; clear n0_; (try clear hb); (try clear hb2); (try clear hk); (try clear hi)) | ((with_reducible refine gate_callee (f := 24) rfl ?_); refine goesL_ (some 72) rfl rfl Try.func24 (by kernel_rfl) rfl #[.string a1, .string a0] rfl (by (try simp only [List.map_toArray, List.map_cons, List.map_nil]); first | done | rfl | (simp only [List.length_drop, List.length_take]; rfl)) ?_; (with_reducible refine (rel_Compare.calls kj37 a1 a0 t272 _ A53.out).mono ?_); rintro e w71 ⟨rfl, hb⟩; refine ⟨_, rfl, ?_⟩; have n0_ := Aside0.mk (below_step (by repeat (first | (with_reducible first | exact HB.out | apply below_alloc | apply pw_below_drewN | apply below_drew1) | exact HB.out)) hb); clear HB; have HB := n0_; clear n0_; (try clear hb); (try clear hb2); (try clear hk); (try clear hi)) | (go_at_call 19; (with_reducible refine (rel_Same.calls kj37 a0 a1 t273 _ A55.out).mono ?_); rintro e w72 ⟨rfl, hb⟩; have n0_ := Aside0.mk (below_step (by repeat (first | (with_reducible first | exact HB.out | apply below_alloc | apply pw_below_drewN | apply below_drew1) | exact HB.out)) hb); clear HB; have HB := n0_; clear n0_; (try clear hb); (try clear hb2); (try clear hk); (try clear hi)) | (go_at_call 24; (with_reducible refine (rel_Compare.calls kj37 a0 a1 t271 _ A56.out).mono ?_); rintro e w73 ⟨rfl, hb⟩; have n0_ := Aside0.mk (below_step (by repeat (first | (with_reducible first | exact HB.out | apply below_alloc | apply pw_below_drewN | apply below_drew1) | exact HB.out)) hb); clear HB; have HB := n0_; clear n0_; (try clear hb); (try clear hb2); (try clear hk); (try clear hi)) | (go_at_call 21; (with_reducible refine (rel_Above.calls kj37 (⟨#[0]⟩ : ByteArray) a0 true _ A62.out).mono ?_); rintro e w74 ⟨rfl, hb⟩; have n0_ := Aside0.mk (below_step (by repeat (first | (with_reducible first | exact HB.out | apply below_alloc | apply pw_below_drewN | apply below_drew1) | exact HB.out)) hb); clear HB; have HB := n0_; clear n0_; (try clear hb); (try clear hb2); (try clear hk); (try clear hi)) | (go_at_call 17; (with_reducible refine (rel_Fold.calls kj37 a0 t276 _ A64.out).mono ?_); rintro e w75 ⟨rfl, hb⟩; have n0_ := Aside0.mk (below_step (by repeat (first | (with_reducible first | exact HB.out | apply below_alloc | apply pw_below_drewN | apply below_drew1) | exact HB.out)) hb); clear HB; have HB := n0_; clear n0_; (try clear hb); (try clear hb2); (try clear hk); (try clear hi)) | (go_at_call 17; (with_reducible refine (rel_Fold.calls kj37 t276 t277 _ A65.out).mono ?_); rintro e w76 ⟨rfl, hb⟩; have n0_ := Aside0.mk (below_step (by repeat (first | (with_reducible first | exact HB.out | apply below_alloc | apply pw_below_drewN | apply below_drew1) | exact HB.out)) hb); clear HB; have HB := n0_; clear n0_; (try clear hb); (try clear hb2); (try clear hk); (try clear hi)) | (go_at_call 17; (with_reducible refine (rel_Fold.calls kj37 a0 t276 _ A66.out).mono ?_); rintro e w77 ⟨rfl, hb⟩; have n0_ := Aside0.mk (below_step (by repeat (first | (with_reducible first | exact HB.out | apply below_alloc | apply pw_below_drewN | apply below_drew1) | exact HB.out)) hb); clear HB; have HB := n0_; clear n0_; (try clear hb); (try clear hb2); (try clear hk); (try clear hi)) | (go_at_call 17; (with_reducible refine (rel_Fold.calls kj37 a0 t276 _ A68.out).mono ?_); rintro e w78 ⟨rfl, hb⟩; have n0_ := Aside0.mk (below_step (by repeat (first | (with_reducible first | exact HB.out | apply below_alloc | apply pw_below_drewN | apply below_drew1) | exact HB.out)) hb); clear HB; have HB := n0_; clear n0_; (try clear hb); (try clear hb2); (try clear hk); (try clear hi)) | (go_at_call 19; (with_reducible refine (rel_Same.calls kj37 a0 t276 t280 _ A69.out).mono ?_); rintro e w79 ⟨rfl, hb⟩; have n0_ := Aside0.mk (below_step (by repeat (first | (with_reducible first | exact HB.out | apply below_alloc | apply pw_below_drewN | apply below_drew1) | exact HB.out)) hb); clear HB; have HB := n0_; clear n0_; (try clear hb); (try clear hb2); (try clear hk); (try clear hi)))
                        go_meet
                        case rel => exact ⟨_, (!t280), (by first | rfl | (simp; done) | (simp [*]; done) | (simp [ByteArray.size_append]; exact Iff.rfl)), H', ⟨by have := HJ8.out; have := HJ37.out; first | omega | exact Nat.le_refl _⟩, ⟨by repeat (first | (with_reducible first | exact HB.out | apply below_alloc | apply pw_below_drewN | apply below_drew1) | exact HB.out)⟩⟩
                      · rw [if_neg c67] at H
                        have c67b0 : (t277.toList == t276.toList) = false := beq_eq_false_iff_ne.mpr c67
                        have c67b1 : (t277.toList != t276.toList) = true := bne_iff_ne.mpr c67
                        have H' := Aside0.mk H
                        clear H
                        go_wp2_with (first | ((with_reducible refine gate_callee (f := 24) rfl ?_); refine goesL_ (some 69) rfl rfl Try.func24 (by kernel_rfl) rfl #[.string a0, .string a1] rfl (by (try simp only [List.map_toArray, List.map_cons, List.map_nil]); first | done | rfl | (simp only [List.length_drop, List.length_take]; rfl)) ?_; (with_reducible refine (rel_Compare.calls kj37 a0 a1 t271 _ A52.out).mono ?_); rintro e w80 ⟨rfl, hb⟩; refine ⟨_, rfl, ?_⟩; have n0_ := Aside0.mk (below_step (by repeat (first | (with_reducible first | exact HB.out | apply below_alloc | apply pw_below_drewN | apply below_drew1) | exact HB.out)) hb); clear HB; have HB := n0_; clear n0_; (try clear hb); (try clear hb2); (try clear hk); (try clear hi)) | ((with_reducible refine gate_callee (f := 24) rfl ?_); refine goesL_ (some 72) rfl rfl Try.func24 (by kernel_rfl) rfl #[.string a1, .string a0] rfl (by (try simp only [List.map_toArray, List.map_cons, List.map_nil]); first | done | rfl | (simp only [List.length_drop, List.length_take]; rfl)) ?_; (with_reducible refine (rel_Compare.calls kj37 a1 a0 t272 _ A53.out).mono ?_); rintro e w81 ⟨rfl, hb⟩; refine ⟨_, rfl, ?_⟩; have n0_ := Aside0.mk (below_step (by repeat (first | (with_reducible first | exact HB.out | apply below_alloc | apply pw_below_drewN | apply below_drew1) | exact HB.out)) hb); clear HB; have HB := n0_; clear n0_; (try clear hb); (try clear hb2); (try clear hk); (try clear hi)) | (go_at_call 19; (with_reducible refine (rel_Same.calls kj37 a0 a1 t273 _ A55.out).mono ?_); rintro e w82 ⟨rfl, hb⟩; have n0_ := Aside0.mk (below_step (by repeat (first | (with_reducible first | exact HB.out | apply below_alloc | apply pw_below_drewN | apply below_drew1) | exact HB.out)) hb); clear HB; have HB := n0_; clear n0_; (try clear hb); (try clear hb2); (try clear hk); (try clear hi)) | (go_at_call 24; (with_reducible refine (rel_Compare.calls kj37 a0 a1 t271 _ A56.out).mono ?_); rintro e w83 ⟨rfl, hb⟩; have n0_ := Aside0.mk (below_step (by repeat (first | (with_reducible first | exact HB.out | apply below_alloc | apply pw_below_drewN | apply below_drew1) | exact HB.out)) hb); clear HB; have HB := n0_; clear n0_; (try clear hb); (try clear hb2); (try clear hk); (try clear hi)) | (go_at_call 21; (with_reducible refine (rel_Above.calls kj37 (⟨#[0]⟩ : ByteArray) a0 true _ A62.out).mono ?_); rintro e w84 ⟨rfl, hb⟩; have n0_ := Aside0.mk (below_step (by repeat (first | (with_reducible first | exact HB.out | apply below_alloc | apply pw_below_drewN | apply below_drew1) | exact HB.out)) hb); clear HB; have HB := n0_; clear n0_; (try clear hb); (try clear hb2); (try clear hk); (try clear hi)) | (go_at_call 17; (with_reducible refine (rel_Fold.calls kj37 a0 t276 _ A64.out).mono ?_); rintro e w85 ⟨rfl, hb⟩; have n0_ := Aside0.mk (below_step (by repeat (first | (with_reducible first | exact HB.out | apply below_alloc | apply pw_below_drewN | apply below_drew1) | exact HB.out)) hb); clear HB; have HB := n0_; clear n0_; (try clear hb); (try clear hb2); (try clear hk); (try clear hi)) | (go_at_call 17; (with_reducible refine (rel_Fold.calls kj37 t276 t277 _ A65.out).mono ?_); rintro e w86 ⟨rfl, hb⟩; have n0_ := Aside0.mk (below_step (by repeat (first | (with_reducible first | exact HB.out | apply below_alloc | apply pw_below_drewN | apply below_drew1) | exact HB.out)) hb); clear HB; have HB := n0_; clear n0_; (try clear hb); (try clear hb2); (try clear hk); (try clear hi)) | (go_at_call 17; (with_reducible refine (rel_Fold.calls kj37 a0 t276 _ A66.out).mono ?_); rintro e w87 ⟨rfl, hb⟩; have n0_ := Aside0.mk (below_step (by repeat (first | (with_reducible first | exact HB.out | apply below_alloc | apply pw_below_drewN | apply below_drew1) | exact HB.out)) hb); clear HB; have HB := n0_; clear n0_; (try clear hb); (try clear hb2); (try clear hk); (try clear hi)))
                        go_meet
                        case rel => exact ⟨_, (true), (by first | rfl | (simp; done) | (simp [*]; done) | (simp [ByteArray.size_append]; exact Iff.rfl)), H', ⟨by have := HJ8.out; have := HJ37.out; first | omega | exact Nat.le_refl _⟩, ⟨by repeat (first | (with_reducible first | exact HB.out | apply below_alloc | apply pw_below_drewN | apply below_drew1) | exact HB.out)⟩⟩
                    · replace c63 := Bool.eq_false_iff.mpr c63
                      subst c63
                      have H1 : (wimplelaw2_RelRules.j2 kj37 a0 a1 a2 true) = some r := by rw [if_neg (show ¬ (false = true) by decide)] at H; exact H
                      clear H
                      have H := H1
                      clear H1
                      have H' := Aside0.mk H
                      clear H
                      go_wp2_with (first | ((with_reducible refine gate_callee (f := 24) rfl ?_); refine goesL_ (some 69) rfl rfl Try.func24 (by kernel_rfl) rfl #[.string a0, .string a1] rfl (by (try simp only [List.map_toArray, List.map_cons, List.map_nil]); first | done | rfl | (simp only [List.length_drop, List.length_take]; rfl)) ?_; (with_reducible refine (rel_Compare.calls kj37 a0 a1 t271 _ A52.out).mono ?_); rintro e w88 ⟨rfl, hb⟩; refine ⟨_, rfl, ?_⟩; have n0_ := Aside0.mk (below_step (by repeat (first | (with_reducible first | exact HB.out | apply below_alloc | apply pw_below_drewN | apply below_drew1) | exact HB.out)) hb); clear HB; have HB := n0_; clear n0_; (try clear hb); (try clear hb2); (try clear hk); (try clear hi)) | ((with_reducible refine gate_callee (f := 24) rfl ?_); refine goesL_ (some 72) rfl rfl Try.func24 (by kernel_rfl) rfl #[.string a1, .string a0] rfl (by (try simp only [List.map_toArray, List.map_cons, List.map_nil]); first | done | rfl | (simp only [List.length_drop, List.length_take]; rfl)) ?_; (with_reducible refine (rel_Compare.calls kj37 a1 a0 t272 _ A53.out).mono ?_); rintro e w89 ⟨rfl, hb⟩; refine ⟨_, rfl, ?_⟩; have n0_ := Aside0.mk (below_step (by repeat (first | (with_reducible first | exact HB.out | apply below_alloc | apply pw_below_drewN | apply below_drew1) | exact HB.out)) hb); clear HB; have HB := n0_; clear n0_; (try clear hb); (try clear hb2); (try clear hk); (try clear hi)) | (go_at_call 19; (with_reducible refine (rel_Same.calls kj37 a0 a1 t273 _ A55.out).mono ?_); rintro e w90 ⟨rfl, hb⟩; have n0_ := Aside0.mk (below_step (by repeat (first | (with_reducible first | exact HB.out | apply below_alloc | apply pw_below_drewN | apply below_drew1) | exact HB.out)) hb); clear HB; have HB := n0_; clear n0_; (try clear hb); (try clear hb2); (try clear hk); (try clear hi)) | (go_at_call 24; (with_reducible refine (rel_Compare.calls kj37 a0 a1 t271 _ A56.out).mono ?_); rintro e w91 ⟨rfl, hb⟩; have n0_ := Aside0.mk (below_step (by repeat (first | (with_reducible first | exact HB.out | apply below_alloc | apply pw_below_drewN | apply below_drew1) | exact HB.out)) hb); clear HB; have HB := n0_; clear n0_; (try clear hb); (try clear hb2); (try clear hk); (try clear hi)) | (go_at_call 21; (with_reducible refine (rel_Above.calls kj37 (⟨#[0]⟩ : ByteArray) a0 false _ A62.out).mono ?_); rintro e w92 ⟨rfl, hb⟩; have n0_ := Aside0.mk (below_step (by repeat (first | (with_reducible first | exact HB.out | apply below_alloc | apply pw_below_drewN | apply below_drew1) | exact HB.out)) hb); clear HB; have HB := n0_; clear n0_; (try clear hb); (try clear hb2); (try clear hk); (try clear hi)))
                      go_meet
                      case rel => exact ⟨_, (true), (by first | rfl | (simp; done) | (simp [*]; done) | (simp [ByteArray.size_append]; exact Iff.rfl)), H', ⟨by have := HJ8.out; have := HJ37.out; first | omega | exact Nat.le_refl _⟩, ⟨by repeat (first | (with_reducible first | exact HB.out | apply below_alloc | apply pw_below_drewN | apply below_drew1) | exact HB.out)⟩⟩
                · rw [if_neg c54] at H
                  have c54b0 : (t271 == (wrap64 (-t272))) = false := beq_eq_false_iff_ne.mpr c54
                  have c54b1 : (t271 != (wrap64 (-t272))) = true := bne_iff_ne.mpr c54
                  (first | rw [c54b0] | (simp only [i64_w, i32_w]; rw [c54b0]) | skip)
                  have H' := Aside0.mk H
                  clear H
                  go_wp2_with (first | ((with_reducible refine gate_callee (f := 24) rfl ?_); refine goesL_ (some 69) rfl rfl Try.func24 (by kernel_rfl) rfl #[.string a0, .string a1] rfl (by (try simp only [List.map_toArray, List.map_cons, List.map_nil]); first | done | rfl | (simp only [List.length_drop, List.length_take]; rfl)) ?_; (with_reducible refine (rel_Compare.calls kj37 a0 a1 t271 _ A52.out).mono ?_); rintro e w93 ⟨rfl, hb⟩; refine ⟨_, rfl, ?_⟩; have n0_ := Aside0.mk (below_step (by repeat (first | (with_reducible first | exact HB.out | apply below_alloc | apply pw_below_drewN | apply below_drew1) | exact HB.out)) hb); clear HB; have HB := n0_; clear n0_; (try clear hb); (try clear hb2); (try clear hk); (try clear hi)) | ((with_reducible refine gate_callee (f := 24) rfl ?_); refine goesL_ (some 72) rfl rfl Try.func24 (by kernel_rfl) rfl #[.string a1, .string a0] rfl (by (try simp only [List.map_toArray, List.map_cons, List.map_nil]); first | done | rfl | (simp only [List.length_drop, List.length_take]; rfl)) ?_; (with_reducible refine (rel_Compare.calls kj37 a1 a0 t272 _ A53.out).mono ?_); rintro e w94 ⟨rfl, hb⟩; refine ⟨_, rfl, ?_⟩; have n0_ := Aside0.mk (below_step (by repeat (first | (with_reducible first | exact HB.out | apply below_alloc | apply pw_below_drewN | apply below_drew1) | exact HB.out)) hb); clear HB; have HB := n0_; clear n0_; (try clear hb); (try clear hb2); (try clear hk); (try clear hi)))
                  go_meet
                  case rel => exact ⟨_, (true), (by first | rfl | (simp; done) | (simp [*]; done) | (simp [ByteArray.size_append]; exact Iff.rfl)), H', ⟨by have := HJ8.out; have := HJ37.out; first | omega | exact Nat.le_refl _⟩, ⟨by repeat (first | (with_reducible first | exact HB.out | apply below_alloc | apply pw_below_drewN | apply below_drew1) | exact HB.out)⟩⟩
              case rest =>
                clear HC51
                try clear c1
                try clear c2
                try clear p2
                try clear c4
                try clear c5
                try clear c6
                try clear p6
                try clear c11
                try clear c12
                try clear c12b0
                try clear c12b1
                try clear c15
                try clear c15b0
                try clear c15b1
                try clear c16
                try clear c16b0
                try clear c16b1
                try clear c18
                try clear c20
                try clear c23
                try clear c24
                try clear c25
                try clear c25b0
                try clear c25b1
                try clear c26
                try clear c27
                try clear c40
                try clear c42
                try clear c50
                try clear c54
                try clear c54b0
                try clear c54b1
                try clear c57
                try clear c57b0
                try clear c57b1
                try clear c57b2
                try clear c63
                try clear p64
                try clear c67
                try clear c67b0
                try clear c67b1
                try clear p2
                obtain ⟨kq, x104_50, rfl, HA, HJ50, HB⟩ := hcut
                cases kq with
                | zero => exact absurd HA.out (by simp [wimplelaw2_RelRules.j2])
                | succ kj50 =>
                  have H := HA.out
                  clear HA
                  simp only [wimplelaw2_RelRules.j2] at H
                  by_cases c95 : x104_50 = true
                  · subst c95
                    have H1 : (some false) = some r := by rw [if_pos rfl] at H; exact H
                    clear H
                    have H := H1
                    clear H1
                    obtain rfl := Option.some.inj H
                    go_wp2
                    go_ret
                    exact ⟨by first | rfl | (simp [errW_none, errW_some] <;> rfl) | (simp [*, errW_none, errW_some] <;> rfl), by repeat (first | (with_reducible first | exact HB.out | apply below_alloc | apply pw_below_drewN | apply below_drew1) | exact HB.out)⟩
                  · replace c95 := Bool.eq_false_iff.mpr c95
                    subst c95
                    have H1 : ((rel_Compare.f kj50 a0 a1).bind fun t281 => (if t281 ≤ 0 then ((rel_Compare.f kj50 a1 a2).bind fun t282 => (if t282 ≤ 0 then ((rel_Compare.f kj50 a0 a2).bind fun t283 => (wimplelaw2_RelRules.j3 kj50 a0 a1 a2 (decide (t283 > 0)))) else (wimplelaw2_RelRules.j3 kj50 a0 a1 a2 false))) else (wimplelaw2_RelRules.j3 kj50 a0 a1 a2 false))) = some r := by rw [if_neg (show ¬ (false = true) by decide)] at H; exact H
                    clear H
                    have H := H1
                    clear H1
                    have HC96 := Aside0.mk H
                    clear H
                    go_upto_region 12 with (fail)
                    go_cut [120] (fun v120 wc => ∃ (kq : Nat) (x120_95 : Bool), v120 = .bool x120_95 ∧ Aside0 (wimplelaw2_RelRules.j3 kq a0 a1 a2 x120_95 = some r) ∧ Aside0 (kq ≤ kj50) ∧ Aside0 (Below w.heap.size w wc))
                    case first =>
                      have H := HC96.out
                      clear HC96
                      replace H := Option.bind_eq_some_iff.mp H
                      obtain ⟨t281, A970, H⟩ := H
                      replace H : (if t281 ≤ 0 then ((rel_Compare.f kj50 a1 a2).bind fun t282 => (if t282 ≤ 0 then ((rel_Compare.f kj50 a0 a2).bind fun t283 => (wimplelaw2_RelRules.j3 kj50 a0 a1 a2 (decide (t283 > 0)))) else (wimplelaw2_RelRules.j3 kj50 a0 a1 a2 false))) else (wimplelaw2_RelRules.j3 kj50 a0 a1 a2 false)) = some r := H
                      have A97 := Aside0.mk A970
                      clear A970
                      by_cases c98 : t281 ≤ 0
                      · rw [if_pos c98] at H
                        have c98b0 : decide (t281 ≤ 0) = true := decide_eq_true c98
                        clear c98
                        (first | rw [c98b0] | (simp only [i64_w, i32_w]; rw [c98b0]) | skip)
                        replace H := Option.bind_eq_some_iff.mp H
                        obtain ⟨t282, A990, H⟩ := H
                        replace H : (if t282 ≤ 0 then ((rel_Compare.f kj50 a0 a2).bind fun t283 => (wimplelaw2_RelRules.j3 kj50 a0 a1 a2 (decide (t283 > 0)))) else (wimplelaw2_RelRules.j3 kj50 a0 a1 a2 false)) = some r := H
                        have A99 := Aside0.mk A990
                        clear A990
                        by_cases c100 : t282 ≤ 0
                        · rw [if_pos c100] at H
                          have c100b0 : decide (t282 ≤ 0) = true := decide_eq_true c100
                          clear c100
                          replace H := Option.bind_eq_some_iff.mp H
                          obtain ⟨t283, A1010, H⟩ := H
                          replace H : (wimplelaw2_RelRules.j3 kj50 a0 a1 a2 (decide (t283 > 0))) = some r := H
                          have A101 := Aside0.mk A1010
                          clear A1010
                          have H' := Aside0.mk H
                          clear H
                          go_wp2_with (first | ((with_reducible refine gate_callee (f := 24) rfl ?_); refine goesL_ (some 107) rfl rfl Try.func24 (by kernel_rfl) rfl #[.string a0, .string a1] rfl (by (try simp only [List.map_toArray, List.map_cons, List.map_nil]); first | done | rfl | (simp only [List.length_drop, List.length_take]; rfl)) ?_; (with_reducible refine (rel_Compare.calls kj50 a0 a1 t281 _ A97.out).mono ?_); rintro e w102 ⟨rfl, hb⟩; refine ⟨_, rfl, ?_⟩; have n0_ := Aside0.mk (below_step (by repeat (first | (with_reducible first | exact HB.out | apply below_alloc | apply pw_below_drewN | apply below_drew1) | exact HB.out)) hb); clear HB; have HB := n0_; clear n0_; (try clear hb); (try clear hb2); (try clear hk); (try clear hi)) | (go_at_call 24; (with_reducible refine (rel_Compare.calls kj50 a1 a2 t282 _ A99.out).mono ?_); rintro e w103 ⟨rfl, hb⟩; have n0_ := Aside0.mk (below_step (by repeat (first | (with_reducible first | exact HB.out | apply below_alloc | apply pw_below_drewN | apply below_drew1) | exact HB.out)) hb); clear HB; have HB := n0_; clear n0_; (try clear hb); (try clear hb2); (try clear hk); (try clear hi)) | (go_at_call 24; (with_reducible refine (rel_Compare.calls kj50 a0 a2 t283 _ A101.out).mono ?_); rintro e w104 ⟨rfl, hb⟩; have n0_ := Aside0.mk (below_step (by repeat (first | (with_reducible first | exact HB.out | apply below_alloc | apply pw_below_drewN | apply below_drew1) | exact HB.out)) hb); clear HB; have HB := n0_; clear n0_; (try clear hb); (try clear hb2); (try clear hk); (try clear hi)))
                          go_meet
                          case rel => exact ⟨_, (decide (t283 > 0)), (by first | rfl | (simp; done) | (simp [*]; done) | (simp [ByteArray.size_append]; exact Iff.rfl)), H', ⟨by have := HJ8.out; have := HJ37.out; have := HJ50.out; first | omega | exact Nat.le_refl _⟩, ⟨by repeat (first | (with_reducible first | exact HB.out | apply below_alloc | apply pw_below_drewN | apply below_drew1) | exact HB.out)⟩⟩
                        · rw [if_neg c100] at H
                          have c100b0 : decide (t282 ≤ 0) = false := decide_eq_false c100
                          clear c100
                          have H' := Aside0.mk H
                          clear H
                          go_wp2_with (first | ((with_reducible refine gate_callee (f := 24) rfl ?_); refine goesL_ (some 107) rfl rfl Try.func24 (by kernel_rfl) rfl #[.string a0, .string a1] rfl (by (try simp only [List.map_toArray, List.map_cons, List.map_nil]); first | done | rfl | (simp only [List.length_drop, List.length_take]; rfl)) ?_; (with_reducible refine (rel_Compare.calls kj50 a0 a1 t281 _ A97.out).mono ?_); rintro e w105 ⟨rfl, hb⟩; refine ⟨_, rfl, ?_⟩; have n0_ := Aside0.mk (below_step (by repeat (first | (with_reducible first | exact HB.out | apply below_alloc | apply pw_below_drewN | apply below_drew1) | exact HB.out)) hb); clear HB; have HB := n0_; clear n0_; (try clear hb); (try clear hb2); (try clear hk); (try clear hi)) | (go_at_call 24; (with_reducible refine (rel_Compare.calls kj50 a1 a2 t282 _ A99.out).mono ?_); rintro e w106 ⟨rfl, hb⟩; have n0_ := Aside0.mk (below_step (by repeat (first | (with_reducible first | exact HB.out | apply below_alloc | apply pw_below_drewN | apply below_drew1) | exact HB.out)) hb); clear HB; have HB := n0_; clear n0_; (try clear hb); (try clear hb2); (try clear hk); (try clear hi)))
                          go_meet
                          case rel => exact ⟨_, (false), (by first | rfl | (simp; done) | (simp [*]; done) | (simp [ByteArray.size_append]; exact Iff.rfl)), H', ⟨by have := HJ8.out; have := HJ37.out; have := HJ50.out; first | omega | exact Nat.le_refl _⟩, ⟨by repeat (first | (with_reducible first | exact HB.out | apply below_alloc | apply pw_below_drewN | apply below_drew1) | exact HB.out)⟩⟩
                      · rw [if_neg c98] at H
                        have c98b0 : decide (t281 ≤ 0) = false := decide_eq_false c98
                        clear c98
                        (first | rw [c98b0] | (simp only [i64_w, i32_w]; rw [c98b0]) | skip)
                        have H' := Aside0.mk H
                        clear H
                        go_wp2_with (first | ((with_reducible refine gate_callee (f := 24) rfl ?_); refine goesL_ (some 107) rfl rfl Try.func24 (by kernel_rfl) rfl #[.string a0, .string a1] rfl (by (try simp only [List.map_toArray, List.map_cons, List.map_nil]); first | done | rfl | (simp only [List.length_drop, List.length_take]; rfl)) ?_; (with_reducible refine (rel_Compare.calls kj50 a0 a1 t281 _ A97.out).mono ?_); rintro e w107 ⟨rfl, hb⟩; refine ⟨_, rfl, ?_⟩; have n0_ := Aside0.mk (below_step (by repeat (first | (with_reducible first | exact HB.out | apply below_alloc | apply pw_below_drewN | apply below_drew1) | exact HB.out)) hb); clear HB; have HB := n0_; clear n0_; (try clear hb); (try clear hb2); (try clear hk); (try clear hi)))
                        go_meet
                        case rel => exact ⟨_, (false), (by first | rfl | (simp; done) | (simp [*]; done) | (simp [ByteArray.size_append]; exact Iff.rfl)), H', ⟨by have := HJ8.out; have := HJ37.out; have := HJ50.out; first | omega | exact Nat.le_refl _⟩, ⟨by repeat (first | (with_reducible first | exact HB.out | apply below_alloc | apply pw_below_drewN | apply below_drew1) | exact HB.out)⟩⟩
                    case rest =>
                      clear HC96
                      try clear c1
                      try clear c2
                      try clear p2
                      try clear c4
                      try clear c5
                      try clear c6
                      try clear p6
                      try clear c9
                      try clear c10
                      try clear c11
                      try clear c12
                      try clear c12b0
                      try clear c12b1
                      try clear c15
                      try clear c15b0
                      try clear c15b1
                      try clear c16
                      try clear c16b0
                      try clear c16b1
                      try clear c18
                      try clear c20
                      try clear c23
                      try clear c24
                      try clear c25
                      try clear c25b0
                      try clear c25b1
                      try clear c26
                      try clear c27
                      try clear c40
                      try clear c42
                      try clear c50
                      try clear c54
                      try clear c54b0
                      try clear c54b1
                      try clear c57
                      try clear c57b0
                      try clear c57b1
                      try clear c57b2
                      try clear c63
                      try clear p64
                      try clear c67
                      try clear c67b0
                      try clear c67b1
                      try clear c95
                      try clear c98
                      try clear c98b0
                      try clear c100
                      try clear c100b0
                      try clear p2
                      try clear p6
                      try clear p64
                      obtain ⟨kq, x120_95, rfl, HA, HJ95, HB⟩ := hcut
                      cases kq with
                      | zero => exact absurd HA.out (by simp [wimplelaw2_RelRules.j3])
                      | succ kj95 =>
                        have H := HA.out
                        clear HA
                        simp only [wimplelaw2_RelRules.j3] at H
                        by_cases c108 : x120_95 = true
                        · subst c108
                          have H1 : (some false) = some r := by rw [if_pos rfl] at H; exact H
                          clear H
                          have H := H1
                          clear H1
                          obtain rfl := Option.some.inj H
                          go_wp2
                          go_ret
                          exact ⟨by first | rfl | (simp [errW_none, errW_some] <;> rfl) | (simp [*, errW_none, errW_some] <;> rfl), by repeat (first | (with_reducible first | exact HB.out | apply below_alloc | apply pw_below_drewN | apply below_drew1) | exact HB.out)⟩
                        · replace c108 := Bool.eq_false_iff.mpr c108
                          subst c108
                          have H1 : ((rel_Above.f kj95 a0 a1).bind fun t284 => (if t284 = true then ((rel_Above.f kj95 a1 a2).bind fun t285 => (if t285 = true then ((rel_Above.f kj95 a0 a2).bind fun t286 => (some t286)) else (some true))) else (some true))) = some r := by rw [if_neg (show ¬ (false = true) by decide)] at H; exact H
                          clear H
                          have H := H1
                          clear H1
                          replace H := Option.bind_eq_some_iff.mp H
                          obtain ⟨t284, A1090, H⟩ := H
                          replace H : (if t284 = true then ((rel_Above.f kj95 a1 a2).bind fun t285 => (if t285 = true then ((rel_Above.f kj95 a0 a2).bind fun t286 => (some t286)) else (some true))) else (some true)) = some r := H
                          have A109 := Aside0.mk A1090
                          clear A1090
                          by_cases c110 : t284 = true
                          · subst c110
                            have H1 : ((rel_Above.f kj95 a1 a2).bind fun t285 => (if t285 = true then ((rel_Above.f kj95 a0 a2).bind fun t286 => (some t286)) else (some true))) = some r := by rw [if_pos rfl] at H; exact H
                            clear H
                            have H := H1
                            clear H1
                            replace H := Option.bind_eq_some_iff.mp H
                            obtain ⟨t285, A1110, H⟩ := H
                            replace H : (if t285 = true then ((rel_Above.f kj95 a0 a2).bind fun t286 => (some t286)) else (some true)) = some r := H
                            have A111 := Aside0.mk A1110
                            clear A1110
                            by_cases c112 : t285 = true
                            · subst c112
                              have H1 : ((rel_Above.f kj95 a0 a2).bind fun t286 => (some t286)) = some r := by rw [if_pos rfl] at H; exact H
                              clear H
                              have H := H1
                              clear H1
                              replace H := Option.bind_eq_some_iff.mp H
                              obtain ⟨t286, A1130, H⟩ := H
                              replace H : (some t286) = some r := H
                              have A113 := Aside0.mk A1130
                              clear A1130
                              obtain rfl := Option.some.inj H
                              go_wp2_with (first | ((with_reducible refine gate_callee (f := 21) rfl ?_); refine goesL_ (some 123) rfl rfl Try.func21 (by kernel_rfl) rfl #[.string a0, .string a1] rfl (by (try simp only [List.map_toArray, List.map_cons, List.map_nil]); first | done | rfl | (simp only [List.length_drop, List.length_take]; rfl)) ?_; (with_reducible refine (rel_Above.calls kj95 a0 a1 true _ A109.out).mono ?_); rintro e w114 ⟨rfl, hb⟩; refine ⟨_, rfl, ?_⟩; have n0_ := Aside0.mk (below_step (by repeat (first | (with_reducible first | exact HB.out | apply below_alloc | apply pw_below_drewN | apply below_drew1) | exact HB.out)) hb); clear HB; have HB := n0_; clear n0_; (try clear hb); (try clear hb2); (try clear hk); (try clear hi)) | (go_at_call 21; (with_reducible refine (rel_Above.calls kj95 a1 a2 true _ A111.out).mono ?_); rintro e w115 ⟨rfl, hb⟩; have n0_ := Aside0.mk (below_step (by repeat (first | (with_reducible first | exact HB.out | apply below_alloc | apply pw_below_drewN | apply below_drew1) | exact HB.out)) hb); clear HB; have HB := n0_; clear n0_; (try clear hb); (try clear hb2); (try clear hk); (try clear hi)) | (go_at_call 21; (with_reducible refine (rel_Above.calls kj95 a0 a2 t286 _ A113.out).mono ?_); rintro e w116 ⟨rfl, hb⟩; have n0_ := Aside0.mk (below_step (by repeat (first | (with_reducible first | exact HB.out | apply below_alloc | apply pw_below_drewN | apply below_drew1) | exact HB.out)) hb); clear HB; have HB := n0_; clear n0_; (try clear hb); (try clear hb2); (try clear hk); (try clear hi)))
                              go_ret
                              exact ⟨by first | rfl | (simp [errW_none, errW_some] <;> rfl) | (simp [*, errW_none, errW_some] <;> rfl), by repeat (first | (with_reducible first | exact HB.out | apply below_alloc | apply pw_below_drewN | apply below_drew1) | exact HB.out)⟩
                            · replace c112 := Bool.eq_false_iff.mpr c112
                              subst c112
                              have H1 : (some true) = some r := by rw [if_neg (show ¬ (false = true) by decide)] at H; exact H
                              clear H
                              have H := H1
                              clear H1
                              obtain rfl := Option.some.inj H
                              go_wp2_with (first | ((with_reducible refine gate_callee (f := 21) rfl ?_); refine goesL_ (some 123) rfl rfl Try.func21 (by kernel_rfl) rfl #[.string a0, .string a1] rfl (by (try simp only [List.map_toArray, List.map_cons, List.map_nil]); first | done | rfl | (simp only [List.length_drop, List.length_take]; rfl)) ?_; (with_reducible refine (rel_Above.calls kj95 a0 a1 true _ A109.out).mono ?_); rintro e w117 ⟨rfl, hb⟩; refine ⟨_, rfl, ?_⟩; have n0_ := Aside0.mk (below_step (by repeat (first | (with_reducible first | exact HB.out | apply below_alloc | apply pw_below_drewN | apply below_drew1) | exact HB.out)) hb); clear HB; have HB := n0_; clear n0_; (try clear hb); (try clear hb2); (try clear hk); (try clear hi)) | (go_at_call 21; (with_reducible refine (rel_Above.calls kj95 a1 a2 false _ A111.out).mono ?_); rintro e w118 ⟨rfl, hb⟩; have n0_ := Aside0.mk (below_step (by repeat (first | (with_reducible first | exact HB.out | apply below_alloc | apply pw_below_drewN | apply below_drew1) | exact HB.out)) hb); clear HB; have HB := n0_; clear n0_; (try clear hb); (try clear hb2); (try clear hk); (try clear hi)))
                              go_ret
                              exact ⟨by first | rfl | (simp [errW_none, errW_some] <;> rfl) | (simp [*, errW_none, errW_some] <;> rfl), by repeat (first | (with_reducible first | exact HB.out | apply below_alloc | apply pw_below_drewN | apply below_drew1) | exact HB.out)⟩
                          · replace c110 := Bool.eq_false_iff.mpr c110
                            subst c110
                            have H1 : (some true) = some r := by rw [if_neg (show ¬ (false = true) by decide)] at H; exact H
                            clear H
                            have H := H1
                            clear H1
                            obtain rfl := Option.some.inj H
                            go_wp2_with (first | ((with_reducible refine gate_callee (f := 21) rfl ?_); refine goesL_ (some 123) rfl rfl Try.func21 (by kernel_rfl) rfl #[.string a0, .string a1] rfl (by (try simp only [List.map_toArray, List.map_cons, List.map_nil]); first | done | rfl | (simp only [List.length_drop, List.length_take]; rfl)) ?_; (with_reducible refine (rel_Above.calls kj95 a0 a1 false _ A109.out).mono ?_); rintro e w119 ⟨rfl, hb⟩; refine ⟨_, rfl, ?_⟩; have n0_ := Aside0.mk (below_step (by repeat (first | (with_reducible first | exact HB.out | apply below_alloc | apply pw_below_drewN | apply below_drew1) | exact HB.out)) hb); clear HB; have HB := n0_; clear n0_; (try clear hb); (try clear hb2); (try clear hk); (try clear hi)))
                            go_ret
                            exact ⟨by first | rfl | (simp [errW_none, errW_some] <;> rfl) | (simp [*, errW_none, errW_some] <;> rfl), by repeat (first | (with_reducible first | exact HB.out | apply below_alloc | apply pw_below_drewN | apply below_drew1) | exact HB.out)⟩
  · replace c6 := Bool.eq_false_iff.mpr c6
    subst c6
    have H1 : (some false) = some r := by rw [if_neg (show ¬ (false = true) by decide)] at H; exact H
    clear H
    have H := H1
    clear H1
    obtain rfl := Option.some.inj H
    go_enter Try.func4, Try.ntmps4
    try simp only [List.append_eq, List.cons_append, List.nil_append]
    go_wp2_with (first | ((with_reducible refine gate_callee (f := 26) rfl ?_); refine goesL_ (some 13) rfl rfl Try.func26 (by kernel_rfl) rfl #[] rfl (by (try simp only [List.map_toArray, List.map_cons, List.map_nil]); first | done | rfl | (simp only [List.length_drop, List.length_take]; rfl)) ?_; (with_reducible refine (wimplelaw2_awake.calls k  false _ A5.out).mono ?_); rintro e w120 ⟨rfl, hb⟩; refine ⟨_, rfl, ?_⟩; have n0_ := Aside0.mk (below_step (by repeat (first | (with_reducible first | exact HB.out | apply below_alloc | apply pw_below_drewN | apply below_drew1) | exact HB.out)) hb); clear HB; have HB := n0_; clear n0_; (try clear hb); (try clear hb2); (try clear hk); (try clear hi)))
    go_ret
    exact ⟨by first | rfl | (simp [errW_none, errW_some] <;> rfl) | (simp [*, errW_none, errW_some] <;> rfl), by repeat (first | (with_reducible first | exact HB.out | apply below_alloc | apply pw_below_drewN | apply below_drew1) | exact HB.out)⟩

/-- THE ONE PURE STATEMENT of wimplelaw2_RelRules: yours. -/
def wimplelaw2_RelRules.Pure : Prop := ∀ (a0 : ByteArray) (a1 : ByteArray) (a2 : ByteArray) (a3 : ByteArray), a0.size ≤ 140737488351232 → a1.size ≤ 140737488351232 → a2.size ≤ 140737488351232 → a3.size ≤ 140737488351232 → ∃ k, wimplelaw2_RelRules.f k a0 a1 a2 a3 = some true
theorem wimplelaw2_RelRules.walk (P : wimplelaw2_RelRules.Pure) (a0 : ByteArray) (a1 : ByteArray) (a2 : ByteArray) (a3 : ByteArray) (w : World) (w0 : a0.size ≤ 140737488351232) (w1 : a1.size ≤ 140737488351232) (w2 : a2.size ≤ 140737488351232) (w3 : a3.size ≤ 140737488351232) :
    Calls Try.prog 4 #[.string a0, .string a1, .string a2, .string a3] w fun e w' => e = .returned (.bool true) ∧ Below w.heap.size w w' := by
  obtain ⟨k, h⟩ := P a0 a1 a2 a3 w0 w1 w2 w3
  refine (wimplelaw2_RelRules.calls k a0 a1 a2 a3 true w h).mono ?_
  rintro e w' ⟨rfl, hd⟩
  exact ⟨rfl, hd⟩

end Go.Proofs.Yteodnommecpglaa.P
