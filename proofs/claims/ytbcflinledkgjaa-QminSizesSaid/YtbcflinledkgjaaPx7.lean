-- Written by a program of this session's prover (over the kit's printer, with contracts of the session's own); Lean checks it.
import Derived.Test.YtbcflinledkgjaaPx0
namespace Go.Proofs.Ytbcflinledkgjaa.P
open Go.RowKit Go.Proofs.YtbcflinledkgjaaW.PrintWords Go.Proofs.YtbcflinledkgjaaW.PrintLast Go.Proofs.YtbcflinledkgjaaW.PrintMore
attribute [local go_sem] max2_int min2_int max_two min_two max_three min_three max_four min_four   -- for this text's walks alone
set_option linter.unusedVariables false
set_option linter.unusedSimpArgs false

/-! ### wimpleref1_places: function 28 -/
mutual
def wimpleref1_places.l0 : Nat → ByteArray → List Int → Int → Option (List Int × Bool)
  | 0, _, _, _ => none
  | k + 1, x0, x4, x5 => if x5 < (x0.size : Int) then (wimpleref1_places.j1 k x0 x4 x5 (decide ((x0.size : Int) ≤ 255))) else (wimpleref1_places.j1 k x0 x4 x5 false)
def wimpleref1_places.j1 : Nat → ByteArray → List Int → Int → Bool → Option (List Int × Bool)
  | 0, _, _, _, _ => none
  | k + 1, x0, x4, x5, x15 => if x15 = true then (if 0 ≤ x5 then (if x5 < (x0.size : Int) then (if x4.length < 17592186044416 then ((some (x4 ++ [x5] : List Int)).bind fun y146 => (if (wrap64 (bt x0 x5)) = 0 then (some (y146, ((wrap64 (x5 + 1)) == (x0.size : Int)))) else (if (wrap64 (bt x0 x5)) > 63 then (some (([] : List Int), false)) else (wimpleref1_places.l0 k x0 y146 (wrap64 ((wrap64 (x5 + 1)) + (wrap64 (bt x0 x5)))))))) else (none)) else (none)) else (none)) else (some (([] : List Int), false))
end
def wimpleref1_places.f (k : Nat) (a0 : ByteArray) : Option (List Int × Bool) := wimpleref1_places.l0 k a0 ([] : List Int) 0
theorem wimpleref1_places.mono_l : ∀ k, (∀ y0 y1 y2, LeO (wimpleref1_places.l0 k y0 y1 y2) (wimpleref1_places.l0 (k + 1) y0 y1 y2)) ∧ (∀ y0 y1 y2 y3, LeO (wimpleref1_places.j1 k y0 y1 y2 y3) (wimpleref1_places.j1 (k + 1) y0 y1 y2 y3))
  | 0 => ⟨fun _ _ _ r h => by simp [wimpleref1_places.l0] at h, fun _ _ _ _ r h => by simp [wimpleref1_places.j1] at h⟩
  | k + 1 => by
    obtain ⟨ih0, ih1⟩ := wimpleref1_places.mono_l k
    refine ⟨?_, ?_⟩
    · intro y0 y1 y2
      unfold wimpleref1_places.l0
      repeat' first
      | (with_reducible exact ih0 _ _ _)
      | (with_reducible exact ih1 _ _ _ _)
      | (with_reducible exact LeO.refl _)
      | (with_reducible exact LeO.none _)
      | (with_reducible refine LeO.ite ?_ ?_)
      | (with_reducible refine LeO.bind ?_ (fun _ => ?_))
      | exact ih0 _ _ _
      | exact ih1 _ _ _ _
      | exact LeO.none _
      | refine LeO.ite ?_ ?_
      | refine LeO.bind ?_ (fun _ => ?_)
    · intro y0 y1 y2 y3
      unfold wimpleref1_places.j1
      repeat' first
      | (with_reducible exact ih0 _ _ _)
      | (with_reducible exact ih1 _ _ _ _)
      | (with_reducible exact LeO.refl _)
      | (with_reducible exact LeO.none _)
      | (with_reducible refine LeO.ite ?_ ?_)
      | (with_reducible refine LeO.bind ?_ (fun _ => ?_))
      | exact ih0 _ _ _
      | exact ih1 _ _ _ _
      | exact LeO.none _
      | refine LeO.ite ?_ ?_
      | refine LeO.bind ?_ (fun _ => ?_)
theorem wimpleref1_places.mono : ∀ a0 k, LeO (wimpleref1_places.f k a0) (wimpleref1_places.f (k + 1) a0) := by
  intro a0 k
  obtain ⟨ih0, ih1⟩ := wimpleref1_places.mono_l k
  unfold wimpleref1_places.f
  repeat' first
      | (with_reducible exact ih0 _ _ _)
      | (with_reducible exact ih1 _ _ _ _)
      | (with_reducible exact LeO.refl _)
      | (with_reducible exact LeO.none _)
      | (with_reducible refine LeO.ite ?_ ?_)
      | (with_reducible refine LeO.bind ?_ (fun _ => ?_))
      | exact ih0 _ _ _
      | exact ih1 _ _ _ _
      | exact LeO.none _
      | refine LeO.ite ?_ ?_
      | refine LeO.bind ?_ (fun _ => ?_)
set_option maxHeartbeats 8000000 in
set_option maxRecDepth 100000 in
theorem wimpleref1_places.calls (k : Nat) (a0 : ByteArray) (r1 : List Int) (r2 : Bool) (w : World) (h : wimpleref1_places.f k a0 = some (r1, r2)) :
    Calls Try.prog 28 #[.string a0] w fun e w' => ∃ v0_ : Value, e = .returned (.tuple #[v0_, .bool r2]) ∧ Kd.R (Kd.int .i64) 3 w' w.heap.size (fun _ => True) v0_ r1 ∧ Below w.heap.size w w' := by
  have HB := Aside0.mk (Below.refl w.heap.size w)
  have H : (wimpleref1_places.l0 k a0 ([] : List Int) 0) = some (r1, r2) := h
  clear h
  have H' := Aside0.mk H
  clear H
  go_enter Try.func28, Try.ntmps28
  try simp only [List.append_eq, List.cons_append, List.nil_append]
  go_wp2
  go_loopg [4, 5] k (fun kq v4 v5 w' => ∃ (x4_1 : List Int) (x5_1 : Int), v5 = .int .i64 x5_1 ∧ Aside0 (wimpleref1_places.l0 kq a0 x4_1 x5_1 = some (r1, r2)) ∧ Aside0 (kq ≤ k) ∧ Aside0 (Kd.R (Kd.int .i64) 3 w' w.heap.size (fun _ => True) v4 x4_1) ∧ Aside0 (Below w.heap.size w w'))
  case atStart => exact ⟨(([] : List Int)), (0), (by first | rfl | (simp; done) | (simp [*]; done) | (simp [ByteArray.size_append]; exact Iff.rfl)), H', ⟨Nat.le_refl _⟩, ⟨by first | exact Kd.R_nil _ _ _ _ _ | exact Kd.N_nil _ _ _ _ _ | exact Kd.V_nil _ _ _ _ _ | exact Kd.Q_nil _ _ _ _ _ | exact Kd.S_nil _ _ _ _ _⟩, ⟨by repeat (first | (with_reducible first | exact HB.out | apply below_alloc | apply pw_below_drewN | apply below_drew1) | exact HB.out)⟩⟩
  case round =>
    clear H'
    obtain ⟨x4_1, x5_1, rfl, HA, HK1, HO_4, HB⟩ := hrel
    cases gk with
    | zero => exact absurd HA.out (by simp [wimpleref1_places.l0])
    | succ k1 =>
      have H := HA.out
      clear HA
      simp only [wimpleref1_places.l0] at H
      have HC2 := Aside0.mk H
      clear H
      go_upto_region 3 with (fail)
      go_cut [15] (fun v15 wc => ∃ (kq : Nat) (x15_1 : Bool), v15 = .bool x15_1 ∧ Aside0 (wimpleref1_places.j1 kq a0 x4_1 x5_1 x15_1 = some (r1, r2)) ∧ Aside0 (kq ≤ k1) ∧ Aside0 (Kd.R (Kd.int .i64) 3 wc w.heap.size (fun _ => True) u4 x4_1) ∧ Aside0 (Below w.heap.size w wc))
      case first =>
        have H := HC2.out
        clear HC2
        by_cases c3 : x5_1 < (a0.size : Int)
        · rw [if_pos c3] at H
          have c3b0 : decide (x5_1 < (a0.size : Int)) = true := decide_eq_true c3
          clear c3
          (first | rw [c3b0] | (simp only [i64_w, i32_w]; rw [c3b0]) | skip)
          have H' := Aside0.mk H
          clear H
          go_wp2
          go_meet
          case rel => exact ⟨_, (decide ((a0.size : Int) ≤ 255)), (by first | rfl | (simp; done) | (simp [*]; done) | (simp [ByteArray.size_append]; exact Iff.rfl)), H', ⟨by have := HK1.out; first | omega | exact Nat.le_refl _⟩, ⟨by (with_reducible repeat (first | apply Kd.R_alloc | apply Kd.R_drewN | apply Kd.R_drew)); exact HO_4.out⟩, ⟨by repeat (first | (with_reducible first | exact HB.out | apply below_alloc | apply pw_below_drewN | apply below_drew1) | exact HB.out)⟩⟩
        · rw [if_neg c3] at H
          have c3b0 : decide (x5_1 < (a0.size : Int)) = false := decide_eq_false c3
          clear c3
          (first | rw [c3b0] | (simp only [i64_w, i32_w]; rw [c3b0]) | skip)
          have H' := Aside0.mk H
          clear H
          go_wp2
          go_meet
          case rel => exact ⟨_, (false), (by first | rfl | (simp; done) | (simp [*]; done) | (simp [ByteArray.size_append]; exact Iff.rfl)), H', ⟨by have := HK1.out; first | omega | exact Nat.le_refl _⟩, ⟨by (with_reducible repeat (first | apply Kd.R_alloc | apply Kd.R_drewN | apply Kd.R_drew)); exact HO_4.out⟩, ⟨by repeat (first | (with_reducible first | exact HB.out | apply below_alloc | apply pw_below_drewN | apply below_drew1) | exact HB.out)⟩⟩
      case rest =>
        clear HC2
        try clear c2
        try clear p2
        try clear c3
        try clear c3b0
        obtain ⟨kq, x15_1, rfl, HA, HJ1, HO_4, HB⟩ := hcut
        cases kq with
        | zero => exact absurd HA.out (by simp [wimpleref1_places.j1])
        | succ kj1 =>
          have H := HA.out
          clear HA
          simp only [wimpleref1_places.j1] at H
          by_cases c4 : x15_1 = true
          · subst c4
            have H1 : (if 0 ≤ x5_1 then (if x5_1 < (a0.size : Int) then (if x4_1.length < 17592186044416 then ((some (x4_1 ++ [x5_1] : List Int)).bind fun y146 => (if (wrap64 (bt a0 x5_1)) = 0 then (some (y146, ((wrap64 (x5_1 + 1)) == (a0.size : Int)))) else (if (wrap64 (bt a0 x5_1)) > 63 then (some (([] : List Int), false)) else (wimpleref1_places.l0 kj1 a0 y146 (wrap64 ((wrap64 (x5_1 + 1)) + (wrap64 (bt a0 x5_1)))))))) else (none)) else (none)) else (none)) = some (r1, r2) := by rw [if_pos rfl] at H; exact H
            clear H
            have H := H1
            clear H1
            by_cases c5 : 0 ≤ x5_1
            · rw [if_pos c5] at H
              have c5b0 : decide (0 ≤ x5_1) = true := decide_eq_true c5
              clear c5
              by_cases c6 : x5_1 < (a0.size : Int)
              · rw [if_pos c6] at H
                have c6b0 : decide (x5_1 < (a0.size : Int)) = true := decide_eq_true c6
                clear c6
                by_cases c8 : x4_1.length < 17592186044416
                · rw [if_pos c8] at H
                  have LMc8 := Aside0.mk c8
                  clear c8
                  obtain ⟨y146, hy146⟩ : ∃ y_ : List Int, y_ = (x4_1 ++ [x5_1]) := ⟨_, rfl⟩
                  replace H : (if (wrap64 (bt a0 x5_1)) = 0 then (some (y146, ((wrap64 (x5_1 + 1)) == (a0.size : Int)))) else (if (wrap64 (bt a0 x5_1)) > 63 then (some (([] : List Int), false)) else (wimpleref1_places.l0 kj1 a0 y146 (wrap64 ((wrap64 (x5_1 + 1)) + (wrap64 (bt a0 x5_1))))))) = some (r1, r2) := by first | (rw [hy146]; with_reducible exact H) | (have H2_ := (Option.bind_some _ _).symm.trans H; rw [hy146]; with_reducible exact H2_) | (have H2_ := (Option.bind_some _ _).symm.trans H; with_reducible exact H2_) | with_reducible exact H | (rw [hy146]; exact H) | exact H
                  have Ny146 := Aside0.mk hy146
                  clear hy146
                  by_cases c9 : (wrap64 (bt a0 x5_1)) = 0
                  · rw [if_pos c9] at H
                    have c9b0 : ((wrap64 (bt a0 x5_1)) == 0) = true := beq_iff_eq.mpr c9
                    have c9b1 : ((wrap64 (bt a0 x5_1)) != 0) = false := bne_eq_false_iff_eq.mpr c9
                    clear c9
                    simp only [Option.some.injEq, Prod.mk.injEq] at H
                    obtain ⟨rfl, rfl⟩ := H
                    have p7 : 0 ≤ (x5_1 : Int) := of_decide_eq_true (by first | (with_reducible assumption) | assumption)
                    have q7 : x5_1 < (a0.size : Int) := of_decide_eq_true (by first | (with_reducible assumption) | assumption)
                    have hx7 := bt_at a0 x5_1
                    replace p7 := eq_true p7
                    replace q7 := eq_true q7
                    go_wp2_with (first | ((with_reducible refine gate_builtin (b := .append) (xs := #[.tmp 20, .tmp 22]) rfl ?_); (try (refine gate_guard (by rfl) ?_; dsimp only)); at_builtin; refine Kd.R_append (Kd.int .i64) (w0 := w) w.heap.size rfl (.tmp 20) (.tmp 22) 48 3 (.int .i64 0) 8 rfl Try.underlying48 info3 rfl (by decide) (by omega) u4 x4_1 x5_1 [.int .i64 x5_1] (fun _ => True) (fun _ => False) rfl rfl ?aP (fun _ hk => hk.elim) ?aF ?aO ?aB ?aS ?aL ?_; (case aP => exact rfl); (case aB => exact (by repeat (first | (with_reducible first | exact HB.out | apply below_alloc | apply pw_below_drewN | apply below_drew1) | exact HB.out))); (case aF => exact (fun _ _ => trivial)); (case aO => exact (by (with_reducible repeat (first | apply Kd.R_alloc | apply Kd.R_drewN | apply Kd.R_drew)); exact HO_4.out)); (case aS => exact (below_size (by repeat (first | (with_reducible first | exact HB.out | apply below_alloc | apply pw_below_drewN | apply below_drew1) | exact HB.out)))); (case aL => have := LMc8.out; omega); intro v147 w10 ho hb hg hat; rw [← Ny146.out] at ho; have n0_ := Aside0.mk (hb); have n1_ := Aside0.mk (ho); clear HB; clear HO_4; have HB := n0_; have HO148 := n1_; clear n0_ n1_; clear ho hb hg hat))
                    go_ret2
                    exact ⟨_, by first | rfl | (simp [errW_none, errW_some] <;> rfl) | (simp [*, errW_none, errW_some] <;> rfl), by (with_reducible repeat (first | apply Kd.R_alloc | apply Kd.R_drewN | apply Kd.R_drew)); exact HO148.out, by repeat (first | (with_reducible first | exact HB.out | apply below_alloc | apply pw_below_drewN | apply below_drew1) | exact HB.out)⟩
                  · rw [if_neg c9] at H
                    have c9b0 : ((wrap64 (bt a0 x5_1)) == 0) = false := beq_eq_false_iff_ne.mpr c9
                    have c9b1 : ((wrap64 (bt a0 x5_1)) != 0) = true := bne_iff_ne.mpr c9
                    by_cases c11 : (wrap64 (bt a0 x5_1)) > 63
                    · rw [if_pos c11] at H
                      have c11b0 : decide (63 < (wrap64 (bt a0 x5_1))) = true := decide_eq_true c11
                      clear c11
                      simp only [Option.some.injEq, Prod.mk.injEq] at H
                      obtain ⟨rfl, rfl⟩ := H
                      have p7 : 0 ≤ (x5_1 : Int) := of_decide_eq_true (by first | (with_reducible assumption) | assumption)
                      have q7 : x5_1 < (a0.size : Int) := of_decide_eq_true (by first | (with_reducible assumption) | assumption)
                      have hx7 := bt_at a0 x5_1
                      replace p7 := eq_true p7
                      replace q7 := eq_true q7
                      go_wp2_with (first | ((with_reducible refine gate_builtin (b := .append) (xs := #[.tmp 20, .tmp 22]) rfl ?_); (try (refine gate_guard (by rfl) ?_; dsimp only)); at_builtin; refine Kd.R_append (Kd.int .i64) (w0 := w) w.heap.size rfl (.tmp 20) (.tmp 22) 48 3 (.int .i64 0) 8 rfl Try.underlying48 info3 rfl (by decide) (by omega) u4 x4_1 x5_1 [.int .i64 x5_1] (fun _ => True) (fun _ => False) rfl rfl ?aP (fun _ hk => hk.elim) ?aF ?aO ?aB ?aS ?aL ?_; (case aP => exact rfl); (case aB => exact (by repeat (first | (with_reducible first | exact HB.out | apply below_alloc | apply pw_below_drewN | apply below_drew1) | exact HB.out))); (case aF => exact (fun _ _ => trivial)); (case aO => exact (by (with_reducible repeat (first | apply Kd.R_alloc | apply Kd.R_drewN | apply Kd.R_drew)); exact HO_4.out)); (case aS => exact (below_size (by repeat (first | (with_reducible first | exact HB.out | apply below_alloc | apply pw_below_drewN | apply below_drew1) | exact HB.out)))); (case aL => have := LMc8.out; omega); intro v147 w12 ho hb hg hat; rw [← Ny146.out] at ho; have n0_ := Aside0.mk (hb); have n1_ := Aside0.mk (ho); clear HB; clear HO_4; have HB := n0_; have HO148 := n1_; clear n0_ n1_; clear ho hb hg hat))
                      go_ret2
                      exact ⟨_, by first | rfl | (simp [errW_none, errW_some] <;> rfl) | (simp [*, errW_none, errW_some] <;> rfl), by first | exact Kd.R_nil _ _ _ _ _ | exact Kd.N_nil _ _ _ _ _ | exact Kd.V_nil _ _ _ _ _ | exact Kd.Q_nil _ _ _ _ _ | exact Kd.S_nil _ _ _ _ _, by repeat (first | (with_reducible first | exact HB.out | apply below_alloc | apply pw_below_drewN | apply below_drew1) | exact HB.out)⟩
                    · rw [if_neg c11] at H
                      have c11b0 : decide (63 < (wrap64 (bt a0 x5_1))) = false := decide_eq_false c11
                      clear c11
                      have H' := Aside0.mk H
                      clear H
                      have p7 : 0 ≤ (x5_1 : Int) := of_decide_eq_true (by first | (with_reducible assumption) | assumption)
                      have q7 : x5_1 < (a0.size : Int) := of_decide_eq_true (by first | (with_reducible assumption) | assumption)
                      have hx7 := bt_at a0 x5_1
                      replace p7 := eq_true p7
                      replace q7 := eq_true q7
                      go_wp2_with (first | ((with_reducible refine gate_builtin (b := .append) (xs := #[.tmp 20, .tmp 22]) rfl ?_); (try (refine gate_guard (by rfl) ?_; dsimp only)); at_builtin; refine Kd.R_append (Kd.int .i64) (w0 := w) w.heap.size rfl (.tmp 20) (.tmp 22) 48 3 (.int .i64 0) 8 rfl Try.underlying48 info3 rfl (by decide) (by omega) u4 x4_1 x5_1 [.int .i64 x5_1] (fun _ => True) (fun _ => False) rfl rfl ?aP (fun _ hk => hk.elim) ?aF ?aO ?aB ?aS ?aL ?_; (case aP => exact rfl); (case aB => exact (by repeat (first | (with_reducible first | exact HB.out | apply below_alloc | apply pw_below_drewN | apply below_drew1) | exact HB.out))); (case aF => exact (fun _ _ => trivial)); (case aO => exact (by (with_reducible repeat (first | apply Kd.R_alloc | apply Kd.R_drewN | apply Kd.R_drew)); exact HO_4.out)); (case aS => exact (below_size (by repeat (first | (with_reducible first | exact HB.out | apply below_alloc | apply pw_below_drewN | apply below_drew1) | exact HB.out)))); (case aL => have := LMc8.out; omega); intro v147 w13 ho hb hg hat; rw [← Ny146.out] at ho; have n0_ := Aside0.mk (hb); have n1_ := Aside0.mk (ho); clear HB; clear HO_4; have HB := n0_; have HO148 := n1_; clear n0_ n1_; clear ho hb hg hat))
                      go_roundg kj1
                      case measure => have := HK1.out; have := HJ1.out; omega
                      case rel => exact ⟨(y146), (wrap64 ((wrap64 (x5_1 + 1)) + (wrap64 (bt a0 x5_1)))), (by first | rfl | (simp; done) | (simp [*]; done) | (simp [ByteArray.size_append]; exact Iff.rfl)), H', ⟨by have := HK1.out; have := HJ1.out; omega⟩, ⟨by (with_reducible repeat (first | apply Kd.R_alloc | apply Kd.R_drewN | apply Kd.R_drew)); exact HO148.out⟩, ⟨by repeat (first | (with_reducible first | exact HB.out | apply below_alloc | apply pw_below_drewN | apply below_drew1) | exact HB.out)⟩⟩
                · rw [if_neg c8] at H
                  exact absurd H (by simp)
              · rw [if_neg c6] at H
                exact absurd H (by simp)
            · rw [if_neg c5] at H
              exact absurd H (by simp)
          · replace c4 := Bool.eq_false_iff.mpr c4
            subst c4
            have H1 : (some (([] : List Int), false)) = some (r1, r2) := by rw [if_neg (show ¬ (false = true) by decide)] at H; exact H
            clear H
            have H := H1
            clear H1
            simp only [Option.some.injEq, Prod.mk.injEq] at H
            obtain ⟨rfl, rfl⟩ := H
            go_wp2
            go_ret2
            exact ⟨_, by first | rfl | (simp [errW_none, errW_some] <;> rfl) | (simp [*, errW_none, errW_some] <;> rfl), by first | exact Kd.R_nil _ _ _ _ _ | exact Kd.N_nil _ _ _ _ _ | exact Kd.V_nil _ _ _ _ _ | exact Kd.Q_nil _ _ _ _ _ | exact Kd.S_nil _ _ _ _ _, by repeat (first | (with_reducible first | exact HB.out | apply below_alloc | apply pw_below_drewN | apply below_drew1) | exact HB.out)⟩

/-! ### wimpleref1_Fold: function 17 -/
def wimpleref1_Fold.f (k : Nat) (a0 : ByteArray) : Option (ByteArray) := (wimpleref1_places.f k a0).bind fun b => (if b.2 = true then (if (M.nm a0.data.toList).isSome = true ∧ b.1 = M.offs 0 ((M.nm a0.data.toList).getD []) then some ⟨(M.fold a0.data.toList).toArray⟩ else none) else some (⟨#[]⟩))
theorem wimpleref1_Fold.mono : ∀ a0 k, LeO (wimpleref1_Fold.f k a0) (wimpleref1_Fold.f (k + 1) a0) := by
  intro a0 k
  unfold wimpleref1_Fold.f
  exact LeO.bind (wimpleref1_places.mono _ _) (fun _ => LeO.refl _)
theorem wimpleref1_Fold.rd_offs (ls : List M.Bytes) (i : Nat) (h : i ≤ ls.length) : rd (M.offs 0 ls) (i : Int) = ((M.off ls i : Nat) : Int) := by
  unfold rd
  rw [Int.toNat_natCast, M.offs_get 0 ls i h]
  simp
/-- What stands at the head of label i; behind j of its bytes. -/
def wimpleref1_Fold.head (ls : List M.Bytes) (i : Nat) : List UInt8 := (M.wire ((ls.take i).map M.fol)).dropLast ++ M.wire (ls.drop i)
def wimpleref1_Fold.cur (P l S : List UInt8) (j : Nat) : List UInt8 := P ++ (((l.take j).map M.fo ++ l.drop j) ++ S)
theorem wimpleref1_Fold.cur_len (P l S : List UInt8) (j : Nat) (h : j ≤ l.length) : (wimpleref1_Fold.cur P l S j).length = P.length + l.length + S.length := by
  have := M.mid_len M.fo l j h
  unfold wimpleref1_Fold.cur
  rw [List.length_append, List.length_append, this]
  omega
theorem wimpleref1_Fold.cur_get (P l S : List UInt8) (j : Nat) (h : j < l.length) (h' : P.length + j < (wimpleref1_Fold.cur P l S j).length) : (wimpleref1_Fold.cur P l S j)[P.length + j] = l[j] := by
  have h1 := M.mid_len M.fo l j (by omega)
  unfold wimpleref1_Fold.cur at h' ⊢
  rw [List.getElem_append_right (by omega)]
  have e : P.length + j - P.length = j := by omega
  simp only [e]
  rw [List.getElem_append_left (by omega)]
  exact M.mid_get M.fo l j h (by omega)
theorem wimpleref1_Fold.cur_set (P l S : List UInt8) (j : Nat) (h : j < l.length) : (wimpleref1_Fold.cur P l S j).set (P.length + j) (M.fo l[j]) = wimpleref1_Fold.cur P l S (j + 1) := by
  have h1 := M.mid_len M.fo l j (by omega)
  unfold wimpleref1_Fold.cur
  rw [List.set_append_right _ _ (by omega), show P.length + j - P.length = j by omega, List.set_append_left _ _ (by omega), M.mid_set M.fo l j h]
theorem wimpleref1_Fold.cur_same (P l S : List UInt8) (j : Nat) (h : j < l.length) (hf : M.fo l[j] = l[j]) : wimpleref1_Fold.cur P l S (j + 1) = wimpleref1_Fold.cur P l S j := by
  rw [← wimpleref1_Fold.cur_set P l S j h, hf]
  have hl : P.length + j < (wimpleref1_Fold.cur P l S j).length := by rw [wimpleref1_Fold.cur_len P l S j (by omega)]; omega
  conv => lhs; rw [← wimpleref1_Fold.cur_get P l S j h hl]
  exact List.set_getElem_self hl
theorem wimpleref1_Fold.off_fol (ls : List M.Bytes) : ∀ i, M.off (ls.map M.fol) i = M.off ls i := by
  induction ls with
  | nil => intro i; cases i <;> rfl
  | cons l r ih =>
    intro i
    cases i with
    | zero => rfl
    | succ i => simp only [List.map_cons, M.off, ih, M.fol_length]
theorem wimpleref1_Fold.pre_len (ls : List M.Bytes) (i : Nat) (h : i ≤ ls.length) : (M.wire ((ls.take i).map M.fol)).dropLast.length = M.off ls i := by
  have h0 : ∀ (ls : List M.Bytes) (i : Nat), i ≤ ls.length → (M.wire (ls.take i)).dropLast.length = M.off ls i := by
    intro ls
    induction ls with
    | nil => intro i hi; have : i = 0 := by simpa using hi
             subst this; rfl
    | cons l r ih =>
      intro i hi
      cases i with
      | zero => rfl
      | succ i =>
        have hi2 : i ≤ r.length := by simpa using hi
        have := ih i hi2
        have hp := M.wire_pos (r.take i)
        simp only [List.take_succ_cons, M.wire, M.off, List.length_dropLast, List.length_cons, List.length_append] at this ⊢
        omega
  rw [List.map_take, h0 _ _ (by simpa using h), wimpleref1_Fold.off_fol]
theorem wimpleref1_Fold.head_cur (ls : List M.Bytes) (i : Nat) (h : i < ls.length) : wimpleref1_Fold.head ls i = wimpleref1_Fold.cur ((M.wire ((ls.take i).map M.fol)).dropLast ++ [UInt8.ofNat ls[i].length]) ls[i] (M.wire (ls.drop (i + 1))) 0 := by
  unfold wimpleref1_Fold.head wimpleref1_Fold.cur
  rw [List.drop_eq_getElem_cons h, M.wire]
  simp
theorem wimpleref1_Fold.cur_head (ls : List M.Bytes) (i : Nat) (h : i < ls.length) : wimpleref1_Fold.cur ((M.wire ((ls.take i).map M.fol)).dropLast ++ [UInt8.ofNat ls[i].length]) ls[i] (M.wire (ls.drop (i + 1))) ls[i].length = wimpleref1_Fold.head ls (i + 1) := by
  unfold wimpleref1_Fold.head wimpleref1_Fold.cur
  rw [List.take_succ_eq_append_getElem h, List.map_append, M.wire_append, List.take_length, List.drop_length]
  have e : (M.wire ((ls.take i).map M.fol)).dropLast ++ M.wire ([ls[i]].map M.fol) = ((M.wire ((ls.take i).map M.fol)).dropLast ++ (UInt8.ofNat ls[i].length :: M.fol ls[i])) ++ [0] := by
    simp [M.wire, M.fol_length]
  rw [e, List.dropLast_concat]
  simp [M.fol]
theorem wimpleref1_Fold.head_end (ls : List M.Bytes) : wimpleref1_Fold.head ls ls.length = M.wire (ls.map M.fol) := by
  unfold wimpleref1_Fold.head
  rw [List.take_length, List.drop_length]
  have hp : M.wire (ls.map M.fol) ≠ [] := by intro e; have := M.wire_pos (ls.map M.fol); rw [e] at this; simp at this
  have hz : ∀ q : List M.Bytes, ∃ b, M.wire q = b ++ [0] := by
    intro q
    induction q with
    | nil => exact ⟨[], rfl⟩
    | cons l r ih =>
      obtain ⟨b, hb⟩ := ih
      exact ⟨UInt8.ofNat l.length :: (l ++ b), by simp [M.wire, hb]⟩
  obtain ⟨b, hb⟩ := hz (ls.map M.fol)
  rw [hb, List.dropLast_concat]
  rfl

set_option maxHeartbeats 8000000 in
set_option maxRecDepth 100000 in
theorem wimpleref1_Fold.calls (k : Nat) (a0 : ByteArray) (r : ByteArray) (w : World) (h : wimpleref1_Fold.f k a0 = some r) :
    Calls Try.prog 17 #[.string a0] w fun e w' => e = .returned (.string r) ∧ Below w.heap.size w w' := by
  unfold wimpleref1_Fold.f at h
  obtain ⟨⟨ps, is⟩, hL, h⟩ := Option.bind_eq_some_iff.1 h
  cases is with
  | false =>
    have HL := Lib.hid hL
    clear hL
    simp only [Bool.false_eq_true, if_false, Option.some.injEq] at h
    obtain rfl := h
    go_enter Try.func17, Try.ntmps17
    go_wp2_with fail
    refine (wimpleref1_places.calls k a0 ps false _ HL.out).mono ?_
    rintro e w1 ⟨v, rfl, hR, hB⟩
    clear HL
    go_wp2
    go_ret
    exact ⟨rfl, hB⟩
  | true =>
    simp only [if_true] at h
    by_cases hg : (M.nm a0.data.toList).isSome = true ∧ ps = M.offs 0 ((M.nm a0.data.toList).getD [])
    · rw [if_pos hg] at h
      obtain rfl := Option.some.inj h
      clear h
      obtain ⟨ls, hnm⟩ := Option.isSome_iff_exists.1 hg.1
      obtain ⟨_, hps⟩ := hg
      rw [hnm, Option.getD_some] at hps
      subst hps
      have HL := Lib.hid hL
      clear hL
      have hfold := M.fold_some hnm
      have HF := Lib.hid hfold
      clear hfold
      obtain ⟨hgood, hwire, hlen⟩ := M.nm_some.1 hnm
      clear hnm
      have hol : (M.offs 0 ls).length = ls.length + 1 := M.offs_length 0 ls
      have hsz : a0.size = a0.data.toList.length := by rw [Array.length_toList]; rfl
      have hs255 : a0.size ≤ 255 := by rw [hsz]; exact hlen
      clear hlen
      have hcnt := M.wire_count ls hgood
      have hwl : (M.wire ls).length = a0.size := by rw [hwire, hsz]
      rw [hwl] at hcnt
      have HW := Lib.hid hwire
      have HWL := Lib.hid hwl
      have HGD := Lib.hid hgood
      clear hwire hwl hgood hsz
      have HOL := Lib.hid hol
      clear hol
      have hback : ∀ (W : World) (g : Nat) (L : List UInt8) (c : Nat), M.BRow W g L → L.length = a0.size → (convert 58 9 (.slice (some ⟨g, 0, none⟩) a0.size c)).run Try.prog W = .ok (.string ⟨L.toArray⟩) W := by
        intro W g L c hB hL
        rw [← hL]
        exact hB.back Try.underlying58 Try.underlying5 Try.underlying9
      have HBK := Lib.hid hback
      clear hback
      go_enter Try.func17, Try.ntmps17
      go_wp2_with fail
      refine (wimpleref1_places.calls k a0 _ true _ HL.out).mono ?_
      rintro e w1 ⟨v, rfl, hR, hB⟩
      clear HL
      obtain ⟨A, c, rfl⟩ := Kd.R_slice hR
      rw [HOL.out] at hR ⊢
      have HR := Lib.hid hR
      clear hR
      have hconv := Lib.run_convert_string_bytes (P := Try.prog) w1 9 58 5 a0 Try.underlying9 Try.underlying58 Try.underlying5
      have hnew := M.BRow.new w1 a0
      rw [← HW.out] at hnew
      have hbel := M.below_bytes w1 a0
      have hsz1 : w.heap.size ≤ w1.heap.size := hB.size
      go_wp2
      clear hconv
      go_loopw [6] (fun v6 wr => ∃ i : Nat, i ≤ ls.length ∧ v6 = .int .i64 i ∧ M.BRow wr w1.heap.size (wimpleref1_Fold.head ls i) ∧ Below w1.heap.size w1 wr) (fun v6 _ => ls.length - (intOf v6).toNat)
      case atStart => exact ⟨0, Nat.zero_le _, rfl, by simpa [wimpleref1_Fold.head, M.wire] using hnew, hbel⟩
      case round =>
        clear hnew hbel
        obtain ⟨i, hi, rfl, hrow, hbw⟩ := hrel
        have hws : w1.heap.size ≤ wr.heap.size := hbw.size
        by_cases hlt : i < ls.length
        · have hR := Kd.R_below HR.out hbw
          obtain ⟨ad, rfl, hcell0⟩ := Kd.at_int (Kd.R_reads' hR).2.2 (i : Int) (by omega) (by rw [HOL.out]; omega)
          obtain ⟨ad', had, hcell1⟩ := Kd.at_int (Kd.R_reads' hR).2.2 ((i + 1 : Nat) : Int) (by omega) (by rw [HOL.out]; omega)
          obtain rfl : ad = ad' := by injection had
          clear had hR hcell1
          rw [wimpleref1_Fold.rd_offs ls i (by omega), Int.toNat_natCast] at hcell0
          have o1 : M.off ls (i + 1) < a0.size := by have := M.off_lt ls (i + 1) (by omega); rw [HWL.out] at this; exact this
          have os := M.off_succ ls i hlt
          have hpl := wimpleref1_Fold.pre_len ls i (by omega)
          rw [wimpleref1_Fold.head_cur ls i hlt] at hrow
          have hch := wimpleref1_Fold.cur_head ls i hlt
          generalize M.wire (ls.drop (i + 1)) = S at *
          have hPl : ((M.wire ((ls.take i).map M.fol)).dropLast ++ [UInt8.ofNat ls[i].length]).length = M.off ls i + 1 := by rw [List.length_append, hpl]; rfl
          generalize (M.wire ((ls.take i).map M.fol)).dropLast ++ [UInt8.ofNat ls[i].length] = P at *
          clear hpl
          generalize ls[i] = l at *
          have HCH := Lib.hid hch
          clear hch
          have hro1 := wimpleref1_Fold.rd_offs ls (i + 1) (by omega)
          generalize M.off ls (i + 1) = o' at *
          subst os
          generalize M.off ls i = o at *
          have HPl := Lib.hid hPl
          clear hPl
          have HRO := Lib.hid hro1
          clear hro1
          go_wp2
          obtain ⟨wo, rfl⟩ : ∃ wo : World, wo = wr := ⟨_, rfl⟩
          go_loopw [7] (fun v7 wr => ∃ j : Nat, j ≤ l.length ∧ v7 = .int .i64 ((o + 1 + j : Nat) : Int) ∧ M.BRow wr w1.heap.size (wimpleref1_Fold.cur P l S j) ∧ Below w1.heap.size w1 wr) (fun v7 _ => o + 1 + l.length - (intOf v7).toNat)
          case atStart => exact ⟨0, Nat.zero_le _, by simp, hrow, hbw⟩
          case round =>
            clear hrow hbw hcell0 hws
            obtain ⟨j, hj, rfl, hrow, hbw⟩ := hrel
            have hws : w1.heap.size ≤ wr.heap.size := hbw.size
            have hR := Kd.R_below HR.out hbw
            obtain ⟨ad', had, hcell1⟩ := Kd.at_int (Kd.R_reads' hR).2.2 ((i + 1 : Nat) : Int) (by omega) (by rw [HOL.out]; omega)
            obtain rfl : ad = ad' := by injection had
            clear had hR
            rw [HRO.out, Int.toNat_natCast] at hcell1
            have hcell2 : wr.cell? ⟨ad.block, ad.off + (i + 1), none⟩ = some (.int .i64 ((o + 1 + l.length : Nat) : Int)) := by simpa [Addr.add] using hcell1
            by_cases hjt : j < l.length
            · have hcl := wimpleref1_Fold.cur_len P l S j (by omega)
              have hcell := hrow.cell (P.length + j) (by omega)
              rw [wimpleref1_Fold.cur_get P l S j hjt] at hcell
              have hfree := hrow.free (P.length + j) (by omega)
              have hput := hrow.put (P.length + j) (M.fo (l[j]'hjt))
              rw [wimpleref1_Fold.cur_set P l S j hjt, M.fo_toNat] at hput
              have hsame := wimpleref1_Fold.cur_same P l S j hjt
              rw [HPl.out] at hcell hfree hput
              clear hcl
              have hfo : M.fo (l[j]'hjt) = if 65 ≤ (l[j]'hjt).toNat ∧ (l[j]'hjt).toNat ≤ 90 then (l[j]'hjt) + 32 else (l[j]'hjt) := rfl
              generalize l[j]'hjt = ch at *
              have hc := ch.toNat_lt
              by_cases hcap : 65 ≤ ch.toNat ∧ ch.toNat ≤ 90
              · rw [if_pos hcap] at hput
                have q1 : decide (65 ≤ (ch.toNat : Int)) = true := decide_eq_true (by omega)
                have q2 : decide ((ch.toNat : Int) ≤ 90) = true := decide_eq_true (by omega)
                have hcast : ((ch.toNat + 32 : Nat) : Int) = ((ch.toNat : Int) + 32) % 256 := by omega
                rw [hcast] at hput
                have HPUT := Lib.hid hput
                clear hput hcast hrow hsame hfo hcap
                go_wp2
                go_roundw
                case rel => exact ⟨j + 1, by omega, by first | rfl | go_num, HPUT.out, hbw.setCell (p := ⟨w1.heap.size, o + 1 + j, none⟩) (Nat.le_refl _) _⟩
                case measure => simp [intOf]; omega
              · rw [if_neg hcap] at hfo
                have hs2 := hsame hfo
                have HS := Lib.hid hs2
                clear hput hsame hfo hs2
                have key : (decide (65 ≤ (ch.toNat : Int)) = false) ∨ (decide (65 ≤ (ch.toNat : Int)) = true ∧ decide ((ch.toNat : Int) ≤ 90) = false) := by
                  simp only [decide_eq_true_eq, decide_eq_false_iff_not]
                  omega
                clear hcap
                rcases key with q1 | ⟨q1, q2⟩
                all_goals
                  go_wp2
                  go_roundw
                  case rel => exact ⟨j + 1, by omega, by first | rfl | go_num, by rw [HS.out]; exact hrow, hbw⟩
                  case measure => simp [intOf]; omega
            · obtain rfl : j = l.length := by omega
              rw [HCH.out] at hrow
              go_wp2
              go_roundw
              case rel => exact ⟨i + 1, by omega, by go_num, hrow, hbw⟩
              case measure => simp [intOf]; omega
        · obtain rfl : i = ls.length := by omega
          rw [wimpleref1_Fold.head_end ls] at hrow
          have hb2 := HBK.out wr w1.heap.size (M.wire (ls.map M.fol)) (grownCap w1 a0.size 0 5) hrow (by rw [M.wire_fold_length]; exact HWL.out)
          go_wp2
          go_ret
          exact ⟨by rw [HF.out]; rfl, hB.trans (hbw.mono hsz1)⟩
    · rw [if_neg hg] at h
      cases h


/-! ### wimpleref1_May: function 20 -/
def wimpleref1_May.f (k : Nat) (a0 : ByteArray) : Option (Bool) := (wimpleref1_places.f k a0).bind fun bt149 => (some bt149.2)
theorem wimpleref1_May.mono : ∀ a0 k, LeO (wimpleref1_May.f k a0) (wimpleref1_May.f (k + 1) a0) := by
  intro a0 k
  unfold wimpleref1_May.f
  repeat' first
      | (with_reducible exact wimpleref1_places.mono _ _)
      | (with_reducible exact LeO.refl _)
      | (with_reducible exact LeO.none _)
      | (with_reducible refine LeO.ite ?_ ?_)
      | (with_reducible refine LeO.bind ?_ (fun _ => ?_))
      | exact wimpleref1_places.mono _ _
      | exact LeO.none _
      | refine LeO.ite ?_ ?_
      | refine LeO.bind ?_ (fun _ => ?_)
set_option maxHeartbeats 8000000 in
set_option maxRecDepth 100000 in
theorem wimpleref1_May.calls (k : Nat) (a0 : ByteArray) (r : Bool) (w : World) (h : wimpleref1_May.f k a0 = some r) :
    Calls Try.prog 20 #[.string a0] w fun e w' => e = .returned (.bool r) ∧ Below w.heap.size w w' := by
  have HB := Aside0.mk (Below.refl w.heap.size w)
  have H : ((wimpleref1_places.f k a0).bind fun bt149 => (some bt149.2)) = some r := h
  clear h
  replace H := Option.bind_eq_some_iff.mp H
  obtain ⟨⟨t149, t150⟩, A20, H⟩ := H
  replace H : (some t150) = some r := H
  have A2 := Aside0.mk A20
  clear A20
  obtain rfl := Option.some.inj H
  go_enter Try.func20, Try.ntmps20
  try simp only [List.append_eq, List.cons_append, List.nil_append]
  go_wp2_with (first | ((with_reducible refine gate_callee (f := 28) rfl ?_); refine goesL_ (some 7) rfl rfl Try.func28 (by kernel_rfl) rfl #[.string a0] rfl (by (try simp only [List.map_toArray, List.map_cons, List.map_nil]); first | done | rfl | (simp only [List.length_drop, List.length_take]; rfl)) ?_; (with_reducible refine (wimpleref1_places.calls k a0 t149 t150 _ A2.out).mono ?_); rintro e w3 ⟨v151, rfl, ho0, hb⟩; refine ⟨_, rfl, ?_⟩; have n0_ := Aside0.mk (Kd.R_lower ho0 (below_size (by repeat (first | (with_reducible first | exact HB.out | apply below_alloc | apply pw_below_drewN | apply below_drew1) | exact HB.out)))); have n1_ := Aside0.mk (below_step (by repeat (first | (with_reducible first | exact HB.out | apply below_alloc | apply pw_below_drewN | apply below_drew1) | exact HB.out)) hb); clear HB; have HO152 := n0_; have HB := n1_; clear n0_ n1_; (try clear hb); (try clear hb2); (try clear hk); (try clear hi); (try clear ho0)))
  go_ret
  exact ⟨by first | rfl | (simp [errW_none, errW_some] <;> rfl) | (simp [*, errW_none, errW_some] <;> rfl), by repeat (first | (with_reducible first | exact HB.out | apply below_alloc | apply pw_below_drewN | apply below_drew1) | exact HB.out)⟩

/-! ### wimpleref1_Same: function 18 -/
def wimpleref1_Same.f (k : Nat) (a0 : ByteArray) (a1 : ByteArray) : Option (Bool) := (wimpleref1_May.f k a0).bind fun t153 => (if t153 = true then ((wimpleref1_May.f k a1).bind fun t154 => (if t154 = true then ((wimpleref1_Fold.f k a0).bind fun t155 => ((wimpleref1_Fold.f k a1).bind fun t156 => (some (t155.toList == t156.toList)))) else (some false))) else (some false))
theorem wimpleref1_Same.mono : ∀ a0 a1 k, LeO (wimpleref1_Same.f k a0 a1) (wimpleref1_Same.f (k + 1) a0 a1) := by
  intro a0 a1 k
  unfold wimpleref1_Same.f
  repeat' first
      | (with_reducible exact wimpleref1_Fold.mono _ _)
      | (with_reducible exact wimpleref1_May.mono _ _)
      | (with_reducible exact LeO.refl _)
      | (with_reducible exact LeO.none _)
      | (with_reducible refine LeO.ite ?_ ?_)
      | (with_reducible refine LeO.bind ?_ (fun _ => ?_))
      | exact wimpleref1_Fold.mono _ _
      | exact wimpleref1_May.mono _ _
      | exact LeO.none _
      | refine LeO.ite ?_ ?_
      | refine LeO.bind ?_ (fun _ => ?_)
set_option maxHeartbeats 8000000 in
set_option maxRecDepth 100000 in
theorem wimpleref1_Same.calls (k : Nat) (a0 : ByteArray) (a1 : ByteArray) (r : Bool) (w : World) (h : wimpleref1_Same.f k a0 a1 = some r) :
    Calls Try.prog 18 #[.string a0, .string a1] w fun e w' => e = .returned (.bool r) ∧ Below w.heap.size w w' := by
  have HB := Aside0.mk (Below.refl w.heap.size w)
  have H : ((wimpleref1_May.f k a0).bind fun t153 => (if t153 = true then ((wimpleref1_May.f k a1).bind fun t154 => (if t154 = true then ((wimpleref1_Fold.f k a0).bind fun t155 => ((wimpleref1_Fold.f k a1).bind fun t156 => (some (t155.toList == t156.toList)))) else (some false))) else (some false))) = some r := h
  clear h
  replace H := Option.bind_eq_some_iff.mp H
  obtain ⟨t153, A30, H⟩ := H
  replace H : (if t153 = true then ((wimpleref1_May.f k a1).bind fun t154 => (if t154 = true then ((wimpleref1_Fold.f k a0).bind fun t155 => ((wimpleref1_Fold.f k a1).bind fun t156 => (some (t155.toList == t156.toList)))) else (some false))) else (some false)) = some r := H
  have A3 := Aside0.mk A30
  clear A30
  by_cases c4 : t153 = true
  · subst c4
    have H1 : ((wimpleref1_May.f k a1).bind fun t154 => (if t154 = true then ((wimpleref1_Fold.f k a0).bind fun t155 => ((wimpleref1_Fold.f k a1).bind fun t156 => (some (t155.toList == t156.toList)))) else (some false))) = some r := by rw [if_pos rfl] at H; exact H
    clear H
    have H := H1
    clear H1
    replace H := Option.bind_eq_some_iff.mp H
    obtain ⟨t154, A50, H⟩ := H
    replace H : (if t154 = true then ((wimpleref1_Fold.f k a0).bind fun t155 => ((wimpleref1_Fold.f k a1).bind fun t156 => (some (t155.toList == t156.toList)))) else (some false)) = some r := H
    have A5 := Aside0.mk A50
    clear A50
    by_cases c6 : t154 = true
    · subst c6
      have H1 : ((wimpleref1_Fold.f k a0).bind fun t155 => ((wimpleref1_Fold.f k a1).bind fun t156 => (some (t155.toList == t156.toList)))) = some r := by rw [if_pos rfl] at H; exact H
      clear H
      have H := H1
      clear H1
      replace H := Option.bind_eq_some_iff.mp H
      obtain ⟨t155, A70, H⟩ := H
      replace H : ((wimpleref1_Fold.f k a1).bind fun t156 => (some (t155.toList == t156.toList))) = some r := H
      have A7 := Aside0.mk A70
      clear A70
      replace H := Option.bind_eq_some_iff.mp H
      obtain ⟨t156, A80, H⟩ := H
      replace H : (some (t155.toList == t156.toList)) = some r := H
      have A8 := Aside0.mk A80
      clear A80
      obtain rfl := Option.some.inj H
      go_enter Try.func18, Try.ntmps18
      try simp only [List.append_eq, List.cons_append, List.nil_append]
      go_wp2_with (first | ((with_reducible refine gate_callee (f := 20) rfl ?_); refine goesL_ (some 6) rfl rfl Try.func20 (by kernel_rfl) rfl #[.string a0] rfl (by (try simp only [List.map_toArray, List.map_cons, List.map_nil]); first | done | rfl | (simp only [List.length_drop, List.length_take]; rfl)) ?_; (with_reducible refine (wimpleref1_May.calls k a0 true _ A3.out).mono ?_); rintro e w9 ⟨rfl, hb⟩; refine ⟨_, rfl, ?_⟩; have n0_ := Aside0.mk (below_step (by repeat (first | (with_reducible first | exact HB.out | apply below_alloc | apply pw_below_drewN | apply below_drew1) | exact HB.out)) hb); clear HB; have HB := n0_; clear n0_; (try clear hb); (try clear hb2); (try clear hk); (try clear hi)) | (go_at_call 20; (with_reducible refine (wimpleref1_May.calls k a1 true _ A5.out).mono ?_); rintro e w10 ⟨rfl, hb⟩; have n0_ := Aside0.mk (below_step (by repeat (first | (with_reducible first | exact HB.out | apply below_alloc | apply pw_below_drewN | apply below_drew1) | exact HB.out)) hb); clear HB; have HB := n0_; clear n0_; (try clear hb); (try clear hb2); (try clear hk); (try clear hi)) | (go_at_call 17; (with_reducible refine (wimpleref1_Fold.calls k a0 t155 _ A7.out).mono ?_); rintro e w11 ⟨rfl, hb⟩; have n0_ := Aside0.mk (below_step (by repeat (first | (with_reducible first | exact HB.out | apply below_alloc | apply pw_below_drewN | apply below_drew1) | exact HB.out)) hb); clear HB; have HB := n0_; clear n0_; (try clear hb); (try clear hb2); (try clear hk); (try clear hi)) | (go_at_call 17; (with_reducible refine (wimpleref1_Fold.calls k a1 t156 _ A8.out).mono ?_); rintro e w12 ⟨rfl, hb⟩; have n0_ := Aside0.mk (below_step (by repeat (first | (with_reducible first | exact HB.out | apply below_alloc | apply pw_below_drewN | apply below_drew1) | exact HB.out)) hb); clear HB; have HB := n0_; clear n0_; (try clear hb); (try clear hb2); (try clear hk); (try clear hi)))
      go_ret
      exact ⟨by first | rfl | (simp [errW_none, errW_some] <;> rfl) | (simp [*, errW_none, errW_some] <;> rfl), by repeat (first | (with_reducible first | exact HB.out | apply below_alloc | apply pw_below_drewN | apply below_drew1) | exact HB.out)⟩
    · replace c6 := Bool.eq_false_iff.mpr c6
      subst c6
      have H1 : (some false) = some r := by rw [if_neg (show ¬ (false = true) by decide)] at H; exact H
      clear H
      have H := H1
      clear H1
      obtain rfl := Option.some.inj H
      go_enter Try.func18, Try.ntmps18
      try simp only [List.append_eq, List.cons_append, List.nil_append]
      go_wp2_with (first | ((with_reducible refine gate_callee (f := 20) rfl ?_); refine goesL_ (some 6) rfl rfl Try.func20 (by kernel_rfl) rfl #[.string a0] rfl (by (try simp only [List.map_toArray, List.map_cons, List.map_nil]); first | done | rfl | (simp only [List.length_drop, List.length_take]; rfl)) ?_; (with_reducible refine (wimpleref1_May.calls k a0 true _ A3.out).mono ?_); rintro e w13 ⟨rfl, hb⟩; refine ⟨_, rfl, ?_⟩; have n0_ := Aside0.mk (below_step (by repeat (first | (with_reducible first | exact HB.out | apply below_alloc | apply pw_below_drewN | apply below_drew1) | exact HB.out)) hb); clear HB; have HB := n0_; clear n0_; (try clear hb); (try clear hb2); (try clear hk); (try clear hi)) | (go_at_call 20; (with_reducible refine (wimpleref1_May.calls k a1 false _ A5.out).mono ?_); rintro e w14 ⟨rfl, hb⟩; have n0_ := Aside0.mk (below_step (by repeat (first | (with_reducible first | exact HB.out | apply below_alloc | apply pw_below_drewN | apply below_drew1) | exact HB.out)) hb); clear HB; have HB := n0_; clear n0_; (try clear hb); (try clear hb2); (try clear hk); (try clear hi)))
      go_ret
      exact ⟨by first | rfl | (simp [errW_none, errW_some] <;> rfl) | (simp [*, errW_none, errW_some] <;> rfl), by repeat (first | (with_reducible first | exact HB.out | apply below_alloc | apply pw_below_drewN | apply below_drew1) | exact HB.out)⟩
  · replace c4 := Bool.eq_false_iff.mpr c4
    subst c4
    have H1 : (some false) = some r := by rw [if_neg (show ¬ (false = true) by decide)] at H; exact H
    clear H
    have H := H1
    clear H1
    obtain rfl := Option.some.inj H
    go_enter Try.func18, Try.ntmps18
    try simp only [List.append_eq, List.cons_append, List.nil_append]
    go_wp2_with (first | ((with_reducible refine gate_callee (f := 20) rfl ?_); refine goesL_ (some 6) rfl rfl Try.func20 (by kernel_rfl) rfl #[.string a0] rfl (by (try simp only [List.map_toArray, List.map_cons, List.map_nil]); first | done | rfl | (simp only [List.length_drop, List.length_take]; rfl)) ?_; (with_reducible refine (wimpleref1_May.calls k a0 false _ A3.out).mono ?_); rintro e w15 ⟨rfl, hb⟩; refine ⟨_, rfl, ?_⟩; have n0_ := Aside0.mk (below_step (by repeat (first | (with_reducible first | exact HB.out | apply below_alloc | apply pw_below_drewN | apply below_drew1) | exact HB.out)) hb); clear HB; have HB := n0_; clear n0_; (try clear hb); (try clear hb2); (try clear hk); (try clear hi)))
    go_ret
    exact ⟨by first | rfl | (simp [errW_none, errW_some] <;> rfl) | (simp [*, errW_none, errW_some] <;> rfl), by repeat (first | (with_reducible first | exact HB.out | apply below_alloc | apply pw_below_drewN | apply below_drew1) | exact HB.out)⟩

end Go.Proofs.Ytbcflinledkgjaa.P
