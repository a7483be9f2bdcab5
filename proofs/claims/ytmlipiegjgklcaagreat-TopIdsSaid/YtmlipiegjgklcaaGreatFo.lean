/- What rel.Fold answers (printed by a program of this session over the kit's printer). -/
import Derived.Below
import Derived.Deep.Draws
import Derived.Deep.AppendLies
import Derived.Maps.AppendAt
import Derived.OwnWalk
import Derived.Laws.BytesArg
import Derived.Laws.MakeOwn
import Derived.Laws.OwnMore
import Derived.Deep.OwnRows
import Derived.Tactics
import Derived.Lib.ConvBytes
import Derived.Laws.Slices
import Derived.WalkKit
import Derived.KernelRfl
import Derived.RowKit3
import Derived.Deep.LoopGhost
import Derived.Deep.QuietTactic
import Derived.BigQuiet
import Derived.WideLaws
import Derived.Deep.DeepCutAuto
import Derived.Deep.CutBlock
import Derived.Deep.RegionHeld3
import Derived.Laws.Rows
import Derived.Lib.AppendStr
import Derived.ArgAppend
import Derived.Laws.IdiomCopy
import Derived.OrdersHeld
import Derived.Laws.BitsLemmas
import Derived.RowKit
import Derived.WalkMore
import Derived.Lib.Hide
import Derived.Test.YtmlipiegjgklcaaGreatMGtr
import Derived.Test.YtmlipiegjgklcaaGreatMRow
import Derived.Test.YtmlipiegjgklcaaGreatMNames
import Derived.Test.YtmlipiegjgklcaaGreatBld
import Derived.Test.YtmlipiegjgklcaaGreatShelf
import Derived.Test.YtmlipiegjgklcaaGreatWWords
import Derived.Test.YtmlipiegjgklcaaGreatWLast
import Derived.Test.YtmlipiegjgklcaaGreatWTab
import Derived.Test.YtmlipiegjgklcaaGreatWGuard
namespace Go.Proofs.YtmlipiegjgklcaaGreatW.PrintWords
open Go.RowKit
section
variable {P : Program} {ops : Array Oper} {rest : List Oper} {o : Oper} {a : Act} {Q : Exit → Act → World → Prop} {W : World}
/-- A step at a call of this function. -/
theorem gate_callee {f : FuncId} {xs : Array Operand} {ts : Array TypeId} (_ho : o.op = .call { callee := .value (.func f), args := xs, argTypes := ts }) (h : wpList P ops Q (o :: rest) a W) : wpList P ops Q (o :: rest) a W := h
/-- A step at a builtin. -/
theorem gate_builtin {b : Builtin} {xs : Array Operand} {ts : Array TypeId} (_ho : o.op = .call { callee := .builtin b, args := xs, argTypes := ts }) (h : wpList P ops Q (o :: rest) a W) : wpList P ops Q (o :: rest) a W := h
end
end Go.Proofs.YtmlipiegjgklcaaGreatW.PrintWords
namespace Go.Proofs.YtmlipiegjgklcaaGreat.P
open Go.RowKit Go.Proofs.YtmlipiegjgklcaaGreatW.PrintWords Go.Proofs.YtmlipiegjgklcaaGreatW.PrintLast
set_option linter.unusedVariables false
set_option linter.unusedSimpArgs false
theorem info3 : (Tryz.prog.info? 3).map (fun i => (i.zero, i.size, i.bytes)) = some (some (.int .i64 0), 1, 8) := by kernel_rfl
theorem info5 : (Tryz.prog.info? 5).map (fun i => (i.zero, i.size, i.bytes)) = some (some (.int .u8 0), 1, 1) := by kernel_rfl
theorem info9 : (Tryz.prog.info? 9).map (fun i => (i.zero, i.size, i.bytes)) = some (some (.string ⟨#[]⟩), 1, 16) := by kernel_rfl
/-! ### name_Places: function 164 -/
def name_Places.l0 : Nat → ByteArray → List Int → Int → Option (List Int × Bool)
  | 0, _, _, _ => none
  | k + 1, x0, x4, x5 => if x5 < (x0.size : Int) then (if x4.length < 17592186044416 then ((some (x4 ++ [x5] : List Int)).bind fun y109 => (if 0 ≤ x5 then (if (wrap64 (bt x0 x5)) = 0 then (if (x0.size : Int) > 0 then (some (y109, (x5 == (wrap64 ((x0.size : Int) - 1))))) else (some (y109, false))) else (if (wrap64 (bt x0 x5)) > 63 then (some (([] : List Int), false)) else (name_Places.l0 k x0 y109 (wrap64 (x5 + (wrap64 (1 + (wrap64 (bt x0 x5))))))))) else (none))) else (none)) else (if (x0.size : Int) > 0 then (some (x4, (x5 == (wrap64 ((x0.size : Int) - 1))))) else (some (x4, false)))
def name_Places.f (k : Nat) (a0 : ByteArray) : Option (List Int × Bool) := if (a0.size : Int) > 255 then (some (([] : List Int), false)) else (name_Places.l0 k a0 ([] : List Int) 0)
theorem name_Places.mono_l : ∀ k, (∀ y0 y1 y2, LeO (name_Places.l0 k y0 y1 y2) (name_Places.l0 (k + 1) y0 y1 y2))
  | 0 => fun _ _ _ r h => by simp [name_Places.l0] at h
  | k + 1 => by
    have ih0 := name_Places.mono_l k
    · intro y0 y1 y2
      unfold name_Places.l0
      repeat' first
      | (with_reducible exact ih0 _ _ _)
      | (with_reducible exact LeO.refl _)
      | (with_reducible exact LeO.none _)
      | (with_reducible refine LeO.ite ?_ ?_)
      | (with_reducible refine LeO.bind ?_ (fun _ => ?_))
      | exact ih0 _ _ _
      | exact LeO.none _
      | refine LeO.ite ?_ ?_
      | refine LeO.bind ?_ (fun _ => ?_)
theorem name_Places.mono : ∀ a0 k, LeO (name_Places.f k a0) (name_Places.f (k + 1) a0) := by
  intro a0 k
  have ih0 := name_Places.mono_l k
  unfold name_Places.f
  repeat' first
      | (with_reducible exact ih0 _ _ _)
      | (with_reducible exact LeO.refl _)
      | (with_reducible exact LeO.none _)
      | (with_reducible refine LeO.ite ?_ ?_)
      | (with_reducible refine LeO.bind ?_ (fun _ => ?_))
      | exact ih0 _ _ _
      | exact LeO.none _
      | refine LeO.ite ?_ ?_
      | refine LeO.bind ?_ (fun _ => ?_)
set_option maxHeartbeats 8000000 in
set_option maxRecDepth 100000 in
theorem name_Places.calls (k : Nat) (a0 : ByteArray) (r1 : List Int) (r2 : Bool) (w : World) (h : name_Places.f k a0 = some (r1, r2)) :
    Calls Tryz.prog 164 #[.string a0] w fun e w' => ∃ v0_ : Value, e = .returned (.tuple #[v0_, .bool r2]) ∧ Kd.R (Kd.int .i64) 3 w' w.heap.size (fun _ => True) v0_ r1 ∧ Below w.heap.size w w' := by
  have HB := Aside0.mk (Below.refl w.heap.size w)
  have H : (if (a0.size : Int) > 255 then (some (([] : List Int), false)) else (name_Places.l0 k a0 ([] : List Int) 0)) = some (r1, r2) := h
  clear h
  by_cases c2 : (a0.size : Int) > 255
  · rw [if_pos c2] at H
    have c2b0 : decide (255 < (a0.size : Int)) = true := decide_eq_true c2
    have c2b1 : decide (255 < a0.size) = true := decide_eq_true (by omega)
    clear c2
    simp only [Option.some.injEq, Prod.mk.injEq] at H
    obtain ⟨rfl, rfl⟩ := H
    go_enter Tryz.func164, Tryz.ntmps164
    try simp only [List.append_eq, List.cons_append, List.nil_append]
    go_wp2
    try (go_step3; go_wp2)
    try (go_step3; go_wp2)
    first | go_ret2 | (rw [Exit.noGoto_ret]; go_ret2)
    exact ⟨_, by first | rfl | (simp [errW_none, errW_some] <;> rfl) | (simp [*, errW_none, errW_some] <;> rfl), by first | exact Kd.R_nil _ _ _ _ _ | exact Kd.N_nil _ _ _ _ _ | exact Kd.V_nil _ _ _ _ _ | exact Kd.Q_nil _ _ _ _ _ | exact Kd.S_nil _ _ _ _ _, by repeat (first | (with_reducible first | exact HB.out | apply below_alloc | apply pw_below_drewN | apply below_drew1) | exact HB.out)⟩
  · rw [if_neg c2] at H
    have c2b0 : decide (255 < (a0.size : Int)) = false := decide_eq_false c2
    have c2b1 : decide (255 < a0.size) = false := decide_eq_false (by omega)
    clear c2
    have H' := Aside0.mk H
    clear H
    go_enter Tryz.func164, Tryz.ntmps164
    try simp only [List.append_eq, List.cons_append, List.nil_append]
    go_wp2
    try (go_step3; go_wp2)
    try (go_step3; go_wp2)
    go_loopg [4, 5] k (fun kq v4 v5 w' => ∃ (x4_1 : List Int) (x5_1 : Int), v5 = .int .i64 x5_1 ∧ Aside0 (name_Places.l0 kq a0 x4_1 x5_1 = some (r1, r2)) ∧ Aside0 (kq ≤ k) ∧ Aside0 (Kd.R (Kd.int .i64) 3 w' w.heap.size (fun _ => True) v4 x4_1) ∧ Aside0 (Below w.heap.size w w'))
    case atStart => exact ⟨(([] : List Int)), (0), (by first | rfl | (simp; done) | (simp [*]; done) | (simp [ByteArray.size_append]; exact Iff.rfl)), H', ⟨Nat.le_refl _⟩, ⟨by first | exact Kd.R_nil _ _ _ _ _ | exact Kd.N_nil _ _ _ _ _ | exact Kd.V_nil _ _ _ _ _ | exact Kd.Q_nil _ _ _ _ _ | exact Kd.S_nil _ _ _ _ _⟩, ⟨by repeat (first | (with_reducible first | exact HB.out | apply below_alloc | apply pw_below_drewN | apply below_drew1) | exact HB.out)⟩⟩
    case round =>
      clear H'
      try clear c1
      try clear c2
      try clear c2b0
      try clear c2b1
      try clear p2
      obtain ⟨x4_1, x5_1, rfl, HA, HK1, HO_4, HB⟩ := hrel
      cases gk with
      | zero => exact absurd HA.out (by simp [name_Places.l0])
      | succ k1 =>
        have H := HA.out
        clear HA
        simp only [name_Places.l0] at H
        by_cases c3 : x5_1 < (a0.size : Int)
        · rw [if_pos c3] at H
          have c3b0 : decide (x5_1 < (a0.size : Int)) = true := decide_eq_true c3
          clear c3
          by_cases c4 : x4_1.length < 17592186044416
          · rw [if_pos c4] at H
            have LMc4 := Aside0.mk c4
            clear c4
            obtain ⟨y109, hy109⟩ : ∃ y_ : List Int, y_ = (x4_1 ++ [x5_1]) := ⟨_, rfl⟩
            replace H : (if 0 ≤ x5_1 then (if (wrap64 (bt a0 x5_1)) = 0 then (if (a0.size : Int) > 0 then (some (y109, (x5_1 == (wrap64 ((a0.size : Int) - 1))))) else (some (y109, false))) else (if (wrap64 (bt a0 x5_1)) > 63 then (some (([] : List Int), false)) else (name_Places.l0 k1 a0 y109 (wrap64 (x5_1 + (wrap64 (1 + (wrap64 (bt a0 x5_1))))))))) else (none)) = some (r1, r2) := by first | (rw [hy109]; with_reducible exact H) | (have H2_ := (Option.bind_some _ _).symm.trans H; rw [hy109]; with_reducible exact H2_) | (have H2_ := (Option.bind_some _ _).symm.trans H; with_reducible exact H2_) | with_reducible exact H | (rw [hy109]; exact H) | exact H
            have Ny109 := Aside0.mk hy109
            clear hy109
            by_cases c5 : 0 ≤ x5_1
            · rw [if_pos c5] at H
              have c5b0 : decide (0 ≤ x5_1) = true := decide_eq_true c5
              clear c5
              by_cases c7 : (wrap64 (bt a0 x5_1)) = 0
              · rw [if_pos c7] at H
                have c7b0 : ((wrap64 (bt a0 x5_1)) == 0) = true := beq_iff_eq.mpr c7
                have c7b1 : ((wrap64 (bt a0 x5_1)) != 0) = false := bne_eq_false_iff_eq.mpr c7
                clear c7
                by_cases c8 : (a0.size : Int) > 0
                · rw [if_pos c8] at H
                  have c8b0 : decide (0 < (a0.size : Int)) = true := decide_eq_true c8
                  have c8b1 : decide (0 < a0.size) = true := decide_eq_true (by omega)
                  clear c8
                  simp only [Option.some.injEq, Prod.mk.injEq] at H
                  obtain ⟨rfl, rfl⟩ := H
                  go_wp2_with (first | ((with_reducible refine gate_builtin (b := .append) (xs := #[.tmp 14, .tmp 16]) rfl ?_); (try (refine gate_guard (by rfl) ?_; dsimp only)); at_builtin; refine Kd.R_append (Kd.int .i64) (w0 := w) w.heap.size rfl (.tmp 14) (.tmp 16) 22 3 (.int .i64 0) 8 rfl Tryz.underlying22 info3 rfl (by decide) (by omega) u4 x4_1 x5_1 [.int .i64 x5_1] (fun _ => True) (fun _ => False) rfl rfl ?aP (fun _ hk => hk.elim) ?aF ?aO ?aB ?aS ?aL ?_; (case aP => exact rfl); (case aB => exact (by repeat (first | (with_reducible first | exact HB.out | apply below_alloc | apply pw_below_drewN | apply below_drew1) | exact HB.out))); (case aF => exact (fun _ _ => trivial)); (case aO => exact (by (with_reducible repeat (first | apply Kd.R_alloc | apply Kd.R_drewN | apply Kd.R_drew)); exact HO_4.out)); (case aS => exact (below_size (by repeat (first | (with_reducible first | exact HB.out | apply below_alloc | apply pw_below_drewN | apply below_drew1) | exact HB.out)))); (case aL => have := LMc4.out; omega); intro v110 w9 ho hb hg hat; rw [← Ny109.out] at ho; have n0_ := Aside0.mk (hb); have n1_ := Aside0.mk (ho); clear HB; clear HO_4; have HB := n0_; have HO111 := n1_; clear n0_ n1_; clear ho hb hg hat; have p6 : 0 ≤ (x5_1 : Int) := of_decide_eq_true (by first | (with_reducible assumption) | assumption); have q6 : x5_1 < (a0.size : Int) := of_decide_eq_true (by first | (with_reducible assumption) | assumption); have hx6 := bt_at a0 x5_1; replace p6 := eq_true p6; replace q6 := eq_true q6))
                  first | go_ret2 | (rw [Exit.noGoto_ret]; go_ret2)
                  exact ⟨_, by first | rfl | (simp [errW_none, errW_some] <;> rfl) | (simp [*, errW_none, errW_some] <;> rfl), by (with_reducible repeat (first | apply Kd.R_alloc | apply Kd.R_drewN | apply Kd.R_drew)); exact HO111.out, by repeat (first | (with_reducible first | exact HB.out | apply below_alloc | apply pw_below_drewN | apply below_drew1) | exact HB.out)⟩
                · rw [if_neg c8] at H
                  have c8b0 : decide (0 < (a0.size : Int)) = false := decide_eq_false c8
                  have c8b1 : decide (0 < a0.size) = false := decide_eq_false (by omega)
                  clear c8
                  simp only [Option.some.injEq, Prod.mk.injEq] at H
                  obtain ⟨rfl, rfl⟩ := H
                  go_wp2_with (first | ((with_reducible refine gate_builtin (b := .append) (xs := #[.tmp 14, .tmp 16]) rfl ?_); (try (refine gate_guard (by rfl) ?_; dsimp only)); at_builtin; refine Kd.R_append (Kd.int .i64) (w0 := w) w.heap.size rfl (.tmp 14) (.tmp 16) 22 3 (.int .i64 0) 8 rfl Tryz.underlying22 info3 rfl (by decide) (by omega) u4 x4_1 x5_1 [.int .i64 x5_1] (fun _ => True) (fun _ => False) rfl rfl ?aP (fun _ hk => hk.elim) ?aF ?aO ?aB ?aS ?aL ?_; (case aP => exact rfl); (case aB => exact (by repeat (first | (with_reducible first | exact HB.out | apply below_alloc | apply pw_below_drewN | apply below_drew1) | exact HB.out))); (case aF => exact (fun _ _ => trivial)); (case aO => exact (by (with_reducible repeat (first | apply Kd.R_alloc | apply Kd.R_drewN | apply Kd.R_drew)); exact HO_4.out)); (case aS => exact (below_size (by repeat (first | (with_reducible first | exact HB.out | apply below_alloc | apply pw_below_drewN | apply below_drew1) | exact HB.out)))); (case aL => have := LMc4.out; omega); intro v110 w10 ho hb hg hat; rw [← Ny109.out] at ho; have n0_ := Aside0.mk (hb); have n1_ := Aside0.mk (ho); clear HB; clear HO_4; have HB := n0_; have HO111 := n1_; clear n0_ n1_; clear ho hb hg hat; have p6 : 0 ≤ (x5_1 : Int) := of_decide_eq_true (by first | (with_reducible assumption) | assumption); have q6 : x5_1 < (a0.size : Int) := of_decide_eq_true (by first | (with_reducible assumption) | assumption); have hx6 := bt_at a0 x5_1; replace p6 := eq_true p6; replace q6 := eq_true q6))
                  first | go_ret2 | (rw [Exit.noGoto_ret]; go_ret2)
                  exact ⟨_, by first | rfl | (simp [errW_none, errW_some] <;> rfl) | (simp [*, errW_none, errW_some] <;> rfl), by (with_reducible repeat (first | apply Kd.R_alloc | apply Kd.R_drewN | apply Kd.R_drew)); exact HO111.out, by repeat (first | (with_reducible first | exact HB.out | apply below_alloc | apply pw_below_drewN | apply below_drew1) | exact HB.out)⟩
              · rw [if_neg c7] at H
                have c7b0 : ((wrap64 (bt a0 x5_1)) == 0) = false := beq_eq_false_iff_ne.mpr c7
                have c7b1 : ((wrap64 (bt a0 x5_1)) != 0) = true := bne_iff_ne.mpr c7
                by_cases c11 : (wrap64 (bt a0 x5_1)) > 63
                · rw [if_pos c11] at H
                  have c11b0 : decide (63 < (wrap64 (bt a0 x5_1))) = true := decide_eq_true c11
                  clear c11
                  simp only [Option.some.injEq, Prod.mk.injEq] at H
                  obtain ⟨rfl, rfl⟩ := H
                  go_wp2_with (first | ((with_reducible refine gate_builtin (b := .append) (xs := #[.tmp 14, .tmp 16]) rfl ?_); (try (refine gate_guard (by rfl) ?_; dsimp only)); at_builtin; refine Kd.R_append (Kd.int .i64) (w0 := w) w.heap.size rfl (.tmp 14) (.tmp 16) 22 3 (.int .i64 0) 8 rfl Tryz.underlying22 info3 rfl (by decide) (by omega) u4 x4_1 x5_1 [.int .i64 x5_1] (fun _ => True) (fun _ => False) rfl rfl ?aP (fun _ hk => hk.elim) ?aF ?aO ?aB ?aS ?aL ?_; (case aP => exact rfl); (case aB => exact (by repeat (first | (with_reducible first | exact HB.out | apply below_alloc | apply pw_below_drewN | apply below_drew1) | exact HB.out))); (case aF => exact (fun _ _ => trivial)); (case aO => exact (by (with_reducible repeat (first | apply Kd.R_alloc | apply Kd.R_drewN | apply Kd.R_drew)); exact HO_4.out)); (case aS => exact (below_size (by repeat (first | (with_reducible first | exact HB.out | apply below_alloc | apply pw_below_drewN | apply below_drew1) | exact HB.out)))); (case aL => have := LMc4.out; omega); intro v110 w12 ho hb hg hat; rw [← Ny109.out] at ho; have n0_ := Aside0.mk (hb); have n1_ := Aside0.mk (ho); clear HB; clear HO_4; have HB := n0_; have HO111 := n1_; clear n0_ n1_; clear ho hb hg hat; have p6 : 0 ≤ (x5_1 : Int) := of_decide_eq_true (by first | (with_reducible assumption) | assumption); have q6 : x5_1 < (a0.size : Int) := of_decide_eq_true (by first | (with_reducible assumption) | assumption); have hx6 := bt_at a0 x5_1; replace p6 := eq_true p6; replace q6 := eq_true q6))
                  first | go_ret2 | (rw [Exit.noGoto_ret]; go_ret2)
                  exact ⟨_, by first | rfl | (simp [errW_none, errW_some] <;> rfl) | (simp [*, errW_none, errW_some] <;> rfl), by first | exact Kd.R_nil _ _ _ _ _ | exact Kd.N_nil _ _ _ _ _ | exact Kd.V_nil _ _ _ _ _ | exact Kd.Q_nil _ _ _ _ _ | exact Kd.S_nil _ _ _ _ _, by repeat (first | (with_reducible first | exact HB.out | apply below_alloc | apply pw_below_drewN | apply below_drew1) | exact HB.out)⟩
                · rw [if_neg c11] at H
                  have c11b0 : decide (63 < (wrap64 (bt a0 x5_1))) = false := decide_eq_false c11
                  clear c11
                  have H' := Aside0.mk H
                  clear H
                  go_wp2_with (first | ((with_reducible refine gate_builtin (b := .append) (xs := #[.tmp 14, .tmp 16]) rfl ?_); (try (refine gate_guard (by rfl) ?_; dsimp only)); at_builtin; refine Kd.R_append (Kd.int .i64) (w0 := w) w.heap.size rfl (.tmp 14) (.tmp 16) 22 3 (.int .i64 0) 8 rfl Tryz.underlying22 info3 rfl (by decide) (by omega) u4 x4_1 x5_1 [.int .i64 x5_1] (fun _ => True) (fun _ => False) rfl rfl ?aP (fun _ hk => hk.elim) ?aF ?aO ?aB ?aS ?aL ?_; (case aP => exact rfl); (case aB => exact (by repeat (first | (with_reducible first | exact HB.out | apply below_alloc | apply pw_below_drewN | apply below_drew1) | exact HB.out))); (case aF => exact (fun _ _ => trivial)); (case aO => exact (by (with_reducible repeat (first | apply Kd.R_alloc | apply Kd.R_drewN | apply Kd.R_drew)); exact HO_4.out)); (case aS => exact (below_size (by repeat (first | (with_reducible first | exact HB.out | apply below_alloc | apply pw_below_drewN | apply below_drew1) | exact HB.out)))); (case aL => have := LMc4.out; omega); intro v110 w13 ho hb hg hat; rw [← Ny109.out] at ho; have n0_ := Aside0.mk (hb); have n1_ := Aside0.mk (ho); clear HB; clear HO_4; have HB := n0_; have HO111 := n1_; clear n0_ n1_; clear ho hb hg hat; have p6 : 0 ≤ (x5_1 : Int) := of_decide_eq_true (by first | (with_reducible assumption) | assumption); have q6 : x5_1 < (a0.size : Int) := of_decide_eq_true (by first | (with_reducible assumption) | assumption); have hx6 := bt_at a0 x5_1; replace p6 := eq_true p6; replace q6 := eq_true q6))
                  go_roundg k1
                  case measure => have := HK1.out; omega
                  case rel => exact ⟨(y109), (wrap64 (x5_1 + (wrap64 (1 + (wrap64 (bt a0 x5_1)))))), (by first | rfl | (simp; done) | (simp [*]; done) | (simp [ByteArray.size_append]; exact Iff.rfl)), H', ⟨by have := HK1.out; omega⟩, ⟨by (with_reducible repeat (first | apply Kd.R_alloc | apply Kd.R_drewN | apply Kd.R_drew)); exact HO111.out⟩, ⟨by repeat (first | (with_reducible first | exact HB.out | apply below_alloc | apply pw_below_drewN | apply below_drew1) | exact HB.out)⟩⟩
            · rw [if_neg c5] at H
              exact absurd H (by simp)
          · rw [if_neg c4] at H
            exact absurd H (by simp)
        · rw [if_neg c3] at H
          have c3b0 : decide (x5_1 < (a0.size : Int)) = false := decide_eq_false c3
          clear c3
          by_cases c14 : (a0.size : Int) > 0
          · rw [if_pos c14] at H
            have c14b0 : decide (0 < (a0.size : Int)) = true := decide_eq_true c14
            have c14b1 : decide (0 < a0.size) = true := decide_eq_true (by omega)
            clear c14
            simp only [Option.some.injEq, Prod.mk.injEq] at H
            obtain ⟨rfl, rfl⟩ := H
            go_wp2
            try (go_step3; go_wp2)
            try (go_step3; go_wp2)
            first | go_ret2 | (rw [Exit.noGoto_ret]; go_ret2)
            exact ⟨_, by first | rfl | (simp [errW_none, errW_some] <;> rfl) | (simp [*, errW_none, errW_some] <;> rfl), by (with_reducible repeat (first | apply Kd.R_alloc | apply Kd.R_drewN | apply Kd.R_drew)); exact HO_4.out, by repeat (first | (with_reducible first | exact HB.out | apply below_alloc | apply pw_below_drewN | apply below_drew1) | exact HB.out)⟩
          · rw [if_neg c14] at H
            have c14b0 : decide (0 < (a0.size : Int)) = false := decide_eq_false c14
            have c14b1 : decide (0 < a0.size) = false := decide_eq_false (by omega)
            clear c14
            simp only [Option.some.injEq, Prod.mk.injEq] at H
            obtain ⟨rfl, rfl⟩ := H
            go_wp2
            try (go_step3; go_wp2)
            try (go_step3; go_wp2)
            first | go_ret2 | (rw [Exit.noGoto_ret]; go_ret2)
            exact ⟨_, by first | rfl | (simp [errW_none, errW_some] <;> rfl) | (simp [*, errW_none, errW_some] <;> rfl), by (with_reducible repeat (first | apply Kd.R_alloc | apply Kd.R_drewN | apply Kd.R_drew)); exact HO_4.out, by repeat (first | (with_reducible first | exact HB.out | apply below_alloc | apply pw_below_drewN | apply below_drew1) | exact HB.out)⟩

/-! ### name_Labels: function 114 -/
def name_Labels.l0 : Nat → ByteArray → List Int → List ByteArray → Int → Option (List ByteArray × Bool)
  | 0, _, _, _, _ => none
  | k + 1, x0, x4, x6, x7 => if x7 < (x4.length : Int) then (if 0 ≤ (wrap64 (x7 - 1)) then (if (wrap64 (x7 - 1)) < (x4.length : Int) then (if 0 ≤ x7 then (if 0 ≤ (wrap64 ((rd x4 (wrap64 (x7 - 1))) + 1)) then (if (wrap64 ((rd x4 (wrap64 (x7 - 1))) + 1)) ≤ (rd x4 x7) then (if (rd x4 x7) ≤ (x0.size : Int) then (if x6.length < 8796093022208 then (name_Labels.l0 k x0 x4 (x6 ++ [x0.extract ((wrap64 ((rd x4 (wrap64 (x7 - 1))) + 1)) : Int).toNat ((rd x4 x7) : Int).toNat]) (wrap64 (x7 + 1))) else (none)) else (none)) else (none)) else (none)) else (none)) else (none)) else (none)) else (some (x6, true))
def name_Labels.f (k : Nat) (a0 : ByteArray) : Option (List ByteArray × Bool) := (name_Places.f k a0).bind fun bt112 => (if bt112.2 = true then (name_Labels.l0 k a0 bt112.1 ([] : List ByteArray) 1) else (some (([] : List ByteArray), false)))
theorem name_Labels.mono_l : ∀ k, (∀ y0 y1 y2 y3, LeO (name_Labels.l0 k y0 y1 y2 y3) (name_Labels.l0 (k + 1) y0 y1 y2 y3))
  | 0 => fun _ _ _ _ r h => by simp [name_Labels.l0] at h
  | k + 1 => by
    have ih0 := name_Labels.mono_l k
    · intro y0 y1 y2 y3
      unfold name_Labels.l0
      repeat' first
      | (with_reducible exact ih0 _ _ _ _)
      | (with_reducible exact name_Places.mono _ _)
      | (with_reducible exact LeO.refl _)
      | (with_reducible exact LeO.none _)
      | (with_reducible refine LeO.ite ?_ ?_)
      | (with_reducible refine LeO.bind ?_ (fun _ => ?_))
      | exact ih0 _ _ _ _
      | exact name_Places.mono _ _
      | exact LeO.none _
      | refine LeO.ite ?_ ?_
      | refine LeO.bind ?_ (fun _ => ?_)
theorem name_Labels.mono : ∀ a0 k, LeO (name_Labels.f k a0) (name_Labels.f (k + 1) a0) := by
  intro a0 k
  have ih0 := name_Labels.mono_l k
  unfold name_Labels.f
  repeat' first
      | (with_reducible exact ih0 _ _ _ _)
      | (with_reducible exact name_Places.mono _ _)
      | (with_reducible exact LeO.refl _)
      | (with_reducible exact LeO.none _)
      | (with_reducible refine LeO.ite ?_ ?_)
      | (with_reducible refine LeO.bind ?_ (fun _ => ?_))
      | exact ih0 _ _ _ _
      | exact name_Places.mono _ _
      | exact LeO.none _
      | refine LeO.ite ?_ ?_
      | refine LeO.bind ?_ (fun _ => ?_)
def name_Labels.T8 : Bool × List (List Nat × List Nat) := (true, [([], []), ([], []), ([], []), ([], []), ([3], [3]), ([2, 4], [2, 4]), ([5], [5]), ([6], [6]), ([], []), ([], []), ([8, 9], [8, 9]), ([10], [10]), ([1, 7, 11], [1, 7, 11]), ([12], [12]), ([0, 13], [0, 13]), ([14, 14, 0, 1, 2, 3, 4, 5, 6, 7, 8, 9, 10, 11, 12, 13, 14], [0, 14])])
def name_Labels.B8 : List Nat := [0, 0, 0, 0, 8, 28, 60, 124, 0, 0, 768, 1792, 4094, 8190, 16383, 32767]
theorem name_Labels.tab8 : rtab .any (opsOf Tryz.f114 8) = name_Labels.T8 := by kernel_rfl
theorem name_Labels.bits8 : waitsOk name_Labels.T8.2 name_Labels.B8 = true := by kernel_rfl
set_option maxHeartbeats 8000000 in
set_option maxRecDepth 100000 in
theorem name_Labels.calls (k : Nat) (a0 : ByteArray) (r1 : List ByteArray) (r2 : Bool) (w : World) (h : name_Labels.f k a0 = some (r1, r2)) :
    Calls Tryz.prog 114 #[.string a0] w fun e w' => ∃ v0_ : Value, e = .returned (.tuple #[v0_, .bool r2]) ∧ Kd.R Kd.string 9 w' w.heap.size (fun _ => True) v0_ r1 ∧ Below w.heap.size w w' := by
  have HB := Aside0.mk (Below.refl w.heap.size w)
  have H : ((name_Places.f k a0).bind fun bt112 => (if bt112.2 = true then (name_Labels.l0 k a0 bt112.1 ([] : List ByteArray) 1) else (some (([] : List ByteArray), false)))) = some (r1, r2) := h
  clear h
  replace H := Option.bind_eq_some_iff.mp H
  obtain ⟨⟨t112, t113⟩, A20, H⟩ := H
  replace H : (if t113 = true then (name_Labels.l0 k a0 t112 ([] : List ByteArray) 1) else (some (([] : List ByteArray), false))) = some (r1, r2) := H
  have A2 := Aside0.mk A20
  clear A20
  by_cases c3 : t113 = true
  · subst c3
    have H1 : (name_Labels.l0 k a0 t112 ([] : List ByteArray) 1) = some (r1, r2) := by rw [if_pos rfl] at H; exact H
    clear H
    have H := H1
    clear H1
    have H' := Aside0.mk H
    clear H
    go_enter Tryz.func114, Tryz.ntmps114
    try simp only [List.append_eq, List.cons_append, List.nil_append]
    go_wp2_with (first | ((with_reducible refine gate_callee (f := 164) rfl ?_); refine goesL_ (some 10) rfl rfl Tryz.func164 (by kernel_rfl) rfl #[.string a0] rfl (by (try simp only [List.map_toArray, List.map_cons, List.map_nil]); first | done | rfl | (simp only [List.length_drop, List.length_take]; rfl)) ?_; (with_reducible refine (name_Places.calls k a0 t112 true _ A2.out).mono ?_); rintro e w4 ⟨v114, rfl, ho0, hb⟩; refine ⟨_, rfl, ?_⟩; have n0_ := Aside0.mk (Kd.R_lower ho0 (below_size (by repeat (first | (with_reducible first | exact HB.out | apply below_alloc | apply pw_below_drewN | apply below_drew1) | exact HB.out)))); have n1_ := Aside0.mk (below_step (by repeat (first | (with_reducible first | exact HB.out | apply below_alloc | apply pw_below_drewN | apply below_drew1) | exact HB.out)) hb); clear HB; have HO115 := n0_; have HB := n1_; clear n0_ n1_; (try clear hb); (try clear hb2); (try clear hk); (try clear hi); (try clear ho0)))
    go_loopg [6, 7] k (fun kq v6 v7 w' => ∃ (x6_1 : List ByteArray) (x7_1 : Int), v7 = .int .i64 x7_1 ∧ Aside0 (name_Labels.l0 kq a0 t112 x6_1 x7_1 = some (r1, r2)) ∧ Aside0 (kq ≤ k) ∧ Aside0 (Kd.R (Kd.int .i64) 3 w' w.heap.size (fun _ => True) v114 t112) ∧ Aside0 (Kd.R Kd.string 9 w' w.heap.size (fun _ => True) v6 x6_1) ∧ Aside0 (Below w.heap.size w w'))
    case atStart => exact ⟨(([] : List ByteArray)), (1), (by first | rfl | (simp; done) | (simp [*]; done) | (simp [ByteArray.size_append]; exact Iff.rfl)), H', ⟨Nat.le_refl _⟩, ⟨by (with_reducible repeat (first | apply Kd.R_alloc | apply Kd.R_drewN | apply Kd.R_drew)); exact HO115.out⟩, ⟨by first | exact Kd.R_nil _ _ _ _ _ | exact Kd.N_nil _ _ _ _ _ | exact Kd.V_nil _ _ _ _ _ | exact Kd.Q_nil _ _ _ _ _ | exact Kd.S_nil _ _ _ _ _⟩, ⟨by repeat (first | (with_reducible first | exact HB.out | apply below_alloc | apply pw_below_drewN | apply below_drew1) | exact HB.out)⟩⟩
    case round =>
      clear H'
      try clear c1
      try clear p2
      try clear c3
      obtain ⟨x6_1, x7_1, rfl, HA, HK1, HO_4, HO_6, HB⟩ := hrel
      cases gk with
      | zero => exact absurd HA.out (by simp [name_Labels.l0])
      | succ k1 =>
        have H := HA.out
        clear HA
        simp only [name_Labels.l0] at H
        by_cases c5 : x7_1 < (t112.length : Int)
        · rw [if_pos c5] at H
          have c5b0 : decide (x7_1 < (t112.length : Int)) = true := decide_eq_true c5
          clear c5
          obtain ⟨ji6, hji6⟩ : ∃ j_ : Int, (wrap64 (x7_1 - 1)) = j_ := ⟨_, rfl⟩
          replace H : (if 0 ≤ (ji6) then (if (ji6) < (t112.length : Int) then (if 0 ≤ x7_1 then (if 0 ≤ (wrap64 ((rd t112 (ji6)) + 1)) then (if (wrap64 ((rd t112 (ji6)) + 1)) ≤ (rd t112 x7_1) then (if (rd t112 x7_1) ≤ (a0.size : Int) then (if x6_1.length < 8796093022208 then (name_Labels.l0 k1 a0 t112 (x6_1 ++ [a0.extract ((wrap64 ((rd t112 (ji6)) + 1)) : Int).toNat ((rd t112 x7_1) : Int).toNat]) (wrap64 (x7_1 + 1))) else (none)) else (none)) else (none)) else (none)) else (none)) else (none)) else (none)) = some (r1, r2) := by first | (rw [hji6] at H; exact H) | (simp only [hji6] at H ⊢; exact H)
          have hji6w : (IntKind.i64.wrap (x7_1 - 1)) = ji6 := (i64_w _).trans hji6
          by_cases c7 : 0 ≤ (ji6)
          · rw [if_pos c7] at H
            have c7b0 : decide (0 ≤ (ji6)) = true := decide_eq_true c7
            clear c7
            by_cases c8 : (ji6) < (t112.length : Int)
            · rw [if_pos c8] at H
              have c8b0 : decide ((ji6) < (t112.length : Int)) = true := decide_eq_true c8
              clear c8
              by_cases c9 : 0 ≤ x7_1
              · rw [if_pos c9] at H
                have c9b0 : decide (0 ≤ x7_1) = true := decide_eq_true c9
                clear c9
                obtain ⟨ji10, hji10⟩ : ∃ j_ : Int, (wrap64 ((rd t112 (ji6)) + 1)) = j_ := ⟨_, rfl⟩
                replace H : (if 0 ≤ (ji10) then (if (ji10) ≤ (rd t112 x7_1) then (if (rd t112 x7_1) ≤ (a0.size : Int) then (if x6_1.length < 8796093022208 then (name_Labels.l0 k1 a0 t112 (x6_1 ++ [a0.extract ((ji10) : Int).toNat ((rd t112 x7_1) : Int).toNat]) (wrap64 (x7_1 + 1))) else (none)) else (none)) else (none)) else (none)) = some (r1, r2) := by first | (rw [hji10] at H; exact H) | (simp only [hji10] at H ⊢; exact H)
                have hji10w : (IntKind.i64.wrap ((rd t112 (ji6)) + 1)) = ji10 := (i64_w _).trans hji10
                by_cases c11 : 0 ≤ (ji10)
                · rw [if_pos c11] at H
                  have c11b0 := eq_true c11
                  have c11b1 : decide (0 ≤ (ji10)) = true := decide_eq_true c11
                  clear c11
                  by_cases c12 : (ji10) ≤ (rd t112 x7_1)
                  · rw [if_pos c12] at H
                    have c12b0 := eq_true c12
                    have c12b1 : decide ((ji10) ≤ (rd t112 x7_1)) = true := decide_eq_true c12
                    clear c12
                    by_cases c13 : (rd t112 x7_1) ≤ (a0.size : Int)
                    · rw [if_pos c13] at H
                      have c13b0 := eq_true c13
                      have c13b1 : decide ((rd t112 x7_1) ≤ (a0.size : Int)) = true := decide_eq_true c13
                      clear c13
                      by_cases c14 : x6_1.length < 8796093022208
                      · rw [if_pos c14] at H
                        have LMc14 := Aside0.mk c14
                        clear c14
                        obtain ⟨y118, hy118⟩ : ∃ y_ : List ByteArray, y_ = (x6_1 ++ [a0.extract ((ji10) : Int).toNat ((rd t112 x7_1) : Int).toNat]) := ⟨_, rfl⟩
                        replace H : (name_Labels.l0 k1 a0 t112 y118 (wrap64 (x7_1 + 1))) = some (r1, r2) := by first | (rw [hy118]; with_reducible exact H) | (have H2_ := (Option.bind_some _ _).symm.trans H; rw [hy118]; with_reducible exact H2_) | (have H2_ := (Option.bind_some _ _).symm.trans H; with_reducible exact H2_) | with_reducible exact H | (rw [hy118]; exact H) | exact H
                        have Ny118 := Aside0.mk hy118
                        clear hy118
                        have H' := Aside0.mk H
                        clear H
                        obtain ⟨Ao15, co15, eo15⟩ := Kd.R_slice HO_4.out
                        subst eo15
                        try go_wp2
                        have n0_ := Aside0.mk (Kd.R_drew HO_4.out)
                        have n1_ := Aside0.mk (Kd.R_drew HO_6.out)
                        have n2_ := Aside0.mk (below_drew1 HB.out)
                        clear HO_4
                        clear HO_6
                        clear HB
                        have HO_4 := n0_
                        have HO_6 := n1_
                        have HB := n2_
                        clear n0_ n1_ n2_
                        have p116 : 0 ≤ ((ji6) : Int) := of_decide_eq_true (by first | (with_reducible assumption) | assumption)
                        have q116 : (ji6) < (t112.length : Int) := of_decide_eq_true (by first | (with_reducible assumption) | assumption)
                        obtain ⟨ad116, e116, hx116_0⟩ := Kd.at_int (Kd.R_reads' HO_4.out).2.2 (ji6) p116 q116
                        cases e116
                        replace p116 := eq_true p116
                        replace q116 := eq_true q116
                        have p117 : 0 ≤ (x7_1 : Int) := of_decide_eq_true (by first | (with_reducible assumption) | assumption)
                        have q117 : x7_1 < (t112.length : Int) := of_decide_eq_true (by first | (with_reducible assumption) | assumption)
                        obtain ⟨ad117, e117, hx117_0⟩ := Kd.at_int (Kd.R_reads' HO_4.out).2.2 x7_1 p117 q117
                        obtain rfl : ad116 = ad117 := (by injection e117)
                        replace p117 := eq_true p117
                        replace q117 := eq_true q117
                        refine start_ (n := 16) (S := fun w' => w'.cell? (ad116.add ((ji6)).toNat) = some (.int .i64 (rd t112 (ji6))) ∧ w'.cell? (ad116.add (x7_1).toNat) = some (.int .i64 (rd t112 x7_1))) (ds := [13, 14]) #[false, false, false, false, false, false, false, false, false, false, false, false, false, false, false, false] (by kernel_rfl) rfl rfl ⟨hx116_0, hx117_0⟩ (fun hHeld => ?_); refine with_tabW name_Labels.tab8 name_Labels.bits8 (fun HT_ HW_ => ?_)
                        generalize wr.drew = w16 at HO_4 HO_6 HB hx116_0 hx117_0 hHeld ⊢
                        refine pure_ (i := 0) (N := some 21) (v := ?_) (a' := ?_) #[true, false, false, false, false, false, false, false, false, false, false, false, false, false, false, false] rfl rfl (any_of HT_.out (by kernel_rfl)) (fun _ _ _ h => h) (Or.inl ⟨by rfl, ?_⟩) ?_ ?_
                        rotate_left
                        · intro w'
                          go_simp
                          with_reducible rfl
                        rotate_left
                        · simp only [Act.put, List.setIfInBounds_toArray, List.set_cons_zero, List.set_cons_succ, i64_w, i32_w]
                          rfl
                        refine pure_ (i := 1) (N := some 22) (v := ?_) (a' := ?_) #[true, true, false, false, false, false, false, false, false, false, false, false, false, false, false, false] rfl rfl (any_of HT_.out (by kernel_rfl)) (fun _ _ _ h => h) (Or.inl ⟨by rfl, ?_⟩) ?_ ?_
                        rotate_left
                        · intro w'
                          go_simp
                          with_reducible rfl
                        rotate_left
                        · simp only [Act.put, List.setIfInBounds_toArray, List.set_cons_zero, List.set_cons_succ, i64_w, i32_w]
                          rfl
                        refine pure_ (i := 2) (N := some 23) (v := ?_) (a' := ?_) #[true, true, true, false, false, false, false, false, false, false, false, false, false, false, false, false] rfl rfl (any_of HT_.out (by kernel_rfl)) (fun _ _ _ h => h) (Or.inl ⟨by rfl, ?_⟩) ?_ ?_
                        rotate_left
                        · intro w'
                          go_simp
                          with_reducible rfl
                        rotate_left
                        · simp only [Act.put, List.setIfInBounds_toArray, List.set_cons_zero, List.set_cons_succ, i64_w, i32_w]
                          rfl
                        refine pure_ (i := 3) (N := some 24) (v := ?_) (a' := ?_) #[true, true, true, true, false, false, false, false, false, false, false, false, false, false, false, false] rfl rfl (any_of HT_.out (by kernel_rfl)) (fun _ _ _ h => h) (Or.inl ⟨by rfl, ?_⟩) ?_ ?_
                        rotate_left
                        · intro w'
                          go_simp
                          with_reducible rfl
                        rotate_left
                        · simp only [Act.put, List.setIfInBounds_toArray, List.set_cons_zero, List.set_cons_succ, i64_w, i32_w]
                          rfl
                        refine pure_ (i := 4) (N := some 25) (v := ?_) (a' := ?_) #[true, true, true, true, true, false, false, false, false, false, false, false, false, false, false, false] rfl rfl (any_of HT_.out (by kernel_rfl)) (fun _ _ _ h => h) (Or.inl ⟨by rfl, ?_⟩) ?_ ?_
                        rotate_left
                        · intro w'
                          go_simp
                          with_reducible rfl
                        rotate_left
                        · simp only [Act.put, List.setIfInBounds_toArray, List.set_cons_zero, List.set_cons_succ, i64_w, i32_w]
                          rfl
                        refine pure_ (i := 5) (N := some 26) (v := ?_) (a' := ?_) #[true, true, true, true, true, true, false, false, false, false, false, false, false, false, false, false] rfl rfl (any_of HT_.out (by kernel_rfl)) (fun _ _ _ h => h) (Or.inl ⟨by rfl, ?_⟩) ?_ ?_
                        rotate_left
                        · intro w'
                          go_simp
                          with_reducible rfl
                        rotate_left
                        · simp only [Act.put, List.setIfInBounds_toArray, List.set_cons_zero, List.set_cons_succ, i64_w, i32_w]
                          rfl
                        refine pure_ (i := 8) (N := some 29) (v := ?_) (a' := ?_) #[true, true, true, true, true, true, false, false, true, false, false, false, false, false, false, false] rfl rfl (any_of HT_.out (by kernel_rfl)) (fun _ _ _ h => h) (Or.inl ⟨by rfl, ?_⟩) ?_ ?_
                        rotate_left
                        · intro w'
                          go_simp
                          with_reducible rfl
                        rotate_left
                        · simp only [Act.put, List.setIfInBounds_toArray, List.set_cons_zero, List.set_cons_succ, i64_w, i32_w]
                          rfl
                        refine pure_ (i := 9) (N := some 30) (v := ?_) (a' := ?_) #[true, true, true, true, true, true, false, false, true, true, false, false, false, false, false, false] rfl rfl (any_of HT_.out (by kernel_rfl)) (fun _ _ _ h => h) (Or.inl ⟨by rfl, ?_⟩) ?_ ?_
                        rotate_left
                        · intro w'
                          go_simp
                          with_reducible rfl
                        rotate_left
                        · simp only [Act.put, List.setIfInBounds_toArray, List.set_cons_zero, List.set_cons_succ, i64_w, i32_w]
                          rfl
                        refine pure_ (i := 10) (N := some 31) (v := ?_) (a' := ?_) #[true, true, true, true, true, true, false, false, true, true, true, false, false, false, false, false] rfl rfl (any_of HT_.out (by kernel_rfl)) (fun _ _ _ h => h) (Or.inl ⟨by rfl, ?_⟩) ?_ ?_
                        rotate_left
                        · intro w'
                          go_simp
                          with_reducible rfl
                        rotate_left
                        · simp only [Act.put, List.setIfInBounds_toArray, List.set_cons_zero, List.set_cons_succ, i64_w, i32_w]
                          rfl
                        refine take_ (i := 6) (N := some 27) (v := ?_) (a' := ?_) #[true, true, true, true, true, true, true, false, true, true, true, false, false, false, false, false] rfl rfl (take_ofW HT_.out HW_.out (by kernel_rfl)) (fun _ _ _ h => h) (Or.inl ⟨by rfl, ?_⟩) hHeld ?_ ?_
                        rotate_left
                        · rintro w' ⟨s0, s1⟩
                          go_simp
                          with_reducible rfl
                        rotate_left
                        · simp only [Act.put, List.setIfInBounds_toArray, List.set_cons_zero, List.set_cons_succ, i64_w, i32_w]
                          rfl
                        refine pure_ (i := 7) (N := some 28) (v := ?_) (a' := ?_) #[true, true, true, true, true, true, true, true, true, true, true, false, false, false, false, false] rfl rfl (any_of HT_.out (by kernel_rfl)) (fun _ _ _ h => h) (Or.inl ⟨by rfl, ?_⟩) ?_ ?_
                        rotate_left
                        · intro w'
                          go_simp
                          with_reducible rfl
                        rotate_left
                        · simp only [Act.put, List.setIfInBounds_toArray, List.set_cons_zero, List.set_cons_succ, i64_w, i32_w]
                          rfl
                        refine take_ (i := 11) (N := some 32) (v := ?_) (a' := ?_) #[true, true, true, true, true, true, true, true, true, true, true, true, false, false, false, false] rfl rfl (take_ofW HT_.out HW_.out (by kernel_rfl)) (fun _ _ _ h => h) (Or.inl ⟨by rfl, ?_⟩) hHeld ?_ ?_
                        rotate_left
                        · rintro w' ⟨s0, s1⟩
                          go_simp
                          with_reducible rfl
                        rotate_left
                        · simp only [Act.put, List.setIfInBounds_toArray, List.set_cons_zero, List.set_cons_succ, i64_w, i32_w]
                          rfl
                        refine pure_ (i := 12) (N := some 33) (v := ?_) (a' := ?_) #[true, true, true, true, true, true, true, true, true, true, true, true, true, false, false, false] rfl rfl (any_of HT_.out (by kernel_rfl)) (fun _ _ _ h => h) (Or.inl ⟨by rfl, ?_⟩) ?_ ?_
                        rotate_left
                        · intro w'
                          go_simp
                          with_reducible rfl
                        rotate_left
                        · simp only [Act.put, List.setIfInBounds_toArray, List.set_cons_zero, List.set_cons_succ, i64_w, i32_w]
                          rfl
                        refine last_ (i := 13) (N := some 34) #[true, true, true, true, true, true, true, true, true, true, true, true, true, true, false, false] rfl rfl (one_of HT_.out (by kernel_rfl)) (by decide) (fun K hK => ?_)
                        refine value_ (w1 := ?_) (v := ?_) (by rfl) rfl ?_ ?_
                        rotate_left 2
                        · go_simp
                          constructor
                          · rfl
                          · rfl
                        refine hK.out _ _ ?_
                        clear hK K
                        refine norm_ (a' := ?_) ?_ ?_
                        rotate_left
                        · show Act.put _ (some 34) _ = _
                          simp only [Act.put, List.setIfInBounds_toArray, List.set_cons_zero, List.set_cons_succ, i64_w, i32_w]
                          rfl
                        refine last_ (i := 14) (N := some 35) #[true, true, true, true, true, true, true, true, true, true, true, true, true, true, true, false] rfl rfl (one_of HT_.out (by kernel_rfl)) (by decide) (fun K hK => ?_)
                        refine Kd.R_append_step Kd.string (w0 := w) w.heap.size (by rfl) (.tmp 21) (.tmp 34) 27 9 (.string ⟨#[]⟩) 16 rfl Tryz.underlying27 info9 rfl (by decide) (by omega) u6 x6_1 (a0.extract ((ji10) : Int).toNat ((rd t112 x7_1) : Int).toNat) [.string (a0.extract ((ji10) : Int).toNat ((rd t112 x7_1) : Int).toNat)] (fun _ => True) (fun _ => False) rfl rfl ?aP (fun _ hk => hk.elim) ?aF ?aO ?aB ?aS ?aL ?_
                        (case aP => exact rfl)
                        (case aB => exact (by repeat (first | (with_reducible first | exact HB.out | apply below_alloc | apply pw_below_drewN | apply below_drew1) | exact HB.out)))
                        (case aF => exact (fun _ _ => trivial))
                        (case aO => exact (by (with_reducible repeat (first | apply Kd.R_alloc | apply Kd.R_drewN | apply Kd.R_drew)); exact HO_6.out))
                        (case aS => exact (below_size (by repeat (first | (with_reducible first | exact HB.out | apply below_alloc | apply pw_below_drewN | apply below_drew1) | exact HB.out))))
                        (case aL => have := LMc14.out; omega)
                        intro v119 w17 ho hb hg hat
                        rw [← Ny118.out] at ho
                        have n0_ := Aside0.mk (Kd.R_over' (by (with_reducible repeat (first | apply Kd.R_alloc | apply Kd.R_drewN | apply Kd.R_drew)); exact HO_4.out) (Kd.R_typed (by (with_reducible repeat (first | apply Kd.R_alloc | apply Kd.R_drewN | apply Kd.R_drew)); exact HO_6.out)) (by decide) hg)
                        have n1_ := Aside0.mk (hb)
                        have n2_ := Aside0.mk (ho)
                        clear HO_4
                        clear HB
                        clear HO_6
                        have HO_4 := n0_
                        have HB := n1_
                        have HO120 := n2_
                        clear n0_ n1_ n2_
                        clear ho hb hg hat
                        refine hK.out _ _ ?_
                        clear hK K
                        refine norm_ (a' := ?_) ?_ ?_
                        rotate_left
                        · show Act.put _ (some 35) _ = _
                          simp only [Act.put, List.setIfInBounds_toArray, List.set_cons_zero, List.set_cons_succ, i64_w, i32_w]
                          rfl
                        refine pure_ (i := 15) (N := some 6) (v := ?_) (a' := ?_) #[true, true, true, true, true, true, true, true, true, true, true, true, true, true, true, true] rfl rfl (any_of HT_.out (by kernel_rfl)) (fun _ _ _ h => h) (Or.inl ⟨by rfl, ?_⟩) ?_ ?_
                        rotate_left
                        · intro w'
                          go_simp
                          with_reducible rfl
                        rotate_left
                        · simp only [Act.put, List.setIfInBounds_toArray, List.set_cons_zero, List.set_cons_succ, i64_w, i32_w]
                          rfl
                        refine done_ (done_of HT_.out (by kernel_rfl)) ?_
                        try go_wp2
                        (try subst hji10); (try subst hji6)
                        go_roundg k1
                        case measure => have := HK1.out; omega
                        case rel => exact ⟨(y118), (wrap64 (x7_1 + 1)), (by first | rfl | (simp; done) | (simp [*]; done) | (simp [ByteArray.size_append]; exact Iff.rfl)), H', ⟨by have := HK1.out; omega⟩, ⟨by (with_reducible repeat (first | apply Kd.R_alloc | apply Kd.R_drewN | apply Kd.R_drew)); exact HO_4.out⟩, ⟨by (with_reducible repeat (first | apply Kd.R_alloc | apply Kd.R_drewN | apply Kd.R_drew)); exact HO120.out⟩, ⟨by repeat (first | (with_reducible first | exact HB.out | apply below_alloc | apply pw_below_drewN | apply below_drew1) | exact HB.out)⟩⟩
                      · rw [if_neg c14] at H
                        exact absurd H (by simp)
                    · rw [if_neg c13] at H
                      exact absurd H (by simp)
                  · rw [if_neg c12] at H
                    exact absurd H (by simp)
                · rw [if_neg c11] at H
                  exact absurd H (by simp)
              · rw [if_neg c9] at H
                exact absurd H (by simp)
            · rw [if_neg c8] at H
              exact absurd H (by simp)
          · rw [if_neg c7] at H
            exact absurd H (by simp)
        · rw [if_neg c5] at H
          have c5b0 : decide (x7_1 < (t112.length : Int)) = false := decide_eq_false c5
          clear c5
          simp only [Option.some.injEq, Prod.mk.injEq] at H
          obtain ⟨rfl, rfl⟩ := H
          obtain ⟨Ao18, co18, eo18⟩ := Kd.R_slice HO_4.out
          subst eo18
          go_wp2
          go_ret2
          exact ⟨_, by first | rfl | (simp [errW_none, errW_some] <;> rfl) | (simp [*, errW_none, errW_some] <;> rfl), by (with_reducible repeat (first | apply Kd.R_alloc | apply Kd.R_drewN | apply Kd.R_drew)); exact HO_6.out, by repeat (first | (with_reducible first | exact HB.out | apply below_alloc | apply pw_below_drewN | apply below_drew1) | exact HB.out)⟩
  · replace c3 := Bool.eq_false_iff.mpr c3
    subst c3
    have H1 : (some (([] : List ByteArray), false)) = some (r1, r2) := by rw [if_neg (show ¬ (false = true) by decide)] at H; exact H
    clear H
    have H := H1
    clear H1
    simp only [Option.some.injEq, Prod.mk.injEq] at H
    obtain ⟨rfl, rfl⟩ := H
    go_enter Tryz.func114, Tryz.ntmps114
    try simp only [List.append_eq, List.cons_append, List.nil_append]
    go_wp2_with (first | ((with_reducible refine gate_callee (f := 164) rfl ?_); refine goesL_ (some 10) rfl rfl Tryz.func164 (by kernel_rfl) rfl #[.string a0] rfl (by (try simp only [List.map_toArray, List.map_cons, List.map_nil]); first | done | rfl | (simp only [List.length_drop, List.length_take]; rfl)) ?_; (with_reducible refine (name_Places.calls k a0 t112 false _ A2.out).mono ?_); rintro e w19 ⟨v114, rfl, ho0, hb⟩; refine ⟨_, rfl, ?_⟩; have n0_ := Aside0.mk (Kd.R_lower ho0 (below_size (by repeat (first | (with_reducible first | exact HB.out | apply below_alloc | apply pw_below_drewN | apply below_drew1) | exact HB.out)))); have n1_ := Aside0.mk (below_step (by repeat (first | (with_reducible first | exact HB.out | apply below_alloc | apply pw_below_drewN | apply below_drew1) | exact HB.out)) hb); clear HB; have HO115 := n0_; have HB := n1_; clear n0_ n1_; (try clear hb); (try clear hb2); (try clear hk); (try clear hi); (try clear ho0)))
    go_ret2
    exact ⟨_, by first | rfl | (simp [errW_none, errW_some] <;> rfl) | (simp [*, errW_none, errW_some] <;> rfl), by first | exact Kd.R_nil _ _ _ _ _ | exact Kd.N_nil _ _ _ _ _ | exact Kd.V_nil _ _ _ _ _ | exact Kd.Q_nil _ _ _ _ _ | exact Kd.S_nil _ _ _ _ _, by repeat (first | (with_reducible first | exact HB.out | apply below_alloc | apply pw_below_drewN | apply below_drew1) | exact HB.out)⟩

-- NOT PRINTED: function 249 (abi_NoEscape)

-- NOT PRINTED: function 184 (strings_Builder_copyCheck)

-- NOT PRINTED: function 115 (strings_Builder_WriteByte)

-- NOT PRINTED: function 116 (strings_Builder_WriteString)

/-! ### rel_fold: function 185 -/
def rel_fold.f (a0 : Int) : Option (Int) := if a0 ≥ 65 then (if a0 ≤ 90 then (some ((a0 + 32) % 256)) else (some a0)) else (some a0)
set_option maxHeartbeats 8000000 in
set_option maxRecDepth 100000 in
theorem rel_fold.calls (a0 : Int) (r : Int) (w : World) (h : rel_fold.f a0 = some r) :
    Calls Tryz.prog 185 #[.int .u8 a0] w fun e w' => e = .returned (.int .u8 r) ∧ Drawn0 w w' := by
  have H : (if a0 ≥ 65 then (if a0 ≤ 90 then (some ((a0 + 32) % 256)) else (some a0)) else (some a0)) = some r := h
  clear h
  by_cases c2 : a0 ≥ 65
  · rw [if_pos c2] at H
    have c2b0 : decide (65 ≤ a0) = true := decide_eq_true c2
    clear c2
    by_cases c3 : a0 ≤ 90
    · rw [if_pos c3] at H
      have c3b0 : decide (a0 ≤ 90) = true := decide_eq_true c3
      clear c3
      obtain rfl := Option.some.inj H
      go_enter Tryz.func185, Tryz.ntmps185
      try simp only [List.append_eq, List.cons_append, List.nil_append]
      go_wp2
      go_ret
      exact ⟨by first | rfl | (simp; done) | (simp [*]; done), by repeat (first | exact Drawn0.refl _ | apply Drawn0.step)⟩
    · rw [if_neg c3] at H
      have c3b0 : decide (a0 ≤ 90) = false := decide_eq_false c3
      clear c3
      obtain rfl := Option.some.inj H
      go_enter Tryz.func185, Tryz.ntmps185
      try simp only [List.append_eq, List.cons_append, List.nil_append]
      go_wp2
      go_ret
      exact ⟨by first | rfl | (simp; done) | (simp [*]; done), by repeat (first | exact Drawn0.refl _ | apply Drawn0.step)⟩
  · rw [if_neg c2] at H
    have c2b0 : decide (65 ≤ a0) = false := decide_eq_false c2
    clear c2
    obtain rfl := Option.some.inj H
    go_enter Tryz.func185, Tryz.ntmps185
    try simp only [List.append_eq, List.cons_append, List.nil_append]
    go_wp2
    go_ret
    exact ⟨by first | rfl | (simp; done) | (simp [*]; done), by repeat (first | exact Drawn0.refl _ | apply Drawn0.step)⟩

/-! ### rel_folded: function 117 -/
def rel_folded.f (a0 : ByteArray) : Option (ByteArray) := if a0.size ≤ 1000000 then some ⟨(M.fol a0.data.toList).toArray⟩ else none

set_option maxHeartbeats 4000000 in
set_option maxRecDepth 100000 in
theorem rel_folded.calls (a0 : ByteArray) (r : ByteArray) (w : World) (h : rel_folded.f a0 = some r) :
    Calls Tryz.prog 117 #[.string a0] w fun e w' => e = .returned (.string r) ∧ Below w.heap.size w w' := by
  unfold rel_folded.f at h
  by_cases hs : a0.size ≤ 1000000
  · rw [if_pos hs] at h
    obtain rfl := Option.some.inj h
    clear h
    have hsz : a0.size = a0.data.toList.length := by rw [Array.length_toList]; rfl
    generalize hl : a0.data.toList = l at *
    have Hl := Lib.hid hl
    clear hl
    have HSZ := Lib.hid hsz
    have hconv := Lib.run_convert_string_bytes (P := Tryz.prog) w 9 102 5 a0 Tryz.underlying9 Tryz.underlying102 Tryz.underlying5
    have hnew := M.BRow.new w a0
    rw [Hl.out] at hnew
    have hbel := M.below_bytes w a0
    have hback : ∀ (W : World) (L : List UInt8) (c : Nat), M.BRow W w.heap.size L → L.length = a0.size → (convert 102 9 (.slice (some ⟨w.heap.size, 0, none⟩) a0.size c)).run Tryz.prog W = .ok (.string ⟨L.toArray⟩) W := by
      intro W L c hB hL
      rw [← hL]
      exact hB.back Tryz.underlying102 Tryz.underlying5 Tryz.underlying9
    have HBK := Lib.hid hback
    clear hback
    clear hsz
    go_enter Tryz.func117, Tryz.ntmps117
    go_wp2
    clear hconv
    go_loopw [9] (fun v9 wr => ∃ i : Nat, i ≤ a0.size ∧ v9 = .int .i64 i ∧ M.BRow wr w.heap.size ((l.take i).map M.fo ++ l.drop i) ∧ Below w.heap.size w wr) (fun v9 _ => a0.size - (intOf v9).toNat)
    case atStart => exact ⟨0, Nat.zero_le _, rfl, by simpa using hnew, hbel⟩
    case round =>
      clear hnew hbel
      obtain ⟨i, hi, rfl, hrow, hbw⟩ := hrel
      have hws : w.heap.size ≤ wr.heap.size := hbw.size
      by_cases hlt : i < a0.size
      · have hlt2 : i < l.length := by rw [← HSZ.out]; exact hlt
        have hlen := M.mid_len M.fo l i (by omega)
        have hcell := hrow.cell i (by omega)
        rw [M.mid_get M.fo l i hlt2] at hcell
        have hfree := hrow.free i (by omega)
        have hput := hrow.put i (M.fo (l[i]'hlt2))
        rw [M.mid_set M.fo l i hlt2, M.fo_toNat] at hput
        generalize l[i]'hlt2 = c at *
        have hc := c.toNat_lt
        clear hlen
        by_cases hcap : 65 ≤ c.toNat ∧ c.toNat ≤ 90
        · rw [if_pos hcap] at hput
          have q1 : decide (65 ≤ (c.toNat : Int)) = true := decide_eq_true (by omega)
          have q2 : decide ((c.toNat : Int) ≤ 90) = true := decide_eq_true (by omega)
          have hcast : ((c.toNat + 32 : Nat) : Int) = ((c.toNat : Int) + 32) % 256 := by omega
          rw [hcast] at hput
          have HPUT := Lib.hid hput
          clear hput hcast hcap hrow
          go_wp2
          go_roundw
          case rel => exact ⟨i + 1, by omega, by go_num, HPUT.out, hbw.setCell (p := ⟨w.heap.size, i, none⟩) (Nat.le_refl _) _⟩
          case measure => simp [intOf]; omega
        · rw [if_neg hcap] at hput
          have HPUT := Lib.hid hput
          clear hput hrow
          have key : (decide (65 ≤ (c.toNat : Int)) = false) ∨ (decide (65 ≤ (c.toNat : Int)) = true ∧ decide ((c.toNat : Int) ≤ 90) = false) := by
            simp only [decide_eq_true_eq, decide_eq_false_iff_not]
            omega
          clear hcap
          rcases key with q1 | ⟨q1, q2⟩
          all_goals
            go_wp2
            go_roundw
            case rel => exact ⟨i + 1, by omega, by go_num, HPUT.out, hbw.setCell (p := ⟨w.heap.size, i, none⟩) (Nat.le_refl _) _⟩
            case measure => simp [intOf]; omega
      · obtain rfl : i = a0.size := by omega
        have hfin : (l.take a0.size).map M.fo ++ l.drop a0.size = M.fol l := by
          rw [HSZ.out, List.take_length, List.drop_length, List.append_nil]
          rfl
        rw [hfin] at hrow
        have hb2 := HBK.out wr (M.fol l) (grownCap w a0.size 0 5) hrow (by rw [M.fol_length, HSZ.out])
        clear hfin
        go_wp2
        go_ret
        exact ⟨rfl, hbw⟩
  · rw [if_neg hs] at h
    cases h


-- NOT PRINTED: function 118 (strings_Builder_String)

/-! ### rel_Fold: function 72 -/
/-- Folded labels, as a name's bytes. -/
def foldB (ls : List ByteArray) : ByteArray := ⟨(M.wire (ls.map (fun l => M.fol l.data.toList))).toArray⟩
def rel_Fold.f (k : Nat) (a0 : ByteArray) : Option (ByteArray) := (name_Labels.f k a0).bind fun b => (if b.2 = true then (if b.1.length ≤ 1000 ∧ ∀ l ∈ b.1, l.size ≤ 255 then some (foldB b.1) else none) else some (⟨#[]⟩))
theorem rel_Fold.mono : ∀ a0 k, LeO (rel_Fold.f k a0) (rel_Fold.f (k + 1) a0) := by
  intro a0 k
  unfold rel_Fold.f
  exact LeO.bind (name_Labels.mono _ _) (fun _ => LeO.refl _)
theorem rel_Fold.rdOf_str (ls : List ByteArray) (i : Nat) (h : i < ls.length) : rdOf ByteArray.empty ls (i : Int) = ls[i] := by
  simp [rdOf, List.getD_eq_getElem?_getD, h]
theorem rel_Fold.folded_f (l : ByteArray) (h : l.size ≤ 255) : rel_folded.f l = some ⟨(M.fol l.data.toList).toArray⟩ := by
  unfold rel_folded.f
  rw [if_pos (by omega)]
/-- What is written behind i labels. -/
def rel_Fold.upto (ls : List ByteArray) (i : Nat) : List UInt8 := ((ls.take i).map (fun l => UInt8.ofNat l.size :: M.fol l.data.toList)).flatten
theorem rel_Fold.upto_succ (ls : List ByteArray) (i : Nat) (h : i < ls.length) : rel_Fold.upto ls (i + 1) = (rel_Fold.upto ls i ++ [UInt8.ofNat ls[i].size]) ++ M.fol ls[i].data.toList := by
  unfold rel_Fold.upto
  rw [List.take_succ_eq_append_getElem h, List.map_append, List.flatten_append]
  simp
theorem rel_Fold.upto_len (ls : List ByteArray) (hg : ∀ l ∈ ls, l.size ≤ 255) (i : Nat) (hi : i ≤ ls.length) : (rel_Fold.upto ls i).length ≤ 256 * i := by
  induction i with
  | zero => simp [rel_Fold.upto]
  | succ i ih =>
    rw [rel_Fold.upto_succ ls i (by omega)]
    have h1 := ih (by omega)
    have h2 := hg _ (List.getElem_mem (show i < ls.length by omega))
    have h3 : ls[i].data.toList.length = ls[i].size := by rw [Array.length_toList]; rfl
    simp only [List.length_append, List.length_cons, List.length_nil, M.fol_length]
    omega
theorem rel_Fold.upto_all (ls : List ByteArray) : rel_Fold.upto ls ls.length ++ [0] = M.wire (ls.map (fun l => M.fol l.data.toList)) := by
  unfold rel_Fold.upto
  rw [List.take_length]
  induction ls with
  | nil => rfl
  | cons l r ih =>
    have h3 : l.data.toList.length = l.size := by rw [Array.length_toList]; rfl
    simp only [List.map_cons, List.flatten_cons, M.wire, M.fol_length, h3, List.cons_append, List.append_assoc]
    rw [ih]

set_option maxHeartbeats 4000000 in
set_option maxRecDepth 100000 in
theorem rel_Fold.calls (k : Nat) (a0 : ByteArray) (r : ByteArray) (w : World) (h : rel_Fold.f k a0 = some r) :
    Calls Tryz.prog 72 #[.string a0] w fun e w' => e = .returned (.string r) ∧ Below w.heap.size w w' := by
  unfold rel_Fold.f at h
  obtain ⟨⟨ls, is⟩, hL, h⟩ := Option.bind_eq_some_iff.1 h
  have HL := Lib.hid hL
  clear hL
  cases is with
  | false =>
    simp only [Bool.false_eq_true, if_false, Option.some.injEq] at h
    obtain rfl := h
    go_enter Tryz.func72, Tryz.ntmps72
    go_wp2_with fail
    refine (name_Labels.calls k a0 ls false _ HL.out).mono ?_
    rintro e w1 ⟨v, rfl, hR, hB⟩
    clear HL
    go_wp2
    go_ret
    exact ⟨rfl, hB⟩
  | true =>
    simp only [if_true] at h
    by_cases hg : ls.length ≤ 1000 ∧ ∀ l ∈ ls, l.size ≤ 255
    · rw [if_pos hg] at h
      obtain rfl := Option.some.inj h
      clear h
      obtain ⟨hg1, hg2⟩ := hg
      have HG := Lib.hid hg2
      clear hg2
      have hfin := rel_Fold.upto_all ls
      have HF := Lib.hid hfin
      clear hfin
      go_enter Tryz.func72, Tryz.ntmps72
      go_wp2_with fail
      refine (name_Labels.calls k a0 ls true _ HL.out).mono ?_
      rintro e w1 ⟨v, rfl, hR, hB⟩
      clear HL
      obtain ⟨A, c, rfl⟩ := Kd.R_slice hR
      have HR := Lib.hid hR
      clear hR
      go_wp2
      have hsz : w.heap.size ≤ w1.heap.size := hB.size
      go_loopw [17] (fun v17 wr => ∃ i : Nat, i ≤ ls.length ∧ v17 = .int .i64 i ∧ Lib.IsBuilder 222 5 w1.heap.size w1.heap.size (Lib.byteCells (rel_Fold.upto ls i)) wr ∧ Below w1.heap.size w1 wr) (fun v17 _ => ls.length - (intOf v17).toNat)
      case atStart => exact ⟨0, Nat.zero_le _, rfl, Lib.fresh_isBuilder 222 5 w1, (Below.refl _ _).alloc (Nat.le_refl _) _⟩
      case round =>
        obtain ⟨i, hi, rfl, hI, hbw⟩ := hrel
        have hws : w1.heap.size ≤ wr.heap.size := hbw.size
        have hul := rel_Fold.upto_len ls HG.out i hi
        have hbl : (Lib.byteCells (rel_Fold.upto ls i)).length ≤ 256000 := by
          rw [Lib.byteCells, List.length_map]
          omega
        by_cases hlt : i < ls.length
        · have hR := Kd.R_below HR.out hbw
          obtain ⟨ad, rfl, hcell⟩ := Kd.at_string (Kd.R_reads' hR).2.2 (i : Int) (by omega) (by omega)
          rw [rel_Fold.rdOf_str ls i hlt, Int.toNat_natCast] at hcell
          clear hR
          have hl1 : ls[i].size ≤ 255 := HG.out _ (List.getElem_mem hlt)
          have hus := rel_Fold.upto_succ ls i hlt
          generalize ls[i] = l at *
          have HU := Lib.hid hus
          clear hus
          generalize hT : rel_Fold.upto ls i = T at *
          clear hT
          have hbyte : ((UInt8.ofNat l.size).toNat : Int) = (l.size : Int) := by rw [M.ofNat_toNat_len hl1]
          have HBY := Lib.hid hbyte
          clear hbyte
          have hlc : (Lib.byteCells (M.fol l.data.toList)).length ≤ 255 := by
            have h3 : l.data.toList.length = l.size := by rw [Array.length_toList]; rfl
            rw [Lib.byteCells, List.length_map, M.fol_length, h3]
            exact hl1
          go_wp2_with fail
          refine (Bld.WriteByte w1.heap.size w1.heap.size _ _ _ hI (by omega) hws).mono ?_
          rintro e w3 ⟨rfl, h3, b3⟩
          have hw3 : w1.heap.size ≤ w3.heap.size := Nat.le_trans hws b3.size
          go_wp2_with fail
          refine (rel_folded.calls l _ _ (rel_Fold.folded_f l hl1)).mono ?_
          rintro e w4 ⟨rfl, b4⟩
          have hw4 : w1.heap.size ≤ w4.heap.size := Nat.le_trans hw3 b4.size
          have h4 := Bld.keep (.inr h3) b4
          go_wp2_with fail
          refine (Bld.WriteString w1.heap.size w1.heap.size _ ⟨(M.fol l.data.toList).toArray⟩ _ h4 ?_ hw4).mono ?_
          · have e1 : (⟨(M.fol l.data.toList).toArray⟩ : ByteArray).size = (Lib.byteCells (M.fol l.data.toList)).length := by simp [Lib.byteCells, ByteArray.size]
            rw [e1, List.length_append, List.length_cons, List.length_nil]
            omega
          rintro e w5 ⟨rfl, h5, b5⟩
          go_wp2
          go_roundw
          case rel =>
            refine ⟨i + 1, by omega, by go_num, ?_, ((hbw.trans b3).trans (b4.mono hw3)).trans b5⟩
            rw [HU.out, Lib.byteCells_append, Lib.byteCells_append]
            have e2 : Lib.byteCells [UInt8.ofNat l.size] = [.int .u8 (l.size : Int)] := by rw [← HBY.out]; rfl
            have e3 : Lib.strCells ⟨(M.fol l.data.toList).toArray⟩ = Lib.byteCells (M.fol l.data.toList) := by simp [Lib.strCells, Lib.byteCells]
            rw [e2, ← e3]
            exact .inr h5
          case measure => simp [intOf]; omega
        · obtain rfl : i = ls.length := by omega
          go_wp2_with fail
          refine (Bld.WriteString w1.heap.size w1.heap.size _ ⟨#[0]⟩ _ hI (by show _ + 1 ≤ _; omega) hws).mono ?_
          rintro e w3 ⟨rfl, h3, b3⟩
          have hw3 : w1.heap.size ≤ w3.heap.size := Nat.le_trans hws b3.size
          have h4 : Lib.IsBuilder 222 5 w1.heap.size w1.heap.size (Lib.byteCells (M.wire (ls.map (fun l => M.fol l.data.toList)))) w3 := by
            rw [← HF.out, Lib.byteCells_append]
            exact .inr h3
          go_wp2_with fail
          refine (Tryz.Builder_String_any w1.heap.size w1.heap.size _ _ h4 hw3).mono ?_
          rintro e w4 ⟨rfl, b4⟩
          go_wp2
          go_ret
          exact ⟨rfl, ((hB.trans (hbw.mono hsz)).trans (b3.mono hsz)).trans (b4.mono hsz)⟩
    · rw [if_neg hg] at h
      cases h


end Go.Proofs.YtmlipiegjgklcaaGreat.P
