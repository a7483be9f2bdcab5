/- job.May. -/
import Derived.Test.YtkmdjcdmgmffiaaHJob4
set_option linter.unusedVariables false
set_option linter.unusedSimpArgs false
namespace Go.Proofs.Ytkmdjcdmgmffiaa.M
open Go Go.RowKit Go.ChangeMaps Go.Proofs.YtkmdjcdmgmffiaaW.PrintWords Go.Proofs.YtkmdjcdmgmffiaaW.PrintLast Go.Proofs.YtkmdjcdmgmffiaaW.PrintMore Go.Proofs.Ytkmdjcdmgmffiaa.P

theorem in_eq (x lo hi : Int) (b : Bool) (h : decide (lo ≤ x ∧ x ≤ hi) = b) : job_in.f x lo hi = some b := by
  unfold job_in.f
  subst h
  by_cases h1 : lo ≤ x
  · rw [if_pos h1]; simp [h1]
  · rw [if_neg h1]; simp [h1]
set_option maxHeartbeats 4000000 in
set_option maxRecDepth 100000 in
theorem May_calls (w : World) (A : Option Addr) (k c : Nat) (A10 : Option Addr) (k10 c10 : Nat) (x1 x2 x3 x4 x5 x6 x7 x8 x9 : Int) (ec : Int) (b0 b1 b2 b3 b4 b5 b6 b7 b8 b9 b10 : Bool)
    (hc : ∀ o, Calls Try.prog 28 #[.slice A k c] (w.alloc o) fun e w' => (∃ u, e = .returned (.tuple #[.pointer u, .int .i64 ec])) ∧ Below (w.alloc o).heap.size (w.alloc o) w')
    (h0 : decide (ec = 0) = b0) (h10 : decide (k10 ≤ 1024) = b10)
    (h1 : job_in.f x1 1 256 = some b1) (h2 : job_in.f x2 1 16 = some b2) (h3 : job_in.f x3 1 64 = some b3) (h4 : job_in.f x4 0 4 = some b4) (h5 : job_in.f x5 0 8 = some b5) (h6 : job_in.f x6 1 1000 = some b6) (h7 : job_in.f x7 1 8 = some b7) (h8 : job_in.f x8 0 16 = some b8) (h9 : job_in.f x9 0 16 = some b9) : Calls Try.prog 22 #[.agg #[.slice A k c, .int .i64 x1, .int .i64 x2, .int .i64 x3, .int .i64 x4, .int .i64 x5, .int .i64 x6, .int .i64 x7, .int .i64 x8, .int .i64 x9, .slice A10 k10 c10]] w fun e w' => e = .returned (.bool (b0 && b1 && b2 && b3 && b4 && b5 && b6 && b7 && b8 && b9 && b10)) ∧ Below w.heap.size w w' := by
  have h0' : (ec == 0) = b0 := by rw [← h0]; rfl
  have h10' : decide ((k10 : Int) ≤ 1024) = b10 := by rw [← h10]; exact decide_eq_decide.2 (by omega)
  go_enter Try.func22, Try.ntmps22
  go_wp2_with fail
  refine (hc _).mono ?_
  rintro e w1 ⟨⟨u, rfl⟩, hb⟩
  have BK := Aside0.mk (blk_below (blk_new w _) hb)
  have HB := Aside0.mk (below_then (below_alloc (Below.refl _ _) _) (below_alloc (Below.refl _ _) _).size hb)
  have C1 : w1.cell? ⟨w.heap.size, 1, none⟩ = some (.int .i64 x1) := (blk_cell BK.out 1).trans rfl
  have C2 : w1.cell? ⟨w.heap.size, 2, none⟩ = some (.int .i64 x2) := (blk_cell BK.out 2).trans rfl
  have C3 : w1.cell? ⟨w.heap.size, 3, none⟩ = some (.int .i64 x3) := (blk_cell BK.out 3).trans rfl
  have C4 : w1.cell? ⟨w.heap.size, 4, none⟩ = some (.int .i64 x4) := (blk_cell BK.out 4).trans rfl
  have C5 : w1.cell? ⟨w.heap.size, 5, none⟩ = some (.int .i64 x5) := (blk_cell BK.out 5).trans rfl
  have C6 : w1.cell? ⟨w.heap.size, 6, none⟩ = some (.int .i64 x6) := (blk_cell BK.out 6).trans rfl
  have C7 : w1.cell? ⟨w.heap.size, 7, none⟩ = some (.int .i64 x7) := (blk_cell BK.out 7).trans rfl
  have C8 : w1.cell? ⟨w.heap.size, 8, none⟩ = some (.int .i64 x8) := (blk_cell BK.out 8).trans rfl
  have C9 : w1.cell? ⟨w.heap.size, 9, none⟩ = some (.int .i64 x9) := (blk_cell BK.out 9).trans rfl
  have C10 : w1.cell? ⟨w.heap.size, 10, none⟩ = some (.slice A10 k10 c10) := (blk_cell BK.out 10).trans rfl
  clear hb hc BK
  simp only
  go_wp2_with fail
  refine (job_in.calls x1 1 256 b1 _ h1).mono ?_
  rintro e w' ⟨rfl, ⟨nd1, rfl⟩⟩
  simp only
  cases b1
  · go_wp2_with fail
    all_goals (go_ret; exact ⟨by simp [*], by repeat (first | exact HB.out | apply pw_below_drewN | apply below_drew1)⟩)
  go_wp2_with fail
  refine (job_in.calls x2 1 16 b2 _ h2).mono ?_
  rintro e w' ⟨rfl, ⟨nd2, rfl⟩⟩
  simp only
  cases b2
  · go_wp2_with fail
    all_goals (go_ret; exact ⟨by simp [*], by repeat (first | exact HB.out | apply pw_below_drewN | apply below_drew1)⟩)
  go_wp2_with fail
  refine (job_in.calls x3 1 64 b3 _ h3).mono ?_
  rintro e w' ⟨rfl, ⟨nd3, rfl⟩⟩
  simp only
  cases b3
  · go_wp2_with fail
    all_goals (go_ret; exact ⟨by simp [*], by repeat (first | exact HB.out | apply pw_below_drewN | apply below_drew1)⟩)
  go_wp2_with fail
  refine (job_in.calls x4 0 4 b4 _ h4).mono ?_
  rintro e w' ⟨rfl, ⟨nd4, rfl⟩⟩
  simp only
  cases b4
  · go_wp2_with fail
    all_goals (go_ret; exact ⟨by simp [*], by repeat (first | exact HB.out | apply pw_below_drewN | apply below_drew1)⟩)
  go_wp2_with fail
  refine (job_in.calls x5 0 8 b5 _ h5).mono ?_
  rintro e w' ⟨rfl, ⟨nd5, rfl⟩⟩
  simp only
  cases b5
  · go_wp2_with fail
    all_goals (go_ret; exact ⟨by simp [*], by repeat (first | exact HB.out | apply pw_below_drewN | apply below_drew1)⟩)
  cases b0
  · go_wp2_with fail
    all_goals (go_ret; exact ⟨by simp [*], by repeat (first | exact HB.out | apply pw_below_drewN | apply below_drew1)⟩)
  go_wp2_with fail
  refine (job_in.calls x6 1 1000 b6 _ h6).mono ?_
  rintro e w' ⟨rfl, ⟨nd6, rfl⟩⟩
  simp only
  cases b6
  · go_wp2_with fail
    all_goals (go_ret; exact ⟨by simp [*], by repeat (first | exact HB.out | apply pw_below_drewN | apply below_drew1)⟩)
  go_wp2_with fail
  refine (job_in.calls x7 1 8 b7 _ h7).mono ?_
  rintro e w' ⟨rfl, ⟨nd7, rfl⟩⟩
  simp only
  cases b7
  · go_wp2_with fail
    all_goals (go_ret; exact ⟨by simp [*], by repeat (first | exact HB.out | apply pw_below_drewN | apply below_drew1)⟩)
  go_wp2_with fail
  refine (job_in.calls x8 0 16 b8 _ h8).mono ?_
  rintro e w' ⟨rfl, ⟨nd8, rfl⟩⟩
  simp only
  cases b8
  · go_wp2_with fail
    all_goals (go_ret; exact ⟨by simp [*], by repeat (first | exact HB.out | apply pw_below_drewN | apply below_drew1)⟩)
  go_wp2_with fail
  refine (job_in.calls x9 0 16 b9 _ h9).mono ?_
  rintro e w' ⟨rfl, ⟨nd9, rfl⟩⟩
  simp only
  cases b9
  · go_wp2_with fail
    all_goals (go_ret; exact ⟨by simp [*], by repeat (first | exact HB.out | apply pw_below_drewN | apply below_drew1)⟩)
  go_wp2_with fail
  all_goals (go_ret; exact ⟨by simp [*], by repeat (first | exact HB.out | apply pw_below_drewN | apply below_drew1)⟩)
end Go.Proofs.Ytkmdjcdmgmffiaa.M
