/- wimplelaw9: awake. -/
import Derived.Test.YtjmdfhbenejfgaaHEcs2
import Derived.Test.YtjmdfhbenejfgaaHLimits
set_option linter.unusedVariables false
set_option linter.unusedSimpArgs false
namespace Go.Proofs.Ytjmdfhbenejfgaa.M
open Go Go.RowKit Go.Proofs.YtjmdfhbenejfgaaW.PrintWords Go.Proofs.YtjmdfhbenejfgaaW.PrintLast Go.Proofs.YtjmdfhbenejfgaaW.PrintMore Go.Proofs.Ytjmdfhbenejfgaa.P

def opts3 : List S52 := [⟨8, ⟨#[97]⟩⟩, ⟨12, ⟨#[]⟩⟩, ⟨8, ⟨#[]⟩⟩]
theorem opts3_row {W : World} {g : Nat} (h : W.heap[g]? = some (.cells #[.int .i64 8, .string ⟨#[97]⟩, .int .i64 12, .string ⟨#[]⟩, .int .i64 8, .string ⟨#[]⟩] 52 (0, 0))) : RowB W g opts3 := by
  refine ⟨_, h, fun q p hq => ?_⟩
  match q, hq with
  | 0, hq => obtain rfl := Option.some.inj hq; exact ⟨rfl, rfl⟩
  | 1, hq => obtain rfl := Option.some.inj hq; exact ⟨rfl, rfl⟩
  | 2, hq => obtain rfl := Option.some.inj hq; exact ⟨rfl, rfl⟩
theorem opts3_filter : opts3.filter notE = [⟨12, ⟨#[]⟩⟩] := by simp [opts3, notE, isE]

set_option maxHeartbeats 4000000 in
set_option maxRecDepth 100000 in
theorem awake9_walk (w : World) : Calls Try.prog 35 #[] w fun e w' => e = .returned (.bool true) ∧ Below w.heap.size w w' := by
  go_enter Try.func35, Try.ntmps35
  go_wp2_with fail
  generalize hW : (w.alloc _).alloc _ = W
  have WS : Aside0 (W.heap.size = w.heap.size + 2) := ⟨by rw [← hW]; simp⟩
  have TW : Aside0 (Below w.heap.size w W) := ⟨by rw [← hW]; exact below_alloc (below_alloc (Below.refl w.heap.size w) _) _⟩
  have b1 : W.heap[w.heap.size]? = some (.cells #[.int .i64 8, .string ⟨#[97]⟩, .int .i64 12, .string ⟨#[]⟩, .int .i64 8, .string ⟨#[]⟩] 52 (0, 0)) := by rw [← hW]; exact blk_below (blk_new w _) (below_alloc (Below.refl _ _) _)
  have b2 : W.heap[w.heap.size + 1]? = some (.cells #[.int .i64 5, .int .i64 0, .int .i64 0, .bool false, .int .i64 0, .slice (some ⟨w.heap.size, 0, none⟩) 3 3] 44 (0, 0)) := by rw [← hW]; have h2 := blk_new (w.alloc (.cells #[.int .i64 8, .string ⟨#[97]⟩, .int .i64 12, .string ⟨#[]⟩, .int .i64 8, .string ⟨#[]⟩] 52)) (.cells #[.int .i64 5, .int .i64 0, .int .i64 0, .bool false, .int .i64 0, .slice (some ⟨w.heap.size, 0, none⟩) 3 3] 44); rwa [World.size_alloc] at h2
  have R1 := Aside0.mk (opts3_row b1)
  have B2 := Aside0.mk b2
  clear hW b1 b2
  have hC3 : Kd.C k52 W (some ⟨w.heap.size, 0, none⟩) opts3.length opts3 := RowB_C R1.out (by decide)
  refine (Strip_calls W 5 0 0 false 0 (some ⟨w.heap.size, 0, none⟩) 3 opts3 hC3 (by decide)).mono ?_
  rintro e w2 ⟨v, rfl, ho, hb⟩
  rw [opts3_filter] at ho
  obtain ⟨hm, ⟨rfl, hx⟩ | ⟨g, c, rfl, hg, hc, hR⟩⟩ := ho
  · cases hx
  have HB := Aside0.mk hb
  have RG := Aside0.mk hR
  have R2 := Aside0.mk (RowB_keep R1.out hb)
  have d2 := blk_below B2.out hb
  have c10 : ∀ o, (w2.alloc o).cell? ⟨w.heap.size + 1, 0, none⟩ = some (.int .i64 5) := fun o => (blk_cell (blk_below d2 (below_alloc (Below.refl _ _) o)) 0).trans rfl
  have c11 : ∀ o, (w2.alloc o).cell? ⟨w.heap.size + 1, 1, none⟩ = some (.int .i64 0) := fun o => (blk_cell (blk_below d2 (below_alloc (Below.refl _ _) o)) 1).trans rfl
  have c12 : ∀ o, (w2.alloc o).cell? ⟨w.heap.size + 1, 2, none⟩ = some (.int .i64 0) := fun o => (blk_cell (blk_below d2 (below_alloc (Below.refl _ _) o)) 2).trans rfl
  have c13 : ∀ o, (w2.alloc o).cell? ⟨w.heap.size + 1, 3, none⟩ = some (.bool false) := fun o => (blk_cell (blk_below d2 (below_alloc (Below.refl _ _) o)) 3).trans rfl
  have c14 : ∀ o, (w2.alloc o).cell? ⟨w.heap.size + 1, 4, none⟩ = some (.int .i64 0) := fun o => (blk_cell (blk_below d2 (below_alloc (Below.refl _ _) o)) 4).trans rfl
  have c15 : ∀ o, (w2.alloc o).cell? ⟨w.heap.size + 1, 5, none⟩ = some (.slice (some ⟨w.heap.size, 0, none⟩) 3 3) := fun o => (blk_cell (blk_below d2 (below_alloc (Below.refl _ _) o)) 5).trans rfl
  have D2 := Aside0.mk d2
  clear hb hR R1 B2 hC3 d2
  simp only [List.length_cons, List.length_nil]
  go_wp2_with fail
  generalize hW2 : w2.alloc _ = W2
  have T2 : Aside0 (Below W.heap.size W W2) := ⟨by rw [← hW2]; exact below_then HB.out HB.out.size (below_alloc (Below.refl _ _) _)⟩
  have E2 : Aside0 (Below w2.heap.size w2 W2) := ⟨by rw [← hW2]; exact below_alloc (Below.refl _ _) _⟩
  have q2 : W2.heap[w2.heap.size]? = some (.cells #[.int .i64 5, .int .i64 0, .int .i64 0, .bool false, .int .i64 0, .slice (some ⟨g, 0, none⟩) 1 c] 44 (0, 0)) := by rw [← hW2]; exact blk_new w2 _
  have Q2 := Aside0.mk q2
  have R3 := Aside0.mk (RowB_keep R2.out E2.out)
  clear hW2 q2 c10 c11 c12 c13 c14 c15
  refine (Has_calls W2 5 0 0 false 0 (some ⟨w.heap.size, 0, none⟩) 3 opts3 (RowB_C R3.out (by decide)) (by decide)).mono ?_
  rintro e w3 ⟨rfl, hb3⟩
  rw [show opts3.any isE = true from by decide +kernel]
  have q3 := blk_below Q2.out hb3
  have d3 := blk_below (blk_below D2.out E2.out) hb3
  have T3 := Aside0.mk (below_then T2.out T2.out.size hb3)
  have G3 := Aside0.mk (RowB_keep (RowB_keep RG.out E2.out) hb3)
  have c10 : w3.cell? ⟨w.heap.size + 1, 0, none⟩ = some (.int .i64 5) := (blk_cell d3 0).trans rfl
  have c11 : w3.cell? ⟨w.heap.size + 1, 1, none⟩ = some (.int .i64 0) := (blk_cell d3 1).trans rfl
  have c12 : w3.cell? ⟨w.heap.size + 1, 2, none⟩ = some (.int .i64 0) := (blk_cell d3 2).trans rfl
  have c13 : w3.cell? ⟨w.heap.size + 1, 3, none⟩ = some (.bool false) := (blk_cell d3 3).trans rfl
  have c14 : w3.cell? ⟨w.heap.size + 1, 4, none⟩ = some (.int .i64 0) := (blk_cell d3 4).trans rfl
  have c15 : w3.cell? ⟨w.heap.size + 1, 5, none⟩ = some (.slice (some ⟨w.heap.size, 0, none⟩) 3 3) := (blk_cell d3 5).trans rfl
  have c20 : w3.cell? ⟨w2.heap.size, 0, none⟩ = some (.int .i64 5) := (blk_cell q3 0).trans rfl
  have c21 : w3.cell? ⟨w2.heap.size, 1, none⟩ = some (.int .i64 0) := (blk_cell q3 1).trans rfl
  have c22 : w3.cell? ⟨w2.heap.size, 2, none⟩ = some (.int .i64 0) := (blk_cell q3 2).trans rfl
  have c23 : w3.cell? ⟨w2.heap.size, 3, none⟩ = some (.bool false) := (blk_cell q3 3).trans rfl
  have c24 : w3.cell? ⟨w2.heap.size, 4, none⟩ = some (.int .i64 0) := (blk_cell q3 4).trans rfl
  have c25 : w3.cell? ⟨w2.heap.size, 5, none⟩ = some (.slice (some ⟨g, 0, none⟩) 1 c) := (blk_cell q3 5).trans rfl
  have Q3 := Aside0.mk q3
  have D3 := Aside0.mk d3
  clear hb3 q3 d3
  simp only
  go_wp2_with fail
  refine (Has_calls w3 5 0 0 false 0 (some ⟨g, 0, none⟩) c [⟨12, ⟨#[]⟩⟩] (RowB_C G3.out (by decide)) hc).mono ?_
  rintro e w4 ⟨rfl, hb4⟩
  rw [show List.any [(⟨12, ⟨#[]⟩⟩ : S52)] isE = false from by decide +kernel]
  have q4 := blk_below Q3.out hb4
  have d4 := blk_below D3.out hb4
  have T4 := Aside0.mk (below_then T3.out T3.out.size hb4)
  obtain ⟨cs, hh, hcs⟩ := RowB_keep G3.out hb4
  have g0 : w4.cell? ⟨g, 0, none⟩ = some (.int .i64 12) := (blk_cell hh 0).trans (hcs 0 _ rfl).1
  clear c10 c11 c12 c13 c14 c15 c20 c21 c22 c23 c24 c25
  have c10 : w4.cell? ⟨w.heap.size + 1, 0, none⟩ = some (.int .i64 5) := (blk_cell d4 0).trans rfl
  have c11 : w4.cell? ⟨w.heap.size + 1, 1, none⟩ = some (.int .i64 0) := (blk_cell d4 1).trans rfl
  have c12 : w4.cell? ⟨w.heap.size + 1, 2, none⟩ = some (.int .i64 0) := (blk_cell d4 2).trans rfl
  have c13 : w4.cell? ⟨w.heap.size + 1, 3, none⟩ = some (.bool false) := (blk_cell d4 3).trans rfl
  have c14 : w4.cell? ⟨w.heap.size + 1, 4, none⟩ = some (.int .i64 0) := (blk_cell d4 4).trans rfl
  have c15 : w4.cell? ⟨w.heap.size + 1, 5, none⟩ = some (.slice (some ⟨w.heap.size, 0, none⟩) 3 3) := (blk_cell d4 5).trans rfl
  have c20 : w4.cell? ⟨w2.heap.size, 0, none⟩ = some (.int .i64 5) := (blk_cell q4 0).trans rfl
  have c21 : w4.cell? ⟨w2.heap.size, 1, none⟩ = some (.int .i64 0) := (blk_cell q4 1).trans rfl
  have c22 : w4.cell? ⟨w2.heap.size, 2, none⟩ = some (.int .i64 0) := (blk_cell q4 2).trans rfl
  have c23 : w4.cell? ⟨w2.heap.size, 3, none⟩ = some (.bool false) := (blk_cell q4 3).trans rfl
  have c24 : w4.cell? ⟨w2.heap.size, 4, none⟩ = some (.int .i64 0) := (blk_cell q4 4).trans rfl
  have c25 : w4.cell? ⟨w2.heap.size, 5, none⟩ = some (.slice (some ⟨g, 0, none⟩) 1 c) := (blk_cell q4 5).trans rfl
  clear hb4 q4 d4 hh hcs
  simp only
  go_wp2_with (go_at_call 21; refine (Num_any _ _).mono ?_; rintro e w' ⟨rfl, rfl⟩)
  go_ret
  exact ⟨rfl, below_then TW.out TW.out.size T4.out⟩
end Go.Proofs.Ytjmdfhbenejfgaa.M
