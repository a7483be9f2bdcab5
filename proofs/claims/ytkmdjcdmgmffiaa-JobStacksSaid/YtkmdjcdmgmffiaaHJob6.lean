/- job.New. -/
import Derived.Test.YtkmdjcdmgmffiaaHJob5
import Derived.Test.YtkmdjcdmgmffiaaPx6
set_option linter.unusedVariables false
set_option linter.unusedSimpArgs false
namespace Go.Proofs.Ytkmdjcdmgmffiaa.M
open Go Go.RowKit Go.ChangeMaps Go.Proofs.YtkmdjcdmgmffiaaW.PrintWords Go.Proofs.YtkmdjcdmgmffiaaW.PrintLast Go.Proofs.YtkmdjcdmgmffiaaW.PrintMore Go.Proofs.Ytkmdjcdmgmffiaa.P

def cfg (v0 : Value) (x1 x2 x3 x4 x5 x6 x7 x8 x9 : Int) (v10 : Value) : Value := .agg #[v0, .int .i64 x1, .int .i64 x2, .int .i64 x3, .int .i64 x4, .int .i64 x5, .int .i64 x6, .int .i64 x7, .int .i64 x8, .int .i64 x9, v10]
theorem R_lit1 (W : World) (base : Nat) (hb : base ≤ W.heap.size) (S : Nat → Prop) (hs : S W.heap.size) (x : T34) : Kd.R k34 34 (W.alloc (.cells (c34 x).toArray 34)) base S (.slice (some ⟨W.heap.size, 0, none⟩) 1 1) [x] := by
  refine ⟨fun k hk => by have : W.heap.size = k := by simpa [Value.ownBlock] using hk
                         rw [← this]; exact hs, c34 x, ?_, ?_⟩
  · have h2 := World.ownsRow_lit (base := base) (e := 34) (size := 8) W (c34 x).toArray 1 hb (by simp [maxLen]) rfl
    exact h2
  · exact Reps.front (k34_mkM _ _ _ x) rfl (Reps.none _ _) (List.append_nil _)
set_option maxHeartbeats 4000000 in
set_option maxRecDepth 100000 in
theorem New_bad (w : World) (A A10 : Option Addr) (k c k10 c10 : Nat) (x1 x2 x3 x4 x5 x6 x7 x8 x9 id t et : Int) (n r1 : ByteArray) (r2 : Int) (r3 r4 : ByteArray) (r5 : Int) (r6 : Bool) (r7 r8 : Int) (kt : Nat) (bm : Bool)
    (ht : task_New.f kt n t ⟨#[0]⟩ = some (r1, r2, r3, r4, r5, r6, r7, r8, et))
    (hM : ∀ W, Below w.heap.size w W → Calls Try.prog 22 #[cfg (.slice A k c) x1 x2 x3 x4 x5 x6 x7 x8 x9 (.slice A10 k10 c10)] W fun e w' => e = .returned (.bool bm) ∧ Below W.heap.size W w')
    (hbad : bm = false ∨ id < 1 ∨ et ≠ 0) : Calls Try.prog 9 #[cfg (.slice A k c) x1 x2 x3 x4 x5 x6 x7 x8 x9 (.slice A10 k10 c10), .int .i64 id, .string n, .int .i64 t] w fun e w' => e = .returned (.tuple #[.pointer none, .int .i64 2300]) ∧ Below w.heap.size w w' := by
  unfold cfg at *
  have hmm := @run_makeMap Try.prog
  obtain ⟨bi, hbi⟩ : ∃ b, decide (id < 1) = b := ⟨_, rfl⟩
  obtain ⟨be, hbe⟩ : ∃ b, decide (et = 0) = b := ⟨_, rfl⟩
  have hbe' : (et == 0) = be := by rw [← hbe]; rfl
  go_enter Try.func9, Try.ntmps9
  go_wp2_with fail
  refine (task_New.calls kt n t ⟨#[0]⟩ r1 r2 r3 r4 r5 r6 r7 r8 et _ ht).mono ?_
  rintro e w1 ⟨rfl, hb⟩
  have BK := Aside0.mk (blk_below (blk_new w _) hb)
  have HB := Aside0.mk (below_then (below_alloc (Below.refl _ _) _) (below_alloc (Below.refl _ _) _).size hb)
  have C0 : ∀ o, (w1.alloc o).cell? ⟨w.heap.size, 0, none⟩ = some (.slice A k c) := fun o => alloc_cell ((blk_cell BK.out 0).trans rfl) o
  have C1 : ∀ o, (w1.alloc o).cell? ⟨w.heap.size, 1, none⟩ = some (.int .i64 x1) := fun o => alloc_cell ((blk_cell BK.out 1).trans rfl) o
  have C2 : ∀ o, (w1.alloc o).cell? ⟨w.heap.size, 2, none⟩ = some (.int .i64 x2) := fun o => alloc_cell ((blk_cell BK.out 2).trans rfl) o
  have C3 : ∀ o, (w1.alloc o).cell? ⟨w.heap.size, 3, none⟩ = some (.int .i64 x3) := fun o => alloc_cell ((blk_cell BK.out 3).trans rfl) o
  have C4 : ∀ o, (w1.alloc o).cell? ⟨w.heap.size, 4, none⟩ = some (.int .i64 x4) := fun o => alloc_cell ((blk_cell BK.out 4).trans rfl) o
  have C5 : ∀ o, (w1.alloc o).cell? ⟨w.heap.size, 5, none⟩ = some (.int .i64 x5) := fun o => alloc_cell ((blk_cell BK.out 5).trans rfl) o
  have C6 : ∀ o, (w1.alloc o).cell? ⟨w.heap.size, 6, none⟩ = some (.int .i64 x6) := fun o => alloc_cell ((blk_cell BK.out 6).trans rfl) o
  have C7 : ∀ o, (w1.alloc o).cell? ⟨w.heap.size, 7, none⟩ = some (.int .i64 x7) := fun o => alloc_cell ((blk_cell BK.out 7).trans rfl) o
  have C8 : ∀ o, (w1.alloc o).cell? ⟨w.heap.size, 8, none⟩ = some (.int .i64 x8) := fun o => alloc_cell ((blk_cell BK.out 8).trans rfl) o
  have C9 : ∀ o, (w1.alloc o).cell? ⟨w.heap.size, 9, none⟩ = some (.int .i64 x9) := fun o => alloc_cell ((blk_cell BK.out 9).trans rfl) o
  have C10 : ∀ o, (w1.alloc o).cell? ⟨w.heap.size, 10, none⟩ = some (.slice A10 k10 c10) := fun o => alloc_cell ((blk_cell BK.out 10).trans rfl) o
  clear hb
  simp only
  go_wp2_with fail
  refine (hM _ (by repeat (first | exact HB.out | apply below_alloc | apply pw_below_drewN | apply below_drew1))).mono ?_
  rintro e w2 ⟨rfl, hb⟩
  have BK2 := Aside0.mk (blk_below (blk_alloc BK.out _) hb)
  have BT2 := Aside0.mk (blk_below (blk_new w1 _) hb)
  have HB2 := Aside0.mk (below_then (below_alloc HB.out _) (below_alloc HB.out _).size hb)
  clear hM C0 C1 C2 C3 C4 C5 C6 C7 C8 C9 C10 hb BK HB ht
  simp only
  cases bm
  · go_wp2_with fail
    go_ret2
    exact ⟨rfl, HB2.out⟩
  cases bi
  · cases be
    · go_wp2_with fail
      go_ret2
      exact ⟨rfl, HB2.out⟩
    · exfalso
      rcases hbad with h | h | h
      · cases h
      · exact absurd h (of_decide_eq_false hbi)
      · exact h (of_decide_eq_true hbe)
  · cases be <;>
    · go_wp2_with fail
      go_ret2
      exact ⟨rfl, HB2.out⟩
set_option maxHeartbeats 4000000 in
set_option maxRecDepth 100000 in
theorem New_good (w : World) (A A10 : Option Addr) (k c k10 c10 : Nat) (x1 x2 x3 x4 x5 x6 x7 x8 x9 id t et : Int) (n r1 : ByteArray) (r2 : Int) (r3 r4 : ByteArray) (r5 : Int) (r6 : Bool) (r7 r8 : Int) (kt : Nat) (bm : Bool)
    (ht : task_New.f kt n t ⟨#[0]⟩ = some (r1, r2, r3, r4, r5, r6, r7, r8, et))
    (hM : ∀ W, Below w.heap.size w W → Calls Try.prog 22 #[cfg (.slice A k c) x1 x2 x3 x4 x5 x6 x7 x8 x9 (.slice A10 k10 c10)] W fun e w' => e = .returned (.bool bm) ∧ Below W.heap.size W w')
    (S : Nat → Prop) (hS : ∀ k, w.heap.size ≤ k → S k) (hgood : bm = true ∧ 1 ≤ id ∧ et = 0) : Calls Try.prog 9 #[cfg (.slice A k c) x1 x2 x3 x4 x5 x6 x7 x8 x9 (.slice A10 k10 c10), .int .i64 id, .string n, .int .i64 t] w fun e w' => (∃ g v m, e = .returned (.tuple #[.pointer (some ⟨g, 0, none⟩), .int .i64 0]) ∧ JobAt w' w.heap.size S g id [⟨r1, r2, r3, r4, r5, r6, r7, r8⟩] x4 x5 x3 0 [] v m) ∧ Below w.heap.size w w' := by
  unfold cfg at *
  have hmm := @run_makeMap Try.prog
  obtain ⟨bi, hbi⟩ : ∃ b, decide (id < 1) = b := ⟨_, rfl⟩
  obtain ⟨be, hbe⟩ : ∃ b, decide (et = 0) = b := ⟨_, rfl⟩
  have hbe' : (et == 0) = be := by rw [← hbe]; rfl
  go_enter Try.func9, Try.ntmps9
  go_wp2_with fail
  refine (task_New.calls kt n t ⟨#[0]⟩ r1 r2 r3 r4 r5 r6 r7 r8 et _ ht).mono ?_
  rintro e w1 ⟨rfl, hb⟩
  have BK := Aside0.mk (blk_below (blk_new w _) hb)
  have HB := Aside0.mk (below_then (below_alloc (Below.refl _ _) _) (below_alloc (Below.refl _ _) _).size hb)
  have C0 : ∀ o, (w1.alloc o).cell? ⟨w.heap.size, 0, none⟩ = some (.slice A k c) := fun o => alloc_cell ((blk_cell BK.out 0).trans rfl) o
  have C1 : ∀ o, (w1.alloc o).cell? ⟨w.heap.size, 1, none⟩ = some (.int .i64 x1) := fun o => alloc_cell ((blk_cell BK.out 1).trans rfl) o
  have C2 : ∀ o, (w1.alloc o).cell? ⟨w.heap.size, 2, none⟩ = some (.int .i64 x2) := fun o => alloc_cell ((blk_cell BK.out 2).trans rfl) o
  have C3 : ∀ o, (w1.alloc o).cell? ⟨w.heap.size, 3, none⟩ = some (.int .i64 x3) := fun o => alloc_cell ((blk_cell BK.out 3).trans rfl) o
  have C4 : ∀ o, (w1.alloc o).cell? ⟨w.heap.size, 4, none⟩ = some (.int .i64 x4) := fun o => alloc_cell ((blk_cell BK.out 4).trans rfl) o
  have C5 : ∀ o, (w1.alloc o).cell? ⟨w.heap.size, 5, none⟩ = some (.int .i64 x5) := fun o => alloc_cell ((blk_cell BK.out 5).trans rfl) o
  have C6 : ∀ o, (w1.alloc o).cell? ⟨w.heap.size, 6, none⟩ = some (.int .i64 x6) := fun o => alloc_cell ((blk_cell BK.out 6).trans rfl) o
  have C7 : ∀ o, (w1.alloc o).cell? ⟨w.heap.size, 7, none⟩ = some (.int .i64 x7) := fun o => alloc_cell ((blk_cell BK.out 7).trans rfl) o
  have C8 : ∀ o, (w1.alloc o).cell? ⟨w.heap.size, 8, none⟩ = some (.int .i64 x8) := fun o => alloc_cell ((blk_cell BK.out 8).trans rfl) o
  have C9 : ∀ o, (w1.alloc o).cell? ⟨w.heap.size, 9, none⟩ = some (.int .i64 x9) := fun o => alloc_cell ((blk_cell BK.out 9).trans rfl) o
  have C10 : ∀ o, (w1.alloc o).cell? ⟨w.heap.size, 10, none⟩ = some (.slice A10 k10 c10) := fun o => alloc_cell ((blk_cell BK.out 10).trans rfl) o
  clear hb
  simp only
  go_wp2_with fail
  refine (hM _ (by repeat (first | exact HB.out | apply below_alloc | apply pw_below_drewN | apply below_drew1))).mono ?_
  rintro e w2 ⟨rfl, hb⟩
  have BK2 := Aside0.mk (blk_below (blk_alloc BK.out _) hb)
  have BT2 := Aside0.mk (blk_below (blk_new w1 _) hb)
  have HB2 := Aside0.mk (below_then (below_alloc HB.out _) (below_alloc HB.out _).size hb)
  clear hM C0 C1 C2 C3 C4 C5 C6 C7 C8 C9 C10 hb BK HB ht
  obtain rfl : bm = true := hgood.1
  obtain rfl : bi = false := by rw [← hbi]; exact decide_eq_false (by have := hgood.2.1; omega)
  obtain rfl : be = true := by rw [← hbe]; exact decide_eq_true hgood.2.2
  simp only
  have T0 : w2.cell? ⟨w1.heap.size, 0, none⟩ = some (.string r1) := (blk_cell BT2.out 0).trans rfl
  have T1 : w2.cell? ⟨w1.heap.size, 1, none⟩ = some (.int .i64 r2) := (blk_cell BT2.out 1).trans rfl
  have T2 : w2.cell? ⟨w1.heap.size, 2, none⟩ = some (.string r3) := (blk_cell BT2.out 2).trans rfl
  have T3 : w2.cell? ⟨w1.heap.size, 3, none⟩ = some (.string r4) := (blk_cell BT2.out 3).trans rfl
  have T4 : w2.cell? ⟨w1.heap.size, 4, none⟩ = some (.int .i64 r5) := (blk_cell BT2.out 4).trans rfl
  have T5 : w2.cell? ⟨w1.heap.size, 5, none⟩ = some (.bool r6) := (blk_cell BT2.out 5).trans rfl
  have T6 : w2.cell? ⟨w1.heap.size, 6, none⟩ = some (.int .i64 r7) := (blk_cell BT2.out 6).trans rfl
  have T7 : w2.cell? ⟨w1.heap.size, 7, none⟩ = some (.int .i64 r8) := (blk_cell BT2.out 7).trans rfl
  have U3 : ∀ o, (w2.alloc o).cell? ⟨w.heap.size, 3, none⟩ = some (.int .i64 x3) := fun o => alloc_cell ((blk_cell BK2.out 3).trans rfl) o
  have U4 : ∀ o, (w2.alloc o).cell? ⟨w.heap.size, 4, none⟩ = some (.int .i64 x4) := fun o => alloc_cell ((blk_cell BK2.out 4).trans rfl) o
  have U5 : ∀ o, (w2.alloc o).cell? ⟨w.heap.size, 5, none⟩ = some (.int .i64 x5) := fun o => alloc_cell ((blk_cell BK2.out 5).trans rfl) o
  go_wp2_with fail
  clear U3 U4 U5 T0 T1 T2 T3 T4 T5 T6 T7
  have R1 := R_lit1 w2 w.heap.size HB2.out.size S (hS _ HB2.out.size) ⟨r1, r2, r3, r4, r5, r6, r7, r8⟩
  unfold c34 at R1
  have B1 := below_alloc (Below.refl w2.heap.size w2) (Obj.cells #[.string r1, .int .i64 r2, .string r3, .string r4, .int .i64 r5, .bool r6, .int .i64 r7, .int .i64 r8] 34)
  have S1 := size_alloc' w2 (Obj.cells #[.string r1, .int .i64 r2, .string r3, .string r4, .int .i64 r5, .bool r6, .int .i64 r7, .int .i64 r8] 34)
  simp only [] at R1
  generalize w2.alloc (Obj.cells #[.string r1, .int .i64 r2, .string r3, .string r4, .int .i64 r5, .bool r6, .int .i64 r7, .int .i64 r8] 34) = w3 at *
  have M1 := Seen_made w3
  rw [S1] at M1
  have S2 := size_alloc' w3 (.map #[] 0)
  have Rr := Kd.R_below R1 (below_alloc (Below.refl _ _) (.map #[] 0))
  have HB3 := below_alloc (below_then HB2.out HB2.out.size B1) (.map #[] 0)
  generalize w3.alloc (.map #[] 0) = w4 at *
  go_ret2
  have hsz := HB2.out.size
  refine ⟨⟨w2.heap.size + 1 + 1, rfl, _, _, ⟨?_, by omega, ?_, Kd.R_below Rr (below_alloc (Below.refl _ _) _), Seen_below M1 (below_alloc (Below.refl _ _) _), hS _ (by omega), hS _ (by omega)⟩⟩, below_alloc HB3 _⟩
  · rw [← S1, ← S2]
    exact blk_new w4 _
  · omega
end Go.Proofs.Ytkmdjcdmgmffiaa.M
