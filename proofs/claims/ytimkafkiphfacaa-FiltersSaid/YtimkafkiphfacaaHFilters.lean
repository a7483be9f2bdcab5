/- Filters: the walk. -/
import Derived.Test.YtimkafkiphfacaaSFilters
set_option linter.unusedVariables false
set_option linter.unusedSimpArgs false
namespace Go.Proofs.Ytimkafkiphfacaa.M
open Go Go.RowKit Go.Proofs.YtimkafkiphfacaaW.PrintWords Go.Proofs.YtimkafkiphfacaaW.PrintLast Go.Proofs.YtimkafkiphfacaaW.PrintMore Go.Proofs.Ytimkafkiphfacaa.P

set_option maxHeartbeats 8000000 in
set_option maxRecDepth 100000 in
theorem filters_walk (w : World) (h0 : Int) (h1 : Bool) (h2 : Int) (h3 h4 h5 h6 : Bool) (h7 h8 : Int) (A9 : Option Addr) (c9 : Nat) (q : List S71) (A10 : Option Addr) (c10 : Nat) (a : List S42) (A11 : Option Addr) (c11 : Nat) (n : List S42) (A12 : Option Addr) (c12 : Nat) (r : List S42) (cut : ByteArray)
    (g0 : Int) (g1 : Bool) (g2 : Int) (g3 g4 g5 g6 : Bool) (g7 g8 : Int) (q' : List S71) (a' n' r' : List S42) (er : Int) (k1 k2 k3 k4 k5 k6 : Nat)
    (R9 : Aside0 (Kd.C k71 w A9 q.length q)) (L9 : Aside0 (q.length ≤ c9)) (R10 : Aside0 (Kd.C k42 w A10 a.length a)) (L10 : Aside0 (a.length ≤ c10)) (R11 : Aside0 (Kd.C k42 w A11 n.length n)) (L11 : Aside0 (n.length ≤ c11)) (R12 : Aside0 (Kd.C k42 w A12 r.length r)) (L12 : Aside0 (r.length ≤ c12))
    (K0 : Aside0 (wimplelaw0_CopyMsg.f h0 h1 h2 h3 h4 h5 h6 h7 h8 q a n r = some (h0, h1, h2, h3, h4, h5, h6, h7, h8, q, a, n, r)))
    (K1 : Aside0 (bail_Filter.f k1 h0 h1 h2 h3 h4 h5 h6 h7 h8 q a n r cut = some (g0, g1, g2, g3, g4, g5, g6, g7, g8, q', a', n', r', er))) (K2 : Aside0 (wimpleref4_Filter.f k2 h0 h1 h2 h3 h4 h5 h6 h7 h8 q a n r cut = some (g0, g1, g2, g3, g4, g5, g6, g7, g8, q', a', n', r', er)))
    (K3 : Aside0 (wimplelaw0_SameMsg.f k3 g0 g1 g2 g3 g4 g5 g6 g7 g8 q' a' n' r' g0 g1 g2 g3 g4 g5 g6 g7 g8 q' a' n' r' = some true)) (K4 : Aside0 (wimplelaw0_SameMsg.f k4 h0 h1 h2 h3 h4 h5 h6 h7 h8 q a n r h0 h1 h2 h3 h4 h5 h6 h7 h8 q a n r = some true))
    (K5 : Aside0 (∃ s9 s10 s11 s12, wimplelaw0_SpoilMsg.f k5 g0 g1 g2 g3 g4 g5 g6 g7 g8 q' a' n' r' = some (s9, s10, s11, s12))) (K6 : Aside0 (wimplelaw12_awake.f k6 = some true)) :
    Calls Try.prog 3 #[.agg #[.int .i64 h0, .bool h1, .int .i64 h2, .bool h3, .bool h4, .bool h5, .bool h6, .int .i64 h7, .int .i64 h8, .slice A9 q.length c9, .slice A10 a.length c10, .slice A11 n.length c11, .slice A12 r.length c12], .string cut] w fun e w' => e = .returned (.bool true) ∧ Below w.heap.size w w' := by
  have hu42 := Try.underlying42
  have hu27 := Try.underlying27
  go_enter Try.func3, Try.ntmps3
  try simp only [List.append_eq, List.cons_append, List.nil_append]
  go_wp2_with fail
  refine (wimplelaw0_CopyMsg.calls h0 h1 h2 h3 h4 h5 h6 h7 h8 A9 c9 q A10 c10 a A11 c11 n A12 c12 r h0 h1 h2 h3 h4 h5 h6 h7 h8 q a n r _ (Kd.C_alloc R9.out _) L9.out (Kd.C_alloc R10.out _) L10.out (Kd.C_alloc R11.out _) L11.out (Kd.C_alloc R12.out _) L12.out K0.out).mono ?_
  rintro e w1 ⟨v9, v10, v11, v12, rfl, ho0, ho1, ho2, ho3, hb⟩
  obtain ⟨A19, c19, rfl, l19, r19⟩ := Kd.R_reads ho0
  obtain ⟨A20, c20, rfl, l20, r20⟩ := Kd.R_reads ho1
  obtain ⟨A21, c21, rfl, l21, r21⟩ := Kd.R_reads ho2
  obtain ⟨A22, c22, rfl, l22, r22⟩ := Kd.R_reads ho3
  clear ho0 ho1 ho2 ho3
  have R19 := Aside0.mk r19
  have L19 := Aside0.mk l19
  clear r19 l19
  have R20 := Aside0.mk r20
  have L20 := Aside0.mk l20
  clear r20 l20
  have R21 := Aside0.mk r21
  have L21 := Aside0.mk l21
  clear r21 l21
  have R22 := Aside0.mk r22
  have L22 := Aside0.mk l22
  clear r22 l22
  have T1 := Aside0.mk (below_then (below_alloc (Below.refl w.heap.size w) _) (below_alloc (Below.refl w.heap.size w) _).size hb)
  have BM1 := Aside0.mk (blk_below (blk_new w _) hb)
  clear hb
  simp only
  go_wp2_with fail
  generalize hU : w1.alloc _ = U
  have TU : Aside0 (Below w1.heap.size w1 U) := ⟨by rw [← hU]; exact below_alloc (Below.refl _ _) _⟩
  have BXU : Aside0 (U.heap[w1.heap.size]? = some (.cells #[.int .i64 h0, .bool h1, .int .i64 h2, .bool h3, .bool h4, .bool h5, .bool h6, .int .i64 h7, .int .i64 h8, .slice A19 q.length c19, .slice A20 a.length c20, .slice A21 n.length c21, .slice A22 r.length c22] 27 (0, 0))) := ⟨by rw [← hU]; exact blk_new w1 _⟩
  have BMU := Aside0.mk (blk_below BM1.out TU.out)
  have T2 := Aside0.mk (below_then T1.out T1.out.size TU.out)
  clear hU BM1
  have S19 := Aside0.mk (Kd.C_below R19.out TU.out)
  clear R19
  have S20 := Aside0.mk (Kd.C_below R20.out TU.out)
  clear R20
  have S21 := Aside0.mk (Kd.C_below R21.out TU.out)
  clear R21
  have S22 := Aside0.mk (Kd.C_below R22.out TU.out)
  clear R22
  have S9 := Aside0.mk (Kd.C_below R9.out T2.out)
  clear R9
  have S10 := Aside0.mk (Kd.C_below R10.out T2.out)
  clear R10
  have S11 := Aside0.mk (Kd.C_below R11.out T2.out)
  clear R11
  have S12 := Aside0.mk (Kd.C_below R12.out T2.out)
  clear R12
  clear TU
  refine (bail_Filter.calls k1 h0 h1 h2 h3 h4 h5 h6 h7 h8 A19 c19 q A20 c20 a A21 c21 n A22 c22 r cut g0 g1 g2 g3 g4 g5 g6 g7 g8 q' a' n' r' er _ S19.out L19.out S20.out L20.out S21.out L21.out S22.out L22.out K1.out).mono ?_
  rintro e w2 ⟨v9, v10, v11, v12, rfl, ho0, ho1, ho2, ho3, hb⟩
  obtain ⟨A29, c29, rfl, l29, -⟩ := Kd.R_reads ho0
  have L29 := Aside0.mk l29
  clear l29
  obtain ⟨A30, c30, rfl, l30, -⟩ := Kd.R_reads ho1
  have L30 := Aside0.mk l30
  clear l30
  obtain ⟨A31, c31, rfl, l31, -⟩ := Kd.R_reads ho2
  have L31 := Aside0.mk l31
  clear l31
  obtain ⟨A32, c32, rfl, l32, -⟩ := Kd.R_reads ho3
  have L32 := Aside0.mk l32
  clear l32
  have O9 := Aside0.mk (Kd.R_tight rfl ho0)
  have O10 := Aside0.mk (Kd.R_tight2 rfl ho1)
  have O11 := Aside0.mk (Kd.R_tight2 rfl ho2)
  have O12 := Aside0.mk (Kd.R_tight2 rfl ho3)
  have E2 := Aside0.mk hb
  have BX2 := blk_below BXU.out hb
  have BM2 := blk_below BMU.out hb
  clear hb ho0 ho1 ho2 ho3
  have m0 : ∀ o : Obj, (w2.alloc o).cell? ⟨w.heap.size, 0, none⟩ = some (.int .i64 h0) := fun o => (blk_cell (blk_alloc BM2 o) 0).trans rfl
  have m1 : ∀ o : Obj, (w2.alloc o).cell? ⟨w.heap.size, 1, none⟩ = some (.bool h1) := fun o => (blk_cell (blk_alloc BM2 o) 1).trans rfl
  have m2 : ∀ o : Obj, (w2.alloc o).cell? ⟨w.heap.size, 2, none⟩ = some (.int .i64 h2) := fun o => (blk_cell (blk_alloc BM2 o) 2).trans rfl
  have m3 : ∀ o : Obj, (w2.alloc o).cell? ⟨w.heap.size, 3, none⟩ = some (.bool h3) := fun o => (blk_cell (blk_alloc BM2 o) 3).trans rfl
  have m4 : ∀ o : Obj, (w2.alloc o).cell? ⟨w.heap.size, 4, none⟩ = some (.bool h4) := fun o => (blk_cell (blk_alloc BM2 o) 4).trans rfl
  have m5 : ∀ o : Obj, (w2.alloc o).cell? ⟨w.heap.size, 5, none⟩ = some (.bool h5) := fun o => (blk_cell (blk_alloc BM2 o) 5).trans rfl
  have m6 : ∀ o : Obj, (w2.alloc o).cell? ⟨w.heap.size, 6, none⟩ = some (.bool h6) := fun o => (blk_cell (blk_alloc BM2 o) 6).trans rfl
  have m7 : ∀ o : Obj, (w2.alloc o).cell? ⟨w.heap.size, 7, none⟩ = some (.int .i64 h7) := fun o => (blk_cell (blk_alloc BM2 o) 7).trans rfl
  have m8 : ∀ o : Obj, (w2.alloc o).cell? ⟨w.heap.size, 8, none⟩ = some (.int .i64 h8) := fun o => (blk_cell (blk_alloc BM2 o) 8).trans rfl
  have m9 : ∀ o : Obj, (w2.alloc o).cell? ⟨w.heap.size, 9, none⟩ = some (.slice A9 q.length c9) := fun o => (blk_cell (blk_alloc BM2 o) 9).trans rfl
  have m10 : ∀ o : Obj, (w2.alloc o).cell? ⟨w.heap.size, 10, none⟩ = some (.slice A10 a.length c10) := fun o => (blk_cell (blk_alloc BM2 o) 10).trans rfl
  have m11 : ∀ o : Obj, (w2.alloc o).cell? ⟨w.heap.size, 11, none⟩ = some (.slice A11 n.length c11) := fun o => (blk_cell (blk_alloc BM2 o) 11).trans rfl
  have m12 : ∀ o : Obj, (w2.alloc o).cell? ⟨w.heap.size, 12, none⟩ = some (.slice A12 r.length c12) := fun o => (blk_cell (blk_alloc BM2 o) 12).trans rfl
  have BX2' := Aside0.mk BX2
  have BM2' := Aside0.mk BM2
  clear BX2 BM2
  simp only
  go_wp2_with fail
  generalize hV : w2.alloc _ = V
  have TV : Aside0 (Below w2.heap.size w2 V) := ⟨by rw [← hV]; exact below_alloc (Below.refl _ _) _⟩
  have BAV : Aside0 (V.heap[w2.heap.size]? = some (.cells #[.int .i64 g0, .bool g1, .int .i64 g2, .bool g3, .bool g4, .bool g5, .bool g6, .int .i64 g7, .int .i64 g8, .slice A29 q'.length c29, .slice A30 a'.length c30, .slice A31 n'.length c31, .slice A32 r'.length c32] 27 (0, 0))) := ⟨by rw [← hV]; exact blk_new w2 _⟩
  have EV := Aside0.mk (below_then E2.out E2.out.size TV.out)
  clear hV m0 m1 m2 m3 m4 m5 m6 m7 m8 m9 m10 m11 m12 E2
  refine (wimpleref4_Filter.calls k2 h0 h1 h2 h3 h4 h5 h6 h7 h8 A9 c9 q A10 c10 a A11 c11 n A12 c12 r cut g0 g1 g2 g3 g4 g5 g6 g7 g8 q' a' n' r' er _ (Kd.C_below S9.out EV.out) L9.out (Kd.C_below S10.out EV.out) L10.out (Kd.C_below S11.out EV.out) L11.out (Kd.C_below S12.out EV.out) L12.out K2.out).mono ?_
  rintro e w3 ⟨v9, v10, v11, v12, rfl, ho0, ho1, ho2, ho3, hb⟩
  obtain ⟨A39, c39, rfl, l39, r39⟩ := Kd.R_reads ho0
  obtain ⟨A40, c40, rfl, l40, r40⟩ := Kd.R_reads ho1
  obtain ⟨A41, c41, rfl, l41, r41⟩ := Kd.R_reads ho2
  obtain ⟨A42, c42, rfl, l42, r42⟩ := Kd.R_reads ho3
  clear ho0 ho1 ho2 ho3
  have R39 := Aside0.mk r39
  have L39 := Aside0.mk l39
  clear r39 l39
  have R40 := Aside0.mk r40
  have L40 := Aside0.mk l40
  clear r40 l40
  have R41 := Aside0.mk r41
  have L41 := Aside0.mk l41
  clear r41 l41
  have R42 := Aside0.mk r42
  have L42 := Aside0.mk l42
  clear r42 l42
  have E3 := Aside0.mk (below_then EV.out EV.out.size hb)
  have BA3 := blk_below BAV.out hb
  have TV3 := Aside0.mk (below_then TV.out TV.out.size hb)
  clear hb EV TV
  have p0 : ∀ o : Obj, (w3.alloc o).cell? ⟨w2.heap.size, 0, none⟩ = some (.int .i64 g0) := fun o => (blk_cell (blk_alloc BA3 o) 0).trans rfl
  have p1 : ∀ o : Obj, (w3.alloc o).cell? ⟨w2.heap.size, 1, none⟩ = some (.bool g1) := fun o => (blk_cell (blk_alloc BA3 o) 1).trans rfl
  have p2 : ∀ o : Obj, (w3.alloc o).cell? ⟨w2.heap.size, 2, none⟩ = some (.int .i64 g2) := fun o => (blk_cell (blk_alloc BA3 o) 2).trans rfl
  have p3 : ∀ o : Obj, (w3.alloc o).cell? ⟨w2.heap.size, 3, none⟩ = some (.bool g3) := fun o => (blk_cell (blk_alloc BA3 o) 3).trans rfl
  have p4 : ∀ o : Obj, (w3.alloc o).cell? ⟨w2.heap.size, 4, none⟩ = some (.bool g4) := fun o => (blk_cell (blk_alloc BA3 o) 4).trans rfl
  have p5 : ∀ o : Obj, (w3.alloc o).cell? ⟨w2.heap.size, 5, none⟩ = some (.bool g5) := fun o => (blk_cell (blk_alloc BA3 o) 5).trans rfl
  have p6 : ∀ o : Obj, (w3.alloc o).cell? ⟨w2.heap.size, 6, none⟩ = some (.bool g6) := fun o => (blk_cell (blk_alloc BA3 o) 6).trans rfl
  have p7 : ∀ o : Obj, (w3.alloc o).cell? ⟨w2.heap.size, 7, none⟩ = some (.int .i64 g7) := fun o => (blk_cell (blk_alloc BA3 o) 7).trans rfl
  have p8 : ∀ o : Obj, (w3.alloc o).cell? ⟨w2.heap.size, 8, none⟩ = some (.int .i64 g8) := fun o => (blk_cell (blk_alloc BA3 o) 8).trans rfl
  have p9 : ∀ o : Obj, (w3.alloc o).cell? ⟨w2.heap.size, 9, none⟩ = some (.slice A29 q'.length c29) := fun o => (blk_cell (blk_alloc BA3 o) 9).trans rfl
  have p10 : ∀ o : Obj, (w3.alloc o).cell? ⟨w2.heap.size, 10, none⟩ = some (.slice A30 a'.length c30) := fun o => (blk_cell (blk_alloc BA3 o) 10).trans rfl
  have p11 : ∀ o : Obj, (w3.alloc o).cell? ⟨w2.heap.size, 11, none⟩ = some (.slice A31 n'.length c31) := fun o => (blk_cell (blk_alloc BA3 o) 11).trans rfl
  have p12 : ∀ o : Obj, (w3.alloc o).cell? ⟨w2.heap.size, 12, none⟩ = some (.slice A32 r'.length c32) := fun o => (blk_cell (blk_alloc BA3 o) 12).trans rfl
  have BA3' := Aside0.mk BA3
  clear BA3
  simp only
  go_wp2_with fail
  generalize hY : w3.alloc _ = Y
  have TY : Aside0 (Below w3.heap.size w3 Y) := ⟨by rw [← hY]; exact below_alloc (Below.refl _ _) _⟩
  have EY := Aside0.mk (below_then E3.out E3.out.size TY.out)
  have TVY := Aside0.mk (below_then TV3.out TV3.out.size TY.out)
  have BAY := Aside0.mk (blk_below BA3'.out TY.out)
  clear hY p0 p1 p2 p3 p4 p5 p6 p7 p8 p9 p10 p11 p12 E3 TV3
  have QA9 := Aside0.mk (Kd.R_reads' (Kd.R_below O9.out TVY.out)).2.2
  have QA10 := Aside0.mk (Kd.R_reads' (Kd.R_below O10.out TVY.out)).2.2
  have QA11 := Aside0.mk (Kd.R_reads' (Kd.R_below O11.out TVY.out)).2.2
  have QA12 := Aside0.mk (Kd.R_reads' (Kd.R_below O12.out TVY.out)).2.2
  refine (wimplelaw0_SameMsg.calls k3 g0 g1 g2 g3 g4 g5 g6 g7 g8 A29 c29 q' A30 c30 a' A31 c31 n' A32 c32 r' g0 g1 g2 g3 g4 g5 g6 g7 g8 A39 c39 q' A40 c40 a' A41 c41 n' A42 c42 r' true _ QA9.out L29.out QA10.out L30.out QA11.out L31.out QA12.out L32.out (Kd.C_below R39.out TY.out) L39.out (Kd.C_below R40.out TY.out) L40.out (Kd.C_below R41.out TY.out) L41.out (Kd.C_below R42.out TY.out) L42.out K3.out).mono ?_
  rintro e w4 ⟨rfl, hb⟩
  have E4 := Aside0.mk (below_then EY.out EY.out.size hb)
  have TV4 := Aside0.mk (below_then TVY.out TVY.out.size hb)
  have BA4 := Aside0.mk (blk_below BAY.out hb)
  clear hb QA9 QA10 QA11 QA12 R39 R40 R41 R42 TY EY TVY
  simp only
  go_wp2_with fail
  refine (wimplelaw0_Num.calls er er _ rfl).mono ?_
  rintro e w5 ⟨rfl, hd⟩
  have hb := hd.below
  have E5 := Aside0.mk (below_then E4.out E4.out.size hb)
  have TV5 := Aside0.mk (below_then TV4.out TV4.out.size hb)
  have BA5 := Aside0.mk (blk_below BA4.out hb)
  have hx := blk_below BXU.out E5.out
  have hm := blk_below BMU.out E5.out
  have m0 : w5.cell? ⟨w.heap.size, 0, none⟩ = some (.int .i64 h0) := (blk_cell hm 0).trans rfl
  have m1 : w5.cell? ⟨w.heap.size, 1, none⟩ = some (.bool h1) := (blk_cell hm 1).trans rfl
  have m2 : w5.cell? ⟨w.heap.size, 2, none⟩ = some (.int .i64 h2) := (blk_cell hm 2).trans rfl
  have m3 : w5.cell? ⟨w.heap.size, 3, none⟩ = some (.bool h3) := (blk_cell hm 3).trans rfl
  have m4 : w5.cell? ⟨w.heap.size, 4, none⟩ = some (.bool h4) := (blk_cell hm 4).trans rfl
  have m5 : w5.cell? ⟨w.heap.size, 5, none⟩ = some (.bool h5) := (blk_cell hm 5).trans rfl
  have m6 : w5.cell? ⟨w.heap.size, 6, none⟩ = some (.bool h6) := (blk_cell hm 6).trans rfl
  have m7 : w5.cell? ⟨w.heap.size, 7, none⟩ = some (.int .i64 h7) := (blk_cell hm 7).trans rfl
  have m8 : w5.cell? ⟨w.heap.size, 8, none⟩ = some (.int .i64 h8) := (blk_cell hm 8).trans rfl
  have m9 : w5.cell? ⟨w.heap.size, 9, none⟩ = some (.slice A9 q.length c9) := (blk_cell hm 9).trans rfl
  have m10 : w5.cell? ⟨w.heap.size, 10, none⟩ = some (.slice A10 a.length c10) := (blk_cell hm 10).trans rfl
  have m11 : w5.cell? ⟨w.heap.size, 11, none⟩ = some (.slice A11 n.length c11) := (blk_cell hm 11).trans rfl
  have m12 : w5.cell? ⟨w.heap.size, 12, none⟩ = some (.slice A12 r.length c12) := (blk_cell hm 12).trans rfl
  have x0 : w5.cell? ⟨w1.heap.size, 0, none⟩ = some (.int .i64 h0) := (blk_cell hx 0).trans rfl
  have x1 : w5.cell? ⟨w1.heap.size, 1, none⟩ = some (.bool h1) := (blk_cell hx 1).trans rfl
  have x2 : w5.cell? ⟨w1.heap.size, 2, none⟩ = some (.int .i64 h2) := (blk_cell hx 2).trans rfl
  have x3 : w5.cell? ⟨w1.heap.size, 3, none⟩ = some (.bool h3) := (blk_cell hx 3).trans rfl
  have x4 : w5.cell? ⟨w1.heap.size, 4, none⟩ = some (.bool h4) := (blk_cell hx 4).trans rfl
  have x5 : w5.cell? ⟨w1.heap.size, 5, none⟩ = some (.bool h5) := (blk_cell hx 5).trans rfl
  have x6 : w5.cell? ⟨w1.heap.size, 6, none⟩ = some (.bool h6) := (blk_cell hx 6).trans rfl
  have x7 : w5.cell? ⟨w1.heap.size, 7, none⟩ = some (.int .i64 h7) := (blk_cell hx 7).trans rfl
  have x8 : w5.cell? ⟨w1.heap.size, 8, none⟩ = some (.int .i64 h8) := (blk_cell hx 8).trans rfl
  have x9 : w5.cell? ⟨w1.heap.size, 9, none⟩ = some (.slice A19 q.length c19) := (blk_cell hx 9).trans rfl
  have x10 : w5.cell? ⟨w1.heap.size, 10, none⟩ = some (.slice A20 a.length c20) := (blk_cell hx 10).trans rfl
  have x11 : w5.cell? ⟨w1.heap.size, 11, none⟩ = some (.slice A21 n.length c21) := (blk_cell hx 11).trans rfl
  have x12 : w5.cell? ⟨w1.heap.size, 12, none⟩ = some (.slice A22 r.length c22) := (blk_cell hx 12).trans rfl
  clear hb hd hx hm E4 TV4
  simp only
  go_wp2_with fail
  refine (wimplelaw0_SameMsg.calls k4 h0 h1 h2 h3 h4 h5 h6 h7 h8 A19 c19 q A20 c20 a A21 c21 n A22 c22 r h0 h1 h2 h3 h4 h5 h6 h7 h8 A9 c9 q A10 c10 a A11 c11 n A12 c12 r true _ (Kd.C_below S19.out E5.out) L19.out (Kd.C_below S20.out E5.out) L20.out (Kd.C_below S21.out E5.out) L21.out (Kd.C_below S22.out E5.out) L22.out (Kd.C_below S9.out E5.out) L9.out (Kd.C_below S10.out E5.out) L10.out (Kd.C_below S11.out E5.out) L11.out (Kd.C_below S12.out E5.out) L12.out K4.out).mono ?_
  rintro e w6 ⟨rfl, hb⟩
  have E6 := Aside0.mk (below_then E5.out E5.out.size hb)
  have TV6 := Aside0.mk (below_then TV5.out TV5.out.size hb)
  have ha := blk_below BA5.out hb
  clear m0 m1 m2 m3 m4 m5 m6 m7 m8 m9 m10 m11 m12 x0 x1 x2 x3 x4 x5 x6 x7 x8 x9 x10 x11 x12 E5 TV5 hb
  have p0 : w6.cell? ⟨w2.heap.size, 0, none⟩ = some (.int .i64 g0) := (blk_cell ha 0).trans rfl
  have p1 : w6.cell? ⟨w2.heap.size, 1, none⟩ = some (.bool g1) := (blk_cell ha 1).trans rfl
  have p2 : w6.cell? ⟨w2.heap.size, 2, none⟩ = some (.int .i64 g2) := (blk_cell ha 2).trans rfl
  have p3 : w6.cell? ⟨w2.heap.size, 3, none⟩ = some (.bool g3) := (blk_cell ha 3).trans rfl
  have p4 : w6.cell? ⟨w2.heap.size, 4, none⟩ = some (.bool g4) := (blk_cell ha 4).trans rfl
  have p5 : w6.cell? ⟨w2.heap.size, 5, none⟩ = some (.bool g5) := (blk_cell ha 5).trans rfl
  have p6 : w6.cell? ⟨w2.heap.size, 6, none⟩ = some (.bool g6) := (blk_cell ha 6).trans rfl
  have p7 : w6.cell? ⟨w2.heap.size, 7, none⟩ = some (.int .i64 g7) := (blk_cell ha 7).trans rfl
  have p8 : w6.cell? ⟨w2.heap.size, 8, none⟩ = some (.int .i64 g8) := (blk_cell ha 8).trans rfl
  have p9 : w6.cell? ⟨w2.heap.size, 9, none⟩ = some (.slice A29 q'.length c29) := (blk_cell ha 9).trans rfl
  have p10 : w6.cell? ⟨w2.heap.size, 10, none⟩ = some (.slice A30 a'.length c30) := (blk_cell ha 10).trans rfl
  have p11 : w6.cell? ⟨w2.heap.size, 11, none⟩ = some (.slice A31 n'.length c31) := (blk_cell ha 11).trans rfl
  have p12 : w6.cell? ⟨w2.heap.size, 12, none⟩ = some (.slice A32 r'.length c32) := (blk_cell ha 12).trans rfl
  clear ha
  simp only
  go_wp2_with fail
  obtain ⟨s9, s10, s11, s12, hsp⟩ := K5.out
  refine (wimplelaw0_SpoilMsg.calls k5 g0 g1 g2 g3 g4 g5 g6 g7 g8 _ _ q' _ _ a' _ _ n' _ _ r' s9 s10 s11 s12 U w6 E6.out (Kd.R_below O9.out TV6.out) (Kd.R_below O10.out TV6.out) (fun k h1 h2 => h1.2.1 h2.1) (fun k h1 h2 => h1.2.2 h2.1) (Kd.R_below O11.out TV6.out) (fun k h1 h2 => h1.2.1 h2.1) (fun k h1 h2 => h1.2.2 h2.1) (Kd.R_below O12.out TV6.out) (fun k h1 h2 => h1.2.1 h2.1) (fun k h1 h2 => h1.2.2 h2.1) hsp).mono ?_
  rintro e w7 ⟨rfl, _, _, _, _, hb, _⟩
  have E7 := Aside0.mk hb
  have hx := blk_below BXU.out hb
  have hm := blk_below BMU.out hb
  have m0 : w7.cell? ⟨w.heap.size, 0, none⟩ = some (.int .i64 h0) := (blk_cell hm 0).trans rfl
  have m1 : w7.cell? ⟨w.heap.size, 1, none⟩ = some (.bool h1) := (blk_cell hm 1).trans rfl
  have m2 : w7.cell? ⟨w.heap.size, 2, none⟩ = some (.int .i64 h2) := (blk_cell hm 2).trans rfl
  have m3 : w7.cell? ⟨w.heap.size, 3, none⟩ = some (.bool h3) := (blk_cell hm 3).trans rfl
  have m4 : w7.cell? ⟨w.heap.size, 4, none⟩ = some (.bool h4) := (blk_cell hm 4).trans rfl
  have m5 : w7.cell? ⟨w.heap.size, 5, none⟩ = some (.bool h5) := (blk_cell hm 5).trans rfl
  have m6 : w7.cell? ⟨w.heap.size, 6, none⟩ = some (.bool h6) := (blk_cell hm 6).trans rfl
  have m7 : w7.cell? ⟨w.heap.size, 7, none⟩ = some (.int .i64 h7) := (blk_cell hm 7).trans rfl
  have m8 : w7.cell? ⟨w.heap.size, 8, none⟩ = some (.int .i64 h8) := (blk_cell hm 8).trans rfl
  have m9 : w7.cell? ⟨w.heap.size, 9, none⟩ = some (.slice A9 q.length c9) := (blk_cell hm 9).trans rfl
  have m10 : w7.cell? ⟨w.heap.size, 10, none⟩ = some (.slice A10 a.length c10) := (blk_cell hm 10).trans rfl
  have m11 : w7.cell? ⟨w.heap.size, 11, none⟩ = some (.slice A11 n.length c11) := (blk_cell hm 11).trans rfl
  have m12 : w7.cell? ⟨w.heap.size, 12, none⟩ = some (.slice A12 r.length c12) := (blk_cell hm 12).trans rfl
  have x0 : w7.cell? ⟨w1.heap.size, 0, none⟩ = some (.int .i64 h0) := (blk_cell hx 0).trans rfl
  have x1 : w7.cell? ⟨w1.heap.size, 1, none⟩ = some (.bool h1) := (blk_cell hx 1).trans rfl
  have x2 : w7.cell? ⟨w1.heap.size, 2, none⟩ = some (.int .i64 h2) := (blk_cell hx 2).trans rfl
  have x3 : w7.cell? ⟨w1.heap.size, 3, none⟩ = some (.bool h3) := (blk_cell hx 3).trans rfl
  have x4 : w7.cell? ⟨w1.heap.size, 4, none⟩ = some (.bool h4) := (blk_cell hx 4).trans rfl
  have x5 : w7.cell? ⟨w1.heap.size, 5, none⟩ = some (.bool h5) := (blk_cell hx 5).trans rfl
  have x6 : w7.cell? ⟨w1.heap.size, 6, none⟩ = some (.bool h6) := (blk_cell hx 6).trans rfl
  have x7 : w7.cell? ⟨w1.heap.size, 7, none⟩ = some (.int .i64 h7) := (blk_cell hx 7).trans rfl
  have x8 : w7.cell? ⟨w1.heap.size, 8, none⟩ = some (.int .i64 h8) := (blk_cell hx 8).trans rfl
  have x9 : w7.cell? ⟨w1.heap.size, 9, none⟩ = some (.slice A19 q.length c19) := (blk_cell hx 9).trans rfl
  have x10 : w7.cell? ⟨w1.heap.size, 10, none⟩ = some (.slice A20 a.length c20) := (blk_cell hx 10).trans rfl
  have x11 : w7.cell? ⟨w1.heap.size, 11, none⟩ = some (.slice A21 n.length c21) := (blk_cell hx 11).trans rfl
  have x12 : w7.cell? ⟨w1.heap.size, 12, none⟩ = some (.slice A22 r.length c22) := (blk_cell hx 12).trans rfl
  clear hb hx hm p0 p1 p2 p3 p4 p5 p6 p7 p8 p9 p10 p11 p12 E6 TV6 hsp
  simp only
  go_wp2_with fail
  refine (wimplelaw0_SameMsg.calls k4 h0 h1 h2 h3 h4 h5 h6 h7 h8 A19 c19 q A20 c20 a A21 c21 n A22 c22 r h0 h1 h2 h3 h4 h5 h6 h7 h8 A9 c9 q A10 c10 a A11 c11 n A12 c12 r true _ (Kd.C_below S19.out E7.out) L19.out (Kd.C_below S20.out E7.out) L20.out (Kd.C_below S21.out E7.out) L21.out (Kd.C_below S22.out E7.out) L22.out (Kd.C_below S9.out E7.out) L9.out (Kd.C_below S10.out E7.out) L10.out (Kd.C_below S11.out E7.out) L11.out (Kd.C_below S12.out E7.out) L12.out K4.out).mono ?_
  rintro e w8 ⟨rfl, hb⟩
  have E8 := Aside0.mk (below_then E7.out E7.out.size hb)
  clear hb m0 m1 m2 m3 m4 m5 m6 m7 m8 m9 m10 m11 m12 x0 x1 x2 x3 x4 x5 x6 x7 x8 x9 x10 x11 x12 E7
  simp only
  go_wp2_with fail
  refine (wimplelaw12_awake.calls k6 true _ K6.out).mono ?_
  rintro e w9 ⟨rfl, hb⟩
  have E9 := Aside0.mk (below_then T2.out T2.out.size (below_then E8.out E8.out.size hb))
  clear hb E8
  simp only
  go_wp2_with fail
  go_ret
  exact ⟨rfl, E9.out⟩
end Go.Proofs.Ytimkafkiphfacaa.M
