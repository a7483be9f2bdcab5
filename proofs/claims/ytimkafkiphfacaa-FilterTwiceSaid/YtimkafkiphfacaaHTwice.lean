/- The walk of FilterTwice: under a cut that is a name, and under one that is none. -/
import Derived.Test.YtimkafkiphfacaaPx23
import Derived.Test.YtimkafkiphfacaaPx19
import Derived.Test.YtimkafkiphfacaaPx20
namespace Go.Proofs.Ytimkafkiphfacaa.P
open Go.RowKit Go.Proofs.YtimkafkiphfacaaW.PrintWords Go.Proofs.YtimkafkiphfacaaW.PrintLast Go.Proofs.YtimkafkiphfacaaW.PrintMore
set_option linter.unusedVariables false
set_option linter.unusedSimpArgs false
set_option maxHeartbeats 8000000 in
set_option maxRecDepth 100000 in
theorem twice_walk (k : Nat) (w : World) (h0 : Int) (h1 : Bool) (h2 : Int) (h3 h4 h5 h6 : Bool) (h7 h8 : Int) (A9 : Option Addr) (c9 : Nat) (q : List S71) (A10 : Option Addr) (c10 : Nat) (a : List S42) (A11 : Option Addr) (c11 : Nat) (n : List S42) (A12 : Option Addr) (c12 : Nat) (r : List S42) (cut : ByteArray)
    (a' n' r' : List S42) (R9 : Aside0 (Kd.C k71 w A9 q.length q)) (L9 : Aside0 (q.length ≤ c9)) (R10 : Aside0 (Kd.C k42 w A10 a.length a)) (L10 : Aside0 (a.length ≤ c10)) (R11 : Aside0 (Kd.C k42 w A11 n.length n)) (L11 : Aside0 (n.length ≤ c11)) (R12 : Aside0 (Kd.C k42 w A12 r.length r)) (L12 : Aside0 (r.length ≤ c12))
    (HA : Aside0 (wimplelaw12_awake.f k = some true)) (F1 : Aside0 (bail_Filter.f k h0 h1 h2 h3 h4 h5 h6 h7 h8 q a n r cut = some (h0, h1, h2, h3, h4, h5, h6, h7, h8, q, a', n', r', 0))) (F2 : Aside0 (bail_Filter.f k h0 h1 h2 h3 h4 h5 h6 h7 h8 q a' n' r' cut = some (h0, h1, h2, h3, h4, h5, h6, h7, h8, q, a', n', r', 0))) (F3 : Aside0 (bail_Filter.f k h0 h1 h2 h3 h4 h5 h6 h7 h8 q [] n r cut = some (h0, h1, h2, h3, h4, h5, h6, h7, h8, q, [], n', r', 0)))
    (S1 : Aside0 (wimplelaw0_SameMsg.f k h0 h1 h2 h3 h4 h5 h6 h7 h8 q a' n' r' h0 h1 h2 h3 h4 h5 h6 h7 h8 q a' n' r' = some true)) (S2 : Aside0 (wimplelaw0_SameRrs.f k n' n' = some true)) (S3 : Aside0 (wimplelaw0_SameRrs.f k r' r' = some true)) (hle : Aside0 (a'.length ≤ a.length)) :
    Calls Try.prog 6 #[.agg #[.int .i64 h0, .bool h1, .int .i64 h2, .bool h3, .bool h4, .bool h5, .bool h6, .int .i64 h7, .int .i64 h8, .slice A9 q.length c9, .slice A10 a.length c10, .slice A11 n.length c11, .slice A12 r.length c12], .string cut] w fun e w' => e = .returned (.bool true) ∧ Below w.heap.size w w' := by
  have hu42 := Try.underlying42
  have hu27 := Try.underlying27
  go_enter Try.func6, Try.ntmps6
  try simp only [List.append_eq, List.cons_append, List.nil_append]
  go_wp2_with fail
  refine (wimplelaw12_awake.calls k true _ HA.out).mono ?_
  rintro e w1 ⟨rfl, hb⟩
  have BM := Aside0.mk (blk_below (blk_new w _) hb)
  have S1b := Aside0.mk (below_then (below_alloc (Below.refl w.heap.size w) _) (below_alloc (Below.refl w.heap.size w) _).size hb)
  clear hb
  have Q9 := Aside0.mk (Kd.C_below R9.out S1b.out)
  have Q10 := Aside0.mk (Kd.C_below R10.out S1b.out)
  have Q11 := Aside0.mk (Kd.C_below R11.out S1b.out)
  have Q12 := Aside0.mk (Kd.C_below R12.out S1b.out)
  clear R9 R10 R11 R12
  simp only
  have m0 : w1.cell? ⟨w.heap.size, 0, none⟩ = some (.int .i64 h0) := (blk_cell BM.out 0).trans rfl
  have m1 : w1.cell? ⟨w.heap.size, 1, none⟩ = some (.bool h1) := (blk_cell BM.out 1).trans rfl
  have m2 : w1.cell? ⟨w.heap.size, 2, none⟩ = some (.int .i64 h2) := (blk_cell BM.out 2).trans rfl
  have m3 : w1.cell? ⟨w.heap.size, 3, none⟩ = some (.bool h3) := (blk_cell BM.out 3).trans rfl
  have m4 : w1.cell? ⟨w.heap.size, 4, none⟩ = some (.bool h4) := (blk_cell BM.out 4).trans rfl
  have m5 : w1.cell? ⟨w.heap.size, 5, none⟩ = some (.bool h5) := (blk_cell BM.out 5).trans rfl
  have m6 : w1.cell? ⟨w.heap.size, 6, none⟩ = some (.bool h6) := (blk_cell BM.out 6).trans rfl
  have m7 : w1.cell? ⟨w.heap.size, 7, none⟩ = some (.int .i64 h7) := (blk_cell BM.out 7).trans rfl
  have m8 : w1.cell? ⟨w.heap.size, 8, none⟩ = some (.int .i64 h8) := (blk_cell BM.out 8).trans rfl
  have m9 : w1.cell? ⟨w.heap.size, 9, none⟩ = some (.slice A9 q.length c9) := (blk_cell BM.out 9).trans rfl
  have m10 : w1.cell? ⟨w.heap.size, 10, none⟩ = some (.slice A10 a.length c10) := (blk_cell BM.out 10).trans rfl
  have m11 : w1.cell? ⟨w.heap.size, 11, none⟩ = some (.slice A11 n.length c11) := (blk_cell BM.out 11).trans rfl
  have m12 : w1.cell? ⟨w.heap.size, 12, none⟩ = some (.slice A12 r.length c12) := (blk_cell BM.out 12).trans rfl
  go_wp2_with fail
  refine (bail_Filter.calls k h0 h1 h2 h3 h4 h5 h6 h7 h8 A9 c9 q A10 c10 a A11 c11 n A12 c12 r cut h0 h1 h2 h3 h4 h5 h6 h7 h8 q a' n' r' 0 _ Q9.out L9.out Q10.out L10.out Q11.out L11.out Q12.out L12.out F1.out).mono ?_
  rintro e w2 ⟨v9, v10, v11, v12, rfl, ho0, ho1, ho2, ho3, hb⟩
  obtain ⟨A19, c19, rfl, l19, r19⟩ := Kd.R_reads ho0
  have L19 := Aside0.mk l19
  have R19 := Aside0.mk r19
  clear l19 r19
  obtain ⟨A20, c20, rfl, l20, r20⟩ := Kd.R_reads ho1
  have L20 := Aside0.mk l20
  have R20 := Aside0.mk r20
  clear l20 r20
  obtain ⟨A21, c21, rfl, l21, r21⟩ := Kd.R_reads ho2
  have L21 := Aside0.mk l21
  have R21 := Aside0.mk r21
  clear l21 r21
  obtain ⟨A22, c22, rfl, l22, r22⟩ := Kd.R_reads ho3
  have L22 := Aside0.mk l22
  have R22 := Aside0.mk r22
  clear l22 r22
  clear ho0 ho1 ho2 ho3 m0 m1 m2 m3 m4 m5 m6 m7 m8 m9 m10 m11 m12
  have T2 := Aside0.mk (below_then S1b.out S1b.out.size hb)
  have BM2 := Aside0.mk (blk_below BM.out hb)
  clear BM S1b
  have P9 := Aside0.mk (Kd.C_below Q9.out hb)
  have P11 := Aside0.mk (Kd.C_below Q11.out hb)
  have P12 := Aside0.mk (Kd.C_below Q12.out hb)
  clear Q9 Q10 Q11 Q12 hb
  simp only
  go_wp2_with fail
  refine (bail_Filter.calls k h0 h1 h2 h3 h4 h5 h6 h7 h8 A19 c19 q A20 c20 a' A21 c21 n' A22 c22 r' cut h0 h1 h2 h3 h4 h5 h6 h7 h8 q a' n' r' 0 _ (Kd.C_alloc R19.out _) L19.out (Kd.C_alloc R20.out _) L20.out (Kd.C_alloc R21.out _) L21.out (Kd.C_alloc R22.out _) L22.out F2.out).mono ?_
  rintro e w3 ⟨v9, v10, v11, v12, rfl, ho0, ho1, ho2, ho3, hb⟩
  obtain ⟨A29, c29, rfl, l29, r29⟩ := Kd.R_reads ho0
  have L29 := Aside0.mk l29
  have R29 := Aside0.mk r29
  clear l29 r29
  obtain ⟨A30, c30, rfl, l30, r30⟩ := Kd.R_reads ho1
  have L30 := Aside0.mk l30
  have R30 := Aside0.mk r30
  clear l30 r30
  obtain ⟨A31, c31, rfl, l31, r31⟩ := Kd.R_reads ho2
  have L31 := Aside0.mk l31
  have R31 := Aside0.mk r31
  clear l31 r31
  obtain ⟨A32, c32, rfl, l32, r32⟩ := Kd.R_reads ho3
  have L32 := Aside0.mk l32
  have R32 := Aside0.mk r32
  clear l32 r32
  clear ho0 ho1 ho2 ho3
  have T3 := Aside0.mk (below_then (below_alloc T2.out _) (below_alloc T2.out _).size hb)
  have BM3 := Aside0.mk (blk_below (blk_alloc BM2.out _) hb)
  have BA3 := Aside0.mk (blk_below (blk_new w2 _) hb)
  have P9' := Aside0.mk (Kd.C_below (Kd.C_alloc P9.out _) hb)
  have P11' := Aside0.mk (Kd.C_below (Kd.C_alloc P11.out _) hb)
  have P12' := Aside0.mk (Kd.C_below (Kd.C_alloc P12.out _) hb)
  have R20' := Aside0.mk (Kd.C_below (Kd.C_alloc R20.out _) hb)
  have R21' := Aside0.mk (Kd.C_below (Kd.C_alloc R21.out _) hb)
  have R22' := Aside0.mk (Kd.C_below (Kd.C_alloc R22.out _) hb)
  have R19' := Aside0.mk (Kd.C_below (Kd.C_alloc R19.out _) hb)
  clear hb BM2 P9 P11 P12 R19 R20 R21 R22 T2
  have m0 : ∀ o : Obj, (w3.alloc o).cell? ⟨w.heap.size, 0, none⟩ = some (.int .i64 h0) := fun o => (blk_cell (blk_alloc BM3.out o) 0).trans rfl
  have m1 : ∀ o : Obj, (w3.alloc o).cell? ⟨w.heap.size, 1, none⟩ = some (.bool h1) := fun o => (blk_cell (blk_alloc BM3.out o) 1).trans rfl
  have m2 : ∀ o : Obj, (w3.alloc o).cell? ⟨w.heap.size, 2, none⟩ = some (.int .i64 h2) := fun o => (blk_cell (blk_alloc BM3.out o) 2).trans rfl
  have m3 : ∀ o : Obj, (w3.alloc o).cell? ⟨w.heap.size, 3, none⟩ = some (.bool h3) := fun o => (blk_cell (blk_alloc BM3.out o) 3).trans rfl
  have m4 : ∀ o : Obj, (w3.alloc o).cell? ⟨w.heap.size, 4, none⟩ = some (.bool h4) := fun o => (blk_cell (blk_alloc BM3.out o) 4).trans rfl
  have m5 : ∀ o : Obj, (w3.alloc o).cell? ⟨w.heap.size, 5, none⟩ = some (.bool h5) := fun o => (blk_cell (blk_alloc BM3.out o) 5).trans rfl
  have m6 : ∀ o : Obj, (w3.alloc o).cell? ⟨w.heap.size, 6, none⟩ = some (.bool h6) := fun o => (blk_cell (blk_alloc BM3.out o) 6).trans rfl
  have m7 : ∀ o : Obj, (w3.alloc o).cell? ⟨w.heap.size, 7, none⟩ = some (.int .i64 h7) := fun o => (blk_cell (blk_alloc BM3.out o) 7).trans rfl
  have m8 : ∀ o : Obj, (w3.alloc o).cell? ⟨w.heap.size, 8, none⟩ = some (.int .i64 h8) := fun o => (blk_cell (blk_alloc BM3.out o) 8).trans rfl
  have m9 : ∀ o : Obj, (w3.alloc o).cell? ⟨w.heap.size, 9, none⟩ = some (.slice A9 q.length c9) := fun o => (blk_cell (blk_alloc BM3.out o) 9).trans rfl
  have m10 : ∀ o : Obj, (w3.alloc o).cell? ⟨w.heap.size, 10, none⟩ = some (.slice A10 a.length c10) := fun o => (blk_cell (blk_alloc BM3.out o) 10).trans rfl
  have m11 : ∀ o : Obj, (w3.alloc o).cell? ⟨w.heap.size, 11, none⟩ = some (.slice A11 n.length c11) := fun o => (blk_cell (blk_alloc BM3.out o) 11).trans rfl
  have m12 : ∀ o : Obj, (w3.alloc o).cell? ⟨w.heap.size, 12, none⟩ = some (.slice A12 r.length c12) := fun o => (blk_cell (blk_alloc BM3.out o) 12).trans rfl
  simp only
  go_wp2_with fail
  refine (bail_Filter.calls k h0 h1 h2 h3 h4 h5 h6 h7 h8 A9 c9 q none 0 [] A11 c11 n A12 c12 r cut h0 h1 h2 h3 h4 h5 h6 h7 h8 q [] n' r' 0 _ (Kd.C_alloc (Kd.C_alloc P9'.out _) _) L9.out (nil_C _ _) (Nat.le_refl _) (Kd.C_alloc (Kd.C_alloc P11'.out _) _) L11.out (Kd.C_alloc (Kd.C_alloc P12'.out _) _) L12.out F3.out).mono ?_
  rintro e w4 ⟨v9, v10, v11, v12, rfl, ho0, ho1, ho2, ho3, hb⟩
  obtain ⟨A39, c39, rfl, l39, r39⟩ := Kd.R_reads ho0
  have L39 := Aside0.mk l39
  have R39 := Aside0.mk r39
  clear l39 r39
  obtain ⟨A40, c40, rfl, l40, r40⟩ := Kd.R_reads ho1
  have L40 := Aside0.mk l40
  have R40 := Aside0.mk r40
  clear l40 r40
  obtain ⟨A41, c41, rfl, l41, r41⟩ := Kd.R_reads ho2
  have L41 := Aside0.mk l41
  have R41 := Aside0.mk r41
  clear l41 r41
  obtain ⟨A42, c42, rfl, l42, r42⟩ := Kd.R_reads ho3
  have L42 := Aside0.mk l42
  have R42 := Aside0.mk r42
  clear l42 r42
  clear ho0 ho1 ho2 ho3 m0 m1 m2 m3 m4 m5 m6 m7 m8 m9 m10 m11 m12
  have T4 := Aside0.mk (below_then (below_alloc (below_alloc T3.out _) _) (below_alloc (below_alloc T3.out _) _).size hb)
  have BM4 := Aside0.mk (blk_below (blk_alloc (blk_alloc BM3.out _) _) hb)
  have BA4 := Aside0.mk (blk_below (blk_alloc (blk_alloc BA3.out _) _) hb)
  have BB4 := Aside0.mk (blk_below (blk_alloc (blk_new w3 _) _) hb)
  have X19 := Aside0.mk (Kd.C_below (Kd.C_alloc (Kd.C_alloc R19'.out _) _) hb)
  have X20 := Aside0.mk (Kd.C_below (Kd.C_alloc (Kd.C_alloc R20'.out _) _) hb)
  have X21 := Aside0.mk (Kd.C_below (Kd.C_alloc (Kd.C_alloc R21'.out _) _) hb)
  have X22 := Aside0.mk (Kd.C_below (Kd.C_alloc (Kd.C_alloc R22'.out _) _) hb)
  have X29 := Aside0.mk (Kd.C_below (Kd.C_alloc (Kd.C_alloc R29.out _) _) hb)
  have X30 := Aside0.mk (Kd.C_below (Kd.C_alloc (Kd.C_alloc R30.out _) _) hb)
  have X31 := Aside0.mk (Kd.C_below (Kd.C_alloc (Kd.C_alloc R31.out _) _) hb)
  have X32 := Aside0.mk (Kd.C_below (Kd.C_alloc (Kd.C_alloc R32.out _) _) hb)
  clear hb R19' R20' R21' R22' R29 R30 R31 R32 P9' P11' P12' BM3 BA3 T3
  have m0 : ∀ o : Obj, (w4.alloc o).cell? ⟨w.heap.size, 0, none⟩ = some (.int .i64 h0) := fun o => (blk_cell (blk_alloc BM4.out o) 0).trans rfl
  have m1 : ∀ o : Obj, (w4.alloc o).cell? ⟨w.heap.size, 1, none⟩ = some (.bool h1) := fun o => (blk_cell (blk_alloc BM4.out o) 1).trans rfl
  have m2 : ∀ o : Obj, (w4.alloc o).cell? ⟨w.heap.size, 2, none⟩ = some (.int .i64 h2) := fun o => (blk_cell (blk_alloc BM4.out o) 2).trans rfl
  have m3 : ∀ o : Obj, (w4.alloc o).cell? ⟨w.heap.size, 3, none⟩ = some (.bool h3) := fun o => (blk_cell (blk_alloc BM4.out o) 3).trans rfl
  have m4 : ∀ o : Obj, (w4.alloc o).cell? ⟨w.heap.size, 4, none⟩ = some (.bool h4) := fun o => (blk_cell (blk_alloc BM4.out o) 4).trans rfl
  have m5 : ∀ o : Obj, (w4.alloc o).cell? ⟨w.heap.size, 5, none⟩ = some (.bool h5) := fun o => (blk_cell (blk_alloc BM4.out o) 5).trans rfl
  have m6 : ∀ o : Obj, (w4.alloc o).cell? ⟨w.heap.size, 6, none⟩ = some (.bool h6) := fun o => (blk_cell (blk_alloc BM4.out o) 6).trans rfl
  have m7 : ∀ o : Obj, (w4.alloc o).cell? ⟨w.heap.size, 7, none⟩ = some (.int .i64 h7) := fun o => (blk_cell (blk_alloc BM4.out o) 7).trans rfl
  have m8 : ∀ o : Obj, (w4.alloc o).cell? ⟨w.heap.size, 8, none⟩ = some (.int .i64 h8) := fun o => (blk_cell (blk_alloc BM4.out o) 8).trans rfl
  have m9 : ∀ o : Obj, (w4.alloc o).cell? ⟨w.heap.size, 9, none⟩ = some (.slice A9 q.length c9) := fun o => (blk_cell (blk_alloc BM4.out o) 9).trans rfl
  have m10 : ∀ o : Obj, (w4.alloc o).cell? ⟨w.heap.size, 10, none⟩ = some (.slice A10 a.length c10) := fun o => (blk_cell (blk_alloc BM4.out o) 10).trans rfl
  have m11 : ∀ o : Obj, (w4.alloc o).cell? ⟨w.heap.size, 11, none⟩ = some (.slice A11 n.length c11) := fun o => (blk_cell (blk_alloc BM4.out o) 11).trans rfl
  have m12 : ∀ o : Obj, (w4.alloc o).cell? ⟨w.heap.size, 12, none⟩ = some (.slice A12 r.length c12) := fun o => (blk_cell (blk_alloc BM4.out o) 12).trans rfl
  have aa0 : ∀ o : Obj, (w4.alloc o).cell? ⟨w2.heap.size, 0, none⟩ = some (.int .i64 h0) := fun o => (blk_cell (blk_alloc BA4.out o) 0).trans rfl
  have aa1 : ∀ o : Obj, (w4.alloc o).cell? ⟨w2.heap.size, 1, none⟩ = some (.bool h1) := fun o => (blk_cell (blk_alloc BA4.out o) 1).trans rfl
  have aa2 : ∀ o : Obj, (w4.alloc o).cell? ⟨w2.heap.size, 2, none⟩ = some (.int .i64 h2) := fun o => (blk_cell (blk_alloc BA4.out o) 2).trans rfl
  have aa3 : ∀ o : Obj, (w4.alloc o).cell? ⟨w2.heap.size, 3, none⟩ = some (.bool h3) := fun o => (blk_cell (blk_alloc BA4.out o) 3).trans rfl
  have aa4 : ∀ o : Obj, (w4.alloc o).cell? ⟨w2.heap.size, 4, none⟩ = some (.bool h4) := fun o => (blk_cell (blk_alloc BA4.out o) 4).trans rfl
  have aa5 : ∀ o : Obj, (w4.alloc o).cell? ⟨w2.heap.size, 5, none⟩ = some (.bool h5) := fun o => (blk_cell (blk_alloc BA4.out o) 5).trans rfl
  have aa6 : ∀ o : Obj, (w4.alloc o).cell? ⟨w2.heap.size, 6, none⟩ = some (.bool h6) := fun o => (blk_cell (blk_alloc BA4.out o) 6).trans rfl
  have aa7 : ∀ o : Obj, (w4.alloc o).cell? ⟨w2.heap.size, 7, none⟩ = some (.int .i64 h7) := fun o => (blk_cell (blk_alloc BA4.out o) 7).trans rfl
  have aa8 : ∀ o : Obj, (w4.alloc o).cell? ⟨w2.heap.size, 8, none⟩ = some (.int .i64 h8) := fun o => (blk_cell (blk_alloc BA4.out o) 8).trans rfl
  have aa9 : ∀ o : Obj, (w4.alloc o).cell? ⟨w2.heap.size, 9, none⟩ = some (.slice A19 q.length c19) := fun o => (blk_cell (blk_alloc BA4.out o) 9).trans rfl
  have aa10 : ∀ o : Obj, (w4.alloc o).cell? ⟨w2.heap.size, 10, none⟩ = some (.slice A20 a'.length c20) := fun o => (blk_cell (blk_alloc BA4.out o) 10).trans rfl
  have aa11 : ∀ o : Obj, (w4.alloc o).cell? ⟨w2.heap.size, 11, none⟩ = some (.slice A21 n'.length c21) := fun o => (blk_cell (blk_alloc BA4.out o) 11).trans rfl
  have aa12 : ∀ o : Obj, (w4.alloc o).cell? ⟨w2.heap.size, 12, none⟩ = some (.slice A22 r'.length c22) := fun o => (blk_cell (blk_alloc BA4.out o) 12).trans rfl
  have bb0 : ∀ o : Obj, (w4.alloc o).cell? ⟨w3.heap.size, 0, none⟩ = some (.int .i64 h0) := fun o => (blk_cell (blk_alloc BB4.out o) 0).trans rfl
  have bb1 : ∀ o : Obj, (w4.alloc o).cell? ⟨w3.heap.size, 1, none⟩ = some (.bool h1) := fun o => (blk_cell (blk_alloc BB4.out o) 1).trans rfl
  have bb2 : ∀ o : Obj, (w4.alloc o).cell? ⟨w3.heap.size, 2, none⟩ = some (.int .i64 h2) := fun o => (blk_cell (blk_alloc BB4.out o) 2).trans rfl
  have bb3 : ∀ o : Obj, (w4.alloc o).cell? ⟨w3.heap.size, 3, none⟩ = some (.bool h3) := fun o => (blk_cell (blk_alloc BB4.out o) 3).trans rfl
  have bb4 : ∀ o : Obj, (w4.alloc o).cell? ⟨w3.heap.size, 4, none⟩ = some (.bool h4) := fun o => (blk_cell (blk_alloc BB4.out o) 4).trans rfl
  have bb5 : ∀ o : Obj, (w4.alloc o).cell? ⟨w3.heap.size, 5, none⟩ = some (.bool h5) := fun o => (blk_cell (blk_alloc BB4.out o) 5).trans rfl
  have bb6 : ∀ o : Obj, (w4.alloc o).cell? ⟨w3.heap.size, 6, none⟩ = some (.bool h6) := fun o => (blk_cell (blk_alloc BB4.out o) 6).trans rfl
  have bb7 : ∀ o : Obj, (w4.alloc o).cell? ⟨w3.heap.size, 7, none⟩ = some (.int .i64 h7) := fun o => (blk_cell (blk_alloc BB4.out o) 7).trans rfl
  have bb8 : ∀ o : Obj, (w4.alloc o).cell? ⟨w3.heap.size, 8, none⟩ = some (.int .i64 h8) := fun o => (blk_cell (blk_alloc BB4.out o) 8).trans rfl
  have bb9 : ∀ o : Obj, (w4.alloc o).cell? ⟨w3.heap.size, 9, none⟩ = some (.slice A29 q.length c29) := fun o => (blk_cell (blk_alloc BB4.out o) 9).trans rfl
  have bb10 : ∀ o : Obj, (w4.alloc o).cell? ⟨w3.heap.size, 10, none⟩ = some (.slice A30 a'.length c30) := fun o => (blk_cell (blk_alloc BB4.out o) 10).trans rfl
  have bb11 : ∀ o : Obj, (w4.alloc o).cell? ⟨w3.heap.size, 11, none⟩ = some (.slice A31 n'.length c31) := fun o => (blk_cell (blk_alloc BB4.out o) 11).trans rfl
  have bb12 : ∀ o : Obj, (w4.alloc o).cell? ⟨w3.heap.size, 12, none⟩ = some (.slice A32 r'.length c32) := fun o => (blk_cell (blk_alloc BB4.out o) 12).trans rfl
  simp only
  go_wp2_with (first | (go_at_call 14; (refine (wimplelaw0_Num.calls 0 0 _ rfl).mono ?_); rintro e w' ⟨rfl, ⟨nd, rfl⟩⟩))
  refine (wimplelaw0_SameMsg.calls k h0 h1 h2 h3 h4 h5 h6 h7 h8 A19 c19 q A20 c20 a' A21 c21 n' A22 c22 r' h0 h1 h2 h3 h4 h5 h6 h7 h8 A29 c29 q A30 c30 a' A31 c31 n' A32 c32 r' true _ (Kd.C_drewN (Kd.C_alloc X19.out _) _) L19.out (Kd.C_drewN (Kd.C_alloc X20.out _) _) L20.out (Kd.C_drewN (Kd.C_alloc X21.out _) _) L21.out (Kd.C_drewN (Kd.C_alloc X22.out _) _) L22.out (Kd.C_drewN (Kd.C_alloc X29.out _) _) L29.out (Kd.C_drewN (Kd.C_alloc X30.out _) _) L30.out (Kd.C_drewN (Kd.C_alloc X31.out _) _) L31.out (Kd.C_drewN (Kd.C_alloc X32.out _) _) L32.out S1.out).mono ?_
  rintro e w5 ⟨rfl, hb⟩
  clear m0 m1 m2 m3 m4 m5 m6 m7 m8 m9 m10 m11 m12 aa0 aa1 aa2 aa3 aa4 aa5 aa6 aa7 aa8 aa9 aa10 aa11 aa12 bb0 bb1 bb2 bb3 bb4 bb5 bb6 bb7 bb8 bb9 bb10 bb11 bb12
  have T5 := Aside0.mk (below_then (pw_below_drewN (below_alloc T4.out _) _) (pw_below_drewN (below_alloc T4.out _) _).size hb)
  have BM5 := Aside0.mk (blk_below (blk_drewN (blk_alloc BM4.out _) _) hb)
  have BA5 := Aside0.mk (blk_below (blk_drewN (blk_alloc BA4.out _) _) hb)
  have BC5 := Aside0.mk (blk_below (blk_drewN (blk_new w4 _) _) hb)
  have Y21 := Aside0.mk (Kd.C_below (Kd.C_drewN (Kd.C_alloc X21.out _) _) hb)
  have Y22 := Aside0.mk (Kd.C_below (Kd.C_drewN (Kd.C_alloc X22.out _) _) hb)
  have Y41 := Aside0.mk (Kd.C_below (Kd.C_drewN (Kd.C_alloc R41.out _) _) hb)
  have Y42 := Aside0.mk (Kd.C_below (Kd.C_drewN (Kd.C_alloc R42.out _) _) hb)
  clear hb X19 X20 X21 X22 X29 X30 X31 X32 R39 R40 R41 R42 BM4 BA4 BB4 T4
  have m10 : w5.cell? ⟨w.heap.size, 10, none⟩ = some (.slice A10 a.length c10) := (blk_cell BM5.out 10).trans rfl
  have aa9 : w5.cell? ⟨w2.heap.size, 9, none⟩ = some (.slice A19 q.length c19) := (blk_cell BA5.out 9).trans rfl
  have aa10 : w5.cell? ⟨w2.heap.size, 10, none⟩ = some (.slice A20 a'.length c20) := (blk_cell BA5.out 10).trans rfl
  have aa11 : w5.cell? ⟨w2.heap.size, 11, none⟩ = some (.slice A21 n'.length c21) := (blk_cell BA5.out 11).trans rfl
  have aa12 : w5.cell? ⟨w2.heap.size, 12, none⟩ = some (.slice A22 r'.length c22) := (blk_cell BA5.out 12).trans rfl
  have cc9 : w5.cell? ⟨w4.heap.size, 9, none⟩ = some (.slice A39 q.length c39) := (blk_cell BC5.out 9).trans rfl
  have cc10 : w5.cell? ⟨w4.heap.size, 10, none⟩ = some (.slice A40 ([] : List S42).length c40) := (blk_cell BC5.out 10).trans rfl
  have cc11 : w5.cell? ⟨w4.heap.size, 11, none⟩ = some (.slice A41 n'.length c41) := (blk_cell BC5.out 11).trans rfl
  have cc12 : w5.cell? ⟨w4.heap.size, 12, none⟩ = some (.slice A42 r'.length c42) := (blk_cell BC5.out 12).trans rfl
  have cc10' : w5.cell? ⟨w4.heap.size, 10, none⟩ = some (.slice A40 0 c40) := cc10
  have hle1 : decide ((a'.length : Int) ≤ (a.length : Int)) = true := decide_eq_true (by have := hle.out; omega)
  have hle2 : decide (a'.length ≤ a.length) = true := decide_eq_true hle.out
  clear cc10
  simp only
  go_wp2_with fail
  refine (wimplelaw0_SameRrs.calls k A41 c41 n' A21 c21 n' true _ Y41.out L41.out Y21.out L21.out S2.out).mono ?_
  rintro e w6 ⟨rfl, ⟨nd, rfl⟩⟩
  simp only
  go_wp2_with fail
  refine (wimplelaw0_SameRrs.calls k A42 c42 r' A22 c22 r' true _ (Kd.C_drewN Y42.out _) L42.out (Kd.C_drewN Y22.out _) L22.out S3.out).mono ?_
  rintro e w7 ⟨rfl, ⟨nd2, rfl⟩⟩
  simp only
  go_wp2_with fail
  go_ret
  exact ⟨rfl, pw_below_drewN T5.out _⟩
set_option maxHeartbeats 8000000 in
set_option maxRecDepth 100000 in
theorem twice_none (k : Nat) (w : World) (h0 : Int) (h1 : Bool) (h2 : Int) (h3 h4 h5 h6 : Bool) (h7 h8 : Int) (A9 : Option Addr) (c9 : Nat) (q : List S71) (A10 : Option Addr) (c10 : Nat) (a : List S42) (A11 : Option Addr) (c11 : Nat) (n : List S42) (A12 : Option Addr) (c12 : Nat) (r : List S42) (cut : ByteArray)
    (R9 : Aside0 (Kd.C k71 w A9 q.length q)) (L9 : Aside0 (q.length ≤ c9)) (R10 : Aside0 (Kd.C k42 w A10 a.length a)) (L10 : Aside0 (a.length ≤ c10)) (R11 : Aside0 (Kd.C k42 w A11 n.length n)) (L11 : Aside0 (n.length ≤ c11)) (R12 : Aside0 (Kd.C k42 w A12 r.length r)) (L12 : Aside0 (r.length ≤ c12))
    (HA : Aside0 (wimplelaw12_awake.f k = some true)) (F1 : Aside0 (bail_Filter.f k h0 h1 h2 h3 h4 h5 h6 h7 h8 q a n r cut = some (0, false, 0, false, false, false, false, 0, 0, [], [], [], [], 1200))) (F2 : Aside0 (bail_Filter.f k 0 false 0 false false false false 0 0 [] [] [] [] cut = some (0, false, 0, false, false, false, false, 0, 0, [], [], [], [], 1200))) (F3 : Aside0 (bail_Filter.f k h0 h1 h2 h3 h4 h5 h6 h7 h8 q [] n r cut = some (0, false, 0, false, false, false, false, 0, 0, [], [], [], [], 1200))) :
    Calls Try.prog 6 #[.agg #[.int .i64 h0, .bool h1, .int .i64 h2, .bool h3, .bool h4, .bool h5, .bool h6, .int .i64 h7, .int .i64 h8, .slice A9 q.length c9, .slice A10 a.length c10, .slice A11 n.length c11, .slice A12 r.length c12], .string cut] w fun e w' => e = .returned (.bool true) ∧ Below w.heap.size w w' := by
  have hu42 := Try.underlying42
  have hu27 := Try.underlying27
  go_enter Try.func6, Try.ntmps6
  try simp only [List.append_eq, List.cons_append, List.nil_append]
  go_wp2_with fail
  refine (wimplelaw12_awake.calls k true _ HA.out).mono ?_
  rintro e w1 ⟨rfl, hb⟩
  have BM := Aside0.mk (blk_below (blk_new w _) hb)
  have S1b := Aside0.mk (below_then (below_alloc (Below.refl w.heap.size w) _) (below_alloc (Below.refl w.heap.size w) _).size hb)
  clear hb
  have Q9 := Aside0.mk (Kd.C_below R9.out S1b.out)
  have Q10 := Aside0.mk (Kd.C_below R10.out S1b.out)
  have Q11 := Aside0.mk (Kd.C_below R11.out S1b.out)
  have Q12 := Aside0.mk (Kd.C_below R12.out S1b.out)
  clear R9 R10 R11 R12
  simp only
  have m0 : w1.cell? ⟨w.heap.size, 0, none⟩ = some (.int .i64 h0) := (blk_cell BM.out 0).trans rfl
  have m1 : w1.cell? ⟨w.heap.size, 1, none⟩ = some (.bool h1) := (blk_cell BM.out 1).trans rfl
  have m2 : w1.cell? ⟨w.heap.size, 2, none⟩ = some (.int .i64 h2) := (blk_cell BM.out 2).trans rfl
  have m3 : w1.cell? ⟨w.heap.size, 3, none⟩ = some (.bool h3) := (blk_cell BM.out 3).trans rfl
  have m4 : w1.cell? ⟨w.heap.size, 4, none⟩ = some (.bool h4) := (blk_cell BM.out 4).trans rfl
  have m5 : w1.cell? ⟨w.heap.size, 5, none⟩ = some (.bool h5) := (blk_cell BM.out 5).trans rfl
  have m6 : w1.cell? ⟨w.heap.size, 6, none⟩ = some (.bool h6) := (blk_cell BM.out 6).trans rfl
  have m7 : w1.cell? ⟨w.heap.size, 7, none⟩ = some (.int .i64 h7) := (blk_cell BM.out 7).trans rfl
  have m8 : w1.cell? ⟨w.heap.size, 8, none⟩ = some (.int .i64 h8) := (blk_cell BM.out 8).trans rfl
  have m9 : w1.cell? ⟨w.heap.size, 9, none⟩ = some (.slice A9 q.length c9) := (blk_cell BM.out 9).trans rfl
  have m10 : w1.cell? ⟨w.heap.size, 10, none⟩ = some (.slice A10 a.length c10) := (blk_cell BM.out 10).trans rfl
  have m11 : w1.cell? ⟨w.heap.size, 11, none⟩ = some (.slice A11 n.length c11) := (blk_cell BM.out 11).trans rfl
  have m12 : w1.cell? ⟨w.heap.size, 12, none⟩ = some (.slice A12 r.length c12) := (blk_cell BM.out 12).trans rfl
  go_wp2_with fail
  refine (bail_Filter.calls k h0 h1 h2 h3 h4 h5 h6 h7 h8 A9 c9 q A10 c10 a A11 c11 n A12 c12 r cut 0 false 0 false false false false 0 0 [] [] [] [] 1200 _ Q9.out L9.out Q10.out L10.out Q11.out L11.out Q12.out L12.out F1.out).mono ?_
  rintro e w2 ⟨v9, v10, v11, v12, rfl, ho0, ho1, ho2, ho3, hb⟩
  obtain ⟨A19, c19, rfl, l19, r19⟩ := Kd.R_reads ho0
  have L19 := Aside0.mk l19
  have R19 := Aside0.mk r19
  clear l19 r19
  obtain ⟨A20, c20, rfl, l20, r20⟩ := Kd.R_reads ho1
  have L20 := Aside0.mk l20
  have R20 := Aside0.mk r20
  clear l20 r20
  obtain ⟨A21, c21, rfl, l21, r21⟩ := Kd.R_reads ho2
  have L21 := Aside0.mk l21
  have R21 := Aside0.mk r21
  clear l21 r21
  obtain ⟨A22, c22, rfl, l22, r22⟩ := Kd.R_reads ho3
  have L22 := Aside0.mk l22
  have R22 := Aside0.mk r22
  clear l22 r22
  clear ho0 ho1 ho2 ho3 m0 m1 m2 m3 m4 m5 m6 m7 m8 m9 m10 m11 m12
  have T2 := Aside0.mk (below_then S1b.out S1b.out.size hb)
  have BM2 := Aside0.mk (blk_below BM.out hb)
  clear BM S1b
  have P9 := Aside0.mk (Kd.C_below Q9.out hb)
  have P11 := Aside0.mk (Kd.C_below Q11.out hb)
  have P12 := Aside0.mk (Kd.C_below Q12.out hb)
  clear Q9 Q10 Q11 Q12 hb
  simp only
  go_wp2_with fail
  refine (bail_Filter.calls k 0 false 0 false false false false 0 0 A19 c19 [] A20 c20 [] A21 c21 [] A22 c22 [] cut 0 false 0 false false false false 0 0 [] [] [] [] 1200 _ (Kd.C_alloc R19.out _) L19.out (Kd.C_alloc R20.out _) L20.out (Kd.C_alloc R21.out _) L21.out (Kd.C_alloc R22.out _) L22.out F2.out).mono ?_
  rintro e w3 ⟨v9, v10, v11, v12, rfl, ho0, ho1, ho2, ho3, hb⟩
  obtain ⟨A29, c29, rfl, l29, r29⟩ := Kd.R_reads ho0
  have L29 := Aside0.mk l29
  have R29 := Aside0.mk r29
  clear l29 r29
  obtain ⟨A30, c30, rfl, l30, r30⟩ := Kd.R_reads ho1
  have L30 := Aside0.mk l30
  have R30 := Aside0.mk r30
  clear l30 r30
  obtain ⟨A31, c31, rfl, l31, r31⟩ := Kd.R_reads ho2
  have L31 := Aside0.mk l31
  have R31 := Aside0.mk r31
  clear l31 r31
  obtain ⟨A32, c32, rfl, l32, r32⟩ := Kd.R_reads ho3
  have L32 := Aside0.mk l32
  have R32 := Aside0.mk r32
  clear l32 r32
  clear ho0 ho1 ho2 ho3
  have T3 := Aside0.mk (below_then (below_alloc T2.out _) (below_alloc T2.out _).size hb)
  have BM3 := Aside0.mk (blk_below (blk_alloc BM2.out _) hb)
  have BA3 := Aside0.mk (blk_below (blk_new w2 _) hb)
  have P9' := Aside0.mk (Kd.C_below (Kd.C_alloc P9.out _) hb)
  have P11' := Aside0.mk (Kd.C_below (Kd.C_alloc P11.out _) hb)
  have P12' := Aside0.mk (Kd.C_below (Kd.C_alloc P12.out _) hb)
  have R20' := Aside0.mk (Kd.C_below (Kd.C_alloc R20.out _) hb)
  have R21' := Aside0.mk (Kd.C_below (Kd.C_alloc R21.out _) hb)
  have R22' := Aside0.mk (Kd.C_below (Kd.C_alloc R22.out _) hb)
  have R19' := Aside0.mk (Kd.C_below (Kd.C_alloc R19.out _) hb)
  clear hb BM2 P9 P11 P12 R19 R20 R21 R22 T2
  have m0 : ∀ o : Obj, (w3.alloc o).cell? ⟨w.heap.size, 0, none⟩ = some (.int .i64 h0) := fun o => (blk_cell (blk_alloc BM3.out o) 0).trans rfl
  have m1 : ∀ o : Obj, (w3.alloc o).cell? ⟨w.heap.size, 1, none⟩ = some (.bool h1) := fun o => (blk_cell (blk_alloc BM3.out o) 1).trans rfl
  have m2 : ∀ o : Obj, (w3.alloc o).cell? ⟨w.heap.size, 2, none⟩ = some (.int .i64 h2) := fun o => (blk_cell (blk_alloc BM3.out o) 2).trans rfl
  have m3 : ∀ o : Obj, (w3.alloc o).cell? ⟨w.heap.size, 3, none⟩ = some (.bool h3) := fun o => (blk_cell (blk_alloc BM3.out o) 3).trans rfl
  have m4 : ∀ o : Obj, (w3.alloc o).cell? ⟨w.heap.size, 4, none⟩ = some (.bool h4) := fun o => (blk_cell (blk_alloc BM3.out o) 4).trans rfl
  have m5 : ∀ o : Obj, (w3.alloc o).cell? ⟨w.heap.size, 5, none⟩ = some (.bool h5) := fun o => (blk_cell (blk_alloc BM3.out o) 5).trans rfl
  have m6 : ∀ o : Obj, (w3.alloc o).cell? ⟨w.heap.size, 6, none⟩ = some (.bool h6) := fun o => (blk_cell (blk_alloc BM3.out o) 6).trans rfl
  have m7 : ∀ o : Obj, (w3.alloc o).cell? ⟨w.heap.size, 7, none⟩ = some (.int .i64 h7) := fun o => (blk_cell (blk_alloc BM3.out o) 7).trans rfl
  have m8 : ∀ o : Obj, (w3.alloc o).cell? ⟨w.heap.size, 8, none⟩ = some (.int .i64 h8) := fun o => (blk_cell (blk_alloc BM3.out o) 8).trans rfl
  have m9 : ∀ o : Obj, (w3.alloc o).cell? ⟨w.heap.size, 9, none⟩ = some (.slice A9 q.length c9) := fun o => (blk_cell (blk_alloc BM3.out o) 9).trans rfl
  have m10 : ∀ o : Obj, (w3.alloc o).cell? ⟨w.heap.size, 10, none⟩ = some (.slice A10 a.length c10) := fun o => (blk_cell (blk_alloc BM3.out o) 10).trans rfl
  have m11 : ∀ o : Obj, (w3.alloc o).cell? ⟨w.heap.size, 11, none⟩ = some (.slice A11 n.length c11) := fun o => (blk_cell (blk_alloc BM3.out o) 11).trans rfl
  have m12 : ∀ o : Obj, (w3.alloc o).cell? ⟨w.heap.size, 12, none⟩ = some (.slice A12 r.length c12) := fun o => (blk_cell (blk_alloc BM3.out o) 12).trans rfl
  simp only
  go_wp2_with fail
  refine (bail_Filter.calls k h0 h1 h2 h3 h4 h5 h6 h7 h8 A9 c9 q none 0 [] A11 c11 n A12 c12 r cut 0 false 0 false false false false 0 0 [] [] [] [] 1200 _ (Kd.C_alloc (Kd.C_alloc P9'.out _) _) L9.out (nil_C _ _) (Nat.le_refl _) (Kd.C_alloc (Kd.C_alloc P11'.out _) _) L11.out (Kd.C_alloc (Kd.C_alloc P12'.out _) _) L12.out F3.out).mono ?_
  rintro e w4 ⟨v9, v10, v11, v12, rfl, ho0, ho1, ho2, ho3, hb⟩
  obtain ⟨A39, c39, rfl, l39, r39⟩ := Kd.R_reads ho0
  have L39 := Aside0.mk l39
  have R39 := Aside0.mk r39
  clear l39 r39
  obtain ⟨A40, c40, rfl, l40, r40⟩ := Kd.R_reads ho1
  have L40 := Aside0.mk l40
  have R40 := Aside0.mk r40
  clear l40 r40
  obtain ⟨A41, c41, rfl, l41, r41⟩ := Kd.R_reads ho2
  have L41 := Aside0.mk l41
  have R41 := Aside0.mk r41
  clear l41 r41
  obtain ⟨A42, c42, rfl, l42, r42⟩ := Kd.R_reads ho3
  have L42 := Aside0.mk l42
  have R42 := Aside0.mk r42
  clear l42 r42
  clear ho0 ho1 ho2 ho3 m0 m1 m2 m3 m4 m5 m6 m7 m8 m9 m10 m11 m12
  have T4 := Aside0.mk (below_then (below_alloc (below_alloc T3.out _) _) (below_alloc (below_alloc T3.out _) _).size hb)
  have BM4 := Aside0.mk (blk_below (blk_alloc (blk_alloc BM3.out _) _) hb)
  have BA4 := Aside0.mk (blk_below (blk_alloc (blk_alloc BA3.out _) _) hb)
  have BB4 := Aside0.mk (blk_below (blk_alloc (blk_new w3 _) _) hb)
  have X19 := Aside0.mk (Kd.C_below (Kd.C_alloc (Kd.C_alloc R19'.out _) _) hb)
  have X20 := Aside0.mk (Kd.C_below (Kd.C_alloc (Kd.C_alloc R20'.out _) _) hb)
  have X21 := Aside0.mk (Kd.C_below (Kd.C_alloc (Kd.C_alloc R21'.out _) _) hb)
  have X22 := Aside0.mk (Kd.C_below (Kd.C_alloc (Kd.C_alloc R22'.out _) _) hb)
  have X29 := Aside0.mk (Kd.C_below (Kd.C_alloc (Kd.C_alloc R29.out _) _) hb)
  have X30 := Aside0.mk (Kd.C_below (Kd.C_alloc (Kd.C_alloc R30.out _) _) hb)
  have X31 := Aside0.mk (Kd.C_below (Kd.C_alloc (Kd.C_alloc R31.out _) _) hb)
  have X32 := Aside0.mk (Kd.C_below (Kd.C_alloc (Kd.C_alloc R32.out _) _) hb)
  clear hb R19' R20' R21' R22' R29 R30 R31 R32 P9' P11' P12' BM3 BA3 T3
  have aa9 : ∀ o : Obj, (w4.alloc o).cell? ⟨w2.heap.size, 9, none⟩ = some (.slice A19 0 c19) := fun o => (blk_cell (blk_alloc BA4.out o) 9).trans rfl
  have aa10 : ∀ o : Obj, (w4.alloc o).cell? ⟨w2.heap.size, 10, none⟩ = some (.slice A20 0 c20) := fun o => (blk_cell (blk_alloc BA4.out o) 10).trans rfl
  have aa11 : ∀ o : Obj, (w4.alloc o).cell? ⟨w2.heap.size, 11, none⟩ = some (.slice A21 0 c21) := fun o => (blk_cell (blk_alloc BA4.out o) 11).trans rfl
  have aa12 : ∀ o : Obj, (w4.alloc o).cell? ⟨w2.heap.size, 12, none⟩ = some (.slice A22 0 c22) := fun o => (blk_cell (blk_alloc BA4.out o) 12).trans rfl
  simp only
  go_wp2_with (first | (go_at_call 14; (refine (wimplelaw0_Num.calls 1200 1200 _ rfl).mono ?_); rintro e w' ⟨rfl, ⟨nd, rfl⟩⟩))
  go_ret
  exact ⟨rfl, by repeat (first | exact below_alloc T4.out _ | apply pw_below_drewN | apply below_drew1)⟩
end Go.Proofs.Ytimkafkiphfacaa.P
