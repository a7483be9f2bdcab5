/- Strips. -/
import Derived.Test.YtjmdfhbenejfgaaHEcs5
set_option linter.unusedVariables false
set_option linter.unusedSimpArgs false
namespace Go.Proofs.Ytjmdfhbenejfgaa.M
open Go Go.RowKit Go.Proofs.YtjmdfhbenejfgaaW.PrintWords Go.Proofs.YtjmdfhbenejfgaaW.PrintLast Go.Proofs.YtjmdfhbenejfgaaW.PrintMore Go.Proofs.Ytjmdfhbenejfgaa.P
attribute [local go_sem high] eqA52

theorem aside_then {w w1 w2 : World} (h : Aside0 (Below w.heap.size w w1)) (k : Below w1.heap.size w1 w2) : Aside0 (Below w.heap.size w w2) := ⟨below_then h.out h.out.size k⟩
theorem aside_drew {w w1 : World} (h : Aside0 (Below w.heap.size w w1)) : Aside0 (Below w.heap.size w w1.drew) := ⟨below_drew h.out⟩
theorem drew_cell {w : World} {a : Addr} {v : Value} (h : w.cell? a = some v) : w.drew.cell? a = some v := h
theorem C_elder {w0 w w' : World} {A : Option Addr} {n : Nat} {xs : List S52} (h : Kd.C k52 w0 A n xs) (hb : Below w0.heap.size w0 w') : Kd.C k52 w' A n xs := Kd.C_below h hb

set_option maxHeartbeats 8000000 in
set_option maxRecDepth 100000 in
theorem strips_walk (w : World) (f0 f1 f2 : Int) (f3 : Bool) (f4 : Int) (A : Option Addr) (c : Nat) (xs : List S52) (h : Kd.C k52 w A xs.length xs) (hc : xs.length ≤ c) (hl : xs.length < 5864062014800) : Calls Try.prog 6 #[.agg #[.int .i64 f0, .int .i64 f1, .int .i64 f2, .bool f3, .int .i64 f4, .slice A xs.length c]] w fun e w' => e = .returned (.bool true) ∧ Below w.heap.size w w' := by
  have HZ := Aside0.mk h
  clear h
  go_enter Try.func6, Try.ntmps6
  go_wp2_with fail
  generalize hW : (w.alloc _).alloc _ = W
  have TW : Aside0 (Below w.heap.size w W) := ⟨by rw [← hW]; exact below_alloc (below_alloc (Below.refl w.heap.size w) _) _⟩
  have WS : Aside0 (W.heap.size = w.heap.size + 2) := ⟨by rw [← hW]; simp⟩
  have b1 : W.heap[w.heap.size]? = some (.cells #[.int .i64 f0, .int .i64 f1, .int .i64 f2, .bool f3, .int .i64 f4, .slice A xs.length c] 44 (0, 0)) := by rw [← hW]; exact blk_below (blk_new w _) (below_alloc (Below.refl _ _) _)
  have b2 : W.heap[w.heap.size + 1]? = some (.cells #[.int .i64 f0, .int .i64 f1, .int .i64 f2, .bool f3, .int .i64 f4, .slice A xs.length c] 44 (0, 0)) := by rw [← hW]; have h2 := blk_new (w.alloc (.cells #[.int .i64 f0, .int .i64 f1, .int .i64 f2, .bool f3, .int .i64 f4, .slice A xs.length c] 44)) (.cells #[.int .i64 f0, .int .i64 f1, .int .i64 f2, .bool f3, .int .i64 f4, .slice A xs.length c] 44); rwa [World.size_alloc] at h2
  have B1 := Aside0.mk b1
  have B2 := Aside0.mk b2
  clear hW b1 b2
  refine (LendO_post A c xs W (Kd.C_below HZ.out TW.out) hc hl).mono ?_
  rintro e w1 ⟨g, cl, rfl, hg, hcl, hR, hb⟩
  have hws := WS.out
  have d1 := blk_below B1.out hb
  have d2 := blk_below B2.out hb
  have D1 := Aside0.mk d1
  have D2 := Aside0.mk d2
  have RG := Aside0.mk hR
  have HG : Aside0 (w.heap.size + 2 ≤ g) := ⟨by omega⟩
  have T1 := Aside0.mk (below_then TW.out TW.out.size hb)
  have WS1 : Aside0 (w.heap.size + 2 ≤ w1.heap.size) := ⟨by have := hb.size; omega⟩
  have c25 : w1.cell? ⟨w.heap.size + 1, 5, none⟩ = some (.slice A xs.length c) := (blk_cell d2 5).trans rfl
  have e25 : w1.frozen? ⟨w.heap.size + 1, 5, none⟩ = false := blk_frozen d2 5

  have c20 : w1.cell? ⟨w.heap.size + 1, 0, none⟩ = some (.int .i64 f0) := (blk_cell d2 0).trans rfl
  have c21 : w1.cell? ⟨w.heap.size + 1, 1, none⟩ = some (.int .i64 f1) := (blk_cell d2 1).trans rfl
  have c22 : w1.cell? ⟨w.heap.size + 1, 2, none⟩ = some (.int .i64 f2) := (blk_cell d2 2).trans rfl
  have c23 : w1.cell? ⟨w.heap.size + 1, 3, none⟩ = some (.bool f3) := (blk_cell d2 3).trans rfl
  have c24 : w1.cell? ⟨w.heap.size + 1, 4, none⟩ = some (.int .i64 f4) := (blk_cell d2 4).trans rfl
  clear hb hR d1 d2 B1 B2 TW hg
  simp only
  go_wp2_with fail
  generalize hX : w1.setCell _ _ = X
  have x1 : X.heap[w.heap.size]? = some (.cells #[.int .i64 f0, .int .i64 f1, .int .i64 f2, .bool f3, .int .i64 f4, .slice A xs.length c] 44 (0, 0)) := by rw [← hX]; exact blk_far D1.out (by show w.heap.size ≠ w.heap.size + 1; omega) _
  have x2 : X.heap[w.heap.size + 1]? = some (.cells #[.int .i64 f0, .int .i64 f1, .int .i64 f2, .bool f3, .int .i64 f4, .slice (some ⟨g, 0, none⟩) xs.length cl] 44 (0, 0)) := by rw [← hX]; exact blk_put D2.out 5 _ rfl
  have TX : Aside0 (Below w.heap.size w X) := ⟨by rw [← hX]; exact below_set T1.out (by show w.heap.size ≤ w.heap.size + 1; omega)⟩
  have SX : Aside0 (w.heap.size + 2 ≤ X.heap.size) := ⟨by rw [← hX]; simp [World.setCell]; exact WS1.out⟩
  have RX : Aside0 (RowB X g (xs ++ [mark, mark])) := ⟨by rw [← hX]; exact RowB_same RG.out (Below.heap_setCell w1 ⟨w.heap.size + 1, 5, none⟩ _ g (by show g ≠ w.heap.size + 1; have := HG.out; omega))⟩
  have ZX := Aside0.mk (Kd.C_below HZ.out TX.out)
  have X1 := Aside0.mk x1
  have X2 := Aside0.mk x2
  clear hX D1 D2 T1 RG c20 c21 c22 c23 c24 c25 e25
  have hCl : Kd.C k52 X (some ⟨g, 0, none⟩) xs.length xs := C_short (RowB_C RX.out (by simp; omega))
  refine (Strip_calls X f0 f1 f2 f3 f4 (some ⟨g, 0, none⟩) cl xs hCl (by omega)).mono ?_
  rintro e w2 ⟨v, rfl, ho, hb⟩
  obtain ⟨A2, c2, rfl, hl2, hC2⟩ := OwnR_C ho
  have y1 := blk_below X1.out hb
  have c10 : ∀ o, (w2.alloc o).cell? ⟨w.heap.size, 0, none⟩ = some (.int .i64 f0) := fun o => (blk_cell (blk_below y1 (below_alloc (Below.refl _ _) o)) 0).trans rfl
  have c11 : ∀ o, (w2.alloc o).cell? ⟨w.heap.size, 1, none⟩ = some (.int .i64 f1) := fun o => (blk_cell (blk_below y1 (below_alloc (Below.refl _ _) o)) 1).trans rfl
  have c12 : ∀ o, (w2.alloc o).cell? ⟨w.heap.size, 2, none⟩ = some (.int .i64 f2) := fun o => (blk_cell (blk_below y1 (below_alloc (Below.refl _ _) o)) 2).trans rfl
  have c13 : ∀ o, (w2.alloc o).cell? ⟨w.heap.size, 3, none⟩ = some (.bool f3) := fun o => (blk_cell (blk_below y1 (below_alloc (Below.refl _ _) o)) 3).trans rfl
  have c14 : ∀ o, (w2.alloc o).cell? ⟨w.heap.size, 4, none⟩ = some (.int .i64 f4) := fun o => (blk_cell (blk_below y1 (below_alloc (Below.refl _ _) o)) 4).trans rfl
  have c15 : ∀ o, (w2.alloc o).cell? ⟨w.heap.size, 5, none⟩ = some (.slice A xs.length c) := fun o => (blk_cell (blk_below y1 (below_alloc (Below.refl _ _) o)) 5).trans rfl
  have HB2 := Aside0.mk hb
  have HO2 := Aside0.mk ho
  clear hb ho hC2 y1 hCl
  simp only
  go_wp2_with fail
  generalize hY : w2.alloc _ = Y
  have EY : Aside0 (Below X.heap.size X Y) := ⟨by rw [← hY]; exact below_then HB2.out HB2.out.size (below_alloc (Below.refl _ _) _)⟩
  have q1 : Y.heap[w2.heap.size]? = some (.cells #[.int .i64 f0, .int .i64 f1, .int .i64 f2, .bool f3, .int .i64 f4, .slice A2 (xs.filter notE).length c2] 44 (0, 0)) := by rw [← hY]; exact blk_new w2 _
  have OY : Aside0 (OwnR Y X.heap.size (.slice A2 (xs.filter notE).length c2) (xs.filter notE)) := ⟨by rw [← hY]; exact OwnR_move HO2.out (fun k _ hk => (below_alloc (Below.refl _ _) _).block k hk)⟩
  have LY : Aside0 (w2.heap.size < Y.heap.size ∧ w.heap.size + 2 ≤ w2.heap.size) := ⟨by rw [← hY]; simp, by have := HB2.out.size; have := SX.out; omega⟩
  have Q1 := Aside0.mk q1
  clear hY q1 HB2 HO2 c10 c11 c12 c13 c14 c15
  refine (wimpleref4_Strip.calls (xs.length + 1) f0 f1 f2 f3 f4 A c xs f0 f1 f2 f3 f4 (xs.filter notE) Y (Kd.C_below ZX.out EY.out) hc (refStrip_f f0 f1 f2 f3 f4 xs hl)).mono ?_
  rintro e w3 ⟨v, rfl, hr, hb⟩
  obtain ⟨A3, c3, rfl, hl3, hC3⟩ := Kd.R_reads hr
  have HB3 := Aside0.mk hb
  have CC3 := Aside0.mk hC3
  clear hb hr hC3
  simp only
  go_wp2_with fail
  generalize hV : w3.alloc _ = V
  have EV : Aside0 (Below Y.heap.size Y V) := ⟨by rw [← hV]; exact below_then HB3.out HB3.out.size (below_alloc (Below.refl _ _) _)⟩
  have q2 : V.heap[w3.heap.size]? = some (.cells #[.int .i64 f0, .int .i64 f1, .int .i64 f2, .bool f3, .int .i64 f4, .slice A3 (xs.filter notE).length c3] 44 (0, 0)) := by rw [← hV]; exact blk_new w3 _
  have CV3 : Aside0 (Kd.C k52 V A3 (xs.filter notE).length (xs.filter notE)) := ⟨by rw [← hV]; exact Kd.C_alloc CC3.out _⟩
  have q1 := blk_below Q1.out EV.out
  have r1 := blk_below (blk_below X1.out EY.out) EV.out
  have r2 := blk_below (blk_below X2.out EY.out) EV.out
  have OV : Aside0 (OwnR V X.heap.size (.slice A2 (xs.filter notE).length c2) (xs.filter notE)) := ⟨OwnR_move OY.out (fun k _ hk => EV.out.block k hk)⟩
  have CV2 : Aside0 (Kd.C k52 V A2 (xs.filter notE).length (xs.filter notE)) := ⟨by obtain ⟨A', c', he, _, hC⟩ := OwnR_C OV.out; injection he with h1 h2 h3; subst h1 h3; exact hC⟩
  have EXV : Aside0 (Below X.heap.size X V) := ⟨below_then EY.out EY.out.size EV.out⟩
  have RV := Aside0.mk (RowB_keep RX.out EXV.out)
  have ZV := Aside0.mk (Kd.C_below ZX.out EXV.out)
  have hRl : Kd.C k52 V (some ⟨g, 0, none⟩) xs.length xs := C_short (RowB_C RV.out (by simp; omega))
  have CL := Aside0.mk hRl

  have c10 : V.cell? ⟨w.heap.size, 0, none⟩ = some (.int .i64 f0) := (blk_cell r1 0).trans rfl
  have c11 : V.cell? ⟨w.heap.size, 1, none⟩ = some (.int .i64 f1) := (blk_cell r1 1).trans rfl
  have c12 : V.cell? ⟨w.heap.size, 2, none⟩ = some (.int .i64 f2) := (blk_cell r1 2).trans rfl
  have c13 : V.cell? ⟨w.heap.size, 3, none⟩ = some (.bool f3) := (blk_cell r1 3).trans rfl
  have c14 : V.cell? ⟨w.heap.size, 4, none⟩ = some (.int .i64 f4) := (blk_cell r1 4).trans rfl
  have c15 : V.cell? ⟨w.heap.size, 5, none⟩ = some (.slice A xs.length c) := (blk_cell r1 5).trans rfl
  have c20 : V.cell? ⟨w.heap.size + 1, 0, none⟩ = some (.int .i64 f0) := (blk_cell r2 0).trans rfl
  have c21 : V.cell? ⟨w.heap.size + 1, 1, none⟩ = some (.int .i64 f1) := (blk_cell r2 1).trans rfl
  have c22 : V.cell? ⟨w.heap.size + 1, 2, none⟩ = some (.int .i64 f2) := (blk_cell r2 2).trans rfl
  have c23 : V.cell? ⟨w.heap.size + 1, 3, none⟩ = some (.bool f3) := (blk_cell r2 3).trans rfl
  have c24 : V.cell? ⟨w.heap.size + 1, 4, none⟩ = some (.int .i64 f4) := (blk_cell r2 4).trans rfl
  have c25 : V.cell? ⟨w.heap.size + 1, 5, none⟩ = some (.slice (some ⟨g, 0, none⟩) xs.length cl) := (blk_cell r2 5).trans rfl
  have c30 : V.cell? ⟨w2.heap.size, 0, none⟩ = some (.int .i64 f0) := (blk_cell q1 0).trans rfl
  have c31 : V.cell? ⟨w2.heap.size, 1, none⟩ = some (.int .i64 f1) := (blk_cell q1 1).trans rfl
  have c32 : V.cell? ⟨w2.heap.size, 2, none⟩ = some (.int .i64 f2) := (blk_cell q1 2).trans rfl
  have c33 : V.cell? ⟨w2.heap.size, 3, none⟩ = some (.bool f3) := (blk_cell q1 3).trans rfl
  have c34 : V.cell? ⟨w2.heap.size, 4, none⟩ = some (.int .i64 f4) := (blk_cell q1 4).trans rfl
  have c35 : V.cell? ⟨w2.heap.size, 5, none⟩ = some (.slice A2 (xs.filter notE).length c2) := (blk_cell q1 5).trans rfl
  have c40 : V.cell? ⟨w3.heap.size, 0, none⟩ = some (.int .i64 f0) := (blk_cell q2 0).trans rfl
  have c41 : V.cell? ⟨w3.heap.size, 1, none⟩ = some (.int .i64 f1) := (blk_cell q2 1).trans rfl
  have c42 : V.cell? ⟨w3.heap.size, 2, none⟩ = some (.int .i64 f2) := (blk_cell q2 2).trans rfl
  have c43 : V.cell? ⟨w3.heap.size, 3, none⟩ = some (.bool f3) := (blk_cell q2 3).trans rfl
  have c44 : V.cell? ⟨w3.heap.size, 4, none⟩ = some (.int .i64 f4) := (blk_cell q2 4).trans rfl
  have c45 : V.cell? ⟨w3.heap.size, 5, none⟩ = some (.slice A3 (xs.filter notE).length c3) := (blk_cell q2 5).trans rfl
  have BV := Aside0.mk (Below.refl V.heap.size V)
  have D1 := Aside0.mk r1
  have D2 := Aside0.mk r2
  have Q1' := Aside0.mk q1
  have Q2 := Aside0.mk q2
  clear hV q1 q2 r1 r2 hRl HB3 CC3 Q1
  have hless : decide (((xs.filter notE).length : Int) < (xs.length : Int)) = xs.any isE := (has_less xs).symm
  have hless2 : decide ((xs.filter notE).length < xs.length) = xs.any isE := by rw [← hless]; simp
  have hlen : (xs.filter notE).length ≤ xs.length := List.length_filter_le _ _
  have hnone : (xs.filter notE).any isE = false := strip_none xs
  generalize xs.filter notE = ys at *
  rcases hany : xs.any isE with _ | _ <;> rw [hany] at hless hless2 <;> go_region_held3 (fun w' => w'.cell? ⟨w.heap.size, 5, none⟩ = some (.slice A xs.length c) ∧ w'.cell? ⟨w.heap.size + 1, 0, none⟩ = some (.int .i64 f0) ∧ w'.cell? ⟨w.heap.size + 1, 1, none⟩ = some (.int .i64 f1) ∧ w'.cell? ⟨w.heap.size + 1, 2, none⟩ = some (.int .i64 f2) ∧ w'.cell? ⟨w.heap.size + 1, 3, none⟩ = some (.bool f3) ∧ w'.cell? ⟨w.heap.size + 1, 4, none⟩ = some (.int .i64 f4) ∧ w'.cell? ⟨w.heap.size + 1, 5, none⟩ = some (.slice (some ⟨g, 0, none⟩) xs.length cl) ∧ w'.cell? ⟨w2.heap.size, 0, none⟩ = some (.int .i64 f0) ∧ w'.cell? ⟨w2.heap.size, 1, none⟩ = some (.int .i64 f1) ∧ w'.cell? ⟨w2.heap.size, 2, none⟩ = some (.int .i64 f2) ∧ w'.cell? ⟨w2.heap.size, 3, none⟩ = some (.bool f3) ∧ w'.cell? ⟨w2.heap.size, 4, none⟩ = some (.int .i64 f4) ∧ w'.cell? ⟨w2.heap.size, 5, none⟩ = some (.slice A2 ys.length c2) ∧ w'.cell? ⟨w3.heap.size, 0, none⟩ = some (.int .i64 f0) ∧ w'.cell? ⟨w3.heap.size, 1, none⟩ = some (.int .i64 f1) ∧ w'.cell? ⟨w3.heap.size, 2, none⟩ = some (.int .i64 f2) ∧ w'.cell? ⟨w3.heap.size, 3, none⟩ = some (.bool f3) ∧ w'.cell? ⟨w3.heap.size, 4, none⟩ = some (.int .i64 f4) ∧ w'.cell? ⟨w3.heap.size, 5, none⟩ = some (.slice A3 ys.length c3) ∧ Aside0 (Below V.heap.size V w'))
    (first
      | ((try dsimp only); (repeat' apply And.intro) <;> (first | exact drew_cell (by assumption) | exact aside_drew (by assumption)))
      | ((try dsimp only at *); go_split_ands; (repeat' apply And.intro) <;> (first | exact pw_cell_below hb (by assumption) | exact aside_then (by assumption) hb)))
    (first
      | (go_at_call 31; refine (wimplelaw0_SameOpt.calls (ys.length + 1) f0 f1 f2 f3 f4 A2 c2 ys f0 f1 f2 f3 f4 A3 c3 ys true _ (Kd.C_below CV2.out (Aside0.out (by (try dsimp only at *); go_split_ands; assumption))) hl2 (Kd.C_below CV3.out (Aside0.out (by (try dsimp only at *); go_split_ands; assumption))) hl3 (sameOpt_self _ _ _ _ _ _ (by omega))).mono ?_; rintro e w7 ⟨rfl, hb⟩)
      | (go_at_call 32; refine (KeptOptions_true _ g cl c A xs hl (RowB_keep RV.out (Aside0.out (by (try dsimp only at *); go_split_ands; assumption))) hcl (Kd.C_below ZV.out (Aside0.out (by (try dsimp only at *); go_split_ands; assumption))) hc).mono ?_; rintro e w7 ⟨rfl, hd⟩; have hb := hd.below)
      | (go_at_call 33; refine (Has_calls _ f0 f1 f2 f3 f4 (some ⟨g, 0, none⟩) cl xs (Kd.C_below CL.out (Aside0.out (by (try dsimp only at *); go_split_ands; assumption))) (by omega)).mono ?_; rintro e w7 ⟨rfl, hb⟩; rw [hany])
      | (go_at_call 33; refine (Has_calls _ f0 f1 f2 f3 f4 A2 c2 ys (Kd.C_below CV2.out (Aside0.out (by (try dsimp only at *); go_split_ands; assumption))) hl2).mono ?_; rintro e w7 ⟨rfl, hb⟩; rw [hnone]))
  all_goals
    have BH : Aside0 (Below V.heap.size V w7) := by (try dsimp only at *); go_split_ands; assumption
    have u3 := blk_below Q1'.out BH.out
    have v35 : w7.cell? ⟨w2.heap.size, 5, none⟩ = some (.slice A2 ys.length c2) := (blk_cell u3 5).trans rfl
    have O7 : OwnR w7 X.heap.size (.slice A2 ys.length c2) ys := OwnR_move OV.out (fun k _ hk => BH.out.block k hk)
    have E7 : Aside0 (Below X.heap.size X w7) := ⟨below_then EXV.out EXV.out.size BH.out⟩
    have O7' := Aside0.mk O7
    clear u3 O7 BH c15 c20 c21 c22 c23 c24 c25 c30 c31 c32 c33 c34 c35 c40 c41 c42 c43 c44 c45 hless hless2
    simp only [Exit.then]
    go_wp2_with fail
    refine (SpoilO_own w7 X.heap.size _ ys (by omega) O7'.out E7.out.size).mono ?_
    rintro e w8 ⟨rfl, hb8⟩
    have E8 : Aside0 (Below X.heap.size X w8) := ⟨E7.out.trans hb8⟩
    have u1 := blk_below X1.out E8.out
    have u2 := blk_below X2.out E8.out
    have v15 : w8.cell? ⟨w.heap.size, 5, none⟩ = some (.slice A xs.length c) := (blk_cell u1 5).trans rfl
    have v25 : w8.cell? ⟨w.heap.size + 1, 5, none⟩ = some (.slice (some ⟨g, 0, none⟩) xs.length cl) := (blk_cell u2 5).trans rfl
    clear hb8 u1 u2 v35
    simp only
    go_wp2_with fail
    refine (KeptOptions_true w8 g cl c A xs hl (RowB_keep RX.out E8.out) hcl (Kd.C_below ZX.out E8.out) hc).mono ?_
    rintro e w9 ⟨rfl, hd9⟩
    have E9 : Aside0 (Below w.heap.size w w9) := ⟨below_then (below_then TX.out TX.out.size E8.out) (Nat.le_trans TX.out.size E8.out.size) hd9.below⟩
    clear hd9 v15 v25
    simp only
    go_wp2_with fail
    refine (awake9_walk w9).mono ?_
    rintro e w10 ⟨rfl, hb10⟩
    have E10 := Aside0.mk (below_then E9.out E9.out.size hb10)
    clear hb10
    simp only
    go_wp2_with fail
    go_ret
    exact ⟨rfl, E10.out⟩
end Go.Proofs.Ytjmdfhbenejfgaa.M
