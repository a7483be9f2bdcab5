/- wimplelaw19.awake. -/
import Derived.Test.YtojjkgnkdcekpaaHTab10
import Derived.Test.YtojjkgnkdcekpaaPx2
import Derived.Test.YtojjkgnkdcekpaaPx8
set_option linter.unusedVariables false
set_option linter.unusedSimpArgs false
namespace Go.Proofs.Ytojjkgnkdcekpaa.M
open Go Go.RowKit Go.ChangeMaps Go.Proofs.YtojjkgnkdcekpaaW.PrintWords Go.Proofs.YtojjkgnkdcekpaaW.PrintLast Go.Proofs.YtojjkgnkdcekpaaW.PrintMore Go.Proofs.Ytojjkgnkdcekpaa.P

attribute [local go_sem high] eqA35   -- for this text's walks alone
theorem drewN_cell {w : World} {a : Addr} {v : Value} (h : w.cell? a = some v) (n : Nat) : (w.drewN n).cell? a = some v := h
theorem below_dN {b : Nat} {w w' : World} (h : Below b w w') (n : Nat) : Below b w (w'.drewN n) := pw_below_drewN h n
theorem below_nx {w w' w2 : World} (h : Below w.heap.size w w') (hb : Below w'.heap.size w' w2) : Below w.heap.size w w2 := below_then h h.size hb
theorem below_nx' {w w' w2 : World} (hb : Below w'.heap.size w' w2) (h : Below w.heap.size w w') : Below w.heap.size w w2 := below_then h h.size hb
theorem isK_KA (addr id job i a u : Int) : isK (KA addr id) (akd job i a u) = (decide (a = addr) && decide (i = id)) := by
  rw [Bool.eq_iff_iff, isK_true, key_akd]
  simp only [Bool.and_eq_true, decide_eq_true_eq]
  unfold KA
  constructor
  · intro h; injection h with h1 h2; exact ⟨h1, h2⟩
  · rintro ⟨rfl, rfl⟩; rfl
theorem keyQ_b_ne (addr id job i a u : Int) : isK (keyQ addr id ⟨#[1, 98, 0]⟩ 1) (akd job i a u) = false := by
  rw [Bool.eq_false_iff]
  intro h
  have h := isK_true.1 h
  rw [key_akd] at h
  unfold KA keyQ at h
  rw [fold_b] at h
  injection h with _ _ h3 _
  exact absurd h3 (by decide)
theorem keyQ_b_good (addr id : Int) (h1 : -9223372036854775808 ≤ addr ∧ addr ≤ 9223372036854775807) (h2 : -9223372036854775808 ≤ id ∧ id ≤ 9223372036854775807) : (keyQ addr id ⟨#[1, 98, 0]⟩ 1).Good := by
  refine ⟨wf_small _ h1, wf_small _ h2, ?_, wf_small 1 (by omega)⟩
  show (mkB (fold (B ⟨#[1, 98, 0]⟩))).size ≤ maxLen
  rw [fold_b]
  decide
theorem key_good (job i a u : Int) (h1 : 0 ≤ i ∧ i ≤ 65535) (h2 : 0 ≤ a ∧ a ≤ 4294967295) : (keyA (akd job i a u)).Good := by rw [key_akd]; exact KA_good a i (by omega) (by omega)
theorem keyQ_A_good (addr id : Int) (h1 : -9223372036854775808 ≤ addr ∧ addr ≤ 9223372036854775807) (h2 : -9223372036854775808 ≤ id ∧ id ≤ 9223372036854775807) : (keyQ addr id ⟨#[1, 65, 0]⟩ 1).Good := by rw [keyQ_A]; exact KA_good _ _ h1 h2
set_option maxHeartbeats 4000000 in
set_option maxRecDepth 100000 in
theorem awake_calls (w : World) : Calls Try.prog 11 #[] w fun e w' => e = .returned (.bool true) ∧ Below w.heap.size w w' := by
  go_enter Try.func11, Try.ntmps11
  (try simp only [List.append_eq, List.cons_append, List.nil_append])
  go_wp2_with fail
  refine (newC w 2 (by omega) (fun _ => True) (fun _ _ => trivial)).mono ?_
  rintro e w1 ⟨⟨g, m, rfl, hT⟩, hb⟩
  have T1 := Aside0.mk hT
  have B1 := Aside0.mk hb
  clear hT hb
  simp only
  go_wp2_with fail
  refine (New_bad w1 0 (Or.inl (by omega))).mono ?_
  rintro e w2 ⟨rfl, hb⟩
  have T2 := Aside0.mk (T1.out.below hb)
  have B2 := Aside0.mk (below_nx B1.out hb)
  clear hb T1 B1
  simp only
  go_wp2_with fail
  refine (wimplelaw0_Num.calls 0 0 _ rfl).mono ?_
  rintro e w3 ⟨rfl, ⟨nd, rfl⟩⟩
  have T3 := Aside0.mk (T2.out.below (pw_below_drewN (Below.refl _ _) nd))
  have B3 := Aside0.mk (below_dN B2.out nd)
  clear T2 B2
  generalize w2.drewN nd = w3 at *
  simp only
  go_wp2_with fail
  refine (asked_calls 1 5 7 10 w3).mono ?_
  rintro e w4 ⟨rfl, hb⟩
  have T4 := Aside0.mk (T3.out.below hb)
  have B4 := Aside0.mk (below_nx B3.out hb)
  clear hb T3 B3
  simp only
  go_wp2_with fail
  refine (addC T4.out (akd 1 5 7 10) (akd_ok _ _ _ _ (by omega) (by omega)) (key_good _ _ _ _ (by omega) (by omega)) (by simp) (by simp) (by omega) (fun _ _ => trivial)).mono ?_
  rintro e w5 ⟨rfl, ⟨v5, hT⟩, hb, -⟩
  have T5 := Aside0.mk hT
  have B5 := Aside0.mk (B4.out.trans hb)
  clear hT hb T4 B4
  simp only
  go_wp2_with fail
  refine (asked_calls 2 6 7 9 w5).mono ?_
  rintro e w6 ⟨rfl, hb⟩
  have T6 := Aside0.mk (T5.out.below hb)
  have B6 := Aside0.mk (below_nx B5.out hb)
  clear hb T5 B5
  simp only
  go_wp2_with fail
  refine (addC T6.out (akd 2 6 7 9) (akd_ok _ _ _ _ (by omega) (by omega)) (key_good _ _ _ _ (by omega) (by omega)) (by simp) (by simp) (by omega) (fun _ _ => trivial)).mono ?_
  rintro e w7 ⟨rfl, ⟨v7, hT⟩, hb, -⟩
  have T7 := Aside0.mk hT
  have B7 := Aside0.mk (B6.out.trans hb)
  clear hT hb T6 B6
  simp only
  go_wp2_with fail
  refine (asked_calls 3 6 7 9 w7).mono ?_
  rintro e w8 ⟨rfl, hb⟩
  have T8 := Aside0.mk (T7.out.below hb)
  have B8 := Aside0.mk (below_nx B7.out hb)
  clear hb T7 B7
  simp only
  go_wp2_with fail
  refine (Add_full T8.out (akd 3 6 7 9) (akd_ok _ _ _ _ (by omega) (by omega)) (by simp)).mono ?_
  rintro e w9 ⟨rfl, hb⟩
  have T9 := Aside0.mk (T8.out.below hb)
  have B9 := Aside0.mk (below_nx B8.out hb)
  clear hb T8 B8
  simp only
  go_wp2_with fail
  refine (takeN T9.out 7 5 ⟨#[1, 98, 0]⟩ 1 1 (keyQ_b_good _ _ (by omega) (by omega)) (Or.inr (by intro x hx; simp at hx; rcases hx with rfl | rfl <;> exact keyQ_b_ne _ _ _ _ _ _))).mono ?_
  rintro e w10 ⟨rfl, hb⟩
  have T10 := Aside0.mk (T9.out.below hb)
  have B10 := Aside0.mk (below_nx B9.out hb)
  clear hb T9 B9
  unfold v35 z35 z33
  simp only
  go_wp2_with fail
  generalize hW : w10.alloc _ = W10
  have T11 : Aside0 (TabAt W10 w.heap.size (fun _ => True) g 2 ([] ++ [akd 1 5 7 10] ++ [akd 2 6 7 9]) (0 + 1 + 1) (cntA ([] ++ [akd 1 5 7 10] ++ [akd 2 6 7 9])) v7 m) := ⟨by rw [← hW]; exact T10.out.below (below_alloc (Below.refl _ _) _)⟩
  have B11 : Aside0 (Below w.heap.size w W10) := ⟨by rw [← hW]; exact below_alloc B10.out _⟩
  clear hW T10 B10
  refine (takeC T11.out (by omega) (by simp) (fun _ _ => trivial) 7 5 ⟨#[1, 65, 0]⟩ 1 (keyQ_A_good _ _ (by omega) (by omega)) 0 (by simp) (by rw [keyQ_A]; exact (isK_KA 7 5 1 5 7 10).trans (by decide)) (fun i hi => absurd hi (by omega))).mono ?_
  rintro e w12 ⟨rfl, ⟨v12, hT⟩, hb, -⟩
  have T12 : Aside0 (TabAt w12 w.heap.size (fun _ => True) g 2 [akd 2 6 7 9] 3 (cntA [akd 2 6 7 9]) v12 m) := ⟨hT⟩
  have B12 := Aside0.mk (B11.out.trans hb)
  clear hT hb T11 B11
  unfold v35 akd
  simp only
  go_wp2_with fail
  generalize hW : w12.alloc _ = W13
  obtain ⟨xb, hxb⟩ : ∃ xb, w12.heap.size = xb := ⟨_, rfl⟩
  have T13 : Aside0 (TabAt W13 w.heap.size (fun k => k ≠ xb) g 2 [akd 2 6 7 9] 3 (cntA [akd 2 6 7 9]) v12 m) := ⟨by rw [← hW]; exact (T12.out.bound.below (below_alloc (Below.refl _ _) _)).mono (fun k hk => by have := hk.2; omega)⟩
  have X13 : Aside0 (W13.heap[xb]? = some (.cells #[.int .i64 1, .int .i64 5, .int .i64 7, .string ⟨#[0]⟩, .string ⟨#[1, 97, 0]⟩, .string ⟨#[1, 97, 0]⟩, .int .i64 1, .int .i64 10] 35 (0, 0))) := ⟨by rw [← hW, ← hxb]; exact blk_new w12 _⟩
  have B13 : Aside0 (Below w.heap.size w W13) := ⟨by rw [← hW]; exact below_alloc B12.out _⟩
  have S13 : Aside0 (xb < W13.heap.size) := ⟨blk_lt X13.out⟩
  rw [hxb]
  clear hW T12 B12 hxb
  refine (dueC T13.out (by omega) (by simp) (fun k hk => by have := S13.out; omega) (by intro x hx; simp at hx; subst hx; exact key_good _ _ _ _ (by omega) (by omega)) 9).mono ?_
  rintro e w14 ⟨uo, v14, rfl, hr, hT, hb, hk⟩
  rw [show ([akd 2 6 7 9] : List S35).filter (isDue 9) = [akd 2 6 7 9] from rfl] at hr
  rw [show ([akd 2 6 7 9] : List S35).filter (notDue 9) = [] from rfl] at hT
  have T14 := Aside0.mk hT
  have B14 := Aside0.mk (B13.out.trans hb)
  have X14 := Aside0.mk (blk_kept X13.out hk (fun h => h rfl))
  obtain ⟨q, c, eu, _⟩ := Kd.R_form hr (by simp)
  obtain ⟨cs, hcl, hM, hcc, _⟩ := Kd.R_elem (by rw [eu] at hr; exact hr) z35 0 (by omega) (by simp)
  obtain rfl := k35_openM hM
  have cq : w14.cell? ⟨q, 0, none⟩ = some (.int .i64 2) := hcc 0 _ rfl
  subst eu
  have hAll : ∀ W, Below w14.heap.size w14 W → Calls Try.prog 20 #[.pointer (some ⟨g, 0, none⟩)] W fun e w' => (∃ A c, e = .returned (.slice A 0 c)) ∧ Below W.heap.size W w' := fun W hW => by
    refine (All_calls (T14.out.below hW) (by simp)).mono ?_
    rintro e w' ⟨u, rfl, hu, hb⟩
    obtain ⟨A, c, rfl⟩ := Kd.R_slice hu
    exact ⟨⟨A, c, rfl⟩, hb⟩
  have hA : ∀ W, Calls Try.prog 22 #[.int .i64 1, .int .i64 5, .int .i64 7, .int .i64 10] W fun e w' => e = .returned (.agg #[.int .i64 1, .int .i64 5, .int .i64 7, .string ⟨#[0]⟩, .string ⟨#[1, 97, 0]⟩, .string ⟨#[1, 97, 0]⟩, .int .i64 1, .int .i64 10]) ∧ Below W.heap.size W w' := fun W => asked_calls 1 5 7 10 W
  have hAll := Aside0.mk hAll
  have hA := Aside0.mk hA
  have x0 : ∀ W, Below w14.heap.size w14 W → W.cell? ⟨xb, 0, none⟩ = some (.int .i64 1) := fun W h => pw_cell_below h ((blk_cell X14.out 0).trans rfl)
  have x1 : ∀ W, Below w14.heap.size w14 W → W.cell? ⟨xb, 1, none⟩ = some (.int .i64 5) := fun W h => pw_cell_below h ((blk_cell X14.out 1).trans rfl)
  have x2 : ∀ W, Below w14.heap.size w14 W → W.cell? ⟨xb, 2, none⟩ = some (.int .i64 7) := fun W h => pw_cell_below h ((blk_cell X14.out 2).trans rfl)
  have x3 : ∀ W, Below w14.heap.size w14 W → W.cell? ⟨xb, 3, none⟩ = some (.string ⟨#[0]⟩) := fun W h => pw_cell_below h ((blk_cell X14.out 3).trans rfl)
  have x4 : ∀ W, Below w14.heap.size w14 W → W.cell? ⟨xb, 4, none⟩ = some (.string ⟨#[1, 97, 0]⟩) := fun W h => pw_cell_below h ((blk_cell X14.out 4).trans rfl)
  have x5 : ∀ W, Below w14.heap.size w14 W → W.cell? ⟨xb, 5, none⟩ = some (.string ⟨#[1, 97, 0]⟩) := fun W h => pw_cell_below h ((blk_cell X14.out 5).trans rfl)
  have x6 : ∀ W, Below w14.heap.size w14 W → W.cell? ⟨xb, 6, none⟩ = some (.int .i64 1) := fun W h => pw_cell_below h ((blk_cell X14.out 6).trans rfl)
  have x7 : ∀ W, Below w14.heap.size w14 W → W.cell? ⟨xb, 7, none⟩ = some (.int .i64 10) := fun W h => pw_cell_below h ((blk_cell X14.out 7).trans rfl)
  have cqq : ∀ W, Below w14.heap.size w14 W → W.cell? ⟨q, 0, none⟩ = some (.int .i64 2) := fun W h => pw_cell_below h cq
  have BR : Below w14.heap.size w14 w14 := Below.refl _ _
  have BD : Below w14.heap.size w14 w14.drew := below_drew (Below.refl _ _)
  clear hT hr hb hk hcl hM hcc T13 X13 B13
  simp only
  go_wp2_with fail
  clear cq
  go_region_held3 (fun w' => Below w14.heap.size w14 w')
    (first
      | with_reducible exact BD
      | with_reducible assumption
      | (with_reducible refine below_dN ?_ _; with_reducible assumption))
    (first
      | (go_at_call 10; refine (wimplelaw0_Num.calls _ _ _ rfl).mono ?_; rintro e wN ⟨rfl, ⟨nN, rfl⟩⟩)
      | (go_at_call 22; refine (hA.out _).mono ?_; rintro e w15 ⟨rfl, hb⟩; have HS := below_nx' (w := w14) hb (by with_reducible assumption); clear hb)
      | (go_at_call 20; refine (hAll.out _ (by with_reducible assumption)).mono ?_; rintro e w16 ⟨⟨A16, c16, rfl⟩, hb⟩; have HS16 := below_nx' (w := w14) hb (by with_reducible assumption); clear hb))
  all_goals
    (try simp only [Exit.then])
    go_wp2_with fail
    go_ret
    exact ⟨rfl, below_nx B14.out HS16⟩
end Go.Proofs.Ytojjkgnkdcekpaa.M
