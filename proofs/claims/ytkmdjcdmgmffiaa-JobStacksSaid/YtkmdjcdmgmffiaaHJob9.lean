/- wimplelaw23.awake. -/
import Derived.Test.YtkmdjcdmgmffiaaHJob8
import Derived.Test.YtkmdjcdmgmffiaaPx7
set_option linter.unusedVariables false
set_option linter.unusedSimpArgs false
namespace Go.Proofs.Ytkmdjcdmgmffiaa.M
open Go Go.RowKit Go.ChangeMaps Go.Proofs.YtkmdjcdmgmffiaaW.PrintWords Go.Proofs.YtkmdjcdmgmffiaaW.PrintLast Go.Proofs.YtkmdjcdmgmffiaaW.PrintMore Go.Proofs.Ytkmdjcdmgmffiaa.P

/-- job.New of Plain (three numbers changed), for a task that may be. -/
theorem new_plain {W0 : World} {base : Nat} {ok : Nat → Prop} {v0 v10 : Value} (R43 : Kd.R k43 43 W0 base ok v0 [⟨⟨#[1, 114, 0]⟩, 1⟩]) (R10 : Kd.R (Kd.int .i64) 3 W0 base ok v10 [1, 2, 3]) (W : World) (hb : Below W0.heap.size W0 W) (x3 x4 x5 id t : Int) (n : ByteArray) (x : T34) (h3 : 1 ≤ x3 ∧ x3 ≤ 64) (h4 : 0 ≤ x4 ∧ x4 ≤ 4) (h5 : 0 ≤ x5 ∧ x5 ≤ 8) (hid : 1 ≤ id) (S : Nat → Prop) (hS : ∀ k, W.heap.size ≤ k → S k) (ht : task_New.f 40 n t ⟨#[0]⟩ = some (x.f0, x.f1, x.f2, x.f3, x.f4, x.f5, x.f6, x.f7, 0)) :
    Calls Try.prog 9 #[cfg v0 20 4 x3 x4 x5 5 2 10 4 v10, .int .i64 id, .string n, .int .i64 t] W fun e w' => (∃ g v m, e = .returned (.tuple #[.pointer (some ⟨g, 0, none⟩), .int .i64 0]) ∧ JobAt w' W.heap.size S g id [x] x4 x5 x3 0 [] v m) ∧ Below W.heap.size W w' := by
  obtain ⟨A, c, A10, c10, rfl, rfl, hM⟩ := may_one ⟨#[1, 114, 0]⟩ 1 R43 R10 20 4 x3 x4 x5 5 2 10 4 true true true true true true true true true true rfl (in_eq _ _ _ _ rfl) (in_eq _ _ _ _ rfl) (in_eq _ _ _ _ (decide_eq_true h3)) (in_eq _ _ _ _ (decide_eq_true h4)) (in_eq _ _ _ _ (decide_eq_true h5)) (in_eq _ _ _ _ rfl) (in_eq _ _ _ _ rfl) (in_eq _ _ _ _ rfl) (in_eq _ _ _ _ rfl) true true may_r rfl _ fold_r
  exact New_good W A A10 1 c 3 c10 20 4 x3 x4 x5 5 2 10 4 id t 0 n x.f0 x.f1 x.f2 x.f3 x.f4 x.f5 x.f6 x.f7 40 true ht (fun W' h' => hM W' (below_then hb hb.size h')) S hS ⟨rfl, hid, rfl⟩
/-- It may not be where the task may not, or the number. -/
theorem new_plain_bad {W0 : World} {base : Nat} {ok : Nat → Prop} {v0 v10 : Value} (R43 : Kd.R k43 43 W0 base ok v0 [⟨⟨#[1, 114, 0]⟩, 1⟩]) (R10 : Kd.R (Kd.int .i64) 3 W0 base ok v10 [1, 2, 3]) (W : World) (hb : Below W0.heap.size W0 W) (id t : Int) (n : ByteArray) (x : T34) (et : Int) (ht : task_New.f 40 n t ⟨#[0]⟩ = some (x.f0, x.f1, x.f2, x.f3, x.f4, x.f5, x.f6, x.f7, et)) (hbad : id < 1 ∨ et ≠ 0) :
    Calls Try.prog 9 #[cfg v0 20 4 20 2 3 5 2 10 4 v10, .int .i64 id, .string n, .int .i64 t] W fun e w' => e = .returned (.tuple #[.pointer none, .int .i64 2300]) ∧ Below W.heap.size W w' := by
  obtain ⟨A, c, A10, c10, rfl, rfl, hM⟩ := may_one ⟨#[1, 114, 0]⟩ 1 R43 R10 20 4 20 2 3 5 2 10 4 true true true true true true true true true true rfl (in_eq _ _ _ _ rfl) (in_eq _ _ _ _ rfl) (in_eq _ _ _ _ rfl) (in_eq _ _ _ _ rfl) (in_eq _ _ _ _ rfl) (in_eq _ _ _ _ rfl) (in_eq _ _ _ _ rfl) (in_eq _ _ _ _ rfl) (in_eq _ _ _ _ rfl) true true may_r rfl _ fold_r
  exact New_bad W A A10 1 c 3 c10 20 4 20 2 3 5 2 10 4 id t et n x.f0 x.f1 x.f2 x.f3 x.f4 x.f5 x.f6 x.f7 40 true ht (fun W' h' => hM W' (below_then hb hb.size h')) (Or.inr hbad)
theorem task_0 : task_New.f 40 ⟨#[0]⟩ 1 ⟨#[0]⟩ = some (⟨#[0]⟩, 1, ⟨#[0]⟩, ⟨#[0]⟩, 0, false, 0, 0, 0) := by kernel_rfl
theorem fold_a : rel_Fold.f 40 ⟨#[1, 97, 0]⟩ = some ⟨#[1, 97, 0]⟩ := by kernel_rfl
theorem fold_A : rel_Fold.f 40 ⟨#[1, 65, 0]⟩ = some ⟨#[1, 97, 0]⟩ := by kernel_rfl
set_option maxHeartbeats 4000000 in
set_option maxRecDepth 100000 in
theorem awake_calls (w : World) : Calls Try.prog 7 #[] w fun e w' => e = .returned (.bool true) ∧ Below w.heap.size w w' := by
  have hplain := fun W => wimplelaw23_Plain.calls _ _ _ _ _ _ _ _ _ _ _ W rfl
  go_enter Try.func7, Try.ntmps7
  simp only [List.append_eq, List.cons_append, List.nil_append]
  go_wp2_with fail
  refine (hplain w).mono ?_
  rintro e w1 ⟨v0, v10, rfl, R43, R10, hb1⟩
  have R43' := Aside0.mk R43
  have R10' := Aside0.mk R10
  have B1 := Aside0.mk hb1
  clear R43 R10 hb1 hplain
  simp only
  go_wp2_with fail
  have hnew := new_plain R43'.out R10'.out w1 (Below.refl _ _) 20 2 3 1 15 ⟨#[1, 65, 0]⟩ ⟨⟨#[1, 97, 0]⟩, 15, ⟨#[0]⟩, ⟨#[0]⟩, 0, false, 0, 0⟩ (by omega) (by omega) (by omega) (by omega) (fun _ => True) (fun _ _ => trivial) task_A
  unfold cfg at hnew
  refine hnew.mono ?_
  rintro e w2 ⟨⟨g, v, m, rfl, hJ⟩, hb⟩
  have J := Aside0.mk (hJ.lower B1.out.size)
  have B2 := Aside0.mk (below_then B1.out B1.out.size hb)
  clear hJ hb hnew B1 R43' R10'
  simp only
  go_wp2_with fail
  have hnew := New_bad w2 none none 0 0 0 0 0 0 0 0 0 0 0 0 0 1 1 0 ⟨#[0]⟩ _ _ _ _ _ _ _ _ 40 false task_0 (fun W h => may_none w2 none none 0 0 0 0 (Or.inl (by omega)) 0 0 0 0 0 0 0 0 0 W) (Or.inl rfl)
  unfold cfg at hnew
  refine hnew.mono ?_
  rintro e w3 ⟨rfl, hb⟩
  have J3 := Aside0.mk (J.out.below hb)
  have B3 := Aside0.mk (below_then B2.out B2.out.size hb)
  clear hb hnew B2 J
  simp only
  go_wp2_with fail
  refine (wimplelaw0_Num.calls 0 0 _ rfl).mono ?_
  rintro e w4 ⟨rfl, ⟨nd4, rfl⟩⟩
  have J4 := Aside0.mk (J3.out.below (pw_below_drewN (Below.refl _ _) nd4))
  have B4 := Aside0.mk (pw_below_drewN B3.out nd4)
  clear J3 B3
  generalize w3.drewN nd4 = w4 at *
  simp only
  go_wp2_with fail
  refine (Top_some J4.out 0 rfl (by omega) _ rfl).mono ?_
  rintro e w5 ⟨rfl, hb⟩
  have J5 := Aside0.mk (J4.out.below hb)
  have B5 := Aside0.mk (below_then B4.out B4.out.size hb)
  clear hb J4 B4
  unfold v34
  simp only
  go_wp2_with fail
  generalize hW6 : w5.alloc _ = W6
  have J6 : Aside0 (JobAt W6 w.heap.size (fun k => True ∧ k ≠ w5.heap.size) g 1 [⟨⟨#[1, 97, 0]⟩, 15, ⟨#[0]⟩, ⟨#[0]⟩, 0, false, 0, 0⟩] 2 3 20 0 [] v m) := ⟨by rw [← hW6]; exact J5.out.box _⟩
  have B6 : Aside0 (Below w.heap.size w W6) := ⟨by rw [← hW6]; exact below_alloc B5.out _⟩
  have F6 : Aside0 (∀ k, W6.heap.size ≤ k → True ∧ k ≠ w5.heap.size) := ⟨fun k hk => ⟨trivial, by rw [← hW6, size_alloc'] at hk; omega⟩⟩
  have c0 : W6.cell? ⟨w5.heap.size, 0, none⟩ = some (.string ⟨#[1, 97, 0]⟩) := by rw [← hW6]; exact (blk_cell (blk_new w5 _) 0).trans rfl
  have c1 : W6.cell? ⟨w5.heap.size, 1, none⟩ = some (.int .i64 15) := by rw [← hW6]; exact (blk_cell (blk_new w5 _) 1).trans rfl
  have c2 : W6.cell? ⟨w5.heap.size, 2, none⟩ = some (.string ⟨#[0]⟩) := by rw [← hW6]; exact (blk_cell (blk_new w5 _) 2).trans rfl
  have c3 : W6.cell? ⟨w5.heap.size, 3, none⟩ = some (.string ⟨#[0]⟩) := by rw [← hW6]; exact (blk_cell (blk_new w5 _) 3).trans rfl
  have c4 : W6.cell? ⟨w5.heap.size, 4, none⟩ = some (.int .i64 0) := by rw [← hW6]; exact (blk_cell (blk_new w5 _) 4).trans rfl
  have c5 : W6.cell? ⟨w5.heap.size, 5, none⟩ = some (.bool false) := by rw [← hW6]; exact (blk_cell (blk_new w5 _) 5).trans rfl
  have c6 : W6.cell? ⟨w5.heap.size, 6, none⟩ = some (.int .i64 0) := by rw [← hW6]; exact (blk_cell (blk_new w5 _) 6).trans rfl
  have c7 : W6.cell? ⟨w5.heap.size, 7, none⟩ = some (.int .i64 0) := by rw [← hW6]; exact (blk_cell (blk_new w5 _) 7).trans rfl
  clear hW6 J5 B5
  have P1 := Aside0.mk (Push_room (J6.out.below (below_drew (Below.refl _ _))) ⟨⟨#[1, 97, 0]⟩, 15, ⟨#[0]⟩, ⟨#[0]⟩, 0, false, 0, 0⟩ (by decide) (by decide) F6.out)
  dsimp only [v34] at P1
  go_region_held3 (fun w' => w'.cell? ⟨w5.heap.size, 0, none⟩ = some (.string ⟨#[1, 97, 0]⟩) ∧ w'.cell? ⟨w5.heap.size, 1, none⟩ = some (.int .i64 15) ∧ w'.cell? ⟨w5.heap.size, 2, none⟩ = some (.string ⟨#[0]⟩) ∧ w'.cell? ⟨w5.heap.size, 3, none⟩ = some (.string ⟨#[0]⟩) ∧ w'.cell? ⟨w5.heap.size, 4, none⟩ = some (.int .i64 0) ∧ w'.cell? ⟨w5.heap.size, 5, none⟩ = some (.bool false) ∧ w'.cell? ⟨w5.heap.size, 6, none⟩ = some (.int .i64 0) ∧ w'.cell? ⟨w5.heap.size, 7, none⟩ = some (.int .i64 0))
    (first
      | ((try dsimp only); (repeat' apply And.intro) <;> exact drew_cell (by assumption))
      | ((try dsimp only at *); go_split_ands; (repeat' apply And.intro) <;> exact cell_kept (by assumption) hk (fun h => h.2 rfl))
      | ((try dsimp only at *); go_split_ands; (repeat' apply And.intro) <;> exact pw_cell_below hb (by assumption)))
    (first
      | (go_at_call 13; refine P1.out.mono ?_; rintro e w7 ⟨rfl, ⟨v7, hJ7⟩, hb7, hk⟩; have J7 := Aside0.mk hJ7; have B7 := Aside0.mk ((below_drew1 B6.out).trans hb7); have S7 := Aside0.mk hk.1; have P2 := Push_room J7.out ⟨⟨#[1, 97, 0]⟩, 15, ⟨#[0]⟩, ⟨#[0]⟩, 0, false, 0, 0⟩ (by decide) (by decide) (fun k h => F6.out k (Nat.le_trans S7.out h)); dsimp only [v34] at P2; have P2 := Aside0.mk P2; clear J6 B6 hJ7 hb7 P1)
      | (go_at_call 13; refine P2.out.mono ?_; rintro e w8 ⟨rfl, ⟨v8, hJ8⟩, hb8, hk⟩; have J8 := Aside0.mk hJ8; have B8 := Aside0.mk (B7.out.trans hb8); have S8 := Aside0.mk (Nat.le_trans S7.out hk.1); have P3 := Push_full J8.out ⟨⟨#[1, 97, 0]⟩, 15, ⟨#[0]⟩, ⟨#[0]⟩, 0, false, 0, 0⟩ (by decide); dsimp only [v34] at P3; have P3 := Aside0.mk P3; clear J7 B7 S7 hJ8 hb8 P2)
      | (go_at_call 13; refine P3.out.mono ?_; rintro e w9 ⟨rfl, hb⟩; have J9 := Aside0.mk (J8.out.below hb); have B9 := Aside0.mk (below_then B8.out B8.out.size hb); have S9 := Aside0.mk (Nat.le_trans S8.out hb.size); clear J8 B8 S8 P3))
  all_goals
    have T0 : w9.cell? ⟨w5.heap.size, 0, none⟩ = some (.string ⟨#[1, 97, 0]⟩) := by go_split_ands; assumption
    have T1 : w9.cell? ⟨w5.heap.size, 1, none⟩ = some (.int .i64 15) := by go_split_ands; assumption
    have T2 : w9.cell? ⟨w5.heap.size, 2, none⟩ = some (.string ⟨#[0]⟩) := by go_split_ands; assumption
    have TT := Aside0.mk (And.intro T0 (And.intro T1 T2))
    have J10 : Aside0 (JobAt w9 w.heap.size (fun k => True ∧ k ≠ w5.heap.size) g 1 [⟨⟨#[1, 97, 0]⟩, 15, ⟨#[0]⟩, ⟨#[0]⟩, 0, false, 0, 0⟩, ⟨⟨#[1, 97, 0]⟩, 15, ⟨#[0]⟩, ⟨#[0]⟩, 0, false, 0, 0⟩, ⟨⟨#[1, 97, 0]⟩, 15, ⟨#[0]⟩, ⟨#[0]⟩, 0, false, 0, 0⟩] 2 3 20 0 [] v8 m) := ⟨J9.out⟩
    have hd : Calls Try.prog 14 #[.pointer (some ⟨g, 0, none⟩)] w9 fun e w' => e = .returned (.int .i64 3) ∧ w' = w9 := Depth_calls J10.out
    clear P2 P3 J9 T0 T1 T2 c0 c1 c2 c3 c4 c5 c6 c7 hb
    simp only [Exit.then]
    go_wp2_with fail
    refine hd.mono ?_
    rintro e w10 ⟨rfl, rfl⟩
    clear hd
    simp only
    go_wp2_with fail
    refine (Pop_some J10.out 2 rfl (by omega)).mono ?_
    rintro e w11 ⟨rfl, ⟨v11, hJ⟩, hb, hk⟩
    have J11 : Aside0 (JobAt w11 w.heap.size (fun k => True ∧ k ≠ w5.heap.size) g 1 [⟨⟨#[1, 97, 0]⟩, 15, ⟨#[0]⟩, ⟨#[0]⟩, 0, false, 0, 0⟩, ⟨⟨#[1, 97, 0]⟩, 15, ⟨#[0]⟩, ⟨#[0]⟩, 0, false, 0, 0⟩] 2 3 20 0 [] v11 m) := ⟨hJ⟩
    have B11 := Aside0.mk (B9.out.trans hb)
    have T11 : Aside0 (w11.cell? ⟨w5.heap.size, 0, none⟩ = some (.string ⟨#[1, 97, 0]⟩) ∧ w11.cell? ⟨w5.heap.size, 1, none⟩ = some (.int .i64 15) ∧ w11.cell? ⟨w5.heap.size, 2, none⟩ = some (.string ⟨#[0]⟩)) := ⟨cell_kept TT.out.1 hk (fun h => h.2 rfl), cell_kept TT.out.2.1 hk (fun h => h.2 rfl), cell_kept TT.out.2.2 hk (fun h => h.2 rfl)⟩
    clear hJ hb hk B9 TT J10
    simp only
    go_wp2_with fail
    refine (Tried_calls J11.out (by omega) ⟨#[1, 97, 0]⟩ ⟨#[1, 97, 0]⟩ 40 fold_a (by decide)).mono ?_
    rintro e w12 ⟨rfl, hJ, hb, hk⟩
    rw [show (decide ((⟨#[1, 97, 0]⟩ : ByteArray).data.toList ∈ ([] : List (List UInt8)))) = false from by simp]
    have J12 := Aside0.mk hJ
    have B12 := Aside0.mk (B11.out.trans hb)
    have T12 : Aside0 (w12.cell? ⟨w5.heap.size, 0, none⟩ = some (.string ⟨#[1, 97, 0]⟩) ∧ w12.cell? ⟨w5.heap.size, 1, none⟩ = some (.int .i64 15) ∧ w12.cell? ⟨w5.heap.size, 2, none⟩ = some (.string ⟨#[0]⟩)) := ⟨cell_kept T11.out.1 hk (fun h => h.2 rfl), cell_kept T11.out.2.1 hk (fun h => h.2 rfl), cell_kept T11.out.2.2 hk (fun h => h.2 rfl)⟩
    clear hJ hb hk B11 T11 J11
    simp only
    go_wp2_with fail
    refine (Tried_calls J12.out (by omega) ⟨#[1, 65, 0]⟩ ⟨#[1, 97, 0]⟩ 40 fold_A (by decide)).mono ?_
    rintro e w13 ⟨rfl, hJ, hb, hk⟩
    rw [show (decide ((⟨#[1, 97, 0]⟩ : ByteArray).data.toList ∈ ([(⟨#[1, 97, 0]⟩ : ByteArray).data.toList] : List (List UInt8)))) = true from by simp]
    have J13 := Aside0.mk hJ
    have B13 := Aside0.mk (B12.out.trans hb)
    have T13 : Aside0 (w13.cell? ⟨w5.heap.size, 0, none⟩ = some (.string ⟨#[1, 97, 0]⟩) ∧ w13.cell? ⟨w5.heap.size, 1, none⟩ = some (.int .i64 15) ∧ w13.cell? ⟨w5.heap.size, 2, none⟩ = some (.string ⟨#[0]⟩)) := ⟨cell_kept T12.out.1 hk (fun h => h.2 rfl), cell_kept T12.out.2.1 hk (fun h => h.2 rfl), cell_kept T12.out.2.2 hk (fun h => h.2 rfl)⟩
    clear hJ hb hk B12 T12 J12
    simp only
    go_wp2_with fail
    refine (Chase_some J13.out 1 rfl (by omega) ⟨⟨#[1, 97, 0]⟩, 15, ⟨#[0]⟩, ⟨#[0]⟩, 0, false, 0, 0⟩ rfl ⟨#[1, 122, 0]⟩ 40 ⟨#[1, 122, 0]⟩ 15 ⟨#[0]⟩ ⟨#[0]⟩ 0 false 0 0 task_z (by omega) (by omega)).mono ?_
    rintro e w14 ⟨rfl, hJ, hb, hk⟩
    have J14 : Aside0 (JobAt w14 w.heap.size (fun k => True ∧ k ≠ w5.heap.size) g 1 [⟨⟨#[1, 97, 0]⟩, 15, ⟨#[0]⟩, ⟨#[0]⟩, 0, false, 0, 0⟩, ⟨⟨#[1, 122, 0]⟩, 15, ⟨#[0]⟩, ⟨#[0]⟩, 0, false, 0, 0⟩] 2 2 20 2 _ v11 m) := ⟨hJ⟩
    have B14 := Aside0.mk (B13.out.trans hb)
    have T14 : Aside0 (w14.cell? ⟨w5.heap.size, 0, none⟩ = some (.string ⟨#[1, 97, 0]⟩) ∧ w14.cell? ⟨w5.heap.size, 1, none⟩ = some (.int .i64 15) ∧ w14.cell? ⟨w5.heap.size, 2, none⟩ = some (.string ⟨#[0]⟩)) := ⟨cell_kept T13.out.1 hk (fun h => h.2 rfl), cell_kept T13.out.2.1 hk (fun h => h.2 rfl), cell_kept T13.out.2.2 hk (fun h => h.2 rfl)⟩
    clear hJ hb hk B13 T13 J13
    simp only
    go_wp2_with fail
    refine (Top_some J14.out 1 rfl (by omega) ⟨⟨#[1, 122, 0]⟩, 15, ⟨#[0]⟩, ⟨#[0]⟩, 0, false, 0, 0⟩ rfl).mono ?_
    rintro e w15 ⟨rfl, hb⟩
    have J15 := Aside0.mk (J14.out.below hb)
    have hk := Kept.of_below hb (fun k => True ∧ k ≠ w5.heap.size)
    have B15 := Aside0.mk (below_then B14.out B14.out.size hb)
    have T15 : Aside0 (w15.cell? ⟨w5.heap.size, 0, none⟩ = some (.string ⟨#[1, 97, 0]⟩) ∧ w15.cell? ⟨w5.heap.size, 1, none⟩ = some (.int .i64 15) ∧ w15.cell? ⟨w5.heap.size, 2, none⟩ = some (.string ⟨#[0]⟩)) := ⟨cell_kept T14.out.1 hk (fun h => h.2 rfl), cell_kept T14.out.2.1 hk (fun h => h.2 rfl), cell_kept T14.out.2.2 hk (fun h => h.2 rfl)⟩
    clear hb hk B14 T14 J14
    have t0 : ∀ o, (w15.alloc o).cell? ⟨w5.heap.size, 0, none⟩ = some (.string ⟨#[1, 97, 0]⟩) := fun o => alloc_cell T15.out.1 o
    have t1 : ∀ o, (w15.alloc o).cell? ⟨w5.heap.size, 1, none⟩ = some (.int .i64 15) := fun o => alloc_cell T15.out.2.1 o
    have t2 : ∀ o, (w15.alloc o).cell? ⟨w5.heap.size, 2, none⟩ = some (.string ⟨#[0]⟩) := fun o => alloc_cell T15.out.2.2 o
    unfold v34
    simp only
    go_wp2_with fail
    generalize hW : w15.alloc _ = W16
    have J16 : Aside0 (JobAt W16 w.heap.size (fun k => True ∧ k ≠ w5.heap.size) g 1 [⟨⟨#[1, 97, 0]⟩, 15, ⟨#[0]⟩, ⟨#[0]⟩, 0, false, 0, 0⟩, ⟨⟨#[1, 122, 0]⟩, 15, ⟨#[0]⟩, ⟨#[0]⟩, 0, false, 0, 0⟩] 2 2 20 2 _ v11 m) := ⟨by rw [← hW]; exact J15.out.below (below_alloc (Below.refl _ _) _)⟩
    have B16 : Aside0 (Below w.heap.size w W16) := ⟨by rw [← hW]; exact below_alloc B15.out _⟩
    have q0 : W16.cell? ⟨w5.heap.size, 0, none⟩ = some (.string ⟨#[1, 97, 0]⟩) := by rw [← hW]; exact t0 _
    have q1 : W16.cell? ⟨w5.heap.size, 1, none⟩ = some (.int .i64 15) := by rw [← hW]; exact t1 _
    have q2 : W16.cell? ⟨w5.heap.size, 2, none⟩ = some (.string ⟨#[0]⟩) := by rw [← hW]; exact t2 _
    have u0 : W16.cell? ⟨w15.heap.size, 0, none⟩ = some (.string ⟨#[1, 122, 0]⟩) := by rw [← hW]; exact (blk_cell (blk_new w15 _) 0).trans rfl
    have u1 : W16.cell? ⟨w15.heap.size, 1, none⟩ = some (.int .i64 15) := by rw [← hW]; exact (blk_cell (blk_new w15 _) 1).trans rfl
    clear hW t0 t1 t2 T15 J15 B15
    refine (wimplelaw0_Num.calls 2300 2300 _ rfl).mono ?_
    rintro e w17 ⟨rfl, ⟨nd, rfl⟩⟩
    simp only
    go_wp2_with fail
    have J17 : Aside0 (JobAt (W16.drewN nd) w.heap.size (fun k => True ∧ k ≠ w5.heap.size) g 1 [⟨⟨#[1, 97, 0]⟩, 15, ⟨#[0]⟩, ⟨#[0]⟩, 0, false, 0, 0⟩, ⟨⟨#[1, 122, 0]⟩, 15, ⟨#[0]⟩, ⟨#[0]⟩, 0, false, 0, 0⟩] 2 2 20 2 _ v11 m) := ⟨J16.out.below (pw_below_drewN (Below.refl _ _) nd)⟩
    have hd : Calls Try.prog 14 #[.pointer (some ⟨g, 0, none⟩)] (W16.drewN nd) fun e w' => e = .returned (.int .i64 2) ∧ w' = W16.drewN nd := Depth_calls J17.out
    refine hd.mono ?_
    rintro e w18 ⟨rfl, rfl⟩
    clear hd
    simp only
    go_wp2_with fail
    refine (Spend_some J17.out (by omega) (by omega)).mono ?_
    rintro e w19 ⟨rfl, hJ, hb, hk⟩
    have B19 := Aside0.mk ((pw_below_drewN B16.out nd).trans hb)
    clear hJ hb hk
    simp only
    go_wp2_with fail
    go_ret
    exact ⟨rfl, B19.out⟩
end Go.Proofs.Ytkmdjcdmgmffiaa.M
