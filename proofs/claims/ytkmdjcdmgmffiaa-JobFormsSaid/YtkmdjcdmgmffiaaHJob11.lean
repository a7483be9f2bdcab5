/- JobForms: each part of a config that may not be. -/
import Derived.Test.YtkmdjcdmgmffiaaHJob11L
import Derived.Test.YtkmdjcdmgmffiaaPx7
set_option linter.unusedVariables false
set_option linter.unusedSimpArgs false
namespace Go.Proofs.Ytkmdjcdmgmffiaa.M
open Go Go.RowKit Go.ChangeMaps Go.Proofs.YtkmdjcdmgmffiaaW.PrintWords Go.Proofs.YtkmdjcdmgmffiaaW.PrintLast Go.Proofs.YtkmdjcdmgmffiaaW.PrintMore Go.Proofs.Ytkmdjcdmgmffiaa.P

set_option maxHeartbeats 4000000 in
set_option maxRecDepth 100000 in
theorem forms_walk (w : World) (wh x : Int) : Calls Try.prog 4 #[.int .i64 wh, .int .i64 x] w fun e w' => e = .returned (.bool true) ∧ Below w.heap.size w w' := by
  have hplain := fun W => wimplelaw23_Plain.calls _ _ _ _ _ _ _ _ _ _ _ W rfl
  go_enter Try.func4, Try.ntmps4
  go_wp2_with fail
  refine (awake_calls w).mono ?_
  rintro e w1 ⟨rfl, hb1⟩
  have B1 := Aside0.mk hb1
  clear hb1
  simp only
  go_wp2_with fail
  refine (hplain w1).mono ?_
  rintro e w2 ⟨v0, v10, rfl, R43, R10, hb2⟩
  have R43' := Aside0.mk (Kd.R_lower R43 B1.out.size)
  have R10' := Aside0.mk (Kd.R_lower R10 B1.out.size)
  have B2 := Aside0.mk (below_then B1.out B1.out.size hb2)
  obtain ⟨A0, c0, e0⟩ := Kd.R_slice R43
  obtain ⟨A10, c10, e10⟩ := Kd.R_slice R10
  have e0' : v0 = .slice A0 1 c0 := e0
  have e10' : v10 = .slice A10 3 c10 := e10
  clear R43 R10 hb2 hplain B1 e0 e10
  subst e0' e10'
  have hk0 := umod0 wh 18 (by omega)
  obtain ⟨kk, hkk⟩ : ∃ kk : Int, (IntKind.u64.wrap wh).tmod 18 = kk := ⟨_, rfl⟩
  rw [show ((18 : Nat) : Int) = 18 from rfl, hkk] at hk0
  have hk1 : kk = 0 ∨ kk = 1 ∨ kk = 2 ∨ kk = 3 ∨ kk = 4 ∨ kk = 5 ∨ kk = 6 ∨ kk = 7 ∨ kk = 8 ∨ kk = 9 ∨ kk = 10 ∨ kk = 11 ∨ kk = 12 ∨ kk = 13 ∨ kk = 14 ∨ kk = 15 ∨ kk = 16 ∨ kk = 17 := by omega
  clear hk0
  rcases hk1 with rfl | rfl | rfl | rfl | rfl | rfl | rfl | rfl | rfl | rfl | rfl | rfl | rfl | rfl | rfl | rfl | rfl | rfl
  case inl =>
   simp only
   go_wp2_with fail
   have hD : 1 ≤ wrap64 (1 + bits BinOp.and IntKind.i64 x 63) ∧ wrap64 (1 + bits BinOp.and IntKind.i64 x 63) ≤ 64 := by rw [and63, show wrap64 (1 + x % 64) = 1 + x % 64 from IntWalk.wrap64_in _ (by omega)]; omega
   generalize wrap64 (1 + bits BinOp.and IntKind.i64 x 63) = D at *
   generalize hW : w2.alloc _ = W2
   have BW : Below w2.heap.size w2 W2 := by rw [← hW]; exact below_alloc (Below.refl _ _) _
   clear hW
   have hn := New_bad W2 none A10 0 0 3 c10 20 4 20 2 3 5 2 10 4 1 1 0 ⟨#[0]⟩ _ _ _ _ _ _ _ _ 40 false task_0 (fun W h => may_none W2 none A10 0 0 3 c10 (Or.inl (by omega)) 20 4 20 2 3 5 2 10 4 W) (Or.inl rfl)
   unfold cfg at hn
   refine hn.mono ?_
   rintro e w3 ⟨rfl, hb⟩
   have B3 := Aside0.mk (below_then (below_then B2.out B2.out.size BW) (below_then B2.out B2.out.size BW).size hb)
   clear hn hb BW R43' R10' B2
   simp only
   go_wp2_with fail
   refine (wimplelaw23_Plain.calls _ _ _ _ _ _ _ _ _ _ _ w3 rfl).mono ?_
   rintro e w4 ⟨v0, v10, rfl, R43, R10, hb⟩
   have R43' := Aside0.mk R43
   have R10' := Aside0.mk R10
   have B4 := Aside0.mk (below_then B3.out B3.out.size hb)
   clear R43 R10 hb B3
   simp only
   go_wp2_with fail
   have hn := new_plain_bad R43'.out R10'.out w4 (Below.refl _ _) (1 - D) 1 ⟨#[0]⟩ ⟨⟨#[0]⟩, 1, ⟨#[0]⟩, ⟨#[0]⟩, 0, false, 0, 0⟩ 0 task_0 (Or.inl (by omega))
   unfold cfg at hn
   refine hn.mono ?_
   rintro e w5 ⟨rfl, hb⟩
   have B5 := Aside0.mk (below_then B4.out B4.out.size hb)
   clear hn hb R43' R10' B4
   simp only
   go_wp2_with fail
   refine (wimplelaw23_Plain.calls _ _ _ _ _ _ _ _ _ _ _ w5 rfl).mono ?_
   rintro e w6 ⟨v0, v10, rfl, R43, R10, hb⟩
   have R43' := Aside0.mk R43
   have R10' := Aside0.mk R10
   have B6 := Aside0.mk (below_then B5.out B5.out.size hb)
   clear R43 R10 hb B5
   simp only
   go_wp2_with fail
   have hn := new_plain_bad R43'.out R10'.out w6 (Below.refl _ _) 1 1 ⟨#[]⟩ z34 2200 task_e (Or.inr (by omega))
   unfold cfg at hn
   refine hn.mono ?_
   rintro e w7 ⟨rfl, hb⟩
   have B7 := Aside0.mk (below_then B6.out B6.out.size hb)
   clear hn hb R43' R10' B6
   simp only
   go_wp2_with fail
   refine (wimplelaw23_Plain.calls _ _ _ _ _ _ _ _ _ _ _ w7 rfl).mono ?_
   rintro e w8 ⟨v0, v10, rfl, R43, R10, hb⟩
   have R43' := Aside0.mk R43
   have R10' := Aside0.mk R10
   have B8 := Aside0.mk (below_then B7.out B7.out.size hb)
   clear R43 R10 hb B7
   simp only
   go_wp2_with fail
   have hn := new_plain_bad R43'.out R10'.out w8 (Below.refl _ _) 1 (65535 + D) ⟨#[0]⟩ z34 2200 (task_big _ (by omega)) (Or.inr (by omega))
   unfold cfg at hn
   refine hn.mono ?_
   rintro e w9 ⟨rfl, hb⟩
   have B9 := Aside0.mk (below_then B8.out B8.out.size hb)
   clear hn hb R43' R10' B8
   simp only
   go_wp2_with fail
   refine (wimplelaw0_Num.calls 2300 2300 _ rfl).mono ?_
   rintro e w10 ⟨rfl, ⟨n1, rfl⟩⟩
   simp only
   go_wp2_with fail
   refine (wimplelaw0_Num.calls 2300 2300 _ rfl).mono ?_
   rintro e w11 ⟨rfl, ⟨n2, rfl⟩⟩
   simp only
   go_wp2_with fail
   refine (wimplelaw0_Num.calls 2300 2300 _ rfl).mono ?_
   rintro e w12 ⟨rfl, ⟨n3, rfl⟩⟩
   simp only
   go_wp2_with fail
   refine (wimplelaw0_Num.calls 2300 2300 _ rfl).mono ?_
   rintro e w13 ⟨rfl, ⟨n4, rfl⟩⟩
   simp only
   go_wp2_with fail
   go_ret
   exact ⟨rfl, by repeat (first | exact B9.out | apply pw_below_drewN)⟩
  case inr.inr.inr.inr.inl =>
   simp only
   go_wp2_with fail
   have hD : 1 ≤ wrap64 (1 + bits BinOp.and IntKind.i64 x 63) ∧ wrap64 (1 + bits BinOp.and IntKind.i64 x 63) ≤ 64 := by rw [and63, show wrap64 (1 + x % 64) = 1 + x % 64 from IntWalk.wrap64_in _ (by omega)]; omega
   generalize wrap64 (1 + bits BinOp.and IntKind.i64 x 63) = D at *
   generalize hW : w2.alloc _ = W2
   have BW : Below w2.heap.size w2 W2 := by rw [← hW]; exact below_alloc (Below.refl _ _) _
   clear hW
   have hn := new_no R43'.out R10'.out W2 BW (wrap64 (1 - D)) 4 20 2 3 5 2 10 4 (by rw [IntWalk.wrap64_in (1 - D) (by omega)]; omega)
   unfold cfg at hn
   refine hn.mono ?_
   rintro e w3 ⟨rfl, hb⟩
   have B3 := Aside0.mk (below_then (below_then B2.out B2.out.size BW) (below_then B2.out B2.out.size BW).size hb)
   clear hn hb BW R43' R10' B2
   simp only
   go_wp2_with fail
   refine (wimplelaw23_Plain.calls _ _ _ _ _ _ _ _ _ _ _ w3 rfl).mono ?_
   rintro e w4 ⟨v0, v10, rfl, R43, R10, hb⟩
   have R43' := Aside0.mk R43
   have R10' := Aside0.mk R10
   have B4 := Aside0.mk (below_then B3.out B3.out.size hb)
   clear R43 R10 hb B3
   simp only
   go_wp2_with fail
   have hn := new_plain_bad R43'.out R10'.out w4 (Below.refl _ _) (1 - D) 1 ⟨#[0]⟩ ⟨⟨#[0]⟩, 1, ⟨#[0]⟩, ⟨#[0]⟩, 0, false, 0, 0⟩ 0 task_0 (Or.inl (by omega))
   unfold cfg at hn
   refine hn.mono ?_
   rintro e w5 ⟨rfl, hb⟩
   have B5 := Aside0.mk (below_then B4.out B4.out.size hb)
   clear hn hb R43' R10' B4
   simp only
   go_wp2_with fail
   refine (wimplelaw23_Plain.calls _ _ _ _ _ _ _ _ _ _ _ w5 rfl).mono ?_
   rintro e w6 ⟨v0, v10, rfl, R43, R10, hb⟩
   have R43' := Aside0.mk R43
   have R10' := Aside0.mk R10
   have B6 := Aside0.mk (below_then B5.out B5.out.size hb)
   clear R43 R10 hb B5
   simp only
   go_wp2_with fail
   have hn := new_plain_bad R43'.out R10'.out w6 (Below.refl _ _) 1 1 ⟨#[]⟩ z34 2200 task_e (Or.inr (by omega))
   unfold cfg at hn
   refine hn.mono ?_
   rintro e w7 ⟨rfl, hb⟩
   have B7 := Aside0.mk (below_then B6.out B6.out.size hb)
   clear hn hb R43' R10' B6
   simp only
   go_wp2_with fail
   refine (wimplelaw23_Plain.calls _ _ _ _ _ _ _ _ _ _ _ w7 rfl).mono ?_
   rintro e w8 ⟨v0, v10, rfl, R43, R10, hb⟩
   have R43' := Aside0.mk R43
   have R10' := Aside0.mk R10
   have B8 := Aside0.mk (below_then B7.out B7.out.size hb)
   clear R43 R10 hb B7
   simp only
   go_wp2_with fail
   have hn := new_plain_bad R43'.out R10'.out w8 (Below.refl _ _) 1 (65535 + D) ⟨#[0]⟩ z34 2200 (task_big _ (by omega)) (Or.inr (by omega))
   unfold cfg at hn
   refine hn.mono ?_
   rintro e w9 ⟨rfl, hb⟩
   have B9 := Aside0.mk (below_then B8.out B8.out.size hb)
   clear hn hb R43' R10' B8
   simp only
   go_wp2_with fail
   refine (wimplelaw0_Num.calls 2300 2300 _ rfl).mono ?_
   rintro e w10 ⟨rfl, ⟨n1, rfl⟩⟩
   simp only
   go_wp2_with fail
   refine (wimplelaw0_Num.calls 2300 2300 _ rfl).mono ?_
   rintro e w11 ⟨rfl, ⟨n2, rfl⟩⟩
   simp only
   go_wp2_with fail
   refine (wimplelaw0_Num.calls 2300 2300 _ rfl).mono ?_
   rintro e w12 ⟨rfl, ⟨n3, rfl⟩⟩
   simp only
   go_wp2_with fail
   refine (wimplelaw0_Num.calls 2300 2300 _ rfl).mono ?_
   rintro e w13 ⟨rfl, ⟨n4, rfl⟩⟩
   simp only
   go_wp2_with fail
   go_ret
   exact ⟨rfl, by repeat (first | exact B9.out | apply pw_below_drewN)⟩
  case inr.inr.inr.inr.inr.inl =>
   simp only
   go_wp2_with fail
   have hD : 1 ≤ wrap64 (1 + bits BinOp.and IntKind.i64 x 63) ∧ wrap64 (1 + bits BinOp.and IntKind.i64 x 63) ≤ 64 := by rw [and63, show wrap64 (1 + x % 64) = 1 + x % 64 from IntWalk.wrap64_in _ (by omega)]; omega
   generalize wrap64 (1 + bits BinOp.and IntKind.i64 x 63) = D at *
   generalize hW : w2.alloc _ = W2
   have BW : Below w2.heap.size w2 W2 := by rw [← hW]; exact below_alloc (Below.refl _ _) _
   clear hW
   have hn := new_no R43'.out R10'.out W2 BW (wrap64 (256 + D)) 4 20 2 3 5 2 10 4 (by rw [IntWalk.wrap64_in (256 + D) (by omega)]; omega)
   unfold cfg at hn
   refine hn.mono ?_
   rintro e w3 ⟨rfl, hb⟩
   have B3 := Aside0.mk (below_then (below_then B2.out B2.out.size BW) (below_then B2.out B2.out.size BW).size hb)
   clear hn hb BW R43' R10' B2
   simp only
   go_wp2_with fail
   refine (wimplelaw23_Plain.calls _ _ _ _ _ _ _ _ _ _ _ w3 rfl).mono ?_
   rintro e w4 ⟨v0, v10, rfl, R43, R10, hb⟩
   have R43' := Aside0.mk R43
   have R10' := Aside0.mk R10
   have B4 := Aside0.mk (below_then B3.out B3.out.size hb)
   clear R43 R10 hb B3
   simp only
   go_wp2_with fail
   have hn := new_plain_bad R43'.out R10'.out w4 (Below.refl _ _) (1 - D) 1 ⟨#[0]⟩ ⟨⟨#[0]⟩, 1, ⟨#[0]⟩, ⟨#[0]⟩, 0, false, 0, 0⟩ 0 task_0 (Or.inl (by omega))
   unfold cfg at hn
   refine hn.mono ?_
   rintro e w5 ⟨rfl, hb⟩
   have B5 := Aside0.mk (below_then B4.out B4.out.size hb)
   clear hn hb R43' R10' B4
   simp only
   go_wp2_with fail
   refine (wimplelaw23_Plain.calls _ _ _ _ _ _ _ _ _ _ _ w5 rfl).mono ?_
   rintro e w6 ⟨v0, v10, rfl, R43, R10, hb⟩
   have R43' := Aside0.mk R43
   have R10' := Aside0.mk R10
   have B6 := Aside0.mk (below_then B5.out B5.out.size hb)
   clear R43 R10 hb B5
   simp only
   go_wp2_with fail
   have hn := new_plain_bad R43'.out R10'.out w6 (Below.refl _ _) 1 1 ⟨#[]⟩ z34 2200 task_e (Or.inr (by omega))
   unfold cfg at hn
   refine hn.mono ?_
   rintro e w7 ⟨rfl, hb⟩
   have B7 := Aside0.mk (below_then B6.out B6.out.size hb)
   clear hn hb R43' R10' B6
   simp only
   go_wp2_with fail
   refine (wimplelaw23_Plain.calls _ _ _ _ _ _ _ _ _ _ _ w7 rfl).mono ?_
   rintro e w8 ⟨v0, v10, rfl, R43, R10, hb⟩
   have R43' := Aside0.mk R43
   have R10' := Aside0.mk R10
   have B8 := Aside0.mk (below_then B7.out B7.out.size hb)
   clear R43 R10 hb B7
   simp only
   go_wp2_with fail
   have hn := new_plain_bad R43'.out R10'.out w8 (Below.refl _ _) 1 (65535 + D) ⟨#[0]⟩ z34 2200 (task_big _ (by omega)) (Or.inr (by omega))
   unfold cfg at hn
   refine hn.mono ?_
   rintro e w9 ⟨rfl, hb⟩
   have B9 := Aside0.mk (below_then B8.out B8.out.size hb)
   clear hn hb R43' R10' B8
   simp only
   go_wp2_with fail
   refine (wimplelaw0_Num.calls 2300 2300 _ rfl).mono ?_
   rintro e w10 ⟨rfl, ⟨n1, rfl⟩⟩
   simp only
   go_wp2_with fail
   refine (wimplelaw0_Num.calls 2300 2300 _ rfl).mono ?_
   rintro e w11 ⟨rfl, ⟨n2, rfl⟩⟩
   simp only
   go_wp2_with fail
   refine (wimplelaw0_Num.calls 2300 2300 _ rfl).mono ?_
   rintro e w12 ⟨rfl, ⟨n3, rfl⟩⟩
   simp only
   go_wp2_with fail
   refine (wimplelaw0_Num.calls 2300 2300 _ rfl).mono ?_
   rintro e w13 ⟨rfl, ⟨n4, rfl⟩⟩
   simp only
   go_wp2_with fail
   go_ret
   exact ⟨rfl, by repeat (first | exact B9.out | apply pw_below_drewN)⟩
  case inr.inr.inr.inr.inr.inr.inl =>
   simp only
   go_wp2_with fail
   have hD : 1 ≤ wrap64 (1 + bits BinOp.and IntKind.i64 x 63) ∧ wrap64 (1 + bits BinOp.and IntKind.i64 x 63) ≤ 64 := by rw [and63, show wrap64 (1 + x % 64) = 1 + x % 64 from IntWalk.wrap64_in _ (by omega)]; omega
   generalize wrap64 (1 + bits BinOp.and IntKind.i64 x 63) = D at *
   generalize hW : w2.alloc _ = W2
   have BW : Below w2.heap.size w2 W2 := by rw [← hW]; exact below_alloc (Below.refl _ _) _
   clear hW
   have hn := new_no R43'.out R10'.out W2 BW 20 (wrap64 (1 - D)) 20 2 3 5 2 10 4 (by rw [IntWalk.wrap64_in (1 - D) (by omega)]; omega)
   unfold cfg at hn
   refine hn.mono ?_
   rintro e w3 ⟨rfl, hb⟩
   have B3 := Aside0.mk (below_then (below_then B2.out B2.out.size BW) (below_then B2.out B2.out.size BW).size hb)
   clear hn hb BW R43' R10' B2
   simp only
   go_wp2_with fail
   refine (wimplelaw23_Plain.calls _ _ _ _ _ _ _ _ _ _ _ w3 rfl).mono ?_
   rintro e w4 ⟨v0, v10, rfl, R43, R10, hb⟩
   have R43' := Aside0.mk R43
   have R10' := Aside0.mk R10
   have B4 := Aside0.mk (below_then B3.out B3.out.size hb)
   clear R43 R10 hb B3
   simp only
   go_wp2_with fail
   have hn := new_plain_bad R43'.out R10'.out w4 (Below.refl _ _) (1 - D) 1 ⟨#[0]⟩ ⟨⟨#[0]⟩, 1, ⟨#[0]⟩, ⟨#[0]⟩, 0, false, 0, 0⟩ 0 task_0 (Or.inl (by omega))
   unfold cfg at hn
   refine hn.mono ?_
   rintro e w5 ⟨rfl, hb⟩
   have B5 := Aside0.mk (below_then B4.out B4.out.size hb)
   clear hn hb R43' R10' B4
   simp only
   go_wp2_with fail
   refine (wimplelaw23_Plain.calls _ _ _ _ _ _ _ _ _ _ _ w5 rfl).mono ?_
   rintro e w6 ⟨v0, v10, rfl, R43, R10, hb⟩
   have R43' := Aside0.mk R43
   have R10' := Aside0.mk R10
   have B6 := Aside0.mk (below_then B5.out B5.out.size hb)
   clear R43 R10 hb B5
   simp only
   go_wp2_with fail
   have hn := new_plain_bad R43'.out R10'.out w6 (Below.refl _ _) 1 1 ⟨#[]⟩ z34 2200 task_e (Or.inr (by omega))
   unfold cfg at hn
   refine hn.mono ?_
   rintro e w7 ⟨rfl, hb⟩
   have B7 := Aside0.mk (below_then B6.out B6.out.size hb)
   clear hn hb R43' R10' B6
   simp only
   go_wp2_with fail
   refine (wimplelaw23_Plain.calls _ _ _ _ _ _ _ _ _ _ _ w7 rfl).mono ?_
   rintro e w8 ⟨v0, v10, rfl, R43, R10, hb⟩
   have R43' := Aside0.mk R43
   have R10' := Aside0.mk R10
   have B8 := Aside0.mk (below_then B7.out B7.out.size hb)
   clear R43 R10 hb B7
   simp only
   go_wp2_with fail
   have hn := new_plain_bad R43'.out R10'.out w8 (Below.refl _ _) 1 (65535 + D) ⟨#[0]⟩ z34 2200 (task_big _ (by omega)) (Or.inr (by omega))
   unfold cfg at hn
   refine hn.mono ?_
   rintro e w9 ⟨rfl, hb⟩
   have B9 := Aside0.mk (below_then B8.out B8.out.size hb)
   clear hn hb R43' R10' B8
   simp only
   go_wp2_with fail
   refine (wimplelaw0_Num.calls 2300 2300 _ rfl).mono ?_
   rintro e w10 ⟨rfl, ⟨n1, rfl⟩⟩
   simp only
   go_wp2_with fail
   refine (wimplelaw0_Num.calls 2300 2300 _ rfl).mono ?_
   rintro e w11 ⟨rfl, ⟨n2, rfl⟩⟩
   simp only
   go_wp2_with fail
   refine (wimplelaw0_Num.calls 2300 2300 _ rfl).mono ?_
   rintro e w12 ⟨rfl, ⟨n3, rfl⟩⟩
   simp only
   go_wp2_with fail
   refine (wimplelaw0_Num.calls 2300 2300 _ rfl).mono ?_
   rintro e w13 ⟨rfl, ⟨n4, rfl⟩⟩
   simp only
   go_wp2_with fail
   go_ret
   exact ⟨rfl, by repeat (first | exact B9.out | apply pw_below_drewN)⟩
  case inr.inr.inr.inr.inr.inr.inr.inl =>
   simp only
   go_wp2_with fail
   have hD : 1 ≤ wrap64 (1 + bits BinOp.and IntKind.i64 x 63) ∧ wrap64 (1 + bits BinOp.and IntKind.i64 x 63) ≤ 64 := by rw [and63, show wrap64 (1 + x % 64) = 1 + x % 64 from IntWalk.wrap64_in _ (by omega)]; omega
   generalize wrap64 (1 + bits BinOp.and IntKind.i64 x 63) = D at *
   generalize hW : w2.alloc _ = W2
   have BW : Below w2.heap.size w2 W2 := by rw [← hW]; exact below_alloc (Below.refl _ _) _
   clear hW
   have hn := new_no R43'.out R10'.out W2 BW 20 (wrap64 (16 + D)) 20 2 3 5 2 10 4 (by rw [IntWalk.wrap64_in (16 + D) (by omega)]; omega)
   unfold cfg at hn
   refine hn.mono ?_
   rintro e w3 ⟨rfl, hb⟩
   have B3 := Aside0.mk (below_then (below_then B2.out B2.out.size BW) (below_then B2.out B2.out.size BW).size hb)
   clear hn hb BW R43' R10' B2
   simp only
   go_wp2_with fail
   refine (wimplelaw23_Plain.calls _ _ _ _ _ _ _ _ _ _ _ w3 rfl).mono ?_
   rintro e w4 ⟨v0, v10, rfl, R43, R10, hb⟩
   have R43' := Aside0.mk R43
   have R10' := Aside0.mk R10
   have B4 := Aside0.mk (below_then B3.out B3.out.size hb)
   clear R43 R10 hb B3
   simp only
   go_wp2_with fail
   have hn := new_plain_bad R43'.out R10'.out w4 (Below.refl _ _) (1 - D) 1 ⟨#[0]⟩ ⟨⟨#[0]⟩, 1, ⟨#[0]⟩, ⟨#[0]⟩, 0, false, 0, 0⟩ 0 task_0 (Or.inl (by omega))
   unfold cfg at hn
   refine hn.mono ?_
   rintro e w5 ⟨rfl, hb⟩
   have B5 := Aside0.mk (below_then B4.out B4.out.size hb)
   clear hn hb R43' R10' B4
   simp only
   go_wp2_with fail
   refine (wimplelaw23_Plain.calls _ _ _ _ _ _ _ _ _ _ _ w5 rfl).mono ?_
   rintro e w6 ⟨v0, v10, rfl, R43, R10, hb⟩
   have R43' := Aside0.mk R43
   have R10' := Aside0.mk R10
   have B6 := Aside0.mk (below_then B5.out B5.out.size hb)
   clear R43 R10 hb B5
   simp only
   go_wp2_with fail
   have hn := new_plain_bad R43'.out R10'.out w6 (Below.refl _ _) 1 1 ⟨#[]⟩ z34 2200 task_e (Or.inr (by omega))
   unfold cfg at hn
   refine hn.mono ?_
   rintro e w7 ⟨rfl, hb⟩
   have B7 := Aside0.mk (below_then B6.out B6.out.size hb)
   clear hn hb R43' R10' B6
   simp only
   go_wp2_with fail
   refine (wimplelaw23_Plain.calls _ _ _ _ _ _ _ _ _ _ _ w7 rfl).mono ?_
   rintro e w8 ⟨v0, v10, rfl, R43, R10, hb⟩
   have R43' := Aside0.mk R43
   have R10' := Aside0.mk R10
   have B8 := Aside0.mk (below_then B7.out B7.out.size hb)
   clear R43 R10 hb B7
   simp only
   go_wp2_with fail
   have hn := new_plain_bad R43'.out R10'.out w8 (Below.refl _ _) 1 (65535 + D) ⟨#[0]⟩ z34 2200 (task_big _ (by omega)) (Or.inr (by omega))
   unfold cfg at hn
   refine hn.mono ?_
   rintro e w9 ⟨rfl, hb⟩
   have B9 := Aside0.mk (below_then B8.out B8.out.size hb)
   clear hn hb R43' R10' B8
   simp only
   go_wp2_with fail
   refine (wimplelaw0_Num.calls 2300 2300 _ rfl).mono ?_
   rintro e w10 ⟨rfl, ⟨n1, rfl⟩⟩
   simp only
   go_wp2_with fail
   refine (wimplelaw0_Num.calls 2300 2300 _ rfl).mono ?_
   rintro e w11 ⟨rfl, ⟨n2, rfl⟩⟩
   simp only
   go_wp2_with fail
   refine (wimplelaw0_Num.calls 2300 2300 _ rfl).mono ?_
   rintro e w12 ⟨rfl, ⟨n3, rfl⟩⟩
   simp only
   go_wp2_with fail
   refine (wimplelaw0_Num.calls 2300 2300 _ rfl).mono ?_
   rintro e w13 ⟨rfl, ⟨n4, rfl⟩⟩
   simp only
   go_wp2_with fail
   go_ret
   exact ⟨rfl, by repeat (first | exact B9.out | apply pw_below_drewN)⟩
  case inr.inr.inr.inr.inr.inr.inr.inr.inl =>
   simp only
   go_wp2_with fail
   have hD : 1 ≤ wrap64 (1 + bits BinOp.and IntKind.i64 x 63) ∧ wrap64 (1 + bits BinOp.and IntKind.i64 x 63) ≤ 64 := by rw [and63, show wrap64 (1 + x % 64) = 1 + x % 64 from IntWalk.wrap64_in _ (by omega)]; omega
   generalize wrap64 (1 + bits BinOp.and IntKind.i64 x 63) = D at *
   generalize hW : w2.alloc _ = W2
   have BW : Below w2.heap.size w2 W2 := by rw [← hW]; exact below_alloc (Below.refl _ _) _
   clear hW
   have hn := new_no R43'.out R10'.out W2 BW 20 4 (wrap64 (64 + D)) 2 3 5 2 10 4 (by rw [IntWalk.wrap64_in (64 + D) (by omega)]; omega)
   unfold cfg at hn
   refine hn.mono ?_
   rintro e w3 ⟨rfl, hb⟩
   have B3 := Aside0.mk (below_then (below_then B2.out B2.out.size BW) (below_then B2.out B2.out.size BW).size hb)
   clear hn hb BW R43' R10' B2
   simp only
   go_wp2_with fail
   refine (wimplelaw23_Plain.calls _ _ _ _ _ _ _ _ _ _ _ w3 rfl).mono ?_
   rintro e w4 ⟨v0, v10, rfl, R43, R10, hb⟩
   have R43' := Aside0.mk R43
   have R10' := Aside0.mk R10
   have B4 := Aside0.mk (below_then B3.out B3.out.size hb)
   clear R43 R10 hb B3
   simp only
   go_wp2_with fail
   have hn := new_plain_bad R43'.out R10'.out w4 (Below.refl _ _) (1 - D) 1 ⟨#[0]⟩ ⟨⟨#[0]⟩, 1, ⟨#[0]⟩, ⟨#[0]⟩, 0, false, 0, 0⟩ 0 task_0 (Or.inl (by omega))
   unfold cfg at hn
   refine hn.mono ?_
   rintro e w5 ⟨rfl, hb⟩
   have B5 := Aside0.mk (below_then B4.out B4.out.size hb)
   clear hn hb R43' R10' B4
   simp only
   go_wp2_with fail
   refine (wimplelaw23_Plain.calls _ _ _ _ _ _ _ _ _ _ _ w5 rfl).mono ?_
   rintro e w6 ⟨v0, v10, rfl, R43, R10, hb⟩
   have R43' := Aside0.mk R43
   have R10' := Aside0.mk R10
   have B6 := Aside0.mk (below_then B5.out B5.out.size hb)
   clear R43 R10 hb B5
   simp only
   go_wp2_with fail
   have hn := new_plain_bad R43'.out R10'.out w6 (Below.refl _ _) 1 1 ⟨#[]⟩ z34 2200 task_e (Or.inr (by omega))
   unfold cfg at hn
   refine hn.mono ?_
   rintro e w7 ⟨rfl, hb⟩
   have B7 := Aside0.mk (below_then B6.out B6.out.size hb)
   clear hn hb R43' R10' B6
   simp only
   go_wp2_with fail
   refine (wimplelaw23_Plain.calls _ _ _ _ _ _ _ _ _ _ _ w7 rfl).mono ?_
   rintro e w8 ⟨v0, v10, rfl, R43, R10, hb⟩
   have R43' := Aside0.mk R43
   have R10' := Aside0.mk R10
   have B8 := Aside0.mk (below_then B7.out B7.out.size hb)
   clear R43 R10 hb B7
   simp only
   go_wp2_with fail
   have hn := new_plain_bad R43'.out R10'.out w8 (Below.refl _ _) 1 (65535 + D) ⟨#[0]⟩ z34 2200 (task_big _ (by omega)) (Or.inr (by omega))
   unfold cfg at hn
   refine hn.mono ?_
   rintro e w9 ⟨rfl, hb⟩
   have B9 := Aside0.mk (below_then B8.out B8.out.size hb)
   clear hn hb R43' R10' B8
   simp only
   go_wp2_with fail
   refine (wimplelaw0_Num.calls 2300 2300 _ rfl).mono ?_
   rintro e w10 ⟨rfl, ⟨n1, rfl⟩⟩
   simp only
   go_wp2_with fail
   refine (wimplelaw0_Num.calls 2300 2300 _ rfl).mono ?_
   rintro e w11 ⟨rfl, ⟨n2, rfl⟩⟩
   simp only
   go_wp2_with fail
   refine (wimplelaw0_Num.calls 2300 2300 _ rfl).mono ?_
   rintro e w12 ⟨rfl, ⟨n3, rfl⟩⟩
   simp only
   go_wp2_with fail
   refine (wimplelaw0_Num.calls 2300 2300 _ rfl).mono ?_
   rintro e w13 ⟨rfl, ⟨n4, rfl⟩⟩
   simp only
   go_wp2_with fail
   go_ret
   exact ⟨rfl, by repeat (first | exact B9.out | apply pw_below_drewN)⟩
  case inr.inr.inr.inr.inr.inr.inr.inr.inr.inl =>
   simp only
   go_wp2_with fail
   have hD : 1 ≤ wrap64 (1 + bits BinOp.and IntKind.i64 x 63) ∧ wrap64 (1 + bits BinOp.and IntKind.i64 x 63) ≤ 64 := by rw [and63, show wrap64 (1 + x % 64) = 1 + x % 64 from IntWalk.wrap64_in _ (by omega)]; omega
   generalize wrap64 (1 + bits BinOp.and IntKind.i64 x 63) = D at *
   generalize hW : w2.alloc _ = W2
   have BW : Below w2.heap.size w2 W2 := by rw [← hW]; exact below_alloc (Below.refl _ _) _
   clear hW
   have hn := new_no R43'.out R10'.out W2 BW 20 4 (wrap64 (1 - D)) 2 3 5 2 10 4 (by rw [IntWalk.wrap64_in (1 - D) (by omega)]; omega)
   unfold cfg at hn
   refine hn.mono ?_
   rintro e w3 ⟨rfl, hb⟩
   have B3 := Aside0.mk (below_then (below_then B2.out B2.out.size BW) (below_then B2.out B2.out.size BW).size hb)
   clear hn hb BW R43' R10' B2
   simp only
   go_wp2_with fail
   refine (wimplelaw23_Plain.calls _ _ _ _ _ _ _ _ _ _ _ w3 rfl).mono ?_
   rintro e w4 ⟨v0, v10, rfl, R43, R10, hb⟩
   have R43' := Aside0.mk R43
   have R10' := Aside0.mk R10
   have B4 := Aside0.mk (below_then B3.out B3.out.size hb)
   clear R43 R10 hb B3
   simp only
   go_wp2_with fail
   have hn := new_plain_bad R43'.out R10'.out w4 (Below.refl _ _) (1 - D) 1 ⟨#[0]⟩ ⟨⟨#[0]⟩, 1, ⟨#[0]⟩, ⟨#[0]⟩, 0, false, 0, 0⟩ 0 task_0 (Or.inl (by omega))
   unfold cfg at hn
   refine hn.mono ?_
   rintro e w5 ⟨rfl, hb⟩
   have B5 := Aside0.mk (below_then B4.out B4.out.size hb)
   clear hn hb R43' R10' B4
   simp only
   go_wp2_with fail
   refine (wimplelaw23_Plain.calls _ _ _ _ _ _ _ _ _ _ _ w5 rfl).mono ?_
   rintro e w6 ⟨v0, v10, rfl, R43, R10, hb⟩
   have R43' := Aside0.mk R43
   have R10' := Aside0.mk R10
   have B6 := Aside0.mk (below_then B5.out B5.out.size hb)
   clear R43 R10 hb B5
   simp only
   go_wp2_with fail
   have hn := new_plain_bad R43'.out R10'.out w6 (Below.refl _ _) 1 1 ⟨#[]⟩ z34 2200 task_e (Or.inr (by omega))
   unfold cfg at hn
   refine hn.mono ?_
   rintro e w7 ⟨rfl, hb⟩
   have B7 := Aside0.mk (below_then B6.out B6.out.size hb)
   clear hn hb R43' R10' B6
   simp only
   go_wp2_with fail
   refine (wimplelaw23_Plain.calls _ _ _ _ _ _ _ _ _ _ _ w7 rfl).mono ?_
   rintro e w8 ⟨v0, v10, rfl, R43, R10, hb⟩
   have R43' := Aside0.mk R43
   have R10' := Aside0.mk R10
   have B8 := Aside0.mk (below_then B7.out B7.out.size hb)
   clear R43 R10 hb B7
   simp only
   go_wp2_with fail
   have hn := new_plain_bad R43'.out R10'.out w8 (Below.refl _ _) 1 (65535 + D) ⟨#[0]⟩ z34 2200 (task_big _ (by omega)) (Or.inr (by omega))
   unfold cfg at hn
   refine hn.mono ?_
   rintro e w9 ⟨rfl, hb⟩
   have B9 := Aside0.mk (below_then B8.out B8.out.size hb)
   clear hn hb R43' R10' B8
   simp only
   go_wp2_with fail
   refine (wimplelaw0_Num.calls 2300 2300 _ rfl).mono ?_
   rintro e w10 ⟨rfl, ⟨n1, rfl⟩⟩
   simp only
   go_wp2_with fail
   refine (wimplelaw0_Num.calls 2300 2300 _ rfl).mono ?_
   rintro e w11 ⟨rfl, ⟨n2, rfl⟩⟩
   simp only
   go_wp2_with fail
   refine (wimplelaw0_Num.calls 2300 2300 _ rfl).mono ?_
   rintro e w12 ⟨rfl, ⟨n3, rfl⟩⟩
   simp only
   go_wp2_with fail
   refine (wimplelaw0_Num.calls 2300 2300 _ rfl).mono ?_
   rintro e w13 ⟨rfl, ⟨n4, rfl⟩⟩
   simp only
   go_wp2_with fail
   go_ret
   exact ⟨rfl, by repeat (first | exact B9.out | apply pw_below_drewN)⟩
  case inr.inr.inr.inr.inr.inr.inr.inr.inr.inr.inl =>
   simp only
   go_wp2_with fail
   have hD : 1 ≤ wrap64 (1 + bits BinOp.and IntKind.i64 x 63) ∧ wrap64 (1 + bits BinOp.and IntKind.i64 x 63) ≤ 64 := by rw [and63, show wrap64 (1 + x % 64) = 1 + x % 64 from IntWalk.wrap64_in _ (by omega)]; omega
   generalize wrap64 (1 + bits BinOp.and IntKind.i64 x 63) = D at *
   generalize hW : w2.alloc _ = W2
   have BW : Below w2.heap.size w2 W2 := by rw [← hW]; exact below_alloc (Below.refl _ _) _
   clear hW
   have hn := new_no R43'.out R10'.out W2 BW 20 4 20 (wrap64 (4 + D)) 3 5 2 10 4 (by rw [IntWalk.wrap64_in (4 + D) (by omega)]; omega)
   unfold cfg at hn
   refine hn.mono ?_
   rintro e w3 ⟨rfl, hb⟩
   have B3 := Aside0.mk (below_then (below_then B2.out B2.out.size BW) (below_then B2.out B2.out.size BW).size hb)
   clear hn hb BW R43' R10' B2
   simp only
   go_wp2_with fail
   refine (wimplelaw23_Plain.calls _ _ _ _ _ _ _ _ _ _ _ w3 rfl).mono ?_
   rintro e w4 ⟨v0, v10, rfl, R43, R10, hb⟩
   have R43' := Aside0.mk R43
   have R10' := Aside0.mk R10
   have B4 := Aside0.mk (below_then B3.out B3.out.size hb)
   clear R43 R10 hb B3
   simp only
   go_wp2_with fail
   have hn := new_plain_bad R43'.out R10'.out w4 (Below.refl _ _) (1 - D) 1 ⟨#[0]⟩ ⟨⟨#[0]⟩, 1, ⟨#[0]⟩, ⟨#[0]⟩, 0, false, 0, 0⟩ 0 task_0 (Or.inl (by omega))
   unfold cfg at hn
   refine hn.mono ?_
   rintro e w5 ⟨rfl, hb⟩
   have B5 := Aside0.mk (below_then B4.out B4.out.size hb)
   clear hn hb R43' R10' B4
   simp only
   go_wp2_with fail
   refine (wimplelaw23_Plain.calls _ _ _ _ _ _ _ _ _ _ _ w5 rfl).mono ?_
   rintro e w6 ⟨v0, v10, rfl, R43, R10, hb⟩
   have R43' := Aside0.mk R43
   have R10' := Aside0.mk R10
   have B6 := Aside0.mk (below_then B5.out B5.out.size hb)
   clear R43 R10 hb B5
   simp only
   go_wp2_with fail
   have hn := new_plain_bad R43'.out R10'.out w6 (Below.refl _ _) 1 1 ⟨#[]⟩ z34 2200 task_e (Or.inr (by omega))
   unfold cfg at hn
   refine hn.mono ?_
   rintro e w7 ⟨rfl, hb⟩
   have B7 := Aside0.mk (below_then B6.out B6.out.size hb)
   clear hn hb R43' R10' B6
   simp only
   go_wp2_with fail
   refine (wimplelaw23_Plain.calls _ _ _ _ _ _ _ _ _ _ _ w7 rfl).mono ?_
   rintro e w8 ⟨v0, v10, rfl, R43, R10, hb⟩
   have R43' := Aside0.mk R43
   have R10' := Aside0.mk R10
   have B8 := Aside0.mk (below_then B7.out B7.out.size hb)
   clear R43 R10 hb B7
   simp only
   go_wp2_with fail
   have hn := new_plain_bad R43'.out R10'.out w8 (Below.refl _ _) 1 (65535 + D) ⟨#[0]⟩ z34 2200 (task_big _ (by omega)) (Or.inr (by omega))
   unfold cfg at hn
   refine hn.mono ?_
   rintro e w9 ⟨rfl, hb⟩
   have B9 := Aside0.mk (below_then B8.out B8.out.size hb)
   clear hn hb R43' R10' B8
   simp only
   go_wp2_with fail
   refine (wimplelaw0_Num.calls 2300 2300 _ rfl).mono ?_
   rintro e w10 ⟨rfl, ⟨n1, rfl⟩⟩
   simp only
   go_wp2_with fail
   refine (wimplelaw0_Num.calls 2300 2300 _ rfl).mono ?_
   rintro e w11 ⟨rfl, ⟨n2, rfl⟩⟩
   simp only
   go_wp2_with fail
   refine (wimplelaw0_Num.calls 2300 2300 _ rfl).mono ?_
   rintro e w12 ⟨rfl, ⟨n3, rfl⟩⟩
   simp only
   go_wp2_with fail
   refine (wimplelaw0_Num.calls 2300 2300 _ rfl).mono ?_
   rintro e w13 ⟨rfl, ⟨n4, rfl⟩⟩
   simp only
   go_wp2_with fail
   go_ret
   exact ⟨rfl, by repeat (first | exact B9.out | apply pw_below_drewN)⟩
  case inr.inr.inr.inr.inr.inr.inr.inr.inr.inr.inr.inl =>
   simp only
   go_wp2_with fail
   have hD : 1 ≤ wrap64 (1 + bits BinOp.and IntKind.i64 x 63) ∧ wrap64 (1 + bits BinOp.and IntKind.i64 x 63) ≤ 64 := by rw [and63, show wrap64 (1 + x % 64) = 1 + x % 64 from IntWalk.wrap64_in _ (by omega)]; omega
   generalize wrap64 (1 + bits BinOp.and IntKind.i64 x 63) = D at *
   generalize hW : w2.alloc _ = W2
   have BW : Below w2.heap.size w2 W2 := by rw [← hW]; exact below_alloc (Below.refl _ _) _
   clear hW
   have hn := new_no R43'.out R10'.out W2 BW 20 4 20 2 (wrap64 (-D)) 5 2 10 4 (by rw [IntWalk.wrap64_in (-D) (by omega)]; omega)
   unfold cfg at hn
   refine hn.mono ?_
   rintro e w3 ⟨rfl, hb⟩
   have B3 := Aside0.mk (below_then (below_then B2.out B2.out.size BW) (below_then B2.out B2.out.size BW).size hb)
   clear hn hb BW R43' R10' B2
   simp only
   go_wp2_with fail
   refine (wimplelaw23_Plain.calls _ _ _ _ _ _ _ _ _ _ _ w3 rfl).mono ?_
   rintro e w4 ⟨v0, v10, rfl, R43, R10, hb⟩
   have R43' := Aside0.mk R43
   have R10' := Aside0.mk R10
   have B4 := Aside0.mk (below_then B3.out B3.out.size hb)
   clear R43 R10 hb B3
   simp only
   go_wp2_with fail
   have hn := new_plain_bad R43'.out R10'.out w4 (Below.refl _ _) (1 - D) 1 ⟨#[0]⟩ ⟨⟨#[0]⟩, 1, ⟨#[0]⟩, ⟨#[0]⟩, 0, false, 0, 0⟩ 0 task_0 (Or.inl (by omega))
   unfold cfg at hn
   refine hn.mono ?_
   rintro e w5 ⟨rfl, hb⟩
   have B5 := Aside0.mk (below_then B4.out B4.out.size hb)
   clear hn hb R43' R10' B4
   simp only
   go_wp2_with fail
   refine (wimplelaw23_Plain.calls _ _ _ _ _ _ _ _ _ _ _ w5 rfl).mono ?_
   rintro e w6 ⟨v0, v10, rfl, R43, R10, hb⟩
   have R43' := Aside0.mk R43
   have R10' := Aside0.mk R10
   have B6 := Aside0.mk (below_then B5.out B5.out.size hb)
   clear R43 R10 hb B5
   simp only
   go_wp2_with fail
   have hn := new_plain_bad R43'.out R10'.out w6 (Below.refl _ _) 1 1 ⟨#[]⟩ z34 2200 task_e (Or.inr (by omega))
   unfold cfg at hn
   refine hn.mono ?_
   rintro e w7 ⟨rfl, hb⟩
   have B7 := Aside0.mk (below_then B6.out B6.out.size hb)
   clear hn hb R43' R10' B6
   simp only
   go_wp2_with fail
   refine (wimplelaw23_Plain.calls _ _ _ _ _ _ _ _ _ _ _ w7 rfl).mono ?_
   rintro e w8 ⟨v0, v10, rfl, R43, R10, hb⟩
   have R43' := Aside0.mk R43
   have R10' := Aside0.mk R10
   have B8 := Aside0.mk (below_then B7.out B7.out.size hb)
   clear R43 R10 hb B7
   simp only
   go_wp2_with fail
   have hn := new_plain_bad R43'.out R10'.out w8 (Below.refl _ _) 1 (65535 + D) ⟨#[0]⟩ z34 2200 (task_big _ (by omega)) (Or.inr (by omega))
   unfold cfg at hn
   refine hn.mono ?_
   rintro e w9 ⟨rfl, hb⟩
   have B9 := Aside0.mk (below_then B8.out B8.out.size hb)
   clear hn hb R43' R10' B8
   simp only
   go_wp2_with fail
   refine (wimplelaw0_Num.calls 2300 2300 _ rfl).mono ?_
   rintro e w10 ⟨rfl, ⟨n1, rfl⟩⟩
   simp only
   go_wp2_with fail
   refine (wimplelaw0_Num.calls 2300 2300 _ rfl).mono ?_
   rintro e w11 ⟨rfl, ⟨n2, rfl⟩⟩
   simp only
   go_wp2_with fail
   refine (wimplelaw0_Num.calls 2300 2300 _ rfl).mono ?_
   rintro e w12 ⟨rfl, ⟨n3, rfl⟩⟩
   simp only
   go_wp2_with fail
   refine (wimplelaw0_Num.calls 2300 2300 _ rfl).mono ?_
   rintro e w13 ⟨rfl, ⟨n4, rfl⟩⟩
   simp only
   go_wp2_with fail
   go_ret
   exact ⟨rfl, by repeat (first | exact B9.out | apply pw_below_drewN)⟩
  case inr.inr.inr.inr.inr.inr.inr.inr.inr.inr.inr.inr.inl =>
   simp only
   go_wp2_with fail
   have hD : 1 ≤ wrap64 (1 + bits BinOp.and IntKind.i64 x 63) ∧ wrap64 (1 + bits BinOp.and IntKind.i64 x 63) ≤ 64 := by rw [and63, show wrap64 (1 + x % 64) = 1 + x % 64 from IntWalk.wrap64_in _ (by omega)]; omega
   generalize wrap64 (1 + bits BinOp.and IntKind.i64 x 63) = D at *
   generalize hW : w2.alloc _ = W2
   have BW : Below w2.heap.size w2 W2 := by rw [← hW]; exact below_alloc (Below.refl _ _) _
   clear hW
   have hn := new_no R43'.out R10'.out W2 BW 20 4 20 2 (wrap64 (8 + D)) 5 2 10 4 (by rw [IntWalk.wrap64_in (8 + D) (by omega)]; omega)
   unfold cfg at hn
   refine hn.mono ?_
   rintro e w3 ⟨rfl, hb⟩
   have B3 := Aside0.mk (below_then (below_then B2.out B2.out.size BW) (below_then B2.out B2.out.size BW).size hb)
   clear hn hb BW R43' R10' B2
   simp only
   go_wp2_with fail
   refine (wimplelaw23_Plain.calls _ _ _ _ _ _ _ _ _ _ _ w3 rfl).mono ?_
   rintro e w4 ⟨v0, v10, rfl, R43, R10, hb⟩
   have R43' := Aside0.mk R43
   have R10' := Aside0.mk R10
   have B4 := Aside0.mk (below_then B3.out B3.out.size hb)
   clear R43 R10 hb B3
   simp only
   go_wp2_with fail
   have hn := new_plain_bad R43'.out R10'.out w4 (Below.refl _ _) (1 - D) 1 ⟨#[0]⟩ ⟨⟨#[0]⟩, 1, ⟨#[0]⟩, ⟨#[0]⟩, 0, false, 0, 0⟩ 0 task_0 (Or.inl (by omega))
   unfold cfg at hn
   refine hn.mono ?_
   rintro e w5 ⟨rfl, hb⟩
   have B5 := Aside0.mk (below_then B4.out B4.out.size hb)
   clear hn hb R43' R10' B4
   simp only
   go_wp2_with fail
   refine (wimplelaw23_Plain.calls _ _ _ _ _ _ _ _ _ _ _ w5 rfl).mono ?_
   rintro e w6 ⟨v0, v10, rfl, R43, R10, hb⟩
   have R43' := Aside0.mk R43
   have R10' := Aside0.mk R10
   have B6 := Aside0.mk (below_then B5.out B5.out.size hb)
   clear R43 R10 hb B5
   simp only
   go_wp2_with fail
   have hn := new_plain_bad R43'.out R10'.out w6 (Below.refl _ _) 1 1 ⟨#[]⟩ z34 2200 task_e (Or.inr (by omega))
   unfold cfg at hn
   refine hn.mono ?_
   rintro e w7 ⟨rfl, hb⟩
   have B7 := Aside0.mk (below_then B6.out B6.out.size hb)
   clear hn hb R43' R10' B6
   simp only
   go_wp2_with fail
   refine (wimplelaw23_Plain.calls _ _ _ _ _ _ _ _ _ _ _ w7 rfl).mono ?_
   rintro e w8 ⟨v0, v10, rfl, R43, R10, hb⟩
   have R43' := Aside0.mk R43
   have R10' := Aside0.mk R10
   have B8 := Aside0.mk (below_then B7.out B7.out.size hb)
   clear R43 R10 hb B7
   simp only
   go_wp2_with fail
   have hn := new_plain_bad R43'.out R10'.out w8 (Below.refl _ _) 1 (65535 + D) ⟨#[0]⟩ z34 2200 (task_big _ (by omega)) (Or.inr (by omega))
   unfold cfg at hn
   refine hn.mono ?_
   rintro e w9 ⟨rfl, hb⟩
   have B9 := Aside0.mk (below_then B8.out B8.out.size hb)
   clear hn hb R43' R10' B8
   simp only
   go_wp2_with fail
   refine (wimplelaw0_Num.calls 2300 2300 _ rfl).mono ?_
   rintro e w10 ⟨rfl, ⟨n1, rfl⟩⟩
   simp only
   go_wp2_with fail
   refine (wimplelaw0_Num.calls 2300 2300 _ rfl).mono ?_
   rintro e w11 ⟨rfl, ⟨n2, rfl⟩⟩
   simp only
   go_wp2_with fail
   refine (wimplelaw0_Num.calls 2300 2300 _ rfl).mono ?_
   rintro e w12 ⟨rfl, ⟨n3, rfl⟩⟩
   simp only
   go_wp2_with fail
   refine (wimplelaw0_Num.calls 2300 2300 _ rfl).mono ?_
   rintro e w13 ⟨rfl, ⟨n4, rfl⟩⟩
   simp only
   go_wp2_with fail
   go_ret
   exact ⟨rfl, by repeat (first | exact B9.out | apply pw_below_drewN)⟩
  case inr.inr.inr.inr.inr.inr.inr.inr.inr.inr.inr.inr.inr.inr.inl =>
   simp only
   go_wp2_with fail
   have hD : 1 ≤ wrap64 (1 + bits BinOp.and IntKind.i64 x 63) ∧ wrap64 (1 + bits BinOp.and IntKind.i64 x 63) ≤ 64 := by rw [and63, show wrap64 (1 + x % 64) = 1 + x % 64 from IntWalk.wrap64_in _ (by omega)]; omega
   generalize wrap64 (1 + bits BinOp.and IntKind.i64 x 63) = D at *
   generalize hW : w2.alloc _ = W2
   have BW : Below w2.heap.size w2 W2 := by rw [← hW]; exact below_alloc (Below.refl _ _) _
   clear hW
   have hn := new_no R43'.out R10'.out W2 BW 20 4 20 2 3 5 (wrap64 (8 + D)) 10 4 (by rw [IntWalk.wrap64_in (8 + D) (by omega)]; omega)
   unfold cfg at hn
   refine hn.mono ?_
   rintro e w3 ⟨rfl, hb⟩
   have B3 := Aside0.mk (below_then (below_then B2.out B2.out.size BW) (below_then B2.out B2.out.size BW).size hb)
   clear hn hb BW R43' R10' B2
   simp only
   go_wp2_with fail
   refine (wimplelaw23_Plain.calls _ _ _ _ _ _ _ _ _ _ _ w3 rfl).mono ?_
   rintro e w4 ⟨v0, v10, rfl, R43, R10, hb⟩
   have R43' := Aside0.mk R43
   have R10' := Aside0.mk R10
   have B4 := Aside0.mk (below_then B3.out B3.out.size hb)
   clear R43 R10 hb B3
   simp only
   go_wp2_with fail
   have hn := new_plain_bad R43'.out R10'.out w4 (Below.refl _ _) (1 - D) 1 ⟨#[0]⟩ ⟨⟨#[0]⟩, 1, ⟨#[0]⟩, ⟨#[0]⟩, 0, false, 0, 0⟩ 0 task_0 (Or.inl (by omega))
   unfold cfg at hn
   refine hn.mono ?_
   rintro e w5 ⟨rfl, hb⟩
   have B5 := Aside0.mk (below_then B4.out B4.out.size hb)
   clear hn hb R43' R10' B4
   simp only
   go_wp2_with fail
   refine (wimplelaw23_Plain.calls _ _ _ _ _ _ _ _ _ _ _ w5 rfl).mono ?_
   rintro e w6 ⟨v0, v10, rfl, R43, R10, hb⟩
   have R43' := Aside0.mk R43
   have R10' := Aside0.mk R10
   have B6 := Aside0.mk (below_then B5.out B5.out.size hb)
   clear R43 R10 hb B5
   simp only
   go_wp2_with fail
   have hn := new_plain_bad R43'.out R10'.out w6 (Below.refl _ _) 1 1 ⟨#[]⟩ z34 2200 task_e (Or.inr (by omega))
   unfold cfg at hn
   refine hn.mono ?_
   rintro e w7 ⟨rfl, hb⟩
   have B7 := Aside0.mk (below_then B6.out B6.out.size hb)
   clear hn hb R43' R10' B6
   simp only
   go_wp2_with fail
   refine (wimplelaw23_Plain.calls _ _ _ _ _ _ _ _ _ _ _ w7 rfl).mono ?_
   rintro e w8 ⟨v0, v10, rfl, R43, R10, hb⟩
   have R43' := Aside0.mk R43
   have R10' := Aside0.mk R10
   have B8 := Aside0.mk (below_then B7.out B7.out.size hb)
   clear R43 R10 hb B7
   simp only
   go_wp2_with fail
   have hn := new_plain_bad R43'.out R10'.out w8 (Below.refl _ _) 1 (65535 + D) ⟨#[0]⟩ z34 2200 (task_big _ (by omega)) (Or.inr (by omega))
   unfold cfg at hn
   refine hn.mono ?_
   rintro e w9 ⟨rfl, hb⟩
   have B9 := Aside0.mk (below_then B8.out B8.out.size hb)
   clear hn hb R43' R10' B8
   simp only
   go_wp2_with fail
   refine (wimplelaw0_Num.calls 2300 2300 _ rfl).mono ?_
   rintro e w10 ⟨rfl, ⟨n1, rfl⟩⟩
   simp only
   go_wp2_with fail
   refine (wimplelaw0_Num.calls 2300 2300 _ rfl).mono ?_
   rintro e w11 ⟨rfl, ⟨n2, rfl⟩⟩
   simp only
   go_wp2_with fail
   refine (wimplelaw0_Num.calls 2300 2300 _ rfl).mono ?_
   rintro e w12 ⟨rfl, ⟨n3, rfl⟩⟩
   simp only
   go_wp2_with fail
   refine (wimplelaw0_Num.calls 2300 2300 _ rfl).mono ?_
   rintro e w13 ⟨rfl, ⟨n4, rfl⟩⟩
   simp only
   go_wp2_with fail
   go_ret
   exact ⟨rfl, by repeat (first | exact B9.out | apply pw_below_drewN)⟩
  case inr.inr.inr.inr.inr.inr.inr.inr.inr.inr.inr.inr.inr.inr.inr.inl =>
   simp only
   go_wp2_with fail
   have hD : 1 ≤ wrap64 (1 + bits BinOp.and IntKind.i64 x 63) ∧ wrap64 (1 + bits BinOp.and IntKind.i64 x 63) ≤ 64 := by rw [and63, show wrap64 (1 + x % 64) = 1 + x % 64 from IntWalk.wrap64_in _ (by omega)]; omega
   generalize wrap64 (1 + bits BinOp.and IntKind.i64 x 63) = D at *
   generalize hW : w2.alloc _ = W2
   have BW : Below w2.heap.size w2 W2 := by rw [← hW]; exact below_alloc (Below.refl _ _) _
   clear hW
   have hn := new_no R43'.out R10'.out W2 BW 20 4 20 2 3 5 2 (wrap64 (16 + D)) 4 (by rw [IntWalk.wrap64_in (16 + D) (by omega)]; omega)
   unfold cfg at hn
   refine hn.mono ?_
   rintro e w3 ⟨rfl, hb⟩
   have B3 := Aside0.mk (below_then (below_then B2.out B2.out.size BW) (below_then B2.out B2.out.size BW).size hb)
   clear hn hb BW R43' R10' B2
   simp only
   go_wp2_with fail
   refine (wimplelaw23_Plain.calls _ _ _ _ _ _ _ _ _ _ _ w3 rfl).mono ?_
   rintro e w4 ⟨v0, v10, rfl, R43, R10, hb⟩
   have R43' := Aside0.mk R43
   have R10' := Aside0.mk R10
   have B4 := Aside0.mk (below_then B3.out B3.out.size hb)
   clear R43 R10 hb B3
   simp only
   go_wp2_with fail
   have hn := new_plain_bad R43'.out R10'.out w4 (Below.refl _ _) (1 - D) 1 ⟨#[0]⟩ ⟨⟨#[0]⟩, 1, ⟨#[0]⟩, ⟨#[0]⟩, 0, false, 0, 0⟩ 0 task_0 (Or.inl (by omega))
   unfold cfg at hn
   refine hn.mono ?_
   rintro e w5 ⟨rfl, hb⟩
   have B5 := Aside0.mk (below_then B4.out B4.out.size hb)
   clear hn hb R43' R10' B4
   simp only
   go_wp2_with fail
   refine (wimplelaw23_Plain.calls _ _ _ _ _ _ _ _ _ _ _ w5 rfl).mono ?_
   rintro e w6 ⟨v0, v10, rfl, R43, R10, hb⟩
   have R43' := Aside0.mk R43
   have R10' := Aside0.mk R10
   have B6 := Aside0.mk (below_then B5.out B5.out.size hb)
   clear R43 R10 hb B5
   simp only
   go_wp2_with fail
   have hn := new_plain_bad R43'.out R10'.out w6 (Below.refl _ _) 1 1 ⟨#[]⟩ z34 2200 task_e (Or.inr (by omega))
   unfold cfg at hn
   refine hn.mono ?_
   rintro e w7 ⟨rfl, hb⟩
   have B7 := Aside0.mk (below_then B6.out B6.out.size hb)
   clear hn hb R43' R10' B6
   simp only
   go_wp2_with fail
   refine (wimplelaw23_Plain.calls _ _ _ _ _ _ _ _ _ _ _ w7 rfl).mono ?_
   rintro e w8 ⟨v0, v10, rfl, R43, R10, hb⟩
   have R43' := Aside0.mk R43
   have R10' := Aside0.mk R10
   have B8 := Aside0.mk (below_then B7.out B7.out.size hb)
   clear R43 R10 hb B7
   simp only
   go_wp2_with fail
   have hn := new_plain_bad R43'.out R10'.out w8 (Below.refl _ _) 1 (65535 + D) ⟨#[0]⟩ z34 2200 (task_big _ (by omega)) (Or.inr (by omega))
   unfold cfg at hn
   refine hn.mono ?_
   rintro e w9 ⟨rfl, hb⟩
   have B9 := Aside0.mk (below_then B8.out B8.out.size hb)
   clear hn hb R43' R10' B8
   simp only
   go_wp2_with fail
   refine (wimplelaw0_Num.calls 2300 2300 _ rfl).mono ?_
   rintro e w10 ⟨rfl, ⟨n1, rfl⟩⟩
   simp only
   go_wp2_with fail
   refine (wimplelaw0_Num.calls 2300 2300 _ rfl).mono ?_
   rintro e w11 ⟨rfl, ⟨n2, rfl⟩⟩
   simp only
   go_wp2_with fail
   refine (wimplelaw0_Num.calls 2300 2300 _ rfl).mono ?_
   rintro e w12 ⟨rfl, ⟨n3, rfl⟩⟩
   simp only
   go_wp2_with fail
   refine (wimplelaw0_Num.calls 2300 2300 _ rfl).mono ?_
   rintro e w13 ⟨rfl, ⟨n4, rfl⟩⟩
   simp only
   go_wp2_with fail
   go_ret
   exact ⟨rfl, by repeat (first | exact B9.out | apply pw_below_drewN)⟩
  case inr.inr.inr.inr.inr.inr.inr.inr.inr.inr.inr.inr.inr.inr.inr.inr.inl =>
   simp only
   go_wp2_with fail
   have hD : 1 ≤ wrap64 (1 + bits BinOp.and IntKind.i64 x 63) ∧ wrap64 (1 + bits BinOp.and IntKind.i64 x 63) ≤ 64 := by rw [and63, show wrap64 (1 + x % 64) = 1 + x % 64 from IntWalk.wrap64_in _ (by omega)]; omega
   generalize wrap64 (1 + bits BinOp.and IntKind.i64 x 63) = D at *
   generalize hW : w2.alloc _ = W2
   have BW : Below w2.heap.size w2 W2 := by rw [← hW]; exact below_alloc (Below.refl _ _) _
   clear hW
   have hn := new_no R43'.out R10'.out W2 BW 20 4 20 2 3 5 2 10 (wrap64 (-D)) (by rw [IntWalk.wrap64_in (-D) (by omega)]; omega)
   unfold cfg at hn
   refine hn.mono ?_
   rintro e w3 ⟨rfl, hb⟩
   have B3 := Aside0.mk (below_then (below_then B2.out B2.out.size BW) (below_then B2.out B2.out.size BW).size hb)
   clear hn hb BW R43' R10' B2
   simp only
   go_wp2_with fail
   refine (wimplelaw23_Plain.calls _ _ _ _ _ _ _ _ _ _ _ w3 rfl).mono ?_
   rintro e w4 ⟨v0, v10, rfl, R43, R10, hb⟩
   have R43' := Aside0.mk R43
   have R10' := Aside0.mk R10
   have B4 := Aside0.mk (below_then B3.out B3.out.size hb)
   clear R43 R10 hb B3
   simp only
   go_wp2_with fail
   have hn := new_plain_bad R43'.out R10'.out w4 (Below.refl _ _) (1 - D) 1 ⟨#[0]⟩ ⟨⟨#[0]⟩, 1, ⟨#[0]⟩, ⟨#[0]⟩, 0, false, 0, 0⟩ 0 task_0 (Or.inl (by omega))
   unfold cfg at hn
   refine hn.mono ?_
   rintro e w5 ⟨rfl, hb⟩
   have B5 := Aside0.mk (below_then B4.out B4.out.size hb)
   clear hn hb R43' R10' B4
   simp only
   go_wp2_with fail
   refine (wimplelaw23_Plain.calls _ _ _ _ _ _ _ _ _ _ _ w5 rfl).mono ?_
   rintro e w6 ⟨v0, v10, rfl, R43, R10, hb⟩
   have R43' := Aside0.mk R43
   have R10' := Aside0.mk R10
   have B6 := Aside0.mk (below_then B5.out B5.out.size hb)
   clear R43 R10 hb B5
   simp only
   go_wp2_with fail
   have hn := new_plain_bad R43'.out R10'.out w6 (Below.refl _ _) 1 1 ⟨#[]⟩ z34 2200 task_e (Or.inr (by omega))
   unfold cfg at hn
   refine hn.mono ?_
   rintro e w7 ⟨rfl, hb⟩
   have B7 := Aside0.mk (below_then B6.out B6.out.size hb)
   clear hn hb R43' R10' B6
   simp only
   go_wp2_with fail
   refine (wimplelaw23_Plain.calls _ _ _ _ _ _ _ _ _ _ _ w7 rfl).mono ?_
   rintro e w8 ⟨v0, v10, rfl, R43, R10, hb⟩
   have R43' := Aside0.mk R43
   have R10' := Aside0.mk R10
   have B8 := Aside0.mk (below_then B7.out B7.out.size hb)
   clear R43 R10 hb B7
   simp only
   go_wp2_with fail
   have hn := new_plain_bad R43'.out R10'.out w8 (Below.refl _ _) 1 (65535 + D) ⟨#[0]⟩ z34 2200 (task_big _ (by omega)) (Or.inr (by omega))
   unfold cfg at hn
   refine hn.mono ?_
   rintro e w9 ⟨rfl, hb⟩
   have B9 := Aside0.mk (below_then B8.out B8.out.size hb)
   clear hn hb R43' R10' B8
   simp only
   go_wp2_with fail
   refine (wimplelaw0_Num.calls 2300 2300 _ rfl).mono ?_
   rintro e w10 ⟨rfl, ⟨n1, rfl⟩⟩
   simp only
   go_wp2_with fail
   refine (wimplelaw0_Num.calls 2300 2300 _ rfl).mono ?_
   rintro e w11 ⟨rfl, ⟨n2, rfl⟩⟩
   simp only
   go_wp2_with fail
   refine (wimplelaw0_Num.calls 2300 2300 _ rfl).mono ?_
   rintro e w12 ⟨rfl, ⟨n3, rfl⟩⟩
   simp only
   go_wp2_with fail
   refine (wimplelaw0_Num.calls 2300 2300 _ rfl).mono ?_
   rintro e w13 ⟨rfl, ⟨n4, rfl⟩⟩
   simp only
   go_wp2_with fail
   go_ret
   exact ⟨rfl, by repeat (first | exact B9.out | apply pw_below_drewN)⟩
  case inr.inr.inr.inr.inr.inr.inr.inr.inr.inr.inr.inr.inr.inl =>
   have h01 : bits BinOp.and IntKind.i64 (wrap64 (1 + bits BinOp.and IntKind.i64 x 63)) 1 = 0 ∨ bits BinOp.and IntKind.i64 (wrap64 (1 + bits BinOp.and IntKind.i64 x 63)) 1 = 1 := by rw [and1]; omega
   rcases h01 with h01 | h01
   · simp only
     go_wp2_with fail
     have hD : 1 ≤ wrap64 (1 + bits BinOp.and IntKind.i64 x 63) ∧ wrap64 (1 + bits BinOp.and IntKind.i64 x 63) ≤ 64 := by rw [and63, show wrap64 (1 + x % 64) = 1 + x % 64 from IntWalk.wrap64_in _ (by omega)]; omega
     generalize wrap64 (1 + bits BinOp.and IntKind.i64 x 63) = D at *
     generalize hW : (w2.alloc _).alloc _ = W2
     have BW : Below w2.heap.size w2 W2 := by rw [← hW]; exact below_alloc (below_alloc (Below.refl _ _) _) _
     clear hW
     have hn := new_no R43'.out R10'.out W2 BW 20 4 20 2 3 (wrap64 (1 - D)) 2 10 4 (by rw [IntWalk.wrap64_in (1 - D) (by omega)]; omega)
     unfold cfg at hn
     refine hn.mono ?_
     rintro e w3 ⟨rfl, hb⟩
     have B3 := Aside0.mk (below_then (below_then B2.out B2.out.size BW) (below_then B2.out B2.out.size BW).size hb)
     clear hn hb BW R43' R10' B2
     simp only
     go_wp2_with fail
     refine (wimplelaw23_Plain.calls _ _ _ _ _ _ _ _ _ _ _ w3 rfl).mono ?_
     rintro e w4 ⟨v0, v10, rfl, R43, R10, hb⟩
     have R43' := Aside0.mk R43
     have R10' := Aside0.mk R10
     have B4 := Aside0.mk (below_then B3.out B3.out.size hb)
     clear R43 R10 hb B3
     simp only
     go_wp2_with fail
     have hn := new_plain_bad R43'.out R10'.out w4 (Below.refl _ _) (1 - D) 1 ⟨#[0]⟩ ⟨⟨#[0]⟩, 1, ⟨#[0]⟩, ⟨#[0]⟩, 0, false, 0, 0⟩ 0 task_0 (Or.inl (by omega))
     unfold cfg at hn
     refine hn.mono ?_
     rintro e w5 ⟨rfl, hb⟩
     have B5 := Aside0.mk (below_then B4.out B4.out.size hb)
     clear hn hb R43' R10' B4
     simp only
     go_wp2_with fail
     refine (wimplelaw23_Plain.calls _ _ _ _ _ _ _ _ _ _ _ w5 rfl).mono ?_
     rintro e w6 ⟨v0, v10, rfl, R43, R10, hb⟩
     have R43' := Aside0.mk R43
     have R10' := Aside0.mk R10
     have B6 := Aside0.mk (below_then B5.out B5.out.size hb)
     clear R43 R10 hb B5
     simp only
     go_wp2_with fail
     have hn := new_plain_bad R43'.out R10'.out w6 (Below.refl _ _) 1 1 ⟨#[]⟩ z34 2200 task_e (Or.inr (by omega))
     unfold cfg at hn
     refine hn.mono ?_
     rintro e w7 ⟨rfl, hb⟩
     have B7 := Aside0.mk (below_then B6.out B6.out.size hb)
     clear hn hb R43' R10' B6
     simp only
     go_wp2_with fail
     refine (wimplelaw23_Plain.calls _ _ _ _ _ _ _ _ _ _ _ w7 rfl).mono ?_
     rintro e w8 ⟨v0, v10, rfl, R43, R10, hb⟩
     have R43' := Aside0.mk R43
     have R10' := Aside0.mk R10
     have B8 := Aside0.mk (below_then B7.out B7.out.size hb)
     clear R43 R10 hb B7
     simp only
     go_wp2_with fail
     have hn := new_plain_bad R43'.out R10'.out w8 (Below.refl _ _) 1 (65535 + D) ⟨#[0]⟩ z34 2200 (task_big _ (by omega)) (Or.inr (by omega))
     unfold cfg at hn
     refine hn.mono ?_
     rintro e w9 ⟨rfl, hb⟩
     have B9 := Aside0.mk (below_then B8.out B8.out.size hb)
     clear hn hb R43' R10' B8
     simp only
     go_wp2_with fail
     refine (wimplelaw0_Num.calls 2300 2300 _ rfl).mono ?_
     rintro e w10 ⟨rfl, ⟨n1, rfl⟩⟩
     simp only
     go_wp2_with fail
     refine (wimplelaw0_Num.calls 2300 2300 _ rfl).mono ?_
     rintro e w11 ⟨rfl, ⟨n2, rfl⟩⟩
     simp only
     go_wp2_with fail
     refine (wimplelaw0_Num.calls 2300 2300 _ rfl).mono ?_
     rintro e w12 ⟨rfl, ⟨n3, rfl⟩⟩
     simp only
     go_wp2_with fail
     refine (wimplelaw0_Num.calls 2300 2300 _ rfl).mono ?_
     rintro e w13 ⟨rfl, ⟨n4, rfl⟩⟩
     simp only
     go_wp2_with fail
     go_ret
     exact ⟨rfl, by repeat (first | exact B9.out | apply pw_below_drewN)⟩
   · simp only
     go_wp2_with fail
     have hD : 1 ≤ wrap64 (1 + bits BinOp.and IntKind.i64 x 63) ∧ wrap64 (1 + bits BinOp.and IntKind.i64 x 63) ≤ 64 := by rw [and63, show wrap64 (1 + x % 64) = 1 + x % 64 from IntWalk.wrap64_in _ (by omega)]; omega
     generalize wrap64 (1 + bits BinOp.and IntKind.i64 x 63) = D at *
     generalize hW : (w2.alloc _).alloc _ = W2
     have BW : Below w2.heap.size w2 W2 := by rw [← hW]; exact below_alloc (below_alloc (Below.refl _ _) _) _
     clear hW
     have hn := new_no R43'.out R10'.out W2 BW 20 4 20 2 3 (wrap64 (1000 + D)) 2 10 4 (by rw [IntWalk.wrap64_in (1000 + D) (by omega)]; omega)
     unfold cfg at hn
     refine hn.mono ?_
     rintro e w3 ⟨rfl, hb⟩
     have B3 := Aside0.mk (below_then (below_then B2.out B2.out.size BW) (below_then B2.out B2.out.size BW).size hb)
     clear hn hb BW R43' R10' B2
     simp only
     go_wp2_with fail
     refine (wimplelaw23_Plain.calls _ _ _ _ _ _ _ _ _ _ _ w3 rfl).mono ?_
     rintro e w4 ⟨v0, v10, rfl, R43, R10, hb⟩
     have R43' := Aside0.mk R43
     have R10' := Aside0.mk R10
     have B4 := Aside0.mk (below_then B3.out B3.out.size hb)
     clear R43 R10 hb B3
     simp only
     go_wp2_with fail
     have hn := new_plain_bad R43'.out R10'.out w4 (Below.refl _ _) (1 - D) 1 ⟨#[0]⟩ ⟨⟨#[0]⟩, 1, ⟨#[0]⟩, ⟨#[0]⟩, 0, false, 0, 0⟩ 0 task_0 (Or.inl (by omega))
     unfold cfg at hn
     refine hn.mono ?_
     rintro e w5 ⟨rfl, hb⟩
     have B5 := Aside0.mk (below_then B4.out B4.out.size hb)
     clear hn hb R43' R10' B4
     simp only
     go_wp2_with fail
     refine (wimplelaw23_Plain.calls _ _ _ _ _ _ _ _ _ _ _ w5 rfl).mono ?_
     rintro e w6 ⟨v0, v10, rfl, R43, R10, hb⟩
     have R43' := Aside0.mk R43
     have R10' := Aside0.mk R10
     have B6 := Aside0.mk (below_then B5.out B5.out.size hb)
     clear R43 R10 hb B5
     simp only
     go_wp2_with fail
     have hn := new_plain_bad R43'.out R10'.out w6 (Below.refl _ _) 1 1 ⟨#[]⟩ z34 2200 task_e (Or.inr (by omega))
     unfold cfg at hn
     refine hn.mono ?_
     rintro e w7 ⟨rfl, hb⟩
     have B7 := Aside0.mk (below_then B6.out B6.out.size hb)
     clear hn hb R43' R10' B6
     simp only
     go_wp2_with fail
     refine (wimplelaw23_Plain.calls _ _ _ _ _ _ _ _ _ _ _ w7 rfl).mono ?_
     rintro e w8 ⟨v0, v10, rfl, R43, R10, hb⟩
     have R43' := Aside0.mk R43
     have R10' := Aside0.mk R10
     have B8 := Aside0.mk (below_then B7.out B7.out.size hb)
     clear R43 R10 hb B7
     simp only
     go_wp2_with fail
     have hn := new_plain_bad R43'.out R10'.out w8 (Below.refl _ _) 1 (65535 + D) ⟨#[0]⟩ z34 2200 (task_big _ (by omega)) (Or.inr (by omega))
     unfold cfg at hn
     refine hn.mono ?_
     rintro e w9 ⟨rfl, hb⟩
     have B9 := Aside0.mk (below_then B8.out B8.out.size hb)
     clear hn hb R43' R10' B8
     simp only
     go_wp2_with fail
     refine (wimplelaw0_Num.calls 2300 2300 _ rfl).mono ?_
     rintro e w10 ⟨rfl, ⟨n1, rfl⟩⟩
     simp only
     go_wp2_with fail
     refine (wimplelaw0_Num.calls 2300 2300 _ rfl).mono ?_
     rintro e w11 ⟨rfl, ⟨n2, rfl⟩⟩
     simp only
     go_wp2_with fail
     refine (wimplelaw0_Num.calls 2300 2300 _ rfl).mono ?_
     rintro e w12 ⟨rfl, ⟨n3, rfl⟩⟩
     simp only
     go_wp2_with fail
     refine (wimplelaw0_Num.calls 2300 2300 _ rfl).mono ?_
     rintro e w13 ⟨rfl, ⟨n4, rfl⟩⟩
     simp only
     go_wp2_with fail
     go_ret
     exact ⟨rfl, by repeat (first | exact B9.out | apply pw_below_drewN)⟩
  case inr.inr.inl =>
   obtain ⟨q, cq, eq1, hcq⟩ := hint_cells R43'.out
   obtain ⟨q2, cq2, eq2, hq2⟩ := Kd.R_form R43'.out (by simp)
   have eq3 : A0 = some ⟨q, 0, none⟩ ∧ c0 = cq := by injection eq1 with a1 a2 a3; exact ⟨a1, a3⟩
   obtain ⟨rfl, rfl⟩ := eq3
   have h0 : ∀ o, (w2.alloc o).cell? ⟨q, 0, none⟩ = some (.string ⟨#[1, 114, 0]⟩) := fun o => (hcq _ (below_alloc (Below.refl _ _) o)).1
   have h1 : ∀ o, (w2.alloc o).cell? ⟨q, 1, none⟩ = some (.int .i64 1) := fun o => (hcq _ (below_alloc (Below.refl _ _) o)).2
   have hq0 := hcq _ (Below.refl w2.heap.size w2)
   have HQ0 := Aside0.mk hq0
   obtain ⟨qcs, hqb⟩ := Kd.R_typed R43'.out q rfl
   have LQ : Aside0 (w.heap.size ≤ q) := ⟨by have e : q2 = q := by injection eq2 with a1 _ _; injection a1 with a1; injection a1 with a1; exact a1.symm
                                             rw [← e]; exact hq2.1⟩
   have fq : ∀ o i, (w2.alloc o).frozen? ⟨q, i, none⟩ = false := fun o i => blk_frozen (blk_alloc hqb o) i
   have nq : (q = w2.heap.size) = False := eq_false (by have := blk_lt hqb; omega)
   have nq' : (w2.heap.size = q) = False := eq_false (by have := blk_lt hqb; omega)
   clear hcq hq2 eq1 eq2 hq0
   simp only
   go_wp2_with fail
   have hD : 1 ≤ wrap64 (1 + bits BinOp.and IntKind.i64 x 63) ∧ wrap64 (1 + bits BinOp.and IntKind.i64 x 63) ≤ 64 := by rw [and63, show wrap64 (1 + x % 64) = 1 + x % 64 from IntWalk.wrap64_in _ (by omega)]; omega
   generalize wrap64 (1 + bits BinOp.and IntKind.i64 x 63) = D at *
   generalize hA : w2.alloc _ = WA
   have a0 : WA.cell? ⟨q, 0, none⟩ = some (.string ⟨#[1, 114, 0]⟩) := by rw [← hA]; exact h0 _
   have a1 : WA.cell? ⟨q, 1, none⟩ = some (.int .i64 1) := by rw [← hA]; exact h1 _
   have BA : Below w.heap.size w WA := by rw [← hA]; exact B2.out.alloc B2.out.size _
   clear nq nq' fq h0 h1 hqb hA
   have BW := (BA.setCell (p := ⟨q, 1, none⟩) LQ.out (.int .i64 (wrap64 (-D))))
   have V0' : (WA.setCell ⟨q, 1, none⟩ (.int .i64 (wrap64 (-D)))).cell? ⟨q, 0, none⟩ = some (.string ⟨#[1, 114, 0]⟩) := cell_set_other _ _ _ _ (by omega) _ _ a0
   have V1' : (WA.setCell ⟨q, 1, none⟩ (.int .i64 (wrap64 (-D)))).cell? ⟨q, 1, none⟩ = some (.int .i64 (wrap64 (-D))) := cell_set_same _ _ _ _ _ a1
   generalize WA.setCell ⟨q, 1, none⟩ (.int .i64 (wrap64 (-D))) = W2 at *
   have hn := new_hint W2 q c0 A10 c10 _ _ V0' V1' (Or.inr ⟨may_r, by unfold cuts_addr.f; rw [IntWalk.wrap64_in (-D) (by omega), if_neg (by omega)]⟩)
   unfold cfg at hn
   refine hn.mono ?_
   rintro e w3 ⟨rfl, hb⟩
   have B3 := Aside0.mk (below_then BW BW.size hb)
   clear hn hb BW BA V0' V1' a0 a1 R43' R10' B2
   simp only
   go_wp2_with fail
   refine (wimplelaw23_Plain.calls _ _ _ _ _ _ _ _ _ _ _ w3 rfl).mono ?_
   rintro e w4 ⟨v0, v10, rfl, R43, R10, hb⟩
   have R43' := Aside0.mk R43
   have R10' := Aside0.mk R10
   have B4 := Aside0.mk (below_then B3.out B3.out.size hb)
   clear R43 R10 hb B3
   simp only
   go_wp2_with fail
   have hn := new_plain_bad R43'.out R10'.out w4 (Below.refl _ _) (1 - D) 1 ⟨#[0]⟩ ⟨⟨#[0]⟩, 1, ⟨#[0]⟩, ⟨#[0]⟩, 0, false, 0, 0⟩ 0 task_0 (Or.inl (by omega))
   unfold cfg at hn
   refine hn.mono ?_
   rintro e w5 ⟨rfl, hb⟩
   have B5 := Aside0.mk (below_then B4.out B4.out.size hb)
   clear hn hb R43' R10' B4
   simp only
   go_wp2_with fail
   refine (wimplelaw23_Plain.calls _ _ _ _ _ _ _ _ _ _ _ w5 rfl).mono ?_
   rintro e w6 ⟨v0, v10, rfl, R43, R10, hb⟩
   have R43' := Aside0.mk R43
   have R10' := Aside0.mk R10
   have B6 := Aside0.mk (below_then B5.out B5.out.size hb)
   clear R43 R10 hb B5
   simp only
   go_wp2_with fail
   have hn := new_plain_bad R43'.out R10'.out w6 (Below.refl _ _) 1 1 ⟨#[]⟩ z34 2200 task_e (Or.inr (by omega))
   unfold cfg at hn
   refine hn.mono ?_
   rintro e w7 ⟨rfl, hb⟩
   have B7 := Aside0.mk (below_then B6.out B6.out.size hb)
   clear hn hb R43' R10' B6
   simp only
   go_wp2_with fail
   refine (wimplelaw23_Plain.calls _ _ _ _ _ _ _ _ _ _ _ w7 rfl).mono ?_
   rintro e w8 ⟨v0, v10, rfl, R43, R10, hb⟩
   have R43' := Aside0.mk R43
   have R10' := Aside0.mk R10
   have B8 := Aside0.mk (below_then B7.out B7.out.size hb)
   clear R43 R10 hb B7
   simp only
   go_wp2_with fail
   have hn := new_plain_bad R43'.out R10'.out w8 (Below.refl _ _) 1 (65535 + D) ⟨#[0]⟩ z34 2200 (task_big _ (by omega)) (Or.inr (by omega))
   unfold cfg at hn
   refine hn.mono ?_
   rintro e w9 ⟨rfl, hb⟩
   have B9 := Aside0.mk (below_then B8.out B8.out.size hb)
   clear hn hb R43' R10' B8
   simp only
   go_wp2_with fail
   refine (wimplelaw0_Num.calls 2300 2300 _ rfl).mono ?_
   rintro e w10 ⟨rfl, ⟨n1, rfl⟩⟩
   simp only
   go_wp2_with fail
   refine (wimplelaw0_Num.calls 2300 2300 _ rfl).mono ?_
   rintro e w11 ⟨rfl, ⟨n2, rfl⟩⟩
   simp only
   go_wp2_with fail
   refine (wimplelaw0_Num.calls 2300 2300 _ rfl).mono ?_
   rintro e w12 ⟨rfl, ⟨n3, rfl⟩⟩
   simp only
   go_wp2_with fail
   refine (wimplelaw0_Num.calls 2300 2300 _ rfl).mono ?_
   rintro e w13 ⟨rfl, ⟨n4, rfl⟩⟩
   simp only
   go_wp2_with fail
   go_ret
   exact ⟨rfl, by repeat (first | exact B9.out | apply pw_below_drewN)⟩
  case inr.inr.inr.inl =>
   obtain ⟨q, cq, eq1, hcq⟩ := hint_cells R43'.out
   obtain ⟨q2, cq2, eq2, hq2⟩ := Kd.R_form R43'.out (by simp)
   have eq3 : A0 = some ⟨q, 0, none⟩ ∧ c0 = cq := by injection eq1 with a1 a2 a3; exact ⟨a1, a3⟩
   obtain ⟨rfl, rfl⟩ := eq3
   have h0 : ∀ o, (w2.alloc o).cell? ⟨q, 0, none⟩ = some (.string ⟨#[1, 114, 0]⟩) := fun o => (hcq _ (below_alloc (Below.refl _ _) o)).1
   have h1 : ∀ o, (w2.alloc o).cell? ⟨q, 1, none⟩ = some (.int .i64 1) := fun o => (hcq _ (below_alloc (Below.refl _ _) o)).2
   have hq0 := hcq _ (Below.refl w2.heap.size w2)
   have HQ0 := Aside0.mk hq0
   obtain ⟨qcs, hqb⟩ := Kd.R_typed R43'.out q rfl
   have LQ : Aside0 (w.heap.size ≤ q) := ⟨by have e : q2 = q := by injection eq2 with a1 _ _; injection a1 with a1; injection a1 with a1; exact a1.symm
                                             rw [← e]; exact hq2.1⟩
   have fq : ∀ o i, (w2.alloc o).frozen? ⟨q, i, none⟩ = false := fun o i => blk_frozen (blk_alloc hqb o) i
   have nq : (q = w2.heap.size) = False := eq_false (by have := blk_lt hqb; omega)
   have nq' : (w2.heap.size = q) = False := eq_false (by have := blk_lt hqb; omega)
   clear hcq hq2 eq1 eq2 hq0
   simp only
   go_wp2_with fail
   have hD : 1 ≤ wrap64 (1 + bits BinOp.and IntKind.i64 x 63) ∧ wrap64 (1 + bits BinOp.and IntKind.i64 x 63) ≤ 64 := by rw [and63, show wrap64 (1 + x % 64) = 1 + x % 64 from IntWalk.wrap64_in _ (by omega)]; omega
   generalize wrap64 (1 + bits BinOp.and IntKind.i64 x 63) = D at *
   generalize hA : w2.alloc _ = WA
   have a0 : WA.cell? ⟨q, 0, none⟩ = some (.string ⟨#[1, 114, 0]⟩) := by rw [← hA]; exact h0 _
   have a1 : WA.cell? ⟨q, 1, none⟩ = some (.int .i64 1) := by rw [← hA]; exact h1 _
   have BA : Below w.heap.size w WA := by rw [← hA]; exact B2.out.alloc B2.out.size _
   clear nq nq' fq h0 h1 hqb hA
   have BW := (BA.setCell (p := ⟨q, 0, none⟩) LQ.out (.string ⟨#[97]⟩))
   have V0' : (WA.setCell ⟨q, 0, none⟩ (.string ⟨#[97]⟩)).cell? ⟨q, 0, none⟩ = some (.string ⟨#[97]⟩) := cell_set_same _ _ _ _ _ a0
   have V1' : (WA.setCell ⟨q, 0, none⟩ (.string ⟨#[97]⟩)).cell? ⟨q, 1, none⟩ = some (.int .i64 1) := cell_set_other _ _ _ _ (by omega) _ _ a1
   generalize WA.setCell ⟨q, 0, none⟩ (.string ⟨#[97]⟩) = W2 at *
   have hn := new_hint W2 q c0 A10 c10 _ _ V0' V1' (Or.inl may_a)
   unfold cfg at hn
   refine hn.mono ?_
   rintro e w3 ⟨rfl, hb⟩
   have B3 := Aside0.mk (below_then BW BW.size hb)
   clear hn hb BW BA V0' V1' a0 a1 R43' R10' B2
   simp only
   go_wp2_with fail
   refine (wimplelaw23_Plain.calls _ _ _ _ _ _ _ _ _ _ _ w3 rfl).mono ?_
   rintro e w4 ⟨v0, v10, rfl, R43, R10, hb⟩
   have R43' := Aside0.mk R43
   have R10' := Aside0.mk R10
   have B4 := Aside0.mk (below_then B3.out B3.out.size hb)
   clear R43 R10 hb B3
   simp only
   go_wp2_with fail
   have hn := new_plain_bad R43'.out R10'.out w4 (Below.refl _ _) (1 - D) 1 ⟨#[0]⟩ ⟨⟨#[0]⟩, 1, ⟨#[0]⟩, ⟨#[0]⟩, 0, false, 0, 0⟩ 0 task_0 (Or.inl (by omega))
   unfold cfg at hn
   refine hn.mono ?_
   rintro e w5 ⟨rfl, hb⟩
   have B5 := Aside0.mk (below_then B4.out B4.out.size hb)
   clear hn hb R43' R10' B4
   simp only
   go_wp2_with fail
   refine (wimplelaw23_Plain.calls _ _ _ _ _ _ _ _ _ _ _ w5 rfl).mono ?_
   rintro e w6 ⟨v0, v10, rfl, R43, R10, hb⟩
   have R43' := Aside0.mk R43
   have R10' := Aside0.mk R10
   have B6 := Aside0.mk (below_then B5.out B5.out.size hb)
   clear R43 R10 hb B5
   simp only
   go_wp2_with fail
   have hn := new_plain_bad R43'.out R10'.out w6 (Below.refl _ _) 1 1 ⟨#[]⟩ z34 2200 task_e (Or.inr (by omega))
   unfold cfg at hn
   refine hn.mono ?_
   rintro e w7 ⟨rfl, hb⟩
   have B7 := Aside0.mk (below_then B6.out B6.out.size hb)
   clear hn hb R43' R10' B6
   simp only
   go_wp2_with fail
   refine (wimplelaw23_Plain.calls _ _ _ _ _ _ _ _ _ _ _ w7 rfl).mono ?_
   rintro e w8 ⟨v0, v10, rfl, R43, R10, hb⟩
   have R43' := Aside0.mk R43
   have R10' := Aside0.mk R10
   have B8 := Aside0.mk (below_then B7.out B7.out.size hb)
   clear R43 R10 hb B7
   simp only
   go_wp2_with fail
   have hn := new_plain_bad R43'.out R10'.out w8 (Below.refl _ _) 1 (65535 + D) ⟨#[0]⟩ z34 2200 (task_big _ (by omega)) (Or.inr (by omega))
   unfold cfg at hn
   refine hn.mono ?_
   rintro e w9 ⟨rfl, hb⟩
   have B9 := Aside0.mk (below_then B8.out B8.out.size hb)
   clear hn hb R43' R10' B8
   simp only
   go_wp2_with fail
   refine (wimplelaw0_Num.calls 2300 2300 _ rfl).mono ?_
   rintro e w10 ⟨rfl, ⟨n1, rfl⟩⟩
   simp only
   go_wp2_with fail
   refine (wimplelaw0_Num.calls 2300 2300 _ rfl).mono ?_
   rintro e w11 ⟨rfl, ⟨n2, rfl⟩⟩
   simp only
   go_wp2_with fail
   refine (wimplelaw0_Num.calls 2300 2300 _ rfl).mono ?_
   rintro e w12 ⟨rfl, ⟨n3, rfl⟩⟩
   simp only
   go_wp2_with fail
   refine (wimplelaw0_Num.calls 2300 2300 _ rfl).mono ?_
   rintro e w13 ⟨rfl, ⟨n4, rfl⟩⟩
   simp only
   go_wp2_with fail
   go_ret
   exact ⟨rfl, by repeat (first | exact B9.out | apply pw_below_drewN)⟩
  case inr.inl =>
   simp only
   have NV : Aside0 (some w2.heap.size ≠ (Value.slice A0 1 c0).ownBlock) := ⟨fun e => by have := Kd.R_lt R43'.out _ e.symm; omega⟩
   go_wp2_with ((with_reducible refine gate_builtin (b := .append) (xs := #[.tmp 34, .const (.int .i64 8)]) rfl ?_); at_builtin; generalize hW : w2.alloc _ = W2; have BW : Below w2.heap.size w2 W2 := (by rw [← hW]; exact below_alloc (Below.refl _ _) _); have C2 : Aside0 (W2.heap[w2.heap.size]? = some (Obj.cells #[.slice A0 1 c0, .int .i64 20, .int .i64 4, .int .i64 20, .int .i64 2, .int .i64 3, .int .i64 5, .int .i64 2, .int .i64 10, .int .i64 4, .slice A10 3 c10] 26)) := ⟨by rw [← hW]; exact blk_new w2 _⟩; have BW2 : Aside0 (Below w.heap.size w W2) := ⟨below_then B2.out B2.out.size BW⟩; have RW := Aside0.mk (Kd.R_below R43'.out BW); clear hW BW; refine Kd.R_append_zeros k43 (w0 := w) w.heap.size rfl (.tmp 34) (.const (.int .i64 8)) 23 3 43 (.agg #[(.string ⟨#[]⟩), (.int .i64 0)]) 24 rfl Try.underlying23 Try.underlying3 info43 rfl (by decide) (by omega) (.slice A0 1 c0) _ ⟨⟨#[]⟩, 0⟩ 8 (fun _ => True) rfl rfl (k43_mkM _ _ _ ⟨⟨#[]⟩, 0⟩) (fun _ _ => trivial) (Kd.R_mono RW.out (fun _ _ => trivial)) (by omega) BW2.out BW2.out.size (by simp) ?_; intro v1 w3 ho hb hg hat; obtain ⟨A1, c5, e5⟩ := Kd.R_slice ho; rw [show ([(⟨⟨#[1, 114, 0]⟩, 1⟩ : S43)] ++ List.replicate (8 : Int).toNat (⟨⟨#[]⟩, 0⟩ : S43)).length = 9 from rfl] at e5; subst e5; have C3 := Aside0.mk (blk_grown C2.out hg NV.out); have B3 := Aside0.mk hb; clear ho hb hg hat C2 BW2 RW; have cf : w3.frozen? ⟨w2.heap.size, 0, none⟩ = false := blk_frozen C3.out 0; have cc0 : w3.cell? ⟨w2.heap.size, 0, none⟩ = some (.slice A0 1 c0) := (blk_cell C3.out 0).trans rfl; have cc1 : w3.cell? ⟨w2.heap.size, 1, none⟩ = some (.int .i64 20) := (blk_cell C3.out 1).trans rfl; have cc2 : w3.cell? ⟨w2.heap.size, 2, none⟩ = some (.int .i64 4) := (blk_cell C3.out 2).trans rfl; have cc3 : w3.cell? ⟨w2.heap.size, 3, none⟩ = some (.int .i64 20) := (blk_cell C3.out 3).trans rfl; have cc4 : w3.cell? ⟨w2.heap.size, 4, none⟩ = some (.int .i64 2) := (blk_cell C3.out 4).trans rfl; have cc5 : w3.cell? ⟨w2.heap.size, 5, none⟩ = some (.int .i64 3) := (blk_cell C3.out 5).trans rfl; have cc6 : w3.cell? ⟨w2.heap.size, 6, none⟩ = some (.int .i64 5) := (blk_cell C3.out 6).trans rfl; have cc7 : w3.cell? ⟨w2.heap.size, 7, none⟩ = some (.int .i64 2) := (blk_cell C3.out 7).trans rfl; have cc8 : w3.cell? ⟨w2.heap.size, 8, none⟩ = some (.int .i64 10) := (blk_cell C3.out 8).trans rfl; have cc9 : w3.cell? ⟨w2.heap.size, 9, none⟩ = some (.int .i64 4) := (blk_cell C3.out 9).trans rfl; have cc10 : w3.cell? ⟨w2.heap.size, 10, none⟩ = some (.slice A10 3 c10) := (blk_cell C3.out 10).trans rfl)
   have hD : 1 ≤ wrap64 (1 + bits BinOp.and IntKind.i64 x 63) ∧ wrap64 (1 + bits BinOp.and IntKind.i64 x 63) ≤ 64 := by rw [and63, show wrap64 (1 + x % 64) = 1 + x % 64 from IntWalk.wrap64_in _ (by omega)]; omega
   generalize wrap64 (1 + bits BinOp.and IntKind.i64 x 63) = D at *
   have BX := Aside0.mk (B3.out.setCell (p := ⟨w2.heap.size, 0, none⟩) B2.out.size (.slice A1 9 c5))
   clear cf cc0 cc1 cc2 cc3 cc4 cc5 cc6 cc7 cc8 cc9 cc10 C3 B3 NV
   generalize w3.setCell ⟨w2.heap.size, 0, none⟩ (.slice A1 9 c5) = W5 at *
   have hn := New_bad W5 A1 A10 9 c5 3 c10 20 4 20 2 3 5 2 10 4 1 1 0 ⟨#[0]⟩ _ _ _ _ _ _ _ _ 40 false task_0 (fun W h => may_none W5 A1 A10 9 c5 3 c10 (Or.inr (by omega)) 20 4 20 2 3 5 2 10 4 W) (Or.inl rfl)
   unfold cfg at hn
   refine hn.mono ?_
   rintro e w3 ⟨rfl, hb⟩
   have B3 := Aside0.mk (below_then BX.out BX.out.size hb)
   clear hn hb BX R43' R10' B2
   simp only
   go_wp2_with fail
   refine (wimplelaw23_Plain.calls _ _ _ _ _ _ _ _ _ _ _ w3 rfl).mono ?_
   rintro e w4 ⟨v0, v10, rfl, R43, R10, hb⟩
   have R43' := Aside0.mk R43
   have R10' := Aside0.mk R10
   have B4 := Aside0.mk (below_then B3.out B3.out.size hb)
   clear R43 R10 hb B3
   simp only
   go_wp2_with fail
   have hn := new_plain_bad R43'.out R10'.out w4 (Below.refl _ _) (1 - D) 1 ⟨#[0]⟩ ⟨⟨#[0]⟩, 1, ⟨#[0]⟩, ⟨#[0]⟩, 0, false, 0, 0⟩ 0 task_0 (Or.inl (by omega))
   unfold cfg at hn
   refine hn.mono ?_
   rintro e w5 ⟨rfl, hb⟩
   have B5 := Aside0.mk (below_then B4.out B4.out.size hb)
   clear hn hb R43' R10' B4
   simp only
   go_wp2_with fail
   refine (wimplelaw23_Plain.calls _ _ _ _ _ _ _ _ _ _ _ w5 rfl).mono ?_
   rintro e w6 ⟨v0, v10, rfl, R43, R10, hb⟩
   have R43' := Aside0.mk R43
   have R10' := Aside0.mk R10
   have B6 := Aside0.mk (below_then B5.out B5.out.size hb)
   clear R43 R10 hb B5
   simp only
   go_wp2_with fail
   have hn := new_plain_bad R43'.out R10'.out w6 (Below.refl _ _) 1 1 ⟨#[]⟩ z34 2200 task_e (Or.inr (by omega))
   unfold cfg at hn
   refine hn.mono ?_
   rintro e w7 ⟨rfl, hb⟩
   have B7 := Aside0.mk (below_then B6.out B6.out.size hb)
   clear hn hb R43' R10' B6
   simp only
   go_wp2_with fail
   refine (wimplelaw23_Plain.calls _ _ _ _ _ _ _ _ _ _ _ w7 rfl).mono ?_
   rintro e w8 ⟨v0, v10, rfl, R43, R10, hb⟩
   have R43' := Aside0.mk R43
   have R10' := Aside0.mk R10
   have B8 := Aside0.mk (below_then B7.out B7.out.size hb)
   clear R43 R10 hb B7
   simp only
   go_wp2_with fail
   have hn := new_plain_bad R43'.out R10'.out w8 (Below.refl _ _) 1 (65535 + D) ⟨#[0]⟩ z34 2200 (task_big _ (by omega)) (Or.inr (by omega))
   unfold cfg at hn
   refine hn.mono ?_
   rintro e w9 ⟨rfl, hb⟩
   have B9 := Aside0.mk (below_then B8.out B8.out.size hb)
   clear hn hb R43' R10' B8
   simp only
   go_wp2_with fail
   refine (wimplelaw0_Num.calls 2300 2300 _ rfl).mono ?_
   rintro e w10 ⟨rfl, ⟨n1, rfl⟩⟩
   simp only
   go_wp2_with fail
   refine (wimplelaw0_Num.calls 2300 2300 _ rfl).mono ?_
   rintro e w11 ⟨rfl, ⟨n2, rfl⟩⟩
   simp only
   go_wp2_with fail
   refine (wimplelaw0_Num.calls 2300 2300 _ rfl).mono ?_
   rintro e w12 ⟨rfl, ⟨n3, rfl⟩⟩
   simp only
   go_wp2_with fail
   refine (wimplelaw0_Num.calls 2300 2300 _ rfl).mono ?_
   rintro e w13 ⟨rfl, ⟨n4, rfl⟩⟩
   simp only
   go_wp2_with fail
   go_ret
   exact ⟨rfl, by repeat (first | exact B9.out | apply pw_below_drewN)⟩
  case inr.inr.inr.inr.inr.inr.inr.inr.inr.inr.inr.inr.inr.inr.inr.inr.inr =>
   simp only
   have hD : 1 ≤ wrap64 (1 + bits BinOp.and IntKind.i64 x 63) ∧ wrap64 (1 + bits BinOp.and IntKind.i64 x 63) ≤ 64 := by rw [and63, show wrap64 (1 + x % 64) = 1 + x % 64 from IntWalk.wrap64_in _ (by omega)]; omega
   have hD3 : wrap64 (1024 + wrap64 (1 + bits BinOp.and IntKind.i64 x 63)) = 1024 + wrap64 (1 + bits BinOp.and IntKind.i64 x 63) := IntWalk.wrap64_in _ (by omega)
   have hD2 : Aside0 (0 ≤ wrap64 (1024 + wrap64 (1 + bits BinOp.and IntKind.i64 x 63)) ∧ (wrap64 (1024 + wrap64 (1 + bits BinOp.and IntKind.i64 x 63))).toNat * 8 ≤ 281474976710656) := ⟨by rw [hD3]; omega⟩
   have hD4 : Aside0 (wrap64 (1024 + wrap64 (1 + bits BinOp.and IntKind.i64 x 63)) = 1024 + wrap64 (1 + bits BinOp.and IntKind.i64 x 63)) := ⟨hD3⟩
   have hDD := Aside0.mk hD
   clear hD3 hD
   go_wp2_with ((with_reducible refine gate_dst (N := 26) rfl ?_); generalize hW : w2.alloc _ = W2; have BW : Below w2.heap.size w2 W2 := (by rw [← hW]; exact below_alloc (Below.refl _ _) _); have C2 : Aside0 (W2.heap[w2.heap.size]? = some (Obj.cells #[.slice A0 1 c0, .int .i64 20, .int .i64 4, .int .i64 20, .int .i64 2, .int .i64 3, .int .i64 5, .int .i64 2, .int .i64 10, .int .i64 4, .slice A10 3 c10] 26)) := ⟨by rw [← hW]; exact blk_new w2 _⟩; have BW2 : Aside0 (Below w.heap.size w W2) := ⟨below_then B2.out B2.out.size BW⟩; have RW := Aside0.mk (Kd.R_below R43'.out BW); clear hW BW; refine Kd.R_make (Kd.int .i64) (w0 := w) w.heap.size 3 rfl (N := 26) rfl 24 (.tmp 25) (.tmp 25) rfl (wrap64 (1024 + wrap64 (1 + bits BinOp.and IntKind.i64 x 63))) ?hx ?hy Try.underlying24 (.int .i64 0) 8 info3 rfl (by decide) (by omega) 0 (ok := fun _ => True) (okp := fun _ => True) rfl (fun _ _ => trivial) trivial hD2.out.1 hD2.out.2 BW2.out BW2.out.size ?_; (case hx => first | rfl | go_simp); (case hy => first | rfl | go_simp); intro v1 w3 ho hb hg hat; obtain ⟨A1, c5, e5⟩ := Kd.R_slice ho; rw [List.length_replicate] at e5; subst e5; have C3 := Aside0.mk (blk_grown C2.out hg (by simp)); have B3 := Aside0.mk hb; have R3 := Aside0.mk (Kd.R_grown RW.out hg (by simp)); clear ho hb hg hat C2 BW2 RW; have cf : w3.frozen? ⟨w2.heap.size, 10, none⟩ = false := blk_frozen C3.out 10; have cc0 : w3.cell? ⟨w2.heap.size, 0, none⟩ = some (.slice A0 1 c0) := (blk_cell C3.out 0).trans rfl; have cc1 : w3.cell? ⟨w2.heap.size, 1, none⟩ = some (.int .i64 20) := (blk_cell C3.out 1).trans rfl; have cc2 : w3.cell? ⟨w2.heap.size, 2, none⟩ = some (.int .i64 4) := (blk_cell C3.out 2).trans rfl; have cc3 : w3.cell? ⟨w2.heap.size, 3, none⟩ = some (.int .i64 20) := (blk_cell C3.out 3).trans rfl; have cc4 : w3.cell? ⟨w2.heap.size, 4, none⟩ = some (.int .i64 2) := (blk_cell C3.out 4).trans rfl; have cc5 : w3.cell? ⟨w2.heap.size, 5, none⟩ = some (.int .i64 3) := (blk_cell C3.out 5).trans rfl; have cc6 : w3.cell? ⟨w2.heap.size, 6, none⟩ = some (.int .i64 5) := (blk_cell C3.out 6).trans rfl; have cc7 : w3.cell? ⟨w2.heap.size, 7, none⟩ = some (.int .i64 2) := (blk_cell C3.out 7).trans rfl; have cc8 : w3.cell? ⟨w2.heap.size, 8, none⟩ = some (.int .i64 10) := (blk_cell C3.out 8).trans rfl; have cc9 : w3.cell? ⟨w2.heap.size, 9, none⟩ = some (.int .i64 4) := (blk_cell C3.out 9).trans rfl; have cc10 : w3.cell? ⟨w2.heap.size, 10, none⟩ = some (.slice A10 3 c10) := (blk_cell C3.out 10).trans rfl)
   have C3x := C3
   have BX := Aside0.mk (B3.out.setCell (p := ⟨w2.heap.size, 10, none⟩) B2.out.size (.slice A1 (wrap64 (1024 + wrap64 (1 + bits BinOp.and IntKind.i64 x 63))).toNat c5))
   clear cf cc0 cc1 cc2 cc3 cc4 cc5 cc6 cc7 cc8 cc9 cc10 C3 B3
   have R5 := Aside0.mk (Kd.R_set R3.out C3x.out ne26 10 (.slice A1 (wrap64 (1024 + wrap64 (1 + bits BinOp.and IntKind.i64 x 63))).toNat c5))
   generalize w3.setCell ⟨w2.heap.size, 10, none⟩ (.slice A1 (wrap64 (1024 + wrap64 (1 + bits BinOp.and IntKind.i64 x 63))).toNat c5) = W5 at *
   have hD := hDD.out
   have hL : 1024 < (wrap64 (1024 + wrap64 (1 + bits BinOp.and IntKind.i64 x 63))).toNat := by rw [hD4.out]; omega
   clear hDD hD4 hD2
   generalize (wrap64 (1024 + wrap64 (1 + bits BinOp.and IntKind.i64 x 63))).toNat = L at *
   generalize wrap64 (1 + bits BinOp.and IntKind.i64 x 63) = D at *
   have hn := new_ids R5.out A1 L c5 hL
   unfold cfg at hn
   refine hn.mono ?_
   rintro e w3 ⟨rfl, hb⟩
   have B3 := Aside0.mk (below_then BX.out BX.out.size hb)
   clear hn hb BX R43' R10' B2
   simp only
   go_wp2_with fail
   refine (wimplelaw23_Plain.calls _ _ _ _ _ _ _ _ _ _ _ w3 rfl).mono ?_
   rintro e w4 ⟨v0, v10, rfl, R43, R10, hb⟩
   have R43' := Aside0.mk R43
   have R10' := Aside0.mk R10
   have B4 := Aside0.mk (below_then B3.out B3.out.size hb)
   clear R43 R10 hb B3
   simp only
   go_wp2_with fail
   have hn := new_plain_bad R43'.out R10'.out w4 (Below.refl _ _) (1 - D) 1 ⟨#[0]⟩ ⟨⟨#[0]⟩, 1, ⟨#[0]⟩, ⟨#[0]⟩, 0, false, 0, 0⟩ 0 task_0 (Or.inl (by omega))
   unfold cfg at hn
   refine hn.mono ?_
   rintro e w5 ⟨rfl, hb⟩
   have B5 := Aside0.mk (below_then B4.out B4.out.size hb)
   clear hn hb R43' R10' B4
   simp only
   go_wp2_with fail
   refine (wimplelaw23_Plain.calls _ _ _ _ _ _ _ _ _ _ _ w5 rfl).mono ?_
   rintro e w6 ⟨v0, v10, rfl, R43, R10, hb⟩
   have R43' := Aside0.mk R43
   have R10' := Aside0.mk R10
   have B6 := Aside0.mk (below_then B5.out B5.out.size hb)
   clear R43 R10 hb B5
   simp only
   go_wp2_with fail
   have hn := new_plain_bad R43'.out R10'.out w6 (Below.refl _ _) 1 1 ⟨#[]⟩ z34 2200 task_e (Or.inr (by omega))
   unfold cfg at hn
   refine hn.mono ?_
   rintro e w7 ⟨rfl, hb⟩
   have B7 := Aside0.mk (below_then B6.out B6.out.size hb)
   clear hn hb R43' R10' B6
   simp only
   go_wp2_with fail
   refine (wimplelaw23_Plain.calls _ _ _ _ _ _ _ _ _ _ _ w7 rfl).mono ?_
   rintro e w8 ⟨v0, v10, rfl, R43, R10, hb⟩
   have R43' := Aside0.mk R43
   have R10' := Aside0.mk R10
   have B8 := Aside0.mk (below_then B7.out B7.out.size hb)
   clear R43 R10 hb B7
   simp only
   go_wp2_with fail
   have hn := new_plain_bad R43'.out R10'.out w8 (Below.refl _ _) 1 (65535 + D) ⟨#[0]⟩ z34 2200 (task_big _ (by omega)) (Or.inr (by omega))
   unfold cfg at hn
   refine hn.mono ?_
   rintro e w9 ⟨rfl, hb⟩
   have B9 := Aside0.mk (below_then B8.out B8.out.size hb)
   clear hn hb R43' R10' B8
   simp only
   go_wp2_with fail
   refine (wimplelaw0_Num.calls 2300 2300 _ rfl).mono ?_
   rintro e w10 ⟨rfl, ⟨n1, rfl⟩⟩
   simp only
   go_wp2_with fail
   refine (wimplelaw0_Num.calls 2300 2300 _ rfl).mono ?_
   rintro e w11 ⟨rfl, ⟨n2, rfl⟩⟩
   simp only
   go_wp2_with fail
   refine (wimplelaw0_Num.calls 2300 2300 _ rfl).mono ?_
   rintro e w12 ⟨rfl, ⟨n3, rfl⟩⟩
   simp only
   go_wp2_with fail
   refine (wimplelaw0_Num.calls 2300 2300 _ rfl).mono ?_
   rintro e w13 ⟨rfl, ⟨n4, rfl⟩⟩
   simp only
   go_wp2_with fail
   go_ret
   exact ⟨rfl, by repeat (first | exact B9.out | apply pw_below_drewN)⟩
end Go.Proofs.Ytkmdjcdmgmffiaa.M
