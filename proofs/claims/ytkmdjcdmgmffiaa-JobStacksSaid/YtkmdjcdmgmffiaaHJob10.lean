/- JobBounds: a job spends its budget, chases, pushes just as often as it may. -/
import Derived.Test.YtkmdjcdmgmffiaaHJob9
import Derived.Test.YtkmdjcdmgmffiaaPx7
set_option linter.unusedVariables false
set_option linter.unusedSimpArgs false
namespace Go.Proofs.Ytkmdjcdmgmffiaa.M
open Go Go.RowKit Go.ChangeMaps Go.Proofs.YtkmdjcdmgmffiaaW.PrintWords Go.Proofs.YtkmdjcdmgmffiaaW.PrintLast Go.Proofs.YtkmdjcdmgmffiaaW.PrintMore Go.Proofs.Ytkmdjcdmgmffiaa.P

theorem task_a : task_New.f 40 ⟨#[1, 97, 0]⟩ 1 ⟨#[0]⟩ = some (⟨#[1, 97, 0]⟩, 1, ⟨#[0]⟩, ⟨#[0]⟩, 0, false, 0, 0, 0) := by kernel_rfl
theorem task_a0 : task_New.f 40 ⟨#[1, 97, 0]⟩ 0 ⟨#[0]⟩ = some (⟨#[]⟩, 0, ⟨#[]⟩, ⟨#[]⟩, 0, false, 0, 0, 2200) := by kernel_rfl
/-- What is left of x behind i turns. -/
def lft (X : Int) (i : Nat) : Int := if (i : Int) < X then X - i else 0
section
variable {w : World} {base : Nat} {S : Nat → Prop} {g : Nat} {id : Int} {ts : List T34} {d ch sp : Int} {n : Nat} {seen : List (List UInt8)} {v : Value} {m : Nat}
theorem umod (d : Int) (k : Nat) (hk : 1 ≤ k ∧ k ≤ 100) : 0 ≤ wrap64 ((IntKind.u64.wrap d).tmod k) ∧ wrap64 ((IntKind.u64.wrap d).tmod k) ≤ ((k - 1 : Nat) : Int) := by
  have hu : 0 ≤ IntKind.u64.wrap d := by
    simp only [IntKind.wrap, IntKind.bits, IntKind.signed, Bool.false_and, Bool.false_eq_true, if_false]
    omega
  have h1 : (IntKind.u64.wrap d).tmod k = (IntKind.u64.wrap d) % k := Int.tmod_eq_emod_of_nonneg hu
  have h2 : 0 ≤ (IntKind.u64.wrap d) % (k : Int) := Int.emod_nonneg _ (by omega)
  have h3 : (IntKind.u64.wrap d) % (k : Int) < k := Int.emod_lt_of_pos _ (by omega)
  rw [h1, show wrap64 ((IntKind.u64.wrap d) % k) = (IntKind.u64.wrap d) % k from IntWalk.wrap64_in _ (by omega)]
  omega
theorem lft_yes {X : Int} {i : Nat} (h : (i : Int) < X) : lft X (i + 1) = lft X i - 1 := by
  unfold lft
  rw [if_pos h]
  split <;> omega
theorem lft_no {X : Int} {i : Nat} (h : ¬ (i : Int) < X) : lft X (i + 1) = lft X i ∧ lft X i = 0 := by
  unfold lft
  rw [if_neg h, if_neg (by omega)]
  exact ⟨rfl, rfl⟩
theorem Spend_lft (X : Int) (i : Nat) (b : Bool) (hb : decide ((i : Int) < X) = b) (hX : X ≤ 64) (h : JobAt w base S g id ts d ch (lft X i) n seen v m) : Calls Try.prog 11 #[.pointer (some ⟨g, 0, none⟩)] w fun e w' => e = .returned (.bool b) ∧ JobAt w' base S g id ts d ch (lft X (i + 1)) n seen v m ∧ Below base w w' ∧ Kept w w' S := by
  cases b
  · have hn : ¬ (i : Int) < X := of_decide_eq_false hb
    rw [(lft_no hn).2] at h
    refine (Spend_none h).mono ?_
    rintro e w' ⟨rfl, rfl⟩
    exact ⟨rfl, by rw [(lft_no hn).1, (lft_no hn).2]; exact h, Below.refl _ _, Kept.refl _ _⟩
  · have hy : (i : Int) < X := of_decide_eq_true hb
    refine (Spend_some h (by unfold lft; rw [if_pos hy]; omega) (by unfold lft; rw [if_pos hy]; omega)).mono ?_
    rintro e w' ⟨rfl, h1, h2, h3⟩
    exact ⟨rfl, by rw [lft_yes hy]; exact h1, h2, h3⟩
theorem Chase_lft (X : Int) (i : Nat) (b : Bool) (hb : decide ((i : Int) < X) = b) (hX : X ≤ 8) (h : JobAt w base S g id [⟨⟨#[1, 97, 0]⟩, 1, ⟨#[0]⟩, ⟨#[0]⟩, 0, false, 0, 0⟩] d (lft X i) sp n seen v m) : Calls Try.prog 12 #[.pointer (some ⟨g, 0, none⟩), .string ⟨#[1, 97, 0]⟩] w fun e w' => e = .returned (.bool b) ∧ JobAt w' base S g id [⟨⟨#[1, 97, 0]⟩, 1, ⟨#[0]⟩, ⟨#[0]⟩, 0, false, 0, 0⟩] d (lft X (i + 1)) sp n seen v m ∧ Below base w w' ∧ Kept w w' S := by
  cases b
  · have hn : ¬ (i : Int) < X := of_decide_eq_false hb
    refine (Chase_no h 0 rfl (by omega) ⟨⟨#[1, 97, 0]⟩, 1, ⟨#[0]⟩, ⟨#[0]⟩, 0, false, 0, 0⟩ rfl ⟨#[1, 97, 0]⟩ 40 _ _ _ _ _ _ _ _ _ task_a (Or.inr (lft_no hn).2)).mono ?_
    rintro e w' ⟨rfl, h1, h2, h3⟩
    exact ⟨rfl, by rw [(lft_no hn).1]; exact h1, h2, h3⟩
  · have hy : (i : Int) < X := of_decide_eq_true hb
    refine (Chase_some h 0 rfl (by omega) ⟨⟨#[1, 97, 0]⟩, 1, ⟨#[0]⟩, ⟨#[0]⟩, 0, false, 0, 0⟩ rfl ⟨#[1, 97, 0]⟩ 40 _ _ _ _ _ _ _ _ task_a (by unfold lft; rw [if_pos hy]; omega) (by unfold lft; rw [if_pos hy]; omega)).mono ?_
    rintro e w' ⟨rfl, h1, h2, h3⟩
    exact ⟨rfl, by rw [lft_yes hy]; exact h1, h2, h3⟩
theorem Push_rep (X : Int) (i : Nat) (b : Bool) (hb : decide ((i : Int) < X) = b) (h0 : 0 ≤ X) (hX : X ≤ 4) (h : JobAt w base S g id (List.replicate (min i X.toNat + 1) ⟨⟨#[1, 97, 0]⟩, 1, ⟨#[0]⟩, ⟨#[0]⟩, 0, false, 0, 0⟩) X ch sp n seen v m) (hS : ∀ k, w.heap.size ≤ k → S k) : Calls Try.prog 13 #[.pointer (some ⟨g, 0, none⟩), v34 ⟨⟨#[1, 97, 0]⟩, 1, ⟨#[0]⟩, ⟨#[0]⟩, 0, false, 0, 0⟩] w fun e w' => e = .returned (.bool b) ∧ (∃ v', JobAt w' base S g id (List.replicate (min (i + 1) X.toNat + 1) ⟨⟨#[1, 97, 0]⟩, 1, ⟨#[0]⟩, ⟨#[0]⟩, 0, false, 0, 0⟩) X ch sp n seen v' m) ∧ Below base w w' ∧ Kept w w' S := by
  cases b
  · have hn : ¬ (i : Int) < X := of_decide_eq_false hb
    have e1 : min i X.toNat = X.toNat := by omega
    have e2 : min (i + 1) X.toNat = X.toNat := by omega
    rw [e1] at h
    rw [e2]
    refine (Push_full h ⟨⟨#[1, 97, 0]⟩, 1, ⟨#[0]⟩, ⟨#[0]⟩, 0, false, 0, 0⟩ (by rw [List.length_replicate]; omega)).mono ?_
    rintro e w' ⟨rfl, h1⟩
    exact ⟨rfl, ⟨_, h.below h1⟩, below_lower h1 (by have := blk_lt h.blk; have := h.lo; omega), Kept.of_below h1 S⟩
  · have hy : (i : Int) < X := of_decide_eq_true hb
    have e1 : min i X.toNat = i := by omega
    have e2 : min (i + 1) X.toNat = i + 1 := by omega
    rw [e1] at h
    rw [e2, List.replicate_succ' (n := i + 1)]
    exact Push_room h ⟨⟨#[1, 97, 0]⟩, 1, ⟨#[0]⟩, ⟨#[0]⟩, 0, false, 0, 0⟩ (by rw [List.length_replicate]; omega) (by rw [List.length_replicate]; omega) hS
theorem Pop_rep (N i : Nat) (hN : N ≤ 9) (h : JobAt w base S g id (List.replicate (N - i) ⟨⟨#[1, 97, 0]⟩, 1, ⟨#[0]⟩, ⟨#[0]⟩, 0, false, 0, 0⟩) d ch sp n seen v m) : Calls Try.prog 15 #[.pointer (some ⟨g, 0, none⟩)] w fun e w' => e = .returned (.tuple #[]) ∧ (∃ v', JobAt w' base S g id (List.replicate (N - (i + 1)) ⟨⟨#[1, 97, 0]⟩, 1, ⟨#[0]⟩, ⟨#[0]⟩, 0, false, 0, 0⟩) d ch sp n seen v' m) ∧ Below base w w' ∧ Kept w w' S := by
  by_cases hi : i < N
  · refine (Pop_some h (N - (i + 1)) (by rw [List.length_replicate]; omega) (by omega)).mono ?_
    rintro e w' ⟨rfl, ⟨v', h1⟩, h2, h3⟩
    rw [List.take_replicate, show min (N - (i + 1)) (N - i) = N - (i + 1) by omega] at h1
    exact ⟨rfl, ⟨v', h1⟩, h2, h3⟩
  · have e1 : N - i = 0 := by omega
    have e2 : N - (i + 1) = 0 := by omega
    rw [e1] at h
    rw [e2]
    refine (Pop_none h).mono ?_
    rintro e w' ⟨rfl, rfl⟩
    exact ⟨rfl, ⟨_, h⟩, Below.refl _ _, Kept.refl _ _⟩
end
set_option maxHeartbeats 4000000 in
set_option maxRecDepth 100000 in
theorem bounds_walk (w : World) (b c d : Int) : Calls Try.prog 3 #[.int .i64 b, .int .i64 c, .int .i64 d] w fun e w' => e = .returned (.bool true) ∧ Below w.heap.size w w' := by
  have hplain := fun W => wimplelaw23_Plain.calls _ _ _ _ _ _ _ _ _ _ _ W rfl
  go_enter Try.func3, Try.ntmps3
  go_wp2_with fail
  refine (awake_calls w).mono ?_
  rintro e w1 ⟨rfl, hb1⟩
  have B1 := Aside0.mk hb1
  clear hb1
  simp only
  go_wp2_with fail
  refine (hplain w1).mono ?_
  rintro e w2 ⟨v0, v10, rfl, R43, R10, hb2⟩
  have R43' := Aside0.mk (Kd.R_lower R43 B1.out.size)
  have R10' := Aside0.mk (Kd.R_lower R10 B1.out.size)
  have B2 := Aside0.mk (below_then B1.out B1.out.size hb2)
  obtain ⟨A0, c0, e0⟩ := Kd.R_slice R43
  obtain ⟨A10, c10, e10⟩ := Kd.R_slice R10
  have e0' : v0 = .slice A0 1 c0 := e0
  have e10' : v10 = .slice A10 3 c10 := e10
  clear R43 R10 hb2 hplain B1 e0 e10
  subst e0' e10'
  simp only
  go_wp2_with fail
  have h3 : 1 ≤ wrap64 (1 + bits BinOp.and IntKind.i64 b 63) ∧ wrap64 (1 + bits BinOp.and IntKind.i64 b 63) ≤ 64 := by rw [and63, show wrap64 (1 + b % 64) = 1 + b % 64 from IntWalk.wrap64_in _ (by omega)]; omega
  have h4 : 0 ≤ wrap64 ((IntKind.u64.wrap d).tmod 5) ∧ wrap64 ((IntKind.u64.wrap d).tmod 5) ≤ 4 := umod d 5 (by omega)
  have h5 : 0 ≤ wrap64 ((IntKind.u64.wrap c).tmod 9) ∧ wrap64 ((IntKind.u64.wrap c).tmod 9) ≤ 8 := umod c 9 (by omega)
  generalize wrap64 (1 + bits BinOp.and IntKind.i64 b 63) = X3 at *
  generalize wrap64 ((IntKind.u64.wrap d).tmod 5) = X4 at *
  generalize wrap64 ((IntKind.u64.wrap c).tmod 9) = X5 at *
  generalize hW : w2.alloc (Obj.cells #[.slice A0 1 c0, .int .i64 20, .int .i64 4, .int .i64 X3, .int .i64 X4, .int .i64 X5, .int .i64 5, .int .i64 2, .int .i64 10, .int .i64 4, .slice A10 3 c10] 26) = W2
  have C2 : Aside0 (W2.heap[w2.heap.size]? = some (Obj.cells #[.slice A0 1 c0, .int .i64 20, .int .i64 4, .int .i64 X3, .int .i64 X4, .int .i64 X5, .int .i64 5, .int .i64 2, .int .i64 10, .int .i64 4, .slice A10 3 c10] 26)) := ⟨by rw [← hW]; exact blk_new w2 _⟩
  have BW : Aside0 (Below w2.heap.size w2 W2) := ⟨by rw [← hW]; exact below_alloc (Below.refl _ _) _⟩
  have SW : Aside0 (W2.heap.size = w2.heap.size + 1) := ⟨by rw [← hW]; exact size_alloc' _ _⟩
  clear hW
  have hnew := new_plain R43'.out R10'.out W2 BW.out X3 X4 X5 7 1 ⟨#[1, 97, 0]⟩ ⟨⟨#[1, 97, 0]⟩, 1, ⟨#[0]⟩, ⟨#[0]⟩, 0, false, 0, 0⟩ h3 h4 h5 (by omega) (fun k => W2.heap.size ≤ k) (fun _ h => h) task_a
  unfold cfg at hnew
  refine hnew.mono ?_
  rintro e w3 ⟨⟨g, v, m, rfl, hJ⟩, hb⟩
  have J3 := Aside0.mk hJ
  have B3 := Aside0.mk (below_then (below_then B2.out B2.out.size BW.out) (below_then B2.out B2.out.size BW.out).size hb)
  have C3 := Aside0.mk (blk_below C2.out hb)
  have B2w := B2
  clear hJ hb hnew C2 R43' R10' B2
  simp only
  go_wp2_with fail
  refine (Top_some J3.out 0 rfl (by omega) ⟨⟨#[1, 97, 0]⟩, 1, ⟨#[0]⟩, ⟨#[0]⟩, 0, false, 0, 0⟩ rfl).mono ?_
  rintro e w4 ⟨rfl, hb⟩
  have J4 := Aside0.mk (J3.out.below hb)
  have B4 := Aside0.mk (below_then B3.out B3.out.size hb)
  have C4 := Aside0.mk (blk_below C3.out hb)
  clear hb J3 B3 C3
  unfold v34
  simp only
  go_wp2_with fail
  generalize hW : w4.alloc _ = W4
  have J5 : Aside0 (JobAt W4 W2.heap.size (fun k => W2.heap.size ≤ k ∧ k ≠ w4.heap.size) g 7 [⟨⟨#[1, 97, 0]⟩, 1, ⟨#[0]⟩, ⟨#[0]⟩, 0, false, 0, 0⟩] X4 (lft X5 0) (lft X3 0) 0 [] v m) := ⟨by rw [← hW, show lft X5 0 = X5 by (unfold lft; split <;> omega), show lft X3 0 = X3 by (unfold lft; split <;> omega)]; exact J4.out.box _⟩
  have B5 : Aside0 (Below w.heap.size w W4) := ⟨by rw [← hW]; exact below_alloc B4.out _⟩
  have C5 : Aside0 (W4.heap[w2.heap.size]? = some (Obj.cells #[.slice A0 1 c0, .int .i64 20, .int .i64 4, .int .i64 X3, .int .i64 X4, .int .i64 X5, .int .i64 5, .int .i64 2, .int .i64 10, .int .i64 4, .slice A10 3 c10] 26)) := ⟨by rw [← hW]; exact blk_alloc C4.out _⟩
  have T5 : Aside0 (W4.heap[w4.heap.size]? = some (Obj.cells #[.string ⟨#[1, 97, 0]⟩, .int .i64 1, .string ⟨#[0]⟩, .string ⟨#[0]⟩, .int .i64 0, .bool false, .int .i64 0, .int .i64 0] 34)) := ⟨by rw [← hW]; exact blk_new w4 _⟩
  have F5 : Aside0 (∀ k, W4.heap.size ≤ k → W2.heap.size ≤ k ∧ k ≠ w4.heap.size) := ⟨fun k hk => by rw [← hW, size_alloc'] at hk; have := blk_lt J4.out.blk; have := J4.out.lo; omega⟩
  have N2 : Aside0 (¬ (W2.heap.size ≤ w2.heap.size ∧ w2.heap.size ≠ w4.heap.size)) := ⟨fun h => by have := SW.out; omega⟩
  have N4 : Aside0 (¬ (W2.heap.size ≤ w4.heap.size ∧ w4.heap.size ≠ w4.heap.size)) := ⟨fun h => h.2 rfl⟩
  have LB : Aside0 (w.heap.size ≤ W2.heap.size) := ⟨Nat.le_trans B2w.out.size BW.out.size⟩
  clear hW J4 B4 C4
  go_loopw [12] (fun v12 wr => ∃ i : Nat, i ≤ 80 ∧ v12 = .int .i64 i ∧ Aside0 (JobAt wr W2.heap.size (fun k => W2.heap.size ≤ k ∧ k ≠ w4.heap.size) g 7 [⟨⟨#[1, 97, 0]⟩, 1, ⟨#[0]⟩, ⟨#[0]⟩, 0, false, 0, 0⟩] X4 (lft X5 i) (lft X3 i) 0 [] v m) ∧ Aside0 (Below w.heap.size w wr) ∧ Aside0 (W4.heap.size ≤ wr.heap.size) ∧ Aside0 (wr.heap[w2.heap.size]? = some (Obj.cells #[.slice A0 1 c0, .int .i64 20, .int .i64 4, .int .i64 X3, .int .i64 X4, .int .i64 X5, .int .i64 5, .int .i64 2, .int .i64 10, .int .i64 4, .slice A10 3 c10] 26)) ∧ Aside0 (wr.heap[w4.heap.size]? = some (Obj.cells #[.string ⟨#[1, 97, 0]⟩, .int .i64 1, .string ⟨#[0]⟩, .string ⟨#[0]⟩, .int .i64 0, .bool false, .int .i64 0, .int .i64 0] 34))) (fun v12 _ => 80 - (intOf v12).toNat)
  case atStart => exact ⟨0, Nat.zero_le _, rfl, J5, B5, ⟨Nat.le_refl _⟩, C5, T5⟩
  case round =>
    obtain ⟨i, hi, rfl, HJ, HB, HS, HC, HT⟩ := hrel
    clear J5 B5 C5 T5
    have cd3 : wr.cell? ⟨w2.heap.size, 3, none⟩ = some (.int .i64 X3) := (blk_cell HC.out 3).trans rfl
    have cd5 : wr.cell? ⟨w2.heap.size, 5, none⟩ = some (.int .i64 X5) := (blk_cell HC.out 5).trans rfl
    by_cases hlt : i < 80
    · have hd1 : decide ((i : Int) < 80) = true := decide_eq_true (by omega)
      have hd2 : ((i : Int) < 80) = True := eq_true (by omega)
      obtain ⟨b3, hb3⟩ : ∃ b, decide ((i : Int) < X3) = b := ⟨_, rfl⟩
      obtain ⟨b5, hb5⟩ : ∃ b, decide ((i : Int) < X5) = b := ⟨_, rfl⟩
      have P1 := Aside0.mk (Spend_lft X3 i b3 hb3 h3.2 (HJ.out.below (below_drew (Below.refl _ _))))
      have HX := Aside0.mk (fun (W : World) h => Chase_lft (w := W) (base := W2.heap.size) (S := (fun k => W2.heap.size ≤ k ∧ k ≠ w4.heap.size)) (g := g) (id := 7) (d := X4) (sp := lft X3 (i + 1)) (n := 0) (seen := []) (v := v) (m := m) X5 i b5 hb5 h5.2 h)
      clear HJ
      go_wp2_with fail
      rcases b3 with _ | _ <;> rcases b5 with _ | _ <;> go_region_held3 (fun w' => w'.cell? ⟨w2.heap.size, 3, none⟩ = some (.int .i64 X3) ∧ w'.cell? ⟨w2.heap.size, 5, none⟩ = some (.int .i64 X5))
        (first
          | ((try dsimp only); (repeat' apply And.intro) <;> exact drew_cell (by assumption))
          | ((try dsimp only at *); go_split_ands; (repeat' apply And.intro) <;> exact cell_kept (by assumption) hk N2.out))
        (first
          | (go_at_call 11; refine P1.out.mono ?_; rintro e w7 ⟨rfl, hJ7, hb7, hk⟩; have J7 := Aside0.mk hJ7; have B7 := Aside0.mk ((below_drew1 HB.out).trans (below_lower hb7 LB.out)); have S7 := Aside0.mk (Nat.le_trans HS.out hk.1); have C7 := Aside0.mk (blk_kept (W := wr.drew) HC.out hk N2.out); have T7 := Aside0.mk (blk_kept (W := wr.drew) HT.out hk N4.out); clear P1 hJ7 hb7)
          | (go_at_call 12; refine (HX.out _ J7.out).mono ?_; rintro e w8 ⟨rfl, hJ8, hb8, hk⟩; have J8 := Aside0.mk hJ8; have B8 := Aside0.mk (B7.out.trans (below_lower hb8 LB.out)); have S8 := Aside0.mk (Nat.le_trans S7.out hk.1); have C8 := Aside0.mk (blk_kept C7.out hk N2.out); have T8 := Aside0.mk (blk_kept T7.out hk N4.out); clear J7 B7 S7 C7 T7 hJ8 hb8))
      all_goals
        simp only [Exit.then]
        go_wp2_with fail
        go_roundw
        case rel => exact ⟨i + 1, by omega, by go_num, J8, B8, S8, C8, T8⟩
        case measure => simp [intOf]; omega
    · have hd1 : decide ((i : Int) < 80) = false := decide_eq_false (by omega)
      have hd2 : ((i : Int) < 80) = False := eq_false (by omega)
      have hi80 : i = 80 := by omega
      have HJ0 : Aside0 (JobAt wr W2.heap.size (fun k => W2.heap.size ≤ k ∧ k ≠ w4.heap.size) g 7 (List.replicate (min 0 X4.toNat + 1) ⟨⟨#[1, 97, 0]⟩, 1, ⟨#[0]⟩, ⟨#[0]⟩, 0, false, 0, 0⟩) X4 0 0 0 [] v m) := ⟨by have := HJ.out; rw [hi80] at this; rw [show lft X5 80 = 0 by (unfold lft; split <;> omega), show lft X3 80 = 0 by (unfold lft; split <;> omega)] at this; simpa using this⟩
      clear HJ cd3 cd5 hi80
      go_wp2_with fail
      clear hd1 hd2 hlt hi
      generalize (i : Int) = vi at *
      generalize wr = V at *
      go_loopw [13] (fun v13 wr => ∃ i : Nat, i ≤ 8 ∧ v13 = .int .i64 i ∧ Aside0 (∃ v, JobAt wr W2.heap.size (fun k => W2.heap.size ≤ k ∧ k ≠ w4.heap.size) g 7 (List.replicate (min i X4.toNat + 1) ⟨⟨#[1, 97, 0]⟩, 1, ⟨#[0]⟩, ⟨#[0]⟩, 0, false, 0, 0⟩) X4 0 0 0 [] v m) ∧ Aside0 (Below w.heap.size w wr) ∧ Aside0 (W4.heap.size ≤ wr.heap.size) ∧ Aside0 (wr.heap[w2.heap.size]? = some (Obj.cells #[.slice A0 1 c0, .int .i64 20, .int .i64 4, .int .i64 X3, .int .i64 X4, .int .i64 X5, .int .i64 5, .int .i64 2, .int .i64 10, .int .i64 4, .slice A10 3 c10] 26)) ∧ Aside0 (wr.heap[w4.heap.size]? = some (Obj.cells #[.string ⟨#[1, 97, 0]⟩, .int .i64 1, .string ⟨#[0]⟩, .string ⟨#[0]⟩, .int .i64 0, .bool false, .int .i64 0, .int .i64 0] 34))) (fun v13 _ => 8 - (intOf v13).toNat)
      case atStart => exact ⟨0, Nat.zero_le _, rfl, ⟨_, HJ0.out⟩, HB, HS, HC, HT⟩
      case round =>
        obtain ⟨i2, hi8, rfl, HJ, HB, HS, HC, HT⟩ := hrel
        obtain ⟨vr, hj⟩ := HJ.out
        have HJ := Aside0.mk hj
        clear hj HJ0
        have cd4 : wr.cell? ⟨w2.heap.size, 4, none⟩ = some (.int .i64 X4) := (blk_cell HC.out 4).trans rfl
        by_cases hlt : i2 < 8
        · have hd1 : decide ((i2 : Int) < 8) = true := decide_eq_true (by omega)
          have hd2 : ((i2 : Int) < 8) = True := eq_true (by omega)
          have ct0 : wr.cell? ⟨w4.heap.size, 0, none⟩ = some (.string ⟨#[1, 97, 0]⟩) := (blk_cell HT.out 0).trans rfl
          have ct1 : wr.cell? ⟨w4.heap.size, 1, none⟩ = some (.int .i64 1) := (blk_cell HT.out 1).trans rfl
          have ct2 : wr.cell? ⟨w4.heap.size, 2, none⟩ = some (.string ⟨#[0]⟩) := (blk_cell HT.out 2).trans rfl
          have ct3 : wr.cell? ⟨w4.heap.size, 3, none⟩ = some (.string ⟨#[0]⟩) := (blk_cell HT.out 3).trans rfl
          have ct4 : wr.cell? ⟨w4.heap.size, 4, none⟩ = some (.int .i64 0) := (blk_cell HT.out 4).trans rfl
          have ct5 : wr.cell? ⟨w4.heap.size, 5, none⟩ = some (.bool false) := (blk_cell HT.out 5).trans rfl
          have ct6 : wr.cell? ⟨w4.heap.size, 6, none⟩ = some (.int .i64 0) := (blk_cell HT.out 6).trans rfl
          have ct7 : wr.cell? ⟨w4.heap.size, 7, none⟩ = some (.int .i64 0) := (blk_cell HT.out 7).trans rfl
          obtain ⟨b4, hb4⟩ : ∃ b, decide ((i2 : Int) < X4) = b := ⟨_, rfl⟩
          have P1 := Push_rep X4 i2 b4 hb4 h4.1 h4.2 (HJ.out.below (below_drew (Below.refl _ _))) (fun k hk => F5.out k (Nat.le_trans HS.out hk))
          dsimp only [v34] at P1
          have P1 := Aside0.mk P1
          clear HJ
          go_wp2_with fail
          rcases b4 with _ | _ <;> go_region_held3 (fun w' => w'.cell? ⟨w2.heap.size, 4, none⟩ = some (.int .i64 X4) ∧ w'.cell? ⟨w4.heap.size, 0, none⟩ = some (.string ⟨#[1, 97, 0]⟩) ∧ w'.cell? ⟨w4.heap.size, 1, none⟩ = some (.int .i64 1) ∧ w'.cell? ⟨w4.heap.size, 2, none⟩ = some (.string ⟨#[0]⟩) ∧ w'.cell? ⟨w4.heap.size, 3, none⟩ = some (.string ⟨#[0]⟩) ∧ w'.cell? ⟨w4.heap.size, 4, none⟩ = some (.int .i64 0) ∧ w'.cell? ⟨w4.heap.size, 5, none⟩ = some (.bool false) ∧ w'.cell? ⟨w4.heap.size, 6, none⟩ = some (.int .i64 0) ∧ w'.cell? ⟨w4.heap.size, 7, none⟩ = some (.int .i64 0))
            (first
              | ((try dsimp only); (repeat' apply And.intro) <;> exact drew_cell (by assumption))
              | ((try dsimp only at *); go_split_ands; (repeat' apply And.intro) <;> first | exact cell_kept (by assumption) hk N2.out | exact cell_kept (by assumption) hk N4.out))
            (first
              | (go_at_call 13; refine P1.out.mono ?_; rintro e w7 ⟨rfl, hJ7, hb7, hk⟩; have J7 := Aside0.mk hJ7; have B7 := Aside0.mk ((below_drew1 HB.out).trans (below_lower hb7 LB.out)); have S7 := Aside0.mk (Nat.le_trans HS.out hk.1); have C7 := Aside0.mk (blk_kept (W := wr.drew) HC.out hk N2.out); have T7 := Aside0.mk (blk_kept (W := wr.drew) HT.out hk N4.out); clear P1 hJ7 hb7))
          all_goals
            simp only [Exit.then]
            go_wp2_with fail
            go_roundw
            case rel => exact ⟨i2 + 1, by omega, by go_num, J7, B7, S7, C7, T7⟩
            case measure => simp [intOf]; omega
        · have hd1 : decide ((i2 : Int) < 8) = false := decide_eq_false (by omega)
          have hd2 : ((i2 : Int) < 8) = False := eq_false (by omega)
          have hi8' : i2 = 8 := by omega
          have HJ0 : Aside0 (JobAt wr W2.heap.size (fun k => W2.heap.size ≤ k ∧ k ≠ w4.heap.size) g 7 (List.replicate (X4.toNat + 1 - 0) ⟨⟨#[1, 97, 0]⟩, 1, ⟨#[0]⟩, ⟨#[0]⟩, 0, false, 0, 0⟩) X4 0 0 0 [] vr m) := ⟨by have := HJ.out; rw [hi8'] at this; rwa [show min 8 X4.toNat = X4.toNat by omega] at this⟩
          have hdep : Calls Try.prog 14 #[.pointer (some ⟨g, 0, none⟩)] wr fun e w' => e = .returned (.int .i64 (X4 + 1)) ∧ w' = wr := (Depth_calls HJ0.out).mono (fun e w' h => ⟨by rw [h.1, List.length_replicate, show (((X4.toNat + 1 - 0 : Nat)) : Int) = X4 + 1 by omega], h.2⟩)
          clear HJ cd4 hi8'
          go_wp2_with fail
          refine hdep.mono ?_
          rintro e w10 ⟨rfl, rfl⟩
          clear hdep
          simp only
          go_wp2_with fail
          clear hd1 hd2 hlt hi8
          generalize (i2 : Int) = vi2 at *
          generalize w10 = V2 at *
          go_loopw [15] (fun v15 wr => ∃ i : Nat, i ≤ 9 ∧ v15 = .int .i64 i ∧ Aside0 (∃ v, JobAt wr W2.heap.size (fun k => W2.heap.size ≤ k ∧ k ≠ w4.heap.size) g 7 (List.replicate (X4.toNat + 1 - i) ⟨⟨#[1, 97, 0]⟩, 1, ⟨#[0]⟩, ⟨#[0]⟩, 0, false, 0, 0⟩) X4 0 0 0 [] v m) ∧ Aside0 (Below w.heap.size w wr) ∧ Aside0 (wr.heap[w2.heap.size]? = some (Obj.cells #[.slice A0 1 c0, .int .i64 20, .int .i64 4, .int .i64 X3, .int .i64 X4, .int .i64 X5, .int .i64 5, .int .i64 2, .int .i64 10, .int .i64 4, .slice A10 3 c10] 26))) (fun v15 _ => 9 - (intOf v15).toNat)
          case atStart => exact ⟨0, Nat.zero_le _, rfl, ⟨_, HJ0.out⟩, HB, HC⟩
          case round =>
            obtain ⟨i3, hi9, rfl, HJ, HB, HC⟩ := hrel
            obtain ⟨vq, hj⟩ := HJ.out
            have HJ := Aside0.mk hj
            clear hj HJ0
            by_cases hlt : i3 < 9
            · have hd1 : decide ((i3 : Int) < 9) = true := decide_eq_true (by omega)
              have hd2 : ((i3 : Int) < 9) = True := eq_true (by omega)
              go_wp2_with fail
              refine (Pop_rep (X4.toNat + 1) i3 (by omega) HJ.out).mono ?_
              rintro e w7 ⟨rfl, hJ7, hb7, hk⟩
              have J7 := Aside0.mk hJ7
              have B7 := Aside0.mk (HB.out.trans (below_lower hb7 LB.out))
              have C7 := Aside0.mk (blk_kept HC.out hk N2.out)
              clear HJ hJ7 hb7 hk
              simp only
              go_wp2_with fail
              go_roundw
              case rel => exact ⟨i3 + 1, by omega, by go_num, J7, B7, C7⟩
              case measure => simp [intOf]; omega
            · have hd1 : decide ((i3 : Int) < 9) = false := decide_eq_false (by omega)
              have hd2 : ((i3 : Int) < 9) = False := eq_false (by omega)
              have HJ0 : Aside0 (JobAt wr W2.heap.size (fun k => W2.heap.size ≤ k ∧ k ≠ w4.heap.size) g 7 [] X4 0 0 0 [] vq m) := ⟨by have := HJ.out; rwa [show X4.toNat + 1 - i3 = 0 by omega] at this⟩
              clear HJ
              go_wp2_with fail
              refine (Top_none HJ0.out).mono ?_
              rintro e w11 ⟨rfl, hb⟩
              have J11 := Aside0.mk (HJ0.out.below hb)
              have B11 := Aside0.mk (below_then HB.out HB.out.size hb)
              have C11 := Aside0.mk (blk_below HC.out hb)
              clear hb HJ0 HB HC
              have cd4 : w11.cell? ⟨w2.heap.size, 4, none⟩ = some (.int .i64 X4) := (blk_cell C11.out 4).trans rfl
              have cd4' : ∀ o, (w11.alloc o).cell? ⟨w2.heap.size, 4, none⟩ = some (.int .i64 X4) := fun o => alloc_cell cd4 o
              unfold v34 z34
              simp only
              go_wp2_with fail
              generalize hW : w11.alloc _ = W12
              have J12 : Aside0 (JobAt W12 W2.heap.size (fun k => W2.heap.size ≤ k ∧ k ≠ w4.heap.size) g 7 [] X4 0 0 0 [] vq m) := ⟨by rw [← hW]; exact J11.out.below (below_alloc (Below.refl _ _) _)⟩
              have B12 : Aside0 (Below w.heap.size w W12) := ⟨by rw [← hW]; exact below_alloc B11.out _⟩
              have q4 : W12.cell? ⟨w2.heap.size, 4, none⟩ = some (.int .i64 X4) := by rw [← hW]; exact cd4' _
              clear hW cd4 cd4' J11 B11 C11
              refine (wimplelaw0_Num.calls 0 0 _ rfl).mono ?_
              rintro e w13 ⟨rfl, ⟨nd, rfl⟩⟩
              have J13 := Aside0.mk (J12.out.below (pw_below_drewN (Below.refl _ _) nd))
              have hdep : Calls Try.prog 14 #[.pointer (some ⟨g, 0, none⟩)] (W12.drewN nd) fun e w' => e = .returned (.int .i64 0) ∧ w' = W12.drewN nd := Depth_calls J13.out
              have iw : wrap64 (X4 + 1) = X4 + 1 := IntWalk.wrap64_in _ (by omega)
              simp only
              go_wp2_with fail
              refine hdep.mono ?_
              rintro e w14 ⟨rfl, rfl⟩
              clear hdep
              simp only
              go_wp2_with fail
              refine (Chase_none J13.out ⟨#[1, 97, 0]⟩ 40 _ _ _ _ _ _ _ _ _ task_a0).mono ?_
              rintro e w15 ⟨rfl, hb⟩
              have B15 := Aside0.mk (below_then (pw_below_drewN B12.out nd) (pw_below_drewN B12.out nd).size hb)
              clear hb J13 J12
              simp only
              go_wp2_with fail
              go_ret
              exact ⟨rfl, B15.out⟩
end Go.Proofs.Ytkmdjcdmgmffiaa.M
