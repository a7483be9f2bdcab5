-- Written by a program of this session's prover (over the kit's printer, with contracts of the session's own); Lean checks it.
import Derived.Test.YtimkafkiphfacaaPx0
import Derived.Test.YtimkafkiphfacaaPx21
namespace Go.Proofs.Ytimkafkiphfacaa.P
open Go.RowKit Go.Proofs.YtimkafkiphfacaaW.PrintWords Go.Proofs.YtimkafkiphfacaaW.PrintLast Go.Proofs.YtimkafkiphfacaaW.PrintMore
attribute [local go_sem] max2_int min2_int max_two min_two max_three min_three max_four min_four   -- for this text's walks alone
set_option linter.unusedVariables false
set_option linter.unusedSimpArgs false

/-! ### wimplelaw0_SpoilRrs: function 40 -/
def wimplelaw0_SpoilRrs.l0 : Nat → List (S42) → Int → Option ((List (S42)))
  | 0, _, _ => none
  | k + 1, x0, x2 => if x2 < (x0.length : Int) then (if 0 ≤ x2 then (wimplelaw0_SpoilRrs.l0 k (x0.set (x2 : Int).toNat (⟨(rd_T42 x0 x2).f0, (rd_T42 x0 x2).f1, (rd_T42 x0 x2).f2, Go.bits .xor .i64 ((rd_T42 x0 x2).f3) 90, (rd_T42 x0 x2).f4⟩ : S42)) (wrap64 (x2 + 1))) else (none)) else (some x0)
def wimplelaw0_SpoilRrs.f (k : Nat) (l0 : List (S42)) : Option ((List (S42))) := wimplelaw0_SpoilRrs.l0 k l0 0
theorem wimplelaw0_SpoilRrs.mono_l : ∀ k, (∀ y0 y1, LeO (wimplelaw0_SpoilRrs.l0 k y0 y1) (wimplelaw0_SpoilRrs.l0 (k + 1) y0 y1))
  | 0 => fun _ _ r h => by simp [wimplelaw0_SpoilRrs.l0] at h
  | k + 1 => by
    have ih0 := wimplelaw0_SpoilRrs.mono_l k
    · intro y0 y1
      unfold wimplelaw0_SpoilRrs.l0
      repeat' first
      | (with_reducible exact ih0 _ _)
      | (with_reducible exact LeO.refl _)
      | (with_reducible exact LeO.none _)
      | (with_reducible refine LeO.ite ?_ ?_)
      | (with_reducible refine LeO.bind ?_ (fun _ => ?_))
      | exact ih0 _ _
      | exact LeO.none _
      | refine LeO.ite ?_ ?_
      | refine LeO.bind ?_ (fun _ => ?_)
theorem wimplelaw0_SpoilRrs.mono : ∀ a0 k, LeO (wimplelaw0_SpoilRrs.f k a0) (wimplelaw0_SpoilRrs.f (k + 1) a0) := by
  intro a0 k
  have ih0 := wimplelaw0_SpoilRrs.mono_l k
  unfold wimplelaw0_SpoilRrs.f
  repeat' first
      | (with_reducible exact ih0 _ _)
      | (with_reducible exact LeO.refl _)
      | (with_reducible exact LeO.none _)
      | (with_reducible refine LeO.ite ?_ ?_)
      | (with_reducible refine LeO.bind ?_ (fun _ => ?_))
      | exact ih0 _ _
      | exact LeO.none _
      | refine LeO.ite ?_ ?_
      | refine LeO.bind ?_ (fun _ => ?_)
set_option maxHeartbeats 8000000 in
set_option maxRecDepth 100000 in
theorem wimplelaw0_SpoilRrs.calls (k : Nat) (P0_ : Nat → Prop) (u9000_ : Value) (l0 : List (S42)) (r : List (S42)) (w0 w : World) (hB : Below w0.heap.size w0 w) (ho0 : Kd.R k42 42 w w0.heap.size P0_ u9000_ l0) (h : wimplelaw0_SpoilRrs.f k l0 = some r) :
    Calls Try.prog 40 #[u9000_] w fun e w' => e = .returned (.tuple #[]) ∧ Kd.R k42 42 w' w0.heap.size (fun k_ => (P0_ k_ ∨ w.heap.size ≤ k_)) u9000_ r ∧ Below w0.heap.size w0 w' ∧ Kept w w' (fun k_ => P0_ k_) := by
  have HO0 := Aside0.mk (show Kd.R k42 42 w w0.heap.size (fun k_ => (P0_ k_ ∨ w.heap.size ≤ k_)) u9000_ l0 from Kd.R_mono ho0 (fun k_ hk => (.inl hk)))
  have HK := Aside0.mk (Kept.refl w (fun k_ => P0_ k_))
  have HW0 := Aside0.mk hB.size
  have HB := Aside0.mk hB
  clear hB
  have H : (wimplelaw0_SpoilRrs.l0 k l0 0) = some r := h
  clear h
  have H' := Aside0.mk H
  clear H
  go_enter Try.func40, Try.ntmps40
  try simp only [List.append_eq, List.cons_append, List.nil_append]
  go_wp2
  go_loopg [2] k (fun kq v2 w' => ∃ (x0_1 : List (S42)) (x2_1 : Int), v2 = .int .i64 x2_1 ∧ Aside0 (wimplelaw0_SpoilRrs.l0 kq x0_1 x2_1 = some r) ∧ Aside0 (kq ≤ k) ∧ Aside0 (Kd.R k42 42 w' w0.heap.size (fun k_ => (P0_ k_ ∨ w.heap.size ≤ k_)) u9000_ x0_1) ∧ Aside0 (Kept w w' (fun k_ => P0_ k_)) ∧ Aside0 (Below w0.heap.size w0 w'))
  case atStart => exact ⟨(l0), (0), (by first | rfl | (simp; done) | (simp [*]; done) | (simp [ByteArray.size_append]; exact Iff.rfl)), H', ⟨Nat.le_refl _⟩, ⟨by (with_reducible repeat (first | apply Kd.R_alloc | apply Kd.R_drewN | apply Kd.R_drew)); exact HO0.out⟩, ⟨by repeat (first | (with_reducible first | exact HK.out | apply Kept.alloc | apply Kept.drewN | apply Kept.drew) | exact HK.out)⟩, ⟨by repeat (first | (with_reducible first | exact HB.out | apply below_alloc | apply pw_below_drewN | apply below_drew1) | exact HB.out)⟩⟩
  case round =>
    clear H'
    obtain ⟨x0_1, x2_1, rfl, HA, HK1, HO_0, HK, HB⟩ := hrel
    cases gk with
    | zero => exact absurd HA.out (by simp [wimplelaw0_SpoilRrs.l0])
    | succ k1 =>
      have H := HA.out
      clear HA
      simp only [wimplelaw0_SpoilRrs.l0] at H
      by_cases c2 : x2_1 < (x0_1.length : Int)
      · rw [if_pos c2] at H
        have c2b0 : decide (x2_1 < (x0_1.length : Int)) = true := decide_eq_true c2
        clear c2
        by_cases c3 : 0 ≤ x2_1
        · rw [if_pos c3] at H
          have c3b0 : decide (0 ≤ x2_1) = true := decide_eq_true c3
          clear c3
          obtain ⟨y236, hy236⟩ : ∃ y_ : List (S42), y_ = (x0_1.set (x2_1 : Int).toNat (⟨(rd_T42 x0_1 x2_1).f0, (rd_T42 x0_1 x2_1).f1, (rd_T42 x0_1 x2_1).f2, Go.bits .xor .i64 ((rd_T42 x0_1 x2_1).f3) 90, (rd_T42 x0_1 x2_1).f4⟩ : S42)) := ⟨_, rfl⟩
          replace H : (wimplelaw0_SpoilRrs.l0 k1 y236 (wrap64 (x2_1 + 1))) = some r := by first | (rw [hy236]; with_reducible exact H) | (have H2_ := (Option.bind_some _ _).symm.trans H; rw [hy236]; with_reducible exact H2_) | (have H2_ := (Option.bind_some _ _).symm.trans H; with_reducible exact H2_) | with_reducible exact H | (rw [hy236]; exact H) | exact H
          have Ny236 := Aside0.mk hy236
          clear hy236
          have H' := Aside0.mk H
          clear H
          obtain ⟨Ao5, co5, eo5⟩ := Kd.R_slice HO_0.out
          subst eo5
          have p235 : 0 ≤ (x2_1 : Int) := of_decide_eq_true (by first | (with_reducible assumption) | assumption)
          have q235 : x2_1 < (x0_1.length : Int) := of_decide_eq_true (by first | (with_reducible assumption) | assumption)
          obtain ⟨ad235, e235, hx235_0, hx235_1, hx235_2, hx235_3, hx235_4⟩ := at_T42 (Kd.R_reads' HO_0.out).2.2 x2_1 p235 q235
          cases e235
          replace p235 := eq_true p235
          replace q235 := eq_true q235
          have p4 : 0 ≤ (x2_1 : Int) := of_decide_eq_true (by first | (with_reducible assumption) | assumption)
          have q4 : (x2_1 : Int) < ((x0_1.length : Int) : Int) := of_decide_eq_true (by first | (with_reducible assumption) | assumption)
          obtain ⟨go4, co4, eo4, gb4, gl4, cl4, HG4⟩ := Kd.R_form HO_0.out (by omega)
          (first | cases eo4 | (injection eo4 with ea_ en_ ec_; (first | subst ea_ | (injection ea_ with ea_; subst ea_)); subst ec_; clear en_))
          have GB4 := Aside0.mk gb4
          have GG4 := Aside0.mk HG4
          clear gb4 gl4 HG4
          have HMgo4 := Aside0.mk (show (P0_ go4 ∨ w.heap.size ≤ go4) from (HO_0.out.1 _ rfl))
          (first | simp only [add_plain] at hx235_0 | skip)
          (first | simp only [add_plain] at hx235_1 | skip)
          (first | simp only [add_plain] at hx235_2 | skip)
          (first | simp only [add_plain] at hx235_3 | skip)
          (first | simp only [add_plain] at hx235_4 | skip)
          obtain ⟨ce4, hcl4, hM4, hcc4, hfr4⟩ := Kd.R_elem HO_0.out z42 (x2_1 : Int) p4 q4
          obtain rfl := k42_openM hM4
          have hx4_0 : wr.cell? ⟨go4, (x2_1 : Int).toNat * 5, none⟩ = some (.string ((rd_T42 x0_1 x2_1).f0)) := hcc4 0 _ rfl
          have hx4_1 : wr.cell? ⟨go4, (x2_1 : Int).toNat * 5 + 1, none⟩ = some (.int .i64 ((rd_T42 x0_1 x2_1).f1)) := hcc4 1 _ rfl
          have hx4_2 : wr.cell? ⟨go4, (x2_1 : Int).toNat * 5 + 2, none⟩ = some (.int .i64 ((rd_T42 x0_1 x2_1).f2)) := hcc4 2 _ rfl
          have hx4_3 : wr.cell? ⟨go4, (x2_1 : Int).toNat * 5 + 3, none⟩ = some (.int .i64 ((rd_T42 x0_1 x2_1).f3)) := hcc4 3 _ rfl
          have hx4_4 : wr.cell? ⟨go4, (x2_1 : Int).toNat * 5 + 4, none⟩ = some (.string ((rd_T42 x0_1 x2_1).f4)) := hcc4 4 _ rfl
          have hf4_0 : wr.frozen? ⟨go4, (x2_1 : Int).toNat * 5, none⟩ = false := hfr4 0
          have hf4_1 : wr.frozen? ⟨go4, (x2_1 : Int).toNat * 5 + 1, none⟩ = false := hfr4 1
          have hf4_2 : wr.frozen? ⟨go4, (x2_1 : Int).toNat * 5 + 2, none⟩ = false := hfr4 2
          have hf4_3 : wr.frozen? ⟨go4, (x2_1 : Int).toNat * 5 + 3, none⟩ = false := hfr4 3
          have hf4_4 : wr.frozen? ⟨go4, (x2_1 : Int).toNat * 5 + 4, none⟩ = false := hfr4 4
          clear hcl4 hcc4 hfr4 hM4
          replace p4 := eq_true p4
          replace q4 := eq_true q4
          have HX6 := Aside0.mk (show Kd.R k42 42 wr w0.heap.size (fun k_ => (P0_ k_ ∨ w.heap.size ≤ k_)) (.slice (some ⟨go4, 0, none⟩) x0_1.length co5) x0_1 from (by (with_reducible repeat (first | apply Kd.R_alloc | apply Kd.R_drewN | apply Kd.R_drew)); exact HO_0.out))
          obtain ⟨ce6, hcl6, hM6, hcc6, hfr6⟩ := Kd.R_elem HX6.out z42 (x2_1 : Int) (of_decide_eq_true (by first | (with_reducible assumption) | assumption)) (by have h_ : (x2_1 : Int) < ((x0_1.length : Int) : Int) := of_decide_eq_true (by first | (with_reducible assumption) | assumption); first | exact h_ | (have e_ := (Kd.R_reads' HO_0.out).1; omega) | simpa using h_)
          obtain rfl := k42_openM hM6
          have HP6 := Kd.R_seg HX6.out (x2_1 : Int) (of_decide_eq_true (by first | (with_reducible assumption) | assumption)) (by have h_ : (x2_1 : Int) < ((x0_1.length : Int) : Int) := of_decide_eq_true (by first | (with_reducible assumption) | assumption); first | exact h_ | (have e_ := (Kd.R_reads' HO_0.out).1; omega) | simpa using h_) (seg := [.int .i64 (Go.bits .xor .i64 ((rd_T42 x0_1 x2_1).f3) 90)]) (j := 3) hcl6 hcc6 (show 4 ≤ 5 from by decide) (x' := (⟨(rd_T42 x0_1 x2_1).f0, (rd_T42 x0_1 x2_1).f1, (rd_T42 x0_1 x2_1).f2, Go.bits .xor .i64 ((rd_T42 x0_1 x2_1).f3) 90, (rd_T42 x0_1 x2_1).f4⟩ : S42)) (k42_mkM _ _ _ (⟨(rd_T42 x0_1 x2_1).f0, (rd_T42 x0_1 x2_1).f1, (rd_T42 x0_1 x2_1).f2, Go.bits .xor .i64 ((rd_T42 x0_1 x2_1).f3) 90, (rd_T42 x0_1 x2_1).f4⟩ : S42) ) (fun _ hk => hk)
          have hx6_3 := hcc6 3 _ rfl
          (try simp only [show (k42).sz = 5 from rfl, Nat.mul_one, Nat.add_zero] at hx6_3)
          have hf6_3 := hfr6 3
          (try simp only [show (k42).sz = 5 from rfl, Nat.mul_one, Nat.add_zero] at hf6_3)
          clear hcl6 hcc6 hfr6 hM6
          go_wp2_with (first | ((with_reducible refine gate_store (t := 3) (p := 18) rfl ?_); refine store_event (t := 3) (p := 18) (v := ?vo_w7) (w1 := (wr.setCell ⟨go4, (x2_1 : Int).toNat * 5 + 3, none⟩ (.int .i64 (Go.bits .xor .i64 ((rd_T42 x0_1 x2_1).f3) 90)))) ?hg ?ho ?hn ?hr ?_; (case ho => rfl); (case hg => rfl); (case hn => rfl); (case hr => first | (go_simp; done) | (go_simp; rfl)); intro w7 hw; have hg : wr.grownBy w7 (some go4) := (by rw [hw]; exact HP6.2); have hp_ : Kd.R k42 42 w7 w0.heap.size (fun k_ => (P0_ k_ ∨ w.heap.size ≤ k_)) (.slice (some ⟨go4, 0, none⟩) x0_1.length co5) y236 := (by rw [hw, Ny236.out]; exact HP6.1); clear HP6; have n0_ := Aside0.mk (hp_); have n1_ := Aside0.mk ((by rw [hw]; exact below_set (HB.out) GB4.out : Below w0.heap.size w0 w7)); have n2_ := Aside0.mk (Kept.of_grown (S := (fun k_ => P0_ k_)) hg (by repeat (first | (with_reducible first | exact HK.out | apply Kept.alloc | apply Kept.drewN | apply Kept.drew) | exact HK.out)) (fun k_ e_ => (HO_0.out.1 k_ e_))); clear HO_0; clear HB; clear HK; have HO_0 := n0_; have HB := n1_; have HK := n2_; clear n0_ n1_ n2_; clear hg hw hp_))
          go_roundg k1
          case measure => have := HK1.out; omega
          case rel => exact ⟨(y236), (wrap64 (x2_1 + 1)), (by first | rfl | (simp; done) | (simp [*]; done) | (simp [ByteArray.size_append]; exact Iff.rfl)), H', ⟨by have := HK1.out; omega⟩, ⟨by (with_reducible repeat (first | apply Kd.R_alloc | apply Kd.R_drewN | apply Kd.R_drew)); exact HO_0.out⟩, ⟨by repeat (first | (with_reducible first | exact HK.out | apply Kept.alloc | apply Kept.drewN | apply Kept.drew) | exact HK.out)⟩, ⟨by repeat (first | (with_reducible first | exact HB.out | apply below_alloc | apply pw_below_drewN | apply below_drew1) | exact HB.out)⟩⟩
        · rw [if_neg c3] at H
          exact absurd H (by simp)
      · rw [if_neg c2] at H
        have c2b0 : decide (x2_1 < (x0_1.length : Int)) = false := decide_eq_false c2
        clear c2
        obtain rfl := Option.some.inj H
        obtain ⟨Ao8, co8, eo8⟩ := Kd.R_slice HO_0.out
        subst eo8
        go_wp2
        first | go_end0 | ((try simp only [Exit.inBlock, Exit.then]); refine bodyPost_ret (results_none rfl _ _ _) rfl ?_)
        exact ⟨by first | rfl | (simp [errW_none, errW_some] <;> rfl) | (simp [*, errW_none, errW_some] <;> rfl), by (with_reducible repeat (first | apply Kd.R_alloc | apply Kd.R_drewN | apply Kd.R_drew)); exact HO_0.out, by repeat (first | (with_reducible first | exact HB.out | apply below_alloc | apply pw_below_drewN | apply below_drew1) | exact HB.out), by repeat (first | (with_reducible first | exact HK.out | apply Kept.alloc | apply Kept.drewN | apply Kept.drew) | exact HK.out)⟩

/-! ### wimplelaw0_SpoilMsg: function 15 -/
def wimplelaw0_SpoilMsg.f (k : Nat) (a0_0 : Int) (a0_1 : Bool) (a0_2 : Int) (a0_3 : Bool) (a0_4 : Bool) (a0_5 : Bool) (a0_6 : Bool) (a0_7 : Int) (a0_8 : Int) (l0_9 : List (S71)) (l0_10 : List (S42)) (l0_11 : List (S42)) (l0_12 : List (S42)) : Option ((List (S71)) × (List (S42)) × (List (S42)) × (List (S42))) := (wimplelaw0_SpoilQuestions.f k l0_9).bind fun t238 => ((wimplelaw0_SpoilRrs.f k l0_10).bind fun t239 => ((wimplelaw0_SpoilRrs.f k l0_11).bind fun t240 => ((wimplelaw0_SpoilRrs.f k l0_12).bind fun t241 => (some (t238, t239, t240, t241)))))
theorem wimplelaw0_SpoilMsg.mono : ∀ a0 a1 a2 a3 a4 a5 a6 a7 a8 a9 a10 a11 a12 k, LeO (wimplelaw0_SpoilMsg.f k a0 a1 a2 a3 a4 a5 a6 a7 a8 a9 a10 a11 a12) (wimplelaw0_SpoilMsg.f (k + 1) a0 a1 a2 a3 a4 a5 a6 a7 a8 a9 a10 a11 a12) := by
 intro a0 a1 a2 a3 a4 a5 a6 a7 a8 a9 a10 a11 a12 k
 unfold wimplelaw0_SpoilMsg.f
 repeat' first
   | (with_reducible exact wimplelaw0_SpoilQuestions.mono _ _)
   | (with_reducible exact wimplelaw0_SpoilRrs.mono _ _)
   | (with_reducible exact LeO.refl _)
   | (with_reducible exact LeO.none _)
   | (with_reducible refine LeO.ite ?_ ?_)
   | (with_reducible refine LeO.bind ?_ (fun _ => ?_))
   | exact wimplelaw0_SpoilQuestions.mono _ _
   | exact wimplelaw0_SpoilRrs.mono _ _
   | exact LeO.none _
   | refine LeO.ite ?_ ?_
   | refine LeO.bind ?_ (fun _ => ?_)
set_option maxHeartbeats 8000000 in
set_option maxRecDepth 100000 in
theorem wimplelaw0_SpoilMsg.calls (k : Nat) (a0_0 : Int) (a0_1 : Bool) (a0_2 : Int) (a0_3 : Bool) (a0_4 : Bool) (a0_5 : Bool) (a0_6 : Bool) (a0_7 : Int) (a0_8 : Int) (P0_9_ : Nat → Prop) (u9000_ : Value) (l0_9 : List (S71)) (P0_10_ : Nat → Prop) (u9001_ : Value) (l0_10 : List (S42)) (P0_11_ : Nat → Prop) (u9002_ : Value) (l0_11 : List (S42)) (P0_12_ : Nat → Prop) (u9003_ : Value) (l0_12 : List (S42)) (r1 : List (S71)) (r2 : List (S42)) (r3 : List (S42)) (r4 : List (S42)) (w0 w : World) (hB : Below w0.heap.size w0 w) (ho0_9 : Kd.R k71 71 w w0.heap.size P0_9_ u9000_ l0_9) (ho0_10 : Kd.R k42 42 w w0.heap.size P0_10_ u9001_ l0_10) (hp0_10_0_11 : ∀ k_, P0_10_ k_ → ¬ P0_11_ k_) (hp0_10_0_12 : ∀ k_, P0_10_ k_ → ¬ P0_12_ k_) (ho0_11 : Kd.R k42 42 w w0.heap.size P0_11_ u9002_ l0_11) (hp0_11_0_10 : ∀ k_, P0_11_ k_ → ¬ P0_10_ k_) (hp0_11_0_12 : ∀ k_, P0_11_ k_ → ¬ P0_12_ k_) (ho0_12 : Kd.R k42 42 w w0.heap.size P0_12_ u9003_ l0_12) (hp0_12_0_10 : ∀ k_, P0_12_ k_ → ¬ P0_10_ k_) (hp0_12_0_11 : ∀ k_, P0_12_ k_ → ¬ P0_11_ k_) (h : wimplelaw0_SpoilMsg.f k a0_0 a0_1 a0_2 a0_3 a0_4 a0_5 a0_6 a0_7 a0_8 l0_9 l0_10 l0_11 l0_12 = some (r1, r2, r3, r4)) :
  Calls Try.prog 15 #[.agg #[.int .i64 a0_0, .bool a0_1, .int .i64 a0_2, .bool a0_3, .bool a0_4, .bool a0_5, .bool a0_6, .int .i64 a0_7, .int .i64 a0_8, u9000_, u9001_, u9002_, u9003_]] w fun e w' => e = .returned (.tuple #[]) ∧ Kd.R k71 71 w' w0.heap.size (fun k_ => ((P0_9_ k_ ∨ P0_10_ k_ ∨ P0_11_ k_ ∨ P0_12_ k_) ∨ w.heap.size ≤ k_)) u9000_ r1 ∧ Kd.R k42 42 w' w0.heap.size (fun k_ => ((P0_9_ k_ ∨ P0_10_ k_ ∨ P0_11_ k_ ∨ P0_12_ k_) ∨ w.heap.size ≤ k_)) u9001_ r2 ∧ Kd.R k42 42 w' w0.heap.size (fun k_ => ((P0_9_ k_ ∨ P0_10_ k_ ∨ P0_11_ k_ ∨ P0_12_ k_) ∨ w.heap.size ≤ k_)) u9002_ r3 ∧ Kd.R k42 42 w' w0.heap.size (fun k_ => ((P0_9_ k_ ∨ P0_10_ k_ ∨ P0_11_ k_ ∨ P0_12_ k_) ∨ w.heap.size ≤ k_)) u9003_ r4 ∧ Below w0.heap.size w0 w' ∧ Kept w w' (fun k_ => P0_9_ k_ ∨ P0_10_ k_ ∨ P0_11_ k_ ∨ P0_12_ k_) := by
 have hu27 := Try.underlying27
 have HO0_9 := Aside0.mk (show Kd.R k71 71 w w0.heap.size (fun k_ => ((P0_9_ k_ ∨ P0_10_ k_ ∨ P0_11_ k_ ∨ P0_12_ k_) ∨ w.heap.size ≤ k_)) u9000_ l0_9 from Kd.R_mono ho0_9 (fun k_ hk => (.inl (.inl hk))))
 have HO0_10 := Aside0.mk (show Kd.R k42 42 w w0.heap.size (fun k_ => ((P0_9_ k_ ∨ P0_10_ k_ ∨ P0_11_ k_ ∨ P0_12_ k_) ∨ w.heap.size ≤ k_) ∧ some k_ ≠ (u9002_ : Value).ownBlock ∧ some k_ ≠ (u9003_ : Value).ownBlock) u9001_ l0_10 from Kd.R_mono ho0_10 (fun k_ hk => ⟨(.inl (.inr (.inl hk))), fun e_ => hp0_10_0_11 k_ hk (ho0_11.1 k_ e_.symm), fun e_ => hp0_10_0_12 k_ hk (ho0_12.1 k_ e_.symm)⟩))
 have HO0_11 := Aside0.mk (show Kd.R k42 42 w w0.heap.size (fun k_ => ((P0_9_ k_ ∨ P0_10_ k_ ∨ P0_11_ k_ ∨ P0_12_ k_) ∨ w.heap.size ≤ k_) ∧ some k_ ≠ (u9001_ : Value).ownBlock ∧ some k_ ≠ (u9003_ : Value).ownBlock) u9002_ l0_11 from Kd.R_mono ho0_11 (fun k_ hk => ⟨(.inl (.inr (.inr (.inl hk)))), fun e_ => hp0_11_0_10 k_ hk (ho0_10.1 k_ e_.symm), fun e_ => hp0_11_0_12 k_ hk (ho0_12.1 k_ e_.symm)⟩))
 have HO0_12 := Aside0.mk (show Kd.R k42 42 w w0.heap.size (fun k_ => ((P0_9_ k_ ∨ P0_10_ k_ ∨ P0_11_ k_ ∨ P0_12_ k_) ∨ w.heap.size ≤ k_) ∧ some k_ ≠ (u9001_ : Value).ownBlock ∧ some k_ ≠ (u9002_ : Value).ownBlock) u9003_ l0_12 from Kd.R_mono ho0_12 (fun k_ hk => ⟨(.inl (.inr (.inr (.inr hk)))), fun e_ => hp0_12_0_10 k_ hk (ho0_10.1 k_ e_.symm), fun e_ => hp0_12_0_11 k_ hk (ho0_11.1 k_ e_.symm)⟩))
 have HK := Aside0.mk (Kept.refl w (fun k_ => P0_9_ k_ ∨ P0_10_ k_ ∨ P0_11_ k_ ∨ P0_12_ k_))
 have HW0 := Aside0.mk hB.size
 have HB := Aside0.mk hB
 clear hB
 have H : ((wimplelaw0_SpoilQuestions.f k l0_9).bind fun t238 => ((wimplelaw0_SpoilRrs.f k l0_10).bind fun t239 => ((wimplelaw0_SpoilRrs.f k l0_11).bind fun t240 => ((wimplelaw0_SpoilRrs.f k l0_12).bind fun t241 => (some (t238, t239, t240, t241)))))) = some (r1, r2, r3, r4) := h
 clear h
 replace H := Option.bind_eq_some_iff.mp H
 obtain ⟨t238, A20, H⟩ := H
 replace H : ((wimplelaw0_SpoilRrs.f k l0_10).bind fun t239 => ((wimplelaw0_SpoilRrs.f k l0_11).bind fun t240 => ((wimplelaw0_SpoilRrs.f k l0_12).bind fun t241 => (some (t238, t239, t240, t241))))) = some (r1, r2, r3, r4) := H
 have A2 := Aside0.mk A20
 clear A20
 replace H := Option.bind_eq_some_iff.mp H
 obtain ⟨t239, A30, H⟩ := H
 replace H : ((wimplelaw0_SpoilRrs.f k l0_11).bind fun t240 => ((wimplelaw0_SpoilRrs.f k l0_12).bind fun t241 => (some (t238, t239, t240, t241)))) = some (r1, r2, r3, r4) := H
 have A3 := Aside0.mk A30
 clear A30
 replace H := Option.bind_eq_some_iff.mp H
 obtain ⟨t240, A40, H⟩ := H
 replace H : ((wimplelaw0_SpoilRrs.f k l0_12).bind fun t241 => (some (t238, t239, t240, t241))) = some (r1, r2, r3, r4) := H
 have A4 := Aside0.mk A40
 clear A40
 replace H := Option.bind_eq_some_iff.mp H
 obtain ⟨t241, A50, H⟩ := H
 replace H : (some (t238, t239, t240, t241)) = some (r1, r2, r3, r4) := H
 have A5 := Aside0.mk A50
 clear A50
 simp only [Option.some.injEq, Prod.mk.injEq] at H
 obtain ⟨rfl, rfl, rfl, rfl⟩ := H
 obtain ⟨Ao6, co6, eo6⟩ := Kd.R_slice HO0_9.out
 subst eo6
 obtain ⟨Ao7, co7, eo7⟩ := Kd.R_slice HO0_10.out
 subst eo7
 obtain ⟨Ao8, co8, eo8⟩ := Kd.R_slice HO0_11.out
 subst eo8
 obtain ⟨Ao9, co9, eo9⟩ := Kd.R_slice HO0_12.out
 subst eo9
 go_enter Try.func15, Try.ntmps15
 try simp only [List.append_eq, List.cons_append, List.nil_append]
 go_wp2_with (first | ((with_reducible refine gate_dst (N := 1) rfl ?_); refine box_event ?hg (N := 1) ?hd (cs := #[.int .i64 a0_0, .bool a0_1, .int .i64 a0_2, .bool a0_3, .bool a0_4, .bool a0_5, .bool a0_6, .int .i64 a0_7, .int .i64 a0_8, .slice Ao6 l0_9.length co6, .slice Ao7 l0_10.length co7, .slice Ao8 l0_11.length co8, .slice Ao9 l0_12.length co9]) (t := 27) ?hr ?_; (case hd => rfl); (case hg => rfl); (case hr => first | (go_simp; done) | (go_simp; rfl)); intro gb237 hg w10 hbox hb; have n0_ := Aside0.mk (Kd.R_below (by (with_reducible repeat (first | apply Kd.R_alloc | apply Kd.R_drewN | apply Kd.R_drew)); exact HO0_9.out) hb); have n1_ := Aside0.mk (Kd.R_below (by (with_reducible repeat (first | apply Kd.R_alloc | apply Kd.R_drewN | apply Kd.R_drew)); exact HO0_10.out) hb); have n2_ := Aside0.mk (Kd.R_below (by (with_reducible repeat (first | apply Kd.R_alloc | apply Kd.R_drewN | apply Kd.R_drew)); exact HO0_11.out) hb); have n3_ := Aside0.mk (Kd.R_below (by (with_reducible repeat (first | apply Kd.R_alloc | apply Kd.R_drewN | apply Kd.R_drew)); exact HO0_12.out) hb); have n4_ := Aside0.mk (Kept.below (S := (fun k_ => P0_9_ k_ ∨ P0_10_ k_ ∨ P0_11_ k_ ∨ P0_12_ k_)) (by repeat (first | (with_reducible first | exact HK.out | apply Kept.alloc | apply Kept.drewN | apply Kept.drew) | exact HK.out)) hb); have n5_ := Aside0.mk (below_step (by repeat (first | (with_reducible first | exact HB.out | apply below_alloc | apply pw_below_drewN | apply below_drew1) | exact HB.out)) hb); have n6_ := Aside0.mk (hbox); have n7_ := Aside0.mk ((by rw [hg]; exact (by first | exact HK.out.1 | exact (show Kept w _ (fun k_ => P0_9_ k_ ∨ P0_10_ k_ ∨ P0_11_ k_ ∨ P0_12_ k_) from by repeat (first | (with_reducible first | exact HK.out | apply Kept.alloc | apply Kept.drewN | apply Kept.drew) | exact HK.out)).1) : w.heap.size ≤ gb237)); have n8_ := Aside0.mk ((by rw [hg]; exact (below_size (by repeat (first | (with_reducible first | exact HB.out | apply below_alloc | apply pw_below_drewN | apply below_drew1) | exact HB.out))) : w0.heap.size ≤ gb237)); clear HO0_9; clear HO0_10; clear HO0_11; clear HO0_12; clear HK; clear HB; have HO0_9 := n0_; have HO0_10 := n1_; have HO0_11 := n2_; have HO0_12 := n3_; have HK := n4_; have HB := n5_; have BK237 := n6_; have GW237 := n7_; have GE237 := n8_; clear n0_ n1_ n2_ n3_ n4_ n5_ n6_ n7_ n8_; clear hb hbox hg; have hcz11_0 : w10.cell? ⟨gb237, 0, none⟩ = some (.int .i64 a0_0) := (blk_cell BK237.out 0).trans rfl; have hcz11_1 : w10.cell? ⟨gb237, 1, none⟩ = some (.bool a0_1) := (blk_cell BK237.out 1).trans rfl; have hcz11_2 : w10.cell? ⟨gb237, 2, none⟩ = some (.int .i64 a0_2) := (blk_cell BK237.out 2).trans rfl; have hcz11_3 : w10.cell? ⟨gb237, 3, none⟩ = some (.bool a0_3) := (blk_cell BK237.out 3).trans rfl; have hcz11_4 : w10.cell? ⟨gb237, 4, none⟩ = some (.bool a0_4) := (blk_cell BK237.out 4).trans rfl; have hcz11_5 : w10.cell? ⟨gb237, 5, none⟩ = some (.bool a0_5) := (blk_cell BK237.out 5).trans rfl; have hcz11_6 : w10.cell? ⟨gb237, 6, none⟩ = some (.bool a0_6) := (blk_cell BK237.out 6).trans rfl; have hcz11_7 : w10.cell? ⟨gb237, 7, none⟩ = some (.int .i64 a0_7) := (blk_cell BK237.out 7).trans rfl; have hcz11_8 : w10.cell? ⟨gb237, 8, none⟩ = some (.int .i64 a0_8) := (blk_cell BK237.out 8).trans rfl; have hcz11_9 : w10.cell? ⟨gb237, 9, none⟩ = some (.slice Ao6 l0_9.length co6) := (blk_cell BK237.out 9).trans rfl; have hcz11_10 : w10.cell? ⟨gb237, 10, none⟩ = some (.slice Ao7 l0_10.length co7) := (blk_cell BK237.out 10).trans rfl; have hcz11_11 : w10.cell? ⟨gb237, 11, none⟩ = some (.slice Ao8 l0_11.length co8) := (blk_cell BK237.out 11).trans rfl; have hcz11_12 : w10.cell? ⟨gb237, 12, none⟩ = some (.slice Ao9 l0_12.length co9) := (blk_cell BK237.out 12).trans rfl; have hfz11_0 := blk_frozen BK237.out 0; have hfz11_1 := blk_frozen BK237.out 1; have hfz11_2 := blk_frozen BK237.out 2; have hfz11_3 := blk_frozen BK237.out 3; have hfz11_4 := blk_frozen BK237.out 4; have hfz11_5 := blk_frozen BK237.out 5; have hfz11_6 := blk_frozen BK237.out 6; have hfz11_7 := blk_frozen BK237.out 7; have hfz11_8 := blk_frozen BK237.out 8; have hfz11_9 := blk_frozen BK237.out 9; have hfz11_10 := blk_frozen BK237.out 10; have hfz11_11 := blk_frozen BK237.out 11; have hfz11_12 := blk_frozen BK237.out 12) | ((with_reducible refine gate_callee (f := 39) rfl ?_); refine goesL_ (some 4) rfl rfl Try.func39 (by kernel_rfl) rfl #[.slice Ao6 l0_9.length co6] rfl (by (try simp only [List.map_toArray, List.map_cons, List.map_nil]); first | done | rfl | (simp only [List.length_drop, List.length_take]; rfl)) ?_; (with_reducible refine (wimplelaw0_SpoilQuestions.calls k (fun k_ => some k_ = (.slice Ao6 l0_9.length co6 : Value).ownBlock) (.slice Ao6 l0_9.length co6) l0_9 t238 w0 _ ?side1 ?side2 A2.out).mono ?_); (case side1 => repeat (first | (with_reducible first | exact HB.out | apply below_alloc | apply pw_below_drewN | apply below_drew1 | refine below_set ?_ GE237.out) | exact HB.out)); (case side2 => exact Kd.R_tight rfl HO0_9.out); rintro e w12 ⟨rfl, hy0, hb, hkp⟩; refine ⟨_, rfl, ?_⟩; have n0_ := Aside0.mk (Kd.R_reok rfl hy0 (fun k_ e_ => HO0_9.out.1 k_ e_)); have n1_ := Aside0.mk (Kd.R_mono (ok' := fun k_ => ((P0_9_ k_ ∨ P0_10_ k_ ∨ P0_11_ k_ ∨ P0_12_ k_) ∨ w.heap.size ≤ k_) ∧ some k_ ≠ (.slice Ao8 l0_11.length co8 : Value).ownBlock ∧ some k_ ≠ (.slice Ao9 l0_12.length co9 : Value).ownBlock) (Kd.R_keptB ((Kd.R_apart' HO0_10.out (Kd.R_typed HO0_9.out) (by decide))) hkp (fun k_ hk_ hs_ => (hk_.2) hs_)) (fun k_ hk_ => ⟨hk_.1.1.1, hk_.1.1.2.1, hk_.1.1.2.2⟩)); have n2_ := Aside0.mk (Kd.R_mono (ok' := fun k_ => ((P0_9_ k_ ∨ P0_10_ k_ ∨ P0_11_ k_ ∨ P0_12_ k_) ∨ w.heap.size ≤ k_) ∧ some k_ ≠ (.slice Ao7 l0_10.length co7 : Value).ownBlock ∧ some k_ ≠ (.slice Ao9 l0_12.length co9 : Value).ownBlock) (Kd.R_keptB ((Kd.R_apart' HO0_11.out (Kd.R_typed HO0_9.out) (by decide))) hkp (fun k_ hk_ hs_ => (hk_.2) hs_)) (fun k_ hk_ => ⟨hk_.1.1.1, hk_.1.1.2.1, hk_.1.1.2.2⟩)); have n3_ := Aside0.mk (Kd.R_mono (ok' := fun k_ => ((P0_9_ k_ ∨ P0_10_ k_ ∨ P0_11_ k_ ∨ P0_12_ k_) ∨ w.heap.size ≤ k_) ∧ some k_ ≠ (.slice Ao7 l0_10.length co7 : Value).ownBlock ∧ some k_ ≠ (.slice Ao8 l0_11.length co8 : Value).ownBlock) (Kd.R_keptB ((Kd.R_apart' HO0_12.out (Kd.R_typed HO0_9.out) (by decide))) hkp (fun k_ hk_ hs_ => (hk_.2) hs_)) (fun k_ hk_ => ⟨hk_.1.1.1, hk_.1.1.2.1, hk_.1.1.2.2⟩)); have n4_ := Aside0.mk (blk_kept (by (with_reducible repeat (first | refine blk_drewN ?_ _ | refine blk_drew ?_ | refine blk_alloc ?_ _)); exact BK237.out) hkp (fun hs_ => (fun e_ => (Kd.R_ne HO0_9.out BK237.out (by decide)) e_) hs_)); have n5_ := Aside0.mk (Kept.then_ (S := (fun k_ => P0_9_ k_ ∨ P0_10_ k_ ∨ P0_11_ k_ ∨ P0_12_ k_)) (by repeat (first | (with_reducible first | exact HK.out | apply Kept.alloc | apply Kept.drewN | apply Kept.drew | refine Kept.setCell ?_ (.inr GW237.out) _) | exact HK.out)) hkp (fun k_ hs_ => (fun e_ => (HO0_9.out.1 k_ e_.symm)) hs_)); have n6_ := Aside0.mk (hb); clear HO0_9; clear HO0_10; clear HO0_11; clear HO0_12; clear BK237; clear HK; clear HB; have HO0_9 := n0_; have HO0_10 := n1_; have HO0_11 := n2_; have HO0_12 := n3_; have BK237 := n4_; have HK := n5_; have HB := n6_; clear n0_ n1_ n2_ n3_ n4_ n5_ n6_; (try clear hb); (try clear hkp); (try clear hy0); have hcz13_0 : w12.cell? ⟨gb237, 0, none⟩ = some (.int .i64 a0_0) := (blk_cell BK237.out 0).trans rfl; have hcz13_1 : w12.cell? ⟨gb237, 1, none⟩ = some (.bool a0_1) := (blk_cell BK237.out 1).trans rfl; have hcz13_2 : w12.cell? ⟨gb237, 2, none⟩ = some (.int .i64 a0_2) := (blk_cell BK237.out 2).trans rfl; have hcz13_3 : w12.cell? ⟨gb237, 3, none⟩ = some (.bool a0_3) := (blk_cell BK237.out 3).trans rfl; have hcz13_4 : w12.cell? ⟨gb237, 4, none⟩ = some (.bool a0_4) := (blk_cell BK237.out 4).trans rfl; have hcz13_5 : w12.cell? ⟨gb237, 5, none⟩ = some (.bool a0_5) := (blk_cell BK237.out 5).trans rfl; have hcz13_6 : w12.cell? ⟨gb237, 6, none⟩ = some (.bool a0_6) := (blk_cell BK237.out 6).trans rfl; have hcz13_7 : w12.cell? ⟨gb237, 7, none⟩ = some (.int .i64 a0_7) := (blk_cell BK237.out 7).trans rfl; have hcz13_8 : w12.cell? ⟨gb237, 8, none⟩ = some (.int .i64 a0_8) := (blk_cell BK237.out 8).trans rfl; have hcz13_9 : w12.cell? ⟨gb237, 9, none⟩ = some (.slice Ao6 l0_9.length co6) := (blk_cell BK237.out 9).trans rfl; have hcz13_10 : w12.cell? ⟨gb237, 10, none⟩ = some (.slice Ao7 l0_10.length co7) := (blk_cell BK237.out 10).trans rfl; have hcz13_11 : w12.cell? ⟨gb237, 11, none⟩ = some (.slice Ao8 l0_11.length co8) := (blk_cell BK237.out 11).trans rfl; have hcz13_12 : w12.cell? ⟨gb237, 12, none⟩ = some (.slice Ao9 l0_12.length co9) := (blk_cell BK237.out 12).trans rfl; have hfz13_0 := blk_frozen BK237.out 0; have hfz13_1 := blk_frozen BK237.out 1; have hfz13_2 := blk_frozen BK237.out 2; have hfz13_3 := blk_frozen BK237.out 3; have hfz13_4 := blk_frozen BK237.out 4; have hfz13_5 := blk_frozen BK237.out 5; have hfz13_6 := blk_frozen BK237.out 6; have hfz13_7 := blk_frozen BK237.out 7; have hfz13_8 := blk_frozen BK237.out 8; have hfz13_9 := blk_frozen BK237.out 9; have hfz13_10 := blk_frozen BK237.out 10; have hfz13_11 := blk_frozen BK237.out 11; have hfz13_12 := blk_frozen BK237.out 12) | ((with_reducible refine gate_callee (f := 40) rfl ?_); refine goesL_ (some 7) rfl rfl Try.func40 (by kernel_rfl) rfl #[.slice Ao7 l0_10.length co7] rfl (by (try simp only [List.map_toArray, List.map_cons, List.map_nil]); first | done | rfl | (simp only [List.length_drop, List.length_take]; rfl)) ?_; (with_reducible refine (wimplelaw0_SpoilRrs.calls k (fun k_ => some k_ = (.slice Ao7 l0_10.length co7 : Value).ownBlock) (.slice Ao7 l0_10.length co7) l0_10 t239 w0 _ ?side1 ?side2 A3.out).mono ?_); (case side1 => repeat (first | (with_reducible first | exact HB.out | apply below_alloc | apply pw_below_drewN | apply below_drew1 | refine below_set ?_ GE237.out) | exact HB.out)); (case side2 => exact Kd.R_tight rfl HO0_10.out); rintro e w14 ⟨rfl, hy0, hb, hkp⟩; refine ⟨_, rfl, ?_⟩; have n0_ := Aside0.mk (Kd.R_mono (ok' := fun k_ => ((P0_9_ k_ ∨ P0_10_ k_ ∨ P0_11_ k_ ∨ P0_12_ k_) ∨ w.heap.size ≤ k_)) (Kd.R_keptB ((Kd.R_apart' HO0_9.out (Kd.R_typed HO0_10.out) (by decide))) hkp (fun k_ hk_ hs_ => (hk_.2) hs_)) (fun k_ hk_ => hk_.1.1)); have n1_ := Aside0.mk (Kd.R_reok rfl hy0 (fun k_ e_ => HO0_10.out.1 k_ e_)); have n2_ := Aside0.mk (Kd.R_mono (ok' := fun k_ => ((P0_9_ k_ ∨ P0_10_ k_ ∨ P0_11_ k_ ∨ P0_12_ k_) ∨ w.heap.size ≤ k_) ∧ some k_ ≠ (.slice Ao7 l0_10.length co7 : Value).ownBlock ∧ some k_ ≠ (.slice Ao9 l0_12.length co9 : Value).ownBlock) (Kd.R_keptB (HO0_11.out) hkp (fun k_ hk_ hs_ => (hk_.2.1) hs_)) (fun k_ hk_ => ⟨hk_.1.1, hk_.1.2.1, hk_.1.2.2⟩)); have n3_ := Aside0.mk (Kd.R_mono (ok' := fun k_ => ((P0_9_ k_ ∨ P0_10_ k_ ∨ P0_11_ k_ ∨ P0_12_ k_) ∨ w.heap.size ≤ k_) ∧ some k_ ≠ (.slice Ao7 l0_10.length co7 : Value).ownBlock ∧ some k_ ≠ (.slice Ao8 l0_11.length co8 : Value).ownBlock) (Kd.R_keptB (HO0_12.out) hkp (fun k_ hk_ hs_ => (hk_.2.1) hs_)) (fun k_ hk_ => ⟨hk_.1.1, hk_.1.2.1, hk_.1.2.2⟩)); have n4_ := Aside0.mk (blk_kept (by (with_reducible repeat (first | refine blk_drewN ?_ _ | refine blk_drew ?_ | refine blk_alloc ?_ _)); exact BK237.out) hkp (fun hs_ => (fun e_ => (Kd.R_ne HO0_10.out BK237.out (by decide)) e_) hs_)); have n5_ := Aside0.mk (Kept.then_ (S := (fun k_ => P0_9_ k_ ∨ P0_10_ k_ ∨ P0_11_ k_ ∨ P0_12_ k_)) (by repeat (first | (with_reducible first | exact HK.out | apply Kept.alloc | apply Kept.drewN | apply Kept.drew | refine Kept.setCell ?_ (.inr GW237.out) _) | exact HK.out)) hkp (fun k_ hs_ => (fun e_ => (HO0_10.out.1 k_ e_.symm).1) hs_)); have n6_ := Aside0.mk (hb); clear HO0_9; clear HO0_10; clear HO0_11; clear HO0_12; clear BK237; clear HK; clear HB; have HO0_9 := n0_; have HO0_10 := n1_; have HO0_11 := n2_; have HO0_12 := n3_; have BK237 := n4_; have HK := n5_; have HB := n6_; clear n0_ n1_ n2_ n3_ n4_ n5_ n6_; (try clear hb); (try clear hkp); (try clear hy0); have hcz15_0 : w14.cell? ⟨gb237, 0, none⟩ = some (.int .i64 a0_0) := (blk_cell BK237.out 0).trans rfl; have hcz15_1 : w14.cell? ⟨gb237, 1, none⟩ = some (.bool a0_1) := (blk_cell BK237.out 1).trans rfl; have hcz15_2 : w14.cell? ⟨gb237, 2, none⟩ = some (.int .i64 a0_2) := (blk_cell BK237.out 2).trans rfl; have hcz15_3 : w14.cell? ⟨gb237, 3, none⟩ = some (.bool a0_3) := (blk_cell BK237.out 3).trans rfl; have hcz15_4 : w14.cell? ⟨gb237, 4, none⟩ = some (.bool a0_4) := (blk_cell BK237.out 4).trans rfl; have hcz15_5 : w14.cell? ⟨gb237, 5, none⟩ = some (.bool a0_5) := (blk_cell BK237.out 5).trans rfl; have hcz15_6 : w14.cell? ⟨gb237, 6, none⟩ = some (.bool a0_6) := (blk_cell BK237.out 6).trans rfl; have hcz15_7 : w14.cell? ⟨gb237, 7, none⟩ = some (.int .i64 a0_7) := (blk_cell BK237.out 7).trans rfl; have hcz15_8 : w14.cell? ⟨gb237, 8, none⟩ = some (.int .i64 a0_8) := (blk_cell BK237.out 8).trans rfl; have hcz15_9 : w14.cell? ⟨gb237, 9, none⟩ = some (.slice Ao6 l0_9.length co6) := (blk_cell BK237.out 9).trans rfl; have hcz15_10 : w14.cell? ⟨gb237, 10, none⟩ = some (.slice Ao7 l0_10.length co7) := (blk_cell BK237.out 10).trans rfl; have hcz15_11 : w14.cell? ⟨gb237, 11, none⟩ = some (.slice Ao8 l0_11.length co8) := (blk_cell BK237.out 11).trans rfl; have hcz15_12 : w14.cell? ⟨gb237, 12, none⟩ = some (.slice Ao9 l0_12.length co9) := (blk_cell BK237.out 12).trans rfl; have hfz15_0 := blk_frozen BK237.out 0; have hfz15_1 := blk_frozen BK237.out 1; have hfz15_2 := blk_frozen BK237.out 2; have hfz15_3 := blk_frozen BK237.out 3; have hfz15_4 := blk_frozen BK237.out 4; have hfz15_5 := blk_frozen BK237.out 5; have hfz15_6 := blk_frozen BK237.out 6; have hfz15_7 := blk_frozen BK237.out 7; have hfz15_8 := blk_frozen BK237.out 8; have hfz15_9 := blk_frozen BK237.out 9; have hfz15_10 := blk_frozen BK237.out 10; have hfz15_11 := blk_frozen BK237.out 11; have hfz15_12 := blk_frozen BK237.out 12) | ((with_reducible refine gate_callee (f := 40) rfl ?_); refine goesL_ (some 10) rfl rfl Try.func40 (by kernel_rfl) rfl #[.slice Ao8 l0_11.length co8] rfl (by (try simp only [List.map_toArray, List.map_cons, List.map_nil]); first | done | rfl | (simp only [List.length_drop, List.length_take]; rfl)) ?_; (with_reducible refine (wimplelaw0_SpoilRrs.calls k (fun k_ => some k_ = (.slice Ao8 l0_11.length co8 : Value).ownBlock) (.slice Ao8 l0_11.length co8) l0_11 t240 w0 _ ?side1 ?side2 A4.out).mono ?_); (case side1 => repeat (first | (with_reducible first | exact HB.out | apply below_alloc | apply pw_below_drewN | apply below_drew1 | refine below_set ?_ GE237.out) | exact HB.out)); (case side2 => exact Kd.R_tight rfl HO0_11.out); rintro e w16 ⟨rfl, hy0, hb, hkp⟩; refine ⟨_, rfl, ?_⟩; have n0_ := Aside0.mk (Kd.R_mono (ok' := fun k_ => ((P0_9_ k_ ∨ P0_10_ k_ ∨ P0_11_ k_ ∨ P0_12_ k_) ∨ w.heap.size ≤ k_)) (Kd.R_keptB ((Kd.R_apart' HO0_9.out (Kd.R_typed HO0_11.out) (by decide))) hkp (fun k_ hk_ hs_ => (hk_.2) hs_)) (fun k_ hk_ => hk_.1.1)); have n1_ := Aside0.mk (Kd.R_mono (ok' := fun k_ => ((P0_9_ k_ ∨ P0_10_ k_ ∨ P0_11_ k_ ∨ P0_12_ k_) ∨ w.heap.size ≤ k_) ∧ some k_ ≠ (.slice Ao8 l0_11.length co8 : Value).ownBlock ∧ some k_ ≠ (.slice Ao9 l0_12.length co9 : Value).ownBlock) (Kd.R_keptB (HO0_10.out) hkp (fun k_ hk_ hs_ => (hk_.2.1) hs_)) (fun k_ hk_ => ⟨hk_.1.1, hk_.1.2.1, hk_.1.2.2⟩)); have n2_ := Aside0.mk (Kd.R_reok rfl hy0 (fun k_ e_ => HO0_11.out.1 k_ e_)); have n3_ := Aside0.mk (Kd.R_mono (ok' := fun k_ => ((P0_9_ k_ ∨ P0_10_ k_ ∨ P0_11_ k_ ∨ P0_12_ k_) ∨ w.heap.size ≤ k_) ∧ some k_ ≠ (.slice Ao7 l0_10.length co7 : Value).ownBlock ∧ some k_ ≠ (.slice Ao8 l0_11.length co8 : Value).ownBlock) (Kd.R_keptB (HO0_12.out) hkp (fun k_ hk_ hs_ => (hk_.2.2) hs_)) (fun k_ hk_ => ⟨hk_.1.1, hk_.1.2.1, hk_.1.2.2⟩)); have n4_ := Aside0.mk (blk_kept (by (with_reducible repeat (first | refine blk_drewN ?_ _ | refine blk_drew ?_ | refine blk_alloc ?_ _)); exact BK237.out) hkp (fun hs_ => (fun e_ => (Kd.R_ne HO0_11.out BK237.out (by decide)) e_) hs_)); have n5_ := Aside0.mk (Kept.then_ (S := (fun k_ => P0_9_ k_ ∨ P0_10_ k_ ∨ P0_11_ k_ ∨ P0_12_ k_)) (by repeat (first | (with_reducible first | exact HK.out | apply Kept.alloc | apply Kept.drewN | apply Kept.drew | refine Kept.setCell ?_ (.inr GW237.out) _) | exact HK.out)) hkp (fun k_ hs_ => (fun e_ => (HO0_11.out.1 k_ e_.symm).1) hs_)); have n6_ := Aside0.mk (hb); clear HO0_9; clear HO0_10; clear HO0_11; clear HO0_12; clear BK237; clear HK; clear HB; have HO0_9 := n0_; have HO0_10 := n1_; have HO0_11 := n2_; have HO0_12 := n3_; have BK237 := n4_; have HK := n5_; have HB := n6_; clear n0_ n1_ n2_ n3_ n4_ n5_ n6_; (try clear hb); (try clear hkp); (try clear hy0); have hcz17_0 : w16.cell? ⟨gb237, 0, none⟩ = some (.int .i64 a0_0) := (blk_cell BK237.out 0).trans rfl; have hcz17_1 : w16.cell? ⟨gb237, 1, none⟩ = some (.bool a0_1) := (blk_cell BK237.out 1).trans rfl; have hcz17_2 : w16.cell? ⟨gb237, 2, none⟩ = some (.int .i64 a0_2) := (blk_cell BK237.out 2).trans rfl; have hcz17_3 : w16.cell? ⟨gb237, 3, none⟩ = some (.bool a0_3) := (blk_cell BK237.out 3).trans rfl; have hcz17_4 : w16.cell? ⟨gb237, 4, none⟩ = some (.bool a0_4) := (blk_cell BK237.out 4).trans rfl; have hcz17_5 : w16.cell? ⟨gb237, 5, none⟩ = some (.bool a0_5) := (blk_cell BK237.out 5).trans rfl; have hcz17_6 : w16.cell? ⟨gb237, 6, none⟩ = some (.bool a0_6) := (blk_cell BK237.out 6).trans rfl; have hcz17_7 : w16.cell? ⟨gb237, 7, none⟩ = some (.int .i64 a0_7) := (blk_cell BK237.out 7).trans rfl; have hcz17_8 : w16.cell? ⟨gb237, 8, none⟩ = some (.int .i64 a0_8) := (blk_cell BK237.out 8).trans rfl; have hcz17_9 : w16.cell? ⟨gb237, 9, none⟩ = some (.slice Ao6 l0_9.length co6) := (blk_cell BK237.out 9).trans rfl; have hcz17_10 : w16.cell? ⟨gb237, 10, none⟩ = some (.slice Ao7 l0_10.length co7) := (blk_cell BK237.out 10).trans rfl; have hcz17_11 : w16.cell? ⟨gb237, 11, none⟩ = some (.slice Ao8 l0_11.length co8) := (blk_cell BK237.out 11).trans rfl; have hcz17_12 : w16.cell? ⟨gb237, 12, none⟩ = some (.slice Ao9 l0_12.length co9) := (blk_cell BK237.out 12).trans rfl; have hfz17_0 := blk_frozen BK237.out 0; have hfz17_1 := blk_frozen BK237.out 1; have hfz17_2 := blk_frozen BK237.out 2; have hfz17_3 := blk_frozen BK237.out 3; have hfz17_4 := blk_frozen BK237.out 4; have hfz17_5 := blk_frozen BK237.out 5; have hfz17_6 := blk_frozen BK237.out 6; have hfz17_7 := blk_frozen BK237.out 7; have hfz17_8 := blk_frozen BK237.out 8; have hfz17_9 := blk_frozen BK237.out 9; have hfz17_10 := blk_frozen BK237.out 10; have hfz17_11 := blk_frozen BK237.out 11; have hfz17_12 := blk_frozen BK237.out 12) | ((with_reducible refine gate_callee (f := 40) rfl ?_); refine goesL_ (some 13) rfl rfl Try.func40 (by kernel_rfl) rfl #[.slice Ao9 l0_12.length co9] rfl (by (try simp only [List.map_toArray, List.map_cons, List.map_nil]); first | done | rfl | (simp only [List.length_drop, List.length_take]; rfl)) ?_; (with_reducible refine (wimplelaw0_SpoilRrs.calls k (fun k_ => some k_ = (.slice Ao9 l0_12.length co9 : Value).ownBlock) (.slice Ao9 l0_12.length co9) l0_12 t241 w0 _ ?side1 ?side2 A5.out).mono ?_); (case side1 => repeat (first | (with_reducible first | exact HB.out | apply below_alloc | apply pw_below_drewN | apply below_drew1 | refine below_set ?_ GE237.out) | exact HB.out)); (case side2 => exact Kd.R_tight rfl HO0_12.out); rintro e w18 ⟨rfl, hy0, hb, hkp⟩; refine ⟨_, rfl, ?_⟩; have n0_ := Aside0.mk (Kd.R_mono (ok' := fun k_ => ((P0_9_ k_ ∨ P0_10_ k_ ∨ P0_11_ k_ ∨ P0_12_ k_) ∨ w.heap.size ≤ k_)) (Kd.R_keptB ((Kd.R_apart' HO0_9.out (Kd.R_typed HO0_12.out) (by decide))) hkp (fun k_ hk_ hs_ => (hk_.2) hs_)) (fun k_ hk_ => hk_.1.1)); have n1_ := Aside0.mk (Kd.R_mono (ok' := fun k_ => ((P0_9_ k_ ∨ P0_10_ k_ ∨ P0_11_ k_ ∨ P0_12_ k_) ∨ w.heap.size ≤ k_) ∧ some k_ ≠ (.slice Ao8 l0_11.length co8 : Value).ownBlock ∧ some k_ ≠ (.slice Ao9 l0_12.length co9 : Value).ownBlock) (Kd.R_keptB (HO0_10.out) hkp (fun k_ hk_ hs_ => (hk_.2.2) hs_)) (fun k_ hk_ => ⟨hk_.1.1, hk_.1.2.1, hk_.1.2.2⟩)); have n2_ := Aside0.mk (Kd.R_mono (ok' := fun k_ => ((P0_9_ k_ ∨ P0_10_ k_ ∨ P0_11_ k_ ∨ P0_12_ k_) ∨ w.heap.size ≤ k_) ∧ some k_ ≠ (.slice Ao7 l0_10.length co7 : Value).ownBlock ∧ some k_ ≠ (.slice Ao9 l0_12.length co9 : Value).ownBlock) (Kd.R_keptB (HO0_11.out) hkp (fun k_ hk_ hs_ => (hk_.2.2) hs_)) (fun k_ hk_ => ⟨hk_.1.1, hk_.1.2.1, hk_.1.2.2⟩)); have n3_ := Aside0.mk (Kd.R_reok rfl hy0 (fun k_ e_ => HO0_12.out.1 k_ e_)); have n4_ := Aside0.mk (blk_kept (by (with_reducible repeat (first | refine blk_drewN ?_ _ | refine blk_drew ?_ | refine blk_alloc ?_ _)); exact BK237.out) hkp (fun hs_ => (fun e_ => (Kd.R_ne HO0_12.out BK237.out (by decide)) e_) hs_)); have n5_ := Aside0.mk (Kept.then_ (S := (fun k_ => P0_9_ k_ ∨ P0_10_ k_ ∨ P0_11_ k_ ∨ P0_12_ k_)) (by repeat (first | (with_reducible first | exact HK.out | apply Kept.alloc | apply Kept.drewN | apply Kept.drew | refine Kept.setCell ?_ (.inr GW237.out) _) | exact HK.out)) hkp (fun k_ hs_ => (fun e_ => (HO0_12.out.1 k_ e_.symm).1) hs_)); have n6_ := Aside0.mk (hb); clear HO0_9; clear HO0_10; clear HO0_11; clear HO0_12; clear BK237; clear HK; clear HB; have HO0_9 := n0_; have HO0_10 := n1_; have HO0_11 := n2_; have HO0_12 := n3_; have BK237 := n4_; have HK := n5_; have HB := n6_; clear n0_ n1_ n2_ n3_ n4_ n5_ n6_; (try clear hb); (try clear hkp); (try clear hy0)))
 first | go_end0 | ((try simp only [Exit.inBlock, Exit.then]); refine bodyPost_ret (results_none rfl _ _ _) rfl ?_)
 exact ⟨by first | rfl | (simp [errW_none, errW_some] <;> rfl) | (simp [*, errW_none, errW_some] <;> rfl), by (with_reducible repeat (first | apply Kd.R_alloc | apply Kd.R_drewN | apply Kd.R_drew)); exact HO0_9.out, by (with_reducible repeat (first | apply Kd.R_alloc | apply Kd.R_drewN | apply Kd.R_drew)); exact Kd.R_mono HO0_10.out (fun _ hk => hk.1), by (with_reducible repeat (first | apply Kd.R_alloc | apply Kd.R_drewN | apply Kd.R_drew)); exact Kd.R_mono HO0_11.out (fun _ hk => hk.1), by (with_reducible repeat (first | apply Kd.R_alloc | apply Kd.R_drewN | apply Kd.R_drew)); exact Kd.R_mono HO0_12.out (fun _ hk => hk.1), by repeat (first | (with_reducible first | exact HB.out | apply below_alloc | apply pw_below_drewN | apply below_drew1 | refine below_set ?_ GE237.out) | exact HB.out), by repeat (first | (with_reducible first | exact HK.out | apply Kept.alloc | apply Kept.drewN | apply Kept.drew | refine Kept.setCell ?_ (.inr GW237.out) _) | exact HK.out)⟩

end Go.Proofs.Ytimkafkiphfacaa.P
