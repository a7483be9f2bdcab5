-- Written by a program of this session's prover (over the kit's printer, with contracts of the session's own); Lean checks it.
import Derived.Test.YtimkafkiphfacaaHServe3
import Derived.Test.YtimkafkiphfacaaPx0
import Derived.Test.YtimkafkiphfacaaPx23
namespace Go.Proofs.Ytimkafkiphfacaa.P
open Go.RowKit Go.Proofs.YtimkafkiphfacaaW.PrintWords Go.Proofs.YtimkafkiphfacaaW.PrintLast Go.Proofs.YtimkafkiphfacaaW.PrintMore
attribute [local go_sem] max2_int min2_int max_two min_two max_three min_three max_four min_four   -- for this text's walks alone
set_option linter.unusedVariables false
set_option linter.unusedSimpArgs false

/-! ### wimplelaw0_LendBindings: function 22 -/
def wimplelaw0_LendBindings.f (l0 : List (S61)) : Option ((List (S61))) := (wimplelaw0_CopyBindings.f l0).bind fun t570 => ((some (([(⟨(⟨#[]⟩ : ByteArray), (⟨#[]⟩ : ByteArray), 77777, (⟨#[]⟩ : ByteArray), 0⟩ : S61), (⟨(⟨#[]⟩ : ByteArray), (⟨#[]⟩ : ByteArray), 77777, (⟨#[]⟩ : ByteArray), 0⟩ : S61)] : List (S61)) : List (S61))).bind fun y573 => (if t570.length + y573.length < 2199023255552 then ((some (t570 ++ y573 : List (S61))).bind fun y576 => (if 0 ≤ (l0.length : Int) then (if (l0.length : Int) ≤ (y576.length : Int) then (some (y576.take ((l0.length : Int) : Int).toNat)) else (none)) else (none))) else (none)))
set_option maxHeartbeats 8000000 in
set_option maxRecDepth 100000 in
theorem wimplelaw0_LendBindings.calls (A0 : Option Addr) (c0 : Nat) (l0 : List (S61)) (r : List (S61)) (w : World) (hr0 : Kd.C k61 w A0 l0.length l0) (hc0 : l0.length ≤ c0) (h : wimplelaw0_LendBindings.f l0 = some r) :
    Calls Try.prog 22 #[.slice A0 l0.length c0] w fun e w' => ∃ v0_ : Value, e = .returned (v0_) ∧ Kd.R k61 61 w' w.heap.size (fun _ => True) v0_ r ∧ Below w.heap.size w w' := by
  have hu61 := Try.underlying61
  have HR0 := Aside0.mk hr0
  have HC0 := Aside0.mk hc0
  clear hr0 hc0
  have HB := Aside0.mk (Below.refl w.heap.size w)
  have H : ((wimplelaw0_CopyBindings.f l0).bind fun t570 => ((some (([(⟨(⟨#[]⟩ : ByteArray), (⟨#[]⟩ : ByteArray), 77777, (⟨#[]⟩ : ByteArray), 0⟩ : S61), (⟨(⟨#[]⟩ : ByteArray), (⟨#[]⟩ : ByteArray), 77777, (⟨#[]⟩ : ByteArray), 0⟩ : S61)] : List (S61)) : List (S61))).bind fun y573 => (if t570.length + y573.length < 2199023255552 then ((some (t570 ++ y573 : List (S61))).bind fun y576 => (if 0 ≤ (l0.length : Int) then (if (l0.length : Int) ≤ (y576.length : Int) then (some (y576.take ((l0.length : Int) : Int).toNat)) else (none)) else (none))) else (none)))) = some r := h
  clear h
  replace H := Option.bind_eq_some_iff.mp H
  obtain ⟨t570, A20, H⟩ := H
  replace H : ((some (([(⟨(⟨#[]⟩ : ByteArray), (⟨#[]⟩ : ByteArray), 77777, (⟨#[]⟩ : ByteArray), 0⟩ : S61), (⟨(⟨#[]⟩ : ByteArray), (⟨#[]⟩ : ByteArray), 77777, (⟨#[]⟩ : ByteArray), 0⟩ : S61)] : List (S61)) : List (S61))).bind fun y573 => (if t570.length + y573.length < 2199023255552 then ((some (t570 ++ y573 : List (S61))).bind fun y576 => (if 0 ≤ (l0.length : Int) then (if (l0.length : Int) ≤ (y576.length : Int) then (some (y576.take ((l0.length : Int) : Int).toNat)) else (none)) else (none))) else (none))) = some r := H
  have A2 := Aside0.mk A20
  clear A20
  obtain ⟨y573, hy573⟩ : ∃ y_ : List (S61), y_ = (([(⟨(⟨#[]⟩ : ByteArray), (⟨#[]⟩ : ByteArray), 77777, (⟨#[]⟩ : ByteArray), 0⟩ : S61), (⟨(⟨#[]⟩ : ByteArray), (⟨#[]⟩ : ByteArray), 77777, (⟨#[]⟩ : ByteArray), 0⟩ : S61)] : List (S61))) := ⟨_, rfl⟩
  replace H : (if t570.length + y573.length < 2199023255552 then ((some (t570 ++ y573 : List (S61))).bind fun y576 => (if 0 ≤ (l0.length : Int) then (if (l0.length : Int) ≤ (y576.length : Int) then (some (y576.take ((l0.length : Int) : Int).toNat)) else (none)) else (none))) else (none)) = some r := by first | (rw [hy573]; with_reducible exact H) | (have H2_ := (Option.bind_some _ _).symm.trans H; rw [hy573]; with_reducible exact H2_) | (have H2_ := (Option.bind_some _ _).symm.trans H; with_reducible exact H2_) | with_reducible exact H | (rw [hy573]; exact H) | exact H
  have Ny573 := Aside0.mk hy573
  clear hy573
  by_cases c3 : t570.length + y573.length < 2199023255552
  · rw [if_pos c3] at H
    have LMc3 := Aside0.mk c3
    clear c3
    obtain ⟨y576, hy576⟩ : ∃ y_ : List (S61), y_ = (t570 ++ y573) := ⟨_, rfl⟩
    replace H : (if 0 ≤ (l0.length : Int) then (if (l0.length : Int) ≤ (y576.length : Int) then (some (y576.take ((l0.length : Int) : Int).toNat)) else (none)) else (none)) = some r := by first | (rw [hy576]; with_reducible exact H) | (have H2_ := (Option.bind_some _ _).symm.trans H; rw [hy576]; with_reducible exact H2_) | (have H2_ := (Option.bind_some _ _).symm.trans H; with_reducible exact H2_) | with_reducible exact H | (rw [hy576]; exact H) | exact H
    have Ny576 := Aside0.mk hy576
    clear hy576
    by_cases c4 : 0 ≤ (l0.length : Int)
    · rw [if_pos c4] at H
      have c4b0 := eq_true c4
      have c4b1 : decide (0 ≤ (l0.length : Int)) = true := decide_eq_true c4
      clear c4
      by_cases c5 : (l0.length : Int) ≤ (y576.length : Int)
      · rw [if_pos c5] at H
        have c5b0 := eq_true c5
        have c5b1 : decide ((l0.length : Int) ≤ (y576.length : Int)) = true := decide_eq_true c5
        clear c5
        obtain ⟨y579, hy579⟩ : ∃ y_ : List (S61), y_ = (y576.take ((l0.length : Int) : Int).toNat) := ⟨_, rfl⟩
        replace H : (some y579) = some r := by first | (rw [hy579]; with_reducible exact H) | (have H2_ := (Option.bind_some _ _).symm.trans H; rw [hy579]; with_reducible exact H2_) | (have H2_ := (Option.bind_some _ _).symm.trans H; with_reducible exact H2_) | with_reducible exact H | (rw [hy579]; exact H) | exact H
        have Ny579 := Aside0.mk hy579
        clear hy579
        obtain rfl := Option.some.inj H
        go_enter Try.func22, Try.ntmps22
        try simp only [List.append_eq, List.cons_append, List.nil_append]
        go_wp2_with (first | ((with_reducible refine gate_callee (f := 45) rfl ?_); refine goesL_ (some 5) rfl rfl Try.func45 (by kernel_rfl) rfl #[.slice A0 l0.length c0] rfl (by (try simp only [List.map_toArray, List.map_cons, List.map_nil]); first | done | rfl | (simp only [List.length_drop, List.length_take]; rfl)) ?_; (with_reducible refine (wimplelaw0_CopyBindings.calls _ _ l0 t570 _ ?side1 ?side2 A2.out).mono ?_); (case side1 => repeat (first | exact HR0.out | (with_reducible refine Kd.C_alloc ?_ _) | (with_reducible refine Kd.C_drewN ?_ _) | (with_reducible refine Kd.C_drew ?_))); (case side2 => exact HC0.out); rintro e w6 ⟨v571, rfl, ho0, hb⟩; refine ⟨_, rfl, ?_⟩; have n0_ := Aside0.mk (Kd.R_lower ho0 (below_size (by repeat (first | (with_reducible first | exact HB.out | apply below_alloc | apply pw_below_drewN | apply below_drew1) | exact HB.out)))); have n1_ := Aside0.mk (below_step (by repeat (first | (with_reducible first | exact HB.out | apply below_alloc | apply pw_below_drewN | apply below_drew1) | exact HB.out)) hb); clear HB; have HO572 := n0_; have HB := n1_; clear n0_ n1_; (try clear hb); (try clear hb2); (try clear hk); (try clear hi); (try clear ho0)) | ((with_reducible refine gate_dst (N := 8) rfl ?_); refine Kd.R_lit k61 _ 61 ?hg (N := 8) ?hd (xs := ([(⟨(⟨#[]⟩ : ByteArray), (⟨#[]⟩ : ByteArray), 77777, (⟨#[]⟩ : ByteArray), 0⟩ : S61), (⟨(⟨#[]⟩ : ByteArray), (⟨#[]⟩ : ByteArray), 77777, (⟨#[]⟩ : ByteArray), 0⟩ : S61)] : List (S61))) (inner := [.string (⟨#[]⟩ : ByteArray), .string (⟨#[]⟩ : ByteArray), .int .i64 77777, .string (⟨#[]⟩ : ByteArray), .int .i64 0, .string (⟨#[]⟩ : ByteArray), .string (⟨#[]⟩ : ByteArray), .int .i64 77777, .string (⟨#[]⟩ : ByteArray), .int .i64 0]) (ok := fun _ => True) (okp := fun _ => True) ?hr ?hp (fun _ hk => hk) trivial (Below.refl _ _) (Nat.le_refl _) (by simp) ?_; (case hd => rfl); (case hg => rfl); (case hr => first | (go_simp; done) | (go_simp; rfl)); (case hp => exact (Reps.c5 (show Kd.M k61 _ _ _ (⟨(⟨#[]⟩ : ByteArray), (⟨#[]⟩ : ByteArray), 77777, (⟨#[]⟩ : ByteArray), 0⟩ : S61) [.string (⟨#[]⟩ : ByteArray), .string (⟨#[]⟩ : ByteArray), .int .i64 77777, .string (⟨#[]⟩ : ByteArray), .int .i64 0] from (k61_mkM _ _ _ (⟨(⟨#[]⟩ : ByteArray), (⟨#[]⟩ : ByteArray), 77777, (⟨#[]⟩ : ByteArray), 0⟩ : S61) )) (Reps.c5 (show Kd.M k61 _ _ _ (⟨(⟨#[]⟩ : ByteArray), (⟨#[]⟩ : ByteArray), 77777, (⟨#[]⟩ : ByteArray), 0⟩ : S61) [.string (⟨#[]⟩ : ByteArray), .string (⟨#[]⟩ : ByteArray), .int .i64 77777, .string (⟨#[]⟩ : ByteArray), .int .i64 0] from (k61_mkM _ _ _ (⟨(⟨#[]⟩ : ByteArray), (⟨#[]⟩ : ByteArray), 77777, (⟨#[]⟩ : ByteArray), 0⟩ : S61) )) (Reps.none _ _)))); intro v574 w7 ho8 hb hg_ hnew_; clear hg_ hnew_; (first | rw [← Ny573.out] at ho8 | (simp only [Int.reduceToNat] at ho8; rw [← Ny573.out] at ho8)); have n0_ := Aside0.mk (Kd.R_elder' (by (with_reducible repeat (first | apply Kd.R_alloc | apply Kd.R_drewN | apply Kd.R_drew)); exact HO572.out) (Kd.R_base ho8) hb); have n1_ := Aside0.mk (Kd.R_lower (Kd.R_new' ho8 (Kd.R_lt (by (with_reducible repeat (first | apply Kd.R_alloc | apply Kd.R_drewN | apply Kd.R_drew)); exact HO572.out))) (below_size (by repeat (first | (with_reducible first | exact HB.out | apply below_alloc | apply pw_below_drewN | apply below_drew1) | exact HB.out)))); have n2_ := Aside0.mk (below_step (by repeat (first | (with_reducible first | exact HB.out | apply below_alloc | apply pw_below_drewN | apply below_drew1) | exact HB.out)) hb); clear HO572; clear HB; have HO572 := n0_; have HO575 := n1_; have HB := n2_; clear n0_ n1_ n2_; clear hb ho8; obtain ⟨Ao10, co10, eo10⟩ := Kd.R_slice HO575.out; subst eo10) | ((with_reducible refine gate_builtin (b := .append) (xs := #[(.tmp 5), .tmp 8]) rfl ?_); at_builtin; refine Kd.R_append_rows k61 (w0 := w) w.heap.size rfl (.tmp 5) (.tmp 8) 48 61 (.agg #[(.string ⟨#[]⟩), (.string ⟨#[]⟩), (.int .i64 0), (.string ⟨#[]⟩), (.int .i64 0)]) 64 rfl Try.underlying48 info61 rfl (by decide) (by omega) v571 t570 y573 _ _ _ (fun k_ => some k_ ≠ (.slice Ao10 y573.length co10 : Value).ownBlock) (fun _ => False) rfl rfl ?aO ?aR (fun _ _ h => h) (fun _ h => h.elim) ?aF ?aB ?aS ?aL ?_; (case aR => repeat (first | exact (Kd.R_reads' HO575.out).2.2 | (with_reducible refine Kd.C_alloc ?_ _) | (with_reducible refine Kd.C_drewN ?_ _) | (with_reducible refine Kd.C_drew ?_))); (case aB => exact (by repeat (first | (with_reducible first | exact HB.out | apply below_alloc | apply pw_below_drewN | apply below_drew1) | exact HB.out))); (case aF => exact (fun k_ hk => Kd.fresh' (Kd.R_lt (by (with_reducible repeat (first | apply Kd.R_alloc | apply Kd.R_drewN | apply Kd.R_drew)); exact HO575.out)) k_ hk)); (case aO => exact (by (with_reducible repeat (first | apply Kd.R_alloc | apply Kd.R_drewN | apply Kd.R_drew)); exact Kd.R_mono HO572.out (fun _ hk => hk.2))); (case aS => exact (below_size (by repeat (first | (with_reducible first | exact HB.out | apply below_alloc | apply pw_below_drewN | apply below_drew1) | exact HB.out)))); (case aL => have := LMc3.out; omega); intro v577 w9 ho hb hg hat; rw [← Ny576.out] at ho; have n0_ := Aside0.mk (Kd.R_after (ok := (fun _ => True)) (by (with_reducible repeat (first | apply Kd.R_alloc | apply Kd.R_drewN | apply Kd.R_drew)); exact HO575.out) hg hat); have n1_ := Aside0.mk (hb); have n2_ := Aside0.mk (ho); clear HO575; clear HB; clear HO572; have HO575 := n0_; have HB := n1_; have HO578 := n2_; clear n0_ n1_ n2_; clear ho hb hg hat; obtain ⟨Ao11, co11, eo11⟩ := Kd.R_slice HO578.out; subst eo11; have q12 : ((l0.length : Int) : Int) ≤ ((y576.length : Int) : Int) := of_decide_eq_true (by first | (with_reducible assumption) | assumption); obtain ⟨i012, hi012, _, hsz12, _⟩ := info_parts info61; have hcut12 := cut_to (P := Try.prog) 48 61 .i64 Try.underlying48 hi012 Ao11 y576.length co11 (l0.length : Int) (of_decide_eq_true (by first | (with_reducible assumption) | assumption)) q12 (Kd.R_reads' HO578.out).2.1; have hr12 := Kd.R_take (m := ((l0.length : Int) : Int).toNat) HO578.out (by omega); have hy12 : y579.length = ((l0.length : Int) : Int).toNat := (by rw [Ny579.out, List.length_take]; omega); rw [← Ny579.out] at hr12; rw [← hy12] at hr12 hcut12; clear hy12 hi012 hsz12 HO578; have HO581 := Aside0.mk hr12; clear hr12; replace q12 := eq_true q12))
        go_ret
        exact ⟨_, by first | rfl | (simp [errW_none, errW_some] <;> rfl) | (simp [*, errW_none, errW_some] <;> rfl), by (with_reducible repeat (first | apply Kd.R_alloc | apply Kd.R_drewN | apply Kd.R_drew)); exact Kd.R_mono HO581.out (fun _ hk => trivial), by repeat (first | (with_reducible first | exact HB.out | apply below_alloc | apply pw_below_drewN | apply below_drew1) | exact HB.out)⟩
      · rw [if_neg c5] at H
        exact absurd H (by simp)
    · rw [if_neg c4] at H
      exact absurd H (by simp)
  · rw [if_neg c3] at H
    exact absurd H (by simp)

/-! ### serve_Addrs: function 23 -/
def serve_Addrs.f (l0 : List S61) : Option (List Int) := if l0.length ≤ 2199023255488 ∧ ∀ b ∈ l0, (Lit.int .i64 b.f2).wf = true then some (M.addrsS l0) else none
theorem serve_Addrs.calls (A0 : Option Addr) (c0 : Nat) (l0 : List (S61)) (r : List Int) (w : World) (hr0 : Kd.C k61 w A0 l0.length l0) (hc0 : l0.length ≤ c0) (h : serve_Addrs.f l0 = some r) :
    Calls Try.prog 23 #[.slice A0 l0.length c0] w fun e w' => ∃ v0_ : Value, e = .returned (v0_) ∧ Kd.R (Kd.int .i64) 3 w' w.heap.size (fun _ => True) v0_ r ∧ Below w.heap.size w w' := by
  unfold serve_Addrs.f at h
  by_cases hg : l0.length ≤ 2199023255488 ∧ ∀ b ∈ l0, (Lit.int .i64 b.f2).wf = true
  · rw [if_pos hg] at h
    obtain rfl := Option.some.inj h
    exact M.Addrs_calls w A0 c0 l0 hr0 hc0 hg.1 hg.2
  · rw [if_neg hg] at h
    cases h


-- NOT PRINTED: function 53 (api_Binding_53)

-- NOT PRINTED: function 46 (api_Binding_46)

/-! ### serve_Wanting: function 24 -/
def serve_Wanting.f (l0 : List ByteArray) (l1 : List S61) : Option (List ByteArray) := if l0.length ≤ 8796093021952 then some (M.wantS l0 l1) else none
theorem serve_Wanting.calls (A0 : Option Addr) (c0 : Nat) (l0 : List ByteArray) (A1 : Option Addr) (c1 : Nat) (l1 : List (S61)) (r : List ByteArray) (w : World) (hr0 : Kd.C Kd.string w A0 l0.length l0) (hc0 : l0.length ≤ c0) (hr1 : Kd.C k61 w A1 l1.length l1) (hc1 : l1.length ≤ c1) (h : serve_Wanting.f l0 l1 = some r) :
    Calls Try.prog 24 #[.slice A0 l0.length c0, .slice A1 l1.length c1] w fun e w' => ∃ v0_ : Value, e = .returned (v0_) ∧ Kd.R Kd.string 9 w' w.heap.size (fun _ => True) v0_ r ∧ Below w.heap.size w w' := by
  unfold serve_Wanting.f at h
  by_cases hg : l0.length ≤ 8796093021952
  · rw [if_pos hg] at h
    obtain rfl := Option.some.inj h
    exact M.Wanting_calls w A0 c0 l0 A1 c1 l1 hr0 hc0 hr1 hc1 hg
  · rw [if_neg hg] at h
    cases h


/-! ### wimplelaw0_SameInts: function 25 -/
def wimplelaw0_SameInts.l0 : Nat → List Int → List Int → Int → Option (Bool)
  | 0, _, _, _ => none
  | k + 1, x0, x1, x5 => if x5 < (x0.length : Int) then (if 0 ≤ x5 then (if x5 < (x1.length : Int) then (if (rd x0 x5) = (rd x1 x5) then (wimplelaw0_SameInts.l0 k x0 x1 (wrap64 (x5 + 1))) else (some false)) else (none)) else (none)) else (some true)
def wimplelaw0_SameInts.f (k : Nat) (l0 : List Int) (l1 : List Int) : Option (Bool) := if (l0.length : Int) = (l1.length : Int) then (wimplelaw0_SameInts.l0 k l0 l1 0) else (some false)
theorem wimplelaw0_SameInts.mono_l : ∀ k, (∀ y0 y1 y2, LeO (wimplelaw0_SameInts.l0 k y0 y1 y2) (wimplelaw0_SameInts.l0 (k + 1) y0 y1 y2))
  | 0 => fun _ _ _ r h => by simp [wimplelaw0_SameInts.l0] at h
  | k + 1 => by
    have ih0 := wimplelaw0_SameInts.mono_l k
    · intro y0 y1 y2
      unfold wimplelaw0_SameInts.l0
      repeat' first
      | (with_reducible exact ih0 _ _ _)
      | (with_reducible exact LeO.refl _)
      | (with_reducible exact LeO.none _)
      | (with_reducible refine LeO.ite ?_ ?_)
      | (with_reducible refine LeO.bind ?_ (fun _ => ?_))
      | exact ih0 _ _ _
      | exact LeO.none _
      | refine LeO.ite ?_ ?_
      | refine LeO.bind ?_ (fun _ => ?_)
theorem wimplelaw0_SameInts.mono : ∀ a0 a1 k, LeO (wimplelaw0_SameInts.f k a0 a1) (wimplelaw0_SameInts.f (k + 1) a0 a1) := by
  intro a0 a1 k
  have ih0 := wimplelaw0_SameInts.mono_l k
  unfold wimplelaw0_SameInts.f
  repeat' first
      | (with_reducible exact ih0 _ _ _)
      | (with_reducible exact LeO.refl _)
      | (with_reducible exact LeO.none _)
      | (with_reducible refine LeO.ite ?_ ?_)
      | (with_reducible refine LeO.bind ?_ (fun _ => ?_))
      | exact ih0 _ _ _
      | exact LeO.none _
      | refine LeO.ite ?_ ?_
      | refine LeO.bind ?_ (fun _ => ?_)
set_option maxHeartbeats 8000000 in
set_option maxRecDepth 100000 in
theorem wimplelaw0_SameInts.calls (k : Nat) (A0 : Option Addr) (c0 : Nat) (l0 : List Int) (A1 : Option Addr) (c1 : Nat) (l1 : List Int) (r : Bool) (w : World) (hr0 : Kd.C (Kd.int .i64) w A0 l0.length l0) (hc0 : l0.length ≤ c0) (hr1 : Kd.C (Kd.int .i64) w A1 l1.length l1) (hc1 : l1.length ≤ c1) (h : wimplelaw0_SameInts.f k l0 l1 = some r) :
    Calls Try.prog 25 #[.slice A0 l0.length c0, .slice A1 l1.length c1] w fun e w' => e = .returned (.bool r) ∧ Drawn0 w w' := by
  have HR0 := Aside0.mk hr0
  have HC0 := Aside0.mk hc0
  clear hr0 hc0
  have HR1 := Aside0.mk hr1
  have HC1 := Aside0.mk hc1
  clear hr1 hc1
  have H : (if (l0.length : Int) = (l1.length : Int) then (wimplelaw0_SameInts.l0 k l0 l1 0) else (some false)) = some r := h
  clear h
  by_cases c3 : (l0.length : Int) = (l1.length : Int)
  · rw [if_pos c3] at H
    have c3b0 : ((l0.length : Int) == (l1.length : Int)) = true := beq_iff_eq.mpr c3
    have c3b1 : ((l0.length : Int) != (l1.length : Int)) = false := bne_eq_false_iff_eq.mpr c3
    have c3b2 : (l0.length == l1.length) = true := by first | simpa using c3 | (simp at c3 ⊢; omega)
    clear c3
    have H' := Aside0.mk H
    clear H
    go_enter Try.func25, Try.ntmps25
    try simp only [List.append_eq, List.cons_append, List.nil_append]
    go_wp2
    repeat (go_quiet (fail); try go_wp2)
    go_loopg [5] k (fun kq v5 w' => ∃ (x5_1 : Int), v5 = .int .i64 x5_1 ∧ Aside0 (wimplelaw0_SameInts.l0 kq l0 l1 x5_1 = some r) ∧ Aside0 (kq ≤ k) ∧ Drawn0 w w')
    case atStart => exact ⟨(0), (by first | rfl | (simp; done) | (simp [*]; done) | (simp [ByteArray.size_append]; exact Iff.rfl)), H', ⟨Nat.le_refl _⟩, by repeat (first | exact Drawn0.refl _ | apply Drawn0.step)⟩
    case round =>
      clear H'
      try clear c1
      try clear c2
      try clear p2
      try clear c3
      try clear c3b0
      try clear c3b1
      try clear c3b2
      obtain ⟨x5_1, rfl, HA, HK1, ⟨m1, rfl⟩⟩ := hrel
      cases gk with
      | zero => exact absurd HA.out (by simp [wimplelaw0_SameInts.l0])
      | succ k1 =>
        have H := HA.out
        clear HA
        simp only [wimplelaw0_SameInts.l0] at H
        by_cases c4 : x5_1 < (l0.length : Int)
        · rw [if_pos c4] at H
          have c4b0 : decide (x5_1 < (l0.length : Int)) = true := decide_eq_true c4
          clear c4
          by_cases c5 : 0 ≤ x5_1
          · rw [if_pos c5] at H
            have c5b0 : decide (0 ≤ x5_1) = true := decide_eq_true c5
            clear c5
            by_cases c6 : x5_1 < (l1.length : Int)
            · rw [if_pos c6] at H
              have c6b0 : decide (x5_1 < (l1.length : Int)) = true := decide_eq_true c6
              clear c6
              by_cases c7 : (rd l0 x5_1) = (rd l1 x5_1)
              · rw [if_pos c7] at H
                have c7b0 : ((rd l0 x5_1) == (rd l1 x5_1)) = true := beq_iff_eq.mpr c7
                have c7b1 : ((rd l0 x5_1) != (rd l1 x5_1)) = false := bne_eq_false_iff_eq.mpr c7
                clear c7
                have H' := Aside0.mk H
                clear H
                have p582 : 0 ≤ (x5_1 : Int) := of_decide_eq_true (by first | (with_reducible assumption) | assumption)
                have q582 : x5_1 < (l0.length : Int) := of_decide_eq_true (by first | (with_reducible assumption) | assumption)
                obtain ⟨ad582, e582, hx582_0⟩ := Kd.at_int HR0.out x5_1 p582 q582
                cases e582
                replace p582 := eq_true p582
                replace q582 := eq_true q582
                have p583 : 0 ≤ (x5_1 : Int) := of_decide_eq_true (by first | (with_reducible assumption) | assumption)
                have q583 : x5_1 < (l1.length : Int) := of_decide_eq_true (by first | (with_reducible assumption) | assumption)
                obtain ⟨ad583, e583, hx583_0⟩ := Kd.at_int HR1.out x5_1 p583 q583
                cases e583
                replace p583 := eq_true p583
                replace q583 := eq_true q583
                go_wp2
                repeat (go_quiet (fail); try go_wp2)
                go_roundg k1
                case measure => have := HK1.out; omega
                case rel => exact ⟨(wrap64 (x5_1 + 1)), (by first | rfl | (simp; done) | (simp [*]; done) | (simp [ByteArray.size_append]; exact Iff.rfl)), H', ⟨by have := HK1.out; omega⟩, by repeat (first | exact Drawn0.refl _ | apply Drawn0.step)⟩
              · rw [if_neg c7] at H
                have c7b0 : ((rd l0 x5_1) == (rd l1 x5_1)) = false := beq_eq_false_iff_ne.mpr c7
                have c7b1 : ((rd l0 x5_1) != (rd l1 x5_1)) = true := bne_iff_ne.mpr c7
                obtain rfl := Option.some.inj H
                have p582 : 0 ≤ (x5_1 : Int) := of_decide_eq_true (by first | (with_reducible assumption) | assumption)
                have q582 : x5_1 < (l0.length : Int) := of_decide_eq_true (by first | (with_reducible assumption) | assumption)
                obtain ⟨ad582, e582, hx582_0⟩ := Kd.at_int HR0.out x5_1 p582 q582
                cases e582
                replace p582 := eq_true p582
                replace q582 := eq_true q582
                have p583 : 0 ≤ (x5_1 : Int) := of_decide_eq_true (by first | (with_reducible assumption) | assumption)
                have q583 : x5_1 < (l1.length : Int) := of_decide_eq_true (by first | (with_reducible assumption) | assumption)
                obtain ⟨ad583, e583, hx583_0⟩ := Kd.at_int HR1.out x5_1 p583 q583
                cases e583
                replace p583 := eq_true p583
                replace q583 := eq_true q583
                go_wp2
                repeat (go_quiet (fail); try go_wp2)
                go_ret
                exact ⟨by first | rfl | (simp; done) | (simp [*]; done), by repeat (first | exact Drawn0.refl _ | apply Drawn0.step)⟩
            · rw [if_neg c6] at H
              exact absurd H (by simp)
          · rw [if_neg c5] at H
            exact absurd H (by simp)
        · rw [if_neg c4] at H
          have c4b0 : decide (x5_1 < (l0.length : Int)) = false := decide_eq_false c4
          clear c4
          obtain rfl := Option.some.inj H
          go_wp2
          repeat (go_quiet (fail); try go_wp2)
          go_ret
          exact ⟨by first | rfl | (simp; done) | (simp [*]; done), by repeat (first | exact Drawn0.refl _ | apply Drawn0.step)⟩
  · rw [if_neg c3] at H
    have c3b0 : ((l0.length : Int) == (l1.length : Int)) = false := beq_eq_false_iff_ne.mpr c3
    have c3b1 : ((l0.length : Int) != (l1.length : Int)) = true := bne_iff_ne.mpr c3
    have c3b2 : (l0.length == l1.length) = false := by first | simpa using c3 | (simp at c3 ⊢; omega)
    obtain rfl := Option.some.inj H
    go_enter Try.func25, Try.ntmps25
    try simp only [List.append_eq, List.cons_append, List.nil_append]
    go_wp2
    repeat (go_quiet (fail); try go_wp2)
    go_ret
    exact ⟨by first | rfl | (simp; done) | (simp [*]; done), by repeat (first | exact Drawn0.refl _ | apply Drawn0.step)⟩

end Go.Proofs.Ytimkafkiphfacaa.P
