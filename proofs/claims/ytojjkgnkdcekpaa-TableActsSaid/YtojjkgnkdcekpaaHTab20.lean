/- The reference's table: Add. -/
import Derived.Test.YtojjkgnkdcekpaaHTab18
import Derived.Test.YtojjkgnkdcekpaaPx8
import Derived.Test.YtojjkgnkdcekpaaPx5
import Derived.Test.YtojjkgnkdcekpaaPx6
set_option linter.unusedVariables false
set_option linter.unusedSimpArgs false
namespace Go.Proofs.Ytojjkgnkdcekpaa.M
open Go Go.RowKit Go.ChangeMaps Go.Proofs.YtojjkgnkdcekpaaW.PrintWords Go.Proofs.YtojjkgnkdcekpaaW.PrintLast Go.Proofs.YtojjkgnkdcekpaaW.PrintMore Go.Proofs.Ytojjkgnkdcekpaa.P

theorem ne63 : ∀ q, q ∈ 35 :: k35.E → q ≠ 63 := by
  intro q hq
  rw [k35_E] at hq
  simp at hq
  omega
/-- The reference's table: S: the blocks that may be written (fresh ones too). -/
structure RTab (w : World) (base : Nat) (S : Nat → Prop) (g : Nat) (most : Int) (xs : List S35) (v : Value) : Prop where
  blk : w.heap[g]? = some (.cells #[.int .i64 most, v] 63 (0, 0))
  lo : base ≤ g
  row : Kd.R k35 35 w base S v xs
  sg : S g
section
variable {w w' : World} {base b : Nat} {S S' : Nat → Prop} {g : Nat} {most : Int} {xs : List S35} {v : Value}
theorem RTab.below (h : RTab w base S g most xs v) (hb : Below w.heap.size w w') : RTab w' base S g most xs v := ⟨blk_below h.blk hb, h.lo, Kd.R_below h.row hb, h.sg⟩
theorem RTab.lower (h : RTab w base S g most xs v) (hb : b ≤ base) : RTab w b S g most xs v := ⟨h.blk, Nat.le_trans hb h.lo, Kd.R_lower h.row hb, h.sg⟩
theorem RTab.mono (h : RTab w base S g most xs v) (hs : ∀ k, S k → S' k) : RTab w base S' g most xs v := ⟨h.blk, h.lo, Kd.R_mono h.row hs, hs _ h.sg⟩
theorem RTab.bound (h : RTab w base S g most xs v) : RTab w base (fun k => S k ∧ k < w.heap.size) g most xs v :=
  ⟨h.blk, h.lo, Kd.R_mono (Kd.R_bound h.row) (fun k hk => ⟨hk.1, hk.2.2.1⟩), h.sg, blk_lt h.blk⟩
theorem RTab.gv (h : RTab w base S g most xs v) : some g ≠ v.ownBlock := Kd.R_ne h.row h.blk (by decide)
theorem RTab.size (h : RTab w base S g most xs v) : base ≤ w.heap.size := Nat.le_trans h.lo (Nat.le_of_lt (blk_lt h.blk))
/-- It stands as it was where its blocks were not written. -/
theorem RTab.kept {S2 : Nat → Prop} (h : RTab w base S g most xs v) (hk : Kept w w' S2) (hg : ¬ S2 g) (hv : ∀ k, v.ownBlock = some k → ¬ S2 k) : RTab w' base S g most xs v :=
  ⟨blk_kept h.blk hk hg, h.lo, Kd.R_mono (Kd.R_kept (Kd.R_tight2 k35_E h.row) hk (fun k hk' hs => hv k hk'.1.symm hs)) (fun k hk => hk.2), h.sg⟩
/-- It may write other blocks. -/
theorem RTab.reok (h : RTab w base S g most xs v) (hg : S' g) (hv : ∀ k, v.ownBlock = some k → S' k) : RTab w base S' g most xs v := ⟨h.blk, h.lo, Kd.R_reok k35_E h.row hv, hg⟩
theorem refMay_calls (a : ByteArray) (w : World) : Calls Try.prog 26 #[.string a] w fun e w' => e = .returned (.bool (mayS a)) ∧ Below w.heap.size w w' := by
  obtain ⟨k, hk⟩ := Ev.rounds (refMay_ev a)
  exact wimpleref1_May.calls k a _ w hk
theorem refSame_calls (a b : ByteArray) (w : World) : Calls Try.prog 32 #[.string a, .string b] w fun e w' => e = .returned (.bool (sameS (B a) (B b))) ∧ Below w.heap.size w w' := by
  obtain ⟨k, hk⟩ := Ev.rounds (refSame_ev a b)
  exact wimpleref1_Same.calls k a b _ w hk
theorem wide_calls (a : Int) (w : World) : Calls Try.prog 25 #[.int .i64 a] w fun e w' => e = .returned (.bool (decide (0 ≤ a ∧ a ≤ 4294967295))) ∧ Below w.heap.size w w' := by
  refine (wimpleref13_wide.calls a (decide (0 ≤ a ∧ a ≤ 4294967295)) w ?_).mono ?_
  · unfold wimpleref13_wide.f
    by_cases h : a ≥ 0
    · rw [if_pos h]
      congr 1
      exact decide_eq_decide.2 ⟨fun h2 => ⟨h, h2⟩, fun h2 => h2.2⟩
    · rw [if_neg h]
      congr 1
      exact (decide_eq_false (fun h2 => h h2.1)).symm
  · rintro e w' ⟨rfl, ⟨nd, rfl⟩⟩
    exact ⟨rfl, pw_below_drewN (Below.refl _ _) _⟩
set_option maxHeartbeats 4000000 in
set_option maxRecDepth 100000 in
theorem RNew_bad (w : World) (most : Int) (h : most < 1 ∨ most > 16) : Calls Try.prog 9 #[.int .i64 most] w fun e w' => e = .returned (.tuple #[.pointer none, .int .i64 1900]) ∧ Below w.heap.size w w' := by
  go_enter Try.func9, Try.ntmps9
  by_cases h1 : most < 1
  · have e1 : decide (most < 1) = true := decide_eq_true h1
    go_wp2_with fail
    go_ret2
    exact ⟨rfl, Below.refl _ _⟩
  · have e1 : decide (most < 1) = false := decide_eq_false h1
    have h2 : most > 16 := by omega
    have e2 : decide (most > 16) = true := decide_eq_true h2
    have e3 : decide (16 < most) = true := decide_eq_true h2
    go_wp2_with fail
    go_ret2
    exact ⟨rfl, Below.refl _ _⟩
set_option maxHeartbeats 4000000 in
set_option maxRecDepth 100000 in
theorem RNew_good (w : World) (most : Int) (h : 1 ≤ most ∧ most ≤ 16) (S : Nat → Prop) (hS : ∀ k, w.heap.size ≤ k → S k) : Calls Try.prog 9 #[.int .i64 most] w fun e w' => (∃ g, e = .returned (.tuple #[.pointer (some ⟨g, 0, none⟩), .int .i64 0]) ∧ RTab w' w.heap.size S g most [] (.slice none 0 0)) ∧ Below w.heap.size w w' := by
  have e1 : decide (most < 1) = false := decide_eq_false (by omega)
  have e2 : decide (most > 16) = false := decide_eq_false (by omega)
  have e3 : decide (16 < most) = false := decide_eq_false (by omega)
  go_enter Try.func9, Try.ntmps9
  go_wp2_with fail
  go_ret2
  exact ⟨⟨w.heap.size, rfl, blk_new _ _, Nat.le_refl _, Kd.R_nil _ _ _ _ _, hS _ (Nat.le_refl _)⟩, below_alloc (Below.refl _ _) _⟩
end
end Go.Proofs.Ytojjkgnkdcekpaa.M

set_option linter.unusedVariables false
set_option linter.unusedSimpArgs false
namespace Go.Proofs.Ytojjkgnkdcekpaa.M
open Go Go.RowKit Go.ChangeMaps Go.Proofs.YtojjkgnkdcekpaaW.PrintWords Go.Proofs.YtojjkgnkdcekpaaW.PrintLast Go.Proofs.YtojjkgnkdcekpaaW.PrintMore Go.Proofs.Ytojjkgnkdcekpaa.P

section
variable {w w' : World} {base b : Nat} {S S' : Nat → Prop} {g : Nat} {most : Int} {xs : List S35} {v : Value}
set_option maxHeartbeats 4000000 in
set_option maxRecDepth 100000 in
theorem RAdd_bad (w : World) (g : Nat) (x : S35) (hbad : ¬ OkA x) : Calls Try.prog 13 #[.pointer (some ⟨g, 0, none⟩), v35 x] w fun e w' => e = .returned (.int .i64 1900) ∧ Below w.heap.size w w' := by
  unfold v35
  have HM := Aside0.mk (refMay_calls x.f5.f0)
  have HWd := Aside0.mk (wide_calls x.f2)
  go_enter Try.func13, Try.ntmps13
  by_cases h0 : x.f1 < 0
  · have e0 : decide (x.f1 < 0) = true := decide_eq_true h0
    go_wp2_with fail
    go_ret
    exact ⟨rfl, below_alloc (Below.refl _ _) _⟩
  have e0 : decide (x.f1 < 0) = false := decide_eq_false h0
  by_cases h1 : x.f1 > 65535
  · have e1 : decide (x.f1 > 65535) = true := decide_eq_true h1
    have e1' : decide (65535 < x.f1) = true := decide_eq_true h1
    go_wp2_with fail
    go_ret
    exact ⟨rfl, below_alloc (Below.refl _ _) _⟩
  have e1 : decide (x.f1 > 65535) = false := decide_eq_false h1
  have e1' : decide (65535 < x.f1) = false := decide_eq_false h1
  by_cases h2 : 0 ≤ x.f2 ∧ x.f2 ≤ 4294967295
  case neg =>
    rw [decide_eq_false h2] at HWd
    go_wp2_with fail
    refine (HWd.out _).mono ?_
    rintro e w1 ⟨rfl, hb⟩
    have BKw1 : Aside0 (w1.heap[w.heap.size]? = some (.cells #[.int .i64 x.f0, .int .i64 x.f1, .int .i64 x.f2, .string x.f3, .string x.f4, .string x.f5.f0, .int .i64 x.f5.f1, .int .i64 x.f6] 35 (0, 0))) := ⟨blk_below (blk_new w _) hb⟩
    have B1 := Aside0.mk (below_then (below_alloc (Below.refl w.heap.size w) _) (below_alloc (Below.refl w.heap.size w) _).size hb)
    have cw1_5 : w1.cell? ⟨w.heap.size, 5, none⟩ = some (.string x.f5.f0) := (blk_cell BKw1.out 5).trans rfl
    have cw1_6 : w1.cell? ⟨w.heap.size, 6, none⟩ = some (.int .i64 x.f5.f1) := (blk_cell BKw1.out 6).trans rfl
    clear hb
    simp only
    go_wp2_with fail
    go_ret
    exact ⟨rfl, B1.out⟩
  rw [decide_eq_true h2] at HWd
  cases h4 : mayS x.f5.f0
  · rw [h4] at HM
    go_wp2_with fail
    refine (HWd.out _).mono ?_
    rintro e w1 ⟨rfl, hb⟩
    have BKw1 : Aside0 (w1.heap[w.heap.size]? = some (.cells #[.int .i64 x.f0, .int .i64 x.f1, .int .i64 x.f2, .string x.f3, .string x.f4, .string x.f5.f0, .int .i64 x.f5.f1, .int .i64 x.f6] 35 (0, 0))) := ⟨blk_below (blk_new w _) hb⟩
    have B1 := Aside0.mk (below_then (below_alloc (Below.refl w.heap.size w) _) (below_alloc (Below.refl w.heap.size w) _).size hb)
    have cw1_5 : w1.cell? ⟨w.heap.size, 5, none⟩ = some (.string x.f5.f0) := (blk_cell BKw1.out 5).trans rfl
    have cw1_6 : w1.cell? ⟨w.heap.size, 6, none⟩ = some (.int .i64 x.f5.f1) := (blk_cell BKw1.out 6).trans rfl
    clear hb
    simp only
    go_wp2_with fail
    refine (HM.out _).mono ?_
    rintro e w2 ⟨rfl, hb⟩
    have BKw2 := Aside0.mk (blk_below BKw1.out hb)
    have B2 := Aside0.mk (below_nx B1.out hb)
    clear cw1_5 cw1_6
    have cw2_6 : w2.cell? ⟨w.heap.size, 6, none⟩ = some (.int .i64 x.f5.f1) := (blk_cell BKw2.out 6).trans rfl
    clear hb
    simp only
    go_wp2_with fail
    go_ret
    exact ⟨rfl, B2.out⟩
  rw [h4] at HM
  by_cases h5 : x.f5.f1 < 1
  · have e5 : decide (x.f5.f1 < 1) = true := decide_eq_true h5
    go_wp2_with fail
    refine (HWd.out _).mono ?_
    rintro e w1 ⟨rfl, hb⟩
    have BKw1 : Aside0 (w1.heap[w.heap.size]? = some (.cells #[.int .i64 x.f0, .int .i64 x.f1, .int .i64 x.f2, .string x.f3, .string x.f4, .string x.f5.f0, .int .i64 x.f5.f1, .int .i64 x.f6] 35 (0, 0))) := ⟨blk_below (blk_new w _) hb⟩
    have B1 := Aside0.mk (below_then (below_alloc (Below.refl w.heap.size w) _) (below_alloc (Below.refl w.heap.size w) _).size hb)
    have cw1_5 : w1.cell? ⟨w.heap.size, 5, none⟩ = some (.string x.f5.f0) := (blk_cell BKw1.out 5).trans rfl
    have cw1_6 : w1.cell? ⟨w.heap.size, 6, none⟩ = some (.int .i64 x.f5.f1) := (blk_cell BKw1.out 6).trans rfl
    clear hb
    simp only
    go_wp2_with fail
    refine (HM.out _).mono ?_
    rintro e w2 ⟨rfl, hb⟩
    have BKw2 := Aside0.mk (blk_below BKw1.out hb)
    have B2 := Aside0.mk (below_nx B1.out hb)
    clear cw1_5 cw1_6
    have cw2_6 : w2.cell? ⟨w.heap.size, 6, none⟩ = some (.int .i64 x.f5.f1) := (blk_cell BKw2.out 6).trans rfl
    clear hb
    simp only
    go_wp2_with fail
    go_ret
    exact ⟨rfl, B2.out⟩
  have e5 : decide (x.f5.f1 < 1) = false := decide_eq_false h5
  by_cases h6 : x.f5.f1 > 65535
  · have e6 : decide (x.f5.f1 > 65535) = true := decide_eq_true h6
    have e6' : decide (65535 < x.f5.f1) = true := decide_eq_true h6
    go_wp2_with fail
    refine (HWd.out _).mono ?_
    rintro e w1 ⟨rfl, hb⟩
    have BKw1 : Aside0 (w1.heap[w.heap.size]? = some (.cells #[.int .i64 x.f0, .int .i64 x.f1, .int .i64 x.f2, .string x.f3, .string x.f4, .string x.f5.f0, .int .i64 x.f5.f1, .int .i64 x.f6] 35 (0, 0))) := ⟨blk_below (blk_new w _) hb⟩
    have B1 := Aside0.mk (below_then (below_alloc (Below.refl w.heap.size w) _) (below_alloc (Below.refl w.heap.size w) _).size hb)
    have cw1_5 : w1.cell? ⟨w.heap.size, 5, none⟩ = some (.string x.f5.f0) := (blk_cell BKw1.out 5).trans rfl
    have cw1_6 : w1.cell? ⟨w.heap.size, 6, none⟩ = some (.int .i64 x.f5.f1) := (blk_cell BKw1.out 6).trans rfl
    clear hb
    simp only
    go_wp2_with fail
    refine (HM.out _).mono ?_
    rintro e w2 ⟨rfl, hb⟩
    have BKw2 := Aside0.mk (blk_below BKw1.out hb)
    have B2 := Aside0.mk (below_nx B1.out hb)
    clear cw1_5 cw1_6
    have cw2_6 : w2.cell? ⟨w.heap.size, 6, none⟩ = some (.int .i64 x.f5.f1) := (blk_cell BKw2.out 6).trans rfl
    clear hb
    simp only
    go_wp2_with fail
    go_ret
    exact ⟨rfl, B2.out⟩
  exact absurd ⟨h0, h1, by omega, by omega, h4, h5, h6⟩ hbad
set_option maxHeartbeats 4000000 in
set_option maxRecDepth 100000 in
theorem RAdd_full (h : RTab w base S g most xs v) (x : S35) (hx : OkA x) (hd : (xs.length : Int) = most) : Calls Try.prog 13 #[.pointer (some ⟨g, 0, none⟩), v35 x] w fun e w' => e = .returned (.int .i64 1901) ∧ Below w.heap.size w w' := by
  have g1 : ((xs.length : Int) == most) = true := beq_iff_eq.2 hd
  have g2 : decide ((xs.length : Int) = most) = true := decide_eq_true hd
  obtain ⟨h0, h1, h2, h2b, h4, h5, h6⟩ := hx
  obtain ⟨A, c, rfl, hl, _⟩ := Kd.R_reads h.row
  have H := Aside0.mk h
  have HM := Aside0.mk (refMay_calls x.f5.f0)
  have HWd := Aside0.mk (wide_calls x.f2)
  rw [h4] at HM
  rw [decide_eq_true (show 0 ≤ x.f2 ∧ x.f2 ≤ 4294967295 by omega)] at HWd
  have e0 : decide (x.f1 < 0) = false := decide_eq_false h0
  have e1 : decide (x.f1 > 65535) = false := decide_eq_false h1
  have e1' : decide (65535 < x.f1) = false := decide_eq_false h1
  have e5 : decide (x.f5.f1 < 1) = false := decide_eq_false h5
  have e6 : decide (x.f5.f1 > 65535) = false := decide_eq_false h6
  have e6' : decide (65535 < x.f5.f1) = false := decide_eq_false h6
  clear h
  unfold v35
  go_enter Try.func13, Try.ntmps13
  go_wp2_with fail
  refine (HWd.out _).mono ?_
  rintro e w1 ⟨rfl, hb⟩
  have BKw1 : Aside0 (w1.heap[w.heap.size]? = some (.cells #[.int .i64 x.f0, .int .i64 x.f1, .int .i64 x.f2, .string x.f3, .string x.f4, .string x.f5.f0, .int .i64 x.f5.f1, .int .i64 x.f6] 35 (0, 0))) := ⟨blk_below (blk_new w _) hb⟩
  have B1 := Aside0.mk (below_then (below_alloc (Below.refl w.heap.size w) _) (below_alloc (Below.refl w.heap.size w) _).size hb)
  have cw1_5 : w1.cell? ⟨w.heap.size, 5, none⟩ = some (.string x.f5.f0) := (blk_cell BKw1.out 5).trans rfl
  have cw1_6 : w1.cell? ⟨w.heap.size, 6, none⟩ = some (.int .i64 x.f5.f1) := (blk_cell BKw1.out 6).trans rfl
  clear hb
  simp only
  go_wp2_with fail
  refine (HM.out _).mono ?_
  rintro e w2 ⟨rfl, hb⟩
  have BKw2 := Aside0.mk (blk_below BKw1.out hb)
  have B2 := Aside0.mk (below_nx B1.out hb)
  clear cw1_5 cw1_6
  have cw2_6 : w2.cell? ⟨w.heap.size, 6, none⟩ = some (.int .i64 x.f5.f1) := (blk_cell BKw2.out 6).trans rfl
  clear hb
  simp only
  have H2 := Aside0.mk ((H.out.below B2.out))
  have q0 : w2.cell? ⟨g, 0, none⟩ = some (.int .i64 most) := (blk_cell H2.out.blk 0).trans rfl
  have q1 : w2.cell? ⟨g, 1, none⟩ = some (.slice A xs.length c) := (blk_cell H2.out.blk 1).trans rfl
  clear hd
  go_wp2_with fail
  go_quiet (fail)
  (try simp only [Exit.then])
  go_wp2_with fail
  go_ret
  exact ⟨rfl, pw_below_drewN B2.out _⟩
set_option maxHeartbeats 4000000 in
set_option maxRecDepth 100000 in
theorem RAdd_good (h : RTab w base S g most xs v) (x : S35) (hx : OkA x) (hd : ((xs.length : Nat) : Int) < most) (hd2 : xs.length ≤ 1000000) (hS : ∀ k, w.heap.size ≤ k → S k) : Calls Try.prog 13 #[.pointer (some ⟨g, 0, none⟩), v35 x] w fun e w' => e = .returned (.int .i64 0) ∧ (∃ v', RTab w' base S g most (xs ++ [x]) v') ∧ Below base w w' ∧ Kept w w' S := by
  have g1 : ((xs.length : Int) == most) = false := beq_eq_false_iff_ne.2 (by omega)
  have g2 : decide ((xs.length : Int) = most) = false := decide_eq_false (by omega)
  have HS := Aside0.mk hS
  clear hS
  obtain ⟨h0, h1, h2, h2b, h4, h5, h6⟩ := hx
  obtain ⟨A, c, rfl, hl, _⟩ := Kd.R_reads h.row
  have H := Aside0.mk h
  have HM := Aside0.mk (refMay_calls x.f5.f0)
  have HWd := Aside0.mk (wide_calls x.f2)
  rw [h4] at HM
  rw [decide_eq_true (show 0 ≤ x.f2 ∧ x.f2 ≤ 4294967295 by omega)] at HWd
  have e0 : decide (x.f1 < 0) = false := decide_eq_false h0
  have e1 : decide (x.f1 > 65535) = false := decide_eq_false h1
  have e1' : decide (65535 < x.f1) = false := decide_eq_false h1
  have e5 : decide (x.f5.f1 < 1) = false := decide_eq_false h5
  have e6 : decide (x.f5.f1 > 65535) = false := decide_eq_false h6
  have e6' : decide (65535 < x.f5.f1) = false := decide_eq_false h6
  clear h
  unfold v35
  go_enter Try.func13, Try.ntmps13
  go_wp2_with fail
  refine (HWd.out _).mono ?_
  rintro e w1 ⟨rfl, hb⟩
  have BKw1 : Aside0 (w1.heap[w.heap.size]? = some (.cells #[.int .i64 x.f0, .int .i64 x.f1, .int .i64 x.f2, .string x.f3, .string x.f4, .string x.f5.f0, .int .i64 x.f5.f1, .int .i64 x.f6] 35 (0, 0))) := ⟨blk_below (blk_new w _) hb⟩
  have B1 := Aside0.mk (below_then (below_alloc (Below.refl w.heap.size w) _) (below_alloc (Below.refl w.heap.size w) _).size hb)
  have cw1_5 : w1.cell? ⟨w.heap.size, 5, none⟩ = some (.string x.f5.f0) := (blk_cell BKw1.out 5).trans rfl
  have cw1_6 : w1.cell? ⟨w.heap.size, 6, none⟩ = some (.int .i64 x.f5.f1) := (blk_cell BKw1.out 6).trans rfl
  clear hb
  simp only
  go_wp2_with fail
  refine (HM.out _).mono ?_
  rintro e w2 ⟨rfl, hb⟩
  have BKw2 := Aside0.mk (blk_below BKw1.out hb)
  have B2 := Aside0.mk (below_nx B1.out hb)
  clear cw1_5 cw1_6
  have cw2_6 : w2.cell? ⟨w.heap.size, 6, none⟩ = some (.int .i64 x.f5.f1) := (blk_cell BKw2.out 6).trans rfl
  clear hb
  simp only
  have H2 := Aside0.mk ((H.out.below B2.out))
  have q0 : w2.cell? ⟨g, 0, none⟩ = some (.int .i64 most) := (blk_cell H2.out.blk 0).trans rfl
  have q1 : w2.cell? ⟨g, 1, none⟩ = some (.slice A xs.length c) := (blk_cell H2.out.blk 1).trans rfl
  go_wp2_with fail
  go_quiet (fail)
  (try simp only [Exit.then])
  go_wp2_with fail
  clear h0 h1 h2 h2b h4 h5 h6 e0 e1 e1' e5 e6 e6' cw2_6 q0 q1 g1 g2
  generalize hW : World.drewN _ _ = W
  have TW : Aside0 (Below w.heap.size w W) := ⟨by rw [← hW]; exact pw_below_drewN B2.out _⟩
  have bx : W.heap[w.heap.size]? = some (.cells #[.int .i64 x.f0, .int .i64 x.f1, .int .i64 x.f2, .string x.f3, .string x.f4, .string x.f5.f0, .int .i64 x.f5.f1, .int .i64 x.f6] 35 (0, 0)) := by rw [← hW]; exact blk_drewN BKw2.out _
  have HW : Aside0 (RTab W base S g most xs (.slice A xs.length c)) := ⟨by rw [← hW]; exact H2.out.below (pw_below_drewN (Below.refl _ _) _)⟩
  clear hW BKw1 BKw2 H2 B1 B2
  have HSW : Aside0 (∀ k, W.heap.size ≤ k → S k) := ⟨fun k hk => HS.out k (Nat.le_trans TW.out.size hk)⟩
  have d1 : W.cell? ⟨g, 1, none⟩ = some (.slice A xs.length c) := (blk_cell HW.out.blk 1).trans rfl
  have d1a : ∀ o, (W.alloc o).cell? ⟨g, 1, none⟩ = some (.slice A xs.length c) := fun o => alloc_cell d1 o
  have b0_ : W.cell? ⟨w.heap.size, 0, none⟩ = some (.int .i64 x.f0) := (blk_cell bx 0).trans rfl
  have b1_ : W.cell? ⟨w.heap.size, 1, none⟩ = some (.int .i64 x.f1) := (blk_cell bx 1).trans rfl
  have b2_ : W.cell? ⟨w.heap.size, 2, none⟩ = some (.int .i64 x.f2) := (blk_cell bx 2).trans rfl
  have b3_ : W.cell? ⟨w.heap.size, 3, none⟩ = some (.string x.f3) := (blk_cell bx 3).trans rfl
  have b4_ : W.cell? ⟨w.heap.size, 4, none⟩ = some (.string x.f4) := (blk_cell bx 4).trans rfl
  have b5_ : W.cell? ⟨w.heap.size, 5, none⟩ = some (.string x.f5.f0) := (blk_cell bx 5).trans rfl
  have b6_ : W.cell? ⟨w.heap.size, 6, none⟩ = some (.int .i64 x.f5.f1) := (blk_cell bx 6).trans rfl
  have b7_ : W.cell? ⟨w.heap.size, 7, none⟩ = some (.int .i64 x.f6) := (blk_cell bx 7).trans rfl
  have SW : Aside0 (base ≤ W.heap.size) := ⟨HW.out.size⟩
  clear bx
  go_region_law
    ((refine step_R_append_drew k35 (W := W) base (by rfl) (.tmp 54) (.tmp 56) 46 35 (.agg #[.int .i64 0, .int .i64 0, .int .i64 0, .string ⟨#[]⟩, .string ⟨#[]⟩, .string ⟨#[]⟩, .int .i64 0, .int .i64 0]) 88 (by rfl) Try.underlying46 info35 rfl (by decide) (by omega) (.slice A xs.length c) xs x (c35 x) S (fun _ => False) (by rfl) (by rfl) (k35_mkM _ _ _ x) (fun _ hk => hk.elim) HSW.out HW.out.row SW.out (by omega) ?_; intro v1 w3 ho hb hg hat; obtain ⟨A1, c5, e5⟩ := Kd.R_slice ho; rw [show (xs ++ [x]).length = xs.length + 1 from by simp] at e5; subst e5; have G3 := Aside0.mk (blk_grown HW.out.blk hg HW.out.gv); have V3 := Aside0.mk ho; have HB3 := Aside0.mk hb; have KP3 := Aside0.mk (Kept.of_grown hg (Kept.of_below TW.out S) (fun k hk => Or.inl (HW.out.row.1 k hk))); clear ho hb hg hat; have p1 : w3.cell? ⟨g, 1, none⟩ = some (.slice A xs.length c) := (blk_cell G3.out 1).trans rfl; have f1 : w3.frozen? ⟨g, 1, none⟩ = false := blk_frozen G3.out 1))
  all_goals
    (try simp only [Exit.then])
    have J' : Aside0 (RTab (w3.setCell ⟨g, 1, none⟩ (.slice A1 (xs.length + 1) c5)) base S g most (xs ++ [x]) (.slice A1 (xs.length + 1) c5)) := ⟨blk_put G3.out 1 _ rfl, HW.out.lo, Kd.R_set V3.out G3.out ne63 1 _, HW.out.sg⟩
    have K' := Aside0.mk (KP3.out.setCell (p := ⟨g, 1, none⟩) (Or.inl HW.out.sg) (.slice A1 (xs.length + 1) c5))
    have B' : Aside0 (Below base w (w3.setCell ⟨g, 1, none⟩ (.slice A1 (xs.length + 1) c5))) := ⟨((below_lower TW.out H.out.size).trans HB3.out).setCell (p := ⟨g, 1, none⟩) HW.out.lo _⟩
    clear p1 f1 b0_ b1_ b2_ b3_ b4_ b5_ b6_ b7_ d1 d1a G3 V3 HB3 KP3 HW HSW
    generalize w3.setCell ⟨g, 1, none⟩ (.slice A1 (xs.length + 1) c5) = W5 at *
    go_wp2_with fail
    go_ret
    exact ⟨rfl, ⟨_, J'.out⟩, B'.out, K'.out⟩
end
end Go.Proofs.Ytojjkgnkdcekpaa.M
