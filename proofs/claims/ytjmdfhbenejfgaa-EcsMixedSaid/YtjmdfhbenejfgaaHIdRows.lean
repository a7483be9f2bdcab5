/- IdRows: any drawn numbers. -/
import Derived.Test.YtjmdfhbenejfgaaHRows2
set_option linter.unusedVariables false
set_option linter.unusedSimpArgs false
namespace Go.Proofs.Ytjmdfhbenejfgaa.M
open Go Go.RowKit Go.Proofs.YtjmdfhbenejfgaaW.PrintWords Go.Proofs.YtjmdfhbenejfgaaW.PrintLast Go.Proofs.YtjmdfhbenejfgaaW.PrintMore Go.Proofs.Ytjmdfhbenejfgaa.P

theorem copy_f (zs : List Int) (h : zs.length < 17592186044416) : wimplelaw0_CopyInts.f zs = some zs := by
  simp [wimplelaw0_CopyInts.f, h]
theorem lend_f (zs : List Int) (h : zs.length < 17592186044410) : wimplelaw0_LendInts.f zs = some zs := by
  unfold wimplelaw0_LendInts.f
  rw [copy_f zs (by omega)]
  simp only [Option.bind_some, List.length_append, List.length_cons, List.length_nil]
  rw [if_pos (by omega), if_pos (by omega), if_pos (by omega)]
  simp

def LentPost (w : World) (zs : List Int) (e : Ending) (w' : World) : Prop := ∃ (g c : Nat) (cs : Array Value), e = .returned (.slice (some ⟨g, 0, none⟩) zs.length c) ∧ w.heap.size ≤ g ∧ w'.heap[g]? = some (.cells cs 3 (0, 0)) ∧ zs.length + 2 ≤ c ∧ Kd.C (Kd.int .i64) w' (some ⟨g, 0, none⟩) (zs.length + 2) (zs ++ [-7777, -8888]) ∧ Below w.heap.size w w'
theorem Lend_post (A0 : Option Addr) (c0 : Nat) (zs : List Int) (w : World) (h0 : Kd.C (Kd.int .i64) w A0 zs.length zs) (hc0 : zs.length ≤ c0) (hl : zs.length < 17592186044410) : Calls Try.prog 17 #[.slice A0 zs.length c0] w (LentPost w zs) := by
  refine (wimplelaw0_LendInts.lent A0 c0 zs zs w h0 hc0 (lend_f zs hl)).mono ?_
  rintro e w' ⟨A, c, t, ht, rfl, hR, hB⟩
  obtain rfl := Option.some.inj ((copy_f zs (by omega)).symm.trans ht)
  obtain ⟨A', c', he, hle, hC⟩ := Kd.R_reads hR
  injection he with h4 h5 h6
  subst h4 h6
  have hlen : (zs ++ [(-7777 : Int), -8888]).length = zs.length + 2 := by simp
  rw [hlen] at hle hC
  have ho := Kd.own_of_R (h1 := fun _ => rfl) hR
  rcases ho.2 with ⟨h1, h2⟩ | ⟨g, cap, cur, hv, hg, hh, hnc, hmx, _⟩
  · rw [hlen] at h2
    omega
  · injection hv with h7 h8 h9
    subst h7
    exact ⟨g, c, cur, rfl, hg, hh, hle, hC, hB⟩

theorem lent_cells {w : World} {g n : Nat} {cs : Array Value} {zs : List Int} (hh : w.heap[g]? = some (.cells cs 3 (0, 0))) (hC : Kd.C (Kd.int .i64) w (some ⟨g, 0, none⟩) n zs) (i : Nat) (hi : i < zs.length) : ∃ z, cs[i]? = some (.int .i64 z) := by
  have h := C_cell hC i zs[i] (List.getElem?_eq_getElem hi)
  rw [add_plain, blk_cell hh i] at h
  exact ⟨_, h⟩

set_option maxHeartbeats 8000000 in
set_option maxRecDepth 100000 in
theorem rows_walk (A0 : Option Addr) (c0 : Nat) (zs : List Int) (w : World) (h0 : Kd.C (Kd.int .i64) w A0 zs.length zs) (hc0 : zs.length ≤ c0) (hl : zs.length < 17592186044410) : Calls Try.prog 4 #[.slice A0 zs.length c0] w fun e w' => e = .returned (.bool true) ∧ Below w.heap.size w w' := by
  have H0 := Aside0.mk h0
  clear h0
  go_enter Try.func4, Try.ntmps4
  go_wp2_with fail
  refine (Lend_post A0 c0 zs _ H0.out hc0 hl).mono ?_
  rintro e w1 ⟨g, c, cs, rfl, hg, hh, hc, hC, hb⟩
  have HG := Aside0.mk hg
  have HH := Aside0.mk hh
  have HC := Aside0.mk hC
  have H1 := Aside0.mk (Kd.C_below H0.out hb)
  have B1 := Aside0.mk hb
  clear hg hh hC hb H0
  simp only
  by_cases hn : zs.length ≤ 1024
  · go_wp2_with fail
    refine (NewI_ok _ g 0 c zs (C_short HC.out) hn).mono ?_
    rintro e w2 ⟨g1, rfl, hg1, hR1, hb2, hg1'⟩
    have G1 := Aside0.mk hg1
    have G1' := Aside0.mk hg1'
    have R1 := Aside0.mk hR1
    have B2 := Aside0.mk hb2
    have H2 := Aside0.mk (Kd.C_below H1.out hb2)
    clear hg1 hg1' hR1 hb2 H1
    simp only
    go_wp2_with fail
    refine (NewR_ok _ A0 c0 zs H2.out hn).mono ?_
    rintro e w3 ⟨g2, rfl, hg2, hR2, hb3, hg2'⟩
    have G2 := Aside0.mk hg2
    have G2' := Aside0.mk hg2'
    have R2 := Aside0.mk hR2
    have B3 := Aside0.mk hb3
    have H3 := Aside0.mk (Kd.C_below H2.out hb3)
    clear hg2 hg2' hR2 hb3 H2
    simp only
    go_wp2_with fail
    refine (KeptInts_true _ ⟨g, 0, none⟩ c c0 A0 zs hl (Kd.C_below (Kd.C_below HC.out B2.out) B3.out) hc H3.out hc0).mono ?_
    rintro e w4 ⟨rfl, ⟨nd, rfl⟩⟩
    clear H3
    simp only
    go_wp2_with (go_at_call 21; refine (Num_any _ _).mono ?_; rintro e w' ⟨rfl, rfl⟩)
    have hgl : g < w1.heap.size := blk_lt HH.out
    have Z2 : w1.heap.size ≤ w2.heap.size := B2.out.size
    have Z3 : w2.heap.size ≤ w3.heap.size := B3.out.size
    have D3 := Aside0.mk (pw_below_drewN B3.out nd)
    have hh3 : (w3.drewN nd).heap[g]? = some (.cells cs 3 (0, 0)) := blk_below (blk_below HH.out B2.out) D3.out
    refine (SpoilInts_any _ g zs.length c cs (by omega) hh3 (fun i hi => lent_cells HH.out (C_short HC.out) i hi)).mono ?_
    rintro e w4 ⟨rfl, hg4⟩
    have r1 := RowAt_grown (RowAt_below R1.out D3.out (Nat.le_refl _)) hg4 (by intro hh; cases hh; have := G1.out; omega) (fun k hk => by cases hk; exact Or.inl hgl) (by show w2.heap.size ≤ w3.heap.size; exact Z3)
    have r2 := RowAt_grown (RowAt_below R2.out (pw_below_drewN (Below.refl _ _) nd) (Nat.le_refl _)) hg4 (by intro hh; cases hh; have := G2.out; omega) (fun k hk => by cases hk; exact Or.inl (by omega)) (Nat.le_refl _)
    have S4 := Aside0.mk (below_only (below_then (below_then B1.out B1.out.size B2.out) (Nat.le_trans B1.out.size Z2) D3.out) hg4 HG.out)
    have Z4 : w3.heap.size ≤ w4.heap.size := hg4.size
    have Q1 := Aside0.mk r1
    have Q2 := Aside0.mk r2
    clear r1 r2 hg4 hh3 R1 R2 HH HC
    have hgn : some g1 ≠ some g2 := by intro hh; cases hh; have := G1'.out; have := G2.out; omega
    have hw2 : wrap64 ((zs.length : Int) + 2) = ((zs.length + 2 : Nat) : Int) := by rw [w64 _ (by omega)]; omega
    simp only
    go_wp2_with fail
    have HW3 : Aside0 (w3.heap.size ≤ w4.heap.size) := ⟨Z4⟩
    have P1 : Aside0 (w.heap.size ≤ g1) := ⟨Nat.le_trans B1.out.size G1.out⟩
    have P2 : Aside0 (w.heap.size ≤ g2) := ⟨Nat.le_trans (Nat.le_trans B1.out.size Z2) G2.out⟩
    clear Z4 G2'
    have X12 : Aside0 (w2.heap.size ≤ w3.heap.size) := ⟨Z3⟩
    have L1 : Aside0 (g1 < w2.heap.size) := G1'
    have L2 : Aside0 (w2.heap.size ≤ g2) := G2
    have HN12 : Aside0 (some g1 ≠ some g2) := ⟨hgn⟩
    clear Z2 Z3 G1 G1' G2 hgn D3 B1 B2 B3 HG
    go_loopw [8] (fun v8 wr => ∃ i : Nat, i ≤ zs.length + 2 ∧ v8 = .int .i64 i ∧ Aside0 (w3.heap.size ≤ wr.heap.size) ∧ Aside0 (RowAt 57 w1.heap.size w2.heap.size wr g1 (zs.drop i)) ∧ Aside0 (RowAt 59 w2.heap.size w3.heap.size wr g2 (zs.drop i)) ∧ Aside0 (Below w.heap.size w wr)) (fun v8 _ => zs.length + 2 - (intOf v8).toNat)
    case atStart => exact ⟨0, Nat.zero_le _, rfl, HW3, Q1, Q2, S4⟩
    case round =>
      clear Q1 Q2 S4 HW3
      obtain ⟨i, hi, rfl, HW3, Q1, Q2, S4⟩ := hrel
      by_cases hlt : i < zs.length + 2
      · have hd1 : decide ((i : Int) < ((zs.length + 2 : Nat) : Int)) = true := decide_eq_true (by omega)
        have hd2 : decide ((i : Int) < (zs.length : Int) + 2) = true := decide_eq_true (by omega)
        have hd3 : decide (i < zs.length + 2) = true := decide_eq_true hlt
        by_cases hin : i < zs.length
        · obtain ⟨z, hz⟩ : ∃ z, zs.drop i = z :: zs.drop (i + 1) := ⟨_, List.drop_eq_getElem_cons hin⟩
          rw [hz] at Q1 Q2
          obtain ⟨y, hy⟩ : ∃ y, z % 65536 = y := ⟨_, rfl⟩
          have hy0 : 0 ≤ y := by omega
          have hy1 : y ≤ 65535 := by omega
          have hf1 : decide (y < 0) = false := decide_eq_false (by omega)
          have hf2 : decide (y > 65535) = false := decide_eq_false (by omega)
          have hf3 : decide (65535 < y) = false := decide_eq_false (by omega)
          generalize hm : zs.drop (i + 1) = ys at Q1 Q2
          go_wp2_with fail
          refine (NextI_some _ _ _ g1 z ys Q1.out).mono ?_
          rintro e w5 ⟨rfl, hr5, hg5⟩
          rw [hy]
          have Q15 := Aside0.mk hr5
          have Q25 := Aside0.mk (RowAt_grown Q2.out hg5 (fun h => HN12.out h.symm) (fun k hk => by cases hk; exact Or.inl L1.out) HW3.out)
          have S5 := Aside0.mk (below_only S4.out hg5 P1.out)
          have HW5 : Aside0 (w3.heap.size ≤ w5.heap.size) := ⟨Nat.le_trans HW3.out hg5.size⟩
          clear hr5 hg5 Q1 Q2 S4 HW3
          simp only
          go_wp2_with fail
          refine (NextR_some _ _ _ g2 z ys Q25.out).mono ?_
          rintro e w6 ⟨rfl, hr6, hg6⟩
          rw [hy]
          have Q26 := Aside0.mk hr6
          have Q16 := Aside0.mk (RowAt_grown Q15.out hg6 HN12.out (fun k hk => by cases hk; exact Or.inr L2.out) (Nat.le_trans X12.out HW5.out))
          have S6 := Aside0.mk (below_only S5.out hg6 P2.out)
          have HW6 : Aside0 (w3.heap.size ≤ w6.heap.size) := ⟨Nat.le_trans HW5.out hg6.size⟩
          clear hr6 hg6 Q15 Q25 S5 HW5
          simp only
          go_wp2_with (first
            | (go_at_call 21; refine (Num_any _ _).mono ?_; rintro e w' ⟨rfl, rfl⟩)
            | (go_at_call 26; refine (LeftI _ _ _ g1 ys Q16.out).mono ?_; rintro e w' ⟨rfl, rfl⟩)
            | (go_at_call 27; refine (LeftR _ _ _ g2 ys Q26.out).mono ?_; rintro e w' ⟨rfl, rfl⟩))
          go_roundw
          case rel => exact ⟨i + 1, by omega, by go_num, HW6, by rw [hm]; exact Q16, by rw [hm]; exact Q26, S6⟩
          case measure => simp [intOf]; omega
        · have hz : zs.drop i = [] := List.drop_eq_nil_of_le (by omega)
          have hm : zs.drop (i + 1) = [] := List.drop_eq_nil_of_le (by omega)
          rw [hz] at Q1 Q2
          go_wp2_with fail
          refine (NextI_nil _ _ _ g1 Q1.out).mono ?_
          rintro e w5 ⟨rfl, rfl⟩
          simp only
          go_wp2_with fail
          refine (NextR_nil _ _ _ g2 Q2.out).mono ?_
          rintro e w6 ⟨rfl, rfl⟩
          simp only
          go_wp2_with (first
            | (go_at_call 21; refine (Num_any _ _).mono ?_; rintro e w' ⟨rfl, rfl⟩)
            | (go_at_call 26; refine (LeftI _ _ _ g1 [] Q1.out).mono ?_; rintro e w' ⟨rfl, rfl⟩)
            | (go_at_call 27; refine (LeftR _ _ _ g2 [] Q2.out).mono ?_; rintro e w' ⟨rfl, rfl⟩))
          go_roundw
          case rel => exact ⟨i + 1, by omega, by go_num, HW3, by rw [hm]; exact Q1, by rw [hm]; exact Q2, S4⟩
          case measure => simp [intOf]; omega
      · have hd1 : decide ((i : Int) < ((zs.length + 2 : Nat) : Int)) = false := decide_eq_false (by omega)
        have hd2 : decide ((i : Int) < (zs.length : Int) + 2) = false := decide_eq_false (by omega)
        have hd3 : decide (i < zs.length + 2) = false := decide_eq_false hlt
        go_wp2_with fail
        refine (awake_walk _).mono ?_
        rintro e w7 ⟨rfl, hb7⟩
        have S7 := Aside0.mk (below_then S4.out S4.out.size hb7)
        clear hb7
        simp only
        go_wp2_with fail
        go_ret
        exact ⟨rfl, S7.out⟩
  · go_wp2_with fail
    refine (New_bad _ _ zs.length c (by omega)).mono ?_
    rintro e w2 ⟨rfl, rfl⟩
    simp only
    go_wp2_with fail
    refine (NewR_bad _ A0 zs.length c0 (by omega)).mono ?_
    rintro e w3 ⟨rfl, rfl⟩
    simp only
    go_wp2_with fail
    refine (KeptInts_true _ ⟨g, 0, none⟩ c c0 A0 zs hl HC.out hc H1.out hc0).mono ?_
    rintro e w4 ⟨rfl, ⟨nd, rfl⟩⟩
    have S4 := Aside0.mk (pw_below_drewN B1.out nd)
    clear H1 HC HH
    simp only
    go_wp2_with (go_at_call 21; refine (Num_any _ _).mono ?_; rintro e w' ⟨rfl, rfl⟩)
    refine (awake_walk _).mono ?_
    rintro e w7 ⟨rfl, hb7⟩
    have S7 := Aside0.mk (below_then S4.out S4.out.size hb7)
    clear hb7
    simp only
    go_wp2_with fail
    go_ret
    exact ⟨rfl, S7.out⟩
end Go.Proofs.Ytjmdfhbenejfgaa.M
