/- IdLimits: how many may be drawn; each is what it was modulo 2^16. -/
import Derived.Test.YtjmdfhbenejfgaaHIds
set_option linter.unusedVariables false
set_option linter.unusedSimpArgs false
namespace Go.Proofs.Ytjmdfhbenejfgaa.M
open Go Go.RowKit Go.Proofs.YtjmdfhbenejfgaaW.PrintWords

theorem IdsAt_grown {w w' : World} {g : Nat} {zs : List Int} (h : IdsAt w g zs) (hb : Below w.heap.size w w') : IdsAt w' g zs := by
  obtain ⟨A, c, hh, hl, hC, hn⟩ := h
  exact ⟨A, c, blk_below hh hb, hl, Kd.C_below hC hb, fun a ha => ⟨(hn a ha).1, Nat.lt_of_lt_of_le (hn a ha).2 hb.size⟩⟩
theorem IdsAt_drewN {w : World} {g : Nat} {zs : List Int} (h : IdsAt w g zs) (n : Nat) : IdsAt (w.drewN n) g zs := IdsAt_grown h (pw_below_drewN (Below.refl _ _) n)
theorem IdsAt_alloc {w : World} {g : Nat} {zs : List Int} (h : IdsAt w g zs) (o : Obj) : IdsAt (w.alloc o) g zs := IdsAt_grown h (below_alloc (Below.refl _ _) o)
theorem below_only {w w1 w2 : World} {g : Nat} (h : Below w.heap.size w w1) (hg : w1.grownBy w2 (some g)) (hle : w.heap.size ≤ g) : Below w.heap.size w w2 :=
  h.grown hg h.size (fun j hj => by cases hj; exact hle)
theorem ints_C {w : World} {g : Nat} {zs : List Int} (h : w.heap[g]? = some (.cells (zs.map (Value.int .i64)).toArray 3 (0, 0))) (hl : zs.length ≤ 1000000) : Kd.C (Kd.int .i64) w (some ⟨g, 0, none⟩) zs.length zs := by
  refine ⟨rfl, by omega, fun hn => ⟨_, rfl, fun j p hj => ⟨[.int .i64 p], rfl, rfl, fun i u hi => ?_⟩⟩⟩
  have hi0 : i = 0 := by
    have := (List.getElem?_eq_some_iff.1 hi).1
    simpa using this
  subst hi0
  obtain rfl := Option.some.inj hi
  rw [show j * (Kd.int .i64).sz + 0 = j from Nat.mul_one j, Addr.add_lit]
  refine (blk_cell h _).trans ?_
  rw [Nat.zero_add]
  simp [hj]

set_option maxHeartbeats 4000000 in
set_option maxRecDepth 100000 in
theorem awake_walk (w : World) : Calls Try.prog 22 #[] w fun e w' => e = .returned (.bool true) ∧ Below w.heap.size w w' := by
  have hmk : ∀ W : World, (Instr.makeSlice 23 (.int .i64 1025) (.int .i64 1025)).run Try.prog W = .ok (.slice (some ⟨W.heap.size, 0, none⟩) 1025 1025) (W.alloc (.cells (madeCells #[.int .i64 0] 1025) 3)) := print_make (P := Try.prog) 23 3 .i64 8 Try.underlying23 (by kernel_rfl) (by decide) 1025 (by decide)
  go_enter Try.func22, Try.ntmps22
  go_wp2_with fail
  refine (New_ok _ w.heap.size 0 2 [65537, -1] (ints_C (blk_new w _) (by simp)) (by simp)).mono ?_
  rintro e w1 ⟨g, rfl, hg, hI, hb⟩
  have hg1 : w.heap.size ≤ g := by
    simp at hg
    omega
  have S1 := Aside0.mk (below_then (below_alloc (Below.refl w.heap.size w) _) (below_alloc (Below.refl w.heap.size w) _).size hb)
  have HI := Aside0.mk hI
  have HG := Aside0.mk hg1
  clear hg hI hb hg1
  simp only
  go_wp2_with fail
  refine (New_bad _ _ 1025 1025 (by decide)).mono ?_
  rintro e w2 ⟨rfl, rfl⟩
  simp only
  go_wp2_with (go_at_call 21; refine (Num_any _ _).mono ?_; rintro e w' ⟨rfl, rfl⟩)
  refine (Next_some _ g 65537 [-1] (IdsAt_alloc HI.out _)).mono ?_
  rintro e w3 ⟨rfl, hI3, hg3⟩
  have S3 := Aside0.mk (below_only (below_alloc S1.out _) hg3 HG.out)
  have HI3 := Aside0.mk hI3
  clear hI3 hg3 S1 HI
  simp only
  go_wp2_with (go_at_call 26; refine (Left_any _ g [-1] HI3.out).mono ?_; rintro e w' ⟨rfl, rfl⟩)
  refine (Next_some _ g (-1) [] HI3.out).mono ?_
  rintro e w4 ⟨rfl, hI4, hg4⟩
  have S4 := Aside0.mk (below_only S3.out hg4 HG.out)
  have HI4 := Aside0.mk hI4
  clear hI4 hg4 S3 HI3
  simp only
  go_wp2_with fail
  refine (Next_nil _ g HI4.out).mono ?_
  rintro e w5 ⟨rfl, rfl⟩
  simp only
  go_wp2_with (go_at_call 21; refine (Num_any _ _).mono ?_; rintro e w' ⟨rfl, rfl⟩)
  go_ret
  exact ⟨rfl, S4.out⟩

/-- The numbers that are drawn, up to the i-th. -/
def fN (x : Int) (q : Nat) : Int := wrap64 (x + (q : Int) * 40000)
def FL (x : Int) (K i : Nat) : List Int := (List.range K).map (fun q => if q < i then fN x q else 0)
theorem FL_len (x : Int) (K i : Nat) : (FL x K i).length = K := by simp [FL]
theorem FL_made (x : Int) (K : Nat) : madeCells #[.int .i64 0] K = ((FL x K 0).map (Value.int .i64)).toArray := by
  apply Array.ext
  · simp [madeCells, FL]
  · intro i h1 h2
    simp [madeCells, FL, Nat.mod_one]
theorem FL_put (x : Int) (K i : Nat) : (((FL x K i).map (Value.int .i64)).toArray).setIfInBounds i (.int .i64 (fN x i)) = ((FL x K (i + 1)).map (Value.int .i64)).toArray := by
  apply Array.ext
  · simp [FL]
  · intro q h1 h2
    simp only [FL, List.size_toArray, Array.size_setIfInBounds, List.length_map, List.length_range] at h1 h2
    rw [Array.getElem_setIfInBounds (by simpa [FL] using h1)]
    by_cases e : i = q
    · subst e
      simp [FL]
    · rw [if_neg e]
      simp only [FL, List.getElem_toArray, List.getElem_map, List.getElem_range]
      by_cases h : q < i
      · rw [if_pos h, if_pos (by omega)]
      · rw [if_neg h, if_neg (by omega)]
theorem FL_get (x : Int) (K i q : Nat) (h : q < K) : (((FL x K i).map (Value.int .i64)).toArray)[q]? = some (.int .i64 (if q < i then fN x q else 0)) := by
  simp [FL, h]
theorem FL_all (x : Int) (K : Nat) : FL x K K = (List.range K).map (fN x) := by
  unfold FL
  refine List.map_congr_left (fun q hq => ?_)
  rw [if_pos (List.mem_range.1 hq)]
theorem FL_drop (x : Int) (K i : Nat) (h : i < K) : (FL x K K).drop i = fN x i :: (FL x K K).drop (i + 1) := by
  rw [List.drop_eq_getElem_cons (by rw [FL_len]; exact h)]
  congr 1
  simp [FL, h]

set_option maxHeartbeats 8000000 in
set_option maxRecDepth 100000 in
theorem limits_walk (many x : Int) (w : World) : Calls Try.prog 5 #[.int .i64 many, .int .i64 x] w fun e w' => e = .returned (.bool true) ∧ Below w.heap.size w w' := by
  obtain ⟨j, hj, hj3⟩ : ∃ j : Nat, many % 4 = (j : Int) ∧ j ≤ 3 := ⟨(many % 4).toNat, by omega, by omega⟩
  have hand : bits .and .i64 many 3 = (j : Int) := (and3 many).trans hj
  obtain ⟨K, hKe⟩ : ∃ K : Nat, (1022 : Int) + (j : Int) = (K : Int) := ⟨1022 + j, by omega⟩
  have hK1 : 1022 ≤ K := by omega
  have hK2 : K ≤ 1025 := by omega
  have hmk := print_make (P := Try.prog) 23 3 .i64 8 Try.underlying23 (by kernel_rfl) (by decide) K (by omega)
  clear hj
  go_enter Try.func5, Try.ntmps5
  go_wp2_with fail
  refine (awake_walk _).mono ?_
  rintro e w1 ⟨rfl, hb⟩
  have S1 := Aside0.mk hb
  clear hb
  simp only
  go_wp2_with fail
  generalize hW : w1.alloc _ = W
  have BW : Aside0 (W.heap[w1.heap.size]? = some (.cells ((FL x K 0).map (Value.int .i64)).toArray 3 (0, 0))) := ⟨by rw [← hW, ← FL_made]; exact blk_new w1 _⟩
  have TW : Aside0 (Below w.heap.size w W) := ⟨by rw [← hW]; exact below_alloc S1.out _⟩
  have GE : Aside0 (w.heap.size ≤ w1.heap.size) := ⟨S1.out.size⟩
  clear hW hand hKe hmk S1
  go_loopw [7] (fun v7 wr => ∃ i : Nat, i ≤ K ∧ v7 = .int .i64 i ∧ Aside0 (wr.heap[w1.heap.size]? = some (.cells ((FL x K i).map (Value.int .i64)).toArray 3 (0, 0))) ∧ Aside0 (Below w.heap.size w wr)) (fun v7 _ => K - (intOf v7).toNat)
  case atStart => exact ⟨0, Nat.zero_le _, rfl, BW, TW⟩
  case round =>
    obtain ⟨i, hi, rfl, HB, HT⟩ := hrel
    by_cases hlt : i < K
    · have hc : wr.cell? ⟨w1.heap.size, i, none⟩ = some (.int .i64 0) := (blk_cell HB.out i).trans ((FL_get x K i i hlt).trans (by simp))
      have hf : wr.frozen? ⟨w1.heap.size, i, none⟩ = false := blk_frozen HB.out i
      have hd1 : decide ((i : Int) < (K : Int)) = true := decide_eq_true (by omega)
      have hd2 : decide (i < K) = true := decide_eq_true hlt
      have hi0 : (0 : Int) ≤ (i : Int) := by omega
      have hi1 : (i : Int) ≤ 1025 := by omega
      go_wp2_with fail
      go_roundw
      case rel => exact ⟨i + 1, by omega, by go_num, ⟨blk_put HB.out i _ (FL_put x K i)⟩, ⟨below_set HT.out GE.out⟩⟩
      case measure => simp [intOf]; omega
    · obtain rfl : i = K := by omega
      have hd1 : decide ((i : Int) < (i : Int)) = false := decide_eq_false (by omega)
      have hd2 : decide (i < i) = false := decide_eq_false (by omega)
      by_cases hb : i ≤ 1024
      · have hk1 : decide ((i : Int) > 1024) = false := decide_eq_false (by omega)
        have hk2 : decide (1024 < i) = false := decide_eq_false (by omega)
        have hk3 : decide ((1024 : Int) < (i : Int)) = false := decide_eq_false (by omega)
        go_wp2_with fail
        refine (show Calls Try.prog 18 #[.slice (some ⟨w1.heap.size, 0, none⟩) i i] _ (NewPost wr (FL x i i)) from by
          have h := New_ok wr w1.heap.size 0 i (FL x i i) (ints_C HB.out (by rw [FL_len]; omega)) (by rw [FL_len]; exact hb)
          rw [FL_len] at h
          exact h).mono ?_
        rintro e w2 ⟨g, rfl, hg, hI, hb2⟩
        have S2 := Aside0.mk (below_then HT.out HT.out.size hb2)
        have BB := Aside0.mk (blk_below HB.out hb2)
        have HI := Aside0.mk hI
        have HG : Aside0 (w.heap.size ≤ g) := ⟨Nat.le_trans HT.out.size hg⟩
        have HN : Aside0 (w1.heap.size ≠ g) := ⟨by have := blk_lt HB.out; omega⟩
        clear hg hI hb2 HB HT
        simp only
        go_wp2_with fail
        go_loopw [10] (fun v10 wr => ∃ q : Nat, q ≤ i ∧ v10 = .int .i64 q ∧ Aside0 (IdsAt wr g ((FL x i i).drop q)) ∧ Aside0 (wr.heap[w1.heap.size]? = some (.cells ((FL x i i).map (Value.int .i64)).toArray 3 (0, 0))) ∧ Aside0 (Below w.heap.size w wr)) (fun v10 _ => i - (intOf v10).toNat)
        case atStart => exact ⟨0, Nat.zero_le _, rfl, HI, BB, S2⟩
        case round =>
          obtain ⟨q, hq, rfl, HI2, HB2, HT2⟩ := hrel
          by_cases hlt : q < i
          · obtain ⟨m, hm⟩ : ∃ m : Nat, (i : Int) - 1 - (q : Int) = (m : Int) := ⟨i - 1 - q, by omega⟩
            have hm2 : (i : Int) - 1 = (q : Int) + (m : Int) := by omega
            have hml : ((FL x i i).drop (q + 1)).length = m := by rw [List.length_drop, FL_len]; omega
            have hI3 := HI2.out
            rw [FL_drop x i q hlt] at hI3
            have HI3 := Aside0.mk hI3
            clear hI3
            have hd1 : decide ((q : Int) < (i : Int)) = true := decide_eq_true (by omega)
            have hd2 : decide (q < i) = true := decide_eq_true hlt
            have hi0 : (0 : Int) ≤ (q : Int) := by omega
            have hi1 : (q : Int) ≤ 1024 := by omega
            go_wp2_with fail
            refine (Next_some _ g (fN x q) _ HI3.out).mono ?_
            rintro e w3 ⟨rfl, hI4, hg4⟩
            have S4 := Aside0.mk (below_only HT2.out hg4 HG.out)
            have HI4 := Aside0.mk hI4
            have HB4 := Aside0.mk (blk_grown HB2.out hg4 (by intro hh; cases hh; exact HN.out rfl))
            clear hI4 hg4 HI2 HI3 HT2 HB2
            have hc : w3.cell? ⟨w1.heap.size, q, none⟩ = some (.int .i64 (fN x q)) := (blk_cell HB4.out q).trans ((FL_get x i i q hlt).trans (by simp [hlt]))
            have hand2 : bits .and .i64 (fN x q) 65535 = fN x q % 65536 := and65535 _
            simp only
            go_wp2_with (go_at_call 21; refine (Num_any _ _).mono ?_; rintro e w' ⟨rfl, rfl⟩)
            refine (Left_any _ g _ HI4.out).mono ?_
            rintro e w4 ⟨rfl, rfl⟩
            rw [hml]
            simp only
            go_wp2_with fail
            go_roundw
            case rel => exact ⟨q + 1, by omega, by go_num, HI4, HB4, S4⟩
            case measure => simp [intOf]; omega
          · obtain rfl : q = i := by omega
            have hd1 : decide ((q : Int) < (q : Int)) = false := decide_eq_false (by omega)
            have hd2 : decide (q < q) = false := decide_eq_false (by omega)
            have hI3 := HI2.out
            rw [show (FL x q q).drop q = [] from List.drop_eq_nil_of_le (by rw [FL_len]; exact Nat.le_refl _)] at hI3
            have HI3 := Aside0.mk hI3
            clear hI3
            go_wp2_with fail
            refine (Next_nil _ g HI3.out).mono ?_
            rintro e w5 ⟨rfl, rfl⟩
            simp only
            go_wp2_with (go_at_call 21; refine (Num_any _ _).mono ?_; rintro e w' ⟨rfl, rfl⟩)
            go_ret
            exact ⟨rfl, HT2.out⟩
      · obtain rfl : i = 1025 := by omega
        go_wp2_with fail
        refine (New_bad _ _ 1025 1025 (by decide)).mono ?_
        rintro e w2 ⟨rfl, rfl⟩
        simp only
        go_wp2_with (go_at_call 21; refine (Num_any _ _).mono ?_; rintro e w' ⟨rfl, rfl⟩)
        go_ret
        exact ⟨rfl, HT.out⟩
end Go.Proofs.Ytjmdfhbenejfgaa.M
