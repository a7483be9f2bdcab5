/- TableActs, the walk. -/
import Derived.Test.YtojjkgnkdcekpaaHTab24
import Derived.Test.YtojjkgnkdcekpaaHActs
import Derived.Test.YtojjkgnkdcekpaaPx2
import Derived.Deep.CutBlock
set_option linter.unusedVariables false
set_option linter.unusedSimpArgs false
namespace Go.Proofs.Ytojjkgnkdcekpaa.M
open Go Go.RowKit Go.ChangeMaps Go.Proofs.YtojjkgnkdcekpaaW.PrintWords Go.Proofs.YtojjkgnkdcekpaaW.PrintLast Go.Proofs.YtojjkgnkdcekpaaW.PrintMore Go.Proofs.Ytojjkgnkdcekpaa.P
attribute [local go_sem high] eqA35

theorem R_keepO {w w' : World} {base : Nat} {ok S2 : Nat → Prop} {u : Value} {ys : List S35} (h : Kd.R k35 35 w base ok u ys) (hk : Kept w w' S2) (hs : ∀ k, u.ownBlock = some k → ¬ S2 k) : Kd.R k35 35 w' base ok u ys :=
  Kd.R_mono (Kd.R_kept (Kd.R_tight2 k35_E h) hk (fun k hk' => hs k hk'.1.symm)) (fun k hk' => hk'.2)
theorem actget {acts : List S39} {i : Nat} (h : i < acts.length) : acts.getD i z39 ∈ acts := by
  rw [List.getD_eq_getElem?_getD, List.getElem?_eq_getElem h]
  exact List.getElem_mem h
theorem filt_ok {xs : List S35} (p : S35 → Bool) (h : ∀ x ∈ xs, OkA x) : ∀ x ∈ xs.filter p, OkA x := fun x hx => h x (List.mem_filter.1 hx).1
theorem add_ok {most : Int} {xs : List S35} {x : S35} (h : ∀ x ∈ xs, OkA x) : ∀ y ∈ (addRes most xs x).2, OkA y := by
  unfold addRes
  intro y hy
  split at hy
  · split at hy
    · rcases List.mem_append.1 hy with hy | hy
      · exact h y hy
      · rw [List.mem_singleton.1 hy]; assumption
    · exact h y hy
  · exact h y hy
theorem add_len {most : Int} {xs : List S35} {x : S35} (h : (xs.length : Int) ≤ most) : ((addRes most xs x).2.length : Int) ≤ most := by
  unfold addRes
  split
  · split
    · simp; omega
    · exact h
  · exact h
/-- What stands behind one act: both tables hold the same. -/
def Round (w wr : World) (g m r : Nat) (most : Int) (N : Nat) : Prop := ∃ (xs : List S35) (n : Nat) (v vr : Value), n ≤ N ∧ (xs.length : Int) ≤ most ∧ (∀ x ∈ xs, OkA x) ∧ ActsAt w wr (fun _ => False) g m r most xs xs n v vr
set_option maxHeartbeats 40000000 in
set_option maxRecDepth 100000 in
theorem acts_walk (w : World) (most : Int) (A : Option Addr) (c : Nat) (acts : List S39) (hC : Kd.C k39 w A acts.length acts) (hc : acts.length ≤ c) (hok : ∀ x ∈ acts, Ok39 x) : Calls Try.prog 3 #[.int .i64 most, .slice A acts.length c] w fun e w' => e = .returned (.bool true) ∧ Below w.heap.size w w' := by
  have H := Aside0.mk hC
  have HK := Aside0.mk hok
  clear hC hok
  go_enter Try.func3, Try.ntmps3
  (try simp only [List.append_eq, List.cons_append, List.nil_append])
  by_cases hm : 1 ≤ most ∧ most ≤ 16
  case neg =>
    go_wp2_with fail
    refine (New_bad w most (by omega)).mono ?_
    rintro e w1 ⟨rfl, hb⟩
    have B1 := Aside0.mk hb
    clear hb
    simp only
    go_wp2_with fail
    refine (RNew_bad w1 most (by omega)).mono ?_
    rintro e w2 ⟨rfl, hb⟩
    have B2 := Aside0.mk (below_nx B1.out hb)
    clear hb B1
    simp only
    go_wp2_with fail
    refine (wimplelaw0_Num.calls 1900 1900 _ rfl).mono ?_
    rintro e w3 ⟨rfl, ⟨nd, rfl⟩⟩
    have B3 := Aside0.mk (below_dN B2.out nd)
    clear B2
    generalize w2.drewN nd = W3 at *
    simp only
    go_wp2_with fail
    refine (awake_calls W3).mono ?_
    rintro e w4 ⟨rfl, hb⟩
    have B4 := Aside0.mk (below_nx B3.out hb)
    clear hb
    simp only
    go_wp2_with fail
    go_ret
    exact ⟨rfl, B4.out⟩
  have HMost := Aside0.mk hm
  go_wp2_with fail
  refine (newC w most hm (fun _ => True) (fun _ _ => trivial)).mono ?_
  rintro e w1 ⟨⟨g, m, rfl, hT⟩, hb⟩
  have T1 := Aside0.mk hT
  have B1 := Aside0.mk hb
  clear hT hb
  simp only
  go_wp2_with fail
  refine (RNew_good w1 most hm (fun _ => True) (fun _ _ => trivial)).mono ?_
  rintro e w2 ⟨⟨r, rfl, hR⟩, hb⟩
  have O2 : Aside0 (ActsAt w w2 (fun _ => False) g m r most [] [] 0 (.slice none 0 0) (.slice none 0 0)) := ⟨⟨(T1.out.bound.below hb).mono (fun k hk => ⟨⟨fun e => by have h1 := hR.lo; have h2 := hk.2; omega, fun e => by cases e⟩, fun e => e⟩), (hR.lower B1.out.size).mono (fun _ _ e => e), below_nx B1.out hb⟩⟩
  clear hR hb T1 B1
  simp only
  go_wp2_with fail
  refine (wimplelaw0_Num.calls 0 0 _ rfl).mono ?_
  rintro e w3 ⟨rfl, ⟨nd, rfl⟩⟩
  have O3 := Aside0.mk (O2.out.next (pw_below_drewN (Below.refl _ _) nd))
  clear O2
  generalize w2.drewN nd = W3 at *
  simp only
  go_wp2_with fail
  clear hm
  go_loopw [9] (fun v9 wr => ∃ i : Nat, i ≤ acts.length ∧ i ≤ 80 ∧ v9 = .int .i64 i ∧ Aside0 (Round w wr g m r most (17 * i))) (fun v9 _ => acts.length - (intOf v9).toNat)
  case atStart => exact ⟨0, Nat.zero_le _, by omega, rfl, ⟨⟨[], 0, _, _, by omega, by have := HMost.out; simp; omega, by simp, O3.out⟩⟩⟩
  case round =>
    obtain ⟨i, hi, hi2, rfl, HR⟩ := hrel
    obtain ⟨xs, n, v, vr, hn, hl, hok, O4⟩ := HR.out
    have O4 := Aside0.mk O4
    have NX := Aside0.mk (And.intro hn (And.intro hl hok))
    clear HR O3 hn hl hok
    by_cases hlt : i < acts.length ∧ i < 80
    · have hd1 : decide ((i : Int) < (acts.length : Int)) = true := decide_eq_true (by omega)
      have hd2 : decide (i < acts.length) = true := decide_eq_true hlt.1
      have hd5 : decide ((i : Int) < 80) = true := decide_eq_true (by omega)
      have hd6 : ((i : Int) < 80) = True := eq_true (by omega)
      have hd8 : (i < acts.length) = True := eq_true hlt.1
      have LI := Aside0.mk hlt
      obtain ⟨ad, rfl, hc0, hc1, hc2, hc3, hc4, hc5, hc6, hc7, hc8, hc9, hc10, hc11, hc12⟩ := at_39 (Kd.C_below H.out O4.out.bel) (i : Int) (by omega) (by omega)
      simp only [Int.toNat_natCast] at hc0 hc1 hc2 hc3 hc4 hc5 hc6 hc7 hc8 hc9 hc10 hc11 hc12
      obtain ⟨a, ha⟩ : ∃ a, acts.getD i z39 = a := ⟨_, rfl⟩
      rw [ha] at hc0 hc1 hc2 hc3 hc4 hc5 hc6 hc7 hc8 hc9 hc10 hc11 hc12
      have OK : Aside0 (Ok39 a) := ⟨by rw [← ha]; exact HK.out _ (actget hlt.1)⟩
      clear hlt ha
      go_upto_region 15 with fail
      generalize hW : wr.alloc _ = W
      obtain ⟨ab, hab⟩ : ∃ ab, wr.heap.size = ab := ⟨_, rfl⟩
      have AB : Aside0 (W.heap[ab]? = some (.cells #[.int .i64 a.kind, .int .i64 a.a.f0, .int .i64 a.a.f1, .int .i64 a.a.f2, .string a.a.f3, .string a.a.f4, .string a.a.f5.f0, .int .i64 a.a.f5.f1, .int .i64 a.a.f6, .string a.qn, .int .i64 a.qt, .int .i64 a.qc, .int .i64 a.now] 39 (0, 0))) := ⟨by rw [← hW, ← hab]; exact blk_new wr _⟩
      have O5 : Aside0 (ActsAt w W (fun k => k = ab) g m r most xs xs n v vr) := ⟨by rw [← hW, ← hab]; exact (O4.out.other (fun k hk e => by omega)).next (below_alloc (Below.refl _ _) _)⟩
      have X5 : Aside0 (∀ k, k = ab → k < W.heap.size) := ⟨fun k e => by rw [e]; exact blk_lt AB.out⟩
      rw [hab]
      clear hW hab hc0 hc1 hc2 hc3 hc4 hc5 hc6 hc7 hc8 hc9 hc10 hc11 hc12 O4
      have a0 : W.cell? ⟨ab, 0, none⟩ = some (.int .i64 a.kind) := (blk_cell AB.out 0).trans rfl
      have a1 : W.cell? ⟨ab, 1, none⟩ = some (.int .i64 a.a.f0) := (blk_cell AB.out 1).trans rfl
      have a2 : W.cell? ⟨ab, 2, none⟩ = some (.int .i64 a.a.f1) := (blk_cell AB.out 2).trans rfl
      have a3 : W.cell? ⟨ab, 3, none⟩ = some (.int .i64 a.a.f2) := (blk_cell AB.out 3).trans rfl
      have a4 : W.cell? ⟨ab, 4, none⟩ = some (.string a.a.f3) := (blk_cell AB.out 4).trans rfl
      have a5 : W.cell? ⟨ab, 5, none⟩ = some (.string a.a.f4) := (blk_cell AB.out 5).trans rfl
      have a6 : W.cell? ⟨ab, 6, none⟩ = some (.string a.a.f5.f0) := (blk_cell AB.out 6).trans rfl
      have a7 : W.cell? ⟨ab, 7, none⟩ = some (.int .i64 a.a.f5.f1) := (blk_cell AB.out 7).trans rfl
      have a8 : W.cell? ⟨ab, 8, none⟩ = some (.int .i64 a.a.f6) := (blk_cell AB.out 8).trans rfl
      have a9 : W.cell? ⟨ab, 9, none⟩ = some (.string a.qn) := (blk_cell AB.out 9).trans rfl
      have a10 : W.cell? ⟨ab, 10, none⟩ = some (.int .i64 a.qt) := (blk_cell AB.out 10).trans rfl
      have a11 : W.cell? ⟨ab, 11, none⟩ = some (.int .i64 a.qc) := (blk_cell AB.out 11).trans rfl
      have a12 : W.cell? ⟨ab, 12, none⟩ = some (.int .i64 a.now) := (blk_cell AB.out 12).trans rfl
      by_cases hk5 : a.kind < 5
      · have e5 : decide (a.kind < 5) = true := decide_eq_true hk5
        have CA := tAdd O5.out X5.out a.a NX.out.2.1 HMost.out.2 (by have := NX.out.1; have := LI.out.2; omega)
        unfold v35 at CA
        have CA := Aside0.mk CA
        go_wp2_with fail
        refine CA.out.mono ?_
        rintro e w6 ⟨rfl, ⟨v6, O6⟩, hk⟩
        have AB6 := blk_kept AB.out hk (fun h => h rfl)
        have O6 := Aside0.mk O6
        have X6 : Aside0 (∀ k, k = ab → k < w6.heap.size) := ⟨fun k e => by rw [e]; exact blk_lt AB6⟩
        obtain ⟨cc, hcc⟩ : ∃ cc, (addRes most xs a.a).1 = cc := ⟨_, rfl⟩
        have HCC := Aside0.mk hcc
        rw [hcc]
        have AD := Aside0.mk (add_len (x := a.a) NX.out.2.1)
        have AO := Aside0.mk (add_ok (most := most) (x := a.a) NX.out.2.2)
        clear hk CA O5 X5 hcc a0 a1 a2 a3 a4 a5 a6 a7 a8 a9 a10 a11 a12
        have b1 : w6.drew.cell? ⟨ab, 1, none⟩ = some (.int .i64 a.a.f0) := (blk_cell (blk_below AB6 (below_drew (Below.refl _ _))) 1).trans rfl
        have b2 : w6.drew.cell? ⟨ab, 2, none⟩ = some (.int .i64 a.a.f1) := (blk_cell (blk_below AB6 (below_drew (Below.refl _ _))) 2).trans rfl
        have b3 : w6.drew.cell? ⟨ab, 3, none⟩ = some (.int .i64 a.a.f2) := (blk_cell (blk_below AB6 (below_drew (Below.refl _ _))) 3).trans rfl
        have b4 : w6.drew.cell? ⟨ab, 4, none⟩ = some (.string a.a.f3) := (blk_cell (blk_below AB6 (below_drew (Below.refl _ _))) 4).trans rfl
        have b5 : w6.drew.cell? ⟨ab, 5, none⟩ = some (.string a.a.f4) := (blk_cell (blk_below AB6 (below_drew (Below.refl _ _))) 5).trans rfl
        have b6 : w6.drew.cell? ⟨ab, 6, none⟩ = some (.string a.a.f5.f0) := (blk_cell (blk_below AB6 (below_drew (Below.refl _ _))) 6).trans rfl
        have b7 : w6.drew.cell? ⟨ab, 7, none⟩ = some (.int .i64 a.a.f5.f1) := (blk_cell (blk_below AB6 (below_drew (Below.refl _ _))) 7).trans rfl
        have b8 : w6.drew.cell? ⟨ab, 8, none⟩ = some (.int .i64 a.a.f6) := (blk_cell (blk_below AB6 (below_drew (Below.refl _ _))) 8).trans rfl
        have bb1 : ∀ o, (w6.drewN o).cell? ⟨ab, 1, none⟩ = some (.int .i64 a.a.f0) := fun _ => b1
        have bb2 : ∀ o, (w6.drewN o).cell? ⟨ab, 2, none⟩ = some (.int .i64 a.a.f1) := fun _ => b2
        have bb3 : ∀ o, (w6.drewN o).cell? ⟨ab, 3, none⟩ = some (.int .i64 a.a.f2) := fun _ => b3
        have bb4 : ∀ o, (w6.drewN o).cell? ⟨ab, 4, none⟩ = some (.string a.a.f3) := fun _ => b4
        have bb5 : ∀ o, (w6.drewN o).cell? ⟨ab, 5, none⟩ = some (.string a.a.f4) := fun _ => b5
        have bb6 : ∀ o, (w6.drewN o).cell? ⟨ab, 6, none⟩ = some (.string a.a.f5.f0) := fun _ => b6
        have bb7 : ∀ o, (w6.drewN o).cell? ⟨ab, 7, none⟩ = some (.int .i64 a.a.f5.f1) := fun _ => b7
        have bb8 : ∀ o, (w6.drewN o).cell? ⟨ab, 8, none⟩ = some (.int .i64 a.a.f6) := fun _ => b8
        simp only
        go_wp2_with fail
        go_region_held3 (fun w' => w'.cell? ⟨ab, 1, none⟩ = some (.int .i64 a.a.f0) ∧ w'.cell? ⟨ab, 2, none⟩ = some (.int .i64 a.a.f1) ∧ w'.cell? ⟨ab, 3, none⟩ = some (.int .i64 a.a.f2) ∧ w'.cell? ⟨ab, 4, none⟩ = some (.string a.a.f3) ∧ w'.cell? ⟨ab, 5, none⟩ = some (.string a.a.f4) ∧ w'.cell? ⟨ab, 6, none⟩ = some (.string a.a.f5.f0) ∧ w'.cell? ⟨ab, 7, none⟩ = some (.int .i64 a.a.f5.f1) ∧ w'.cell? ⟨ab, 8, none⟩ = some (.int .i64 a.a.f6))
          (first
            | ((try dsimp only); (repeat' apply And.intro) <;> with_reducible assumption)
            | ((try dsimp only); (repeat' apply And.intro) <;> with_reducible first | exact bb1 _ | exact bb2 _ | exact bb3 _ | exact bb4 _ | exact bb5 _ | exact bb6 _ | exact bb7 _ | exact bb8 _)
            | ((try dsimp only at *); go_split_ands; (repeat' apply And.intro) <;> exact cell_kept (by assumption) hk7 (fun h => h rfl)))
          (first
            | (go_at_call 10; refine (wimplelaw0_Num.calls _ _ _ rfl).mono ?_; rintro e wN ⟨rfl, ⟨nN, rfl⟩⟩; have CR := rAdd (O6.out.next (pw_below_drewN (Below.refl _ _) (1 + nN))) X6.out a.a NX.out.2.1 HMost.out.2; unfold v35 at CR; rw [HCC.out] at CR; have CR := Aside0.mk CR)
            | (go_at_call 13; refine CR.out.mono ?_; rintro e W9 ⟨rfl, ⟨vr7, O7⟩, hk7⟩; have O9 := Aside0.mk O7; clear O7))
        all_goals
          (try simp only [Exit.then])
          clear hk7 CR b1 b2 b3 b4 b5 b6 b7 b8 bb1 bb2 bb3 bb4 bb5 bb6 bb7 bb8 HCC O6 X6
          have NY : Aside0 (n + 1 ≤ 17 * (i + 1) ∧ ((addRes most xs a.a).2.length : Int) ≤ most ∧ ∀ x ∈ (addRes most xs a.a).2, OkA x) := ⟨⟨by have := NX.out.1; omega, AD.out, AO.out⟩⟩
          have BW9 : Aside0 (w.heap.size ≤ W9.heap.size) := ⟨O9.out.bel.size⟩
          go_wp2_with fail
          refine (All_calls O9.out.tab (by have := NY.out.2.1; have := HMost.out; omega)).mono ?_
          rintro e w10 ⟨u, rfl, hr, hb⟩
          have R10 := Aside0.mk hr
          have UX : Aside0 (∀ k, u.ownBlock = some k → W9.heap.size ≤ k) := ⟨fun k hk => Kd.R_base hr k hk⟩
          have O10 := Aside0.mk ((O9.out.other (X' := fun k => u.ownBlock = some k) (fun k hk e => by have := UX.out k e; omega)).next hb)
          clear hr hb O9
          simp only
          go_wp2_with fail
          refine (RAll_calls O10.out.ref (by have := NY.out.2.1; have := HMost.out; omega)).mono ?_
          rintro e w11 ⟨u2, rfl, hr, hb⟩
          have R11 := Aside0.mk hr
          have R10b := Aside0.mk (Kd.R_below R10.out hb)
          have O11 := Aside0.mk (O10.out.next hb)
          clear hr hb O10 R10
          simp only
          go_wp2_with fail
          refine (same_calls R10b.out R11.out (by have := NY.out.2.1; have := HMost.out; omega)).mono ?_
          rintro e w12 ⟨rfl, hb⟩
          have R12 := Aside0.mk (Kd.R_below R10b.out hb)
          have O12 := Aside0.mk (O11.out.next hb)
          clear hb O11 R10b R11
          simp only
          go_wp2_with fail
          refine (Spoil_calls (Kd.R_lower (base' := w.heap.size) R12.out BW9.out) (O12.out.bel.size)).mono ?_
          rintro e w13 ⟨rfl, hb, hk⟩
          have O13 := Aside0.mk ((O12.out.wrote hk hb).other (X' := fun _ => False) (fun k _ e => e.elim))
          clear hb hk O12 R12
          simp only
          go_wp2_with fail
          go_roundw
          case rel => exact ⟨i + 1, by have := LI.out.1; omega, by have := LI.out.2; omega, by go_num, ⟨⟨_, _, _, _, by have := NY.out.1; have := NX.out.1; omega, NY.out.2.1, NY.out.2.2, O13.out⟩⟩⟩
          case measure => have := LI.out.1; simp [intOf]; omega
      have e5 : decide (a.kind < 5) = false := decide_eq_false hk5
      by_cases hk8 : a.kind < 8
      · have e8 : decide (a.kind < 8) = true := decide_eq_true hk8
        have PA := tTake O5.out X5.out NX.out.2.2 a.a.f2 a.a.f1 a.qn a.qt a.qc (good_Q OK.out.2.1 OK.out.1 OK.out.2.2.2 a.qn) (by have := NX.out.2.1; have := HMost.out; omega) (by have := NX.out.1; have := LI.out.2; omega)
        obtain ⟨y, hy⟩ : ∃ y, (takeRes (fitsQ a.a.f2 a.a.f1 a.qn a.qt a.qc) xs).1 = y := ⟨_, rfl⟩
        obtain ⟨cc, hcc⟩ : ∃ cc, (takeRes (fitsQ a.a.f2 a.a.f1 a.qn a.qt a.qc) xs).2.1 = cc := ⟨_, rfl⟩
        rw [hy, hcc] at PA
        have HY := Aside0.mk (And.intro hy hcc)
        unfold v35 at PA
        have PA := Aside0.mk PA
        clear hy hcc
        go_wp2_with fail
        refine PA.out.mono ?_
        rintro e w6 ⟨rfl, ⟨v6, O6⟩, hk⟩
        have AB6 := Aside0.mk (blk_kept AB.out hk (fun h => h rfl))
        have O6 := Aside0.mk O6
        clear hk PA O5 X5 a0 a1 a2 a3 a4 a5 a6 a7 a8 a9 a10 a11 a12
        simp only
        go_upto_region 21 with fail
        generalize hW : w6.alloc _ = W7
        obtain ⟨yb, hyb⟩ : ∃ yb, w6.heap.size = yb := ⟨_, rfl⟩
        have YB : Aside0 (W7.heap[yb]? = some (.cells #[.int .i64 y.f0, .int .i64 y.f1, .int .i64 y.f2, .string y.f3, .string y.f4, .string y.f5.f0, .int .i64 y.f5.f1, .int .i64 y.f6] 35 (0, 0))) := ⟨by rw [← hW, ← hyb]; exact blk_new w6 _⟩
        have AB7 := Aside0.mk (show W7.heap[ab]? = some (.cells #[.int .i64 a.kind, .int .i64 a.a.f0, .int .i64 a.a.f1, .int .i64 a.a.f2, .string a.a.f3, .string a.a.f4, .string a.a.f5.f0, .int .i64 a.a.f5.f1, .int .i64 a.a.f6, .string a.qn, .int .i64 a.qt, .int .i64 a.qc, .int .i64 a.now] 39 (0, 0)) from by rw [← hW]; exact blk_alloc AB6.out _)
        have O7 : Aside0 (ActsAt w W7 (fun k => k = ab ∨ k = yb) g m r most (takeRes (fitsQ a.a.f2 a.a.f1 a.qn a.qt a.qc) xs).2.2 xs (n + 1) v6 vr) := ⟨by rw [← hW, ← hyb]; exact (O6.out.other (fun k hk e => by rcases e with e | e; exact e; omega)).next (below_alloc (Below.refl _ _) _)⟩
        have X7 : Aside0 (∀ k, k = ab ∨ k = yb → k < W7.heap.size) := ⟨fun k e => by rcases e with e | e; rw [e]; exact blk_lt AB7.out; rw [e]; exact blk_lt YB.out⟩
        rw [hyb]
        clear hW hyb O6 AB6
        have PB := rTake O7.out X7.out a.a.f2 a.a.f1 a.qn a.qt a.qc (by have := NX.out.2.1; have := HMost.out; omega)
        rw [HY.out.1, HY.out.2] at PB
        unfold v35 at PB
        have PB := Aside0.mk PB
        have a2 : W7.cell? ⟨ab, 2, none⟩ = some (.int .i64 a.a.f1) := (blk_cell AB7.out 2).trans rfl
        have a3 : W7.cell? ⟨ab, 3, none⟩ = some (.int .i64 a.a.f2) := (blk_cell AB7.out 3).trans rfl
        have a9 : W7.cell? ⟨ab, 9, none⟩ = some (.string a.qn) := (blk_cell AB7.out 9).trans rfl
        have a10 : W7.cell? ⟨ab, 10, none⟩ = some (.int .i64 a.qt) := (blk_cell AB7.out 10).trans rfl
        have a11 : W7.cell? ⟨ab, 11, none⟩ = some (.int .i64 a.qc) := (blk_cell AB7.out 11).trans rfl
        go_wp2_with fail
        refine PB.out.mono ?_
        rintro e w8 ⟨rfl, ⟨vr8, O8⟩, hk⟩
        have O8 := Aside0.mk O8
        have YB8 := Aside0.mk (blk_kept YB.out hk (fun h => h (Or.inr rfl)))
        have ND : Aside0 ((takeRes (fitsQ a.a.f2 a.a.f1 a.qn a.qt a.qc) xs).2.2.length ≤ xs.length ∧ ∀ x ∈ (takeRes (fitsQ a.a.f2 a.a.f1 a.qn a.qt a.qc) xs).2.2, OkA x) := ⟨⟨take_len _, fun x hx => NX.out.2.2 x (take_mem hx)⟩⟩
        clear hk PB O7 X7 a2 a3 a9 a10 a11 AB7 YB HY
        obtain ⟨zs, hzs⟩ : ∃ zs, (takeRes (fitsQ a.a.f2 a.a.f1 a.qn a.qt a.qc) xs).2.2 = zs := ⟨_, rfl⟩
        rw [hzs] at O8 ND
        clear hzs
        simp only
        go_upto_region 22 with fail
        generalize hW : w8.alloc _ = W9
        obtain ⟨zb, hzb⟩ : ∃ zb, w8.heap.size = zb := ⟨_, rfl⟩
        have ZB : W9.heap[zb]? = some (.cells #[.int .i64 y.f0, .int .i64 y.f1, .int .i64 y.f2, .string y.f3, .string y.f4, .string y.f5.f0, .int .i64 y.f5.f1, .int .i64 y.f6] 35 (0, 0)) := by rw [← hW, ← hzb]; exact blk_new w8 _
        have YB9 : W9.heap[yb]? = some (.cells #[.int .i64 y.f0, .int .i64 y.f1, .int .i64 y.f2, .string y.f3, .string y.f4, .string y.f5.f0, .int .i64 y.f5.f1, .int .i64 y.f6] 35 (0, 0)) := by rw [← hW]; exact blk_alloc YB8.out _
        have O9 : Aside0 (ActsAt w W9 (fun k => k = ab ∨ k = yb) g m r most zs zs (n + 1) v6 vr8) := ⟨by rw [← hW]; exact O8.out.next (below_alloc (Below.refl _ _) _)⟩
        rw [hzb]
        clear hW hzb O8 YB8
        have y0 : W9.cell? ⟨yb, 0, none⟩ = some (.int .i64 y.f0) := (blk_cell YB9 0).trans rfl
        have y1 : W9.cell? ⟨yb, 1, none⟩ = some (.int .i64 y.f1) := (blk_cell YB9 1).trans rfl
        have y2 : W9.cell? ⟨yb, 2, none⟩ = some (.int .i64 y.f2) := (blk_cell YB9 2).trans rfl
        have y3 : W9.cell? ⟨yb, 3, none⟩ = some (.string y.f3) := (blk_cell YB9 3).trans rfl
        have y4 : W9.cell? ⟨yb, 4, none⟩ = some (.string y.f4) := (blk_cell YB9 4).trans rfl
        have y5 : W9.cell? ⟨yb, 5, none⟩ = some (.string y.f5.f0) := (blk_cell YB9 5).trans rfl
        have y6 : W9.cell? ⟨yb, 6, none⟩ = some (.int .i64 y.f5.f1) := (blk_cell YB9 6).trans rfl
        have y7 : W9.cell? ⟨yb, 7, none⟩ = some (.int .i64 y.f6) := (blk_cell YB9 7).trans rfl
        have z0 : W9.cell? ⟨zb, 0, none⟩ = some (.int .i64 y.f0) := (blk_cell ZB 0).trans rfl
        have z1 : W9.cell? ⟨zb, 1, none⟩ = some (.int .i64 y.f1) := (blk_cell ZB 1).trans rfl
        have z2 : W9.cell? ⟨zb, 2, none⟩ = some (.int .i64 y.f2) := (blk_cell ZB 2).trans rfl
        have z3 : W9.cell? ⟨zb, 3, none⟩ = some (.string y.f3) := (blk_cell ZB 3).trans rfl
        have z4 : W9.cell? ⟨zb, 4, none⟩ = some (.string y.f4) := (blk_cell ZB 4).trans rfl
        have z5 : W9.cell? ⟨zb, 5, none⟩ = some (.string y.f5.f0) := (blk_cell ZB 5).trans rfl
        have z6 : W9.cell? ⟨zb, 6, none⟩ = some (.int .i64 y.f5.f1) := (blk_cell ZB 6).trans rfl
        have z7 : W9.cell? ⟨zb, 7, none⟩ = some (.int .i64 y.f6) := (blk_cell ZB 7).trans rfl
        clear YB9 ZB
        go_wp2_with fail
        refine (wimplelaw0_Num.calls cc cc _ rfl).mono ?_
        rintro e w10 ⟨rfl, ⟨nd2, rfl⟩⟩
        have O9 := Aside0.mk (O9.out.next (pw_below_drewN (Below.refl _ _) nd2))
        clear y0 y1 y2 y3 y4 y5 y6 y7 z0 z1 z2 z3 z4 z5 z6 z7
        generalize W9.drewN nd2 = W9 at *
        have NY : Aside0 (n + 1 ≤ 17 * (i + 1) ∧ (zs.length : Int) ≤ most ∧ ∀ x ∈ zs, OkA x) := ⟨⟨by have := NX.out.1; omega, by have := ND.out.1; have := NX.out.2.1; omega, ND.out.2⟩⟩
        have BW9 : Aside0 (w.heap.size ≤ W9.heap.size) := ⟨O9.out.bel.size⟩
        simp only
        go_wp2_with fail
        refine (All_calls O9.out.tab (by have := NY.out.2.1; have := HMost.out; omega)).mono ?_
        rintro e w10 ⟨u, rfl, hr, hb⟩
        have R10 := Aside0.mk hr
        have UX : Aside0 (∀ k, u.ownBlock = some k → W9.heap.size ≤ k) := ⟨fun k hk => Kd.R_base hr k hk⟩
        have O10 := Aside0.mk ((O9.out.other (X' := fun k => u.ownBlock = some k) (fun k hk e => by have := UX.out k e; omega)).next hb)
        clear hr hb O9
        simp only
        go_wp2_with fail
        refine (RAll_calls O10.out.ref (by have := NY.out.2.1; have := HMost.out; omega)).mono ?_
        rintro e w11 ⟨u2, rfl, hr, hb⟩
        have R11 := Aside0.mk hr
        have R10b := Aside0.mk (Kd.R_below R10.out hb)
        have O11 := Aside0.mk (O10.out.next hb)
        clear hr hb O10 R10
        simp only
        go_wp2_with fail
        refine (same_calls R10b.out R11.out (by have := NY.out.2.1; have := HMost.out; omega)).mono ?_
        rintro e w12 ⟨rfl, hb⟩
        have R12 := Aside0.mk (Kd.R_below R10b.out hb)
        have O12 := Aside0.mk (O11.out.next hb)
        clear hb O11 R10b R11
        simp only
        go_wp2_with fail
        refine (Spoil_calls (Kd.R_lower (base' := w.heap.size) R12.out BW9.out) (O12.out.bel.size)).mono ?_
        rintro e w13 ⟨rfl, hb, hk⟩
        have O13 := Aside0.mk ((O12.out.wrote hk hb).other (X' := fun _ => False) (fun k _ e => e.elim))
        clear hb hk O12 R12
        simp only
        go_wp2_with fail
        go_roundw
        case rel => exact ⟨i + 1, by have := LI.out.1; omega, by have := LI.out.2; omega, by go_num, ⟨⟨_, _, _, _, by have := NY.out.1; have := NX.out.1; omega, NY.out.2.1, NY.out.2.2, O13.out⟩⟩⟩
        case measure => have := LI.out.1; simp [intOf]; omega
      have e8 : decide (a.kind < 8) = false := decide_eq_false hk8
      have PA := Aside0.mk (tDue O5.out X5.out NX.out.2.2 (by have := NX.out.2.1; have := HMost.out; omega) (by have := NX.out.1; have := LI.out.2; omega) a.now)
      go_wp2_with fail
      refine PA.out.mono ?_
      rintro e w6 ⟨uo, rfl, hr, ⟨v6, O6⟩, hk⟩
      have AB6 := Aside0.mk (blk_kept AB.out hk (fun h => h rfl))
      have O6 := Aside0.mk O6
      have R6 := Aside0.mk (Kd.R_lower (base' := w.heap.size) hr O5.out.bel.size)
      have X6 : Aside0 (∀ k, k = ab ∨ uo.ownBlock = some k → k < w6.heap.size) := ⟨fun k e => by rcases e with e | e; rw [e]; exact blk_lt AB6.out; exact Kd.R_lt hr k e⟩
      clear hr hk PA O5 X5 a0 a1 a2 a3 a4 a5 a6 a7 a8 a9 a10 a11 a12
      have b12 : w6.cell? ⟨ab, 12, none⟩ = some (.int .i64 a.now) := (blk_cell AB6.out 12).trans rfl
      have PB := Aside0.mk (rDue O6.out X6.out (by have := NX.out.2.1; have := HMost.out; omega) a.now)
      simp only
      go_wp2_with fail
      refine PB.out.mono ?_
      rintro e w7 ⟨u2, rfl, hr, ⟨vr7, O7⟩, hk⟩
      have R7 := Aside0.mk (R_keepO R6.out hk (fun k e h => h (Or.inr e)))
      have R7b := Aside0.mk hr
      have O7 := Aside0.mk O7
      have ND : Aside0 ((xs.filter (notDue a.now)).length ≤ xs.length ∧ (xs.filter (isDue a.now)).length ≤ xs.length ∧ ∀ x ∈ xs.filter (notDue a.now), OkA x) := ⟨⟨List.length_filter_le _ _, List.length_filter_le _ _, filt_ok _ NX.out.2.2⟩⟩
      clear hr hk PB O6 X6 R6 b12 AB6
      obtain ⟨zs, hzs⟩ : ∃ zs, xs.filter (notDue a.now) = zs := ⟨_, rfl⟩
      rw [hzs] at O7 ND
      clear hzs
      simp only
      go_wp2_with fail
      refine (same_calls R7.out R7b.out (by have := ND.out.2.1; have := NX.out.2.1; have := HMost.out; omega)).mono ?_
      rintro e w8 ⟨rfl, hb⟩
      have O8 := Aside0.mk (O7.out.next hb)
      have R8 := Aside0.mk (Kd.R_below R7.out hb)
      clear hb O7 R7 R7b
      simp only
      go_wp2_with fail
      refine (Spoil_calls R8.out O8.out.bel.size).mono ?_
      rintro e W9 ⟨rfl, hb, hk⟩
      have O9 := Aside0.mk ((O8.out.other (X' := fun k => uo.ownBlock = some k) (fun k _ e => Or.inr e)).wrote hk hb)
      clear hb hk O8 R8
      have NY : Aside0 (n + 16 ≤ 17 * (i + 1) ∧ (zs.length : Int) ≤ most ∧ ∀ x ∈ zs, OkA x) := ⟨⟨by have := NX.out.1; omega, by have := ND.out.1; have := NX.out.2.1; omega, ND.out.2.2⟩⟩
      have BW9 : Aside0 (w.heap.size ≤ W9.heap.size) := ⟨O9.out.bel.size⟩
      simp only
      go_wp2_with fail
      refine (All_calls O9.out.tab (by have := NY.out.2.1; have := HMost.out; omega)).mono ?_
      rintro e w10 ⟨u, rfl, hr, hb⟩
      have R10 := Aside0.mk hr
      have UX : Aside0 (∀ k, u.ownBlock = some k → W9.heap.size ≤ k) := ⟨fun k hk => Kd.R_base hr k hk⟩
      have O10 := Aside0.mk ((O9.out.other (X' := fun k => u.ownBlock = some k) (fun k hk e => by have := UX.out k e; omega)).next hb)
      clear hr hb O9
      simp only
      go_wp2_with fail
      refine (RAll_calls O10.out.ref (by have := NY.out.2.1; have := HMost.out; omega)).mono ?_
      rintro e w11 ⟨u2, rfl, hr, hb⟩
      have R11 := Aside0.mk hr
      have R10b := Aside0.mk (Kd.R_below R10.out hb)
      have O11 := Aside0.mk (O10.out.next hb)
      clear hr hb O10 R10
      simp only
      go_wp2_with fail
      refine (same_calls R10b.out R11.out (by have := NY.out.2.1; have := HMost.out; omega)).mono ?_
      rintro e w12 ⟨rfl, hb⟩
      have R12 := Aside0.mk (Kd.R_below R10b.out hb)
      have O12 := Aside0.mk (O11.out.next hb)
      clear hb O11 R10b R11
      simp only
      go_wp2_with fail
      refine (Spoil_calls (Kd.R_lower (base' := w.heap.size) R12.out BW9.out) (O12.out.bel.size)).mono ?_
      rintro e w13 ⟨rfl, hb, hk⟩
      have O13 := Aside0.mk ((O12.out.wrote hk hb).other (X' := fun _ => False) (fun k _ e => e.elim))
      clear hb hk O12 R12
      simp only
      go_wp2_with fail
      go_roundw
      case rel => exact ⟨i + 1, by have := LI.out.1; omega, by have := LI.out.2; omega, by go_num, ⟨⟨_, _, _, _, by have := NY.out.1; have := NX.out.1; omega, NY.out.2.1, NY.out.2.2, O13.out⟩⟩⟩
      case measure => have := LI.out.1; simp [intOf]; omega
    · have DONE : Aside0 (Below w.heap.size w wr) := ⟨O4.out.bel⟩
      by_cases h1 : i < acts.length
      · have hd1 : decide ((i : Int) < (acts.length : Int)) = true := decide_eq_true (by omega)
        have hd2 : decide (i < acts.length) = true := decide_eq_true h1
        have hd8 : (i < acts.length) = True := eq_true h1
        have hd5 : decide ((i : Int) < 80) = false := decide_eq_false (by omega)
        have hd6 : ((i : Int) < 80) = False := eq_false (by omega)
        go_wp2_with fail
        refine (awake_calls wr).mono ?_
        rintro e w4 ⟨rfl, hb⟩
        have B4 := Aside0.mk (below_nx DONE.out hb)
        clear hb
        simp only
        go_wp2_with fail
        go_ret
        exact ⟨rfl, B4.out⟩
      · have hd1 : decide ((i : Int) < (acts.length : Int)) = false := decide_eq_false (by omega)
        have hd2 : decide (i < acts.length) = false := decide_eq_false h1
        have hd8 : (i < acts.length) = False := eq_false h1
        go_wp2_with fail
        refine (awake_calls wr).mono ?_
        rintro e w4 ⟨rfl, hb⟩
        have B4 := Aside0.mk (below_nx DONE.out hb)
        clear hb
        simp only
        go_wp2_with fail
        go_ret
        exact ⟨rfl, B4.out⟩
end Go.Proofs.Ytojjkgnkdcekpaa.M
