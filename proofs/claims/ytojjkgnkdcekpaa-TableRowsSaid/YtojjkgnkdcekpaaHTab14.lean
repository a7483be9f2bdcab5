/- TableRows: replies are taken in the order of the questions. -/
import Derived.Test.YtojjkgnkdcekpaaHTab11
import Derived.Test.YtojjkgnkdcekpaaPx2
set_option linter.unusedVariables false
set_option linter.unusedSimpArgs false
namespace Go.Proofs.Ytojjkgnkdcekpaa.M
open Go Go.RowKit Go.ChangeMaps Go.Proofs.YtojjkgnkdcekpaaW.PrintWords Go.Proofs.YtojjkgnkdcekpaaW.PrintLast Go.Proofs.YtojjkgnkdcekpaaW.PrintMore Go.Proofs.Ytojjkgnkdcekpaa.P

def rowsA (ws : List Int) : List S35 := ws.map fun x => akd x 5 7 100
theorem rowsA_len (ws : List Int) : (rowsA ws).length = ws.length := by simp [rowsA]
theorem rowsA_snoc (ws : List Int) (x : Int) : rowsA (ws ++ [x]) = rowsA ws ++ [akd x 5 7 100] := by simp [rowsA]
theorem take_rd (xs : List Int) (i : Nat) (h : i < xs.length) : xs.take (i + 1) = xs.take i ++ [Go.Proofs.YtojjkgnkdcekpaaW.PrintWords.rd xs i] := by
  rw [List.take_succ_eq_append_getElem h]
  unfold Go.Proofs.YtojjkgnkdcekpaaW.PrintWords.rd
  simp [h]
theorem drop_rd (xs : List Int) (i : Nat) (h : i < xs.length) : xs.drop i = Go.Proofs.YtojjkgnkdcekpaaW.PrintWords.rd xs i :: xs.drop (i + 1) := by
  rw [List.drop_eq_getElem_cons h]
  unfold Go.Proofs.YtojjkgnkdcekpaaW.PrintWords.rd
  simp [h]
/-- The world of the loops: the table, the list beside it. -/
structure AtR (w0 w : World) (g m : Nat) (xs : List S35) (n : Nat) (v u : Value) (ws : List Int) : Prop where
  tab : TabAt w w0.heap.size (fun k => some k ≠ u.ownBlock) g 16 xs n (cntA xs) v m
  row : Kd.R (Kd.int .i64) 3 w w0.heap.size (fun _ => True) u ws
  bel : Below w0.heap.size w0 w
section
variable {w0 w w' : World} {g m : Nat} {xs xs' : List S35} {n n' : Nat} {v v' u u' : Value} {ws : List Int} {p : Int}
theorem AtR.next (h : AtR w0 w g m xs n v u ws) (hb : Below w.heap.size w w') : AtR w0 w' g m xs n v u ws := ⟨h.tab.below hb, Kd.R_below h.row hb, below_nx h.bel hb⟩
theorem AtR.fresh (h : AtR w0 w g m xs n v u ws) : ∀ k, w.heap.size ≤ k → some k ≠ u.ownBlock := fun k hk e => by have := Kd.R_lt h.row k e.symm; omega
theorem AtR.moved (h : AtR w0 w g m xs n v u ws) (hT : TabAt w' w0.heap.size (fun k => some k ≠ u.ownBlock) g 16 xs' n' (cntA xs') v' m) (hb : Below w0.heap.size w w') (hk : Kept w w' (fun k => some k ≠ u.ownBlock)) : AtR w0 w' g m xs' n' v' u ws :=
  ⟨hT, Kd.R_mono (Kd.R_kept (Kd.R_tight2 rfl h.row) hk (fun k hk' hs => hs hk'.1)) (fun _ _ => trivial), h.bel.trans hb⟩
theorem AtR.app (h : AtR w0 w g m xs n v u ws) (ho : Kd.R (Kd.int .i64) 3 w' w0.heap.size (fun _ => True) u' (ws ++ [p])) (hb : Below w0.heap.size w0 w') (hg : w.grownBy w' u.ownBlock) (hat : u'.ownBlock = u.ownBlock ∨ ∃ b, u'.ownBlock = some b ∧ w.heap.size ≤ b) : AtR w0 w' g m xs n v u' (ws ++ [p]) := by
  refine ⟨(TabAt.kept h.tab.bound (Kept.of_grown hg (Kept.refl w (fun k => some k = u.ownBlock)) (fun k e => Or.inl e.symm)) (fun k hk h2 => hk.1 h2)).mono (fun k hk => ?_), ho, hb⟩
  rcases hat with e | ⟨b, e, hl⟩
  · rw [e]; exact hk.1
  · rw [e]; intro e2; cases e2; have := hk.2; omega
end
/-- The world of the second loop. -/
structure AtT (w0 w : World) (g m qb : Nat) (n : Nat) (v u : Value) (ws : List Int) (j : Nat) : Prop where
  tab : TabAt w w0.heap.size (fun k => some k ≠ u.ownBlock ∧ k ≠ qb) g 16 (rowsA (ws.drop j)) n (cntA (rowsA (ws.drop j))) v m
  row : Kd.R (Kd.int .i64) 3 w w0.heap.size (fun _ => True) u ws
  box : w.heap[qb]? = some (.cells #[.string ⟨#[1, 97, 0]⟩, .int .i64 1, .int .i64 1] 37 (0, 0))
  bel : Below w0.heap.size w0 w
section
variable {w0 w w' : World} {g m qb : Nat} {S : Nat → Prop} {base : Nat} {n n' j j' : Nat} {v v' u u' : Value} {ws : List Int} {p : Int}
theorem AtT.next (h : AtT w0 w g m qb n v u ws j) (hb : Below w.heap.size w w') : AtT w0 w' g m qb n v u ws j := ⟨h.tab.below hb, Kd.R_below h.row hb, blk_below h.box hb, below_nx h.bel hb⟩
theorem AtT.fresh (h : AtT w0 w g m qb n v u ws j) : ∀ k, w.heap.size ≤ k → some k ≠ u.ownBlock ∧ k ≠ qb := fun k hk => ⟨fun e => by have := Kd.R_lt h.row k e.symm; omega, fun e => by have := blk_lt h.box; omega⟩
theorem AtT.moved (h : AtT w0 w g m qb n v u ws j) (hT : TabAt w' w0.heap.size (fun k => some k ≠ u.ownBlock ∧ k ≠ qb) g 16 (rowsA (ws.drop j')) n' (cntA (rowsA (ws.drop j'))) v' m) (hb : Below w0.heap.size w w') (hk : Kept w w' (fun k => some k ≠ u.ownBlock ∧ k ≠ qb)) : AtT w0 w' g m qb n' v' u ws j' :=
  ⟨hT, Kd.R_mono (Kd.R_kept (Kd.R_tight2 rfl h.row) hk (fun k hk' hs => hs.1 hk'.1)) (fun _ _ => trivial), blk_kept h.box hk (fun h => h.2 rfl), h.bel.trans hb⟩
theorem takeR (h : TabAt w base S g 16 (rowsA (p :: ws)) n (cntA (rowsA (p :: ws))) v m) (hn : n ≤ 1000) (hl : ws.length ≤ 100) (hS : ∀ k, w.heap.size ≤ k → S k) : Calls Try.prog 14 #[.pointer (some ⟨g, 0, none⟩), .int .i64 7, .int .i64 5, .agg #[.string ⟨#[1, 97, 0]⟩, .int .i64 1, .int .i64 1]] w fun e w' => e = .returned (.tuple #[v35 (akd p 5 7 100), .int .i64 0]) ∧ (∃ v', TabAt w' base S g 16 (rowsA ws) (n + 1) (cntA (rowsA ws)) v' m) ∧ Below base w w' ∧ Kept w w' S :=
  takeC h (by omega) (by rw [rowsA_len]; simp; omega) hS 7 5 ⟨#[1, 97, 0]⟩ 1 (by rw [keyQ_a]; exact KA_good _ _ (by omega) (by omega)) 0 (by rw [rowsA_len]; simp) (by rw [keyQ_a]; exact (isK_KA 7 5 p 5 7 100).trans (by decide)) (fun i hi => absurd hi (by omega))
end
set_option maxHeartbeats 4000000 in
set_option maxRecDepth 100000 in
theorem trows_walk (w : World) (A : Option Addr) (c : Nat) (jobs : List Int) (hh : Kd.C (Kd.int .i64) w A jobs.length jobs) (hc : jobs.length ≤ c) : Calls Try.prog 7 #[.slice A jobs.length c] w fun e w' => e = .returned (.bool true) ∧ Below w.heap.size w w' := by
  have H := Aside0.mk hh
  clear hh
  go_enter Try.func7, Try.ntmps7
  (try simp only [List.append_eq, List.cons_append, List.nil_append])
  go_wp2_with fail
  refine (awake_calls w).mono ?_
  rintro e w1 ⟨rfl, hb⟩
  have B1 := Aside0.mk hb
  clear hb
  simp only
  go_wp2_with fail
  refine (newC w1 16 (by omega) (fun _ => True) (fun _ _ => trivial)).mono ?_
  rintro e w2 ⟨⟨g, m, rfl, hT⟩, hb⟩
  have Q2 : Aside0 (AtR w w2 g m (rowsA (jobs.take 0)) 0 (.slice none 0 0) (.slice none 0 0) (jobs.take 0)) := ⟨⟨(hT.lower B1.out.size).mono (fun k _ => by intro e; cases e), Kd.R_nil _ _ _ _ _, below_nx B1.out hb⟩⟩
  clear hT hb B1
  simp only
  go_wp2_with fail
  go_loopw [5, 6] (fun v5 v6 wr => ∃ (i : Nat) (v : Value), i ≤ jobs.length ∧ i ≤ 16 ∧ v6 = .int .i64 i ∧ Aside0 (AtR w wr g m (rowsA (jobs.take i)) i v v5 (jobs.take i))) (fun _ v6 _ => jobs.length - (intOf v6).toNat)
  case atStart => exact ⟨0, _, Nat.zero_le _, by omega, rfl, Q2⟩
  case round =>
    obtain ⟨i, v, hi, hi2, rfl, Q3⟩ := hrel
    clear Q2
    by_cases hlt : i < jobs.length ∧ i < 16
    · have hd1 : decide ((i : Int) < (jobs.length : Int)) = true := decide_eq_true (by omega)
      have hd2 : decide (i < jobs.length) = true := decide_eq_true hlt.1
      have hd5 : decide ((i : Int) < 16) = true := decide_eq_true (by omega)
      have hd6 : ((i : Int) < 16) = True := eq_true (by omega)
      have hd8 : (i < jobs.length) = True := eq_true hlt.1
      have LI := Aside0.mk hlt
      obtain ⟨jb, hjb⟩ : ∃ jb, Go.Proofs.YtojjkgnkdcekpaaW.PrintWords.rd jobs (i : Int) = jb := ⟨_, rfl⟩
      obtain ⟨ad, rfl, hcx⟩ := Kd.at_int (Kd.C_below H.out Q3.out.bel) (i : Int) (by omega) (by omega)
      have hcW : Aside0 (∀ W, Below w.heap.size w W → W.cell? (ad.add i) = some (.int .i64 jb)) := ⟨fun W hW => by
        obtain ⟨ad', e, h⟩ := Kd.at_int (Kd.C_below H.out hW) (i : Int) (by omega) (by omega)
        cases e
        rw [← hjb]
        exact h⟩
      have ND : Aside0 (jobs.take (i + 1) = jobs.take i ++ [jb]) := ⟨by rw [← hjb]; exact take_rd jobs i hlt.1⟩
      have hc0 := hcW.out wr Q3.out.bel
      clear hlt hcx hjb
      go_wp2_with fail
      refine (asked_calls jb 5 7 100 wr).mono ?_
      rintro e w6 ⟨rfl, hb⟩
      have Q4 := Aside0.mk (Q3.out.next hb)
      clear hb Q3 hc0
      simp only
      go_wp2_with fail
      have hA := addC Q4.out.tab (akd jb 5 7 100) (akd_ok _ _ _ _ (by omega) (by omega)) (key_good _ _ _ _ (by omega) (by omega)) (by rw [rowsA_len, List.length_take]; have := LI.out; omega) (by rw [rowsA_len, List.length_take]; have := LI.out; omega) (by have := LI.out; omega) Q4.out.fresh
      refine hA.mono ?_
      rintro e w7 ⟨rfl, ⟨v', hT⟩, hb, hk⟩
      rw [← rowsA_snoc, ← ND.out] at hT
      have Q5 := Aside0.mk (Q4.out.moved hT hb hk)
      clear hT hb hk hA Q4
      simp only
      go_wp2_with fail
      refine (wimplelaw0_Num.calls 0 0 _ rfl).mono ?_
      rintro e w8 ⟨rfl, ⟨nd, rfl⟩⟩
      have Q6 := Aside0.mk (Q5.out.next (pw_below_drewN (Below.refl _ _) nd))
      clear Q5
      generalize w7.drewN nd = W8 at *
      have hc8 := hcW.out W8 Q6.out.bel
      simp only
      go_wp2_with ((with_reducible refine gate_builtin (b := .append) (xs := #[.tmp 40, .tmp 45]) rfl ?_); at_builtin; refine Kd.R_append (Kd.int .i64) (w0 := w) w.heap.size rfl (.tmp 40) (.tmp 45) 52 3 (.int .i64 0) 8 rfl Try.underlying52 info3 rfl (by decide) (by omega) u5 _ jb [.int .i64 jb] (fun _ => True) (fun _ => False) rfl rfl rfl (fun _ hk => hk.elim) (fun _ _ => trivial) Q6.out.row Q6.out.bel Q6.out.bel.size (by rw [List.length_take]; have := LI.out; omega) ?_; intro v1 w9 ho hb hg hat; have Q7 := Aside0.mk (Q6.out.app ho hb hg hat); rw [← ND.out] at Q7; clear ho hb hg hat Q6 hc8)
      go_roundw
      case rel => exact ⟨i + 1, v', by have := LI.out; omega, by have := LI.out; omega, by go_num, Q7⟩
      case measure => have := LI.out; simp [intOf]; omega
    · have fin : ∀ (wc : World) (u : Value), True := fun _ _ => trivial
      clear fin
      obtain ⟨ws, hws⟩ : ∃ ws, jobs.take i = ws := ⟨_, rfl⟩
      have LW : ws.length ≤ 16 := by rw [← hws, List.length_take]; omega
      rw [hws] at Q3
      by_cases h1 : i < jobs.length
      · have h3 : ¬ i < 16 := by omega
        have hd1 : decide ((i : Int) < (jobs.length : Int)) = true := decide_eq_true (by omega)
        have hd2 : decide (i < jobs.length) = true := decide_eq_true h1
        have hd8 : (i < jobs.length) = True := eq_true h1
        have hd5 : decide ((i : Int) < 16) = false := decide_eq_false (by omega)
        have hd6 : ((i : Int) < 16) = False := eq_false (by omega)
        clear h1 h3 hlt
        go_wp2_with fail
        generalize hW : wr.alloc _ = W1
        obtain ⟨qb, hqb⟩ : ∃ qb, wr.heap.size = qb := ⟨_, rfl⟩
        have T1 : Aside0 (AtT w W1 g m qb i v u5 ws 0) := ⟨⟨by rw [← hW]; exact (Q3.out.tab.bound.below (below_alloc (Below.refl _ _) _)).mono (fun k hk => ⟨hk.1, by have := hk.2; omega⟩), by rw [← hW]; exact Kd.R_below Q3.out.row (below_alloc (Below.refl _ _) _), by rw [← hW, ← hqb]; exact blk_new wr _, by rw [← hW]; exact below_alloc Q3.out.bel _⟩⟩
        rw [hqb]
        clear hd1 hd2 hd8 hW hqb Q3
        obtain ⟨Aw, cw, ew⟩ := Kd.R_slice T1.out.row
        subst ew
        go_loopw [9] (fun v9 wr => ∃ (j n : Nat) (v : Value), j ≤ ws.length ∧ n ≤ i + j ∧ v9 = .int .i64 j ∧ Aside0 (AtT w wr g m qb n v (.slice Aw ws.length cw) ws j)) (fun v9 _ => ws.length - (intOf v9).toNat)
        case atStart => exact ⟨0, i, v, Nat.zero_le _, by omega, rfl, T1⟩
        case round =>
          obtain ⟨j, n2, v2, hj, hn, rfl, T3⟩ := hrel
          clear T1
          have q0 : wr.cell? ⟨qb, 0, none⟩ = some (.string ⟨#[1, 97, 0]⟩) := (blk_cell T3.out.box 0).trans rfl
          have q1 : wr.cell? ⟨qb, 1, none⟩ = some (.int .i64 1) := (blk_cell T3.out.box 1).trans rfl
          have q2 : wr.cell? ⟨qb, 2, none⟩ = some (.int .i64 1) := (blk_cell T3.out.box 2).trans rfl
          by_cases hjl : j < ws.length
          · have hd1 : decide ((j : Int) < (ws.length : Int)) = true := decide_eq_true (by omega)
            have hd2 : decide (j < ws.length) = true := decide_eq_true hjl
            have hd8 : (j < ws.length) = True := eq_true hjl
            go_wp2_with fail
            have t3 := T3.out.tab
            rw [drop_rd ws j hjl] at t3
            refine (takeR t3 (by omega) (by rw [List.length_drop]; omega) T3.out.fresh).mono ?_
            rintro e w6 ⟨rfl, ⟨v', hT⟩, hb, hk⟩
            have T4 := Aside0.mk (T3.out.moved hT hb hk)
            clear hT hb hk t3 T3 q0 q1 q2
            unfold v35 akd
            simp only
            go_wp2_with fail
            generalize hW : w6.alloc _ = W7
            obtain ⟨xb, hxb⟩ : ∃ xb, w6.heap.size = xb := ⟨_, rfl⟩
            have T5 : Aside0 (AtT w W7 g m qb (n2 + 1) v' (.slice Aw ws.length cw) ws (j + 1)) := ⟨by rw [← hW]; exact T4.out.next (below_alloc (Below.refl _ _) _)⟩
            have X5 : Aside0 (W7.heap[xb]? = some (.cells #[.int .i64 (Go.Proofs.YtojjkgnkdcekpaaW.PrintWords.rd ws j), .int .i64 5, .int .i64 7, .string ⟨#[0]⟩, .string ⟨#[1, 97, 0]⟩, .string ⟨#[1, 97, 0]⟩, .int .i64 1, .int .i64 100] 35 (0, 0))) := ⟨by rw [← hW, ← hxb]; exact blk_new w6 _⟩
            rw [hxb]
            clear hW hxb T4
            obtain ⟨ad2, rfl, hcw⟩ := Kd.at_int (Kd.R_reads' T5.out.row).2.2 (j : Int) (by omega) (by omega)
            obtain ⟨K, hK⟩ : ∃ K, ws.length - (j + 1) = K := ⟨_, rfl⟩
            have hAll : ∀ W, Below W7.heap.size W7 W → Calls Try.prog 20 #[.pointer (some ⟨g, 0, none⟩)] W fun e w' => (∃ A c, e = .returned (.slice A K c)) ∧ Below W.heap.size W w' := fun W hW => by
              refine (All_calls (T5.out.tab.below hW) (by rw [rowsA_len, List.length_drop]; omega)).mono ?_
              rintro e w' ⟨u, rfl, hu, hb⟩
              obtain ⟨A, c, e0⟩ := Kd.R_slice hu
              rw [rowsA_len, List.length_drop, hK] at e0
              exact ⟨⟨A, c, by rw [e0]⟩, hb⟩
            have hAll := Aside0.mk hAll
            have x0 : ∀ W, Below W7.heap.size W7 W → W.cell? ⟨xb, 0, none⟩ = some (.int .i64 (Go.Proofs.YtojjkgnkdcekpaaW.PrintWords.rd ws j)) := fun W h => pw_cell_below h ((blk_cell X5.out 0).trans rfl)
            have x1 : ∀ W, Below W7.heap.size W7 W → W.cell? (ad2.add j) = some (.int .i64 (Go.Proofs.YtojjkgnkdcekpaaW.PrintWords.rd ws j)) := fun W h => pw_cell_below h hcw
            have wr1 : IntKind.i64.wrap ((ws.length : Int) - 1) = (ws.length : Int) - 1 := IntWalk.i64_in _ (by omega)
            have wr2 : IntKind.i64.wrap ((ws.length : Int) - 1 - (j : Int)) = (K : Int) := (IntWalk.i64_in _ (by omega)).trans (by omega)
            have kk1 : ((K : Int) = (ws.length : Int) - 1 - (j : Int)) = True := eq_true (by omega)
            have kk2 : ((K : Int) == (ws.length : Int) - 1 - (j : Int)) = true := by rw [beq_iff_eq]; omega
            have kk3 : ((K : Int) != (ws.length : Int) - 1 - (j : Int)) = false := by rw [bne_eq_false_iff_eq]; omega
            have kk4 : decide ((K : Int) = (ws.length : Int) - 1 - (j : Int)) = true := decide_eq_true (by omega)
            have hj0 : (0 : Int) ≤ (j : Int) := by omega
            have hj1 : (j : Int) < (ws.length : Int) := by omega
            have BR : Below W7.heap.size W7 W7 := Below.refl _ _
            have BD : Below W7.heap.size W7 W7.drew := below_drew (Below.refl _ _)
            have LJ := Aside0.mk (show j < ws.length ∧ n2 ≤ i + j from ⟨hjl, hn⟩)
            clear hcw X5
            go_region_held3 (fun w' => Below W7.heap.size W7 w')
              (first
                | with_reducible exact BD
                | with_reducible assumption
                | (with_reducible refine below_dN ?_ _; with_reducible assumption))
              (first
                | (go_at_call 10; refine (wimplelaw0_Num.calls _ _ _ rfl).mono ?_; rintro e wN ⟨rfl, ⟨nN, rfl⟩⟩)
                | (go_at_call 20; refine (hAll.out _ (by with_reducible assumption)).mono ?_; rintro e w16 ⟨⟨A16, c16, rfl⟩, hb⟩; have HS16 := below_nx' (w := W7) hb (by with_reducible assumption); clear hb))
            all_goals
              (try simp only [Exit.then])
              clear x0 x1 wr1 wr2 hj0 hj1 BR BD
              go_wp2_with fail
              first
                | (go_roundw
                   case rel => exact ⟨j + 1, n2 + 1, v', by have := LJ.out; omega, by have := LJ.out; omega, by go_num, ⟨T5.out.next HS16⟩⟩
                   case measure => have := LJ.out; simp [intOf]; omega)
                | (refine ⟨⟨j + 1, n2 + 1, v', ?_, ?_, ?_, ⟨T5.out.next HS16⟩⟩, ?_⟩
                   · have := LJ.out; omega
                   · have := LJ.out; omega
                   · go_num
                   · have := LJ.out; simp [intOf]; omega)
          · obtain rfl : j = ws.length := by omega
            have hd1 : decide ((ws.length : Int) < (ws.length : Int)) = false := decide_eq_false (by omega)
            have hd2 : decide (ws.length < ws.length) = false := decide_eq_false (by omega)
            have t3 := T3.out.tab
            rw [List.drop_length] at t3
            have t4 : Aside0 (TabAt wr w.heap.size (fun k => some k ≠ (Value.slice Aw ws.length cw).ownBlock ∧ k ≠ qb) g 16 [] n2 (cntA []) v2 m) := ⟨t3⟩
            clear t3
            have FR := Aside0.mk T3.out.fresh
            have B3 := Aside0.mk T3.out.bel
            clear T3
            go_wp2_with fail
            refine (takeN t4.out 7 5 ⟨#[1, 97, 0]⟩ 1 1 (by rw [keyQ_a]; exact KA_good _ _ (by omega) (by omega)) (Or.inr (by simp))).mono ?_
            rintro e w6 ⟨rfl, hb⟩
            have T6 := Aside0.mk (t4.out.below hb)
            have B6 := Aside0.mk (below_nx B3.out hb)
            have F6 : Aside0 (∀ k, w6.heap.size ≤ k → some k ≠ (Value.slice Aw ws.length cw).ownBlock ∧ k ≠ qb) := ⟨fun k hk => FR.out k (Nat.le_trans hb.size hk)⟩
            clear hb t4 B3 FR q0 q1 q2
            unfold v35 z35 z33
            simp only
            go_wp2_with fail
            generalize hW : w6.alloc _ = W7
            have T7 := Aside0.mk (show TabAt W7 _ _ _ _ _ _ _ _ _ from by rw [← hW]; exact T6.out.below (below_alloc (Below.refl _ _) _))
            have B7 : Aside0 (Below w.heap.size w W7) := ⟨by rw [← hW]; exact below_alloc B6.out _⟩
            have F7 : Aside0 (∀ k, W7.heap.size ≤ k → some k ≠ (Value.slice Aw ws.length cw).ownBlock ∧ k ≠ qb) := ⟨fun k hk => F6.out k (Nat.le_trans (by rw [← hW]; exact (below_alloc (Below.refl _ _) _).size) hk)⟩
            clear hW T6 B6 F6
            refine (wimplelaw0_Num.calls 0 0 _ rfl).mono ?_
            rintro e w8 ⟨rfl, ⟨nd1, rfl⟩⟩
            simp only
            go_wp2_with fail
            refine (wimplelaw0_Num.calls 1902 1902 _ rfl).mono ?_
            rintro e w9 ⟨rfl, ⟨nd2, rfl⟩⟩
            have T9 := Aside0.mk ((T7.out.below (pw_below_drewN (Below.refl _ _) nd1)).below (pw_below_drewN (Below.refl _ _) nd2))
            have B9 := Aside0.mk (below_dN (below_dN B7.out nd1) nd2)
            have F9 : Aside0 (∀ k, ((W7.drewN nd1).drewN nd2).heap.size ≤ k → some k ≠ (Value.slice Aw ws.length cw).ownBlock ∧ k ≠ qb) := ⟨fun k hk => F7.out k hk⟩
            clear T7 B7 F7
            generalize (W7.drewN nd1).drewN nd2 = W9 at *
            simp only
            go_wp2_with fail
            refine (dueC T9.out (by omega) (by simp) F9.out (by simp) 1099511627776).mono ?_
            rintro e w10 ⟨uo, v10, rfl, hr, hT, hb, hk⟩
            obtain ⟨Ao, co, e0⟩ := Kd.R_slice hr
            have e1 : uo = .slice Ao 0 co := e0
            subst e1
            have B10 := Aside0.mk (B9.out.trans hb)
            clear hr hT hb hk e0 T9 B9 F9
            simp only
            go_wp2_with fail
            go_ret
            exact ⟨rfl, B10.out⟩
      · have hd1 : decide ((i : Int) < (jobs.length : Int)) = false := decide_eq_false (by omega)
        have hd2 : decide (i < jobs.length) = false := decide_eq_false h1
        have hd8 : (i < jobs.length) = False := eq_false h1
        clear h1 hlt
        go_wp2_with fail
        generalize hW : wr.alloc _ = W1
        obtain ⟨qb, hqb⟩ : ∃ qb, wr.heap.size = qb := ⟨_, rfl⟩
        have T1 : Aside0 (AtT w W1 g m qb i v u5 ws 0) := ⟨⟨by rw [← hW]; exact (Q3.out.tab.bound.below (below_alloc (Below.refl _ _) _)).mono (fun k hk => ⟨hk.1, by have := hk.2; omega⟩), by rw [← hW]; exact Kd.R_below Q3.out.row (below_alloc (Below.refl _ _) _), by rw [← hW, ← hqb]; exact blk_new wr _, by rw [← hW]; exact below_alloc Q3.out.bel _⟩⟩
        rw [hqb]
        clear hd1 hd2 hd8 hW hqb Q3
        obtain ⟨Aw, cw, ew⟩ := Kd.R_slice T1.out.row
        subst ew
        go_loopw [9] (fun v9 wr => ∃ (j n : Nat) (v : Value), j ≤ ws.length ∧ n ≤ i + j ∧ v9 = .int .i64 j ∧ Aside0 (AtT w wr g m qb n v (.slice Aw ws.length cw) ws j)) (fun v9 _ => ws.length - (intOf v9).toNat)
        case atStart => exact ⟨0, i, v, Nat.zero_le _, by omega, rfl, T1⟩
        case round =>
          obtain ⟨j, n2, v2, hj, hn, rfl, T3⟩ := hrel
          clear T1
          have q0 : wr.cell? ⟨qb, 0, none⟩ = some (.string ⟨#[1, 97, 0]⟩) := (blk_cell T3.out.box 0).trans rfl
          have q1 : wr.cell? ⟨qb, 1, none⟩ = some (.int .i64 1) := (blk_cell T3.out.box 1).trans rfl
          have q2 : wr.cell? ⟨qb, 2, none⟩ = some (.int .i64 1) := (blk_cell T3.out.box 2).trans rfl
          by_cases hjl : j < ws.length
          · have hd1 : decide ((j : Int) < (ws.length : Int)) = true := decide_eq_true (by omega)
            have hd2 : decide (j < ws.length) = true := decide_eq_true hjl
            have hd8 : (j < ws.length) = True := eq_true hjl
            go_wp2_with fail
            have t3 := T3.out.tab
            rw [drop_rd ws j hjl] at t3
            refine (takeR t3 (by omega) (by rw [List.length_drop]; omega) T3.out.fresh).mono ?_
            rintro e w6 ⟨rfl, ⟨v', hT⟩, hb, hk⟩
            have T4 := Aside0.mk (T3.out.moved hT hb hk)
            clear hT hb hk t3 T3 q0 q1 q2
            unfold v35 akd
            simp only
            go_wp2_with fail
            generalize hW : w6.alloc _ = W7
            obtain ⟨xb, hxb⟩ : ∃ xb, w6.heap.size = xb := ⟨_, rfl⟩
            have T5 : Aside0 (AtT w W7 g m qb (n2 + 1) v' (.slice Aw ws.length cw) ws (j + 1)) := ⟨by rw [← hW]; exact T4.out.next (below_alloc (Below.refl _ _) _)⟩
            have X5 : Aside0 (W7.heap[xb]? = some (.cells #[.int .i64 (Go.Proofs.YtojjkgnkdcekpaaW.PrintWords.rd ws j), .int .i64 5, .int .i64 7, .string ⟨#[0]⟩, .string ⟨#[1, 97, 0]⟩, .string ⟨#[1, 97, 0]⟩, .int .i64 1, .int .i64 100] 35 (0, 0))) := ⟨by rw [← hW, ← hxb]; exact blk_new w6 _⟩
            rw [hxb]
            clear hW hxb T4
            obtain ⟨ad2, rfl, hcw⟩ := Kd.at_int (Kd.R_reads' T5.out.row).2.2 (j : Int) (by omega) (by omega)
            obtain ⟨K, hK⟩ : ∃ K, ws.length - (j + 1) = K := ⟨_, rfl⟩
            have hAll : ∀ W, Below W7.heap.size W7 W → Calls Try.prog 20 #[.pointer (some ⟨g, 0, none⟩)] W fun e w' => (∃ A c, e = .returned (.slice A K c)) ∧ Below W.heap.size W w' := fun W hW => by
              refine (All_calls (T5.out.tab.below hW) (by rw [rowsA_len, List.length_drop]; omega)).mono ?_
              rintro e w' ⟨u, rfl, hu, hb⟩
              obtain ⟨A, c, e0⟩ := Kd.R_slice hu
              rw [rowsA_len, List.length_drop, hK] at e0
              exact ⟨⟨A, c, by rw [e0]⟩, hb⟩
            have hAll := Aside0.mk hAll
            have x0 : ∀ W, Below W7.heap.size W7 W → W.cell? ⟨xb, 0, none⟩ = some (.int .i64 (Go.Proofs.YtojjkgnkdcekpaaW.PrintWords.rd ws j)) := fun W h => pw_cell_below h ((blk_cell X5.out 0).trans rfl)
            have x1 : ∀ W, Below W7.heap.size W7 W → W.cell? (ad2.add j) = some (.int .i64 (Go.Proofs.YtojjkgnkdcekpaaW.PrintWords.rd ws j)) := fun W h => pw_cell_below h hcw
            have wr1 : IntKind.i64.wrap ((ws.length : Int) - 1) = (ws.length : Int) - 1 := IntWalk.i64_in _ (by omega)
            have wr2 : IntKind.i64.wrap ((ws.length : Int) - 1 - (j : Int)) = (K : Int) := (IntWalk.i64_in _ (by omega)).trans (by omega)
            have kk1 : ((K : Int) = (ws.length : Int) - 1 - (j : Int)) = True := eq_true (by omega)
            have kk2 : ((K : Int) == (ws.length : Int) - 1 - (j : Int)) = true := by rw [beq_iff_eq]; omega
            have kk3 : ((K : Int) != (ws.length : Int) - 1 - (j : Int)) = false := by rw [bne_eq_false_iff_eq]; omega
            have kk4 : decide ((K : Int) = (ws.length : Int) - 1 - (j : Int)) = true := decide_eq_true (by omega)
            have hj0 : (0 : Int) ≤ (j : Int) := by omega
            have hj1 : (j : Int) < (ws.length : Int) := by omega
            have BR : Below W7.heap.size W7 W7 := Below.refl _ _
            have BD : Below W7.heap.size W7 W7.drew := below_drew (Below.refl _ _)
            have LJ := Aside0.mk (show j < ws.length ∧ n2 ≤ i + j from ⟨hjl, hn⟩)
            clear hcw X5
            go_region_held3 (fun w' => Below W7.heap.size W7 w')
              (first
                | with_reducible exact BD
                | with_reducible assumption
                | (with_reducible refine below_dN ?_ _; with_reducible assumption))
              (first
                | (go_at_call 10; refine (wimplelaw0_Num.calls _ _ _ rfl).mono ?_; rintro e wN ⟨rfl, ⟨nN, rfl⟩⟩)
                | (go_at_call 20; refine (hAll.out _ (by with_reducible assumption)).mono ?_; rintro e w16 ⟨⟨A16, c16, rfl⟩, hb⟩; have HS16 := below_nx' (w := W7) hb (by with_reducible assumption); clear hb))
            all_goals
              (try simp only [Exit.then])
              clear x0 x1 wr1 wr2 hj0 hj1 BR BD
              go_wp2_with fail
              first
                | (go_roundw
                   case rel => exact ⟨j + 1, n2 + 1, v', by have := LJ.out; omega, by have := LJ.out; omega, by go_num, ⟨T5.out.next HS16⟩⟩
                   case measure => have := LJ.out; simp [intOf]; omega)
                | (refine ⟨⟨j + 1, n2 + 1, v', ?_, ?_, ?_, ⟨T5.out.next HS16⟩⟩, ?_⟩
                   · have := LJ.out; omega
                   · have := LJ.out; omega
                   · go_num
                   · have := LJ.out; simp [intOf]; omega)
          · obtain rfl : j = ws.length := by omega
            have hd1 : decide ((ws.length : Int) < (ws.length : Int)) = false := decide_eq_false (by omega)
            have hd2 : decide (ws.length < ws.length) = false := decide_eq_false (by omega)
            have t3 := T3.out.tab
            rw [List.drop_length] at t3
            have t4 : Aside0 (TabAt wr w.heap.size (fun k => some k ≠ (Value.slice Aw ws.length cw).ownBlock ∧ k ≠ qb) g 16 [] n2 (cntA []) v2 m) := ⟨t3⟩
            clear t3
            have FR := Aside0.mk T3.out.fresh
            have B3 := Aside0.mk T3.out.bel
            clear T3
            go_wp2_with fail
            refine (takeN t4.out 7 5 ⟨#[1, 97, 0]⟩ 1 1 (by rw [keyQ_a]; exact KA_good _ _ (by omega) (by omega)) (Or.inr (by simp))).mono ?_
            rintro e w6 ⟨rfl, hb⟩
            have T6 := Aside0.mk (t4.out.below hb)
            have B6 := Aside0.mk (below_nx B3.out hb)
            have F6 : Aside0 (∀ k, w6.heap.size ≤ k → some k ≠ (Value.slice Aw ws.length cw).ownBlock ∧ k ≠ qb) := ⟨fun k hk => FR.out k (Nat.le_trans hb.size hk)⟩
            clear hb t4 B3 FR q0 q1 q2
            unfold v35 z35 z33
            simp only
            go_wp2_with fail
            generalize hW : w6.alloc _ = W7
            have T7 := Aside0.mk (show TabAt W7 _ _ _ _ _ _ _ _ _ from by rw [← hW]; exact T6.out.below (below_alloc (Below.refl _ _) _))
            have B7 : Aside0 (Below w.heap.size w W7) := ⟨by rw [← hW]; exact below_alloc B6.out _⟩
            have F7 : Aside0 (∀ k, W7.heap.size ≤ k → some k ≠ (Value.slice Aw ws.length cw).ownBlock ∧ k ≠ qb) := ⟨fun k hk => F6.out k (Nat.le_trans (by rw [← hW]; exact (below_alloc (Below.refl _ _) _).size) hk)⟩
            clear hW T6 B6 F6
            refine (wimplelaw0_Num.calls 0 0 _ rfl).mono ?_
            rintro e w8 ⟨rfl, ⟨nd1, rfl⟩⟩
            simp only
            go_wp2_with fail
            refine (wimplelaw0_Num.calls 1902 1902 _ rfl).mono ?_
            rintro e w9 ⟨rfl, ⟨nd2, rfl⟩⟩
            have T9 := Aside0.mk ((T7.out.below (pw_below_drewN (Below.refl _ _) nd1)).below (pw_below_drewN (Below.refl _ _) nd2))
            have B9 := Aside0.mk (below_dN (below_dN B7.out nd1) nd2)
            have F9 : Aside0 (∀ k, ((W7.drewN nd1).drewN nd2).heap.size ≤ k → some k ≠ (Value.slice Aw ws.length cw).ownBlock ∧ k ≠ qb) := ⟨fun k hk => F7.out k hk⟩
            clear T7 B7 F7
            generalize (W7.drewN nd1).drewN nd2 = W9 at *
            simp only
            go_wp2_with fail
            refine (dueC T9.out (by omega) (by simp) F9.out (by simp) 1099511627776).mono ?_
            rintro e w10 ⟨uo, v10, rfl, hr, hT, hb, hk⟩
            obtain ⟨Ao, co, e0⟩ := Kd.R_slice hr
            have e1 : uo = .slice Ao 0 co := e0
            subst e1
            have B10 := Aside0.mk (B9.out.trans hb)
            clear hr hT hb hk e0 T9 B9 F9
            simp only
            go_wp2_with fail
            go_ret
            exact ⟨rfl, B10.out⟩
end Go.Proofs.Ytojjkgnkdcekpaa.M
