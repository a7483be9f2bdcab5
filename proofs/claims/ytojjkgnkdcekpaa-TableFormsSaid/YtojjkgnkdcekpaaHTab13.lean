/- TableForms: what the table refuses. -/
import Derived.Test.YtojjkgnkdcekpaaHTab11
import Derived.Test.YtojjkgnkdcekpaaPx2
import Derived.Deep.CutBlock
set_option linter.unusedVariables false
set_option linter.unusedSimpArgs false
namespace Go.Proofs.Ytojjkgnkdcekpaa.M
open Go Go.RowKit Go.ChangeMaps Go.Proofs.YtojjkgnkdcekpaaW.PrintWords Go.Proofs.YtojjkgnkdcekpaaW.PrintLast Go.Proofs.YtojjkgnkdcekpaaW.PrintMore Go.Proofs.Ytojjkgnkdcekpaa.P

theorem umod0 (d : Int) (k : Nat) (hk : 1 ≤ k ∧ k ≤ 100) : 0 ≤ (IntKind.u64.wrap d).tmod k ∧ (IntKind.u64.wrap d).tmod k ≤ ((k - 1 : Nat) : Int) := by
  have hu : 0 ≤ IntKind.u64.wrap d := by
    simp only [IntKind.wrap, IntKind.bits, IntKind.signed, Bool.false_and, Bool.false_eq_true, if_false]
    omega
  have h1 : (IntKind.u64.wrap d).tmod k = (IntKind.u64.wrap d) % k := Int.tmod_eq_emod_of_nonneg hu
  have h2 : 0 ≤ (IntKind.u64.wrap d) % (k : Int) := Int.emod_nonneg _ (by omega)
  have h3 : (IntKind.u64.wrap d) % (k : Int) < k := Int.emod_lt_of_pos _ (by omega)
  rw [h1]
  omega
theorem may_97 : mayS ⟨#[97]⟩ = false := by
  show (nm [97]).isSome = false
  first | rfl | kernel_rfl | decide
theorem bad_of (y : S35) (h : y.f1 < 0 ∨ y.f1 > 65535 ∨ y.f2 < 0 ∨ y.f2 > 4294967295 ∨ mayS y.f5.f0 = false ∨ y.f5.f1 < 1 ∨ y.f5.f1 > 65535) : ¬ OkA y := by
  rintro ⟨h1, h2, h3, h4, h5, h6, h7⟩
  rcases h with h | h | h | h | h | h | h
  · exact h1 h
  · exact h2 h
  · exact h3 h
  · exact h4 h
  · rw [h] at h5; cases h5
  · exact h6 h
  · exact h7 h
def bx (y : S35) : Array Value := #[.int .i64 y.f0, .int .i64 y.f1, .int .i64 y.f2, .string y.f3, .string y.f4, .string y.f5.f0, .int .i64 y.f5.f1, .int .i64 y.f6]
/-- The world at the cuts: the table, the question's box. -/
structure AtF (w0 w : World) (g m xb : Nat) (most : Int) (xs : List S35) (n : Nat) (v : Value) (y : S35) : Prop where
  tab : TabAt w w0.heap.size (fun k => k ≠ xb) g most xs n (cntA xs) v m
  box : w.heap[xb]? = some (.cells (bx y) 35 (0, 0))
  bel : Below w0.heap.size w0 w
  lo : w0.heap.size ≤ xb
section
variable {w0 w w' : World} {g m xb : Nat} {most : Int} {xs : List S35} {n : Nat} {v : Value} {y y' : S35}
theorem AtF.put (h : AtF w0 w g m xb most xs n v y) (i : Nat) (u : Value) (e : (bx y).setIfInBounds i u = bx y') : AtF w0 (w.setCell ⟨xb, i, none⟩ u) g m xb most xs n v y' :=
  ⟨TabAt.kept h.tab ((Kept.refl w (fun k => k = xb)).setCell (p := ⟨xb, i, none⟩) (Or.inl rfl) u) (fun k hk e => hk e), blk_put h.box i u e, h.bel.setCell (p := ⟨xb, i, none⟩) h.lo u, h.lo⟩
theorem AtF.next (h : AtF w0 w g m xb most xs n v y) (hb : Below w.heap.size w w') : AtF w0 w' g m xb most xs n v y := ⟨h.tab.below hb, blk_below h.box hb, below_nx h.bel hb, h.lo⟩
theorem AtF.fresh (h : AtF w0 w g m xb most xs n v y) : ∀ k, w.heap.size ≤ k → k ≠ xb := fun k hk e => by have := blk_lt h.box; omega
theorem AtF.cell (h : AtF w0 w g m xb most xs n v y) (i : Nat) : w.cell? ⟨xb, i, none⟩ = (bx y)[i]? := blk_cell h.box i
end
def asks (i : Nat) : List S35 := (List.range i).map fun (k : Nat) => akd (k : Int) (k : Int) 7 9
theorem asks_len (i : Nat) : (asks i).length = i := by simp [asks]
theorem asks_succ (i : Nat) : asks (i + 1) = asks i ++ [akd i i 7 9] := by simp [asks, List.range_succ]
set_option maxHeartbeats 40000000 in
set_option maxRecDepth 100000 in
theorem tforms_walk (w : World) (wh x : Int) : Calls Try.prog 5 #[.int .i64 wh, .int .i64 x] w fun e w' => e = .returned (.bool true) ∧ Below w.heap.size w w' := by
  obtain ⟨Z, hz⟩ : ∃ Z, bits BinOp.and IntKind.i64 x 7 = Z := ⟨_, rfl⟩
  obtain ⟨Y, hy⟩ : ∃ Y, bits BinOp.and IntKind.i64 x 63 = Y := ⟨_, rfl⟩
  have Zb : 0 ≤ Z ∧ Z ≤ 7 := by rw [← hz, and7]; omega
  have Yb : 0 ≤ Y ∧ Y ≤ 63 := by rw [← hy, and63]; omega
  have wZ : wrap64 (1 + Z) = 1 + Z := IntWalk.wrap64_in _ (by omega)
  have wY : wrap64 (1 + Y) = 1 + Y := IntWalk.wrap64_in _ (by omega)
  have d1 : wrap64 (-(1 + Y)) = -(1 + Y) := IntWalk.wrap64_in _ (by omega)
  have d2 : wrap64 (65535 + (1 + Y)) = 65535 + (1 + Y) := IntWalk.wrap64_in _ (by omega)
  have d3 : wrap64 (4294967295 + (1 + Y)) = 4294967295 + (1 + Y) := IntWalk.wrap64_in _ (by omega)
  have d4 : wrap64 (1 - (1 + Y)) = 1 - (1 + Y) := IntWalk.wrap64_in _ (by omega)
  have d5 : wrap64 (16 + (1 + Y)) = 16 + (1 + Y) := IntWalk.wrap64_in _ (by omega)
  have hk0 := umod0 wh 7 (by omega)
  obtain ⟨kk, hkk⟩ : ∃ kk : Int, (IntKind.u64.wrap wh).tmod 7 = kk := ⟨_, rfl⟩
  rw [show ((7 : Nat) : Int) = 7 from rfl, hkk] at hk0
  have hk1 : Aside0 (kk = 0 ∨ kk = 1 ∨ kk = 2 ∨ kk = 3 ∨ kk = 4 ∨ kk = 5 ∨ kk = 6) := ⟨by omega⟩
  clear hk0
  go_enter Try.func5, Try.ntmps5
  (try simp only [List.append_eq, List.cons_append, List.nil_append])
  go_wp2_with fail
  refine (awake_calls w).mono ?_
  rintro e w1 ⟨rfl, hb⟩
  have B1 := Aside0.mk hb
  clear hb
  simp only
  go_wp2_with fail
  refine (newC w1 (1 + Z) (by omega) (fun _ => True) (fun _ _ => trivial)).mono ?_
  rintro e w2 ⟨⟨g, m, rfl, hT⟩, hb⟩
  have T2 := Aside0.mk (hT.lower B1.out.size)
  have B2 := Aside0.mk (below_nx B1.out hb)
  clear hT hb B1
  simp only
  go_wp2_with fail
  refine (asked_calls 1 5 7 9 w2).mono ?_
  rintro e w4 ⟨rfl, hb⟩
  have T4 := Aside0.mk (T2.out.below hb)
  have B4 := Aside0.mk (below_nx B2.out hb)
  clear hb T2 B2
  unfold v35 akd
  simp only
  go_upto_block 0 with fail
  generalize hW : w4.alloc _ = W
  obtain ⟨xb, hxb⟩ : ∃ xb, w4.heap.size = xb := ⟨_, rfl⟩
  have Q0 : Aside0 (AtF w W g m xb (1 + Z) [] 0 (.slice none 0 0) ⟨1, 5, 7, ⟨#[0]⟩, ⟨#[1, 97, 0]⟩, ⟨⟨#[1, 97, 0]⟩, 1⟩, 9⟩) := ⟨⟨by rw [← hW]; exact (T4.out.bound.below (below_alloc (Below.refl _ _) _)).mono (fun k hk => by have := hk.2; omega), by rw [← hW, ← hxb]; exact blk_new w4 _, by rw [← hW]; exact below_alloc B4.out _, by rw [← hxb]; exact B4.out.size⟩⟩
  rw [hxb]
  clear hW hxb T4 B4
  go_cut [] from 18 (fun wd => ∃ y : S35, ¬ OkA y ∧ Aside0 (AtF w wd g m xb (1 + Z) [] 0 (.slice none 0 0) y))
  case first =>
    have c0 : W.cell? ⟨xb, 0, none⟩ = some (.int .i64 1) := (Q0.out.cell 0).trans rfl
    have c1 : W.cell? ⟨xb, 1, none⟩ = some (.int .i64 5) := (Q0.out.cell 1).trans rfl
    have c2 : W.cell? ⟨xb, 2, none⟩ = some (.int .i64 7) := (Q0.out.cell 2).trans rfl
    have c3 : W.cell? ⟨xb, 3, none⟩ = some (.string ⟨#[0]⟩) := (Q0.out.cell 3).trans rfl
    have c4 : W.cell? ⟨xb, 4, none⟩ = some (.string ⟨#[1, 97, 0]⟩) := (Q0.out.cell 4).trans rfl
    have c5 : W.cell? ⟨xb, 5, none⟩ = some (.string ⟨#[1, 97, 0]⟩) := (Q0.out.cell 5).trans rfl
    have c6 : W.cell? ⟨xb, 6, none⟩ = some (.int .i64 1) := (Q0.out.cell 6).trans rfl
    have c7 : W.cell? ⟨xb, 7, none⟩ = some (.int .i64 9) := (Q0.out.cell 7).trans rfl
    have fz := fun i => blk_frozen Q0.out.box i
    rcases hk1.out with rfl | rfl | rfl | rfl | rfl | rfl | rfl
    · go_wp2_with fail
      go_meet
      case rel => exact ⟨⟨1, -(1 + Y), 7, ⟨#[0]⟩, ⟨#[1, 97, 0]⟩, ⟨⟨#[1, 97, 0]⟩, 1⟩, 9⟩, bad_of _ (Or.inl (show -(1 + Y) < 0 by omega)), ⟨Q0.out.put 1 _ rfl⟩⟩
    · go_wp2_with fail
      go_meet
      case rel => exact ⟨⟨1, 65535 + (1 + Y), 7, ⟨#[0]⟩, ⟨#[1, 97, 0]⟩, ⟨⟨#[1, 97, 0]⟩, 1⟩, 9⟩, bad_of _ (Or.inr (Or.inl (show 65535 + (1 + Y) > 65535 by omega))), ⟨Q0.out.put 1 _ rfl⟩⟩
    · go_wp2_with fail
      go_meet
      case rel => exact ⟨⟨1, 5, -(1 + Y), ⟨#[0]⟩, ⟨#[1, 97, 0]⟩, ⟨⟨#[1, 97, 0]⟩, 1⟩, 9⟩, bad_of _ (Or.inr (Or.inr (Or.inl (show -(1 + Y) < 0 by omega)))), ⟨Q0.out.put 2 _ rfl⟩⟩
    · go_wp2_with fail
      go_meet
      case rel => exact ⟨⟨1, 5, 4294967295 + (1 + Y), ⟨#[0]⟩, ⟨#[1, 97, 0]⟩, ⟨⟨#[1, 97, 0]⟩, 1⟩, 9⟩, bad_of _ (Or.inr (Or.inr (Or.inr (Or.inl (show 4294967295 + (1 + Y) > 4294967295 by omega))))), ⟨Q0.out.put 2 _ rfl⟩⟩
    · go_wp2_with fail
      go_meet
      case rel => exact ⟨⟨1, 5, 7, ⟨#[0]⟩, ⟨#[1, 97, 0]⟩, ⟨⟨#[97]⟩, 1⟩, 9⟩, bad_of _ (Or.inr (Or.inr (Or.inr (Or.inr (Or.inl may_97))))), ⟨Q0.out.put 5 _ rfl⟩⟩
    · go_wp2_with fail
      go_meet
      case rel => exact ⟨⟨1, 5, 7, ⟨#[0]⟩, ⟨#[1, 97, 0]⟩, ⟨⟨#[1, 97, 0]⟩, 1 - (1 + Y)⟩, 9⟩, bad_of _ (Or.inr (Or.inr (Or.inr (Or.inr (Or.inr (Or.inl (show 1 - (1 + Y) < 1 by omega))))))), ⟨Q0.out.put 6 _ rfl⟩⟩
    · go_wp2_with fail
      go_meet
      case rel => exact ⟨⟨1, 5, 7, ⟨#[0]⟩, ⟨#[1, 97, 0]⟩, ⟨⟨#[1, 97, 0]⟩, 65535 + (1 + Y)⟩, 9⟩, bad_of _ (Or.inr (Or.inr (Or.inr (Or.inr (Or.inr (Or.inr (show 65535 + (1 + Y) > 65535 by omega))))))), ⟨Q0.out.put 6 _ rfl⟩⟩
  case rest =>
    obtain ⟨y, hy0, Q1⟩ := hcut
    have HY := Aside0.mk hy0
    clear Q0 hy0 hk1
    have c0 : wc.cell? ⟨xb, 0, none⟩ = some (.int .i64 y.f0) := (Q1.out.cell 0).trans rfl
    have c1 : wc.cell? ⟨xb, 1, none⟩ = some (.int .i64 y.f1) := (Q1.out.cell 1).trans rfl
    have c2 : wc.cell? ⟨xb, 2, none⟩ = some (.int .i64 y.f2) := (Q1.out.cell 2).trans rfl
    have c3 : wc.cell? ⟨xb, 3, none⟩ = some (.string y.f3) := (Q1.out.cell 3).trans rfl
    have c4 : wc.cell? ⟨xb, 4, none⟩ = some (.string y.f4) := (Q1.out.cell 4).trans rfl
    have c5 : wc.cell? ⟨xb, 5, none⟩ = some (.string y.f5.f0) := (Q1.out.cell 5).trans rfl
    have c6 : wc.cell? ⟨xb, 6, none⟩ = some (.int .i64 y.f5.f1) := (Q1.out.cell 6).trans rfl
    have c7 : wc.cell? ⟨xb, 7, none⟩ = some (.int .i64 y.f6) := (Q1.out.cell 7).trans rfl
    go_wp2_with fail
    refine (Add_bad wc g y HY.out).mono ?_
    rintro e w5 ⟨rfl, hb⟩
    have Q2 := Aside0.mk (Q1.out.next hb)
    clear hb Q1 c0 c1 c2 c3 c4 c5 c6 c7
    simp only
    go_wp2_with fail
    go_loopw [10] (fun v10 wr => ∃ (i : Nat) (v : Value), (i : Int) ≤ Z + 1 ∧ v10 = .int .i64 i ∧ Aside0 (AtF w wr g m xb (1 + Z) (asks i) i v y)) (fun v10 _ => (Z + 1).toNat - (intOf v10).toNat)
    case atStart => exact ⟨0, _, by omega, rfl, Q2⟩
    case round =>
      obtain ⟨i, v, hi, rfl, Q3⟩ := hrel
      clear Q2
      by_cases hlt : (i : Int) ≤ Z
      · have hd1 : decide ((i : Int) ≤ Z) = true := decide_eq_true hlt
        have hd2 : ((i : Int) ≤ Z) = True := eq_true hlt
        go_wp2_with fail
        refine (asked_calls i i 7 9 wr).mono ?_
        rintro e w6 ⟨rfl, hb⟩
        have Q4 := Aside0.mk (Q3.out.next hb)
        clear hb Q3
        simp only
        go_wp2_with fail
        have hA := addC Q4.out.tab (akd i i 7 9) (akd_ok _ _ _ _ (by omega) (by omega)) (key_good _ _ _ _ (by omega) (by omega)) (by rw [asks_len]; omega) (by rw [asks_len]; omega) (by omega) Q4.out.fresh
        refine hA.mono ?_
        rintro e w7 ⟨rfl, ⟨v', hT⟩, hb, hk⟩
        have Q5 := Aside0.mk (show AtF w w7 g m xb (1 + Z) (asks (i + 1)) (i + 1) v' y from ⟨by rw [asks_succ]; exact hT, blk_kept Q4.out.box hk (fun h => h rfl), Q4.out.bel.trans hb, Q4.out.lo⟩)
        clear hT hb hk hA Q4
        simp only
        go_wp2_with fail
        refine (wimplelaw0_Num.calls 0 0 _ rfl).mono ?_
        rintro e w8 ⟨rfl, ⟨nd, rfl⟩⟩
        simp only
        go_wp2_with fail
        go_roundw
        case rel => exact ⟨i + 1, v', by omega, by go_num, ⟨Q5.out.next (pw_below_drewN (Below.refl _ _) _)⟩⟩
        case measure => simp [intOf]; omega
      · have hiz : Aside0 ((i : Int) = 1 + Z) := ⟨by omega⟩
        have hd1 : decide ((i : Int) ≤ Z) = false := decide_eq_false hlt
        have hd2 : ((i : Int) ≤ Z) = False := eq_false hlt
        go_wp2_with fail
        refine (asked_calls 1 5 7 9 wr).mono ?_
        rintro e w6 ⟨rfl, hb⟩
        have Q4 := Aside0.mk (Q3.out.next hb)
        clear hb Q3
        simp only
        go_wp2_with fail
        have hF := Add_full Q4.out.tab (akd 1 5 7 9) (akd_ok _ _ _ _ (by omega) (by omega)) (by rw [asks_len]; omega)
        refine hF.mono ?_
        rintro e w7 ⟨rfl, hb⟩
        have Q5 := Aside0.mk (Q4.out.next hb)
        clear hb hF Q4
        have c0 : w7.cell? ⟨xb, 0, none⟩ = some (.int .i64 y.f0) := (Q5.out.cell 0).trans rfl
        have c1 : w7.cell? ⟨xb, 1, none⟩ = some (.int .i64 y.f1) := (Q5.out.cell 1).trans rfl
        have c2 : w7.cell? ⟨xb, 2, none⟩ = some (.int .i64 y.f2) := (Q5.out.cell 2).trans rfl
        have c3 : w7.cell? ⟨xb, 3, none⟩ = some (.string y.f3) := (Q5.out.cell 3).trans rfl
        have c4 : w7.cell? ⟨xb, 4, none⟩ = some (.string y.f4) := (Q5.out.cell 4).trans rfl
        have c5 : w7.cell? ⟨xb, 5, none⟩ = some (.string y.f5.f0) := (Q5.out.cell 5).trans rfl
        have c6 : w7.cell? ⟨xb, 6, none⟩ = some (.int .i64 y.f5.f1) := (Q5.out.cell 6).trans rfl
        have c7 : w7.cell? ⟨xb, 7, none⟩ = some (.int .i64 y.f6) := (Q5.out.cell 7).trans rfl
        simp only
        go_wp2_with fail
        refine (Add_bad w7 g y HY.out).mono ?_
        rintro e w8 ⟨rfl, hb⟩
        have Q6 := Aside0.mk (Q5.out.next hb)
        clear hb Q5 c0 c1 c2 c3 c4 c5 c6 c7
        simp only
        go_wp2_with fail
        refine (New_bad w8 (1 - (1 + Y)) (Or.inl (by omega))).mono ?_
        rintro e w9 ⟨rfl, hb⟩
        have Q7 := Aside0.mk (Q6.out.next hb)
        clear hb Q6
        simp only
        go_wp2_with fail
        refine (New_bad w9 (16 + (1 + Y)) (Or.inr (by omega))).mono ?_
        rintro e w10 ⟨rfl, hb⟩
        have Q8 := Aside0.mk (Q7.out.next hb)
        clear hb Q7
        simp only
        go_wp2_with fail
        refine (wimplelaw0_Num.calls 0 0 _ rfl).mono ?_
        rintro e wn0 ⟨rfl, ⟨nd0, rfl⟩⟩
        have Q9 := Aside0.mk (Q8.out.next (pw_below_drewN (Below.refl _ _) nd0))
        clear Q8
        generalize w10.drewN nd0 = W0 at *
        simp only
        go_wp2_with fail
        refine (wimplelaw0_Num.calls 1900 1900 _ rfl).mono ?_
        rintro e wn1 ⟨rfl, ⟨nd1, rfl⟩⟩
        have Q10 := Aside0.mk (Q9.out.next (pw_below_drewN (Below.refl _ _) nd1))
        clear Q9
        generalize W0.drewN nd1 = W1 at *
        simp only
        go_wp2_with fail
        refine (wimplelaw0_Num.calls 1901 1901 _ rfl).mono ?_
        rintro e wn2 ⟨rfl, ⟨nd2, rfl⟩⟩
        have Q11 := Aside0.mk (Q10.out.next (pw_below_drewN (Below.refl _ _) nd2))
        clear Q10
        generalize W1.drewN nd2 = W2 at *
        simp only
        go_wp2_with fail
        refine (wimplelaw0_Num.calls 1900 1900 _ rfl).mono ?_
        rintro e wn3 ⟨rfl, ⟨nd3, rfl⟩⟩
        have Q12 := Aside0.mk (Q11.out.next (pw_below_drewN (Below.refl _ _) nd3))
        clear Q11
        generalize W2.drewN nd3 = W3 at *
        simp only
        go_wp2_with fail
        refine (wimplelaw0_Num.calls 1900 1900 _ rfl).mono ?_
        rintro e wn4 ⟨rfl, ⟨nd4, rfl⟩⟩
        have Q13 := Aside0.mk (Q12.out.next (pw_below_drewN (Below.refl _ _) nd4))
        clear Q12
        generalize W3.drewN nd4 = W4 at *
        simp only
        go_wp2_with fail
        refine (wimplelaw0_Num.calls 1900 1900 _ rfl).mono ?_
        rintro e wn5 ⟨rfl, ⟨nd5, rfl⟩⟩
        have Q14 := Aside0.mk (Q13.out.next (pw_below_drewN (Below.refl _ _) nd5))
        clear Q13
        generalize W4.drewN nd5 = W5 at *
        have hAll := All_calls Q14.out.tab (by rw [asks_len]; omega)
        simp only
        go_wp2_with fail
        refine hAll.mono ?_
        rintro e w17 ⟨u, rfl, hu, hb⟩
        obtain ⟨A, c, e0⟩ := Kd.R_slice hu
        rw [asks_len] at e0
        subst e0
        have B17 := Aside0.mk (Q14.out.next hb).bel
        clear hu hb hAll Q14
        have hd3 : (((i : Nat) : Int) == 1 + Z) = true := by rw [hiz.out]; simp
        have hd4 : decide (((i : Nat) : Int) = 1 + Z) = true := decide_eq_true hiz.out
        have hd5 : (((i : Nat) : Int) = 1 + Z) = True := eq_true hiz.out
        simp only
        go_wp2_with fail
        go_ret
        exact ⟨rfl, B17.out⟩
end Go.Proofs.Ytojjkgnkdcekpaa.M
