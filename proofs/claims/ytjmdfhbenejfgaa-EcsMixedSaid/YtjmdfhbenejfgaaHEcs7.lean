/- EcsMixed: the walk. -/
import Derived.Test.YtjmdfhbenejfgaaHEcs5
import Derived.Deep.RegionHeld3
import Derived.Deep.DrawnRows
import Derived.BigRegion
import Derived.RegionTactic
set_option linter.unusedVariables false
set_option linter.unusedSimpArgs false
namespace Go.Proofs.Ytjmdfhbenejfgaa.M
open Go Go.RowKit Go.Proofs.YtjmdfhbenejfgaaW.PrintWords Go.Proofs.YtjmdfhbenejfgaaW.PrintLast Go.Proofs.YtjmdfhbenejfgaaW.PrintMore Go.Proofs.Ytjmdfhbenejfgaa.P
theorem aside_then {w w1 w2 : World} (h : Aside0 (Below w.heap.size w w1)) (k : Below w1.heap.size w1 w2) : Aside0 (Below w.heap.size w w2) := ⟨below_then h.out h.out.size k⟩
theorem aside_drew {w w1 : World} (h : Aside0 (Below w.heap.size w w1)) : Aside0 (Below w.heap.size w w1.drew) := ⟨below_drew h.out⟩
theorem drew_cell {w : World} {a : Addr} {v : Value} (h : w.cell? a = some v) : w.drew.cell? a = some v := h
theorem below_of_eq {w w' : World} (h : w = w') : Below w.heap.size w w' := h ▸ Below.refl _ _
theorem Num_bel (n : Int) (w : World) : Calls Try.prog 21 #[.int .i64 n] w fun e w' => e = .returned (.int .i64 n) ∧ Below w.heap.size w w' := (Num_any n w).mono (by rintro e w' ⟨rfl, rfl⟩; exact ⟨rfl, Below.refl _ _⟩)
theorem ne44 : ∀ q, q ∈ 52 :: k52.E → q ≠ 44 := by
  intro q hq
  have hE : k52.E = [] := rfl
  rw [hE] at hq
  simp at hq
  omega
set_option maxHeartbeats 8000000 in
set_option maxRecDepth 100000 in
theorem mixed_walk (w : World) (A : Option Addr) (c : Nat) (xs : List Int) (s : ByteArray) (h : Kd.C (Kd.int .i64) w A xs.length xs) (hc : xs.length ≤ c) (hs : s.size ≤ 140737488351232) : Calls Try.prog 8 #[.slice A xs.length c, .string s] w fun e w' => e = .returned (.bool true) ∧ Below w.heap.size w w' := by
  have HZ := Aside0.mk h
  have HS := Aside0.mk hs
  clear h hs
  go_enter Try.func8, Try.ntmps8
  go_wp2_with fail
  refine (awake9_walk w).mono ?_
  rintro e w1 ⟨rfl, hb⟩
  have T1 := Aside0.mk hb
  have Z1 := Aside0.mk (Kd.C_below HZ.out hb)
  clear hb HZ
  simp only
  go_wp2_with fail
  generalize hW : w1.alloc _ = W
  have TW : Aside0 (Below w.heap.size w W) := ⟨by rw [← hW]; exact below_alloc T1.out _⟩
  have b1 : W.heap[w1.heap.size]? = some (.cells #[.int .i64 700, .int .i64 0, .int .i64 0, .bool false, .int .i64 0, .slice none 0 0] 44 (0, 0)) := by rw [← hW]; exact blk_new w1 _
  have B1 := Aside0.mk b1
  have WS : Aside0 (w1.heap.size < W.heap.size) := ⟨by rw [← hW]; simp⟩
  have LW : Aside0 (w.heap.size ≤ w1.heap.size) := ⟨T1.out.size⟩
  have T2 : Aside0 (Below w1.heap.size w1 W) := ⟨by rw [← hW]; exact below_alloc (Below.refl _ _) _⟩
  clear hW b1 T1
  obtain ⟨g, hg⟩ : ∃ g, w1.heap.size = g := ⟨_, rfl⟩
  rw [hg] at B1 WS LW T2
  rw [hg]
  have GE := Aside0.mk hg
  clear hg
  go_loopw [6, 7] (fun v6 v7 wr => ∃ (i : Nat) (vo : Value) (os : List S52), v7 = .int .i64 i ∧ i ≤ xs.length ∧ i ≤ 40 ∧ Aside0 (os.length = i) ∧ Aside0 (wr.heap[g]? = some (.cells #[.int .i64 700, .int .i64 0, .int .i64 0, .bool false, .int .i64 0, vo] 44 (0, 0))) ∧ Aside0 (Kd.R k52 52 wr W.heap.size (fun k => True ∧ some k ≠ v6.ownBlock) vo os) ∧ Aside0 (Kd.R k52 52 wr W.heap.size (fun k => True ∧ some k ≠ vo.ownBlock) v6 (os.filter notE)) ∧ Aside0 (Below g W wr)) (fun _ v7 _ => 40 - (intOf v7).toNat)
  case atStart => exact ⟨0, _, [], rfl, Nat.zero_le _, Nat.zero_le _, ⟨rfl⟩, B1, ⟨Kd.R_nil _ _ _ _ _⟩, ⟨Kd.R_nil _ _ _ _ _⟩, ⟨Below.refl _ _⟩⟩
  case round =>
    obtain ⟨i, vo, os, rfl, hi, hi40, HL, HG, HO, HW, HT⟩ := hrel
    have hcase : (i < xs.length ∧ i < 40) ∨ ((i < xs.length ∧ ¬ i < 40) ∨ ¬ i < xs.length) := by omega
    rcases hcase with ⟨hlt, h40⟩ | hcase
    · · have hd1 : decide ((i : Int) < (xs.length : Int)) = true := decide_eq_true (by omega)
        have hd2 : decide (i < xs.length) = true := decide_eq_true hlt
        have hd3 : decide ((i : Int) < 40) = true := decide_eq_true (by omega)
        have hd4 : decide (i < 40) = true := decide_eq_true h40
        obtain ⟨ad, rfl, hc0⟩ := Kd.at_int (Kd.C_below Z1.out (by rw [GE.out]; exact T2.out.trans HT.out : Below w1.heap.size w1 wr)) (i : Int) (by omega) (by omega)
        simp only [Int.toNat_natCast] at hc0
        generalize rd xs (i : Int) = p at hc0
        have ha1 : ∀ o, (wr.alloc o).cell? (ad.add i) = some (.int .i64 p) := fun o => (World.cell?_alloc_lt _ _ _ (World.block_lt_of_cell? _ _ hc0)).trans hc0
        have ha2 : ∀ o o', ((wr.alloc o).alloc o').cell? (ad.add i) = some (.int .i64 p) := fun o o' => (World.cell?_alloc_lt _ _ _ (World.block_lt_of_cell? _ _ (ha1 o))).trans (ha1 o)
        have ha3 : ∀ o o' o'', (((wr.alloc o).alloc o').alloc o'').cell? (ad.add i) = some (.int .i64 p) := fun o o' o'' => (World.cell?_alloc_lt _ _ _ (World.block_lt_of_cell? _ _ (ha2 o o'))).trans (ha2 o o')
        have hq0 : (0 : Int) ≤ (i : Int) := by omega
        have hq1 : (i : Int) < (xs.length : Int) := by omega
        have hcv : ∀ (W : World) (b : Nat), W.cell? ⟨b, 0, none⟩ = some (.int .u8 (i : Int)) → (convert 54 9 (.slice (some ⟨b, 0, none⟩) 1 1)).run Try.prog W = .ok (.string (strOfNums [(i : Int)])) W := fun W b hb => by
          refine Kd.C_string (n := 1) Try.underlying54 Try.underlying5 Try.underlying9 (xs := [(i : Int)]) ⟨rfl, by decide, fun _ => ⟨_, rfl, fun j q hj => ?_⟩⟩
          obtain rfl : j = 0 := by have := (List.getElem?_eq_some_iff.1 hj).1; simp at this; exact this
          obtain rfl : (i : Int) = q := by simpa using hj
          exact ⟨[.int .u8 (i : Int)], rfl, rfl, fun k u hk => by
            obtain rfl : k = 0 := by have := (List.getElem?_eq_some_iff.1 hk).1; simp at this; exact this
            obtain rfl : Value.int .u8 (i : Int) = u := by simpa using hk
            exact hb⟩
        have hsz : (s ++ strOfNums [(i : Int)]).size ≤ 9223372036854775807 := by
          have := HS.out
          rw [ByteArray.size_append]
          have h1 : (strOfNums [(i : Int)]).size = 1 := by simp [strOfNums, ByteArray.size]
          omega
        obtain ⟨t, ht⟩ : ∃ t, strOfNums [(i : Int)] = t := ⟨_, rfl⟩
        rw [ht] at hcv hsz
        clear ht
        have hsz2 : (9223372036854775807 < (s ++ t).size) = False := eq_false (by omega)
        have hsz3 : (9223372036854775807 < s.size + t.size) = False := eq_false (by rw [ByteArray.size_append] at hsz; omega)
        have hj0 : 0 ≤ (IntKind.u64.wrap p).tmod 5 ∧ (IntKind.u64.wrap p).tmod 5 < 5 := by
          have h0 : 0 ≤ IntKind.u64.wrap p := by
            show 0 ≤ p % 18446744073709551616
            omega
          exact ⟨Int.tmod_nonneg _ h0, Int.tmod_lt_of_pos _ (by omega)⟩
        obtain ⟨j, hj⟩ : ∃ j : Nat, wrap64 ((IntKind.u64.wrap p).tmod 5) = (j : Int) := ⟨((IntKind.u64.wrap p).tmod 5).toNat, by rw [w64 _ (by omega)]; omega⟩
        have hj5 : j < 5 := by
          rw [w64 _ (by omega)] at hj
          omega
        have hj6 : (j : Int) < 5 := by omega
        have hj7 : (0 : Int) ≤ (j : Int) := by omega
        obtain ⟨cd, hcd⟩ : ∃ cd : Int, ([.int .i64 8, .int .i64 12, .int .i64 8, .int .i64 65535, .int .i64 0] : List Value)[j]? = some (.int .i64 cd) := by
          match j, hj5 with
          | 0, _ => exact ⟨_, rfl⟩
          | 1, _ => exact ⟨_, rfl⟩
          | 2, _ => exact ⟨_, rfl⟩
          | 3, _ => exact ⟨_, rfl⟩
          | 4, _ => exact ⟨_, rfl⟩
        have hcd2 : ([.int .i64 8, .int .i64 12, .int .i64 8, .int .i64 65535, .int .i64 0] : List Value)[j]'(hj5) = .int .i64 cd := (List.getElem?_eq_some_iff.1 hcd).2
        clear hcd
        clear hj0
        have hu2 : ∀ o o', (((wr.alloc (.cells #[.int .u8 (i : Int)] 5)).alloc o).alloc o').cell? ⟨wr.heap.size, 0, none⟩ = some (.int .u8 (i : Int)) := fun o o' => (blk_cell (blk_alloc (blk_alloc (blk_new wr _) o) o') 0).trans rfl
        have hu1 : ∀ o o', (((wr.alloc o').alloc (.cells #[.int .u8 (i : Int)] 5)).alloc o).cell? ⟨wr.heap.size + 1, 0, none⟩ = some (.int .u8 (i : Int)) := fun o o' => by
          have h1 := blk_new (wr.alloc o') (.cells #[.int .u8 (i : Int)] 5)
          rw [World.size_alloc] at h1
          exact (blk_cell (blk_alloc h1 o) 0).trans rfl
        go_wp2_with fail
        go_big_region
        all_goals
          clear ha1 ha2 ha3 hu1 hu2 hcv hsz hsz2 hsz3 hj hj5 hj6 hj7 hcd2 hq0 hq1 hd1 hd2 hd3 hd4 hc0
          generalize hW2 : World.drew _ = W2
          have hb2 : Below wr.heap.size wr W2 := by rw [← hW2]; exact below_drew (below_alloc (below_alloc (below_alloc (Below.refl _ _) _) _) _)
          have hs2 : W2.heap.size = wr.heap.size + 3 := by rw [← hW2]; simp [World.drew]
          first
            | (have b8 : W2.heap[wr.heap.size + 1 + 1]? = some (.cells #[.int .i64 cd, .string (s ++ t)] 52 (0, 0)) := by rw [← hW2]; have h1 := blk_new ((wr.alloc (.cells #[.int .i64 8, .int .i64 12, .int .i64 8, .int .i64 65535, .int .i64 0] 3)).alloc (.cells #[.int .u8 (i : Int)] 5)) (.cells #[.int .i64 cd, .string (s ++ t)] 52); rw [World.size_alloc, World.size_alloc] at h1; exact h1
               generalize hx : wr.heap.size + 1 + 1 = x at b8 ⊢)
            | (have b8 : W2.heap[wr.heap.size + 1 + 1]? = some (.cells #[.int .i64 cd, .string (s ++ t)] 52 (0, 0)) := by rw [← hW2]; have h1 := blk_new ((wr.alloc (.cells #[.int .u8 (i : Int)] 5)).alloc (.cells #[.int .i64 8, .int .i64 12, .int .i64 8, .int .i64 65535, .int .i64 0] 3)) (.cells #[.int .i64 cd, .string (s ++ t)] 52); rw [World.size_alloc, World.size_alloc] at h1; exact h1
               generalize hx : wr.heap.size + 1 + 1 = x at b8 ⊢)
            | (have b8 : W2.heap[wr.heap.size + 1]? = some (.cells #[.int .i64 cd, .string (s ++ t)] 52 (0, 0)) := by rw [← hW2]; have h1 := blk_new (wr.alloc (.cells #[.int .u8 (i : Int)] 5)) (.cells #[.int .i64 cd, .string (s ++ t)] 52); rw [World.size_alloc] at h1; exact blk_alloc h1 _
               generalize hx : wr.heap.size + 1 = x at b8 ⊢)
            | (have b8 : W2.heap[wr.heap.size + 1]? = some (.cells #[.int .i64 cd, .string (s ++ t)] 52 (0, 0)) := by rw [← hW2]; have h1 := blk_new (wr.alloc (.cells #[.int .i64 8, .int .i64 12, .int .i64 8, .int .i64 65535, .int .i64 0] 3)) (.cells #[.int .i64 cd, .string (s ++ t)] 52); rw [World.size_alloc] at h1; exact blk_alloc h1 _
               generalize hx : wr.heap.size + 1 = x at b8 ⊢)
            | (have b8 : W2.heap[wr.heap.size]? = some (.cells #[.int .i64 cd, .string (s ++ t)] 52 (0, 0)) := by rw [← hW2]; exact blk_alloc (blk_alloc (blk_new wr _) _) _
               generalize hx : wr.heap.size = x at b8 ⊢)
          have X1 : Aside0 (wr.heap.size ≤ x) := ⟨by omega⟩
          have B8 := Aside0.mk b8
          have G2 := Aside0.mk (blk_below HG.out hb2)
          have O2 := Aside0.mk (Kd.R_below HO.out hb2)
          have V2 := Aside0.mk (Kd.R_below HW.out hb2)
          have F6 : Aside0 (∀ k, W2.heap.size ≤ k → True ∧ some k ≠ u6.ownBlock) := ⟨fun k hk => ⟨trivial, fun e => by have := Kd.R_lt HW.out k e.symm; omega⟩⟩
          have NG : Aside0 (some g ≠ vo.ownBlock) := ⟨fun e => by have := Kd.R_base HO.out g e.symm; have := WS.out; omega⟩
          have NX : Aside0 (some x ≠ vo.ownBlock) := ⟨fun e => by have := Kd.R_lt HO.out x e.symm; have := X1.out; omega⟩
          have H2 := Aside0.mk hb2
          have SZ : Aside0 (W.heap.size ≤ W2.heap.size) := ⟨by have := HT.out.size; have h2 := hb2.size; omega⟩
          have N8 : Aside0 (g ≠ x) := ⟨by have := X1.out; have := WS.out; have := HT.out.size; omega⟩
          have hl : os.length + 1 ≤ 100 := by have := HL.out; omega
          have c25 : W2.cell? ⟨g, 5, none⟩ = some vo := (blk_cell G2.out 5).trans rfl
          have c80 : W2.cell? ⟨x, 0, none⟩ = some (.int .i64 cd) := (blk_cell B8.out 0).trans rfl
          have c81 : W2.cell? ⟨x, 1, none⟩ = some (.string (s ++ t)) := (blk_cell B8.out 1).trans rfl
          clear hW2 hb2 hs2 hx b8 HO HW HG hi hi40
          have NU : Aside0 (some g ≠ u6.ownBlock) := ⟨fun e => by have := Kd.R_base V2.out g e.symm; have := WS.out; omega⟩
          have hl2 : (os.filter notE).length + 1 ≤ 100 := by have := List.length_filter_le notE os; omega
          simp only [Exit.then]
          by_cases h8 : cd = 8
          · have h81 : (cd == 8) = true := beq_iff_eq.mpr h8
            have h82 : (cd != 8) = false := bne_eq_false_iff_eq.mpr h8
            have H8 := Aside0.mk h8
            clear h8
            go_wp2_with ((with_reducible refine gate_builtin (b := .append) (xs := #[.tmp 41, .tmp 43]) rfl ?_); at_builtin; refine Kd.R_append k52 (w0 := W2) W.heap.size rfl (.tmp 41) (.tmp 43) 42 52 (.agg #[(.int .i64 0), (.string ⟨#[]⟩)]) 24 rfl Try.underlying42 info52 rfl (by decide) (by omega) vo os (⟨cd, s ++ t⟩ : S52) [.int .i64 cd, .string (s ++ t)] (fun k => True ∧ some k ≠ u6.ownBlock) (fun _ => False) rfl rfl (k52_mkM _ _ _ (⟨cd, s ++ t⟩ : S52)) (fun _ hk => hk.elim) F6.out O2.out (Below.refl _ _) SZ.out (by omega) ?_; intro v1 w3 ho hb hg hat; obtain ⟨A1, c1, e1⟩ := Kd.R_slice ho; rw [show (os ++ [(⟨cd, s ++ t⟩ : S52)]).length = os.length + 1 from by simp] at e1; subst e1; have O3 := Aside0.mk ho; have G3 := Aside0.mk (blk_grown G2.out hg NG.out); have B83 := Aside0.mk (blk_grown B8.out hg NX.out); have V3 := Aside0.mk (Kd.R_after V2.out hg hat); have HB3 := Aside0.mk hb; clear ho hb hg hat c25 c80 c81 O2 G2 B8 V2; have c25 : w3.cell? ⟨g, 5, none⟩ = some vo := (blk_cell G3.out 5).trans rfl; have f25 : w3.frozen? ⟨g, 5, none⟩ = false := blk_frozen G3.out 5; have n8 : x ≠ g := fun e => N8.out e.symm; have c80 : w3.cell? ⟨x, 0, none⟩ = some (.int .i64 cd) := (blk_cell B83.out 0).trans rfl; have c81 : w3.cell? ⟨x, 1, none⟩ = some (.string (s ++ t)) := (blk_cell B83.out 1).trans rfl)
            have G4 := Aside0.mk (blk_put G3.out 5 (.slice A1 (os.length + 1) c1) (cs' := #[.int .i64 700, .int .i64 0, .int .i64 0, .bool false, .int .i64 0, .slice A1 (os.length + 1) c1]) rfl); have O4 := Aside0.mk (Kd.R_set O3.out G3.out ne44 5 (.slice A1 (os.length + 1) c1)); have V4 := Aside0.mk (Kd.R_set V3.out G3.out ne44 5 (.slice A1 (os.length + 1) c1)); have S4 : Aside0 (W.heap.size ≤ (w3.setCell ⟨g, 5, none⟩ (.slice A1 (os.length + 1) c1)).heap.size) := ⟨by have h1 := SZ.out; have h2 := HB3.out.size; simp [World.setCell]; omega⟩; have HB4 : Aside0 (Below g W (w3.setCell ⟨g, 5, none⟩ (.slice A1 (os.length + 1) c1))) := ⟨((HT.out.trans (below_lower H2.out (by have := HT.out.size; have := WS.out; omega))).trans (below_lower HB3.out (Nat.le_of_lt WS.out))).setCell (p := ⟨g, 5, none⟩) (Nat.le_refl g) _⟩
            have HF : Aside0 ((os ++ [(⟨cd, s ++ t⟩ : S52)]).filter notE = os.filter notE) := ⟨by simp [notE, isE, H8.out]⟩
            clear c25 f25 c80 c81 n8
            go_roundw
            case rel => exact ⟨i + 1, _, os ++ [(⟨cd, s ++ t⟩ : S52)], by go_num, by omega, by omega, ⟨by rw [List.length_append, HL.out]; rfl⟩, G4, O4, by rw [HF.out]; exact V4, HB4⟩
            case measure => simp [intOf]; omega
          · have h81 : (cd == 8) = false := beq_eq_false_iff_ne.mpr h8
            have h82 : (cd != 8) = true := bne_iff_ne.mpr h8
            have HF : Aside0 ((os ++ [(⟨cd, s ++ t⟩ : S52)]).filter notE = os.filter notE ++ [(⟨cd, s ++ t⟩ : S52)]) := ⟨by simp [notE, isE, h8]⟩
            clear h8
            go_wp2_with (first | ((with_reducible refine gate_builtin (b := .append) (xs := #[.tmp 41, .tmp 43]) rfl ?_); at_builtin; refine Kd.R_append k52 (w0 := W2) W.heap.size rfl (.tmp 41) (.tmp 43) 42 52 (.agg #[(.int .i64 0), (.string ⟨#[]⟩)]) 24 rfl Try.underlying42 info52 rfl (by decide) (by omega) vo os (⟨cd, s ++ t⟩ : S52) [.int .i64 cd, .string (s ++ t)] (fun k => True ∧ some k ≠ u6.ownBlock) (fun _ => False) rfl rfl (k52_mkM _ _ _ (⟨cd, s ++ t⟩ : S52)) (fun _ hk => hk.elim) F6.out O2.out (Below.refl _ _) SZ.out (by omega) ?_; intro v1 w3 ho hb hg hat; obtain ⟨A1, c1, e1⟩ := Kd.R_slice ho; rw [show (os ++ [(⟨cd, s ++ t⟩ : S52)]).length = os.length + 1 from by simp] at e1; subst e1; have O3 := Aside0.mk ho; have G3 := Aside0.mk (blk_grown G2.out hg NG.out); have B83 := Aside0.mk (blk_grown B8.out hg NX.out); have V3 := Aside0.mk (Kd.R_after V2.out hg hat); have HB3 := Aside0.mk hb; clear ho hb hg hat c25 c80 c81 O2 G2 B8 V2; have c25 : w3.cell? ⟨g, 5, none⟩ = some vo := (blk_cell G3.out 5).trans rfl; have f25 : w3.frozen? ⟨g, 5, none⟩ = false := blk_frozen G3.out 5; have n8 : x ≠ g := fun e => N8.out e.symm; have c80 : w3.cell? ⟨x, 0, none⟩ = some (.int .i64 cd) := (blk_cell B83.out 0).trans rfl; have c81 : w3.cell? ⟨x, 1, none⟩ = some (.string (s ++ t)) := (blk_cell B83.out 1).trans rfl) | ((with_reducible refine gate_builtin (b := .append) (xs := #[.tmp 49, .tmp 51]) rfl ?_); at_builtin; have G4 := Aside0.mk (blk_put G3.out 5 (.slice A1 (os.length + 1) c1) (cs' := #[.int .i64 700, .int .i64 0, .int .i64 0, .bool false, .int .i64 0, .slice A1 (os.length + 1) c1]) rfl); have O4 := Aside0.mk (Kd.R_set O3.out G3.out ne44 5 (.slice A1 (os.length + 1) c1)); have V4 := Aside0.mk (Kd.R_set V3.out G3.out ne44 5 (.slice A1 (os.length + 1) c1)); have S4 : Aside0 (W.heap.size ≤ (w3.setCell ⟨g, 5, none⟩ (.slice A1 (os.length + 1) c1)).heap.size) := ⟨by have h1 := SZ.out; have h2 := HB3.out.size; simp [World.setCell]; omega⟩; have HB4 : Aside0 (Below g W (w3.setCell ⟨g, 5, none⟩ (.slice A1 (os.length + 1) c1))) := ⟨((HT.out.trans (below_lower H2.out (by have := HT.out.size; have := WS.out; omega))).trans (below_lower HB3.out (Nat.le_of_lt WS.out))).setCell (p := ⟨g, 5, none⟩) (Nat.le_refl g) _⟩; refine Kd.R_append k52 (w0 := w3.setCell ⟨g, 5, none⟩ (.slice A1 (os.length + 1) c1)) W.heap.size rfl (.tmp 49) (.tmp 51) 42 52 (.agg #[(.int .i64 0), (.string ⟨#[]⟩)]) 24 rfl Try.underlying42 info52 rfl (by decide) (by omega) u6 (os.filter notE) (⟨cd, s ++ t⟩ : S52) [.int .i64 cd, .string (s ++ t)] (fun k => True ∧ some k ≠ (Value.slice A1 (os.length + 1) c1).ownBlock) (fun _ => False) rfl (by rw [show (w3.setCell ⟨g, 5, none⟩ (.slice A1 (os.length + 1) c1)).heap.size = w3.heap.size from by simp [World.setCell]]; rfl) (k52_mkM _ _ _ (⟨cd, s ++ t⟩ : S52)) (fun _ hk => hk.elim) (fun k hk => ⟨trivial, fun e => by have := Kd.R_lt O4.out k e.symm; omega⟩) V4.out (Below.refl _ _) S4.out (by omega) ?_; intro v5 w5 ho hb hg hat; obtain ⟨A5, c5, e5⟩ := Kd.R_slice ho; rw [show (os.filter notE ++ [(⟨cd, s ++ t⟩ : S52)]).length = (os.filter notE).length + 1 from by simp] at e5; subst e5; have V5 := Aside0.mk ho; have O5 := Aside0.mk (Kd.R_after O4.out hg hat); have G5 := Aside0.mk (blk_grown G4.out hg NU.out); have HB5 := Aside0.mk (HB4.out.trans (below_lower hb (Nat.le_of_lt WS.out))); clear ho hb hg hat c25 c80 c81 f25 O4 V4 S4 G4 HB4))
            go_roundw
            case rel => exact ⟨i + 1, _, os ++ [(⟨cd, s ++ t⟩ : S52)], by go_num, by omega, by omega, ⟨by rw [List.length_append, HL.out]; rfl⟩, G5, O5, by rw [HF.out]; exact V5, HB5⟩
            case measure => simp [intOf]; omega
    rcases hcase with ⟨hlt, h40⟩ | hlt
    · have hd1 : decide ((i : Int) < (xs.length : Int)) = true := decide_eq_true (by omega)
      have hd2 : decide (i < xs.length) = true := decide_eq_true hlt
      have hd3 : decide ((i : Int) < 40) = false := decide_eq_false (by omega)
      have hd4 : decide (i < 40) = false := decide_eq_false (by omega)
      clear h40
      obtain ⟨A3, c3, rfl, hl3, hC3⟩ := Kd.R_reads HO.out
      obtain ⟨A6, c6, rfl, hl6, hC6⟩ := Kd.R_reads HW.out
      have C3 := Aside0.mk hC3
      have C6 := Aside0.mk hC6
      have c10 : wr.cell? ⟨g, 0, none⟩ = some (.int .i64 700) := (blk_cell HG.out 0).trans rfl
      have c11 : wr.cell? ⟨g, 1, none⟩ = some (.int .i64 0) := (blk_cell HG.out 1).trans rfl
      have c12 : wr.cell? ⟨g, 2, none⟩ = some (.int .i64 0) := (blk_cell HG.out 2).trans rfl
      have c13 : wr.cell? ⟨g, 3, none⟩ = some (.bool false) := (blk_cell HG.out 3).trans rfl
      have c14 : wr.cell? ⟨g, 4, none⟩ = some (.int .i64 0) := (blk_cell HG.out 4).trans rfl
      have c15 : wr.cell? ⟨g, 5, none⟩ = some (.slice A3 os.length c3) := (blk_cell HG.out 5).trans rfl
      have hos : os.length ≤ 40 := by have := HL.out; omega
      clear hC3 hC6 HO HW
      go_wp2_with fail
      refine (Strip_calls wr 700 0 0 false 0 A3 c3 os C3.out (by omega)).mono ?_
      rintro e w2 ⟨v, rfl, ho, hb⟩
      obtain ⟨A2, c2, rfl, hl2, hC2⟩ := OwnR_C ho
      have HB2 := Aside0.mk hb
      have CC2 := Aside0.mk hC2
      have G2 := Aside0.mk (blk_below HG.out hb)
      have D3 := Aside0.mk (Kd.C_below C3.out hb)
      have D6 := Aside0.mk (Kd.C_below C6.out hb)
      clear hb ho hC2 c10 c11 c12 c13 c14 c15 C3 C6 HG
      simp only
      go_wp2_with fail
      generalize hY : w2.alloc _ = Y
      have EY : Aside0 (Below w2.heap.size w2 Y) := ⟨by rw [← hY]; exact below_alloc (Below.refl _ _) _⟩
      have q1 : Y.heap[w2.heap.size]? = some (.cells #[.int .i64 700, .int .i64 0, .int .i64 0, .bool false, .int .i64 0, .slice A2 (os.filter notE).length c2] 44 (0, 0)) := by rw [← hY]; exact blk_new w2 _
      have r1 := blk_below G2.out EY.out
      have c10 : Y.cell? ⟨g, 0, none⟩ = some (.int .i64 700) := (blk_cell r1 0).trans rfl
      have c11 : Y.cell? ⟨g, 1, none⟩ = some (.int .i64 0) := (blk_cell r1 1).trans rfl
      have c12 : Y.cell? ⟨g, 2, none⟩ = some (.int .i64 0) := (blk_cell r1 2).trans rfl
      have c13 : Y.cell? ⟨g, 3, none⟩ = some (.bool false) := (blk_cell r1 3).trans rfl
      have c14 : Y.cell? ⟨g, 4, none⟩ = some (.int .i64 0) := (blk_cell r1 4).trans rfl
      have c15 : Y.cell? ⟨g, 5, none⟩ = some (.slice A3 os.length c3) := (blk_cell r1 5).trans rfl
      have c30 : Y.cell? ⟨w2.heap.size, 0, none⟩ = some (.int .i64 700) := (blk_cell q1 0).trans rfl
      have c31 : Y.cell? ⟨w2.heap.size, 1, none⟩ = some (.int .i64 0) := (blk_cell q1 1).trans rfl
      have c32 : Y.cell? ⟨w2.heap.size, 2, none⟩ = some (.int .i64 0) := (blk_cell q1 2).trans rfl
      have c33 : Y.cell? ⟨w2.heap.size, 3, none⟩ = some (.bool false) := (blk_cell q1 3).trans rfl
      have c34 : Y.cell? ⟨w2.heap.size, 4, none⟩ = some (.int .i64 0) := (blk_cell q1 4).trans rfl
      have c35 : Y.cell? ⟨w2.heap.size, 5, none⟩ = some (.slice A2 (os.filter notE).length c2) := (blk_cell q1 5).trans rfl
      have F2 := Aside0.mk (Kd.C_below CC2.out EY.out)
      have F3 := Aside0.mk (Kd.C_below D3.out EY.out)
      have F6 := Aside0.mk (Kd.C_below D6.out EY.out)
      have BY : Aside0 (Below g W Y) := ⟨(HT.out.trans (below_lower HB2.out (by have := HT.out.size; have := WS.out; omega))).trans (below_lower EY.out (by have := HB2.out.size; have := HT.out.size; have := WS.out; omega))⟩
      have R0 := Aside0.mk (Below.refl Y.heap.size Y)
      clear hY q1 r1 HB2 CC2 G2 D3 D6
      have hless : decide (((os.filter notE).length : Int) < (os.length : Int)) = os.any isE := (has_less os).symm
      have hless2 : decide ((os.filter notE).length < os.length) = os.any isE := by rw [← hless]; simp
      have hlen : (os.filter notE).length ≤ os.length := List.length_filter_le _ _
      have hnone : (os.filter notE).any isE = false := strip_none os
      generalize os.filter notE = ys at *
      rcases hany : os.any isE with _ | _ <;> rw [hany] at hless hless2 <;> go_region_held3 (fun w' => w'.cell? ⟨g, 0, none⟩ = some (.int .i64 700) ∧ w'.cell? ⟨g, 1, none⟩ = some (.int .i64 0) ∧ w'.cell? ⟨g, 2, none⟩ = some (.int .i64 0) ∧ w'.cell? ⟨g, 3, none⟩ = some (.bool false) ∧ w'.cell? ⟨g, 4, none⟩ = some (.int .i64 0) ∧ w'.cell? ⟨g, 5, none⟩ = some (.slice A3 os.length c3) ∧ w'.cell? ⟨w2.heap.size, 0, none⟩ = some (.int .i64 700) ∧ w'.cell? ⟨w2.heap.size, 1, none⟩ = some (.int .i64 0) ∧ w'.cell? ⟨w2.heap.size, 2, none⟩ = some (.int .i64 0) ∧ w'.cell? ⟨w2.heap.size, 3, none⟩ = some (.bool false) ∧ w'.cell? ⟨w2.heap.size, 4, none⟩ = some (.int .i64 0) ∧ w'.cell? ⟨w2.heap.size, 5, none⟩ = some (.slice A2 ys.length c2) ∧ Aside0 (Below Y.heap.size Y w'))
        (first
          | ((try dsimp only); (repeat' apply And.intro) <;> (first | exact drew_cell (by assumption) | exact aside_drew (by assumption)))
          | ((try dsimp only at *); go_split_ands; (repeat' apply And.intro) <;> (first | exact pw_cell_below hb (by assumption) | exact aside_then (by assumption) hb)))
        (first
          | (go_at_call 36; refine (wimplelaw0_SameOptions.calls (ys.length + 1) A2 c2 ys A6 c6 ys true _ (Kd.C_below F2.out (Aside0.out (by (try dsimp only at *); go_split_ands; assumption))) hl2 (Kd.C_below F6.out (Aside0.out (by (try dsimp only at *); go_split_ands; assumption))) hl6 (sameO_self ys (by omega))).mono ?_; rintro e w7 ⟨rfl, hd⟩; have hb := hd.below)
          | (go_at_call 33; refine (Has_calls _ 700 0 0 false 0 A3 c3 os (Kd.C_below F3.out (Aside0.out (by (try dsimp only at *); go_split_ands; assumption))) hl3).mono ?_; rintro e w7 ⟨rfl, hb⟩; rw [hany])
          | (go_at_call 33; refine (Has_calls _ 700 0 0 false 0 A2 c2 ys (Kd.C_below F2.out (Aside0.out (by (try dsimp only at *); go_split_ands; assumption))) hl2).mono ?_; rintro e w7 ⟨rfl, hb⟩; rw [hnone])
          | (go_at_call 21; refine (Num_bel _ _).mono ?_; rintro e w7 ⟨rfl, hb⟩))
      all_goals
        have BH : Aside0 (Below Y.heap.size Y w7) := by (try dsimp only at *); go_split_ands; assumption
        simp only [Exit.then]
        go_wp2_with fail
        go_ret
        exact ⟨rfl, (TW.out.trans (below_lower BY.out LW.out)).trans (below_lower BH.out (by have := LW.out; have := WS.out; have := BY.out.size; omega))⟩
    · have hd1 : decide ((i : Int) < (xs.length : Int)) = false := decide_eq_false (by omega)
      have hd2 : decide (i < xs.length) = false := decide_eq_false (by omega)
      obtain ⟨A3, c3, rfl, hl3, hC3⟩ := Kd.R_reads HO.out
      obtain ⟨A6, c6, rfl, hl6, hC6⟩ := Kd.R_reads HW.out
      have C3 := Aside0.mk hC3
      have C6 := Aside0.mk hC6
      have c10 : wr.cell? ⟨g, 0, none⟩ = some (.int .i64 700) := (blk_cell HG.out 0).trans rfl
      have c11 : wr.cell? ⟨g, 1, none⟩ = some (.int .i64 0) := (blk_cell HG.out 1).trans rfl
      have c12 : wr.cell? ⟨g, 2, none⟩ = some (.int .i64 0) := (blk_cell HG.out 2).trans rfl
      have c13 : wr.cell? ⟨g, 3, none⟩ = some (.bool false) := (blk_cell HG.out 3).trans rfl
      have c14 : wr.cell? ⟨g, 4, none⟩ = some (.int .i64 0) := (blk_cell HG.out 4).trans rfl
      have c15 : wr.cell? ⟨g, 5, none⟩ = some (.slice A3 os.length c3) := (blk_cell HG.out 5).trans rfl
      have hos : os.length ≤ 40 := by have := HL.out; omega
      clear hC3 hC6 HO HW
      go_wp2_with fail
      refine (Strip_calls wr 700 0 0 false 0 A3 c3 os C3.out (by omega)).mono ?_
      rintro e w2 ⟨v, rfl, ho, hb⟩
      obtain ⟨A2, c2, rfl, hl2, hC2⟩ := OwnR_C ho
      have HB2 := Aside0.mk hb
      have CC2 := Aside0.mk hC2
      have G2 := Aside0.mk (blk_below HG.out hb)
      have D3 := Aside0.mk (Kd.C_below C3.out hb)
      have D6 := Aside0.mk (Kd.C_below C6.out hb)
      clear hb ho hC2 c10 c11 c12 c13 c14 c15 C3 C6 HG
      simp only
      go_wp2_with fail
      generalize hY : w2.alloc _ = Y
      have EY : Aside0 (Below w2.heap.size w2 Y) := ⟨by rw [← hY]; exact below_alloc (Below.refl _ _) _⟩
      have q1 : Y.heap[w2.heap.size]? = some (.cells #[.int .i64 700, .int .i64 0, .int .i64 0, .bool false, .int .i64 0, .slice A2 (os.filter notE).length c2] 44 (0, 0)) := by rw [← hY]; exact blk_new w2 _
      have r1 := blk_below G2.out EY.out
      have c10 : Y.cell? ⟨g, 0, none⟩ = some (.int .i64 700) := (blk_cell r1 0).trans rfl
      have c11 : Y.cell? ⟨g, 1, none⟩ = some (.int .i64 0) := (blk_cell r1 1).trans rfl
      have c12 : Y.cell? ⟨g, 2, none⟩ = some (.int .i64 0) := (blk_cell r1 2).trans rfl
      have c13 : Y.cell? ⟨g, 3, none⟩ = some (.bool false) := (blk_cell r1 3).trans rfl
      have c14 : Y.cell? ⟨g, 4, none⟩ = some (.int .i64 0) := (blk_cell r1 4).trans rfl
      have c15 : Y.cell? ⟨g, 5, none⟩ = some (.slice A3 os.length c3) := (blk_cell r1 5).trans rfl
      have c30 : Y.cell? ⟨w2.heap.size, 0, none⟩ = some (.int .i64 700) := (blk_cell q1 0).trans rfl
      have c31 : Y.cell? ⟨w2.heap.size, 1, none⟩ = some (.int .i64 0) := (blk_cell q1 1).trans rfl
      have c32 : Y.cell? ⟨w2.heap.size, 2, none⟩ = some (.int .i64 0) := (blk_cell q1 2).trans rfl
      have c33 : Y.cell? ⟨w2.heap.size, 3, none⟩ = some (.bool false) := (blk_cell q1 3).trans rfl
      have c34 : Y.cell? ⟨w2.heap.size, 4, none⟩ = some (.int .i64 0) := (blk_cell q1 4).trans rfl
      have c35 : Y.cell? ⟨w2.heap.size, 5, none⟩ = some (.slice A2 (os.filter notE).length c2) := (blk_cell q1 5).trans rfl
      have F2 := Aside0.mk (Kd.C_below CC2.out EY.out)
      have F3 := Aside0.mk (Kd.C_below D3.out EY.out)
      have F6 := Aside0.mk (Kd.C_below D6.out EY.out)
      have BY : Aside0 (Below g W Y) := ⟨(HT.out.trans (below_lower HB2.out (by have := HT.out.size; have := WS.out; omega))).trans (below_lower EY.out (by have := HB2.out.size; have := HT.out.size; have := WS.out; omega))⟩
      have R0 := Aside0.mk (Below.refl Y.heap.size Y)
      clear hY q1 r1 HB2 CC2 G2 D3 D6
      have hless : decide (((os.filter notE).length : Int) < (os.length : Int)) = os.any isE := (has_less os).symm
      have hless2 : decide ((os.filter notE).length < os.length) = os.any isE := by rw [← hless]; simp
      have hlen : (os.filter notE).length ≤ os.length := List.length_filter_le _ _
      have hnone : (os.filter notE).any isE = false := strip_none os
      generalize os.filter notE = ys at *
      rcases hany : os.any isE with _ | _ <;> rw [hany] at hless hless2 <;> go_region_held3 (fun w' => w'.cell? ⟨g, 0, none⟩ = some (.int .i64 700) ∧ w'.cell? ⟨g, 1, none⟩ = some (.int .i64 0) ∧ w'.cell? ⟨g, 2, none⟩ = some (.int .i64 0) ∧ w'.cell? ⟨g, 3, none⟩ = some (.bool false) ∧ w'.cell? ⟨g, 4, none⟩ = some (.int .i64 0) ∧ w'.cell? ⟨g, 5, none⟩ = some (.slice A3 os.length c3) ∧ w'.cell? ⟨w2.heap.size, 0, none⟩ = some (.int .i64 700) ∧ w'.cell? ⟨w2.heap.size, 1, none⟩ = some (.int .i64 0) ∧ w'.cell? ⟨w2.heap.size, 2, none⟩ = some (.int .i64 0) ∧ w'.cell? ⟨w2.heap.size, 3, none⟩ = some (.bool false) ∧ w'.cell? ⟨w2.heap.size, 4, none⟩ = some (.int .i64 0) ∧ w'.cell? ⟨w2.heap.size, 5, none⟩ = some (.slice A2 ys.length c2) ∧ Aside0 (Below Y.heap.size Y w'))
        (first
          | ((try dsimp only); (repeat' apply And.intro) <;> (first | exact drew_cell (by assumption) | exact aside_drew (by assumption)))
          | ((try dsimp only at *); go_split_ands; (repeat' apply And.intro) <;> (first | exact pw_cell_below hb (by assumption) | exact aside_then (by assumption) hb)))
        (first
          | (go_at_call 36; refine (wimplelaw0_SameOptions.calls (ys.length + 1) A2 c2 ys A6 c6 ys true _ (Kd.C_below F2.out (Aside0.out (by (try dsimp only at *); go_split_ands; assumption))) hl2 (Kd.C_below F6.out (Aside0.out (by (try dsimp only at *); go_split_ands; assumption))) hl6 (sameO_self ys (by omega))).mono ?_; rintro e w7 ⟨rfl, hd⟩; have hb := hd.below)
          | (go_at_call 33; refine (Has_calls _ 700 0 0 false 0 A3 c3 os (Kd.C_below F3.out (Aside0.out (by (try dsimp only at *); go_split_ands; assumption))) hl3).mono ?_; rintro e w7 ⟨rfl, hb⟩; rw [hany])
          | (go_at_call 33; refine (Has_calls _ 700 0 0 false 0 A2 c2 ys (Kd.C_below F2.out (Aside0.out (by (try dsimp only at *); go_split_ands; assumption))) hl2).mono ?_; rintro e w7 ⟨rfl, hb⟩; rw [hnone])
          | (go_at_call 21; refine (Num_bel _ _).mono ?_; rintro e w7 ⟨rfl, hb⟩))
      all_goals
        have BH : Aside0 (Below Y.heap.size Y w7) := by (try dsimp only at *); go_split_ands; assumption
        simp only [Exit.then]
        go_wp2_with fail
        go_ret
        exact ⟨rfl, (TW.out.trans (below_lower BY.out LW.out)).trans (below_lower BH.out (by have := LW.out; have := WS.out; have := BY.out.size; omega))⟩
end Go.Proofs.Ytjmdfhbenejfgaa.M
