/- StripTwice. -/
import Derived.Test.YtjmdfhbenejfgaaHEcs3
set_option linter.unusedVariables false
set_option linter.unusedSimpArgs false
namespace Go.Proofs.Ytjmdfhbenejfgaa.M
open Go Go.RowKit Go.Proofs.YtjmdfhbenejfgaaW.PrintWords Go.Proofs.YtjmdfhbenejfgaaW.PrintLast Go.Proofs.YtjmdfhbenejfgaaW.PrintMore Go.Proofs.Ytjmdfhbenejfgaa.P
attribute [local go_sem high] eqA52

theorem sameO_l0 (zs : List S52) (hl : zs.length < 17592186044416) : ∀ (m i : Nat), zs.length - i < m → wimplelaw0_SameOptions.l0 m zs zs (i : Int) = some true
  | 0, _, h => absurd h (by omega)
  | m + 1, i, h => by
    unfold wimplelaw0_SameOptions.l0
    by_cases hi : (i : Int) < (zs.length : Int)
    · rw [if_pos hi, if_pos (by omega), if_pos hi, if_neg (by simp), show wrap64 ((i : Int) + 1) = ((i + 1 : Nat) : Int) from by rw [w64 _ (by omega)]; omega]
      exact sameO_l0 zs hl m (i + 1) (by omega)
    · rw [if_neg hi]
theorem sameO_self (zs : List S52) (hl : zs.length < 17592186044416) : wimplelaw0_SameOptions.f (zs.length + 1) zs zs = some true := by
  unfold wimplelaw0_SameOptions.f
  rw [if_pos rfl]
  exact sameO_l0 zs hl _ 0 (by omega)
theorem sameOpt_self (f0 f1 f2 : Int) (f3 : Bool) (f4 : Int) (zs : List S52) (hl : zs.length < 17592186044416) : wimplelaw0_SameOpt.f (zs.length + 1) f0 f1 f2 f3 f4 zs f0 f1 f2 f3 f4 zs = some true := by
  unfold wimplelaw0_SameOpt.f
  rw [if_pos rfl, if_pos rfl, if_pos rfl, if_pos (by simp), if_pos rfl, sameO_self zs hl]
  rfl
theorem filter_twice (xs : List S52) : (xs.filter notE).filter notE = xs.filter notE := by simp [List.filter_filter]
theorem filter_at {xs : List S52} {i : Nat} (hi : i < xs.length) (h : isE xs[i] = false) : (xs.filter notE)[((xs.take i).filter notE).length]? = some xs[i] := by
  have e : xs = xs.take i ++ (xs[i] :: xs.drop (i + 1)) := by rw [← List.drop_eq_getElem_cons hi, List.take_append_drop]
  have e2 : xs.filter notE = (xs.take i).filter notE ++ (xs[i] :: (xs.drop (i + 1)).filter notE) := by
    conv => lhs; rw [e]
    rw [List.filter_append, List.filter_cons, if_pos (by simp [notE, h])]
  rw [e2, List.getElem?_append_right (Nat.le_refl _), Nat.sub_self]
  rfl

set_option maxHeartbeats 8000000 in
set_option maxRecDepth 100000 in
theorem twice_walk (w : World) (f0 f1 f2 : Int) (f3 : Bool) (f4 : Int) (A : Option Addr) (c : Nat) (xs : List S52) (h : Kd.C k52 w A xs.length xs) (hc : xs.length ≤ c) (hl : xs.length < 5864062014805) : Calls Try.prog 7 #[.agg #[.int .i64 f0, .int .i64 f1, .int .i64 f2, .bool f3, .int .i64 f4, .slice A xs.length c]] w fun e w' => e = .returned (.bool true) ∧ Below w.heap.size w w' := by
  have HZ := Aside0.mk h
  clear h
  go_enter Try.func7, Try.ntmps7
  go_wp2_with fail
  generalize hW : w.alloc _ = W
  have TW : Aside0 (Below w.heap.size w W) := ⟨by rw [← hW]; exact below_alloc (Below.refl w.heap.size w) _⟩
  have b1 : W.heap[w.heap.size]? = some (.cells #[.int .i64 f0, .int .i64 f1, .int .i64 f2, .bool f3, .int .i64 f4, .slice A xs.length c] 44 (0, 0)) := by rw [← hW]; exact blk_new w _
  have B1 := Aside0.mk b1
  have Z1 := Aside0.mk (Kd.C_below HZ.out TW.out)
  clear hW b1 HZ
  refine (awake9_walk W).mono ?_
  rintro e w1 ⟨rfl, hb⟩
  have T1 := Aside0.mk (below_then TW.out TW.out.size hb)
  have d1 := blk_below B1.out hb
  have D1 := Aside0.mk d1
  have Z2 := Aside0.mk (Kd.C_below Z1.out hb)
  have c10 : w1.cell? ⟨w.heap.size, 0, none⟩ = some (.int .i64 f0) := (blk_cell d1 0).trans rfl
  have c11 : w1.cell? ⟨w.heap.size, 1, none⟩ = some (.int .i64 f1) := (blk_cell d1 1).trans rfl
  have c12 : w1.cell? ⟨w.heap.size, 2, none⟩ = some (.int .i64 f2) := (blk_cell d1 2).trans rfl
  have c13 : w1.cell? ⟨w.heap.size, 3, none⟩ = some (.bool f3) := (blk_cell d1 3).trans rfl
  have c14 : w1.cell? ⟨w.heap.size, 4, none⟩ = some (.int .i64 f4) := (blk_cell d1 4).trans rfl
  have c15 : w1.cell? ⟨w.heap.size, 5, none⟩ = some (.slice A xs.length c) := (blk_cell d1 5).trans rfl
  clear hb d1 B1 Z1 TW
  simp only
  go_wp2_with fail
  refine (Strip_calls w1 f0 f1 f2 f3 f4 A c xs Z2.out hl).mono ?_
  rintro e w2 ⟨v, rfl, ho, hb⟩
  obtain ⟨A2, c2, rfl, hl2, hC2⟩ := OwnR_C ho
  have T2 := Aside0.mk (below_then T1.out T1.out.size hb)
  have D2 := Aside0.mk (blk_below D1.out hb)
  have Z3 := Aside0.mk (Kd.C_below Z2.out hb)
  have Y2 := Aside0.mk hC2
  clear hb ho hC2 D1 Z2 T1 c10 c11 c12 c13 c14 c15
  simp only
  go_wp2_with fail
  generalize hW2 : w2.alloc _ = W2
  have E2 : Aside0 (Below w2.heap.size w2 W2) := ⟨by rw [← hW2]; exact below_alloc (Below.refl _ _) _⟩
  have q2 : W2.heap[w2.heap.size]? = some (.cells #[.int .i64 f0, .int .i64 f1, .int .i64 f2, .bool f3, .int .i64 f4, .slice A2 (xs.filter notE).length c2] 44 (0, 0)) := by rw [← hW2]; exact blk_new w2 _
  have Q2 := Aside0.mk q2
  have D3 := Aside0.mk (blk_below D2.out E2.out)
  have Z4 := Aside0.mk (Kd.C_below Z3.out E2.out)
  have Y3 := Aside0.mk (Kd.C_below Y2.out E2.out)
  have T3 := Aside0.mk (below_then T2.out T2.out.size E2.out)
  have hlen : (xs.filter notE).length ≤ xs.length := List.length_filter_le _ _
  clear hW2 q2 D2 Z3 Y2 T2
  refine (Strip_calls W2 f0 f1 f2 f3 f4 A2 c2 (xs.filter notE) Y3.out (by omega)).mono ?_
  rintro e w3 ⟨v, rfl, ho, hb⟩
  rw [filter_twice] at ho
  obtain ⟨A3, c3, rfl, hl3, hC3⟩ := OwnR_C ho
  have T4 := Aside0.mk (below_then T3.out T3.out.size hb)
  have D4 := Aside0.mk (blk_below D3.out hb)
  have Q4 := Aside0.mk (blk_below Q2.out hb)
  have Z5 := Aside0.mk (Kd.C_below Z4.out hb)
  have Y5 := Aside0.mk (Kd.C_below Y3.out hb)
  have X5 := Aside0.mk hC3
  clear hb ho hC3 D3 Q2 Z4 Y3 T3
  simp only
  go_wp2_with fail
  generalize hW3 : w3.alloc _ = W3
  have E3 : Aside0 (Below w3.heap.size w3 W3) := ⟨by rw [← hW3]; exact below_alloc (Below.refl _ _) _⟩
  have q3 : W3.heap[w3.heap.size]? = some (.cells #[.int .i64 f0, .int .i64 f1, .int .i64 f2, .bool f3, .int .i64 f4, .slice A3 (xs.filter notE).length c3] 44 (0, 0)) := by rw [← hW3]; exact blk_new w3 _
  have P3 := Aside0.mk q3
  have D5 := Aside0.mk (blk_below D4.out E3.out)
  have Q5 := Aside0.mk (blk_below Q4.out E3.out)
  have Z6 := Aside0.mk (Kd.C_below Z5.out E3.out)
  have Y6 := Aside0.mk (Kd.C_below Y5.out E3.out)
  have X6 := Aside0.mk (Kd.C_below X5.out E3.out)
  have T5 := Aside0.mk (below_then T4.out T4.out.size E3.out)
  have R0 := Aside0.mk (Below.refl W3.heap.size W3)
  clear hW3 q3 D4 Q4 Z5 Y5 X5 T4 E2 E3
  go_loopw [5, 6] (fun v5 v6 wr => ∃ i : Nat, i ≤ xs.length ∧ v6 = .int .i64 i ∧ v5 = .int .i64 (((xs.take i).filter notE).length : Nat) ∧ Aside0 (Below W3.heap.size W3 wr)) (fun _ v6 _ => xs.length - (intOf v6).toNat)
  case atStart => exact ⟨0, Nat.zero_le _, rfl, rfl, R0⟩
  case round =>
    obtain ⟨i, hi, rfl, rfl, HT⟩ := hrel
    have d := blk_below D5.out HT.out
    have q := blk_below Q5.out HT.out
    have p := blk_below P3.out HT.out
    have z := Kd.C_below Z6.out HT.out
    have y := Kd.C_below Y6.out HT.out
    have x := Kd.C_below X6.out HT.out
    have c10 : wr.cell? ⟨w.heap.size, 0, none⟩ = some (.int .i64 f0) := (blk_cell d 0).trans rfl
    have c11 : wr.cell? ⟨w.heap.size, 1, none⟩ = some (.int .i64 f1) := (blk_cell d 1).trans rfl
    have c12 : wr.cell? ⟨w.heap.size, 2, none⟩ = some (.int .i64 f2) := (blk_cell d 2).trans rfl
    have c13 : wr.cell? ⟨w.heap.size, 3, none⟩ = some (.bool f3) := (blk_cell d 3).trans rfl
    have c14 : wr.cell? ⟨w.heap.size, 4, none⟩ = some (.int .i64 f4) := (blk_cell d 4).trans rfl
    have c15 : wr.cell? ⟨w.heap.size, 5, none⟩ = some (.slice A xs.length c) := (blk_cell d 5).trans rfl
    have c20 : wr.cell? ⟨w2.heap.size, 0, none⟩ = some (.int .i64 f0) := (blk_cell q 0).trans rfl
    have c21 : wr.cell? ⟨w2.heap.size, 1, none⟩ = some (.int .i64 f1) := (blk_cell q 1).trans rfl
    have c22 : wr.cell? ⟨w2.heap.size, 2, none⟩ = some (.int .i64 f2) := (blk_cell q 2).trans rfl
    have c23 : wr.cell? ⟨w2.heap.size, 3, none⟩ = some (.bool f3) := (blk_cell q 3).trans rfl
    have c24 : wr.cell? ⟨w2.heap.size, 4, none⟩ = some (.int .i64 f4) := (blk_cell q 4).trans rfl
    have c25 : wr.cell? ⟨w2.heap.size, 5, none⟩ = some (.slice A2 (xs.filter notE).length c2) := (blk_cell q 5).trans rfl
    have c30 : wr.cell? ⟨w3.heap.size, 0, none⟩ = some (.int .i64 f0) := (blk_cell p 0).trans rfl
    have c31 : wr.cell? ⟨w3.heap.size, 1, none⟩ = some (.int .i64 f1) := (blk_cell p 1).trans rfl
    have c32 : wr.cell? ⟨w3.heap.size, 2, none⟩ = some (.int .i64 f2) := (blk_cell p 2).trans rfl
    have c33 : wr.cell? ⟨w3.heap.size, 3, none⟩ = some (.bool f3) := (blk_cell p 3).trans rfl
    have c34 : wr.cell? ⟨w3.heap.size, 4, none⟩ = some (.int .i64 f4) := (blk_cell p 4).trans rfl
    have c35 : wr.cell? ⟨w3.heap.size, 5, none⟩ = some (.slice A3 (xs.filter notE).length c3) := (blk_cell p 5).trans rfl
    by_cases hlt : i < xs.length
    · have hd1 : decide ((i : Int) < (xs.length : Int)) = true := decide_eq_true (by omega)
      have hd2 : decide (i < xs.length) = true := decide_eq_true hlt
      obtain ⟨ad, rfl, hc0, hc1⟩ := at_T52 z (i : Int) (by omega) (by omega)
      rw [rd_get hlt] at hc0 hc1
      simp only [Int.toNat_natCast] at hc0 hc1
      obtain ⟨p1, hp1⟩ : ∃ p1, xs[i] = p1 := ⟨_, rfl⟩
      rw [hp1] at hc0 hc1
      have HP := Aside0.mk hp1
      cases hq : isE p1 with
      | true =>
        have hz0 : p1.f0 = 8 := by simpa [isE] using hq
        have htk : ((xs.take (i + 1)).filter notE).length = ((xs.take i).filter notE).length := by rw [take_next hlt, hp1, hq]; simp
        have HK := Aside0.mk htk
        rw [hz0] at hc0
        clear d q p z y x htk hp1
        go_wp2_with fail
        go_roundw
        case rel => exact ⟨i + 1, by omega, by go_num, by rw [HK.out], HT⟩
        case measure => simp [intOf]; omega
      | false =>
        have hz0 : (p1.f0 == 8) = false := hq
        have hz1 : decide (p1.f0 = 8) = false := decide_eq_false (by simpa using hz0)
        have htk : ((xs.take (i + 1)).filter notE).length = ((xs.take i).filter notE).length + 1 := by rw [take_next hlt, hp1, hq]; simp
        have hat := filter_at hlt (by rw [hp1]; exact hq)
        rw [hp1] at hat
        obtain ⟨k, hk⟩ : ∃ k, ((xs.take i).filter notE).length = k := ⟨_, rfl⟩
        rw [hk] at hat htk ⊢
        have hkl : k < (xs.filter notE).length := (List.getElem?_eq_some_iff.1 hat).1
        have hkx : (xs.filter notE)[k] = p1 := (List.getElem?_eq_some_iff.1 hat).2
        obtain ⟨ad2, rfl, hy0, hy1⟩ := at_T52 y (k : Int) (by omega) (by omega)
        rw [rd_get hkl, hkx] at hy0 hy1
        simp only [Int.toNat_natCast] at hy0 hy1
        have HK := Aside0.mk htk
        have hk1 : decide ((k : Int) ≥ ((xs.filter notE).length : Int)) = false := decide_eq_false (by omega)
        have hk2 : decide (((xs.filter notE).length : Int) ≤ (k : Int)) = false := decide_eq_false (by omega)
        have hk3 : decide ((xs.filter notE).length ≤ k) = false := decide_eq_false (by omega)
        clear d q p z y x htk hp1 hat
        go_wp2_with fail
        repeat (go_quiet (fail); try go_wp2)
        go_roundw
        case rel => exact ⟨i + 1, by omega, by go_num, by rw [HK.out]; go_num, ⟨pw_below_drewN HT.out _⟩⟩
        case measure => simp [intOf]; omega
    · obtain rfl : i = xs.length := by omega
      have hd1 : decide ((xs.length : Int) < (xs.length : Int)) = false := decide_eq_false (by omega)
      have hd2 : decide (xs.length < xs.length) = false := decide_eq_false (by omega)
      rw [List.take_length]
      have D6 := Aside0.mk d
      have Q6 := Aside0.mk q
      have P6 := Aside0.mk p
      have T6 := Aside0.mk (below_then T5.out T5.out.size HT.out)
      have Y7 := Aside0.mk y
      have X7 := Aside0.mk x
      clear d q p z y x
      go_wp2_with fail
      refine (wimplelaw0_SameOpt.calls ((xs.filter notE).length + 1) f0 f1 f2 f3 f4 A2 c2 (xs.filter notE) f0 f1 f2 f3 f4 A3 c3 (xs.filter notE) true _ Y7.out hl2 X7.out hl3 (sameOpt_self _ _ _ _ _ _ (by omega))).mono ?_
      rintro e w7 ⟨rfl, hb⟩
      have d := blk_below D6.out hb
      have q := blk_below Q6.out hb
      have T7 := Aside0.mk (below_then T6.out T6.out.size hb)
      clear c10 c11 c12 c13 c14 c15 c20 c21 c22 c23 c24 c25 c30 c31 c32 c33 c34 c35
      have c10 : w7.cell? ⟨w.heap.size, 0, none⟩ = some (.int .i64 f0) := (blk_cell d 0).trans rfl
      have c11 : w7.cell? ⟨w.heap.size, 1, none⟩ = some (.int .i64 f1) := (blk_cell d 1).trans rfl
      have c12 : w7.cell? ⟨w.heap.size, 2, none⟩ = some (.int .i64 f2) := (blk_cell d 2).trans rfl
      have c13 : w7.cell? ⟨w.heap.size, 3, none⟩ = some (.bool f3) := (blk_cell d 3).trans rfl
      have c14 : w7.cell? ⟨w.heap.size, 4, none⟩ = some (.int .i64 f4) := (blk_cell d 4).trans rfl
      have c15 : w7.cell? ⟨w.heap.size, 5, none⟩ = some (.slice A xs.length c) := (blk_cell d 5).trans rfl
      have c20 : w7.cell? ⟨w2.heap.size, 0, none⟩ = some (.int .i64 f0) := (blk_cell q 0).trans rfl
      have c21 : w7.cell? ⟨w2.heap.size, 1, none⟩ = some (.int .i64 f1) := (blk_cell q 1).trans rfl
      have c22 : w7.cell? ⟨w2.heap.size, 2, none⟩ = some (.int .i64 f2) := (blk_cell q 2).trans rfl
      have c23 : w7.cell? ⟨w2.heap.size, 3, none⟩ = some (.bool f3) := (blk_cell q 3).trans rfl
      have c24 : w7.cell? ⟨w2.heap.size, 4, none⟩ = some (.int .i64 f4) := (blk_cell q 4).trans rfl
      have c25 : w7.cell? ⟨w2.heap.size, 5, none⟩ = some (.slice A2 (xs.filter notE).length c2) := (blk_cell q 5).trans rfl
      clear hb d q
      simp only
      go_wp2_with fail
      go_ret
      exact ⟨rfl, T7.out⟩
end Go.Proofs.Ytjmdfhbenejfgaa.M
