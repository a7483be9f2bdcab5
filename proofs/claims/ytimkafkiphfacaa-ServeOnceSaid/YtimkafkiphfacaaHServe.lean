/- Package serve: Same, the closure, ContainsFunc; Addrs' map. -/
import Derived.Outline
import Derived.Test.YtimkafkiphfacaaPx8
import Derived.Test.YtimkafkiphfacaaPx9
import Derived.Test.YtimkafkiphfacaaSRel
import Derived.Maps.Own
import Derived.Maps.OwnSet
import Derived.Maps.AppendAt
import Derived.WalkKit
import Derived.IntWalk
set_option linter.unusedVariables false
set_option linter.unusedSimpArgs false
namespace Go.Proofs.Ytimkafkiphfacaa.M
open Go Go.RowKit Go.Proofs.YtimkafkiphfacaaW.PrintWords Go.Proofs.YtimkafkiphfacaaW.PrintLast Go.Proofs.YtimkafkiphfacaaW.PrintMore Go.Proofs.Ytimkafkiphfacaa.P

theorem sameS_fold (a b : Bytes) : (!(mkB (fold a)).toList == (mkB []).toList && (mkB (fold a)).toList == (mkB (fold b)).toList) = sameS a b := by
  rw [toL, toL, toL, B_mk, B_mk, B_mk]
  cases ha : nm a with
  | none => rw [sameS_left ha, fold_none ha]; rfl
  | some x =>
    have h1 : (fold a == ([] : Bytes)) = false := by simpa using fold_ne_nil ha
    rw [h1]
    cases hb : nm b with
    | none =>
      rw [sameS_right hb, fold_none hb]
      simpa using fold_ne_nil ha
    | some y =>
      rw [sameS_some ha hb]
      by_cases h : fold a = fold b
      · simp [h, (fold_inj ha hb).1 h]
      · have h2 : ¬ (x.map fol = y.map fol) := fun e => h ((fold_inj ha hb).2 e)
        simp [h, h2]

set_option maxHeartbeats 4000000 in
set_option maxRecDepth 100000 in
theorem Same_calls (a b : ByteArray) (w : World) : Calls Try.prog 48 #[.string a, .string b] w fun e w' => e = .returned (.bool (sameS (B a) (B b))) ∧ Below w.heap.size w w' := by
  obtain ⟨ka, ha⟩ := Ev.rounds (Fold_ev a)
  obtain ⟨kb, hb⟩ := Ev.rounds (Fold_ev b)
  have hsm := sameS_fold (B a) (B b)
  obtain ⟨fa, hfa⟩ : ∃ fa, mkB (fold (B a)) = fa := ⟨_, rfl⟩
  obtain ⟨fb, hfb⟩ : ∃ fb, mkB (fold (B b)) = fb := ⟨_, rfl⟩
  rw [hfa] at ha hsm
  rw [hfb] at hb hsm
  clear hfa hfb
  rw [← hsm]
  clear hsm
  go_enter Try.func48, Try.ntmps48
  go_wp2_with fail
  refine (rel_Fold.calls ka a fa _ ha).mono ?_
  rintro e w1 ⟨rfl, hb1⟩
  have HB1 := Aside0.mk hb1
  clear hb1
  simp only
  go_wp2_with fail
  refine (rel_Fold.calls kb b fb _ hb).mono ?_
  rintro e w2 ⟨rfl, hb2⟩
  have HB2 := Aside0.mk (below_then HB1.out HB1.out.size hb2)
  clear hb2
  simp only
  by_cases h0 : fa.toList = []
  · go_wp2_with fail
    go_ret
    exact ⟨by rw [h0, show (mkB []).toList = [] from by rw [toL]; rfl]; rfl, HB2.out⟩
  · have h1 : (fa.toList == (mkB []).toList) = false := by rw [show (mkB []).toList = [] from by rw [toL]; rfl]; exact beq_eq_false_iff_ne.2 h0
    have h2 : fa.toList.isEmpty = false := by cases h : fa.toList with
      | nil => exact absurd h h0
      | cons _ _ => rfl
    go_wp2_with fail
    go_ret
    exact ⟨by rw [h1]; rfl, HB2.out⟩

/-- The closure: is a binding's host the one that is looked for? -/
def hasB (h : ByteArray) (b : S61) : Bool := sameS (B b.f1) (B h)
set_option maxHeartbeats 4000000 in
set_option maxRecDepth 100000 in
theorem clo_calls (b : S61) (h : ByteArray) (g : Nat) (w : World) (hg : w.heap[g]? = some (.cells #[.string h] 9 (0, 0))) : Calls Try.prog 47 #[.agg #[.string b.f0, .string b.f1, .int .i64 b.f2, .string b.f3, .int .i64 b.f4], .pointer (some ⟨g, 0, none⟩)] w fun e w' => e = .returned (.bool (hasB h b)) ∧ Below w.heap.size w w' := by
  have c0 : ∀ o, (w.alloc o).cell? ⟨g, 0, none⟩ = some (.string h) := fun o => (blk_cell (blk_alloc hg o) 0).trans rfl
  clear hg
  go_enter Try.func47, Try.ntmps47
  go_wp2_with fail
  refine (Same_calls b.f1 h _).mono ?_
  rintro e w1 ⟨rfl, hb1⟩
  have HB := Aside0.mk (below_then (below_alloc (Below.refl w.heap.size w) _) (below_alloc (Below.refl w.heap.size w) _).size hb1)
  clear hb1
  simp only
  go_wp2_with fail
  go_ret
  exact ⟨rfl, HB.out⟩
theorem rd61 {xs : List S61} {i : Nat} (h : i < xs.length) : rd_T61 xs (i : Int) = xs[i] := by
  simp [rd_T61, List.getD_eq_getElem?_getD, List.getElem?_eq_getElem h]

/-- What IndexFunc answers: there is none, or the first one's place. -/
def IdxPost (h : ByteArray) (xs : List S61) (w : World) (e : Ending) (w' : World) : Prop := Below w.heap.size w w' ∧ ((e = .returned (.int .i64 (-1)) ∧ ∀ i (hi : i < xs.length), hasB h xs[i] = false) ∨ ∃ k : Nat, ∃ hk : k < xs.length, e = .returned (.int .i64 k) ∧ hasB h xs[k] = true)

set_option maxHeartbeats 4000000 in
set_option maxRecDepth 100000 in
theorem Index_calls (w : World) (A : Option Addr) (c : Nat) (xs : List S61) (h : ByteArray) (g : Nat) (hx : Kd.C k61 w A xs.length xs) (hc : xs.length ≤ c) (hg : w.heap[g]? = some (.cells #[.string h] 9 (0, 0))) : Calls Try.prog 53 #[.slice A xs.length c, .func (.func 47) #[] #[.pointer (some ⟨g, 0, none⟩)]] w (IdxPost h xs w) := by
  have hmx : xs.length ≤ 9223372036854775807 := hx.2.1
  have H := Aside0.mk hx
  have HG := Aside0.mk hg
  have T0 := Aside0.mk (Below.refl w.heap.size w)
  have N0 : Aside0 (∀ i (hi : i < xs.length), i < 0 → hasB h xs[i] = false) := ⟨fun i _ h => absurd h (Nat.not_lt_zero _)⟩
  clear hx hg
  go_enter Try.func53, Try.ntmps53
  go_wp2
  go_loopw [5, 8] (fun v5 v8 wr => ∃ i : Nat, i ≤ xs.length ∧ v8 = .int .i64 i ∧ Aside0 (∀ j (hj : j < xs.length), j < i → hasB h xs[j] = false) ∧ Aside0 (Below w.heap.size w wr)) (fun _ v8 _ => xs.length - (intOf v8).toNat)
  case atStart => exact ⟨0, Nat.zero_le _, rfl, N0, T0⟩
  case round =>
    obtain ⟨i, hi, rfl, HN, HT⟩ := hrel
    by_cases hlt : i < xs.length
    · have hd1 : decide ((i : Int) < (xs.length : Int)) = true := decide_eq_true (by omega)
      have hd2 : decide (i < xs.length) = true := decide_eq_true hlt
      obtain ⟨ad, rfl, hc0, hc1, hc2, hc3, hc4⟩ := at_T61 (Kd.C_below H.out HT.out) (i : Int) (by omega) (by omega)
      rw [rd61 hlt] at hc0 hc1 hc2 hc3 hc4
      simp only [Int.toNat_natCast] at hc0 hc1 hc2 hc3 hc4
      obtain ⟨x, hx⟩ : ∃ x, xs[i] = x := ⟨_, rfl⟩
      rw [hx] at hc0 hc1 hc2 hc3 hc4
      go_wp2_with fail
      refine (clo_calls x h g _ (blk_below HG.out HT.out)).mono ?_
      rintro e w2 ⟨rfl, hb2⟩
      have T2 := Aside0.mk (below_then HT.out HT.out.size hb2)
      have HX := Aside0.mk hx
      clear hb2 hc0 hc1 hc2 hc3 hc4 hx
      simp only
      cases hq : hasB h x with
      | true =>
        go_wp2_with fail
        go_ret
        exact ⟨T2.out, .inr ⟨i, hlt, rfl, by rw [HX.out]; exact hq⟩⟩
      | false =>
        go_wp2_with fail
        go_roundw
        case rel =>
          refine ⟨i + 1, by omega, by go_num, ⟨fun j hj hji => ?_⟩, T2⟩
          by_cases e : j = i
          · subst e
            rw [HX.out]
            exact hq
          · exact HN.out j hj (by omega)
        case measure => simp [intOf]; omega
    · obtain rfl : i = xs.length := by omega
      have hd1 : decide ((xs.length : Int) < (xs.length : Int)) = false := decide_eq_false (by omega)
      have hd2 : decide (xs.length < xs.length) = false := decide_eq_false (by omega)
      go_wp2_with fail
      go_ret
      exact ⟨HT.out, .inl ⟨rfl, fun j hj => HN.out j hj hj⟩⟩

theorem any_none {h : ByteArray} {xs : List S61} (hn : ∀ i (hi : i < xs.length), hasB h xs[i] = false) : xs.any (hasB h) = false := by
  rw [List.any_eq_false]
  intro x hx
  obtain ⟨i, hi, rfl⟩ := List.mem_iff_getElem.1 hx
  simp [hn i hi]
theorem any_some {h : ByteArray} {xs : List S61} {k : Nat} (hk : k < xs.length) (ht : hasB h xs[k] = true) : xs.any (hasB h) = true := by
  rw [List.any_eq_true]
  exact ⟨_, List.getElem_mem hk, ht⟩

set_option maxHeartbeats 4000000 in
set_option maxRecDepth 100000 in
theorem Contains_calls (w : World) (A : Option Addr) (c : Nat) (xs : List S61) (h : ByteArray) (g : Nat) (hx : Kd.C k61 w A xs.length xs) (hc : xs.length ≤ c) (hg : w.heap[g]? = some (.cells #[.string h] 9 (0, 0))) : Calls Try.prog 46 #[.slice A xs.length c, .func (.func 47) #[] #[.pointer (some ⟨g, 0, none⟩)]] w fun e w' => e = .returned (.bool (xs.any (hasB h))) ∧ Below w.heap.size w w' := by
  have H := Aside0.mk hx
  have HG := Aside0.mk hg
  clear hx hg
  go_enter Try.func46, Try.ntmps46
  go_wp2_with fail
  refine (Index_calls _ A c xs h g H.out hc HG.out).mono ?_
  rintro e w2 ⟨hb, ⟨rfl, hn⟩ | ⟨k, hk, rfl, ht⟩⟩
  · have HB := Aside0.mk hb
    clear hb
    simp only
    go_wp2_with fail
    go_ret
    exact ⟨by rw [any_none hn]; rfl, HB.out⟩
  · have HB := Aside0.mk hb
    have hk0 : decide ((0 : Int) ≤ (k : Int)) = true := decide_eq_true (by omega)
    have hk1 : decide ((k : Int) ≥ 0) = true := decide_eq_true (by omega)
    clear hb
    simp only
    go_wp2_with fail
    go_ret
    exact ⟨by rw [any_some hk ht]; rfl, HB.out⟩
end Go.Proofs.Ytimkafkiphfacaa.M
