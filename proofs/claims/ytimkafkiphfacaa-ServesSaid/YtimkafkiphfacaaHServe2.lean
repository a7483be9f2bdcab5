/- serve.Addrs: the map and the row. -/
import Derived.Maps.Own
import Derived.Maps.OwnSet
import Derived.Maps.Views
import Derived.Outline
import Derived.Test.YtimkafkiphfacaaPx8
import Derived.Test.YtimkafkiphfacaaPx9
import Derived.Test.YtimkafkiphfacaaSRel
import Derived.Maps.AppendAt
import Derived.WalkKit
import Derived.IntWalk
set_option linter.unusedVariables false
set_option linter.unusedSimpArgs false
namespace Go.Proofs.Ytimkafkiphfacaa.M
open Go Go.RowKit Go.Proofs.YtimkafkiphfacaaW.PrintWords Go.Proofs.YtimkafkiphfacaaW.PrintLast Go.Proofs.YtimkafkiphfacaaW.PrintMore Go.Proofs.Ytimkafkiphfacaa.P

theorem sameS_fold (a b : Bytes) : (!(mkB (fold a)).toList == (mkB []).toList && (mkB (fold a)).toList == (mkB (fold b)).toList) = sameS a b := by
  rw [toL, toL, toL, B_mk, B_mk, B_mk]
  cases ha : nm a with
  | none => rw [sameS_left ha, fold_none ha]; rfl
  | some x =>
    have h1 : (fold a == ([] : Bytes)) = false := by simpa using fold_ne_nil ha
    rw [h1]
    cases hb : nm b with
    | none =>
      rw [sameS_right hb, fold_none hb]
      simpa using fold_ne_nil ha
    | some y =>
      rw [sameS_some ha hb]
      by_cases h : fold a = fold b
      · simp [h, (fold_inj ha hb).1 h]
      · have h2 : ¬ (x.map fol = y.map fol) := fun e => h ((fold_inj ha hb).2 e)
        simp [h, h2]

set_option maxHeartbeats 4000000 in
set_option maxRecDepth 100000 in
theorem Same_calls (a b : ByteArray) (w : World) : Calls Try.prog 48 #[.string a, .string b] w fun e w' => e = .returned (.bool (sameS (B a) (B b))) ∧ Below w.heap.size w w' := by
  obtain ⟨ka, ha⟩ := Ev.rounds (Fold_ev a)
  obtain ⟨kb, hb⟩ := Ev.rounds (Fold_ev b)
  have hsm := sameS_fold (B a) (B b)
  obtain ⟨fa, hfa⟩ : ∃ fa, mkB (fold (B a)) = fa := ⟨_, rfl⟩
  obtain ⟨fb, hfb⟩ : ∃ fb, mkB (fold (B b)) = fb := ⟨_, rfl⟩
  rw [hfa] at ha hsm
  rw [hfb] at hb hsm
  clear hfa hfb
  rw [← hsm]
  clear hsm
  go_enter Try.func48, Try.ntmps48
  go_wp2_with fail
  refine (rel_Fold.calls ka a fa _ ha).mono ?_
  rintro e w1 ⟨rfl, hb1⟩
  have HB1 := Aside0.mk hb1
  clear hb1
  simp only
  go_wp2_with fail
  refine (rel_Fold.calls kb b fb _ hb).mono ?_
  rintro e w2 ⟨rfl, hb2⟩
  have HB2 := Aside0.mk (below_then HB1.out HB1.out.size hb2)
  clear hb2
  simp only
  by_cases h0 : fa.toList = []
  · go_wp2_with fail
    go_ret
    exact ⟨by rw [h0, show (mkB []).toList = [] from by rw [toL]; rfl]; rfl, HB2.out⟩
  · have h1 : (fa.toList == (mkB []).toList) = false := by rw [show (mkB []).toList = [] from by rw [toL]; rfl]; exact beq_eq_false_iff_ne.2 h0
    have h2 : fa.toList.isEmpty = false := by cases h : fa.toList with
      | nil => exact absurd h h0
      | cons _ _ => rfl
    go_wp2_with fail
    go_ret
    exact ⟨by rw [h1]; rfl, HB2.out⟩

/-- The closure: is a binding's host the one that is looked for? -/
def hasB (h : ByteArray) (b : S61) : Bool := sameS (B b.f1) (B h)
set_option maxHeartbeats 4000000 in
set_option maxRecDepth 100000 in
theorem clo_calls (b : S61) (h : ByteArray) (g : Nat) (w : World) (hg : w.heap[g]? = some (.cells #[.string h] 9 (0, 0))) : Calls Try.prog 47 #[.agg #[.string b.f0, .string b.f1, .int .i64 b.f2, .string b.f3, .int .i64 b.f4], .pointer (some ⟨g, 0, none⟩)] w fun e w' => e = .returned (.bool (hasB h b)) ∧ Below w.heap.size w w' := by
  have c0 : ∀ o, (w.alloc o).cell? ⟨g, 0, none⟩ = some (.string h) := fun o => (blk_cell (blk_alloc hg o) 0).trans rfl
  clear hg
  go_enter Try.func47, Try.ntmps47
  go_wp2_with fail
  refine (Same_calls b.f1 h _).mono ?_
  rintro e w1 ⟨rfl, hb1⟩
  have HB := Aside0.mk (below_then (below_alloc (Below.refl w.heap.size w) _) (below_alloc (Below.refl w.heap.size w) _).size hb1)
  clear hb1
  simp only
  go_wp2_with fail
  go_ret
  exact ⟨rfl, HB.out⟩
theorem rd61 {xs : List S61} {i : Nat} (h : i < xs.length) : rd_T61 xs (i : Int) = xs[i] := by
  simp [rd_T61, List.getD_eq_getElem?_getD, List.getElem?_eq_getElem h]

/-- What IndexFunc answers: there is none, or the first one's place. -/
def IdxPost (h : ByteArray) (xs : List S61) (w : World) (e : Ending) (w' : World) : Prop := Below w.heap.size w w' ∧ ((e = .returned (.int .i64 (-1)) ∧ ∀ i (hi : i < xs.length), hasB h xs[i] = false) ∨ ∃ k : Nat, ∃ hk : k < xs.length, e = .returned (.int .i64 k) ∧ hasB h xs[k] = true)

set_option maxHeartbeats 4000000 in
set_option maxRecDepth 100000 in
theorem Index_calls (w : World) (A : Option Addr) (c : Nat) (xs : List S61) (h : ByteArray) (g : Nat) (hx : Kd.C k61 w A xs.length xs) (hc : xs.length ≤ c) (hg : w.heap[g]? = some (.cells #[.string h] 9 (0, 0))) : Calls Try.prog 53 #[.slice A xs.length c, .func (.func 47) #[] #[.pointer (some ⟨g, 0, none⟩)]] w (IdxPost h xs w) := by
  have hmx : xs.length ≤ 9223372036854775807 := hx.2.1
  have H := Aside0.mk hx
  have HG := Aside0.mk hg
  have T0 := Aside0.mk (Below.refl w.heap.size w)
  have N0 : Aside0 (∀ i (hi : i < xs.length), i < 0 → hasB h xs[i] = false) := ⟨fun i _ h => absurd h (Nat.not_lt_zero _)⟩
  clear hx hg
  go_enter Try.func53, Try.ntmps53
  go_wp2
  go_loopw [5, 8] (fun v5 v8 wr => ∃ i : Nat, i ≤ xs.length ∧ v8 = .int .i64 i ∧ Aside0 (∀ j (hj : j < xs.length), j < i → hasB h xs[j] = false) ∧ Aside0 (Below w.heap.size w wr)) (fun _ v8 _ => xs.length - (intOf v8).toNat)
  case atStart => exact ⟨0, Nat.zero_le _, rfl, N0, T0⟩
  case round =>
    obtain ⟨i, hi, rfl, HN, HT⟩ := hrel
    by_cases hlt : i < xs.length
    · have hd1 : decide ((i : Int) < (xs.length : Int)) = true := decide_eq_true (by omega)
      have hd2 : decide (i < xs.length) = true := decide_eq_true hlt
      obtain ⟨ad, rfl, hc0, hc1, hc2, hc3, hc4⟩ := at_T61 (Kd.C_below H.out HT.out) (i : Int) (by omega) (by omega)
      rw [rd61 hlt] at hc0 hc1 hc2 hc3 hc4
      simp only [Int.toNat_natCast] at hc0 hc1 hc2 hc3 hc4
      obtain ⟨x, hx⟩ : ∃ x, xs[i] = x := ⟨_, rfl⟩
      rw [hx] at hc0 hc1 hc2 hc3 hc4
      go_wp2_with fail
      refine (clo_calls x h g _ (blk_below HG.out HT.out)).mono ?_
      rintro e w2 ⟨rfl, hb2⟩
      have T2 := Aside0.mk (below_then HT.out HT.out.size hb2)
      have HX := Aside0.mk hx
      clear hb2 hc0 hc1 hc2 hc3 hc4 hx
      simp only
      cases hq : hasB h x with
      | true =>
        go_wp2_with fail
        go_ret
        exact ⟨T2.out, .inr ⟨i, hlt, rfl, by rw [HX.out]; exact hq⟩⟩
      | false =>
        go_wp2_with fail
        go_roundw
        case rel =>
          refine ⟨i + 1, by omega, by go_num, ⟨fun j hj hji => ?_⟩, T2⟩
          by_cases e : j = i
          · subst e
            rw [HX.out]
            exact hq
          · exact HN.out j hj (by omega)
        case measure => simp [intOf]; omega
    · obtain rfl : i = xs.length := by omega
      have hd1 : decide ((xs.length : Int) < (xs.length : Int)) = false := decide_eq_false (by omega)
      have hd2 : decide (xs.length < xs.length) = false := decide_eq_false (by omega)
      go_wp2_with fail
      go_ret
      exact ⟨HT.out, .inl ⟨rfl, fun j hj => HN.out j hj hj⟩⟩

theorem any_none {h : ByteArray} {xs : List S61} (hn : ∀ i (hi : i < xs.length), hasB h xs[i] = false) : xs.any (hasB h) = false := by
  rw [List.any_eq_false]
  intro x hx
  obtain ⟨i, hi, rfl⟩ := List.mem_iff_getElem.1 hx
  simp [hn i hi]
theorem any_some {h : ByteArray} {xs : List S61} {k : Nat} (hk : k < xs.length) (ht : hasB h xs[k] = true) : xs.any (hasB h) = true := by
  rw [List.any_eq_true]
  exact ⟨_, List.getElem_mem hk, ht⟩

set_option maxHeartbeats 4000000 in
set_option maxRecDepth 100000 in
theorem Contains_calls (w : World) (A : Option Addr) (c : Nat) (xs : List S61) (h : ByteArray) (g : Nat) (hx : Kd.C k61 w A xs.length xs) (hc : xs.length ≤ c) (hg : w.heap[g]? = some (.cells #[.string h] 9 (0, 0))) : Calls Try.prog 46 #[.slice A xs.length c, .func (.func 47) #[] #[.pointer (some ⟨g, 0, none⟩)]] w fun e w' => e = .returned (.bool (xs.any (hasB h))) ∧ Below w.heap.size w w' := by
  have H := Aside0.mk hx
  have HG := Aside0.mk hg
  clear hx hg
  go_enter Try.func46, Try.ntmps46
  go_wp2_with fail
  refine (Index_calls _ A c xs h g H.out hc HG.out).mono ?_
  rintro e w2 ⟨hb, ⟨rfl, hn⟩ | ⟨k, hk, rfl, ht⟩⟩
  · have HB := Aside0.mk hb
    clear hb
    simp only
    go_wp2_with fail
    go_ret
    exact ⟨by rw [any_none hn]; rfl, HB.out⟩
  · have HB := Aside0.mk hb
    have hk0 : decide ((0 : Int) ≤ (k : Int)) = true := decide_eq_true (by omega)
    have hk1 : decide ((k : Int) ≥ 0) = true := decide_eq_true (by omega)
    clear hb
    simp only
    go_wp2_with fail
    go_ret
    exact ⟨by rw [any_some hk ht]; rfl, HB.out⟩
end Go.Proofs.Ytimkafkiphfacaa.M

set_option linter.unusedVariables false
set_option linter.unusedSimpArgs false
namespace Go.Proofs.Ytimkafkiphfacaa.M
open Go Go.RowKit Go.ChangeMaps Go.Proofs.YtimkafkiphfacaaW.PrintWords Go.Proofs.YtimkafkiphfacaaW.PrintLast Go.Proofs.YtimkafkiphfacaaW.PrintMore Go.Proofs.Ytimkafkiphfacaa.P

def stepA (out : List Int) (b : S61) : List Int := if b.f2 ∈ out then out else out ++ [b.f2]
def addrsS (bs : List S61) : List Int := bs.foldl stepA []
theorem addrs_next {bs : List S61} {i : Nat} (h : i < bs.length) : addrsS (bs.take (i + 1)) = stepA (addrsS (bs.take i)) bs[i] := by
  unfold addrsS
  rw [List.take_succ_eq_append_getElem h, List.foldl_append]
  rfl
theorem step_le (out : List Int) (b : S61) : (stepA out b).length ≤ out.length + 1 := by
  unfold stepA
  split <;> simp
theorem addrs_le (bs : List S61) : ∀ i, i ≤ bs.length → (addrsS (bs.take i)).length ≤ i
  | 0, _ => by simp [addrsS]
  | i + 1, h => by
    rw [addrs_next (by omega)]
    have h1 := step_le (addrsS (bs.take i)) (bs[i]'(by omega))
    have h2 := addrs_le bs i (by omega)
    omega
/-- The map of what was seen. -/
def SeenAt (w : World) (m n : Nat) (out : List Int) : Prop := ∃ D : DataW Unit, w.ownsMap Try.prog 3 (plainElem Try.prog 4) m n D ∧ ∀ x, D.atKey (.int .i64 x) (.lit (.bool false)) = .lit (.bool (decide (x ∈ out)))
theorem plainElem_bool_inv {P : Program} {e : TypeId} (he : P.underlying e = some .bool) {v : Value} {z : DataW Unit × List MemPlace} (h : plainElem P e v = some z) : ∃ b, v = .bool b ∧ z = (.lit (.bool b), []) := by
  unfold plainElem at h
  rw [he] at h
  cases v <;> simp at h
  subst h
  exact ⟨_, rfl, rfl⟩
theorem Seen_look {w : World} {m n : Nat} {out : List Int} (h : SeenAt w m n out) (x : Int) (hx : (Lit.int .i64 x).wf = true) : (Instr.lookup 72 (.map (some m)) (.int .i64 x) false).run Try.prog w = .ok (.bool (decide (x ∈ out))) w := by
  obtain ⟨D, ho, hD⟩ := h
  obtain ⟨v, ps, hrun, hv⟩ := ho.lookup (t := 72) (e := 4) (Go.Maps.int_keyed Try.underlying3) Try.underlying72 (Try.zeroValue4 w) (plainElem_bool Try.underlying4 false) (Go.Maps.keyOf_int_mk Try.underlying3 hx)
  obtain ⟨b, rfl, hb⟩ := plainElem_bool_inv Try.underlying4 hv
  simp only [Prod.mk.injEq] at hb
  rw [hD] at hb
  have : decide (x ∈ out) = b := by injection hb.1 with h1; injection h1
  rw [this]
  exact hrun
theorem below_lower {b B : Nat} {w w' : World} (h : Below B w w') (hb : b ≤ B) : Below b w w' := ⟨h.os, h.tape, h.output, h.size, fun k hk => h.block k (Nat.lt_of_lt_of_le hk hb)⟩
theorem Seen_made (w : World) : SeenAt (w.alloc (.map #[] 0)) w.heap.size 0 [] := ⟨_, World.ownsMap_made w _ _ _, fun x => by
  rw [show (List.nil : List Int) = [] from rfl]
  have h := WideAt.atKey_none (entries := ([] : List (Lit × DataW Unit))) (k := .int .i64 x) (.lit (.bool false)) (fun p hp => by simp at hp)
  simpa using h⟩
theorem Seen_kept {w w' : World} {m n : Nat} {out : List Int} {row : Option Nat} (h : SeenAt w m n out) (hg : w.grownBy w' row) (hne : some m ≠ row) : SeenAt w' m n out := by
  obtain ⟨D, ho, hD⟩ := h
  exact ⟨D, ho.kept hg hne, hD⟩
theorem Seen_lt {w : World} {m n : Nat} {out : List Int} (h : SeenAt w m n out) : m < w.heap.size := by
  obtain ⟨D, ho, hD⟩ := h
  exact ho.lt
theorem Seen_mono {w : World} {m n n' : Nat} {out : List Int} (h : SeenAt w m n out) (hn : n ≤ n') : SeenAt w m n' out := by
  obtain ⟨D, ho, hD⟩ := h
  exact ⟨D, ho.mono hn, hD⟩
theorem Seen_put {D : DataW Unit} {out : List Int} (hm : Go.Maps.IsMap D) (hD : ∀ x, D.atKey (.int .i64 x) (.lit (.bool false)) = .lit (.bool (decide (x ∈ out)))) (a : Int) : ∀ x, (D.put (.int .i64 a) (.lit (.bool true))).atKey (.int .i64 x) (.lit (.bool false)) = .lit (.bool (decide (x ∈ out ++ [a]))) := by
  intro x
  by_cases e : x = a
  · subst e
    rw [Go.Maps.atKey_put_same hm (by simp [WideAt.IsKeyLit])]
    simp
  · rw [Go.Maps.atKey_put_other (by intro h; injection h with _ h; exact e h), hD]
    simp [e]

theorem Seen_store {w : World} {m n : Nat} {out : List Int} (h : SeenAt w m n out) (x : Int) (hx : (Lit.int .i64 x).wf = true) (hn : n ≤ 2199023255488) : ∃ w', (Instr.mapUpdate 72 (.map (some m)) (.int .i64 x) (.bool true)).run Try.prog w = .ok () w' ∧ SeenAt w' m (n + 1) (out ++ [x]) ∧ w.grownBy w' (some m) := by
  obtain ⟨D, ho, hD⟩ := h
  obtain ⟨w', h1, h2, h3⟩ := ho.update (t := 72) (e := 4) (Go.Maps.int_keyed Try.underlying3) Try.underlying72 (by unfold maxLen; omega) (Go.Maps.keyOf_int_mk Try.underlying3 hx) (plainElem_bool Try.underlying4 true)
  exact ⟨w', h1, ⟨_, h2, Seen_put (ho.isMap) hD x⟩, h3⟩
theorem int_info : (Try.prog.info? 3).map (fun i => (i.zero, i.size, i.bytes)) = some (some (.int .i64 0), 1, 8) := by kernel_rfl

set_option maxHeartbeats 4000000 in
set_option maxRecDepth 100000 in
theorem Addrs_calls (w : World) (A : Option Addr) (c : Nat) (bs : List S61) (hx : Kd.C k61 w A bs.length bs) (hc : bs.length ≤ c) (hl : bs.length ≤ 2199023255488) (hwf : ∀ b ∈ bs, (Lit.int .i64 b.f2).wf = true) : Calls Try.prog 23 #[.slice A bs.length c] w fun e w' => ∃ v, e = .returned v ∧ Kd.R (Kd.int .i64) 3 w' w.heap.size (fun _ => True) v (addrsS bs) ∧ Below w.heap.size w w' := by
  have H := Aside0.mk hx
  have HF := Aside0.mk hwf
  clear hx hwf
  have hmm := @run_makeMap Try.prog
  go_enter Try.func23, Try.ntmps23
  go_wp2_with fail
  generalize hW : w.alloc (.map #[] 0) = W
  have TW : Aside0 (Below w.heap.size w W) := ⟨by rw [← hW]; exact below_alloc (Below.refl w.heap.size w) _⟩
  have S0 : Aside0 (SeenAt W w.heap.size 0 []) := ⟨by rw [← hW]; exact Seen_made w⟩
  have WS : Aside0 (w.heap.size < W.heap.size) := ⟨by rw [← hW]; simp⟩
  clear hW hmm
  obtain ⟨m, hm⟩ : ∃ m, w.heap.size = m := ⟨_, rfl⟩
  have GM := Aside0.mk hm
  rw [hm] at S0 WS
  rw [hm]
  clear hm
  go_loopw [4, 10] (fun v4 v10 wr => ∃ i : Nat, i ≤ bs.length ∧ v10 = .int .i64 i ∧ Aside0 (Kd.R (Kd.int .i64) 3 wr W.heap.size (fun _ => True) v4 (addrsS (bs.take i))) ∧ Aside0 (SeenAt wr m i (addrsS (bs.take i))) ∧ Aside0 (Below m W wr)) (fun _ v10 _ => bs.length - (intOf v10).toNat)
  case atStart => exact ⟨0, Nat.zero_le _, rfl, ⟨Kd.R_nil _ _ _ _ _⟩, S0, ⟨Below.refl _ _⟩⟩
  case round =>
    obtain ⟨i, hi, rfl, HO, HS, HT⟩ := hrel
    by_cases hlt : i < bs.length
    · have hd1 : decide ((i : Int) < (bs.length : Int)) = true := decide_eq_true (by omega)
      have hd2 : decide (i < bs.length) = true := decide_eq_true hlt
      obtain ⟨ad, rfl, hc0, hc1, hc2, hc3, hc4⟩ := at_T61 (Kd.C_below H.out (TW.out.trans (by rw [GM.out]; exact HT.out))) (i : Int) (by omega) (by omega)
      rw [rd61 hlt] at hc0 hc1 hc2 hc3 hc4
      simp only [Int.toNat_natCast] at hc0 hc1 hc2 hc3 hc4
      obtain ⟨x, hx⟩ : ∃ x, bs[i] = x := ⟨_, rfl⟩
      have hwx : (Lit.int .i64 x.f2).wf = true := by rw [← hx]; exact HF.out _ (List.getElem_mem hlt)
      have HN : Aside0 (addrsS (bs.take (i + 1)) = stepA (addrsS (bs.take i)) x) := ⟨by rw [← hx]; exact addrs_next hlt⟩
      have HL : Aside0 ((addrsS (bs.take i)).length ≤ i) := ⟨addrs_le bs i hi⟩
      rw [hx] at hc0 hc1 hc2 hc3 hc4
      clear hx
      generalize addrsS (bs.take i) = out at *
      have hlk : ∀ o, (Instr.lookup 72 (.map (some m)) (.int .i64 x.f2) false).run Try.prog (wr.alloc o) = .ok (.bool (decide (x.f2 ∈ out))) (wr.alloc o) := fun o => Seen_look (Seen_kept HS.out (World.grownBy_alloc wr o none) (by simp)) x.f2 hwx
      by_cases hin : x.f2 ∈ out
      · rw [decide_eq_true hin] at hlk
        have HE : Aside0 (stepA out x = out) := ⟨by unfold stepA; rw [if_pos hin]⟩
        clear hin hwx
        go_wp2_with fail
        go_roundw
        case rel => exact ⟨i + 1, by omega, by go_num, by rw [HN.out, HE.out]; exact ⟨Kd.R_alloc HO.out _⟩, by rw [HN.out, HE.out]; exact ⟨Seen_mono (Seen_kept HS.out (World.grownBy_alloc wr _ none) (by simp)) (by omega)⟩, ⟨HT.out.alloc (by have := Seen_lt HS.out; omega) _⟩⟩
        case measure => simp [intOf]; omega
      · rw [decide_eq_false hin] at hlk
        have HE : Aside0 (stepA out x = out ++ [x.f2]) := ⟨by unfold stepA; rw [if_neg hin]⟩
        have HW2 := Aside0.mk hwx
        obtain ⟨w2, hup, hs2, hg2⟩ := Seen_store (Seen_kept HS.out (World.grownBy_alloc wr (.cells #[.string x.f0, .string x.f1, .int .i64 x.f2, .string x.f3, .int .i64 x.f4] 61) none) (by simp)) x.f2 hwx (by omega)
        have hne : wr.heap.size ≠ m := by have := Seen_lt HS.out; omega
        have hcb : w2.cell? ⟨wr.heap.size, 2, none⟩ = some (.int .i64 x.f2) := (blk_cell (blk_grown (blk_new wr (.cells #[.string x.f0, .string x.f1, .int .i64 x.f2, .string x.f3, .int .i64 x.f4] 61)) hg2 (fun e => hne (by injection e))) 2).trans rfl
        have O2 := Aside0.mk (Kd.R_grown (Kd.R_mono (Kd.R_bound (Kd.R_alloc HO.out (.cells #[.string x.f0, .string x.f1, .int .i64 x.f2, .string x.f3, .int .i64 x.f4] 61))) (fun k hk => hk.2.1)) hg2 (fun k hk e => by injection e with e; have := WS.out; omega))
        have S2 := Aside0.mk hs2
        have T2 : Aside0 (Below m W w2) := ⟨(HT.out.alloc (by have := Seen_lt HS.out; omega) _).grown hg2 (by have := Seen_lt HS.out; have := WS.out; simp; omega) (fun j hj => by cases hj; exact Nat.le_refl _)⟩
        have Z2 : Aside0 (W.heap.size ≤ w2.heap.size) := ⟨T2.out.size⟩
        have hl1 : out.length ≤ 2199023255488 := by have := HL.out; omega
        clear hin hwx hs2 hg2 hne HO HS
        go_wp2_with ((with_reducible refine gate_builtin (b := .append) (xs := #[.tmp 22, .tmp 25]) rfl ?_); at_builtin; refine Kd.R_append (Kd.int .i64) (w0 := w2) W.heap.size rfl (.tmp 22) (.tmp 25) 51 3 (.int .i64 0) 8 rfl Try.underlying51 int_info rfl (by decide) (by omega) u4 out x.f2 [.int .i64 x.f2] (fun k => W.heap.size ≤ k) (fun _ => False) rfl rfl rfl (fun _ hk => hk.elim) (fun k hk => Nat.le_trans Z2.out hk) O2.out (Below.refl _ _) Z2.out (by have : (Kd.int .i64).sz = 1 := rfl; omega) ?_; intro v1 w3 ho hb hg hat; have O3 := Aside0.mk (Kd.R_mono ho (fun _ _ => trivial)); have NV := Aside0.mk (Kd.R_base O2.out); have HB3 := Aside0.mk hb; have HG3 := Aside0.mk hg; clear ho hb hg hat)
        go_roundw
        case rel => exact ⟨i + 1, by omega, by go_num, by rw [HN.out, HE.out]; exact O3, by rw [HN.out, HE.out]; exact ⟨Seen_kept S2.out HG3.out (fun e => by have := NV.out m e.symm; have := WS.out; omega)⟩, ⟨T2.out.trans (below_lower HB3.out (Nat.le_of_lt WS.out))⟩⟩
        case measure => simp [intOf]; omega
    · obtain rfl : i = bs.length := by omega
      have hd1 : decide ((bs.length : Int) < (bs.length : Int)) = false := decide_eq_false (by omega)
      have hd2 : decide (bs.length < bs.length) = false := decide_eq_false (by omega)
      rw [List.take_length] at HO HS
      go_wp2_with fail
      go_ret
      exact ⟨_, rfl, by rw [GM.out]; exact Kd.R_lower HO.out (Nat.le_of_lt WS.out), by have := TW.out; rw [GM.out] at this ⊢; exact this.trans HT.out⟩
end Go.Proofs.Ytimkafkiphfacaa.M
