/- Package ecs: is, slices.IndexFunc, ContainsFunc, Clone at options; Has. -/
import Derived.Test.YtjmdfhbenejfgaaHLend
import Derived.Test.YtjmdfhbenejfgaaMBits
import Derived.IntWalk
set_option linter.unusedVariables false
set_option linter.unusedSimpArgs false
namespace Go.Proofs.Ytjmdfhbenejfgaa.M
open Go Go.RowKit Go.Proofs.YtjmdfhbenejfgaaW.PrintWords Go.Proofs.YtjmdfhbenejfgaaW.PrintLast Go.Proofs.YtjmdfhbenejfgaaW.PrintMore Go.Proofs.Ytjmdfhbenejfgaa.P

def isE (x : S52) : Bool := x.f0 == 8
theorem is_calls (x : S52) (w : World) : Calls Try.prog 43 #[.agg #[.int .i64 x.f0, .string x.f1]] w fun e w' => e = .returned (.bool (isE x)) ∧ Below w.heap.size w w' := ecs_is.calls x.f0 x.f1 _ w rfl
theorem rd_get {xs : List S52} {i : Nat} (h : i < xs.length) : rd_T52 xs (i : Int) = xs[i] := by
  simp [rd_T52, List.getD_eq_getElem?_getD, List.getElem?_eq_getElem h]

/-- What IndexFunc answers: there is none, or the first one's place. -/
def IdxPost (xs : List S52) (w : World) (e : Ending) (w' : World) : Prop := Below w.heap.size w w' ∧ ((e = .returned (.int .i64 (-1)) ∧ ∀ i (h : i < xs.length), isE xs[i] = false) ∨ ∃ k : Nat, ∃ hk : k < xs.length, e = .returned (.int .i64 k) ∧ isE xs[k] = true ∧ ∀ i (h : i < k), isE xs[i] = false)

set_option maxHeartbeats 4000000 in
set_option maxRecDepth 100000 in
theorem Index_calls (w : World) (A : Option Addr) (c : Nat) (xs : List S52) (h : Kd.C k52 w A xs.length xs) (hc : xs.length ≤ c) : Calls Try.prog 45 #[.slice A xs.length c, .func (.func 43) #[] #[]] w (IdxPost xs w) := by
  have hmx : xs.length ≤ 9223372036854775807 := h.2.1
  have H := Aside0.mk h
  have T0 := Aside0.mk (Below.refl w.heap.size w)
  have N0 : Aside0 (∀ i (h : i < xs.length), i < 0 → isE xs[i] = false) := ⟨fun i _ h => absurd h (Nat.not_lt_zero _)⟩
  clear h
  go_enter Try.func45, Try.ntmps45
  go_wp2
  go_loopw [5, 8] (fun v5 v8 wr => ∃ i : Nat, i ≤ xs.length ∧ v8 = .int .i64 i ∧ Aside0 (∀ j (h : j < xs.length), j < i → isE xs[j] = false) ∧ Aside0 (Below w.heap.size w wr)) (fun _ v8 _ => xs.length - (intOf v8).toNat)
  case atStart => exact ⟨0, Nat.zero_le _, rfl, N0, T0⟩
  case round =>
    obtain ⟨i, hi, rfl, HN, HT⟩ := hrel
    by_cases hlt : i < xs.length
    · have hd1 : decide ((i : Int) < (xs.length : Int)) = true := decide_eq_true (by omega)
      have hd2 : decide (i < xs.length) = true := decide_eq_true hlt
      obtain ⟨ad, rfl, hc0, hc1⟩ := at_T52 (Kd.C_below H.out HT.out) (i : Int) (by omega) (by omega)
      rw [rd_get hlt] at hc0 hc1
      simp only [Int.toNat_natCast] at hc0 hc1
      obtain ⟨x, hx⟩ : ∃ x, xs[i] = x := ⟨_, rfl⟩
      rw [hx] at hc0 hc1
      go_wp2_with fail
      refine (is_calls x _).mono ?_
      rintro e w2 ⟨rfl, hb2⟩
      have T2 := Aside0.mk (below_then HT.out HT.out.size hb2)
      have HX := Aside0.mk hx
      clear hb2 hc0 hc1 hx
      simp only
      cases hq : isE x with
      | true =>
        go_wp2_with fail
        go_ret
        exact ⟨T2.out, .inr ⟨i, hlt, rfl, by rw [HX.out]; exact hq, fun j hj => HN.out j (by omega) hj⟩⟩
      | false =>
        go_wp2_with fail
        go_roundw
        case rel =>
          refine ⟨i + 1, by omega, by go_num, ⟨fun j h hj => ?_⟩, T2⟩
          by_cases e : j = i
          · subst e
            rw [HX.out]
            exact hq
          · exact HN.out j h (by omega)
        case measure => simp [intOf]; omega
    · obtain rfl : i = xs.length := by omega
      have hd1 : decide ((xs.length : Int) < (xs.length : Int)) = false := decide_eq_false (by omega)
      have hd2 : decide (xs.length < xs.length) = false := decide_eq_false (by omega)
      go_wp2_with fail
      go_ret
      exact ⟨HT.out, .inl ⟨rfl, fun j hj => HN.out j hj hj⟩⟩

theorem any_none {xs : List S52} (h : ∀ i (h : i < xs.length), isE xs[i] = false) : xs.any isE = false := by
  rw [List.any_eq_false]
  intro x hx
  obtain ⟨i, hi, rfl⟩ := List.mem_iff_getElem.1 hx
  simp [h i hi]
theorem any_some {xs : List S52} {k : Nat} (hk : k < xs.length) (h : isE xs[k] = true) : xs.any isE = true := by
  rw [List.any_eq_true]
  exact ⟨_, List.getElem_mem hk, h⟩

set_option maxHeartbeats 4000000 in
set_option maxRecDepth 100000 in
theorem Contains_calls (w : World) (A : Option Addr) (c : Nat) (xs : List S52) (h : Kd.C k52 w A xs.length xs) (hc : xs.length ≤ c) : Calls Try.prog 44 #[.slice A xs.length c, .func (.func 43) #[] #[]] w fun e w' => e = .returned (.bool (xs.any isE)) ∧ Below w.heap.size w w' := by
  have H := Aside0.mk h
  clear h
  go_enter Try.func44, Try.ntmps44
  go_wp2_with fail
  refine (Index_calls _ A c xs H.out hc).mono ?_
  rintro e w2 ⟨hb, ⟨rfl, hn⟩ | ⟨k, hk, rfl, ht, -⟩⟩
  · have HB := Aside0.mk hb
    clear hb
    simp only
    go_wp2_with fail
    go_ret
    exact ⟨by rw [any_none hn]; rfl, HB.out⟩
  · have HB := Aside0.mk hb
    have hk0 : decide ((0 : Int) ≤ (k : Int)) = true := decide_eq_true (by omega)
    have hk1 : decide ((k : Int) ≥ 0) = true := decide_eq_true (by omega)
    clear hb
    simp only
    go_wp2_with fail
    go_ret
    exact ⟨by rw [any_some hk ht]; rfl, HB.out⟩

set_option maxHeartbeats 4000000 in
set_option maxRecDepth 100000 in
theorem Has_calls (w : World) (f0 f1 f2 : Int) (f3 : Bool) (f4 : Int) (A : Option Addr) (c : Nat) (xs : List S52) (h : Kd.C k52 w A xs.length xs) (hc : xs.length ≤ c) : Calls Try.prog 33 #[.agg #[.int .i64 f0, .int .i64 f1, .int .i64 f2, .bool f3, .int .i64 f4, .slice A xs.length c]] w fun e w' => e = .returned (.bool (xs.any isE)) ∧ Below w.heap.size w w' := by
  have H := Aside0.mk h
  clear h
  go_enter Try.func33, Try.ntmps33
  go_wp2_with fail
  refine (Contains_calls _ A c xs (Kd.C_alloc H.out _) hc).mono ?_
  rintro e w2 ⟨rfl, hb⟩
  have HB := Aside0.mk (below_then (below_alloc (Below.refl w.heap.size w) _) (below_alloc (Below.refl w.heap.size w) _).size hb)
  clear hb
  simp only
  go_wp2_with fail
  go_ret
  exact ⟨rfl, HB.out⟩

/-- A row of options in a block of its own. -/
def RowB (w : World) (g : Nat) (ys : List S52) : Prop := ∃ cs, w.heap[g]? = some (.cells cs 52 (0, 0)) ∧ ∀ q p, ys[q]? = some p → cs[q * 2]? = some (.int .i64 p.f0) ∧ cs[q * 2 + 1]? = some (.string p.f1)
theorem RowB_C {w : World} {g : Nat} {ys : List S52} (h : RowB w g ys) (hm : ys.length ≤ 9223372036854775807) : Kd.C k52 w (some ⟨g, 0, none⟩) ys.length ys := by
  obtain ⟨cs, hh, hc⟩ := h
  refine ⟨rfl, hm, fun _ => ⟨_, rfl, fun j p hj => ?_⟩⟩
  obtain ⟨h1, h2⟩ := hc j p hj
  refine ⟨[.int .i64 p.f0, .string p.f1], rfl, k52_mk w p, fun i u hi => ?_⟩
  rw [add_plain, blk_cell hh]
  match i, hi with
  | 0, hi => obtain rfl := Option.some.inj hi; exact h1
  | 1, hi => obtain rfl := Option.some.inj hi; exact h2
theorem RowB_of {w : World} {g n : Nat} {cs : Array Value} {ys : List S52} (hh : w.heap[g]? = some (.cells cs 52 (0, 0))) (h : Kd.C k52 w (some ⟨g, 0, none⟩) n ys) : RowB w g ys := by
  refine ⟨cs, hh, fun q p hq => ?_⟩
  obtain ⟨h1, h2, h3⟩ := h
  obtain ⟨ad, e, hc⟩ := h3 (by have := (List.getElem?_eq_some_iff.1 hq).1; omega)
  obtain rfl := Option.some.inj e
  obtain ⟨c, _, hk, hx⟩ := hc q p hq
  obtain rfl := k52_open hk
  have z0 := hx 0 _ rfl
  have z1 := hx 1 _ rfl
  rw [add_plain, blk_cell hh] at z0 z1
  exact ⟨z0, z1⟩
theorem RowB_keep {w w' : World} {g : Nat} {ys : List S52} (h : RowB w g ys) (hb : Below w.heap.size w w') : RowB w' g ys := by
  obtain ⟨cs, hh, hc⟩ := h
  exact ⟨cs, blk_below hh hb, hc⟩
theorem RowB_set {w : World} {g : Nat} {ys : List S52} (h : RowB w g ys) (i : Nat) (p : S52) (hi : i < ys.length) : RowB ((w.setCell ⟨g, i * 2, none⟩ (.int .i64 p.f0)).setCell ⟨g, i * 2 + 1, none⟩ (.string p.f1)) g (ys.set i p) := by
  obtain ⟨cs, hh, hc⟩ := h
  refine ⟨_, blk_set (blk_set hh _ _) _ _, fun q r hq => ?_⟩
  obtain ⟨z0, z1⟩ := hc i _ (List.getElem?_eq_getElem hi)
  have s0 := (Array.getElem?_eq_some_iff.1 z0).1
  have s1 := (Array.getElem?_eq_some_iff.1 z1).1
  simp only [Array.getElem?_setIfInBounds, Array.size_setIfInBounds]
  rw [List.getElem?_set] at hq
  by_cases e : i = q
  · subst e
    rw [if_pos rfl, if_pos hi] at hq
    obtain rfl := Option.some.inj hq
    rw [if_neg (by omega), if_pos rfl, if_pos s0, if_pos rfl, if_pos s1]
    exact ⟨rfl, rfl⟩
  · rw [if_neg e] at hq
    rw [if_neg (by omega), if_neg (by omega), if_neg (by omega), if_neg (by omega)]
    exact hc q r hq
theorem RowB_cut {w : World} {g : Nat} {ys : List S52} (h : RowB w g ys) (i : Nat) : ∀ (vs : List Value) (o : Nat), i * 2 ≤ o → RowB (w.setCells g o vs) g (ys.take i) := by
  obtain ⟨cs, hh, hc⟩ := h
  have key : ∀ (vs : List Value) (o : Nat) (W : World) (ds : Array Value), W.heap[g]? = some (.cells ds 52 (0, 0)) → i * 2 ≤ o → (∀ q, q < i * 2 → ds[q]? = cs[q]?) → RowB (W.setCells g o vs) g (ys.take i) := by
    intro vs
    induction vs with
    | nil =>
      intro o W ds hW _ hd
      refine ⟨ds, hW, fun q p hq => ?_⟩
      rw [List.getElem?_take] at hq
      by_cases e : q < i
      · rw [if_pos e] at hq
        rw [hd _ (by omega), hd _ (by omega)]
        exact hc q p hq
      · rw [if_neg e] at hq
        cases hq
    | cons v r ih =>
      intro o W ds hW ho hd
      refine ih (o + 1) _ _ (blk_set hW o v) (by omega) (fun q hq => ?_)
      rw [Array.getElem?_setIfInBounds, if_neg (by omega)]
      exact hd q hq
  exact fun vs o ho => key vs o w cs hh ho (fun _ _ => rfl)
theorem only_cell' (w : World) (g i : Nat) (u : Value) : w.grownBy (w.setCell ⟨g, i, none⟩ u) (some g) :=
  ⟨rfl, rfl, rfl, by simp [World.setCell], fun j hj hne => Below.heap_setCell w ⟨g, i, none⟩ u j (by
    show j ≠ g
    rintro rfl
    exact hne rfl)⟩
theorem only_cells (g : Nat) : ∀ (vs : List Value) (o : Nat) (w : World), w.grownBy (w.setCells g o vs) (some g)
  | [], _, w => World.grownBy.refl w _
  | v :: r, o, w => (only_cell' w g o v).trans (only_cells g r (o + 1) _)

theorem run_clear2 (w : World) (ty : TypeId) (g i n m c : Nat) (cs : Array Value) (hn : 0 < n) (hh : w.heap[g]? = some (.cells cs 52 (0, 0))) (hs : ∀ q, q < m → cs[q * 2]?.isSome = true ∧ cs[q * 2 + 1]?.isSome = true) (him : i + n ≤ m) :
    ∃ vs, (Builtin.clear_ #[42] ty #[.slice (some ⟨g, i * 2, none⟩) n c]).run Try.prog w = .ok (.tuple #[]) (w.setCells g (i * 2) vs) := by
  obtain ⟨k, rfl⟩ : ∃ k, n = k + 1 := ⟨n - 1, by omega⟩
  have hz : (zeroValue 52).run Try.prog w = .ok (.agg #[.int .i64 0, .string ⟨#[]⟩]) w := Try.zeroValue52 w
  refine ⟨(Builtin.zeroCells (Value.agg #[.int .i64 0, .string ⟨#[]⟩]).cells (k + 1)).toList, ?_⟩
  have hlen : (Builtin.zeroCells (Value.agg #[.int .i64 0, .string ⟨#[]⟩]).cells (k + 1)).toList.length = (k + 1) * 2 := by
    simp [Builtin.zeroCells, Value.cells]
  have hin : ∀ j, j < (k + 1) * 2 → ∃ v, cs[i * 2 + j]? = some v := by
    intro j hj
    obtain ⟨h0, h1⟩ := hs (i + j / 2) (by omega)
    rcases Nat.mod_two_eq_zero_or_one j with e | e
    · rw [show i * 2 + j = (i + j / 2) * 2 by omega]
      exact Option.isSome_iff_exists.1 h0
    · rw [show i * 2 + j = (i + j / 2) * 2 + 1 by omega]
      exact Option.isSome_iff_exists.1 h1
  have hst := run_storeCells_cells (P := Try.prog) g (i * 2) (Builtin.zeroCells (Value.agg #[.int .i64 0, .string ⟨#[]⟩]).cells (k + 1)).toList 0 w
    (fun j hj => by
      obtain ⟨v, hv⟩ := hin j (by omega)
      rw [Nat.add_zero, blk_cell hh, hv]
      rfl)
    (fun j hj => blk_frozen hh _)
    (fun v hv => by
      obtain ⟨j, hj, rfl⟩ := List.mem_iff_getElem.1 hv
      simp only [Builtin.zeroCells, Value.cells, Array.getElem_toList, Array.getElem_map, Array.getElem_range]
      rcases Nat.mod_two_eq_zero_or_one j with e | e <;> simp [e] <;> rfl)
  simp only [Nat.add_zero] at hst
  simp [Builtin.clear_, run_underlying Try.underlying42, hz, hst]

def notE (x : S52) : Bool := !isE x
/-- What DeleteFunc leaves in the row's block. -/
def DelPost (g c : Nat) (xs : List S52) (w : World) (e : Ending) (w' : World) : Prop := e = .returned (.slice (some ⟨g, 0, none⟩) (xs.filter notE).length c) ∧ RowB w' g (xs.filter notE) ∧ w.grownBy w' (some g)

theorem filter_all {xs : List S52} (h : ∀ i (h : i < xs.length), isE xs[i] = false) : xs.filter notE = xs := by
  rw [List.filter_eq_self]
  intro x hx
  obtain ⟨i, hi, rfl⟩ := List.mem_iff_getElem.1 hx
  simp [notE, h i hi]
theorem take_next {xs : List S52} {j : Nat} (h : j < xs.length) : (xs.take (j + 1)).filter notE = (xs.take j).filter notE ++ (if isE xs[j] then [] else [xs[j]]) := by
  rw [List.take_succ_eq_append_getElem h, List.filter_append]
  congr 1
  cases e : isE xs[j] <;> simp [notE, e]

set_option maxHeartbeats 8000000 in
set_option maxRecDepth 100000 in
theorem Delete_calls (w : World) (g c : Nat) (xs : List S52) (h : RowB w g xs) (hm : xs.length ≤ 9223372036854775807) (hc : xs.length ≤ c) : Calls Try.prog 41 #[.slice (some ⟨g, 0, none⟩) xs.length c, .func (.func 43) #[] #[]] w (DelPost g c xs w) := by
  have H := Aside0.mk h
  have hgl : g < w.heap.size := by obtain ⟨cs, hh, _⟩ := h; exact blk_lt hh
  clear h
  go_enter Try.func41, Try.ntmps41
  go_wp2_with fail
  refine (Index_calls _ _ c xs (RowB_C H.out hm) hc).mono ?_
  rintro e w1 ⟨hb, ⟨rfl, hn⟩ | ⟨k, hk, rfl, ht, hn⟩⟩
  · have H1 := Aside0.mk (RowB_keep H.out hb)
    have HB := Aside0.mk hb
    have HF := Aside0.mk (filter_all hn)
    clear hb hn
    simp only
    go_wp2_with fail
    go_ret
    exact ⟨by rw [HF.out]; rfl, by rw [HF.out]; exact H1.out, grown_of_below HB.out _⟩
  · have H1 := Aside0.mk (RowB_keep H.out hb)
    have HB := Aside0.mk (grown_of_below hb (some g))
    have hk1 : ((k : Int) == -1) = false := beq_eq_false_iff_ne.2 (by omega)
    have hk2 : decide ((k : Int) = -1) = false := decide_eq_false (by omega)
    have hki : (xs.take k).filter notE = xs.take k := filter_all (fun i hi => by
      rw [List.getElem_take]
      exact hn i (by rw [List.length_take] at hi; omega))
    have K0 : Aside0 ((xs.take k).length = k) := ⟨by rw [List.length_take]; omega⟩
    have hk3 : (xs.take (k + 1)).filter notE = xs.take k := by rw [take_next hk, ht, hki]; simp
    have K1 := Aside0.mk hk3
    clear hb hn H hki hk3 ht
    simp only
    go_wp2_with fail
    go_loopw [5, 6, 7] (fun v5 v6 v7 wr => ∃ (i j : Nat) (ys : List S52), v5 = .int .i64 i ∧ v6 = .int .i64 j ∧ i < j ∧ j ≤ xs.length ∧ Aside0 (ys.length = xs.length) ∧ Aside0 (ys.take i = (xs.take j).filter notE) ∧ Aside0 (∀ q, j ≤ q → ys[q]? = xs[q]?) ∧ Aside0 (RowB wr g ys) ∧ Aside0 (w.grownBy wr (some g))) (fun _ v6 _ _ => xs.length - (intOf v6).toNat)
    case atStart => exact ⟨k, k + 1, xs, rfl, by go_num, by omega, by omega, ⟨rfl⟩, ⟨K1.out.symm⟩, ⟨fun _ _ => rfl⟩, H1, HB⟩
    case round =>
      clear K0 K1 H1 HB
      obtain ⟨i, j, ys, rfl, rfl, hij, hjn, HL, HK, HR, H1, HB⟩ := hrel
      by_cases hlt : j < xs.length
      · have hd1 : decide ((j : Int) < (xs.length : Int)) = true := decide_eq_true (by omega)
        have hd2 : decide (j < xs.length) = true := decide_eq_true hlt
        obtain ⟨p, hp⟩ : ∃ p, xs[j] = p := ⟨_, rfl⟩
        have hyj : ys[j]? = some p := by rw [HR.out j (Nat.le_refl _), List.getElem?_eq_getElem hlt, hp]
        obtain ⟨q0, hq0⟩ : ∃ q0, ys[i]? = some q0 := ⟨ys[i]'(by have := HL.out; omega), List.getElem?_eq_getElem _⟩
        obtain ⟨cs, hh, hcs⟩ := H1.out
        have hj0 : wr.cell? ⟨g, j * 2, none⟩ = some (.int .i64 p.f0) := (blk_cell hh _).trans (hcs j p hyj).1
        have hj1 : wr.cell? ⟨g, j * 2 + 1, none⟩ = some (.string p.f1) := (blk_cell hh _).trans (hcs j p hyj).2
        have HP := Aside0.mk hp
        clear hh hcs hyj hp
        go_wp2_with fail
        refine (is_calls p _).mono ?_
        rintro e w2 ⟨rfl, hb2⟩
        have V0 : w2.cell? ⟨wr.heap.size, 0, none⟩ = some (.int .i64 p.f0) := pw_cell_below hb2 (by simp)
        have V1 : w2.cell? ⟨wr.heap.size, 1, none⟩ = some (.string p.f1) := pw_cell_below hb2 (by simp)
        have hbw := below_then (below_alloc (Below.refl wr.heap.size wr) _) (below_alloc (Below.refl wr.heap.size wr) _).size hb2
        have HB2 := Aside0.mk (HB.out.trans (grown_of_below hbw (some g)))
        have H2 := Aside0.mk (RowB_keep H1.out hbw)
        obtain ⟨cs2, hh2, hcs2⟩ := H2.out
        have hi0 : w2.cell? ⟨g, i * 2, none⟩ = some (.int .i64 q0.f0) := (blk_cell hh2 _).trans (hcs2 i q0 hq0).1
        have hi1 : w2.cell? ⟨g, i * 2 + 1, none⟩ = some (.string q0.f1) := (blk_cell hh2 _).trans (hcs2 i q0 hq0).2
        have hf0 : w2.frozen? ⟨g, i * 2, none⟩ = false := blk_frozen hh2 _
        have hf1 : w2.frozen? ⟨g, i * 2 + 1, none⟩ = false := blk_frozen hh2 _
        clear hb2 hbw hh2 hcs2 hj0 hj1 H1 HB
        have hii : decide ((i : Int) < (xs.length : Int)) = true := decide_eq_true (by omega)
        simp only
        cases hq : isE p with
        | true =>
          go_wp2_with fail
          go_roundw
          case rel => exact ⟨i, j + 1, ys, rfl, by go_num, by omega, by omega, HL, ⟨by rw [take_next hlt, HP.out, hq, HK.out]; simp⟩, ⟨fun q hq => HR.out q (by omega)⟩, H2, HB2⟩
          case measure => simp [intOf]; omega
        | false =>
          go_wp2_with fail
          go_roundw
          case rel =>
            refine ⟨i + 1, j + 1, ys.set i p, by go_num, by go_num, by omega, by omega, ⟨by rw [List.length_set]; exact HL.out⟩, ⟨?_⟩, ⟨fun q hq => ?_⟩, ⟨RowB_set H2.out i p (by have := HL.out; omega)⟩, ⟨(HB2.out.trans (only_cell' _ g _ _)).trans (only_cell' _ g _ _)⟩⟩
            · rw [take_next hlt, HP.out, hq, ← HK.out]
              have hil : i < ys.length := by have := HL.out; omega
              rw [List.take_succ_eq_append_getElem (by rw [List.length_set]; exact hil), List.take_set_of_le (Nat.le_refl _)]
              simp
            · rw [List.getElem?_set_ne (by omega)]
              exact HR.out q (by omega)
          case measure => simp [intOf]; omega
      · obtain rfl : j = xs.length := by omega
        have hd1 : decide ((xs.length : Int) < (xs.length : Int)) = false := decide_eq_false (by omega)
        have hd2 : decide (xs.length < xs.length) = false := decide_eq_false (by omega)
        obtain ⟨cs, hh, hcs⟩ := H1.out
        obtain ⟨vs, hvs⟩ : ∃ vs, ∀ ty, (Builtin.clear_ #[42] ty #[.slice (some ⟨g, i * 2, none⟩) (xs.length - i) (c - i)]).run Try.prog wr = .ok (.tuple #[]) (wr.setCells g (i * 2) vs) := by
          obtain ⟨vs, hv⟩ := run_clear2 wr 0 g i (xs.length - i) xs.length (c - i) cs (by omega) hh (fun q hq => by
            obtain ⟨z0, z1⟩ := hcs q _ (List.getElem?_eq_getElem (by rw [HL.out]; exact hq))
            rw [z0, z1]
            exact ⟨rfl, rfl⟩) (by omega)
          exact ⟨vs, fun _ => hv⟩
        clear hh hcs
        have hci : ¬ c = i := by omega
        go_wp2_with fail
        go_ret
        have hfil : xs.filter notE = ys.take i := by rw [HK.out, List.take_length]
        have hlen : (xs.filter notE).length = i := by rw [hfil, List.length_take]; have := HL.out; omega
        exact ⟨by rw [hlen]; rfl, by rw [hfil]; exact RowB_cut H1.out i vs _ (Nat.le_refl _), HB.out.trans (only_cells g vs _ _)⟩
end Go.Proofs.Ytjmdfhbenejfgaa.M
