/- The closure of Take, slices.IndexFunc, slices.Clone, Table.All. -/
import Derived.Test.YtojjkgnkdcekpaaHTab5
import Derived.Outline
import Derived.WalkKit
set_option linter.unusedVariables false
set_option linter.unusedSimpArgs false
namespace Go.Proofs.Ytojjkgnkdcekpaa.M
open Go Go.RowKit Go.ChangeMaps Go.Proofs.YtojjkgnkdcekpaaW.PrintWords Go.Proofs.YtojjkgnkdcekpaaW.PrintLast Go.Proofs.YtojjkgnkdcekpaaW.PrintMore Go.Proofs.Ytojjkgnkdcekpaa.P

noncomputable def isK (k : K66) (x : S35) : Bool := open Classical in decide (keyA x = k)
theorem isK_true {k : K66} {x : S35} : isK k x = true ↔ keyA x = k := by unfold isK; simp
theorem isK_eq (k : K66) (x : S35) : isK k x = ((keyA x).a == k.a && ((keyA x).i == k.i && ((keyA x).s.toList == k.s.toList && ((keyA x).t == k.t)))) := by
  rw [Bool.eq_iff_iff, isK_true]
  simp only [Bool.and_eq_true, beq_iff_eq]
  constructor
  · rintro rfl; simp
  · rintro ⟨h1, h2, h3, h4⟩
    rw [toL, toL] at h3
    have h3b := B_inj h3
    clear h3
    cases k
    unfold keyA at *
    simp only at h1 h2 h3b h4
    subst h1 h2 h3b h4
    rfl
theorem eqA66 (d : Nat) (w : World) (x0 y0 x1 y1 : Int) (x2 y2 : ByteArray) (x3 y3 : Int) :
    (Op.equalIn (d + 2) 66 (.agg #[.int .i64 x0, .int .i64 x1, .string x2, .int .i64 x3]) (.agg #[.int .i64 y0, .int .i64 y1, .string y2, .int .i64 y3])).run Try.prog w = .ok (x0 == y0 && (x1 == y1 && (x2.toList == y2.toList && (x3 == y3)))) w := by
  refine eqA_of Try.underlying66 (by kernel_rfl) ?_
  refine eqf_cons (by rfl) (by go_simp; rfl) (by go_simp; rfl) (by go_simp) ?_
  refine eqf_cons (by rfl) (by go_simp; rfl) (by go_simp; rfl) (by go_simp) ?_
  refine eqf_cons (by rfl) (by go_simp; rfl) (by go_simp; rfl) (by go_simp) ?_
  exact eqf_last (by rfl) (by go_simp; rfl) (by go_simp; rfl) (by go_simp)
attribute [local go_sem high] eqA66   -- for this text's walks alone
section
variable {w w' : World} {base b : Nat} {S S' : Nat → Prop} {g : Nat} {most : Int} {xs : List S35} {n : Nat} {f f' : K66 → Int} {v : Value} {m : Nat}
set_option maxHeartbeats 4000000 in
set_option maxRecDepth 100000 in
theorem clo_calls (x : S35) (k : K66) (g : Nat) (w : World) (hg : w.heap[g]? = some (.cells #[.int .i64 k.a, .int .i64 k.i, .string k.s, .int .i64 k.t] 66 (0, 0))) : Calls Try.prog 29 #[v35 x, .pointer (some ⟨g, 0, none⟩)] w fun e w' => e = .returned (.bool (isK k x)) ∧ Below w.heap.size w w' := by
  have HG := Aside0.mk hg
  clear hg
  unfold v35
  go_enter Try.func29, Try.ntmps29
  go_wp2_with fail
  generalize hW : w.alloc _ = W
  have HB : Aside0 (Below w.heap.size w W) := ⟨by rw [← hW]; exact below_alloc (Below.refl _ _) _⟩
  have BX : W.heap[w.heap.size]? = some (.cells #[.int .i64 x.f0, .int .i64 x.f1, .int .i64 x.f2, .string x.f3, .string x.f4, .string x.f5.f0, .int .i64 x.f5.f1, .int .i64 x.f6] 35 (0, 0)) := by rw [← hW]; exact blk_new w _
  have GX : W.heap[g]? = some (.cells #[.int .i64 k.a, .int .i64 k.i, .string k.s, .int .i64 k.t] 66 (0, 0)) := by rw [← hW]; exact blk_alloc HG.out _
  have hKO : Calls Try.prog 24 #[.pointer (some ⟨w.heap.size, 0, none⟩)] W.drew fun e w' => e = .returned (.agg #[.int .i64 (keyA x).a, .int .i64 (keyA x).i, .string (keyA x).s, .int .i64 (keyA x).t]) ∧ Below W.drew.heap.size W.drew w' := keyOf_calls W.drew w.heap.size x ((blk_cell BX 1).trans rfl) ((blk_cell BX 2).trans rfl) ((blk_cell BX 5).trans rfl) ((blk_cell BX 6).trans rfl)
  have hKO := Aside0.mk hKO
  have k0 : W.drew.cell? ⟨g, 0, none⟩ = some (.int .i64 k.a) := (blk_cell GX 0).trans rfl
  have k1 : W.drew.cell? ⟨g, 1, none⟩ = some (.int .i64 k.i) := (blk_cell GX 1).trans rfl
  have k2 : W.drew.cell? ⟨g, 2, none⟩ = some (.string k.s) := (blk_cell GX 2).trans rfl
  have k3 : W.drew.cell? ⟨g, 3, none⟩ = some (.int .i64 k.t) := (blk_cell GX 3).trans rfl
  have hQ := isK_eq k x
  clear hW BX GX
  go_region_held3 (fun w' => w'.cell? ⟨g, 0, none⟩ = some (.int .i64 k.a) ∧ w'.cell? ⟨g, 1, none⟩ = some (.int .i64 k.i) ∧ w'.cell? ⟨g, 2, none⟩ = some (.string k.s) ∧ w'.cell? ⟨g, 3, none⟩ = some (.int .i64 k.t))
    (first
      | ((try dsimp only); (repeat' apply And.intro) <;> with_reducible assumption)
      | ((try dsimp only at *); go_split_ands; (repeat' apply And.intro) <;> with_reducible exact pw_cell_below hb (by assumption)))
    ((go_at_call 24; refine hKO.out.mono ?_; rintro e w5 ⟨rfl, hb⟩; have B5 := Aside0.mk (below_then (below_drew HB.out) (below_drew HB.out).size hb)))
  all_goals
    (try simp only [Exit.then])
    go_wp2_with fail
    go_ret
    exact ⟨by rw [hQ]; rfl, B5.out⟩
theorem rd35 {xs : List S35} {i : Nat} (h : i < xs.length) : rd_T35 xs (i : Int) = xs[i] := by
  simp [rd_T35, List.getD_eq_getElem?_getD, List.getElem?_eq_getElem h]
/-- What IndexFunc answers: there is none, or the first one's place. -/
def IdxPost (k : K66) (xs : List S35) (w : World) (e : Ending) (w' : World) : Prop := Below w.heap.size w w' ∧ ((e = .returned (.int .i64 (-1)) ∧ ∀ i (hi : i < xs.length), isK k xs[i] = false) ∨ ∃ j : Nat, ∃ hj : j < xs.length, e = .returned (.int .i64 j) ∧ isK k xs[j] = true ∧ ∀ i (hi : i < j), isK k (xs[i]'(Nat.lt_trans hi hj)) = false)
set_option maxHeartbeats 4000000 in
set_option maxRecDepth 100000 in
theorem Index_calls (w : World) (A : Option Addr) (c : Nat) (xs : List S35) (k : K66) (g : Nat) (hx : Kd.C k35 w A xs.length xs) (hc : xs.length ≤ c) (hg : w.heap[g]? = some (.cells #[.int .i64 k.a, .int .i64 k.i, .string k.s, .int .i64 k.t] 66 (0, 0))) : Calls Try.prog 28 #[.slice A xs.length c, .func (.func 29) #[] #[.pointer (some ⟨g, 0, none⟩)]] w (IdxPost k xs w) := by
  have hmx : xs.length ≤ 9223372036854775807 := hx.2.1
  have H := Aside0.mk hx
  have HG := Aside0.mk hg
  have T0 := Aside0.mk (Below.refl w.heap.size w)
  have N0 : Aside0 (∀ i (hi : i < xs.length), i < 0 → isK k xs[i] = false) := ⟨fun i _ h => absurd h (Nat.not_lt_zero _)⟩
  clear hx hg
  go_enter Try.func28, Try.ntmps28
  go_wp2_with fail
  go_loopw [5, 8] (fun v5 v8 wr => ∃ i : Nat, i ≤ xs.length ∧ v8 = .int .i64 i ∧ Aside0 (∀ j (hj : j < xs.length), j < i → isK k xs[j] = false) ∧ Aside0 (Below w.heap.size w wr)) (fun _ v8 _ => xs.length - (intOf v8).toNat)
  case atStart => exact ⟨0, Nat.zero_le _, rfl, N0, T0⟩
  case round =>
    obtain ⟨i, hi, rfl, HN, HT⟩ := hrel
    by_cases hlt : i < xs.length
    · have hd1 : decide ((i : Int) < (xs.length : Int)) = true := decide_eq_true (by omega)
      have hd2 : decide (i < xs.length) = true := decide_eq_true hlt
      obtain ⟨ad, rfl, hc0, hc1, hc2, hc3, hc4, hc5, hc6, hc7⟩ := at_T35 (Kd.C_below H.out HT.out) (i : Int) (by omega) (by omega)
      rw [rd35 hlt] at hc0 hc1 hc2 hc3 hc4 hc5 hc6 hc7
      simp only [Int.toNat_natCast] at hc0 hc1 hc2 hc3 hc4 hc5 hc6 hc7
      obtain ⟨x, hx⟩ : ∃ x, xs[i] = x := ⟨_, rfl⟩
      rw [hx] at hc0 hc1 hc2 hc3 hc4 hc5 hc6 hc7
      go_wp2_with fail
      refine (clo_calls x k g _ (blk_below HG.out HT.out)).mono ?_
      rintro e w2 ⟨rfl, hb2⟩
      have T2 := Aside0.mk (below_then HT.out HT.out.size hb2)
      have HX := Aside0.mk hx
      clear hb2 hc0 hc1 hc2 hc3 hc4 hc5 hc6 hc7 hx
      simp only
      cases hq : isK k x with
      | true =>
        go_wp2_with fail
        go_ret
        exact ⟨T2.out, .inr ⟨i, hlt, rfl, by rw [HX.out]; exact hq, fun j hj => HN.out j (by omega) hj⟩⟩
      | false =>
        go_wp2_with fail
        go_roundw
        case rel =>
          refine ⟨i + 1, by omega, by go_num, ⟨fun j hj hji => ?_⟩, T2⟩
          by_cases e : j = i
          · subst e
            rw [HX.out]
            exact hq
          · exact HN.out j hj (by omega)
        case measure => simp [intOf]; omega
    · obtain rfl : i = xs.length := by omega
      have hd1 : decide ((xs.length : Int) < (xs.length : Int)) = false := decide_eq_false (by omega)
      have hd2 : decide (xs.length < xs.length) = false := decide_eq_false (by omega)
      go_wp2_with fail
      go_ret
      exact ⟨HT.out, .inl ⟨rfl, fun j hj => HN.out j hj hj⟩⟩
theorem C_nil {α : Type} {d : Kd α} {w : World} {xs : List α} (h : Kd.C d w none xs.length xs) : xs = [] := by
  rcases Nat.eq_zero_or_pos xs.length with h0 | h0
  · exact List.eq_nil_of_length_eq_zero h0
  · obtain ⟨ad, e, _⟩ := h.2.2 h0
    cases e
set_option maxHeartbeats 4000000 in
set_option maxRecDepth 100000 in
theorem Clone_calls (w : World) (A : Option Addr) (c : Nat) (xs : List S35) (h : Kd.C k35 w A xs.length xs) (hl : xs.length ≤ 1000000) : Calls Try.prog 33 #[.slice A xs.length c] w fun e w' => ∃ v, e = .returned v ∧ Kd.R k35 35 w' w.heap.size (fun _ => True) v xs ∧ Below w.heap.size w w' := by
  have HZ := Aside0.mk h
  clear h
  rcases A with _ | ad
  · have hx0 := C_nil HZ.out
    subst hx0
    have hnil : ∀ W : World, (binOp .eql 46 (.slice none ([] : List S35).length c) (.slice none 0 0)).run Try.prog W = .ok (.bool true) W := fun W => Go.Lib.run_eql_slice_nil W 46 35 none _ _ _ _ Try.underlying46
    have hnil2 : ∀ W : World, (binOp .eql 46 (.slice none 0 c) (.slice none 0 0)).run Try.prog W = .ok (.bool true) W := hnil
    go_enter Try.func33, Try.ntmps33
    go_wp2_with fail
    go_ret
    exact ⟨_, rfl, Kd.R_nil _ _ _ _ _, Below.refl _ _⟩
  · have hnil : ∀ W : World, (binOp .eql 46 (.slice (some ad) xs.length c) (.slice none 0 0)).run Try.prog W = .ok (.bool false) W := fun W => Go.Lib.run_eql_slice_nil W 46 35 (some ad) _ _ _ _ Try.underlying46
    go_enter Try.func33, Try.ntmps33
    go_wp2_with (first
      | ((with_reducible refine gate_dst (N := 5) rfl ?_); refine Kd.R_lit k35 _ 35 ?hg (N := 5) ?hd (xs := ([] : List S35)) (inner := []) (ok := fun _ => True) (okp := fun _ => True) ?hr ?hp (fun _ hk => hk) trivial (Below.refl _ _) (Nat.le_refl _) (by simp) ?_; (case hd => rfl); (case hg => rfl); (case hr => first | (go_simp; done) | (go_simp; rfl)); (case hp => exact (Reps.none _ _)); intro v1 w3 ho4 hb4 hg_ hnew_; clear hg_ hnew_; have HO := Aside0.mk ho4; have HB := Aside0.mk hb4; clear ho4 hb4)
      | ((with_reducible refine gate_builtin (b := .append) (xs := #[(.tmp 5), .tmp 6]) rfl ?_); at_builtin; refine Kd.R_append_rows k35 (w0 := w) w.heap.size rfl (.tmp 5) (.tmp 6) 46 35 (.agg #[.int .i64 0, .int .i64 0, .int .i64 0, .string ⟨#[]⟩, .string ⟨#[]⟩, .string ⟨#[]⟩, .int .i64 0, .int .i64 0]) 88 rfl Try.underlying46 info35 rfl (by decide) (by omega) v1 [] xs _ _ _ (fun _ => True) (fun _ => False) rfl rfl ?aO ?aR (fun _ _ h => h) (fun _ h => h.elim) ?aF ?aB ?aS ?aL ?_; (case aR => exact Kd.C_below HZ.out HB.out); (case aB => exact HB.out); (case aF => exact (fun _ _ => trivial)); (case aO => exact HO.out); (case aS => exact HB.out.size); (case aL => simp; omega); intro v2 w5 ho hb hg hat; rw [List.nil_append] at ho; clear HO HB; have HO := Aside0.mk ho; have HB := Aside0.mk hb; clear ho hb hg hat))
    go_ret
    exact ⟨_, rfl, HO.out, HB.out⟩
set_option maxHeartbeats 4000000 in
set_option maxRecDepth 100000 in
theorem All_calls (h : TabAt w base S g most xs n f v m) (hl : xs.length ≤ 1000000) : Calls Try.prog 20 #[.pointer (some ⟨g, 0, none⟩)] w fun e w' => ∃ u, e = .returned u ∧ Kd.R k35 35 w' w.heap.size (fun _ => True) u xs ∧ Below w.heap.size w w' := by
  obtain ⟨A, c, rfl, hlc, hC⟩ := Kd.R_reads h.row
  have HC := Aside0.mk hC
  have c1 : w.cell? ⟨g, 1, none⟩ = some (.slice A xs.length c) := (blk_cell h.blk 1).trans rfl
  clear h hC
  go_enter Try.func20, Try.ntmps20
  go_wp2_with fail
  refine (Clone_calls w A c xs HC.out hl).mono ?_
  rintro e w1 ⟨u, rfl, hr, hb⟩
  have HR := Aside0.mk hr
  have HB := Aside0.mk hb
  clear hr hb
  simp only
  go_wp2_with fail
  go_ret
  exact ⟨_, rfl, HR.out, HB.out⟩
end
end Go.Proofs.Ytojjkgnkdcekpaa.M
