/- slices.Clone at options; ecs.Strip. -/
import Derived.Test.YtjmdfhbenejfgaaHEcs
import Derived.Lib.SliceRun
set_option linter.unusedVariables false
set_option linter.unusedSimpArgs false
namespace Go.Proofs.Ytjmdfhbenejfgaa.M
open Go Go.RowKit Go.Proofs.YtjmdfhbenejfgaaW.PrintWords Go.Proofs.YtjmdfhbenejfgaaW.PrintLast Go.Proofs.YtjmdfhbenejfgaaW.PrintMore Go.Proofs.Ytjmdfhbenejfgaa.P

def CloPost (w : World) (xs : List S52) (e : Ending) (w' : World) : Prop := Below w.heap.size w w' ∧ ((e = .returned (.slice none 0 0) ∧ xs = []) ∨ ∃ g c : Nat, e = .returned (.slice (some ⟨g, 0, none⟩) xs.length c) ∧ w.heap.size ≤ g ∧ xs.length ≤ c ∧ RowB w' g xs)
theorem C_nil {α : Type} {d : Kd α} {w : World} {xs : List α} (h : Kd.C d w none xs.length xs) : xs = [] := by
  rcases Nat.eq_zero_or_pos xs.length with h0 | h0
  · exact List.eq_nil_of_length_eq_zero h0
  · obtain ⟨ad, e, _⟩ := h.2.2 h0
    cases e

set_option maxHeartbeats 4000000 in
set_option maxRecDepth 100000 in
theorem Clone_calls (w : World) (A : Option Addr) (c : Nat) (xs : List S52) (h : Kd.C k52 w A xs.length xs) (hl : xs.length < 5864062014805) : Calls Try.prog 42 #[.slice A xs.length c] w (CloPost w xs) := by
  have HZ := Aside0.mk h
  clear h
  rcases A with _ | ad
  · have HX := Aside0.mk (C_nil HZ.out)
    have hnil : ∀ W : World, (binOp .eql 42 (.slice none xs.length c) (.slice none 0 0)).run Try.prog W = .ok (.bool true) W := fun W => Go.Lib.run_eql_slice_nil W 42 52 none _ _ _ _ Try.underlying42
    go_enter Try.func42, Try.ntmps42
    go_wp2_with fail
    go_ret
    exact ⟨Below.refl _ _, .inl ⟨rfl, HX.out⟩⟩
  · have hnil : ∀ W : World, (binOp .eql 42 (.slice (some ad) xs.length c) (.slice none 0 0)).run Try.prog W = .ok (.bool false) W := fun W => Go.Lib.run_eql_slice_nil W 42 52 (some ad) _ _ _ _ Try.underlying42
    go_enter Try.func42, Try.ntmps42
    go_wp2_with (first
      | ((with_reducible refine gate_dst (N := 5) rfl ?_); refine Kd.R_lit k52 _ 52 ?hg (N := 5) ?hd (xs := ([] : List S52)) (inner := []) (ok := fun _ => True) (okp := fun _ => True) ?hr ?hp (fun _ hk => hk) trivial (Below.refl _ _) (Nat.le_refl _) (by simp) ?_; (case hd => rfl); (case hg => rfl); (case hr => first | (go_simp; done) | (go_simp; rfl)); (case hp => exact (Reps.none _ _)); intro v1 w3 ho4 hb4 hg_ hnew_; clear hg_ hnew_; have HO := Aside0.mk ho4; have HB := Aside0.mk hb4; clear ho4 hb4)
      | ((with_reducible refine gate_builtin (b := .append) (xs := #[(.tmp 5), .tmp 6]) rfl ?_); at_builtin; refine Kd.R_append_rows k52 (w0 := w) w.heap.size rfl (.tmp 5) (.tmp 6) 42 52 (.agg #[(.int .i64 0), (.string ⟨#[]⟩)]) 24 rfl Try.underlying42 info52 rfl (by decide) (by omega) v1 [] xs _ _ _ (fun _ => True) (fun _ => False) rfl rfl ?aO ?aR (fun _ _ h => h) (fun _ h => h.elim) ?aF ?aB ?aS ?aL ?_; (case aR => exact Kd.C_below HZ.out HB.out); (case aB => exact HB.out); (case aF => exact (fun _ _ => trivial)); (case aO => exact HO.out); (case aS => exact HB.out.size); (case aL => simp; omega); intro v2 w5 ho hb hg hat; rw [List.nil_append] at ho; clear HO HB; have HO := Aside0.mk ho; have HB := Aside0.mk hb; clear ho hb hg hat; obtain ⟨A5, c5, e5⟩ := Kd.R_slice HO.out; subst e5))
    go_ret
    refine ⟨HB.out, ?_⟩
    obtain ⟨A', c', he, hl2, hC⟩ := Kd.R_reads HO.out
    obtain ⟨rfl, -, rfl⟩ : A5 = A' ∧ xs.length = xs.length ∧ c5 = c' := by injection he with h4 h5 h6; exact ⟨h4, h5, h6⟩
    obtain ⟨inner, ho⟩ := Kd.R_own HO.out
    rcases ho.2 with ⟨h1, h2⟩ | ⟨g, cap, cur, hv, hg, hh, hnc, hmx, _⟩
    · have hx : xs = [] := List.eq_nil_of_length_eq_zero h2
      subst hx
      exact .inl ⟨by rw [← h1]; rfl, rfl⟩
    · injection hv with h7 h8 h9
      subst h7 h9
      exact .inr ⟨g, c5, rfl, hg, hl2, RowB_of hh hC⟩

/-- A row of options of one's own: none, or a block from base on. -/
def OwnR (w : World) (base : Nat) (v : Value) (ys : List S52) : Prop := ys.length ≤ 9223372036854775807 ∧ ((v = .slice none 0 0 ∧ ys = []) ∨ ∃ g c : Nat, v = .slice (some ⟨g, 0, none⟩) ys.length c ∧ base ≤ g ∧ ys.length ≤ c ∧ RowB w g ys)
theorem below_lower {b B : Nat} {w w' : World} (h : Below B w w') (hb : b ≤ B) : Below b w w' := ⟨h.os, h.tape, h.output, h.size, fun k hk => h.block k (Nat.lt_of_lt_of_le hk hb)⟩
theorem OwnR_C {w : World} {base : Nat} {v : Value} {ys : List S52} (h : OwnR w base v ys) : ∃ A c, v = .slice A ys.length c ∧ ys.length ≤ c ∧ Kd.C k52 w A ys.length ys := by
  obtain ⟨hm, ⟨rfl, rfl⟩ | ⟨g, c, rfl, hg, hc, hR⟩⟩ := h
  · exact ⟨none, 0, rfl, Nat.le_refl _, rfl, by simp, fun h => absurd h (by simp)⟩
  · exact ⟨_, c, rfl, hc, RowB_C hR hm⟩
theorem RowB_same {w w' : World} {g : Nat} {ys : List S52} (h : RowB w g ys) (hb : w'.heap[g]? = w.heap[g]?) : RowB w' g ys := by
  obtain ⟨cs, hh, hc⟩ := h
  exact ⟨cs, hb.trans hh, hc⟩
theorem OwnR_move {w w' : World} {base : Nat} {v : Value} {ys : List S52} (h : OwnR w base v ys) (hm : ∀ k, base ≤ k → k < w.heap.size → w'.heap[k]? = w.heap[k]?) : OwnR w' base v ys := by
  obtain ⟨hl, h1 | ⟨g, c, rfl, hg, hc, hR⟩⟩ := h
  · exact ⟨hl, .inl h1⟩
  · have hlt : g < w.heap.size := by obtain ⟨cs, hh, _⟩ := hR; exact blk_lt hh
    exact ⟨hl, .inr ⟨g, c, rfl, hg, hc, RowB_same hR (hm g hg hlt)⟩⟩
theorem OwnR_lower {w : World} {base b : Nat} {v : Value} {ys : List S52} (h : OwnR w base v ys) (hb : b ≤ base) : OwnR w b v ys := by
  obtain ⟨hl, h1 | ⟨g, c, rfl, hg, hc, hR⟩⟩ := h
  · exact ⟨hl, .inl h1⟩
  · exact ⟨hl, .inr ⟨g, c, rfl, Nat.le_trans hb hg, hc, hR⟩⟩

theorem Clone_own (w : World) (A : Option Addr) (c : Nat) (xs : List S52) (h : Kd.C k52 w A xs.length xs) (hl : xs.length < 5864062014805) : Calls Try.prog 42 #[.slice A xs.length c] w fun e w' => ∃ v, e = .returned v ∧ OwnR w' w.heap.size v xs ∧ Below w.heap.size w w' := by
  refine (Clone_calls w A c xs h hl).mono ?_
  rintro e w' ⟨hb, ⟨rfl, h1⟩ | ⟨g, c, rfl, h1, h2, h3⟩⟩
  · exact ⟨_, rfl, ⟨by omega, .inl ⟨rfl, h1⟩⟩, hb⟩
  · exact ⟨_, rfl, ⟨by omega, .inr ⟨g, c, rfl, h1, h2, h3⟩⟩, hb⟩

set_option maxHeartbeats 4000000 in
set_option maxRecDepth 100000 in
theorem Delete_nil (w : World) : Calls Try.prog 41 #[.slice none 0 0, .func (.func 43) #[] #[]] w fun e w' => e = .returned (.slice none 0 0) ∧ Below w.heap.size w w' := by
  go_enter Try.func41, Try.ntmps41
  go_wp2_with fail
  refine (Index_calls _ none 0 [] ⟨rfl, by simp, fun h => absurd h (by simp)⟩ (Nat.le_refl _)).mono ?_
  rintro e w1 ⟨hb, ⟨rfl, hn⟩ | ⟨k, hk, rfl, ht, hn⟩⟩
  · have HB := Aside0.mk hb
    clear hb hn
    simp only
    go_wp2_with fail
    go_ret
    exact ⟨rfl, HB.out⟩
  · exact absurd hk (by simp)
theorem Delete_own (w : World) (base : Nat) (v : Value) (xs : List S52) (h : OwnR w base v xs) (hb : base ≤ w.heap.size) : Calls Try.prog 41 #[v, .func (.func 43) #[] #[]] w fun e w' => ∃ v', e = .returned v' ∧ OwnR w' base v' (xs.filter notE) ∧ Below base w w' := by
  obtain ⟨hm, ⟨rfl, rfl⟩ | ⟨g, c, rfl, hg, hc, hR⟩⟩ := h
  · refine (Delete_nil w).mono ?_
    rintro e w' ⟨rfl, hB⟩
    exact ⟨_, rfl, ⟨by simp, .inl ⟨rfl, rfl⟩⟩, below_lower hB hb⟩
  · refine (Delete_calls w g c xs hR hm hc).mono ?_
    rintro e w' ⟨rfl, h1, h2⟩
    have hle : (xs.filter notE).length ≤ xs.length := List.length_filter_le _ _
    exact ⟨_, rfl, ⟨by omega, .inr ⟨g, c, rfl, hg, by omega, h1⟩⟩, (Below.refl base w).grown h2 hb (fun j hj => by cases hj; exact hg)⟩

/-- What Strip leaves. -/
def StripPost (w : World) (f0 f1 f2 : Int) (f3 : Bool) (f4 : Int) (ys : List S52) (e : Ending) (w' : World) : Prop := ∃ v, e = .returned (.agg #[.int .i64 f0, .int .i64 f1, .int .i64 f2, .bool f3, .int .i64 f4, v]) ∧ OwnR w' w.heap.size v ys ∧ Below w.heap.size w w'

set_option maxHeartbeats 4000000 in
set_option maxRecDepth 100000 in
theorem Strip_calls (w : World) (f0 f1 f2 : Int) (f3 : Bool) (f4 : Int) (A : Option Addr) (c : Nat) (xs : List S52) (h : Kd.C k52 w A xs.length xs) (hl : xs.length < 5864062014805) : Calls Try.prog 29 #[.agg #[.int .i64 f0, .int .i64 f1, .int .i64 f2, .bool f3, .int .i64 f4, .slice A xs.length c]] w (StripPost w f0 f1 f2 f3 f4 (xs.filter notE)) := by
  have HZ := Aside0.mk h
  clear h
  go_enter Try.func29, Try.ntmps29
  go_wp2_with fail
  generalize hW : (w.alloc _).alloc _ = W
  have b1 : W.heap[w.heap.size]? = some (.cells #[.int .i64 f0, .int .i64 f1, .int .i64 f2, .bool f3, .int .i64 f4, .slice A xs.length c] 44 (0, 0)) := by rw [← hW]; exact blk_below (blk_new w _) (below_alloc (Below.refl _ _) _)
  have b2 : W.heap[w.heap.size + 1]? = some (.cells #[.int .i64 0, .int .i64 0, .int .i64 0, .bool false, .int .i64 0, .slice none 0 0] 44 (0, 0)) := by rw [← hW]; have h2 := blk_new (w.alloc (.cells #[.int .i64 f0, .int .i64 f1, .int .i64 f2, .bool f3, .int .i64 f4, .slice A xs.length c] 44)) (.cells #[.int .i64 0, .int .i64 0, .int .i64 0, .bool false, .int .i64 0, .slice none 0 0] 44); rwa [World.size_alloc] at h2
  have TW : Aside0 (Below w.heap.size w W) := ⟨by rw [← hW]; exact below_alloc (below_alloc (Below.refl w.heap.size w) _) _⟩
  have WS : Aside0 (W.heap.size = w.heap.size + 2) := ⟨by rw [← hW]; simp⟩
  have HZ2 := Aside0.mk (Kd.C_below HZ.out (TW.out))
  have B1 := Aside0.mk b1
  have B2 := Aside0.mk b2
  clear hW HZ b1 b2
  refine (Clone_own _ A c xs HZ2.out hl).mono ?_
  rintro e w1 ⟨v, rfl, ho, hb⟩
  have HB1 := Aside0.mk hb
  have HO := Aside0.mk ho
  clear hb ho
  simp only
  go_wp2_with fail
  refine (Delete_own _ W.heap.size v xs HO.out HB1.out.size).mono ?_
  rintro e w2 ⟨v2, rfl, ho, hb⟩
  obtain ⟨A2, c2, rfl, hl2, -⟩ := OwnR_C ho
  have HB2 := Aside0.mk (HB1.out.trans hb)
  have hws := WS.out
  have d1 := (HB2.out.block w.heap.size (by omega)).trans B1.out
  have d2 := (HB2.out.block (w.heap.size + 1) (by omega)).trans B2.out
  have D1 := Aside0.mk d1
  have D2 := Aside0.mk d2
  have HO2 := Aside0.mk ho
  have TB := Aside0.mk (below_then TW.out TW.out.size (below_lower HB2.out (Nat.le_refl _)))
  have c10 : w2.cell? ⟨w.heap.size, 0, none⟩ = some (.int .i64 f0) := (blk_cell d1 0).trans rfl
  have c11 : w2.cell? ⟨w.heap.size, 1, none⟩ = some (.int .i64 f1) := (blk_cell d1 1).trans rfl
  have c12 : w2.cell? ⟨w.heap.size, 2, none⟩ = some (.int .i64 f2) := (blk_cell d1 2).trans rfl
  have c13 : w2.cell? ⟨w.heap.size, 3, none⟩ = some (.bool f3) := (blk_cell d1 3).trans rfl
  have c14 : w2.cell? ⟨w.heap.size, 4, none⟩ = some (.int .i64 f4) := (blk_cell d1 4).trans rfl
  have c15 : w2.cell? ⟨w.heap.size, 5, none⟩ = some (.slice A xs.length c) := (blk_cell d1 5).trans rfl
  have e15 : w2.frozen? ⟨w.heap.size, 5, none⟩ = false := blk_frozen d1 5
  have c20 : w2.cell? ⟨w.heap.size + 1, 0, none⟩ = some (.int .i64 0) := (blk_cell d2 0).trans rfl
  have c21 : w2.cell? ⟨w.heap.size + 1, 1, none⟩ = some (.int .i64 0) := (blk_cell d2 1).trans rfl
  have c22 : w2.cell? ⟨w.heap.size + 1, 2, none⟩ = some (.int .i64 0) := (blk_cell d2 2).trans rfl
  have c23 : w2.cell? ⟨w.heap.size + 1, 3, none⟩ = some (.bool false) := (blk_cell d2 3).trans rfl
  have c24 : w2.cell? ⟨w.heap.size + 1, 4, none⟩ = some (.int .i64 0) := (blk_cell d2 4).trans rfl
  have c25 : w2.cell? ⟨w.heap.size + 1, 5, none⟩ = some (.slice none 0 0) := (blk_cell d2 5).trans rfl
  have e20 : w2.frozen? ⟨w.heap.size + 1, 0, none⟩ = false := blk_frozen d2 0
  have e21 : w2.frozen? ⟨w.heap.size + 1, 1, none⟩ = false := blk_frozen d2 1
  have e22 : w2.frozen? ⟨w.heap.size + 1, 2, none⟩ = false := blk_frozen d2 2
  have e23 : w2.frozen? ⟨w.heap.size + 1, 3, none⟩ = false := blk_frozen d2 3
  have e24 : w2.frozen? ⟨w.heap.size + 1, 4, none⟩ = false := blk_frozen d2 4
  have e25 : w2.frozen? ⟨w.heap.size + 1, 5, none⟩ = false := blk_frozen d2 5
  have hne : w.heap.size + 1 ≠ w.heap.size := by omega
  generalize xs.filter notE = ys at *
  clear HB1 HO hb ho d1 d2 B1 B2 HB2 TW
  simp only
  go_wp2_with fail
  refine bodyPost_ret (results_cell_row rfl _ _ (w.heap.size + 1) 44 #[.int .i64 f0, .int .i64 f1, .int .i64 f2, .bool f3, .int .i64 f4, .slice A2 ys.length c2] (0, 0) _ rfl (by
    refine blk_put (cs := #[.int .i64 f0, .int .i64 f1, .int .i64 f2, .bool f3, .int .i64 f4, .slice none 0 0]) ?_ 5 _ rfl
    refine blk_put (cs := #[.int .i64 f0, .int .i64 f1, .int .i64 f2, .bool f3, .int .i64 0, .slice none 0 0]) ?_ 4 _ rfl
    refine blk_put (cs := #[.int .i64 f0, .int .i64 f1, .int .i64 f2, .bool false, .int .i64 0, .slice none 0 0]) ?_ 3 _ rfl
    refine blk_put (cs := #[.int .i64 f0, .int .i64 f1, .int .i64 0, .bool false, .int .i64 0, .slice none 0 0]) ?_ 2 _ rfl
    refine blk_put (cs := #[.int .i64 f0, .int .i64 0, .int .i64 0, .bool false, .int .i64 0, .slice none 0 0]) ?_ 1 _ rfl
    refine blk_put (cs := #[.int .i64 0, .int .i64 0, .int .i64 0, .bool false, .int .i64 0, .slice none 0 0]) ?_ 0 _ rfl
    exact blk_far D2.out hne _) Try.underlying44 rfl (by kernel_rfl)) rfl ?_
  refine ⟨_, rfl, OwnR_lower (OwnR_move HO2.out (fun k hk _ => ?_)) (by omega), ?_⟩
  · have n1 : k ≠ w.heap.size := by omega
    have n2 : k ≠ w.heap.size + 1 := by omega
    have s1 : ∀ (X : World) (i : Nat) (u : Value), (X.setCell ⟨w.heap.size, i, none⟩ u).heap[k]? = X.heap[k]? := fun X i u => Below.heap_setCell X ⟨w.heap.size, i, none⟩ u k n1
    have s2 : ∀ (X : World) (i : Nat) (u : Value), (X.setCell ⟨w.heap.size + 1, i, none⟩ u).heap[k]? = X.heap[k]? := fun X i u => Below.heap_setCell X ⟨w.heap.size + 1, i, none⟩ u k n2
    rw [s2, s2, s2, s2, s2, s2, s1]
  · have g1 : w.heap.size ≤ w.heap.size := Nat.le_refl _
    have g2 : w.heap.size ≤ w.heap.size + 1 := by omega
    exact below_set (below_set (below_set (below_set (below_set (below_set (below_set TB.out g1) g2) g2) g2) g2) g2) g2
end Go.Proofs.Ytjmdfhbenejfgaa.M
