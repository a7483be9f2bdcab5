/- JobStacks: tasks are pushed and popped, the last one first. -/
import Derived.Test.YtkmdjcdmgmffiaaHJob10
import Derived.Test.YtkmdjcdmgmffiaaPx7
set_option linter.unusedVariables false
set_option linter.unusedSimpArgs false
namespace Go.Proofs.Ytkmdjcdmgmffiaa.M
open Go Go.RowKit Go.ChangeMaps Go.Proofs.YtkmdjcdmgmffiaaW.PrintWords Go.Proofs.YtkmdjcdmgmffiaaW.PrintLast Go.Proofs.YtkmdjcdmgmffiaaW.PrintMore Go.Proofs.Ytkmdjcdmgmffiaa.P

def tk (n : ByteArray) (t i : Int) : T34 := ⟨n, t, ⟨#[]⟩, n, i, false, 0, 0⟩
def t1 : T34 := ⟨⟨#[1, 97, 0]⟩, 1, ⟨#[0]⟩, ⟨#[0]⟩, 0, false, 0, 0⟩
/-- A job and a slice beside it that hold the same tasks. -/
structure Two (w : World) (base g m : Nat) (u : Value) (hs : List T34) : Prop where
  job : ∃ v, JobAt w base (fun k => u.ownBlock ≠ some k) g 1 hs 4 3 20 0 [] v m
  row : Kd.R k34 34 w base (fun _ => True) u hs
  len : hs.length ≤ 5
def S0 (u : Value) (a b : Nat) : Nat → Prop := fun k => u.ownBlock ≠ some k ∧ (k < a ∨ b ≤ k)
section
variable {w W w' w2 : World} {base g m a b : Nat} {u u' v : Value} {hs hs' : List T34}
theorem JobAt.bound {S : Nat → Prop} (h : JobAt w base S g 1 hs 4 3 20 0 [] v m) : JobAt w base (fun k => S k ∧ k < w.heap.size) g 1 hs 4 3 20 0 [] v m :=
  ⟨h.blk, h.lo, h.mlo, Kd.R_mono (Kd.R_bound h.row) (fun k hk => ⟨hk.1, hk.2.2.1⟩), h.tried, ⟨h.sg, blk_lt h.blk⟩, ⟨h.sm, Seen_lt h.tried⟩⟩
theorem Two.below (h : Two w base g m u hs) (hb : Below w.heap.size w W) : Two W base g m u hs := by
  obtain ⟨⟨v, hj⟩, hr, hl⟩ := h
  exact ⟨⟨v, hj.below hb⟩, Kd.R_below hr hb, hl⟩
theorem Two.at_ (h : Two w base g m u hs) (hb : Below w.heap.size w W) : ∃ v, JobAt W base (S0 u w.heap.size W.heap.size) g 1 hs 4 3 20 0 [] v m := by
  obtain ⟨⟨v, hj⟩, hr, hl⟩ := h
  exact ⟨v, (hj.bound.below hb).mono (fun k hk => ⟨hk.1, Or.inl hk.2⟩)⟩
theorem Two.fresh (h : Two w base g m u hs) (hb : Below w.heap.size w W) : ∀ k, W.heap.size ≤ k → S0 u w.heap.size W.heap.size k := fun k hk => ⟨fun e => by have := Kd.R_lt h.row k e; have := hb.size; omega, Or.inr hk⟩
theorem Two.rowAt (h : Two w base g m u hs) (hb : Below w.heap.size w W) (hk : Kept W w' (S0 u a b)) : Kd.R k34 34 w' base (fun _ => True) u hs :=
  Kd.R_mono (Kd.R_kept (Kd.R_tight k34_E (Kd.R_below h.row hb)) hk (fun k hk hs => hs.1 hk.symm)) (fun _ _ => trivial)
theorem Two.again (hj : JobAt w base (S0 u a b) g 1 hs 4 3 20 0 [] v m) (hr : Kd.R k34 34 w base (fun _ => True) u' hs) (hu : u'.ownBlock = u.ownBlock) (hl : hs.length ≤ 5) : Two w base g m u' hs :=
  ⟨⟨v, hj.mono (fun k hk => by rw [hu]; exact hk.1)⟩, hr, hl⟩
theorem Two.grown (hj : JobAt w base (S0 u a b) g 1 hs 4 3 20 0 [] v m) (hg : w.grownBy W u.ownBlock) (hr : Kd.R k34 34 W base (fun _ => True) u' hs) (hu : u'.ownBlock = u.ownBlock ∨ ∃ b, u'.ownBlock = some b ∧ w.heap.size ≤ b) (hl : hs.length ≤ 5) : Two W base g m u' hs := by
  have hb := hj.bound
  refine ⟨⟨v, ⟨blk_grown hb.blk hg (fun e => hb.sg.1.1 e.symm), hb.lo, hb.mlo, Kd.R_mono (Kd.R_grown hb.row hg (fun k hk e => hk.1.1 e.symm)) (fun k hk => ?_), Seen_kept hb.tried hg (fun e => hb.sm.1.1 e.symm), ?_, ?_⟩⟩, hr, hl⟩
  all_goals
    have key : ∀ k, S0 u a b k ∧ k < w.heap.size → u'.ownBlock ≠ some k := by
      intro k hk
      rcases hu with e | ⟨b, e, hb⟩
      · rw [e]; exact hk.1.1
      · rw [e]
        intro e2
        injection e2 with e2
        omega
  · exact key k hk
  · exact key g hb.sg
  · exact key m hb.sm
end
set_option maxHeartbeats 4000000 in
set_option maxRecDepth 100000 in
theorem stacks_walk (w : World) (A : Option Addr) (c : Nat) (ns : List ByteArray) (A1 : Option Addr) (c1 : Nat) (tys : List Int) (hh : Kd.C Kd.string w A ns.length ns) (hc : ns.length ≤ c) (hh1 : Kd.C (Kd.int .i64) w A1 tys.length tys) (hc1 : tys.length ≤ c1) : Calls Try.prog 5 #[.slice A ns.length c, .slice A1 tys.length c1] w fun e w' => e = .returned (.bool true) ∧ Below w.heap.size w w' := by
  have H := Aside0.mk hh
  have H1 := Aside0.mk hh1
  clear hh hh1
  go_enter Try.func5, Try.ntmps5
  go_wp2_with fail
  refine (awake_calls w).mono ?_
  rintro e w1 ⟨rfl, hb1⟩
  have B1 := Aside0.mk hb1
  clear hb1
  simp only
  go_wp2_with fail
  refine (wimplelaw23_Plain.calls _ _ _ _ _ _ _ _ _ _ _ w1 rfl).mono ?_
  rintro e w2 ⟨v0, v10, rfl, R43, R10, hb2⟩
  have R43' := Aside0.mk R43
  have R10' := Aside0.mk R10
  have B2 := Aside0.mk (below_then B1.out B1.out.size hb2)
  obtain ⟨A0, c0, e0⟩ := Kd.R_slice R43
  obtain ⟨A10, c10, e10⟩ := Kd.R_slice R10
  have e0' : v0 = .slice A0 1 c0 := e0
  have e10' : v10 = .slice A10 3 c10 := e10
  clear R43 R10 hb2 B1 e0 e10
  subst e0' e10'
  simp only
  go_wp2_with fail
  generalize hW : w2.alloc _ = W2
  have BW : Aside0 (Below w2.heap.size w2 W2) := ⟨by rw [← hW]; exact below_alloc (Below.refl _ _) _⟩
  clear hW
  have hnew := new_plain R43'.out R10'.out W2 BW.out 20 4 3 1 1 ⟨#[1, 97, 0]⟩ t1 (by omega) (by omega) (by omega) (by omega) (fun _ => True) (fun _ _ => trivial) task_a
  unfold cfg at hnew
  refine hnew.mono ?_
  rintro e w3 ⟨⟨g, v, m, rfl, hJ⟩, hb⟩
  have B3 := Aside0.mk (below_then (below_then B2.out B2.out.size BW.out) (below_then B2.out B2.out.size BW.out).size hb)
  have J3 := Aside0.mk (hJ.lower (below_then B2.out B2.out.size BW.out).size)
  clear hJ hb hnew R43' R10' B2 BW
  simp only
  go_wp2_with fail
  refine (Top_some J3.out 0 rfl (by omega) t1 rfl).mono ?_
  rintro e w4 ⟨rfl, hb⟩
  have J4 := Aside0.mk (J3.out.below hb)
  have B4 := Aside0.mk (below_then B3.out B3.out.size hb)
  clear hb J3 B3
  unfold v34 t1
  simp only
  go_wp2_with fail
  have RR := R_lit1 (w4.alloc (.cells (c34 t1).toArray 34)) w.heap.size (Nat.le_trans B4.out.size (below_alloc (Below.refl _ _) _).size) (fun _ => True) trivial t1
  rw [size_alloc'] at RR
  have JJ : JobAt ((w4.alloc (.cells (c34 t1).toArray 34)).alloc (.cells (c34 t1).toArray 34)) w.heap.size (fun k => (Value.slice (some ⟨w4.heap.size + 1, 0, none⟩) 1 1).ownBlock ≠ some k) g 1 [t1] 4 3 20 0 [] v m := ((J4.out.bound.below (below_alloc (Below.refl _ _) _)).below (below_alloc (Below.refl _ _) _)).mono (fun k hk => by intro e; simp [Value.ownBlock] at e; omega)
  have B5 : Aside0 (Below w.heap.size w ((w4.alloc (.cells (c34 t1).toArray 34)).alloc (.cells (c34 t1).toArray 34))) := ⟨below_alloc (below_alloc B4.out _) _⟩
  have T5 : Aside0 (Two ((w4.alloc (.cells (c34 t1).toArray 34)).alloc (.cells (c34 t1).toArray 34)) w.heap.size g m (.slice (some ⟨w4.heap.size + 1, 0, none⟩) 1 1) [t1]) := ⟨⟨⟨v, JJ⟩, RR, by decide⟩⟩
  clear RR JJ J4 B4
  dsimp only [c34, t1] at B5 T5
  generalize (w4.alloc _).alloc _ = W5 at *
  generalize Value.slice (some ⟨w4.heap.size + 1, 0, none⟩) 1 1 = u10 at *
  go_loopw [10, 11, 12, 13, 14, 15] (fun v10 v11 v12 v13 v14 v15 wr => ∃ (i : Nat) (hs : List T34), i ≤ ns.length ∧ i ≤ tys.length ∧ i ≤ 30 ∧ v11 = .int .i64 i ∧ Aside0 (Two wr w.heap.size g m v10 hs) ∧ Aside0 (Below w.heap.size w wr)) (fun _ v11 _ _ _ _ _ => ns.length - (intOf v11).toNat)
  case atStart => exact ⟨0, _, Nat.zero_le _, Nat.zero_le _, by omega, rfl, T5, B5⟩
  case round =>
    obtain ⟨i, hs, hi, hit, hi30, rfl, HT, HB⟩ := hrel
    clear T5 B5
    by_cases hlt : i < ns.length ∧ i < tys.length ∧ i < 30
    · have hd1 : decide ((i : Int) < (ns.length : Int)) = true := decide_eq_true (by omega)
      have hd2 : decide (i < ns.length) = true := decide_eq_true hlt.1
      have hd3 : decide ((i : Int) < (tys.length : Int)) = true := decide_eq_true (by omega)
      have hd4 : decide (i < tys.length) = true := decide_eq_true hlt.2.1
      have hd5 : decide ((i : Int) < 30) = true := decide_eq_true (by omega)
      have hd6 : ((i : Int) < 30) = True := eq_true (by omega)
      have hd7 : (i < ns.length) = True := eq_true hlt.1
      have hd8 : (i < tys.length) = True := eq_true hlt.2.1
      obtain ⟨ad, rfl, hc0⟩ := Kd.at_string (Kd.C_below H.out HB.out) (i : Int) (by omega) (by omega)
      obtain ⟨ad1, rfl, hc1'⟩ := Kd.at_int (Kd.C_below H1.out HB.out) (i : Int) (by omega) (by omega)
      simp only [Int.toNat_natCast] at hc0 hc1'
      generalize rdOf ByteArray.empty ns (i : Int) = nm at *
      generalize rd tys (i : Int) = ty at *
      obtain ⟨A5, c5, e5⟩ := Kd.R_slice HT.out.row
      subst e5
      have d0 : ∀ o, (wr.alloc o).cell? (ad.add i) = some (.string nm) := fun o => alloc_cell hc0 o
      have d1 : ∀ o, (wr.alloc o).cell? (ad1.add i) = some (.int .i64 ty) := fun o => alloc_cell hc1' o
      go_wp2_with fail
      go_big_region
      (try simp only [Exit.then])
      generalize hWX : (wr.alloc _).drew = WX
      have BX : Aside0 (Below wr.heap.size wr WX) := ⟨by rw [← hWX]; exact below_drew (below_alloc (Below.refl _ _) _)⟩
      have KX : Aside0 (WX.heap[wr.heap.size]? = some (.cells #[.string nm, .int .i64 ty, .string ⟨#[]⟩, .string nm, .int .i64 i, .bool false, .int .i64 0, .int .i64 0] 34 (0, 0))) := ⟨by rw [← hWX]; exact blk_drew (blk_new wr _)⟩
      have SX : Aside0 (WX.heap.size = wr.heap.size + 1) := ⟨by rw [← hWX]; exact size_alloc' _ _⟩
      have e1 : WX.cell? (ad1.add i) = some (.int .i64 ty) := pw_cell_below BX.out hc1'
      have BB := Aside0.mk (below_then HB.out HB.out.size BX.out)
      clear hWX d0 d1 hc0 hc1' HB hd1 hd2 hd3 hd4 hd5 hd6
      obtain ⟨vj, hj⟩ := HT.out.at_ BX.out
      have HJ := Aside0.mk hj
      clear hj
      have NX : Aside0 (¬ S0 (.slice A5 hs.length c5) wr.heap.size WX.heap.size wr.heap.size) := ⟨fun h => by have := SX.out; rcases h.2 with h | h <;> omega⟩
      obtain ⟨kk, hkk⟩ : ∃ kk, bits BinOp.and IntKind.i64 ty 3 = kk := ⟨_, rfl⟩
      have hkc : kk = 0 ∨ kk = 1 ∨ kk = 2 ∨ kk = 3 := by rw [and3] at hkk; omega
      have x0 : WX.cell? ⟨wr.heap.size, 0, none⟩ = some (.string nm) := (blk_cell KX.out 0).trans rfl
      have x1 : WX.cell? ⟨wr.heap.size, 1, none⟩ = some (.int .i64 ty) := (blk_cell KX.out 1).trans rfl
      have x2 : WX.cell? ⟨wr.heap.size, 2, none⟩ = some (.string ⟨#[]⟩) := (blk_cell KX.out 2).trans rfl
      have x3 : WX.cell? ⟨wr.heap.size, 3, none⟩ = some (.string nm) := (blk_cell KX.out 3).trans rfl
      have x4 : WX.cell? ⟨wr.heap.size, 4, none⟩ = some (.int .i64 i) := (blk_cell KX.out 4).trans rfl
      have x5 : WX.cell? ⟨wr.heap.size, 5, none⟩ = some (.bool false) := (blk_cell KX.out 5).trans rfl
      have x6 : WX.cell? ⟨wr.heap.size, 6, none⟩ = some (.int .i64 0) := (blk_cell KX.out 6).trans rfl
      have x7 : WX.cell? ⟨wr.heap.size, 7, none⟩ = some (.int .i64 0) := (blk_cell KX.out 7).trans rfl
      rcases hkc with rfl | rfl | rfl | rfl
      case inl =>
        by_cases hl : hs.length ≤ 4
        · have P := Push_room HJ.out (tk nm ty i) (by omega) (by omega) (HT.out.fresh BX.out)
          dsimp only [v34, tk] at P
          go_wp2_with fail
          refine P.mono ?_
          rintro e w7 ⟨rfl, ⟨v7, hj7⟩, hb7, hk7⟩
          have J7 := Aside0.mk hj7
          have R7 := Aside0.mk (HT.out.rowAt BX.out hk7)
          have B7 := Aside0.mk (BB.out.trans hb7)
          have K7 := Aside0.mk (blk_kept KX.out hk7 NX.out)
          have y0 : w7.cell? ⟨wr.heap.size, 0, none⟩ = some (.string nm) := (blk_cell K7.out 0).trans rfl
          have y1 : w7.cell? ⟨wr.heap.size, 1, none⟩ = some (.int .i64 ty) := (blk_cell K7.out 1).trans rfl
          have y2 : w7.cell? ⟨wr.heap.size, 2, none⟩ = some (.string ⟨#[]⟩) := (blk_cell K7.out 2).trans rfl
          have y3 : w7.cell? ⟨wr.heap.size, 3, none⟩ = some (.string nm) := (blk_cell K7.out 3).trans rfl
          have y4 : w7.cell? ⟨wr.heap.size, 4, none⟩ = some (.int .i64 i) := (blk_cell K7.out 4).trans rfl
          have y5 : w7.cell? ⟨wr.heap.size, 5, none⟩ = some (.bool false) := (blk_cell K7.out 5).trans rfl
          have y6 : w7.cell? ⟨wr.heap.size, 6, none⟩ = some (.int .i64 0) := (blk_cell K7.out 6).trans rfl
          have y7 : w7.cell? ⟨wr.heap.size, 7, none⟩ = some (.int .i64 0) := (blk_cell K7.out 7).trans rfl
          have hl1 : decide ((hs.length : Int) ≤ 4) = true := decide_eq_true (by omega)
          have hl2 : (hs.length ≤ 4) = True := eq_true hl
          clear P hj7 hb7 hk7 x0 x1 x2 x3 x4 x5 x6 x7 e1 HJ KX BX NX SX BB
          simp only
          go_wp2_with ((with_reducible refine gate_builtin (b := .append) (xs := #[.tmp 91, .tmp 93]) rfl ?_); at_builtin; refine Kd.R_append k34 (w0 := w7) w.heap.size rfl (.tmp 91) (.tmp 93) 46 34 (.agg #[.string ⟨#[]⟩, .int .i64 0, .string ⟨#[]⟩, .string ⟨#[]⟩, .int .i64 0, .bool false, .int .i64 0, .int .i64 0]) 88 rfl Try.underlying46 info34 rfl (by decide) (by omega) (.slice A5 hs.length c5) hs (tk nm ty i) (c34 (tk nm ty i)) (fun _ => True) (fun _ => False) rfl rfl (k34_mkM _ _ _ _) (fun _ hk => hk.elim) (fun _ _ => trivial) R7.out (Below.refl _ _) B7.out.size (by show (hs.length + 1) * 88 ≤ _; omega) ?_; intro v8 w8 ho hb hg hat; have T8 : Aside0 (Two w8 w.heap.size g m v8 (hs ++ [tk nm ty i])) := ⟨Two.grown J7.out hg ho hat (by simp; omega)⟩; have B8 := Aside0.mk (B7.out.trans hb); clear ho hb hg hat R7 J7 B7 K7 y0 y1 y2 y3 y4 y5 y6 y7)
          clear hl1 hl2
          obtain ⟨L, hL⟩ : ∃ L, hs ++ [tk nm ty i] = L := ⟨_, rfl⟩
          rw [hL] at T8
          obtain ⟨k, hk⟩ : ∃ k, L.length = k + 1 := ⟨hs.length, by rw [← hL]; simp⟩
          clear hL
          obtain ⟨q9, c9, e9, hq9⟩ := Kd.R_form T8.out.row (by omega)
          rw [hk] at e9
          subst e9
          clear hq9
          obtain ⟨v9, hj9⟩ := T8.out.job
          obtain ⟨y, hy⟩ : ∃ y, L.getD k z34 = y := ⟨_, rfl⟩
          have hk5 : k ≤ 4 := by have := T8.out.len; omega
          refine (Top_some hj9 k hk (by omega) y hy).mono ?_
          rintro e w9 ⟨rfl, hb9⟩
          have T9 := Aside0.mk (T8.out.below hb9)
          have B9 := Aside0.mk (below_then B8.out B8.out.size hb9)
          clear hj9 hb9 T8 B8
          have hc9 := last_cells T9.out.row y hy
          unfold v34
          simp only
          go_wp2_with fail
          generalize hWY : w9.alloc _ = WY
          have T10 : Aside0 (Two WY w.heap.size g m (.slice (some ⟨q9, 0, none⟩) (k + 1) c9) L) := ⟨by rw [← hWY]; exact T9.out.below (below_alloc (Below.refl _ _) _)⟩
          have B10 : Aside0 (Below w.heap.size w WY) := ⟨by rw [← hWY]; exact below_alloc B9.out _⟩
          have z0 : WY.cell? ⟨w9.heap.size, 0, none⟩ = some (.string y.f0) := by rw [← hWY]; exact (blk_cell (blk_new w9 _) 0).trans rfl
          have z1 : WY.cell? ⟨w9.heap.size, 1, none⟩ = some (.int .i64 y.f1) := by rw [← hWY]; exact (blk_cell (blk_new w9 _) 1).trans rfl
          have z2 : WY.cell? ⟨w9.heap.size, 2, none⟩ = some (.string y.f2) := by rw [← hWY]; exact (blk_cell (blk_new w9 _) 2).trans rfl
          have z3 : WY.cell? ⟨w9.heap.size, 3, none⟩ = some (.string y.f3) := by rw [← hWY]; exact (blk_cell (blk_new w9 _) 3).trans rfl
          have z4 : WY.cell? ⟨w9.heap.size, 4, none⟩ = some (.int .i64 y.f4) := by rw [← hWY]; exact (blk_cell (blk_new w9 _) 4).trans rfl
          have z5 : WY.cell? ⟨w9.heap.size, 5, none⟩ = some (.bool y.f5) := by rw [← hWY]; exact (blk_cell (blk_new w9 _) 5).trans rfl
          have z6 : WY.cell? ⟨w9.heap.size, 6, none⟩ = some (.int .i64 y.f6) := by rw [← hWY]; exact (blk_cell (blk_new w9 _) 6).trans rfl
          have z7 : WY.cell? ⟨w9.heap.size, 7, none⟩ = some (.int .i64 y.f7) := by rw [← hWY]; exact (blk_cell (blk_new w9 _) 7).trans rfl
          have u0_ : WY.cell? ⟨q9, k * 8, none⟩ = some (.string y.f0) := by rw [← hWY]; exact alloc_cell (hc9 0 _ rfl) _
          have u1_ : WY.cell? ⟨q9, k * 8 + 1, none⟩ = some (.int .i64 y.f1) := by rw [← hWY]; exact alloc_cell (hc9 1 _ rfl) _
          have u2_ : WY.cell? ⟨q9, k * 8 + 2, none⟩ = some (.string y.f2) := by rw [← hWY]; exact alloc_cell (hc9 2 _ rfl) _
          have u3_ : WY.cell? ⟨q9, k * 8 + 3, none⟩ = some (.string y.f3) := by rw [← hWY]; exact alloc_cell (hc9 3 _ rfl) _
          have u4_ : WY.cell? ⟨q9, k * 8 + 4, none⟩ = some (.int .i64 y.f4) := by rw [← hWY]; exact alloc_cell (hc9 4 _ rfl) _
          have u5_ : WY.cell? ⟨q9, k * 8 + 5, none⟩ = some (.bool y.f5) := by rw [← hWY]; exact alloc_cell (hc9 5 _ rfl) _
          have u6_ : WY.cell? ⟨q9, k * 8 + 6, none⟩ = some (.int .i64 y.f6) := by rw [← hWY]; exact alloc_cell (hc9 6 _ rfl) _
          have u7_ : WY.cell? ⟨q9, k * 8 + 7, none⟩ = some (.int .i64 y.f7) := by rw [← hWY]; exact alloc_cell (hc9 7 _ rfl) _
          obtain ⟨v10, hj10⟩ := T10.out.job
          have hdep : ∀ n, Calls Try.prog 14 #[.pointer (some ⟨g, 0, none⟩)] (WY.drewN n) fun e w' => e = .returned (.int .i64 ((k + 1 : Nat) : Int)) ∧ w' = WY.drewN n := by rw [← hk]; exact fun n => Depth_calls (hj10.below (pw_below_drewN (Below.refl _ _) n))
          have hdep := Aside0.mk hdep
          clear hWY hc9 T9 B9 hj10 hy
          have hw : IntKind.i64.wrap (k : Int) = (k : Int) := IntWalk.i64_in _ (by omega)
          have e5 : ((k : Int) < (k : Int) + 1) = True := eq_true (by omega)
          have e6 : decide ((0 : Int) < (k : Int) + 1) = true := decide_eq_true (by omega)
          have e7 : decide ((k : Int) + 1 > 0) = true := decide_eq_true (by omega)
          have e8 : ((0 : Int) < (k : Int) + 1) = True := eq_true (by omega)
          go_quiet (first | (go_at_call 14; refine Calls.quiet_of_same (hdep.out _)))
          all_goals
            clear z0 u0_ z1 u1_ z2 u2_ z3 u3_ z4 u4_ z5 u5_ z6 u6_ z7 u7_
            (try simp only [Exit.then])
            go_wp2_with fail
            go_roundw
            case rel => exact ⟨i + 1, L, by omega, by omega, by omega, by go_num, ⟨T10.out.below (pw_below_drewN (Below.refl _ _) _)⟩, ⟨pw_below_drewN B10.out _⟩⟩
            case measure => simp [intOf]; omega
        · have P := Push_full HJ.out (tk nm ty i) (by omega)
          dsimp only [v34, tk] at P
          go_wp2_with fail
          refine P.mono ?_
          rintro e w8 ⟨rfl, hb8⟩
          have T8 := Aside0.mk ((HT.out.below BX.out).below hb8)
          have B8 := Aside0.mk (below_then BB.out BB.out.size hb8)
          have hl1 : decide ((hs.length : Int) ≤ 4) = false := decide_eq_false (by omega)
          have hl2 : (hs.length ≤ 4) = False := eq_false hl
          clear P hb8 x0 x1 x2 x3 x4 x5 x6 x7 e1 HJ KX BX NX SX BB
          simp only
          go_wp2_with fail
          generalize Value.slice A5 hs.length c5 = v8 at *
          obtain ⟨L, hL⟩ : ∃ L, hs = L := ⟨_, rfl⟩
          subst hL
          clear hl1 hl2
          obtain ⟨k, hk⟩ : ∃ k, hs.length = k + 1 := ⟨hs.length - 1, by omega⟩
          clear hl
          obtain ⟨q9, c9, e9, hq9⟩ := Kd.R_form T8.out.row (by omega)
          rw [hk] at e9
          subst e9
          clear hq9
          obtain ⟨v9, hj9⟩ := T8.out.job
          obtain ⟨y, hy⟩ : ∃ y, hs.getD k z34 = y := ⟨_, rfl⟩
          have hk5 : k ≤ 4 := by have := T8.out.len; omega
          refine (Top_some hj9 k hk (by omega) y hy).mono ?_
          rintro e w9 ⟨rfl, hb9⟩
          have T9 := Aside0.mk (T8.out.below hb9)
          have B9 := Aside0.mk (below_then B8.out B8.out.size hb9)
          clear hj9 hb9 T8 B8
          have hc9 := last_cells T9.out.row y hy
          unfold v34
          simp only
          go_wp2_with fail
          generalize hWY : w9.alloc _ = WY
          have T10 : Aside0 (Two WY w.heap.size g m (.slice (some ⟨q9, 0, none⟩) (k + 1) c9) hs) := ⟨by rw [← hWY]; exact T9.out.below (below_alloc (Below.refl _ _) _)⟩
          have B10 : Aside0 (Below w.heap.size w WY) := ⟨by rw [← hWY]; exact below_alloc B9.out _⟩
          have z0 : WY.cell? ⟨w9.heap.size, 0, none⟩ = some (.string y.f0) := by rw [← hWY]; exact (blk_cell (blk_new w9 _) 0).trans rfl
          have z1 : WY.cell? ⟨w9.heap.size, 1, none⟩ = some (.int .i64 y.f1) := by rw [← hWY]; exact (blk_cell (blk_new w9 _) 1).trans rfl
          have z2 : WY.cell? ⟨w9.heap.size, 2, none⟩ = some (.string y.f2) := by rw [← hWY]; exact (blk_cell (blk_new w9 _) 2).trans rfl
          have z3 : WY.cell? ⟨w9.heap.size, 3, none⟩ = some (.string y.f3) := by rw [← hWY]; exact (blk_cell (blk_new w9 _) 3).trans rfl
          have z4 : WY.cell? ⟨w9.heap.size, 4, none⟩ = some (.int .i64 y.f4) := by rw [← hWY]; exact (blk_cell (blk_new w9 _) 4).trans rfl
          have z5 : WY.cell? ⟨w9.heap.size, 5, none⟩ = some (.bool y.f5) := by rw [← hWY]; exact (blk_cell (blk_new w9 _) 5).trans rfl
          have z6 : WY.cell? ⟨w9.heap.size, 6, none⟩ = some (.int .i64 y.f6) := by rw [← hWY]; exact (blk_cell (blk_new w9 _) 6).trans rfl
          have z7 : WY.cell? ⟨w9.heap.size, 7, none⟩ = some (.int .i64 y.f7) := by rw [← hWY]; exact (blk_cell (blk_new w9 _) 7).trans rfl
          have u0_ : WY.cell? ⟨q9, k * 8, none⟩ = some (.string y.f0) := by rw [← hWY]; exact alloc_cell (hc9 0 _ rfl) _
          have u1_ : WY.cell? ⟨q9, k * 8 + 1, none⟩ = some (.int .i64 y.f1) := by rw [← hWY]; exact alloc_cell (hc9 1 _ rfl) _
          have u2_ : WY.cell? ⟨q9, k * 8 + 2, none⟩ = some (.string y.f2) := by rw [← hWY]; exact alloc_cell (hc9 2 _ rfl) _
          have u3_ : WY.cell? ⟨q9, k * 8 + 3, none⟩ = some (.string y.f3) := by rw [← hWY]; exact alloc_cell (hc9 3 _ rfl) _
          have u4_ : WY.cell? ⟨q9, k * 8 + 4, none⟩ = some (.int .i64 y.f4) := by rw [← hWY]; exact alloc_cell (hc9 4 _ rfl) _
          have u5_ : WY.cell? ⟨q9, k * 8 + 5, none⟩ = some (.bool y.f5) := by rw [← hWY]; exact alloc_cell (hc9 5 _ rfl) _
          have u6_ : WY.cell? ⟨q9, k * 8 + 6, none⟩ = some (.int .i64 y.f6) := by rw [← hWY]; exact alloc_cell (hc9 6 _ rfl) _
          have u7_ : WY.cell? ⟨q9, k * 8 + 7, none⟩ = some (.int .i64 y.f7) := by rw [← hWY]; exact alloc_cell (hc9 7 _ rfl) _
          obtain ⟨v10, hj10⟩ := T10.out.job
          have hdep : ∀ n, Calls Try.prog 14 #[.pointer (some ⟨g, 0, none⟩)] (WY.drewN n) fun e w' => e = .returned (.int .i64 ((k + 1 : Nat) : Int)) ∧ w' = WY.drewN n := by rw [← hk]; exact fun n => Depth_calls (hj10.below (pw_below_drewN (Below.refl _ _) n))
          have hdep := Aside0.mk hdep
          clear hWY hc9 T9 B9 hj10 hy
          have hw : IntKind.i64.wrap (k : Int) = (k : Int) := IntWalk.i64_in _ (by omega)
          have e5 : ((k : Int) < (k : Int) + 1) = True := eq_true (by omega)
          have e6 : decide ((0 : Int) < (k : Int) + 1) = true := decide_eq_true (by omega)
          have e7 : decide ((k : Int) + 1 > 0) = true := decide_eq_true (by omega)
          have e8 : ((0 : Int) < (k : Int) + 1) = True := eq_true (by omega)
          go_quiet (first | (go_at_call 14; refine Calls.quiet_of_same (hdep.out _)))
          all_goals
            clear z0 u0_ z1 u1_ z2 u2_ z3 u3_ z4 u4_ z5 u5_ z6 u6_ z7 u7_
            (try simp only [Exit.then])
            go_wp2_with fail
            go_roundw
            case rel => exact ⟨i + 1, hs, by omega, by omega, by omega, by go_num, ⟨T10.out.below (pw_below_drewN (Below.refl _ _) _)⟩, ⟨pw_below_drewN B10.out _⟩⟩
            case measure => simp [intOf]; omega
      case inr.inl =>
        by_cases hl : hs.length ≤ 4
        · have P := Push_room HJ.out (tk nm ty i) (by omega) (by omega) (HT.out.fresh BX.out)
          dsimp only [v34, tk] at P
          go_wp2_with fail
          refine P.mono ?_
          rintro e w7 ⟨rfl, ⟨v7, hj7⟩, hb7, hk7⟩
          have J7 := Aside0.mk hj7
          have R7 := Aside0.mk (HT.out.rowAt BX.out hk7)
          have B7 := Aside0.mk (BB.out.trans hb7)
          have K7 := Aside0.mk (blk_kept KX.out hk7 NX.out)
          have y0 : w7.cell? ⟨wr.heap.size, 0, none⟩ = some (.string nm) := (blk_cell K7.out 0).trans rfl
          have y1 : w7.cell? ⟨wr.heap.size, 1, none⟩ = some (.int .i64 ty) := (blk_cell K7.out 1).trans rfl
          have y2 : w7.cell? ⟨wr.heap.size, 2, none⟩ = some (.string ⟨#[]⟩) := (blk_cell K7.out 2).trans rfl
          have y3 : w7.cell? ⟨wr.heap.size, 3, none⟩ = some (.string nm) := (blk_cell K7.out 3).trans rfl
          have y4 : w7.cell? ⟨wr.heap.size, 4, none⟩ = some (.int .i64 i) := (blk_cell K7.out 4).trans rfl
          have y5 : w7.cell? ⟨wr.heap.size, 5, none⟩ = some (.bool false) := (blk_cell K7.out 5).trans rfl
          have y6 : w7.cell? ⟨wr.heap.size, 6, none⟩ = some (.int .i64 0) := (blk_cell K7.out 6).trans rfl
          have y7 : w7.cell? ⟨wr.heap.size, 7, none⟩ = some (.int .i64 0) := (blk_cell K7.out 7).trans rfl
          have hl1 : decide ((hs.length : Int) ≤ 4) = true := decide_eq_true (by omega)
          have hl2 : (hs.length ≤ 4) = True := eq_true hl
          clear P hj7 hb7 hk7 x0 x1 x2 x3 x4 x5 x6 x7 e1 HJ KX BX NX SX BB
          simp only
          go_wp2_with ((with_reducible refine gate_builtin (b := .append) (xs := #[.tmp 91, .tmp 93]) rfl ?_); at_builtin; refine Kd.R_append k34 (w0 := w7) w.heap.size rfl (.tmp 91) (.tmp 93) 46 34 (.agg #[.string ⟨#[]⟩, .int .i64 0, .string ⟨#[]⟩, .string ⟨#[]⟩, .int .i64 0, .bool false, .int .i64 0, .int .i64 0]) 88 rfl Try.underlying46 info34 rfl (by decide) (by omega) (.slice A5 hs.length c5) hs (tk nm ty i) (c34 (tk nm ty i)) (fun _ => True) (fun _ => False) rfl rfl (k34_mkM _ _ _ _) (fun _ hk => hk.elim) (fun _ _ => trivial) R7.out (Below.refl _ _) B7.out.size (by show (hs.length + 1) * 88 ≤ _; omega) ?_; intro v8 w8 ho hb hg hat; have T8 : Aside0 (Two w8 w.heap.size g m v8 (hs ++ [tk nm ty i])) := ⟨Two.grown J7.out hg ho hat (by simp; omega)⟩; have B8 := Aside0.mk (B7.out.trans hb); clear ho hb hg hat R7 J7 B7 K7 y0 y1 y2 y3 y4 y5 y6 y7)
          clear hl1 hl2
          obtain ⟨L, hL⟩ : ∃ L, hs ++ [tk nm ty i] = L := ⟨_, rfl⟩
          rw [hL] at T8
          obtain ⟨k, hk⟩ : ∃ k, L.length = k + 1 := ⟨hs.length, by rw [← hL]; simp⟩
          clear hL
          obtain ⟨q9, c9, e9, hq9⟩ := Kd.R_form T8.out.row (by omega)
          rw [hk] at e9
          subst e9
          clear hq9
          obtain ⟨v9, hj9⟩ := T8.out.job
          obtain ⟨y, hy⟩ : ∃ y, L.getD k z34 = y := ⟨_, rfl⟩
          have hk5 : k ≤ 4 := by have := T8.out.len; omega
          refine (Top_some hj9 k hk (by omega) y hy).mono ?_
          rintro e w9 ⟨rfl, hb9⟩
          have T9 := Aside0.mk (T8.out.below hb9)
          have B9 := Aside0.mk (below_then B8.out B8.out.size hb9)
          clear hj9 hb9 T8 B8
          have hc9 := last_cells T9.out.row y hy
          unfold v34
          simp only
          go_wp2_with fail
          generalize hWY : w9.alloc _ = WY
          have T10 : Aside0 (Two WY w.heap.size g m (.slice (some ⟨q9, 0, none⟩) (k + 1) c9) L) := ⟨by rw [← hWY]; exact T9.out.below (below_alloc (Below.refl _ _) _)⟩
          have B10 : Aside0 (Below w.heap.size w WY) := ⟨by rw [← hWY]; exact below_alloc B9.out _⟩
          have z0 : WY.cell? ⟨w9.heap.size, 0, none⟩ = some (.string y.f0) := by rw [← hWY]; exact (blk_cell (blk_new w9 _) 0).trans rfl
          have z1 : WY.cell? ⟨w9.heap.size, 1, none⟩ = some (.int .i64 y.f1) := by rw [← hWY]; exact (blk_cell (blk_new w9 _) 1).trans rfl
          have z2 : WY.cell? ⟨w9.heap.size, 2, none⟩ = some (.string y.f2) := by rw [← hWY]; exact (blk_cell (blk_new w9 _) 2).trans rfl
          have z3 : WY.cell? ⟨w9.heap.size, 3, none⟩ = some (.string y.f3) := by rw [← hWY]; exact (blk_cell (blk_new w9 _) 3).trans rfl
          have z4 : WY.cell? ⟨w9.heap.size, 4, none⟩ = some (.int .i64 y.f4) := by rw [← hWY]; exact (blk_cell (blk_new w9 _) 4).trans rfl
          have z5 : WY.cell? ⟨w9.heap.size, 5, none⟩ = some (.bool y.f5) := by rw [← hWY]; exact (blk_cell (blk_new w9 _) 5).trans rfl
          have z6 : WY.cell? ⟨w9.heap.size, 6, none⟩ = some (.int .i64 y.f6) := by rw [← hWY]; exact (blk_cell (blk_new w9 _) 6).trans rfl
          have z7 : WY.cell? ⟨w9.heap.size, 7, none⟩ = some (.int .i64 y.f7) := by rw [← hWY]; exact (blk_cell (blk_new w9 _) 7).trans rfl
          have u0_ : WY.cell? ⟨q9, k * 8, none⟩ = some (.string y.f0) := by rw [← hWY]; exact alloc_cell (hc9 0 _ rfl) _
          have u1_ : WY.cell? ⟨q9, k * 8 + 1, none⟩ = some (.int .i64 y.f1) := by rw [← hWY]; exact alloc_cell (hc9 1 _ rfl) _
          have u2_ : WY.cell? ⟨q9, k * 8 + 2, none⟩ = some (.string y.f2) := by rw [← hWY]; exact alloc_cell (hc9 2 _ rfl) _
          have u3_ : WY.cell? ⟨q9, k * 8 + 3, none⟩ = some (.string y.f3) := by rw [← hWY]; exact alloc_cell (hc9 3 _ rfl) _
          have u4_ : WY.cell? ⟨q9, k * 8 + 4, none⟩ = some (.int .i64 y.f4) := by rw [← hWY]; exact alloc_cell (hc9 4 _ rfl) _
          have u5_ : WY.cell? ⟨q9, k * 8 + 5, none⟩ = some (.bool y.f5) := by rw [← hWY]; exact alloc_cell (hc9 5 _ rfl) _
          have u6_ : WY.cell? ⟨q9, k * 8 + 6, none⟩ = some (.int .i64 y.f6) := by rw [← hWY]; exact alloc_cell (hc9 6 _ rfl) _
          have u7_ : WY.cell? ⟨q9, k * 8 + 7, none⟩ = some (.int .i64 y.f7) := by rw [← hWY]; exact alloc_cell (hc9 7 _ rfl) _
          obtain ⟨v10, hj10⟩ := T10.out.job
          have hdep : ∀ n, Calls Try.prog 14 #[.pointer (some ⟨g, 0, none⟩)] (WY.drewN n) fun e w' => e = .returned (.int .i64 ((k + 1 : Nat) : Int)) ∧ w' = WY.drewN n := by rw [← hk]; exact fun n => Depth_calls (hj10.below (pw_below_drewN (Below.refl _ _) n))
          have hdep := Aside0.mk hdep
          clear hWY hc9 T9 B9 hj10 hy
          have hw : IntKind.i64.wrap (k : Int) = (k : Int) := IntWalk.i64_in _ (by omega)
          have e5 : ((k : Int) < (k : Int) + 1) = True := eq_true (by omega)
          have e6 : decide ((0 : Int) < (k : Int) + 1) = true := decide_eq_true (by omega)
          have e7 : decide ((k : Int) + 1 > 0) = true := decide_eq_true (by omega)
          have e8 : ((0 : Int) < (k : Int) + 1) = True := eq_true (by omega)
          go_quiet (first | (go_at_call 14; refine Calls.quiet_of_same (hdep.out _)))
          all_goals
            clear z0 u0_ z1 u1_ z2 u2_ z3 u3_ z4 u4_ z5 u5_ z6 u6_ z7 u7_
            (try simp only [Exit.then])
            go_wp2_with fail
            go_roundw
            case rel => exact ⟨i + 1, L, by omega, by omega, by omega, by go_num, ⟨T10.out.below (pw_below_drewN (Below.refl _ _) _)⟩, ⟨pw_below_drewN B10.out _⟩⟩
            case measure => simp [intOf]; omega
        · have P := Push_full HJ.out (tk nm ty i) (by omega)
          dsimp only [v34, tk] at P
          go_wp2_with fail
          refine P.mono ?_
          rintro e w8 ⟨rfl, hb8⟩
          have T8 := Aside0.mk ((HT.out.below BX.out).below hb8)
          have B8 := Aside0.mk (below_then BB.out BB.out.size hb8)
          have hl1 : decide ((hs.length : Int) ≤ 4) = false := decide_eq_false (by omega)
          have hl2 : (hs.length ≤ 4) = False := eq_false hl
          clear P hb8 x0 x1 x2 x3 x4 x5 x6 x7 e1 HJ KX BX NX SX BB
          simp only
          go_wp2_with fail
          generalize Value.slice A5 hs.length c5 = v8 at *
          obtain ⟨L, hL⟩ : ∃ L, hs = L := ⟨_, rfl⟩
          subst hL
          clear hl1 hl2
          obtain ⟨k, hk⟩ : ∃ k, hs.length = k + 1 := ⟨hs.length - 1, by omega⟩
          clear hl
          obtain ⟨q9, c9, e9, hq9⟩ := Kd.R_form T8.out.row (by omega)
          rw [hk] at e9
          subst e9
          clear hq9
          obtain ⟨v9, hj9⟩ := T8.out.job
          obtain ⟨y, hy⟩ : ∃ y, hs.getD k z34 = y := ⟨_, rfl⟩
          have hk5 : k ≤ 4 := by have := T8.out.len; omega
          refine (Top_some hj9 k hk (by omega) y hy).mono ?_
          rintro e w9 ⟨rfl, hb9⟩
          have T9 := Aside0.mk (T8.out.below hb9)
          have B9 := Aside0.mk (below_then B8.out B8.out.size hb9)
          clear hj9 hb9 T8 B8
          have hc9 := last_cells T9.out.row y hy
          unfold v34
          simp only
          go_wp2_with fail
          generalize hWY : w9.alloc _ = WY
          have T10 : Aside0 (Two WY w.heap.size g m (.slice (some ⟨q9, 0, none⟩) (k + 1) c9) hs) := ⟨by rw [← hWY]; exact T9.out.below (below_alloc (Below.refl _ _) _)⟩
          have B10 : Aside0 (Below w.heap.size w WY) := ⟨by rw [← hWY]; exact below_alloc B9.out _⟩
          have z0 : WY.cell? ⟨w9.heap.size, 0, none⟩ = some (.string y.f0) := by rw [← hWY]; exact (blk_cell (blk_new w9 _) 0).trans rfl
          have z1 : WY.cell? ⟨w9.heap.size, 1, none⟩ = some (.int .i64 y.f1) := by rw [← hWY]; exact (blk_cell (blk_new w9 _) 1).trans rfl
          have z2 : WY.cell? ⟨w9.heap.size, 2, none⟩ = some (.string y.f2) := by rw [← hWY]; exact (blk_cell (blk_new w9 _) 2).trans rfl
          have z3 : WY.cell? ⟨w9.heap.size, 3, none⟩ = some (.string y.f3) := by rw [← hWY]; exact (blk_cell (blk_new w9 _) 3).trans rfl
          have z4 : WY.cell? ⟨w9.heap.size, 4, none⟩ = some (.int .i64 y.f4) := by rw [← hWY]; exact (blk_cell (blk_new w9 _) 4).trans rfl
          have z5 : WY.cell? ⟨w9.heap.size, 5, none⟩ = some (.bool y.f5) := by rw [← hWY]; exact (blk_cell (blk_new w9 _) 5).trans rfl
          have z6 : WY.cell? ⟨w9.heap.size, 6, none⟩ = some (.int .i64 y.f6) := by rw [← hWY]; exact (blk_cell (blk_new w9 _) 6).trans rfl
          have z7 : WY.cell? ⟨w9.heap.size, 7, none⟩ = some (.int .i64 y.f7) := by rw [← hWY]; exact (blk_cell (blk_new w9 _) 7).trans rfl
          have u0_ : WY.cell? ⟨q9, k * 8, none⟩ = some (.string y.f0) := by rw [← hWY]; exact alloc_cell (hc9 0 _ rfl) _
          have u1_ : WY.cell? ⟨q9, k * 8 + 1, none⟩ = some (.int .i64 y.f1) := by rw [← hWY]; exact alloc_cell (hc9 1 _ rfl) _
          have u2_ : WY.cell? ⟨q9, k * 8 + 2, none⟩ = some (.string y.f2) := by rw [← hWY]; exact alloc_cell (hc9 2 _ rfl) _
          have u3_ : WY.cell? ⟨q9, k * 8 + 3, none⟩ = some (.string y.f3) := by rw [← hWY]; exact alloc_cell (hc9 3 _ rfl) _
          have u4_ : WY.cell? ⟨q9, k * 8 + 4, none⟩ = some (.int .i64 y.f4) := by rw [← hWY]; exact alloc_cell (hc9 4 _ rfl) _
          have u5_ : WY.cell? ⟨q9, k * 8 + 5, none⟩ = some (.bool y.f5) := by rw [← hWY]; exact alloc_cell (hc9 5 _ rfl) _
          have u6_ : WY.cell? ⟨q9, k * 8 + 6, none⟩ = some (.int .i64 y.f6) := by rw [← hWY]; exact alloc_cell (hc9 6 _ rfl) _
          have u7_ : WY.cell? ⟨q9, k * 8 + 7, none⟩ = some (.int .i64 y.f7) := by rw [← hWY]; exact alloc_cell (hc9 7 _ rfl) _
          obtain ⟨v10, hj10⟩ := T10.out.job
          have hdep : ∀ n, Calls Try.prog 14 #[.pointer (some ⟨g, 0, none⟩)] (WY.drewN n) fun e w' => e = .returned (.int .i64 ((k + 1 : Nat) : Int)) ∧ w' = WY.drewN n := by rw [← hk]; exact fun n => Depth_calls (hj10.below (pw_below_drewN (Below.refl _ _) n))
          have hdep := Aside0.mk hdep
          clear hWY hc9 T9 B9 hj10 hy
          have hw : IntKind.i64.wrap (k : Int) = (k : Int) := IntWalk.i64_in _ (by omega)
          have e5 : ((k : Int) < (k : Int) + 1) = True := eq_true (by omega)
          have e6 : decide ((0 : Int) < (k : Int) + 1) = true := decide_eq_true (by omega)
          have e7 : decide ((k : Int) + 1 > 0) = true := decide_eq_true (by omega)
          have e8 : ((0 : Int) < (k : Int) + 1) = True := eq_true (by omega)
          go_quiet (first | (go_at_call 14; refine Calls.quiet_of_same (hdep.out _)))
          all_goals
            clear z0 u0_ z1 u1_ z2 u2_ z3 u3_ z4 u4_ z5 u5_ z6 u6_ z7 u7_
            (try simp only [Exit.then])
            go_wp2_with fail
            go_roundw
            case rel => exact ⟨i + 1, hs, by omega, by omega, by omega, by go_num, ⟨T10.out.below (pw_below_drewN (Below.refl _ _) _)⟩, ⟨pw_below_drewN B10.out _⟩⟩
            case measure => simp [intOf]; omega
      case inr.inr.inl =>
        by_cases hz : hs.length = 0
        · obtain rfl : hs = [] := List.eq_nil_of_length_eq_zero hz
          rw [List.length_nil] at HT HJ NX
          have P := Pop_none HJ.out
          go_wp2_with fail
          refine P.mono ?_
          rintro e w8 ⟨rfl, rfl⟩
          have T8 := Aside0.mk (HT.out.below BX.out)
          have B8 := BB
          clear P x0 x1 x2 x3 x4 x5 x6 x7 e1 HJ KX BX NX SX hz
          simp only
          go_wp2_with fail
          obtain ⟨v9, hj9⟩ := T8.out.job
          refine (Top_none hj9).mono ?_
          rintro e w9 ⟨rfl, hb9⟩
          have T9 := Aside0.mk (T8.out.below hb9)
          have B9 := Aside0.mk (below_then B8.out B8.out.size hb9)
          clear hj9 hb9 T8 B8
          unfold v34 z34
          simp only
          go_wp2_with fail
          generalize hWY : w9.alloc _ = WY
          have T10 : Aside0 (Two WY w.heap.size g m (.slice A5 0 c5) []) := ⟨by rw [← hWY]; exact T9.out.below (below_alloc (Below.refl _ _) _)⟩
          have B10 : Aside0 (Below w.heap.size w WY) := ⟨by rw [← hWY]; exact below_alloc B9.out _⟩
          obtain ⟨v10, hj10⟩ := T10.out.job
          have hdep : ∀ n, Calls Try.prog 14 #[.pointer (some ⟨g, 0, none⟩)] (WY.drewN n) fun e w' => e = .returned (.int .i64 0) ∧ w' = WY.drewN n := fun n => Depth_calls (hj10.below (pw_below_drewN (Below.refl _ _) n))
          have hdep := Aside0.mk hdep
          clear hWY T9 B9 hj10
          go_quiet (first | (go_at_call 14; refine Calls.quiet_of_same (hdep.out _)))
          all_goals
            (try simp only [Exit.then])
            go_wp2_with fail
            go_roundw
            case rel => exact ⟨i + 1, [], by omega, by omega, by omega, by go_num, ⟨T10.out.below (pw_below_drewN (Below.refl _ _) _)⟩, ⟨pw_below_drewN B10.out _⟩⟩
            case measure => simp [intOf]; omega
        · obtain ⟨k, hk⟩ : ∃ k, hs.length = k + 1 := ⟨hs.length - 1, by omega⟩
          have hl5 := HT.out.len
          obtain ⟨q5, c5', e5, _⟩ := Kd.R_form HT.out.row (by omega)
          injection e5 with e5 _ e5'
          subst e5 e5'
          rw [hk] at HT HJ NX
          obtain ⟨i34, hi34, _, hsz34, _⟩ := info_parts info34
          have hcut : ∀ W : World, (Instr.slice 46 (.slice (some ⟨q5, 0, none⟩) (k + 1) c5) none (some (.int .i64 (k : Int))) none).run Try.prog W = .ok (.slice (some ⟨q5, 0, none⟩) k c5) W := by
            intro W
            have hel : Try.prog.elem 46 = 34 := by simp [Program.elem, Try.underlying46]
            have hu : Try.prog.underlying 46 = some (.slice (Try.prog.elem 46)) := by rw [hel]; exact Try.underlying46
            have hkc5 : k + 1 ≤ c5 := (Kd.R_reads' HT.out.row).2.1
            rw [run_slice_h W 46 (some ⟨q5, 0, none⟩) (k + 1) c5 hu .i64 _ (by omega) (by omega), hel]
            simp [sizeOf, typeInfo, hi34, sliced, Result.andThen, show (⟨q5, 0, none⟩ : Addr).add 0 = ⟨q5, 0, none⟩ from add_plain q5 0]
          clear hsz34 hi34
          have P := Pop_some HJ.out k hk (by omega)
          go_wp2_with fail
          refine P.mono ?_
          rintro e w7 ⟨rfl, ⟨v7, hj7⟩, hb7, hk7⟩
          have R7 := Kd.R_take (HT.out.rowAt BX.out hk7) (m := k) (by omega)
          have T8 : Aside0 (Two w7 w.heap.size g m (.slice (some ⟨q5, 0, none⟩) k c5) (hs.take k)) := ⟨Two.again hj7 R7 rfl (by rw [List.length_take]; omega)⟩
          have B8 := Aside0.mk (BB.out.trans hb7)
          have e8 : ((0 : Int) < (k : Int) + 1) = True := eq_true (by omega)
          have e7 : decide ((0 : Int) < (k : Int) + 1) = true := decide_eq_true (by omega)
          have e6 : decide ((k : Int) + 1 > 0) = true := decide_eq_true (by omega)
          clear P hj7 hb7 hk7 R7 x0 x1 x2 x3 x4 x5 x6 x7 e1 HJ KX BX NX SX hz BB
          simp only
          go_wp2_with fail
          clear e6 e7 e8 hcut
          generalize w7 = w8 at *
          obtain ⟨L, hL⟩ : ∃ L, hs.take k = L := ⟨_, rfl⟩
          have hLk : L.length = k := by rw [← hL, List.length_take]; omega
          rw [hL] at T8
          clear hL hk HT hl5
          by_cases hz : k = 0
          · subst hz
            obtain rfl : L = [] := List.eq_nil_of_length_eq_zero hLk
            clear hLk
            obtain ⟨v9, hj9⟩ := T8.out.job
            refine (Top_none hj9).mono ?_
            rintro e w9 ⟨rfl, hb9⟩
            have T9 := Aside0.mk (T8.out.below hb9)
            have B9 := Aside0.mk (below_then B8.out B8.out.size hb9)
            clear hj9 hb9 T8 B8
            unfold v34 z34
            simp only
            go_wp2_with fail
            generalize hWY : w9.alloc _ = WY
            have T10 : Aside0 (Two WY w.heap.size g m (.slice (some ⟨q5, 0, none⟩) 0 c5) []) := ⟨by rw [← hWY]; exact T9.out.below (below_alloc (Below.refl _ _) _)⟩
            have B10 : Aside0 (Below w.heap.size w WY) := ⟨by rw [← hWY]; exact below_alloc B9.out _⟩
            obtain ⟨v10, hj10⟩ := T10.out.job
            have hdep : ∀ n, Calls Try.prog 14 #[.pointer (some ⟨g, 0, none⟩)] (WY.drewN n) fun e w' => e = .returned (.int .i64 0) ∧ w' = WY.drewN n := fun n => Depth_calls (hj10.below (pw_below_drewN (Below.refl _ _) n))
            have hdep := Aside0.mk hdep
            clear hWY T9 B9 hj10
            go_quiet (first | (go_at_call 14; refine Calls.quiet_of_same (hdep.out _)))
            all_goals
              (try simp only [Exit.then])
              go_wp2_with fail
              go_roundw
              case rel => exact ⟨i + 1, [], by omega, by omega, by omega, by go_num, ⟨T10.out.below (pw_below_drewN (Below.refl _ _) _)⟩, ⟨pw_below_drewN B10.out _⟩⟩
              case measure => simp [intOf]; omega
          · obtain ⟨k', rfl⟩ : ∃ k', k = k' + 1 := ⟨k - 1, by omega⟩
            generalize Value.slice (some ⟨q5, 0, none⟩) (k' + 1) c5 = v8 at *
            generalize k' = k at *
            have hk := hLk
            clear hLk hz
            obtain ⟨q9, c9, e9, hq9⟩ := Kd.R_form T8.out.row (by omega)
            rw [hk] at e9
            subst e9
            clear hq9
            obtain ⟨v9, hj9⟩ := T8.out.job
            obtain ⟨y, hy⟩ : ∃ y, L.getD k z34 = y := ⟨_, rfl⟩
            have hk5 : k ≤ 4 := by have := T8.out.len; omega
            refine (Top_some hj9 k hk (by omega) y hy).mono ?_
            rintro e w9 ⟨rfl, hb9⟩
            have T9 := Aside0.mk (T8.out.below hb9)
            have B9 := Aside0.mk (below_then B8.out B8.out.size hb9)
            clear hj9 hb9 T8 B8
            have hc9 := last_cells T9.out.row y hy
            unfold v34
            simp only
            go_wp2_with fail
            generalize hWY : w9.alloc _ = WY
            have T10 : Aside0 (Two WY w.heap.size g m (.slice (some ⟨q9, 0, none⟩) (k + 1) c9) L) := ⟨by rw [← hWY]; exact T9.out.below (below_alloc (Below.refl _ _) _)⟩
            have B10 : Aside0 (Below w.heap.size w WY) := ⟨by rw [← hWY]; exact below_alloc B9.out _⟩
            have z0 : WY.cell? ⟨w9.heap.size, 0, none⟩ = some (.string y.f0) := by rw [← hWY]; exact (blk_cell (blk_new w9 _) 0).trans rfl
            have z1 : WY.cell? ⟨w9.heap.size, 1, none⟩ = some (.int .i64 y.f1) := by rw [← hWY]; exact (blk_cell (blk_new w9 _) 1).trans rfl
            have z2 : WY.cell? ⟨w9.heap.size, 2, none⟩ = some (.string y.f2) := by rw [← hWY]; exact (blk_cell (blk_new w9 _) 2).trans rfl
            have z3 : WY.cell? ⟨w9.heap.size, 3, none⟩ = some (.string y.f3) := by rw [← hWY]; exact (blk_cell (blk_new w9 _) 3).trans rfl
            have z4 : WY.cell? ⟨w9.heap.size, 4, none⟩ = some (.int .i64 y.f4) := by rw [← hWY]; exact (blk_cell (blk_new w9 _) 4).trans rfl
            have z5 : WY.cell? ⟨w9.heap.size, 5, none⟩ = some (.bool y.f5) := by rw [← hWY]; exact (blk_cell (blk_new w9 _) 5).trans rfl
            have z6 : WY.cell? ⟨w9.heap.size, 6, none⟩ = some (.int .i64 y.f6) := by rw [← hWY]; exact (blk_cell (blk_new w9 _) 6).trans rfl
            have z7 : WY.cell? ⟨w9.heap.size, 7, none⟩ = some (.int .i64 y.f7) := by rw [← hWY]; exact (blk_cell (blk_new w9 _) 7).trans rfl
            have u0_ : WY.cell? ⟨q9, k * 8, none⟩ = some (.string y.f0) := by rw [← hWY]; exact alloc_cell (hc9 0 _ rfl) _
            have u1_ : WY.cell? ⟨q9, k * 8 + 1, none⟩ = some (.int .i64 y.f1) := by rw [← hWY]; exact alloc_cell (hc9 1 _ rfl) _
            have u2_ : WY.cell? ⟨q9, k * 8 + 2, none⟩ = some (.string y.f2) := by rw [← hWY]; exact alloc_cell (hc9 2 _ rfl) _
            have u3_ : WY.cell? ⟨q9, k * 8 + 3, none⟩ = some (.string y.f3) := by rw [← hWY]; exact alloc_cell (hc9 3 _ rfl) _
            have u4_ : WY.cell? ⟨q9, k * 8 + 4, none⟩ = some (.int .i64 y.f4) := by rw [← hWY]; exact alloc_cell (hc9 4 _ rfl) _
            have u5_ : WY.cell? ⟨q9, k * 8 + 5, none⟩ = some (.bool y.f5) := by rw [← hWY]; exact alloc_cell (hc9 5 _ rfl) _
            have u6_ : WY.cell? ⟨q9, k * 8 + 6, none⟩ = some (.int .i64 y.f6) := by rw [← hWY]; exact alloc_cell (hc9 6 _ rfl) _
            have u7_ : WY.cell? ⟨q9, k * 8 + 7, none⟩ = some (.int .i64 y.f7) := by rw [← hWY]; exact alloc_cell (hc9 7 _ rfl) _
            obtain ⟨v10, hj10⟩ := T10.out.job
            have hdep : ∀ n, Calls Try.prog 14 #[.pointer (some ⟨g, 0, none⟩)] (WY.drewN n) fun e w' => e = .returned (.int .i64 ((k + 1 : Nat) : Int)) ∧ w' = WY.drewN n := by rw [← hk]; exact fun n => Depth_calls (hj10.below (pw_below_drewN (Below.refl _ _) n))
            have hdep := Aside0.mk hdep
            clear hWY hc9 T9 B9 hj10 hy
            have hw : IntKind.i64.wrap (k : Int) = (k : Int) := IntWalk.i64_in _ (by omega)
            have e5 : ((k : Int) < (k : Int) + 1) = True := eq_true (by omega)
            have e6 : decide ((0 : Int) < (k : Int) + 1) = true := decide_eq_true (by omega)
            have e7 : decide ((k : Int) + 1 > 0) = true := decide_eq_true (by omega)
            have e8 : ((0 : Int) < (k : Int) + 1) = True := eq_true (by omega)
            go_quiet (first | (go_at_call 14; refine Calls.quiet_of_same (hdep.out _)))
            all_goals
              clear z0 u0_ z1 u1_ z2 u2_ z3 u3_ z4 u4_ z5 u5_ z6 u6_ z7 u7_
              (try simp only [Exit.then])
              go_wp2_with fail
              go_roundw
              case rel => exact ⟨i + 1, L, by omega, by omega, by omega, by go_num, ⟨T10.out.below (pw_below_drewN (Below.refl _ _) _)⟩, ⟨pw_below_drewN B10.out _⟩⟩
              case measure => simp [intOf]; omega
      case inr.inr.inr =>
        by_cases hz : hs.length = 0
        · obtain rfl : hs = [] := List.eq_nil_of_length_eq_zero hz
          rw [List.length_nil] at HT HJ NX
          have P := Set_none HJ.out (tk nm ty i)
          dsimp only [v34, tk] at P
          go_wp2_with fail
          refine P.mono ?_
          rintro e w8 ⟨rfl, hb8⟩
          have T8 := Aside0.mk ((HT.out.below BX.out).below hb8)
          have B8 := Aside0.mk (below_then BB.out BB.out.size hb8)
          clear P hb8 x0 x1 x2 x3 x4 x5 x6 x7 e1 HJ KX BX NX SX hz BB
          simp only
          go_wp2_with fail
          obtain ⟨v9, hj9⟩ := T8.out.job
          refine (Top_none hj9).mono ?_
          rintro e w9 ⟨rfl, hb9⟩
          have T9 := Aside0.mk (T8.out.below hb9)
          have B9 := Aside0.mk (below_then B8.out B8.out.size hb9)
          clear hj9 hb9 T8 B8
          unfold v34 z34
          simp only
          go_wp2_with fail
          generalize hWY : w9.alloc _ = WY
          have T10 : Aside0 (Two WY w.heap.size g m (.slice A5 0 c5) []) := ⟨by rw [← hWY]; exact T9.out.below (below_alloc (Below.refl _ _) _)⟩
          have B10 : Aside0 (Below w.heap.size w WY) := ⟨by rw [← hWY]; exact below_alloc B9.out _⟩
          obtain ⟨v10, hj10⟩ := T10.out.job
          have hdep : ∀ n, Calls Try.prog 14 #[.pointer (some ⟨g, 0, none⟩)] (WY.drewN n) fun e w' => e = .returned (.int .i64 0) ∧ w' = WY.drewN n := fun n => Depth_calls (hj10.below (pw_below_drewN (Below.refl _ _) n))
          have hdep := Aside0.mk hdep
          clear hWY T9 B9 hj10
          go_quiet (first | (go_at_call 14; refine Calls.quiet_of_same (hdep.out _)))
          all_goals
            (try simp only [Exit.then])
            go_wp2_with fail
            go_roundw
            case rel => exact ⟨i + 1, [], by omega, by omega, by omega, by go_num, ⟨T10.out.below (pw_below_drewN (Below.refl _ _) _)⟩, ⟨pw_below_drewN B10.out _⟩⟩
            case measure => simp [intOf]; omega
        · obtain ⟨k, hk⟩ : ∃ k, hs.length = k + 1 := ⟨hs.length - 1, by omega⟩
          have hl5 := HT.out.len
          obtain ⟨q5, c5', e5, _⟩ := Kd.R_form HT.out.row (by omega)
          injection e5 with e5 _ e5'
          subst e5 e5'
          rw [hk] at HT HJ NX
          have P := Set_some HJ.out k hk (by omega) (tk nm ty i)
          dsimp only [v34, tk] at P
          go_wp2_with fail
          refine P.mono ?_
          rintro e w7 ⟨rfl, hj7, hb7, hk7⟩
          have J7 := Aside0.mk hj7
          have hr7 := HT.out.rowAt BX.out hk7
          have B7 := Aside0.mk (BB.out.trans hb7)
          have K7 := Aside0.mk (blk_kept KX.out hk7 NX.out)
          obtain ⟨y, hy⟩ : ∃ y, hs.getD k z34 = y := ⟨_, rfl⟩
          have hcy := last_cells hr7 y hy
          have hseg := Kd.R_seg hr7 (k : Int) (by omega) (by omega) (c := c34 y) (seg := c34 (tk nm ty i)) (j := 0) (okp := fun _ => False) (x' := tk nm ty i) rfl (fun j u hj => by rw [Int.toNat_natCast]; exact hcy j u hj) (by show 0 + 8 ≤ 8; omega) (by exact k34_mkM _ _ _ (tk nm ty i)) (fun _ hk => hk.elim)
          rw [Int.toNat_natCast] at hseg
          obtain ⟨qcs, hqb⟩ := Kd.R_typed hr7 q5 rfl
          have fw : ∀ i, w7.frozen? ⟨q5, i, none⟩ = false := fun i => blk_frozen hqb i
          have T8 : Aside0 (Two (w7.setCells q5 (k * k34.sz + 0) (c34 (tk nm ty i))) w.heap.size g m (.slice (some ⟨q5, 0, none⟩) (k + 1) c5) (hs.set k (tk nm ty i))) := ⟨Two.grown J7.out hseg.2 hseg.1 (Or.inl rfl) (by rw [List.length_set]; exact hl5)⟩
          have B8 := Aside0.mk (B7.out.grown hseg.2 B7.out.size (fun j hj => by cases hj; exact Kd.R_base hr7 _ rfl))
          have y0 : w7.cell? ⟨wr.heap.size, 0, none⟩ = some (.string nm) := (blk_cell K7.out 0).trans rfl
          have y1 : w7.cell? ⟨wr.heap.size, 1, none⟩ = some (.int .i64 ty) := (blk_cell K7.out 1).trans rfl
          have y2 : w7.cell? ⟨wr.heap.size, 2, none⟩ = some (.string ⟨#[]⟩) := (blk_cell K7.out 2).trans rfl
          have y3 : w7.cell? ⟨wr.heap.size, 3, none⟩ = some (.string nm) := (blk_cell K7.out 3).trans rfl
          have y4 : w7.cell? ⟨wr.heap.size, 4, none⟩ = some (.int .i64 i) := (blk_cell K7.out 4).trans rfl
          have y5 : w7.cell? ⟨wr.heap.size, 5, none⟩ = some (.bool false) := (blk_cell K7.out 5).trans rfl
          have y6 : w7.cell? ⟨wr.heap.size, 6, none⟩ = some (.int .i64 0) := (blk_cell K7.out 6).trans rfl
          have y7 : w7.cell? ⟨wr.heap.size, 7, none⟩ = some (.int .i64 0) := (blk_cell K7.out 7).trans rfl
          have u0_ : w7.cell? ⟨q5, k * 8, none⟩ = some (.string y.f0) := hcy 0 _ rfl
          have u1_ : w7.cell? ⟨q5, k * 8 + 1, none⟩ = some (.int .i64 y.f1) := hcy 1 _ rfl
          have u2_ : w7.cell? ⟨q5, k * 8 + 2, none⟩ = some (.string y.f2) := hcy 2 _ rfl
          have u3_ : w7.cell? ⟨q5, k * 8 + 3, none⟩ = some (.string y.f3) := hcy 3 _ rfl
          have u4_ : w7.cell? ⟨q5, k * 8 + 4, none⟩ = some (.int .i64 y.f4) := hcy 4 _ rfl
          have u5_ : w7.cell? ⟨q5, k * 8 + 5, none⟩ = some (.bool y.f5) := hcy 5 _ rfl
          have u6_ : w7.cell? ⟨q5, k * 8 + 6, none⟩ = some (.int .i64 y.f6) := hcy 6 _ rfl
          have u7_ : w7.cell? ⟨q5, k * 8 + 7, none⟩ = some (.int .i64 y.f7) := hcy 7 _ rfl
          have hw : IntKind.i64.wrap (k : Int) = (k : Int) := IntWalk.i64_in _ (by omega)
          have e5 : ((k : Int) < (k : Int) + 1) = True := eq_true (by omega)
          have e8 : ((0 : Int) < (k : Int) + 1) = True := eq_true (by omega)
          have e7 : decide ((0 : Int) < (k : Int) + 1) = true := decide_eq_true (by omega)
          have e6 : decide ((k : Int) + 1 > 0) = true := decide_eq_true (by omega)
          clear P hj7 hb7 hk7 hr7 hcy hseg hqb hy x0 x1 x2 x3 x4 x5 x6 x7 e1 HJ KX BX NX SX hz BB K7 J7 HT
          simp only
          go_wp2_with fail
          clear y0 u0_ y1 u1_ y2 u2_ y3 u3_ y4 u4_ y5 u5_ y6 u6_ y7 u7_ fw hw e5 e6 e7 e8 B7
          obtain ⟨w8, hw8⟩ : ∃ w8, w7.setCells q5 (k * k34.sz + 0) (c34 (tk nm ty i)) = w8 := ⟨_, rfl⟩
          rw [hw8] at T8 B8
          rw [show (((((((((w7).setCell ⟨q5, k * 8, none⟩ (.string nm)).setCell ⟨q5, k * 8 + 1, none⟩ (.int .i64 ty)).setCell ⟨q5, k * 8 + 2, none⟩ (.string ⟨#[]⟩)).setCell ⟨q5, k * 8 + 3, none⟩ (.string nm)).setCell ⟨q5, k * 8 + 4, none⟩ (.int .i64 i)).setCell ⟨q5, k * 8 + 5, none⟩ (.bool false)).setCell ⟨q5, k * 8 + 6, none⟩ (.int .i64 0)).setCell ⟨q5, k * 8 + 7, none⟩ (.int .i64 0)) = w8 from hw8]
          clear hw8 hl5
          obtain ⟨L, hL⟩ : ∃ L, hs.set k (tk nm ty i) = L := ⟨_, rfl⟩
          rw [hL] at T8
          have hk : L.length = k + 1 := by rw [← hL, List.length_set]; exact hk
          clear hL
          generalize Value.slice (some ⟨q5, 0, none⟩) (k + 1) c5 = v8 at *
          obtain ⟨q9, c9, e9, hq9⟩ := Kd.R_form T8.out.row (by omega)
          rw [hk] at e9
          subst e9
          clear hq9
          obtain ⟨v9, hj9⟩ := T8.out.job
          obtain ⟨y, hy⟩ : ∃ y, L.getD k z34 = y := ⟨_, rfl⟩
          have hk5 : k ≤ 4 := by have := T8.out.len; omega
          refine (Top_some hj9 k hk (by omega) y hy).mono ?_
          rintro e w9 ⟨rfl, hb9⟩
          have T9 := Aside0.mk (T8.out.below hb9)
          have B9 := Aside0.mk (below_then B8.out B8.out.size hb9)
          clear hj9 hb9 T8 B8
          have hc9 := last_cells T9.out.row y hy
          unfold v34
          simp only
          go_wp2_with fail
          generalize hWY : w9.alloc _ = WY
          have T10 : Aside0 (Two WY w.heap.size g m (.slice (some ⟨q9, 0, none⟩) (k + 1) c9) L) := ⟨by rw [← hWY]; exact T9.out.below (below_alloc (Below.refl _ _) _)⟩
          have B10 : Aside0 (Below w.heap.size w WY) := ⟨by rw [← hWY]; exact below_alloc B9.out _⟩
          have z0 : WY.cell? ⟨w9.heap.size, 0, none⟩ = some (.string y.f0) := by rw [← hWY]; exact (blk_cell (blk_new w9 _) 0).trans rfl
          have z1 : WY.cell? ⟨w9.heap.size, 1, none⟩ = some (.int .i64 y.f1) := by rw [← hWY]; exact (blk_cell (blk_new w9 _) 1).trans rfl
          have z2 : WY.cell? ⟨w9.heap.size, 2, none⟩ = some (.string y.f2) := by rw [← hWY]; exact (blk_cell (blk_new w9 _) 2).trans rfl
          have z3 : WY.cell? ⟨w9.heap.size, 3, none⟩ = some (.string y.f3) := by rw [← hWY]; exact (blk_cell (blk_new w9 _) 3).trans rfl
          have z4 : WY.cell? ⟨w9.heap.size, 4, none⟩ = some (.int .i64 y.f4) := by rw [← hWY]; exact (blk_cell (blk_new w9 _) 4).trans rfl
          have z5 : WY.cell? ⟨w9.heap.size, 5, none⟩ = some (.bool y.f5) := by rw [← hWY]; exact (blk_cell (blk_new w9 _) 5).trans rfl
          have z6 : WY.cell? ⟨w9.heap.size, 6, none⟩ = some (.int .i64 y.f6) := by rw [← hWY]; exact (blk_cell (blk_new w9 _) 6).trans rfl
          have z7 : WY.cell? ⟨w9.heap.size, 7, none⟩ = some (.int .i64 y.f7) := by rw [← hWY]; exact (blk_cell (blk_new w9 _) 7).trans rfl
          have u0_ : WY.cell? ⟨q9, k * 8, none⟩ = some (.string y.f0) := by rw [← hWY]; exact alloc_cell (hc9 0 _ rfl) _
          have u1_ : WY.cell? ⟨q9, k * 8 + 1, none⟩ = some (.int .i64 y.f1) := by rw [← hWY]; exact alloc_cell (hc9 1 _ rfl) _
          have u2_ : WY.cell? ⟨q9, k * 8 + 2, none⟩ = some (.string y.f2) := by rw [← hWY]; exact alloc_cell (hc9 2 _ rfl) _
          have u3_ : WY.cell? ⟨q9, k * 8 + 3, none⟩ = some (.string y.f3) := by rw [← hWY]; exact alloc_cell (hc9 3 _ rfl) _
          have u4_ : WY.cell? ⟨q9, k * 8 + 4, none⟩ = some (.int .i64 y.f4) := by rw [← hWY]; exact alloc_cell (hc9 4 _ rfl) _
          have u5_ : WY.cell? ⟨q9, k * 8 + 5, none⟩ = some (.bool y.f5) := by rw [← hWY]; exact alloc_cell (hc9 5 _ rfl) _
          have u6_ : WY.cell? ⟨q9, k * 8 + 6, none⟩ = some (.int .i64 y.f6) := by rw [← hWY]; exact alloc_cell (hc9 6 _ rfl) _
          have u7_ : WY.cell? ⟨q9, k * 8 + 7, none⟩ = some (.int .i64 y.f7) := by rw [← hWY]; exact alloc_cell (hc9 7 _ rfl) _
          obtain ⟨v10, hj10⟩ := T10.out.job
          have hdep : ∀ n, Calls Try.prog 14 #[.pointer (some ⟨g, 0, none⟩)] (WY.drewN n) fun e w' => e = .returned (.int .i64 ((k + 1 : Nat) : Int)) ∧ w' = WY.drewN n := by rw [← hk]; exact fun n => Depth_calls (hj10.below (pw_below_drewN (Below.refl _ _) n))
          have hdep := Aside0.mk hdep
          clear hWY hc9 T9 B9 hj10 hy
          have hw : IntKind.i64.wrap (k : Int) = (k : Int) := IntWalk.i64_in _ (by omega)
          have e5 : ((k : Int) < (k : Int) + 1) = True := eq_true (by omega)
          have e6 : decide ((0 : Int) < (k : Int) + 1) = true := decide_eq_true (by omega)
          have e7 : decide ((k : Int) + 1 > 0) = true := decide_eq_true (by omega)
          have e8 : ((0 : Int) < (k : Int) + 1) = True := eq_true (by omega)
          go_quiet (first | (go_at_call 14; refine Calls.quiet_of_same (hdep.out _)))
          all_goals
            clear z0 u0_ z1 u1_ z2 u2_ z3 u3_ z4 u4_ z5 u5_ z6 u6_ z7 u7_
            (try simp only [Exit.then])
            go_wp2_with fail
            go_roundw
            case rel => exact ⟨i + 1, L, by omega, by omega, by omega, by go_num, ⟨T10.out.below (pw_below_drewN (Below.refl _ _) _)⟩, ⟨pw_below_drewN B10.out _⟩⟩
            case measure => simp [intOf]; omega
    · by_cases h1 : i < ns.length
      · by_cases h2 : i < tys.length
        · have h3 : ¬ i < 30 := by omega
          have hd1 : decide ((i : Int) < (ns.length : Int)) = true := decide_eq_true (by omega)
          have hd2 : decide (i < ns.length) = true := decide_eq_true (by omega)
          have hd7 : ((i : Int) < (ns.length : Int)) = True := eq_true (by omega)
          have hd3 : decide ((i : Int) < (tys.length : Int)) = true := decide_eq_true (by omega)
          have hd4 : decide (i < tys.length) = true := decide_eq_true (by omega)
          have hd8 : ((i : Int) < (tys.length : Int)) = True := eq_true (by omega)
          have hd5 : decide ((i : Int) < 30) = false := decide_eq_false (by omega)
          have hd6 : ((i : Int) < 30) = False := eq_false (by omega)
          go_wp2_with fail
          refine (wimplelaw0_Num.calls 0 0 _ rfl).mono ?_
          rintro e w9 ⟨rfl, ⟨nd4, rfl⟩⟩
          simp only
          go_wp2_with fail
          go_ret
          exact ⟨rfl, pw_below_drewN HB.out _⟩
        · skip
          have hd1 : decide ((i : Int) < (ns.length : Int)) = true := decide_eq_true (by omega)
          have hd2 : decide (i < ns.length) = true := decide_eq_true (by omega)
          have hd7 : ((i : Int) < (ns.length : Int)) = True := eq_true (by omega)
          have hd3 : decide ((i : Int) < (tys.length : Int)) = false := decide_eq_false (by omega)
          have hd4 : decide (i < tys.length) = false := decide_eq_false (by omega)
          have hd8 : ((i : Int) < (tys.length : Int)) = False := eq_false (by omega)
          go_wp2_with fail
          refine (wimplelaw0_Num.calls 0 0 _ rfl).mono ?_
          rintro e w9 ⟨rfl, ⟨nd4, rfl⟩⟩
          simp only
          go_wp2_with fail
          go_ret
          exact ⟨rfl, pw_below_drewN HB.out _⟩
      · skip
        have hd1 : decide ((i : Int) < (ns.length : Int)) = false := decide_eq_false (by omega)
        have hd2 : decide (i < ns.length) = false := decide_eq_false (by omega)
        have hd7 : ((i : Int) < (ns.length : Int)) = False := eq_false (by omega)
        go_wp2_with fail
        refine (wimplelaw0_Num.calls 0 0 _ rfl).mono ?_
        rintro e w9 ⟨rfl, ⟨nd4, rfl⟩⟩
        simp only
        go_wp2_with fail
        go_ret
        exact ⟨rfl, pw_below_drewN HB.out _⟩
end Go.Proofs.Ytkmdjcdmgmffiaa.M
