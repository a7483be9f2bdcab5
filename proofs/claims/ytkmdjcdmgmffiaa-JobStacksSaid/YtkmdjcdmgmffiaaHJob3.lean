/- A job's methods: Pop, Set, Tried. -/
import Derived.Test.YtkmdjcdmgmffiaaHJob2
import Derived.Test.YtkmdjcdmgmffiaaPx4
set_option linter.unusedVariables false
set_option linter.unusedSimpArgs false
namespace Go.Proofs.Ytkmdjcdmgmffiaa.M
open Go Go.RowKit Go.ChangeMaps Go.Proofs.YtkmdjcdmgmffiaaW.PrintWords Go.Proofs.YtkmdjcdmgmffiaaW.PrintLast Go.Proofs.YtkmdjcdmgmffiaaW.PrintMore Go.Proofs.Ytkmdjcdmgmffiaa.P

section
variable {w : World} {base : Nat} {S : Nat → Prop} {g : Nat} {id : Int} {ts : List T34} {d ch sp : Int} {n : Nat} {seen : List (List UInt8)} {v : Value} {m : Nat}
set_option maxHeartbeats 4000000 in
set_option maxRecDepth 100000 in
theorem Pop_none (h : JobAt w base S g id [] d ch sp n seen v m) : Calls Try.prog 15 #[.pointer (some ⟨g, 0, none⟩)] w fun e w' => e = .returned (.tuple #[]) ∧ w' = w := by
  obtain ⟨A, c, rfl, hl, _⟩ := Kd.R_reads h.row
  have c1 : w.cell? ⟨g, 1, none⟩ = some (.slice A 0 c) := (blk_cell h.blk 1).trans rfl
  clear h
  go_enter Try.func15, Try.ntmps15
  go_wp2_with fail
  go_end0
  exact ⟨rfl, rfl⟩
set_option maxHeartbeats 4000000 in
set_option maxRecDepth 100000 in
theorem Pop_some (h : JobAt w base S g id ts d ch sp n seen v m) (k : Nat) (hk : ts.length = k + 1) (hk2 : k ≤ 1000000) : Calls Try.prog 15 #[.pointer (some ⟨g, 0, none⟩)] w fun e w' => e = .returned (.tuple #[]) ∧ (∃ v', JobAt w' base S g id (ts.take k) d ch sp n seen v' m) ∧ Below base w w' ∧ Kept w w' S := by
  obtain ⟨q, c, rfl, _⟩ := Kd.R_form h.row (by omega)
  have hr := h.row
  rw [hk] at hr h
  have hkc : k + 1 ≤ c := (Kd.R_reads' hr).2.1
  have H := Aside0.mk h
  have c1 : w.cell? ⟨g, 1, none⟩ = some (.slice (some ⟨q, 0, none⟩) (k + 1) c) := (blk_cell h.blk 1).trans rfl
  have f1 : w.frozen? ⟨g, 1, none⟩ = false := blk_frozen h.blk 1
  have e1 : decide ((0 : Int) < (k : Int) + 1) = true := decide_eq_true (by omega)
  have e2 : decide ((k : Int) + 1 > 0) = true := decide_eq_true (by omega)
  obtain ⟨i34, hi34, _, hsz34, _⟩ := info_parts info34
  have hcut : ∀ W : World, (Instr.slice 46 (.slice (some ⟨q, 0, none⟩) (k + 1) c) none (some (.int .i64 (k : Int))) none).run Try.prog W = .ok (.slice (some ⟨q, 0, none⟩) k c) W := by
    intro W
    have hel : Try.prog.elem 46 = 34 := by simp [Program.elem, Try.underlying46]
    have hu : Try.prog.underlying 46 = some (.slice (Try.prog.elem 46)) := by rw [hel]; exact Try.underlying46
    rw [run_slice_h W 46 (some ⟨q, 0, none⟩) (k + 1) c hu .i64 _ (by omega) (by omega), hel]
    simp [sizeOf, typeInfo, hi34, sliced, Result.andThen, show (⟨q, 0, none⟩ : Addr).add 0 = ⟨q, 0, none⟩ from add_plain q 0]
  clear h hr hsz34 hi34
  go_enter Try.func15, Try.ntmps15
  go_wp2_with fail
  go_big_region
  have J : JobAt (w.setCell ⟨g, 1, none⟩ (.slice (some ⟨q, 0, none⟩) k c)) base S g id (ts.take k) d ch sp n seen (.slice (some ⟨q, 0, none⟩) k c) m := ⟨blk_put H.out.blk 1 _ rfl, H.out.lo, H.out.mlo, Kd.R_set (Kd.R_take H.out.row (by omega)) H.out.blk ne57 1 _, Seen_set H.out.tried H.out.mg _, H.out.sg, H.out.sm⟩
  have J' := Aside0.mk (J.below (below_drew (Below.refl _ _)))
  have B' : Aside0 (Below base w (w.setCell ⟨g, 1, none⟩ (.slice (some ⟨q, 0, none⟩) k c)).drew) := ⟨((Below.refl base w).setCell (p := ⟨g, 1, none⟩) H.out.lo _).trans (below_lower (below_drew (Below.refl _ _)) (by have := blk_lt H.out.blk; have := H.out.lo; simp [World.setCell]; omega))⟩
  clear J
  go_end0
  exact ⟨rfl, ⟨_, J'.out⟩, B'.out, ((Kept.refl w S).setCell (p := ⟨g, 1, none⟩) (Or.inl H.out.sg) _).drew⟩
set_option maxHeartbeats 4000000 in
set_option maxRecDepth 100000 in
theorem Set_none (h : JobAt w base S g id [] d ch sp n seen v m) (x : T34) : Calls Try.prog 17 #[.pointer (some ⟨g, 0, none⟩), v34 x] w fun e w' => e = .returned (.tuple #[]) ∧ Below w.heap.size w w' := by
  obtain ⟨A, c, rfl, hl, _⟩ := Kd.R_reads h.row
  have c1 : ∀ o, (w.alloc o).cell? ⟨g, 1, none⟩ = some (.slice A 0 c) := fun o => (blk_cell (blk_alloc h.blk o) 1).trans rfl
  clear h
  unfold v34
  go_enter Try.func17, Try.ntmps17
  go_wp2_with fail
  go_end0
  exact ⟨rfl, below_alloc (Below.refl _ _) _⟩
set_option maxHeartbeats 4000000 in
set_option maxRecDepth 100000 in
theorem Set_some (h : JobAt w base S g id ts d ch sp n seen v m) (k : Nat) (hk : ts.length = k + 1) (hk2 : k ≤ 1000000) (x : T34) : Calls Try.prog 17 #[.pointer (some ⟨g, 0, none⟩), v34 x] w fun e w' => e = .returned (.tuple #[]) ∧ JobAt w' base S g id (ts.set k x) d ch sp n seen v m ∧ Below base w w' ∧ Kept w w' S := by
  obtain ⟨q, c, rfl, hq, _⟩ := Kd.R_form h.row (by omega)
  have hr := h.row
  rw [hk] at hr h
  obtain ⟨cs, hl, hM, hc, hf⟩ := Kd.R_elem hr z34 (k : Int) (by omega) (by omega)
  rw [Int.toNat_natCast] at hM hc hf
  obtain rfl := k34_openM hM
  have H := Aside0.mk h
  have HQ := Aside0.mk hq
  generalize ts.getD k z34 = y at *
  have c1 : ∀ o, (w.alloc o).cell? ⟨g, 1, none⟩ = some (.slice (some ⟨q, 0, none⟩) (k + 1) c) := fun o => (blk_cell (blk_alloc h.blk o) 1).trans rfl
  have e1 : decide ((0 : Int) < (k : Int) + 1) = true := decide_eq_true (by omega)
  have e2 : decide ((k : Int) + 1 > 0) = true := decide_eq_true (by omega)
  have d0 : ∀ o, (w.alloc o).cell? ⟨q, k * 8, none⟩ = some (.string y.f0) := fun o => alloc_cell (hc 0 _ rfl) o
  have d1 : ∀ o, (w.alloc o).cell? ⟨q, k * 8 + 1, none⟩ = some (.int .i64 y.f1) := fun o => alloc_cell (hc 1 _ rfl) o
  have d2 : ∀ o, (w.alloc o).cell? ⟨q, k * 8 + 2, none⟩ = some (.string y.f2) := fun o => alloc_cell (hc 2 _ rfl) o
  have d3 : ∀ o, (w.alloc o).cell? ⟨q, k * 8 + 3, none⟩ = some (.string y.f3) := fun o => alloc_cell (hc 3 _ rfl) o
  have d4 : ∀ o, (w.alloc o).cell? ⟨q, k * 8 + 4, none⟩ = some (.int .i64 y.f4) := fun o => alloc_cell (hc 4 _ rfl) o
  have d5 : ∀ o, (w.alloc o).cell? ⟨q, k * 8 + 5, none⟩ = some (.bool y.f5) := fun o => alloc_cell (hc 5 _ rfl) o
  have d6 : ∀ o, (w.alloc o).cell? ⟨q, k * 8 + 6, none⟩ = some (.int .i64 y.f6) := fun o => alloc_cell (hc 6 _ rfl) o
  have d7 : ∀ o, (w.alloc o).cell? ⟨q, k * 8 + 7, none⟩ = some (.int .i64 y.f7) := fun o => alloc_cell (hc 7 _ rfl) o
  have w0 : w.cell? ⟨q, k * 8, none⟩ = some (.string y.f0) := hc 0 _ rfl
  have w1 : w.cell? ⟨q, k * 8 + 1, none⟩ = some (.int .i64 y.f1) := hc 1 _ rfl
  have w2 : w.cell? ⟨q, k * 8 + 2, none⟩ = some (.string y.f2) := hc 2 _ rfl
  have w3 : w.cell? ⟨q, k * 8 + 3, none⟩ = some (.string y.f3) := hc 3 _ rfl
  have w4 : w.cell? ⟨q, k * 8 + 4, none⟩ = some (.int .i64 y.f4) := hc 4 _ rfl
  have w5 : w.cell? ⟨q, k * 8 + 5, none⟩ = some (.bool y.f5) := hc 5 _ rfl
  have w6 : w.cell? ⟨q, k * 8 + 6, none⟩ = some (.int .i64 y.f6) := hc 6 _ rfl
  have w7 : w.cell? ⟨q, k * 8 + 7, none⟩ = some (.int .i64 y.f7) := hc 7 _ rfl
  obtain ⟨qcs, hqb⟩ := Kd.R_typed hr q rfl
  have fw : ∀ i, w.frozen? ⟨q, i, none⟩ = false := fun i => blk_frozen hqb i
  have fq : ∀ o i, (w.alloc o).frozen? ⟨q, i, none⟩ = false := fun o i => blk_frozen (blk_alloc hqb o) i
  have hseg := Kd.R_seg hr (k : Int) (by omega) (by omega) (c := c34 y) (seg := c34 x) (j := 0) (okp := fun _ => False) (x' := x) hl (fun j u hj => by rw [Int.toNat_natCast]; exact hc j u hj) (by show 0 + 8 ≤ 8; omega) (by exact k34_mkM _ _ _ x) (fun _ hk => hk.elim)
  rw [Int.toNat_natCast] at hseg
  have R1 := Aside0.mk hseg.1
  have G1 := Aside0.mk hseg.2
  clear h hr hc hf hl hM hqb hq hseg
  have hw : IntKind.i64.wrap (k : Int) = (k : Int) := IntWalk.i64_in _ (by omega)
  have e5 : ((k : Int) < (k : Int) + 1) = True := eq_true (by omega)
  unfold v34
  go_enter Try.func17, Try.ntmps17
  go_wp2_with fail
  go_region_law (fail)
  all_goals
    have J : JobAt (w.setCells q (k * k34.sz + 0) (c34 x)) base S g id (ts.set k x) d ch sp n seen (.slice (some ⟨q, 0, none⟩) (k + 1) c) m := ⟨blk_grown H.out.blk G1.out H.out.gv, H.out.lo, H.out.mlo, R1.out, Seen_kept H.out.tried G1.out H.out.mv, H.out.sg, H.out.sm⟩
    have J' := Aside0.mk (fun o => J.below (below_drew (below_alloc (Below.refl _ _) o)))
    have B' : Aside0 (∀ o, Below base w ((w.setCells q (k * k34.sz + 0) (c34 x)).alloc o).drew) := ⟨fun o => ((Below.refl base w).grown G1.out (by have := blk_lt H.out.blk; have := H.out.lo; omega) (fun j hj => by cases hj; exact HQ.out)).trans (below_lower (below_drew (below_alloc (Below.refl _ _) o)) (by have h1 := blk_lt J.blk; have := H.out.lo; omega))⟩
    have K' : Aside0 (∀ o, Kept w ((w.setCells q (k * k34.sz + 0) (c34 x)).alloc o).drew S) := ⟨fun o => ((Kept.of_grown G1.out (Kept.refl w S) (fun k hk => Or.inl (H.out.row.1 k hk))).alloc o).drew⟩
    clear J d0 d1 d2 d3 d4 d5 d6 d7 w0 w1 w2 w3 w4 w5 w6 w7 fw fq hw e5 e1 e2 c1
    go_end0
    exact ⟨rfl, by rw [hk]; exact J'.out _, B'.out _, K'.out _⟩

set_option maxHeartbeats 4000000 in
set_option maxRecDepth 100000 in
theorem Tried_calls (h : JobAt w base S g id ts d ch sp n seen v m) (hn : n ≤ 1000000) (host f : ByteArray) (kf : Nat) (hf : rel_Fold.f kf host = some f) (hz : f.size ≤ 1000000) : Calls Try.prog 20 #[.pointer (some ⟨g, 0, none⟩), .string host] w fun e w' => e = .returned (.bool (decide (f.data.toList ∈ seen))) ∧ JobAt w' base S g id ts d ch sp (n + 1) (f.data.toList :: seen) v m ∧ Below base w w' ∧ Kept w w' S := by
  have H := Aside0.mk h
  have HF := Aside0.mk hf
  clear h hf
  go_enter Try.func20, Try.ntmps20
  go_wp2_with fail
  refine (rel_Fold.calls kf host f _ HF.out).mono ?_
  rintro e w1 ⟨rfl, hb⟩
  have H1 := Aside0.mk (H.out.below hb)
  have B1 : Aside0 (Below base w w1) := ⟨below_lower hb (by have := blk_lt H.out.blk; have := H.out.lo; omega)⟩
  have c5 : w1.cell? ⟨g, 5, none⟩ = some (.map (some m)) := (blk_cell H1.out.blk 5).trans rfl
  have hlk := Seen_look H1.out.tried f (by unfold maxLen; omega)
  obtain ⟨w2, hup, hs2, hg2⟩ := Seen_store H1.out.tried f (by unfold maxLen; omega) hn
  have J : JobAt w2 base S g id ts d ch sp (n + 1) (f.data.toList :: seen) v m := ⟨blk_grown H1.out.blk hg2 (fun e => H1.out.mg (by injection e with e; exact e.symm)), H1.out.lo, H1.out.mlo, Kd.R_grown (Kd.R_tight rfl H1.out.row |> fun r => Kd.R_mono r (fun k hk => hk)) hg2 (fun k hk e => H1.out.mv (by rw [← e]; exact hk)) |> fun r => Kd.R_mono r (fun k hk => H1.out.row.1 k hk.symm), hs2, H1.out.sg, H1.out.sm⟩
  have J' := Aside0.mk J
  have K' : Aside0 (Kept w w2 S) := ⟨Kept.of_grown hg2 (Kept.of_below hb S) (fun k hk => by cases hk; exact Or.inl H1.out.sm)⟩
  have B2 : Aside0 (Below base w w2) := ⟨B1.out.grown hg2 (by have := blk_lt H1.out.blk; have := H1.out.lo; omega) (fun j hj => by cases hj; exact H1.out.mlo)⟩
  clear hb hs2 hg2 J
  simp only
  go_wp2_with fail
  go_ret
  exact ⟨rfl, J'.out, B2.out, K'.out⟩
end
end Go.Proofs.Ytkmdjcdmgmffiaa.M
