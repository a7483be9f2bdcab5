/- What a reply must tell, out of what was asked. -/
import Derived.Test.YtojjkgnkdcekpaaHTab
import Derived.Test.YtojjkgnkdcekpaaPx5
import Derived.Test.YtojjkgnkdcekpaaSRefPlaces
import Derived.Test.YtojjkgnkdcekpaaMOrder
import Derived.Test.YtojjkgnkdcekpaaPx4
import Derived.Test.YtojjkgnkdcekpaaPx7
import Derived.Test.YtojjkgnkdcekpaaPx8

set_option linter.unusedVariables false
set_option linter.unusedSimpArgs false
namespace Go.Proofs.Ytojjkgnkdcekpaa.M
open Go Go.RowKit Go.Proofs.YtojjkgnkdcekpaaW.PrintWords Go.Proofs.Ytojjkgnkdcekpaa.P

theorem short_labels {s : Bytes} {ls : List Bytes} (h : nm s = some ls) : ls.length ≤ 127 ∧ ∀ l ∈ ls, l.length ≤ 63 := by
  have := nm_count h
  exact ⟨by omega, fun l hl => ((nm_some.1 h).1 l hl).2⟩

theorem map_B_mk (ls : List Bytes) : (ls.map mkB).map (fun l => fol l.data.toList) = ls.map fol := by
  rw [List.map_map]
  exact List.map_congr_left (fun x _ => congrArg fol (B_mk x))

theorem Fold_ev (s : ByteArray) : Ev (fun k => rel_Fold.f k s) (mkB (fold (B s))) := by
  have h1 := Labels_ev s
  unfold rel_Fold.f
  cases h : nm (B s) with
  | none =>
    rw [h] at h1
    rw [fold_none h]
    exact Ev.bind h1 (Ev.neg (by simp) (Ev.pure _))
  | some ls =>
    rw [h] at h1
    obtain ⟨g1, g2⟩ := short_labels h
    rw [fold_some h]
    refine Ev.bind h1 (Ev.pos rfl (Ev.pos ⟨by simp; omega, ?_⟩ (Ev.eq (Ev.pure _) ?_)))
    · intro l hl
      obtain ⟨x, hx, rfl⟩ := List.mem_map.1 hl
      have := g2 x hx
      rw [sz_mk]
      omega
    · unfold foldB
      rw [map_B_mk]
      rfl

theorem refFold_ev (s : ByteArray) : Ev (fun k => wimpleref1_Fold.f k s) (mkB (fold (B s))) := by
  obtain ⟨r, h1, h2⟩ := refplaces_ev s
  unfold wimpleref1_Fold.f
  cases h : nm (B s) with
  | none =>
    rw [h] at h1
    rw [fold_none h]
    exact Ev.bind h1 (Ev.neg (by simp) (Ev.pure _))
  | some ls =>
    rw [h] at h1
    have hr := h2 ls h
    subst hr
    refine Ev.bind h1 (Ev.pos rfl (Ev.pos ?_ (Ev.pure _)))
    exact ⟨by first | rfl | (rw [h]; rfl), by first | rfl | (rw [h]; rfl)⟩

theorem fold_inj {a b : Bytes} {x y : List Bytes} (ha : nm a = some x) (hb : nm b = some y) : fold a = fold b ↔ x.map fol = y.map fol := by
  rw [fold_some ha, fold_some hb]
  exact ⟨fun h => wire_inj (good_fold (nm_some.1 ha).1) (good_fold (nm_some.1 hb).1) h, fun h => by rw [h]⟩

/-- Are names the same? -/
def sameS (a b : Bytes) : Bool := match nm a, nm b with
  | some x, some y => decide (x.map fol = y.map fol)
  | _, _ => false

/-- Is a name above another one? -/
def aboveS (a b : Bytes) : Bool := match nm a, nm b with
  | some x, some y => decide (x.map fol <:+ y.map fol)
  | _, _ => false

theorem sameS_some {a b : Bytes} {x y : List Bytes} (ha : nm a = some x) (hb : nm b = some y) : sameS a b = decide (x.map fol = y.map fol) := by unfold sameS; rw [ha, hb]
theorem sameS_left {a b : Bytes} (ha : nm a = none) : sameS a b = false := by unfold sameS; rw [ha]
theorem sameS_right {a b : Bytes} (hb : nm b = none) : sameS a b = false := by unfold sameS; rw [hb]; cases nm a <;> rfl
theorem aboveS_some {a b : Bytes} {x y : List Bytes} (ha : nm a = some x) (hb : nm b = some y) : aboveS a b = decide (x.map fol <:+ y.map fol) := by unfold aboveS; rw [ha, hb]
theorem aboveS_left {a b : Bytes} (ha : nm a = none) : aboveS a b = false := by unfold aboveS; rw [ha]
theorem aboveS_right {a b : Bytes} (hb : nm b = none) : aboveS a b = false := by unfold aboveS; rw [hb]; cases nm a <;> rfl

theorem refSame_ev (a b : ByteArray) : Ev (fun k => wimpleref1_Same.f k a b) (sameS (B a) (B b)) := by
  unfold wimpleref1_Same.f
  refine Ev.bind (refMay_ev a) ?_
  cases ha : nm (B a) with
  | none =>
    rw [sameS_left ha]
    exact Ev.neg (by simp) (Ev.pure _)
  | some x =>
    refine Ev.pos rfl (Ev.bind (refMay_ev b) ?_)
    cases hb : nm (B b) with
    | none =>
      rw [sameS_right hb]
      exact Ev.neg (by simp) (Ev.pure _)
    | some y =>
      refine Ev.pos rfl (Ev.bind (refFold_ev a) (Ev.bind (refFold_ev b) (Ev.eq (Ev.pure _) ?_)))
      rw [toL, toL, B_mk, B_mk, sameS_some ha hb, Bool.eq_iff_iff, beq_iff_eq, decide_eq_true_eq]
      exact fold_inj ha hb

theorem Places_nil : Ev (fun k => name_Places.f k (mkB [])) (([] : List Int), false) := by
  unfold name_Places.f
  refine Ev.neg (by decide) (Ev.step (fun k => by simp only [name_Places.l0]; rfl) (Ev.neg (by decide) (Ev.neg (by decide) (Ev.pure _))))

theorem extract_off (s : ByteArray) (ls : List Bytes) (hw : wire ls = B s) (i : Nat) (h : i ≤ ls.length) : B (s.extract (off ls i) s.size) = wire (ls.drop i) := by
  rw [B_extract, ← hw, drop_off ls i h, List.take_of_length_le]
  rw [← drop_off ls i h, List.length_drop, sz, hw]
  exact Nat.le_refl _

theorem nm_drop {s : Bytes} {ls : List Bytes} (h : nm s = some ls) (i : Nat) : nm (wire (ls.drop i)) = some (ls.drop i) := by
  obtain ⟨hg, hw, hl⟩ := nm_some.1 h
  refine nm_wire (fun l hl => hg l (List.mem_of_mem_drop hl)) ?_
  rcases Nat.lt_or_ge ls.length i with hi | hi
  · rw [List.drop_eq_nil_of_le (by omega)]
    decide
  · rw [← drop_off ls i hi, List.length_drop, hw]
    omega

end Go.Proofs.Ytojjkgnkdcekpaa.M

set_option linter.unusedVariables false
set_option linter.unusedSimpArgs false
namespace Go.Proofs.Ytojjkgnkdcekpaa.M
open Go Go.RowKit Go.ChangeMaps Go.Proofs.YtojjkgnkdcekpaaW.PrintWords Go.Proofs.YtojjkgnkdcekpaaW.PrintLast Go.Proofs.YtojjkgnkdcekpaaW.PrintMore Go.Proofs.Ytojjkgnkdcekpaa.P

def keyA (x : S35) : K66 := ⟨x.f2, x.f1, mkB (fold (B x.f5.f0)), x.f5.f1⟩
theorem fold_calls (a : ByteArray) (w : World) : Calls Try.prog 27 #[.string a] w fun e w' => e = .returned (.string (mkB (fold (B a)))) ∧ Below w.heap.size w w' := by
  obtain ⟨k, hk⟩ := Ev.rounds (Fold_ev a)
  exact rel_Fold.calls k a _ w hk
theorem drew_cell {w : World} {a : Addr} {v : Value} (h : w.cell? a = some v) : w.drew.cell? a = some v := h
theorem alloc_cell {w : World} {a : Addr} {v : Value} (h : w.cell? a = some v) (o : Obj) : (w.alloc o).cell? a = some v := (World.cell?_alloc_lt _ _ _ (World.block_lt_of_cell? _ _ h)).trans h
theorem frz_below {w w' : World} {g i : Nat} (h : w.frozen? ⟨g, i, none⟩ = false) (hl : g < w.heap.size) (hb : Below w.heap.size w w') : w'.frozen? ⟨g, i, none⟩ = false := (World.frozen?_of_block (hb.block g hl)).trans h
set_option maxHeartbeats 4000000 in
set_option maxRecDepth 100000 in
theorem keyOf_calls (w : World) (b : Nat) (x : S35) (d1 : w.cell? ⟨b, 1, none⟩ = some (.int .i64 x.f1)) (d2 : w.cell? ⟨b, 2, none⟩ = some (.int .i64 x.f2)) (d5 : w.cell? ⟨b, 5, none⟩ = some (.string x.f5.f0)) (d6 : w.cell? ⟨b, 6, none⟩ = some (.int .i64 x.f5.f1)) :
    Calls Try.prog 24 #[.pointer (some ⟨b, 0, none⟩)] w fun e w' => e = .returned (kv (keyA x)) ∧ Below w.heap.size w w' := by
  have q1 : ∀ o, (w.alloc o).cell? ⟨b, 1, none⟩ = some (.int .i64 x.f1) := fun o => alloc_cell d1 o
  have q2 : ∀ o, (w.alloc o).cell? ⟨b, 2, none⟩ = some (.int .i64 x.f2) := fun o => alloc_cell d2 o
  have q5 : ∀ o, (w.alloc o).cell? ⟨b, 5, none⟩ = some (.string x.f5.f0) := fun o => alloc_cell d5 o
  have q6 : ∀ o, (w.alloc o).cell? ⟨b, 6, none⟩ = some (.int .i64 x.f5.f1) := fun o => alloc_cell d6 o
  go_enter Try.func24, Try.ntmps24
  go_wp2_with fail
  generalize hW : w.alloc _ = W
  have HB : Aside0 (Below w.heap.size w W) := ⟨by rw [← hW]; exact below_alloc (Below.refl _ _) _⟩
  have SW : Aside0 (w.heap.size < W.heap.size) := ⟨by rw [← hW, size_alloc']; omega⟩
  have e1 : W.cell? ⟨b, 1, none⟩ = some (.int .i64 x.f1) := by rw [← hW]; exact q1 _
  have e2 : W.cell? ⟨b, 2, none⟩ = some (.int .i64 x.f2) := by rw [← hW]; exact q2 _
  have e5 : W.cell? ⟨b, 5, none⟩ = some (.string x.f5.f0) := by rw [← hW]; exact q5 _
  have e6 : W.cell? ⟨b, 6, none⟩ = some (.int .i64 x.f5.f1) := by rw [← hW]; exact q6 _
  have r0 : W.cell? ⟨w.heap.size, 0, none⟩ = some (.int .i64 0) := by rw [← hW]; exact (blk_cell (blk_new w _) 0).trans rfl
  have r1 : W.cell? ⟨w.heap.size, 1, none⟩ = some (.int .i64 0) := by rw [← hW]; exact (blk_cell (blk_new w _) 1).trans rfl
  have r2 : W.cell? ⟨w.heap.size, 2, none⟩ = some (.string ⟨#[]⟩) := by rw [← hW]; exact (blk_cell (blk_new w _) 2).trans rfl
  have r3 : W.cell? ⟨w.heap.size, 3, none⟩ = some (.int .i64 0) := by rw [← hW]; exact (blk_cell (blk_new w _) 3).trans rfl
  have fr : ∀ i, W.frozen? ⟨w.heap.size, i, none⟩ = false := by rw [← hW]; exact fun i => blk_frozen (blk_new w _) i
  have NB : Aside0 (b ≠ w.heap.size) := ⟨fun e => by have := World.block_lt_of_cell? _ _ d1; rw [e] at this; exact Nat.lt_irrefl _ this⟩
  have fr := Aside0.mk fr
  clear hW q1 q2 q5 q6 d1 d2 d5 d6
  have hF := Aside0.mk (fold_calls x.f5.f0)
  go_region_held3 (fun w' => w'.cell? ⟨b, 1, none⟩ = some (.int .i64 x.f1) ∧ w'.cell? ⟨b, 2, none⟩ = some (.int .i64 x.f2) ∧ w'.cell? ⟨b, 5, none⟩ = some (.string x.f5.f0) ∧ w'.cell? ⟨b, 6, none⟩ = some (.int .i64 x.f5.f1))
    (first
      | ((try dsimp only); (repeat' apply And.intro) <;> with_reducible exact drew_cell (by assumption))
      | ((try dsimp only at *); go_split_ands; (repeat' apply And.intro) <;> with_reducible exact pw_cell_below hb (by assumption))
      | ((try dsimp only at *); go_split_ands; (repeat' apply And.intro) <;> with_reducible exact set_far (set_far (set_far (set_far (by assumption) NB.out _) NB.out _) NB.out _) NB.out _))
    ((go_at_call 27; refine (hF.out _).mono ?_; rintro e w5 ⟨rfl, hb⟩; have B5 := Aside0.mk (below_then (below_drew HB.out) (below_drew HB.out).size hb); have t0 : w5.cell? ⟨w.heap.size, 0, none⟩ = some (.int .i64 0) := pw_cell_below hb (drew_cell r0); have t1 : w5.cell? ⟨w.heap.size, 1, none⟩ = some (.int .i64 0) := pw_cell_below hb (drew_cell r1); have t2 : w5.cell? ⟨w.heap.size, 2, none⟩ = some (.string ⟨#[]⟩) := pw_cell_below hb (drew_cell r2); have t3 : w5.cell? ⟨w.heap.size, 3, none⟩ = some (.int .i64 0) := pw_cell_below hb (drew_cell r3); have tf : ∀ i, w5.frozen? ⟨w.heap.size, i, none⟩ = false := fun i => frz_below (w := W.drew) (show W.drew.frozen? _ = false from fr.out i) SW.out hb))
  all_goals
    (try simp only [Exit.then])
    go_wp2_with fail
    exact bodyPost_ret (v := kv (keyA x)) (by simp [results, Try.results24, go_sem, kv, keyA, t0, t1, t2, t3]) rfl ⟨rfl, (((B5.out.setCell (p := ⟨w.heap.size, 0, none⟩) (Nat.le_refl _) _).setCell (p := ⟨w.heap.size, 1, none⟩) (Nat.le_refl _) _).setCell (p := ⟨w.heap.size, 2, none⟩) (Nat.le_refl _) _).setCell (p := ⟨w.heap.size, 3, none⟩) (Nat.le_refl _) _⟩
end Go.Proofs.Ytojjkgnkdcekpaa.M
