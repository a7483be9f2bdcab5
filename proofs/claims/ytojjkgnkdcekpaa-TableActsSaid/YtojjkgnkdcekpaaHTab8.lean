/- Table.Take. -/
import Derived.Test.YtojjkgnkdcekpaaHTab7
set_option linter.unusedVariables false
set_option linter.unusedSimpArgs false
namespace Go.Proofs.Ytojjkgnkdcekpaa.M
open Go Go.RowKit Go.ChangeMaps Go.Proofs.YtojjkgnkdcekpaaW.PrintWords Go.Proofs.YtojjkgnkdcekpaaW.PrintLast Go.Proofs.YtojjkgnkdcekpaaW.PrintMore Go.Proofs.Ytojjkgnkdcekpaa.P

def keyQ (addr id : Int) (nm : ByteArray) (t : Int) : K66 := ⟨addr, id, mkB (fold (B nm)), t⟩
section
variable {w w' : World} {base b : Nat} {S S' : Nat → Prop} {g : Nat} {most : Int} {xs : List S35} {n : Nat} {f f' : K66 → Int} {v : Value} {m : Nat}
theorem Many_same {w w' : World} {m n : Nat} {f : K66 → Int} (h : ManyAt w m n f) (hb : w'.heap[m]? = w.heap[m]?) : ManyAt w' m n f := by
  obtain ⟨D, ⟨es, clock, he, F, hs, hD⟩, hf⟩ := h
  exact ⟨D, ⟨es, clock, hb.trans he, F, hs, hD⟩, hf⟩
theorem TabAt.kept {S2 : Nat → Prop} (h : TabAt w base S g most xs n f v m) (hk : Kept w w' S2) (hs : ∀ k, S k → ¬ S2 k) : TabAt w' base S g most xs n f v m :=
  ⟨blk_kept h.blk hk (hs _ h.sg), h.lo, h.mlo, Kd.R_mono (Kd.R_kept (Kd.R_tight2 k35_E h.row) hk (fun k hk' => hs k hk'.2)) (fun k hk' => hk'.2), Many_same h.many (hk.2 m (Many_lt h.many) (hs _ h.sm)), h.sg, h.sm⟩
set_option maxHeartbeats 4000000 in
set_option maxRecDepth 100000 in
theorem Take_none (h : TabAt w base S g most xs n f v m) (addr id : Int) (nm : ByteArray) (t cl : Int) (hk : (keyQ addr id nm t).Good) (hq : cl ≠ 1 ∨ f (keyQ addr id nm t) = 0) : Calls Try.prog 14 #[.pointer (some ⟨g, 0, none⟩), .int .i64 addr, .int .i64 id, .agg #[.string nm, .int .i64 t, .int .i64 cl]] w fun e w' => e = .returned (.tuple #[v35 z35, .int .i64 1902]) ∧ Below w.heap.size w w' := by
  have HQ := Aside0.mk hq
  clear hq
  have H := Aside0.mk h
  have HK := Aside0.mk hk
  have HF := Aside0.mk (fold_calls nm)
  clear h hk
  go_enter Try.func14, Try.ntmps14
  go_wp2_with fail
  generalize hW : (w.alloc _).alloc _ = W
  have QB : W.heap[w.heap.size]? = some (.cells #[.string nm, .int .i64 t, .int .i64 cl] 37 (0, 0)) := by rw [← hW]; exact blk_alloc (blk_new w _) _
  have RB : Aside0 (W.heap[w.heap.size + 1]? = some (.cells #[.int .i64 0, .int .i64 0, .int .i64 0, .string ⟨#[]⟩, .string ⟨#[]⟩, .string ⟨#[]⟩, .int .i64 0, .int .i64 0] 35 (0, 0))) := ⟨by rw [← hW]; have := blk_new (w.alloc (.cells #[.string nm, .int .i64 t, .int .i64 cl] 37)) (.cells #[.int .i64 0, .int .i64 0, .int .i64 0, .string ⟨#[]⟩, .string ⟨#[]⟩, .string ⟨#[]⟩, .int .i64 0, .int .i64 0] 35); rwa [size_alloc'] at this⟩
  have BW : Aside0 (Below w.heap.size w W) := ⟨by rw [← hW]; exact below_alloc (below_alloc (Below.refl _ _) _) _⟩
  have SW : Aside0 (W.heap.size = w.heap.size + 2) := ⟨by rw [← hW, size_alloc', size_alloc']⟩
  have HW := Aside0.mk (H.out.below BW.out)
  have QX := Aside0.mk QB
  have q0 : W.drew.cell? ⟨w.heap.size, 0, none⟩ = some (.string nm) := (blk_cell QB 0).trans rfl
  have q1 : W.drew.cell? ⟨w.heap.size, 1, none⟩ = some (.int .i64 t) := (blk_cell QB 1).trans rfl
  have NW : Aside0 (w.heap.size ≠ W.heap.size) := ⟨by have := SW.out; omega⟩
  have hfo := Aside0.mk (HF.out W.drew)
  have hfo2 := Aside0.mk (HF.out (W.alloc (.cells #[.int .i64 0, .int .i64 0, .string ⟨#[]⟩, .int .i64 0] 66)).drew)
  have v0 : ∀ o, (W.alloc o).drew.cell? ⟨w.heap.size, 0, none⟩ = some (.string nm) := fun o => (blk_cell (blk_alloc QB o) 0).trans rfl
  have v1 : ∀ o, (W.alloc o).drew.cell? ⟨w.heap.size, 1, none⟩ = some (.int .i64 t) := fun o => (blk_cell (blk_alloc QB o) 1).trans rfl
  clear hW QB
  go_region_held3 (fun w' => w'.cell? ⟨w.heap.size, 0, none⟩ = some (.string nm) ∧ w'.cell? ⟨w.heap.size, 1, none⟩ = some (.int .i64 t))
    (first
      | ((try dsimp only); (repeat' apply And.intro) <;> with_reducible first | assumption | exact u0 _ | exact u1 _ | exact v0 _ | exact v1 _)
      | ((try dsimp only at *); go_split_ands; (repeat' apply And.intro) <;> with_reducible first | exact pw_cell_below hb (by assumption) | exact pw_cell_below hb (v0 _) | exact pw_cell_below hb (v1 _))
      | ((try dsimp only at *); go_split_ands; (repeat' apply And.intro) <;> with_reducible exact set_far (set_far (set_far (set_far (by assumption) NW.out _) NW.out _) NW.out _) NW.out _))
    (first
      | (go_at_call 27; refine hfo.out.mono ?_; rintro e w5 ⟨rfl, hb⟩; have B5 := Aside0.mk (below_then (below_drew BW.out) (below_drew BW.out).size hb); have H5 := Aside0.mk ((HW.out.below (below_drew (Below.refl _ _))).below hb); have Q5 := Aside0.mk (blk_below (w := W.drew) QX.out hb); have R5 := Aside0.mk (blk_below (w := W.drew) RB.out hb); have u0 : ∀ o, (w5.alloc o).cell? ⟨w.heap.size, 0, none⟩ = some (.string nm) := fun o => alloc_cell (pw_cell_below hb q0) o; have u1 : ∀ o, (w5.alloc o).cell? ⟨w.heap.size, 1, none⟩ = some (.int .i64 t) := fun o => alloc_cell (pw_cell_below hb q1) o)
      | (go_at_call 27; refine hfo2.out.mono ?_; rintro e w5 ⟨rfl, hb⟩; have B5 := Aside0.mk (below_then (below_drew (below_alloc BW.out _)) (below_drew (below_alloc BW.out _)).size hb); have H5 := Aside0.mk ((HW.out.below (below_drew (below_alloc (Below.refl _ _) _))).below hb); have Q5 := Aside0.mk (blk_below (w := (W.alloc (.cells #[.int .i64 0, .int .i64 0, .string ⟨#[]⟩, .int .i64 0] 66)).drew) (blk_alloc QX.out _) hb); have R5 := Aside0.mk (blk_below (w := (W.alloc (.cells #[.int .i64 0, .int .i64 0, .string ⟨#[]⟩, .int .i64 0] 66)).drew) (blk_alloc RB.out _) hb); have Z5 := Aside0.mk (blk_below (w := (W.alloc (.cells #[.int .i64 0, .int .i64 0, .string ⟨#[]⟩, .int .i64 0] 66)).drew) (blk_new W _) hb); have y0 : w5.cell? ⟨W.heap.size, 0, none⟩ = some (.int .i64 0) := (blk_cell Z5.out 0).trans rfl; have y1 : w5.cell? ⟨W.heap.size, 1, none⟩ = some (.int .i64 0) := (blk_cell Z5.out 1).trans rfl; have y2 : w5.cell? ⟨W.heap.size, 2, none⟩ = some (.string ⟨#[]⟩) := (blk_cell Z5.out 2).trans rfl; have y3 : w5.cell? ⟨W.heap.size, 3, none⟩ = some (.int .i64 0) := (blk_cell Z5.out 3).trans rfl; have yf : ∀ i, w5.frozen? ⟨W.heap.size, i, none⟩ = false := fun i => blk_frozen Z5.out i))
  · skip
    (try simp only [Exit.then])
    clear u0 u1 v0 v1 q0 q1 hfo hfo2
    generalize hW6 : w5.alloc _ = W6
    obtain ⟨kb, hkb⟩ : ∃ kb, w5.heap.size = kb := ⟨_, rfl⟩
    have KB : Aside0 (W6.heap[kb]? = some (.cells #[.int .i64 addr, .int .i64 id, .string (mkB (fold (B nm))), .int .i64 t] 66 (0, 0))) := ⟨by rw [← hW6, ← hkb]; exact blk_new w5 _⟩
    have H6 : Aside0 (TabAt W6 base S g most xs n f v m) := ⟨by rw [← hW6]; exact H5.out.below (below_alloc (Below.refl _ _) _)⟩
    have Q6 : Aside0 (W6.heap[w.heap.size]? = some (.cells #[.string nm, .int .i64 t, .int .i64 cl] 37 (0, 0))) := ⟨by rw [← hW6]; exact blk_alloc Q5.out _⟩
    have R6 : Aside0 (W6.heap[w.heap.size + 1]? = some (.cells #[.int .i64 0, .int .i64 0, .int .i64 0, .string ⟨#[]⟩, .string ⟨#[]⟩, .string ⟨#[]⟩, .int .i64 0, .int .i64 0] 35 (0, 0))) := ⟨by rw [← hW6]; exact blk_alloc R5.out _⟩
    have B6 : Aside0 (Below w.heap.size w W6) := ⟨by rw [← hW6]; exact below_alloc B5.out _⟩
    have NK : Aside0 (w.heap.size + 2 ≤ kb) := ⟨by have h1 := hb.size; have h2 := SW.out; have h3 : W.drew.heap.size = W.heap.size := rfl; omega⟩
    rw [hkb]
    clear hW6 hb B5 H5 Q5 R5 hkb

    have a2 : ∀ o, (W6.drewN o).cell? ⟨w.heap.size, 2, none⟩ = some (.int .i64 cl) := fun _ => (blk_cell Q6.out 2).trans rfl
    have ag : ∀ o, (W6.drewN o).cell? ⟨g, 2, none⟩ = some (.map (some m)) := fun _ => (blk_cell H6.out.blk 2).trans rfl
    have ak0 : ∀ o, (W6.drewN o).cell? ⟨kb, 0, none⟩ = some (.int .i64 addr) := fun _ => (blk_cell KB.out 0).trans rfl
    have ak1 : ∀ o, (W6.drewN o).cell? ⟨kb, 1, none⟩ = some (.int .i64 id) := fun _ => (blk_cell KB.out 1).trans rfl
    have ak2 : ∀ o, (W6.drewN o).cell? ⟨kb, 2, none⟩ = some (.string (mkB (fold (B nm)))) := fun _ => (blk_cell KB.out 2).trans rfl
    have ak3 : ∀ o, (W6.drewN o).cell? ⟨kb, 3, none⟩ = some (.int .i64 t) := fun _ => (blk_cell KB.out 3).trans rfl

    have hlk : ∀ o, (Instr.lookup 59 (.map (some m)) (.agg #[.int .i64 addr, .int .i64 id, .string (mkB (fold (B nm))), .int .i64 t]) false).run Try.prog (W6.drewN o) = .ok (.int .i64 (f (keyQ addr id nm t))) (W6.drewN o) := fun o => Many_look (Many_below H6.out.many (pw_below_drewN (Below.refl _ _) o)) (keyQ addr id nm t) HK.out

    by_cases hc1 : cl = 1
    · have hf0 : f (keyQ addr id nm t) = 0 := by rcases HQ.out with h | h; exact absurd hc1 h; exact h
      rw [hf0] at hlk
      subst hc1
      go_wp2_with fail
      go_quiet (fail)
      (try simp only [Exit.then])
      have R7 : Aside0 ((W6.drewN nq).heap[w.heap.size + 1]? = some (.cells #[.int .i64 0, .int .i64 0, .int .i64 0, .string ⟨#[]⟩, .string ⟨#[]⟩, .string ⟨#[]⟩, .int .i64 0, .int .i64 0] 35 (0, 0))) := ⟨R6.out⟩
      have B7 : Aside0 (Below w.heap.size w (W6.drewN nq)) := ⟨pw_below_drewN B6.out _⟩
      generalize W6.drewN nq = W7 at *
      have r0 : W7.cell? ⟨w.heap.size + 1, 0, none⟩ = some (.int .i64 0) := (blk_cell R7.out 0).trans rfl
      have r1 : W7.cell? ⟨w.heap.size + 1, 1, none⟩ = some (.int .i64 0) := (blk_cell R7.out 1).trans rfl
      have r2 : W7.cell? ⟨w.heap.size + 1, 2, none⟩ = some (.int .i64 0) := (blk_cell R7.out 2).trans rfl
      have r3 : W7.cell? ⟨w.heap.size + 1, 3, none⟩ = some (.string ⟨#[]⟩) := (blk_cell R7.out 3).trans rfl
      have r4 : W7.cell? ⟨w.heap.size + 1, 4, none⟩ = some (.string ⟨#[]⟩) := (blk_cell R7.out 4).trans rfl
      have r5 : W7.cell? ⟨w.heap.size + 1, 5, none⟩ = some (.string ⟨#[]⟩) := (blk_cell R7.out 5).trans rfl
      have r6 : W7.cell? ⟨w.heap.size + 1, 6, none⟩ = some (.int .i64 0) := (blk_cell R7.out 6).trans rfl
      have r7 : W7.cell? ⟨w.heap.size + 1, 7, none⟩ = some (.int .i64 0) := (blk_cell R7.out 7).trans rfl

      have rf : ∀ i, W7.frozen? ⟨w.heap.size + 1, i, none⟩ = false := fun i => blk_frozen R7.out i
      clear a2 ag ak0 ak1 ak2 ak3 hlk
      have hle : w.heap.size ≤ w.heap.size + 1 := Nat.le_succ _
      go_wp2_with fail
      exact bodyPost_ret (v := .tuple #[v35 z35, .int .i64 1902]) (by simp [results, Try.results14, go_sem, v35, z35, z33, r0, r1, r2, r3, r4, r5, r6, r7]) rfl ⟨rfl, below_set (below_set (below_set (below_set (below_set (below_set (below_set (below_set B7.out hle) hle) hle) hle) hle) hle) hle) hle⟩
    · have d1 : decide (cl = 1) = false := decide_eq_false hc1
      have d2 : (cl == 1) = false := beq_eq_false_iff_ne.2 hc1
      have d3 : (cl != 1) = true := by simp [hc1]
      have d4 : decide (cl ≠ 1) = true := decide_eq_true hc1
      go_wp2_with fail
      go_quiet (fail)
      (try simp only [Exit.then])
      have R7 : Aside0 ((W6.drewN nq).heap[w.heap.size + 1]? = some (.cells #[.int .i64 0, .int .i64 0, .int .i64 0, .string ⟨#[]⟩, .string ⟨#[]⟩, .string ⟨#[]⟩, .int .i64 0, .int .i64 0] 35 (0, 0))) := ⟨R6.out⟩
      have B7 : Aside0 (Below w.heap.size w (W6.drewN nq)) := ⟨pw_below_drewN B6.out _⟩
      generalize W6.drewN nq = W7 at *
      have r0 : W7.cell? ⟨w.heap.size + 1, 0, none⟩ = some (.int .i64 0) := (blk_cell R7.out 0).trans rfl
      have r1 : W7.cell? ⟨w.heap.size + 1, 1, none⟩ = some (.int .i64 0) := (blk_cell R7.out 1).trans rfl
      have r2 : W7.cell? ⟨w.heap.size + 1, 2, none⟩ = some (.int .i64 0) := (blk_cell R7.out 2).trans rfl
      have r3 : W7.cell? ⟨w.heap.size + 1, 3, none⟩ = some (.string ⟨#[]⟩) := (blk_cell R7.out 3).trans rfl
      have r4 : W7.cell? ⟨w.heap.size + 1, 4, none⟩ = some (.string ⟨#[]⟩) := (blk_cell R7.out 4).trans rfl
      have r5 : W7.cell? ⟨w.heap.size + 1, 5, none⟩ = some (.string ⟨#[]⟩) := (blk_cell R7.out 5).trans rfl
      have r6 : W7.cell? ⟨w.heap.size + 1, 6, none⟩ = some (.int .i64 0) := (blk_cell R7.out 6).trans rfl
      have r7 : W7.cell? ⟨w.heap.size + 1, 7, none⟩ = some (.int .i64 0) := (blk_cell R7.out 7).trans rfl

      have rf : ∀ i, W7.frozen? ⟨w.heap.size + 1, i, none⟩ = false := fun i => blk_frozen R7.out i
      clear a2 ag ak0 ak1 ak2 ak3 hlk
      have hle : w.heap.size ≤ w.heap.size + 1 := Nat.le_succ _
      go_wp2_with fail
      exact bodyPost_ret (v := .tuple #[v35 z35, .int .i64 1902]) (by simp [results, Try.results14, go_sem, v35, z35, z33, r0, r1, r2, r3, r4, r5, r6, r7]) rfl ⟨rfl, below_set (below_set (below_set (below_set (below_set (below_set (below_set (below_set B7.out hle) hle) hle) hle) hle) hle) hle) hle⟩
  · skip
    (try simp only [Exit.then])
    clear v0 v1 q0 q1 hfo hfo2
    generalize hW6 : (((w5.setCell _ _).setCell _ _).setCell _ _).setCell _ _ = W6
    obtain ⟨kb, hkb⟩ : ∃ kb, W.heap.size = kb := ⟨_, rfl⟩
    have NG : W.heap.size ≠ g := fun e => by have := blk_lt HW.out.blk; omega
    have NM : m ≠ W.heap.size := fun e => by have := Many_lt HW.out.many; omega
    have NQ2 : w.heap.size ≠ W.heap.size := NW.out
    have NR2 : w.heap.size + 1 ≠ W.heap.size := by have := SW.out; omega
    have KB : Aside0 (W6.heap[kb]? = some (.cells #[.int .i64 addr, .int .i64 id, .string (mkB (fold (B nm))), .int .i64 t] 66 (0, 0))) := ⟨by rw [← hW6, ← hkb]; exact blk_put (cs := #[.int .i64 addr, .int .i64 id, .string (mkB (fold (B nm))), .int .i64 0]) (blk_put (cs := #[.int .i64 addr, .int .i64 id, .string ⟨#[]⟩, .int .i64 0]) (blk_put (cs := #[.int .i64 addr, .int .i64 0, .string ⟨#[]⟩, .int .i64 0]) (blk_put Z5.out 0 _ rfl) 1 _ rfl) 2 _ rfl) 3 _ rfl⟩
    have HB : Aside0 (w.heap.size ≤ W.heap.size) := ⟨BW.out.size⟩
    have K6 : Kept w5 W6 (fun k => k = W.heap.size) := by rw [← hW6]; exact ((((Kept.refl w5 (fun k => k = W.heap.size)).setCell (p := ⟨W.heap.size, 0, none⟩) (Or.inl rfl) _).setCell (p := ⟨W.heap.size, 1, none⟩) (Or.inl rfl) _).setCell (p := ⟨W.heap.size, 2, none⟩) (Or.inl rfl) _).setCell (p := ⟨W.heap.size, 3, none⟩) (Or.inl rfl) _
    have HN : ∀ k, S k ∧ k < W.heap.size → ¬ k = W.heap.size := fun k hk e => by omega
    have H6 : Aside0 (TabAt W6 base S g most xs n f v m) := ⟨by
      have hbn := HW.out.bound
      have hb5 := (hbn.below (below_drew (below_alloc (Below.refl _ _) (.cells #[.int .i64 0, .int .i64 0, .string ⟨#[]⟩, .int .i64 0] 66)))).below hb
      exact (TabAt.kept hb5 K6 HN).mono (fun k hk => hk.1)⟩
    have Q6 : Aside0 (W6.heap[w.heap.size]? = some (.cells #[.string nm, .int .i64 t, .int .i64 cl] 37 (0, 0))) := ⟨blk_kept Q5.out K6 NQ2⟩
    have R6 : Aside0 (W6.heap[w.heap.size + 1]? = some (.cells #[.int .i64 0, .int .i64 0, .int .i64 0, .string ⟨#[]⟩, .string ⟨#[]⟩, .string ⟨#[]⟩, .int .i64 0, .int .i64 0] 35 (0, 0))) := ⟨blk_kept R5.out K6 NR2⟩
    have B6 : Aside0 (Below w.heap.size w W6) := ⟨by rw [← hW6]; exact (((B5.out.setCell (p := ⟨W.heap.size, 0, none⟩) HB.out _).setCell (p := ⟨W.heap.size, 1, none⟩) HB.out _).setCell (p := ⟨W.heap.size, 2, none⟩) HB.out _).setCell (p := ⟨W.heap.size, 3, none⟩) HB.out _⟩
    have NK : Aside0 (w.heap.size + 2 ≤ kb) := ⟨by have := SW.out; omega⟩
    rw [hkb]
    clear hW6 hb B5 H5 Q5 R5 hkb y0 y1 y2 y3 yf Z5 NG NM NQ2 NR2 K6 HN HB

    have a2 : ∀ o, (W6.drewN o).cell? ⟨w.heap.size, 2, none⟩ = some (.int .i64 cl) := fun _ => (blk_cell Q6.out 2).trans rfl
    have ag : ∀ o, (W6.drewN o).cell? ⟨g, 2, none⟩ = some (.map (some m)) := fun _ => (blk_cell H6.out.blk 2).trans rfl
    have ak0 : ∀ o, (W6.drewN o).cell? ⟨kb, 0, none⟩ = some (.int .i64 addr) := fun _ => (blk_cell KB.out 0).trans rfl
    have ak1 : ∀ o, (W6.drewN o).cell? ⟨kb, 1, none⟩ = some (.int .i64 id) := fun _ => (blk_cell KB.out 1).trans rfl
    have ak2 : ∀ o, (W6.drewN o).cell? ⟨kb, 2, none⟩ = some (.string (mkB (fold (B nm)))) := fun _ => (blk_cell KB.out 2).trans rfl
    have ak3 : ∀ o, (W6.drewN o).cell? ⟨kb, 3, none⟩ = some (.int .i64 t) := fun _ => (blk_cell KB.out 3).trans rfl

    have hlk : ∀ o, (Instr.lookup 59 (.map (some m)) (.agg #[.int .i64 addr, .int .i64 id, .string (mkB (fold (B nm))), .int .i64 t]) false).run Try.prog (W6.drewN o) = .ok (.int .i64 (f (keyQ addr id nm t))) (W6.drewN o) := fun o => Many_look (Many_below H6.out.many (pw_below_drewN (Below.refl _ _) o)) (keyQ addr id nm t) HK.out

    by_cases hc1 : cl = 1
    · have hf0 : f (keyQ addr id nm t) = 0 := by rcases HQ.out with h | h; exact absurd hc1 h; exact h
      rw [hf0] at hlk
      subst hc1
      go_wp2_with fail
      go_quiet (fail)
      (try simp only [Exit.then])
      have R7 : Aside0 ((W6.drewN nq).heap[w.heap.size + 1]? = some (.cells #[.int .i64 0, .int .i64 0, .int .i64 0, .string ⟨#[]⟩, .string ⟨#[]⟩, .string ⟨#[]⟩, .int .i64 0, .int .i64 0] 35 (0, 0))) := ⟨R6.out⟩
      have B7 : Aside0 (Below w.heap.size w (W6.drewN nq)) := ⟨pw_below_drewN B6.out _⟩
      generalize W6.drewN nq = W7 at *
      have r0 : W7.cell? ⟨w.heap.size + 1, 0, none⟩ = some (.int .i64 0) := (blk_cell R7.out 0).trans rfl
      have r1 : W7.cell? ⟨w.heap.size + 1, 1, none⟩ = some (.int .i64 0) := (blk_cell R7.out 1).trans rfl
      have r2 : W7.cell? ⟨w.heap.size + 1, 2, none⟩ = some (.int .i64 0) := (blk_cell R7.out 2).trans rfl
      have r3 : W7.cell? ⟨w.heap.size + 1, 3, none⟩ = some (.string ⟨#[]⟩) := (blk_cell R7.out 3).trans rfl
      have r4 : W7.cell? ⟨w.heap.size + 1, 4, none⟩ = some (.string ⟨#[]⟩) := (blk_cell R7.out 4).trans rfl
      have r5 : W7.cell? ⟨w.heap.size + 1, 5, none⟩ = some (.string ⟨#[]⟩) := (blk_cell R7.out 5).trans rfl
      have r6 : W7.cell? ⟨w.heap.size + 1, 6, none⟩ = some (.int .i64 0) := (blk_cell R7.out 6).trans rfl
      have r7 : W7.cell? ⟨w.heap.size + 1, 7, none⟩ = some (.int .i64 0) := (blk_cell R7.out 7).trans rfl

      have rf : ∀ i, W7.frozen? ⟨w.heap.size + 1, i, none⟩ = false := fun i => blk_frozen R7.out i
      clear a2 ag ak0 ak1 ak2 ak3 hlk
      have hle : w.heap.size ≤ w.heap.size + 1 := Nat.le_succ _
      go_wp2_with fail
      exact bodyPost_ret (v := .tuple #[v35 z35, .int .i64 1902]) (by simp [results, Try.results14, go_sem, v35, z35, z33, r0, r1, r2, r3, r4, r5, r6, r7]) rfl ⟨rfl, below_set (below_set (below_set (below_set (below_set (below_set (below_set (below_set B7.out hle) hle) hle) hle) hle) hle) hle) hle⟩
    · have d1 : decide (cl = 1) = false := decide_eq_false hc1
      have d2 : (cl == 1) = false := beq_eq_false_iff_ne.2 hc1
      have d3 : (cl != 1) = true := by simp [hc1]
      have d4 : decide (cl ≠ 1) = true := decide_eq_true hc1
      go_wp2_with fail
      go_quiet (fail)
      (try simp only [Exit.then])
      have R7 : Aside0 ((W6.drewN nq).heap[w.heap.size + 1]? = some (.cells #[.int .i64 0, .int .i64 0, .int .i64 0, .string ⟨#[]⟩, .string ⟨#[]⟩, .string ⟨#[]⟩, .int .i64 0, .int .i64 0] 35 (0, 0))) := ⟨R6.out⟩
      have B7 : Aside0 (Below w.heap.size w (W6.drewN nq)) := ⟨pw_below_drewN B6.out _⟩
      generalize W6.drewN nq = W7 at *
      have r0 : W7.cell? ⟨w.heap.size + 1, 0, none⟩ = some (.int .i64 0) := (blk_cell R7.out 0).trans rfl
      have r1 : W7.cell? ⟨w.heap.size + 1, 1, none⟩ = some (.int .i64 0) := (blk_cell R7.out 1).trans rfl
      have r2 : W7.cell? ⟨w.heap.size + 1, 2, none⟩ = some (.int .i64 0) := (blk_cell R7.out 2).trans rfl
      have r3 : W7.cell? ⟨w.heap.size + 1, 3, none⟩ = some (.string ⟨#[]⟩) := (blk_cell R7.out 3).trans rfl
      have r4 : W7.cell? ⟨w.heap.size + 1, 4, none⟩ = some (.string ⟨#[]⟩) := (blk_cell R7.out 4).trans rfl
      have r5 : W7.cell? ⟨w.heap.size + 1, 5, none⟩ = some (.string ⟨#[]⟩) := (blk_cell R7.out 5).trans rfl
      have r6 : W7.cell? ⟨w.heap.size + 1, 6, none⟩ = some (.int .i64 0) := (blk_cell R7.out 6).trans rfl
      have r7 : W7.cell? ⟨w.heap.size + 1, 7, none⟩ = some (.int .i64 0) := (blk_cell R7.out 7).trans rfl

      have rf : ∀ i, W7.frozen? ⟨w.heap.size + 1, i, none⟩ = false := fun i => blk_frozen R7.out i
      clear a2 ag ak0 ak1 ak2 ak3 hlk
      have hle : w.heap.size ≤ w.heap.size + 1 := Nat.le_succ _
      go_wp2_with fail
      exact bodyPost_ret (v := .tuple #[v35 z35, .int .i64 1902]) (by simp [results, Try.results14, go_sem, v35, z35, z33, r0, r1, r2, r3, r4, r5, r6, r7]) rfl ⟨rfl, below_set (below_set (below_set (below_set (below_set (below_set (below_set (below_set B7.out hle) hle) hle) hle) hle) hle) hle) hle⟩
set_option maxHeartbeats 4000000 in
set_option maxRecDepth 100000 in
theorem Take_some0 (h : TabAt w base S g most xs n f v m) (hn : n ≤ 1000000) (hl : xs.length ≤ 1000000) (hSl : ∀ k, S k → k < w.heap.size) (addr id : Int) (nm : ByteArray) (t : Int) (hk : (keyQ addr id nm t).Good) (hz : f (keyQ addr id nm t) ≠ 0) (hzb : -1000000 ≤ f (keyQ addr id nm t) ∧ f (keyQ addr id nm t) ≤ 1000000) (j : Nat) (hj : j < xs.length) (hi : isK (keyQ addr id nm t) xs[j] = true) (hlo : ∀ i (hi : i < j), isK (keyQ addr id nm t) (xs[i]'(Nat.lt_trans hi hj)) = false) : Calls Try.prog 14 #[.pointer (some ⟨g, 0, none⟩), .int .i64 addr, .int .i64 id, .agg #[.string nm, .int .i64 t, .int .i64 1]] w fun e w' => e = .returned (.tuple #[v35 xs[j], .int .i64 0]) ∧ (∃ v', TabAt w' base (fun k => S k ∨ w.heap.size ≤ k) g most (xs.eraseIdx j) (n + 1) (upd f (keyQ addr id nm t) (f (keyQ addr id nm t) - 1)) v' m) ∧ Below base w w' ∧ Kept w w' S := by
  have HZ := Aside0.mk hz
  have HZB := Aside0.mk hzb
  have HI := Aside0.mk hi
  have HL := Aside0.mk hlo
  have HSL := Aside0.mk hSl
  clear hz hzb hi hlo hSl
  have H := Aside0.mk h
  have HK := Aside0.mk hk
  have HF := Aside0.mk (fold_calls nm)
  clear h hk
  go_enter Try.func14, Try.ntmps14
  go_wp2_with fail
  generalize hW : (w.alloc _).alloc _ = W
  have QB : W.heap[w.heap.size]? = some (.cells #[.string nm, .int .i64 t, .int .i64 1] 37 (0, 0)) := by rw [← hW]; exact blk_alloc (blk_new w _) _
  have RB : Aside0 (W.heap[w.heap.size + 1]? = some (.cells #[.int .i64 0, .int .i64 0, .int .i64 0, .string ⟨#[]⟩, .string ⟨#[]⟩, .string ⟨#[]⟩, .int .i64 0, .int .i64 0] 35 (0, 0))) := ⟨by rw [← hW]; have := blk_new (w.alloc (.cells #[.string nm, .int .i64 t, .int .i64 1] 37)) (.cells #[.int .i64 0, .int .i64 0, .int .i64 0, .string ⟨#[]⟩, .string ⟨#[]⟩, .string ⟨#[]⟩, .int .i64 0, .int .i64 0] 35); rwa [size_alloc'] at this⟩
  have BW : Aside0 (Below w.heap.size w W) := ⟨by rw [← hW]; exact below_alloc (below_alloc (Below.refl _ _) _) _⟩
  have SW : Aside0 (W.heap.size = w.heap.size + 2) := ⟨by rw [← hW, size_alloc', size_alloc']⟩
  have HW := Aside0.mk (H.out.below BW.out)
  have QX := Aside0.mk QB
  have q0 : W.drew.cell? ⟨w.heap.size, 0, none⟩ = some (.string nm) := (blk_cell QB 0).trans rfl
  have q1 : W.drew.cell? ⟨w.heap.size, 1, none⟩ = some (.int .i64 t) := (blk_cell QB 1).trans rfl
  have NW : Aside0 (w.heap.size ≠ W.heap.size) := ⟨by have := SW.out; omega⟩
  have hfo := Aside0.mk (HF.out W.drew)
  have hfo2 := Aside0.mk (HF.out (W.alloc (.cells #[.int .i64 0, .int .i64 0, .string ⟨#[]⟩, .int .i64 0] 66)).drew)
  have v0 : ∀ o, (W.alloc o).drew.cell? ⟨w.heap.size, 0, none⟩ = some (.string nm) := fun o => (blk_cell (blk_alloc QB o) 0).trans rfl
  have v1 : ∀ o, (W.alloc o).drew.cell? ⟨w.heap.size, 1, none⟩ = some (.int .i64 t) := fun o => (blk_cell (blk_alloc QB o) 1).trans rfl
  clear hW QB
  go_region_held3 (fun w' => w'.cell? ⟨w.heap.size, 0, none⟩ = some (.string nm) ∧ w'.cell? ⟨w.heap.size, 1, none⟩ = some (.int .i64 t))
    (first
      | ((try dsimp only); (repeat' apply And.intro) <;> with_reducible first | assumption | exact u0 _ | exact u1 _ | exact v0 _ | exact v1 _)
      | ((try dsimp only at *); go_split_ands; (repeat' apply And.intro) <;> with_reducible first | exact pw_cell_below hb (by assumption) | exact pw_cell_below hb (v0 _) | exact pw_cell_below hb (v1 _))
      | ((try dsimp only at *); go_split_ands; (repeat' apply And.intro) <;> with_reducible exact set_far (set_far (set_far (set_far (by assumption) NW.out _) NW.out _) NW.out _) NW.out _))
    (first
      | (go_at_call 27; refine hfo.out.mono ?_; rintro e w5 ⟨rfl, hb⟩; have B5 := Aside0.mk (below_then (below_drew BW.out) (below_drew BW.out).size hb); have H5 := Aside0.mk ((HW.out.below (below_drew (Below.refl _ _))).below hb); have Q5 := Aside0.mk (blk_below (w := W.drew) QX.out hb); have R5 := Aside0.mk (blk_below (w := W.drew) RB.out hb); have u0 : ∀ o, (w5.alloc o).cell? ⟨w.heap.size, 0, none⟩ = some (.string nm) := fun o => alloc_cell (pw_cell_below hb q0) o; have u1 : ∀ o, (w5.alloc o).cell? ⟨w.heap.size, 1, none⟩ = some (.int .i64 t) := fun o => alloc_cell (pw_cell_below hb q1) o)
      | (go_at_call 27; refine hfo2.out.mono ?_; rintro e w5 ⟨rfl, hb⟩; have B5 := Aside0.mk (below_then (below_drew (below_alloc BW.out _)) (below_drew (below_alloc BW.out _)).size hb); have H5 := Aside0.mk ((HW.out.below (below_drew (below_alloc (Below.refl _ _) _))).below hb); have Q5 := Aside0.mk (blk_below (w := (W.alloc (.cells #[.int .i64 0, .int .i64 0, .string ⟨#[]⟩, .int .i64 0] 66)).drew) (blk_alloc QX.out _) hb); have R5 := Aside0.mk (blk_below (w := (W.alloc (.cells #[.int .i64 0, .int .i64 0, .string ⟨#[]⟩, .int .i64 0] 66)).drew) (blk_alloc RB.out _) hb); have Z5 := Aside0.mk (blk_below (w := (W.alloc (.cells #[.int .i64 0, .int .i64 0, .string ⟨#[]⟩, .int .i64 0] 66)).drew) (blk_new W _) hb); have y0 : w5.cell? ⟨W.heap.size, 0, none⟩ = some (.int .i64 0) := (blk_cell Z5.out 0).trans rfl; have y1 : w5.cell? ⟨W.heap.size, 1, none⟩ = some (.int .i64 0) := (blk_cell Z5.out 1).trans rfl; have y2 : w5.cell? ⟨W.heap.size, 2, none⟩ = some (.string ⟨#[]⟩) := (blk_cell Z5.out 2).trans rfl; have y3 : w5.cell? ⟨W.heap.size, 3, none⟩ = some (.int .i64 0) := (blk_cell Z5.out 3).trans rfl; have yf : ∀ i, w5.frozen? ⟨W.heap.size, i, none⟩ = false := fun i => blk_frozen Z5.out i))
  · skip
    (try simp only [Exit.then])
    clear u0 u1 v0 v1 q0 q1 hfo hfo2
    generalize hW6 : w5.alloc _ = W6
    obtain ⟨kb, hkb⟩ : ∃ kb, w5.heap.size = kb := ⟨_, rfl⟩
    have KB : Aside0 (W6.heap[kb]? = some (.cells #[.int .i64 addr, .int .i64 id, .string (mkB (fold (B nm))), .int .i64 t] 66 (0, 0))) := ⟨by rw [← hW6, ← hkb]; exact blk_new w5 _⟩
    have H6 : Aside0 (TabAt W6 base S g most xs n f v m) := ⟨by rw [← hW6]; exact H5.out.below (below_alloc (Below.refl _ _) _)⟩
    have Q6 : Aside0 (W6.heap[w.heap.size]? = some (.cells #[.string nm, .int .i64 t, .int .i64 1] 37 (0, 0))) := ⟨by rw [← hW6]; exact blk_alloc Q5.out _⟩
    have R6 : Aside0 (W6.heap[w.heap.size + 1]? = some (.cells #[.int .i64 0, .int .i64 0, .int .i64 0, .string ⟨#[]⟩, .string ⟨#[]⟩, .string ⟨#[]⟩, .int .i64 0, .int .i64 0] 35 (0, 0))) := ⟨by rw [← hW6]; exact blk_alloc R5.out _⟩
    have B6 : Aside0 (Below w.heap.size w W6) := ⟨by rw [← hW6]; exact below_alloc B5.out _⟩
    have NK : Aside0 (w.heap.size + 2 ≤ kb) := ⟨by have h1 := hb.size; have h2 := SW.out; have h3 : W.drew.heap.size = W.heap.size := rfl; omega⟩
    rw [hkb]
    clear hW6 hb B5 H5 Q5 R5 hkb

    have a2 : ∀ o, (W6.drewN o).cell? ⟨w.heap.size, 2, none⟩ = some (.int .i64 1) := fun _ => (blk_cell Q6.out 2).trans rfl
    have ag : ∀ o, (W6.drewN o).cell? ⟨g, 2, none⟩ = some (.map (some m)) := fun _ => (blk_cell H6.out.blk 2).trans rfl
    have ak0 : ∀ o, (W6.drewN o).cell? ⟨kb, 0, none⟩ = some (.int .i64 addr) := fun _ => (blk_cell KB.out 0).trans rfl
    have ak1 : ∀ o, (W6.drewN o).cell? ⟨kb, 1, none⟩ = some (.int .i64 id) := fun _ => (blk_cell KB.out 1).trans rfl
    have ak2 : ∀ o, (W6.drewN o).cell? ⟨kb, 2, none⟩ = some (.string (mkB (fold (B nm)))) := fun _ => (blk_cell KB.out 2).trans rfl
    have ak3 : ∀ o, (W6.drewN o).cell? ⟨kb, 3, none⟩ = some (.int .i64 t) := fun _ => (blk_cell KB.out 3).trans rfl

    have hlk : ∀ o, (Instr.lookup 59 (.map (some m)) (.agg #[.int .i64 addr, .int .i64 id, .string (mkB (fold (B nm))), .int .i64 t]) false).run Try.prog (W6.drewN o) = .ok (.int .i64 (f (keyQ addr id nm t))) (W6.drewN o) := fun o => Many_look (Many_below H6.out.many (pw_below_drewN (Below.refl _ _) o)) (keyQ addr id nm t) HK.out

    have hf1 : decide (f (keyQ addr id nm t) = 0) = false := decide_eq_false HZ.out
    have hf2 : (f (keyQ addr id nm t) == 0) = false := beq_eq_false_iff_ne.2 HZ.out
    go_wp2_with fail
    go_quiet (fail)
    (try simp only [Exit.then])
    have R7 : Aside0 ((W6.drewN nq).heap[w.heap.size + 1]? = some (.cells #[.int .i64 0, .int .i64 0, .int .i64 0, .string ⟨#[]⟩, .string ⟨#[]⟩, .string ⟨#[]⟩, .int .i64 0, .int .i64 0] 35 (0, 0))) := ⟨R6.out⟩
    have B7 : Aside0 (Below w.heap.size w (W6.drewN nq)) := ⟨pw_below_drewN B6.out _⟩
    have H7 : Aside0 (TabAt (W6.drewN nq) base S g most xs n f v m) := ⟨H6.out.below (pw_below_drewN (Below.refl _ _) _)⟩
    have KB7 : Aside0 ((W6.drewN nq).heap[kb]? = some (.cells #[.int .i64 addr, .int .i64 id, .string (mkB (fold (B nm))), .int .i64 t] 66 (0, 0))) := ⟨KB.out⟩
    clear a2 ag ak0 ak1 ak2 ak3 hlk R6 B6 H6 KB Q6 hf1 hf2
    generalize W6.drewN nq = W7 at *
    obtain ⟨q, c, ev, hq⟩ := Kd.R_form H7.out.row (by omega)
    subst ev
    have hqb := Kd.R_reads' H7.out.row
    have c71 : W7.cell? ⟨g, 1, none⟩ = some (.slice (some ⟨q, 0, none⟩) xs.length c) := (blk_cell H7.out.blk 1).trans rfl
    go_wp2_with fail
    refine (Index_calls W7 (some ⟨q, 0, none⟩) c xs (keyQ addr id nm t) kb hqb.2.2 hqb.2.1 KB7.out).mono ?_
    rintro e w8 ⟨hb, ⟨rfl, hno⟩ | ⟨j', hj', rfl, hyes, hfirst⟩⟩
    · exact absurd HI.out (by rw [hno j hj]; simp)
    obtain rfl : j' = j := by
      rcases Nat.lt_trichotomy j' j with h1 | h1 | h1
      · exact absurd hyes (by rw [HL.out j' h1]; simp)
      · exact h1
      · exact absurd HI.out (by rw [hfirst j h1]; simp)
    have H8 := Aside0.mk (H7.out.below hb)
    have B8 := Aside0.mk (below_then B7.out B7.out.size hb)
    have R8 := Aside0.mk (blk_below R7.out hb)
    clear hb hyes hfirst H7 B7 R7 KB7 c71 hqb hq
    obtain ⟨y, hy⟩ : ∃ y, xs[j'] = y := ⟨_, rfl⟩
    obtain ⟨cs8, hcl8, hM8, hcc8, hcf8⟩ := Kd.R_elem H8.out.row z35 (j' : Int) (by omega) (by omega)
    rw [Int.toNat_natCast, List.getD_eq_getElem?_getD, List.getElem?_eq_getElem hj, Option.getD_some, hy] at hM8
    rw [Int.toNat_natCast] at hcc8
    obtain rfl := k35_openM hM8
    have c81 : w8.cell? ⟨g, 1, none⟩ = some (.slice (some ⟨q, 0, none⟩) xs.length c) := (blk_cell H8.out.blk 1).trans rfl
    have x80 : w8.cell? ⟨q, j' * 8, none⟩ = some (.int .i64 y.f0) := hcc8 0 _ rfl
    have x81 : w8.cell? ⟨q, j' * 8 + 1, none⟩ = some (.int .i64 y.f1) := hcc8 1 _ rfl
    have x82 : w8.cell? ⟨q, j' * 8 + 2, none⟩ = some (.int .i64 y.f2) := hcc8 2 _ rfl
    have x83 : w8.cell? ⟨q, j' * 8 + 3, none⟩ = some (.string y.f3) := hcc8 3 _ rfl
    have x84 : w8.cell? ⟨q, j' * 8 + 4, none⟩ = some (.string y.f4) := hcc8 4 _ rfl
    have x85 : w8.cell? ⟨q, j' * 8 + 5, none⟩ = some (.string y.f5.f0) := hcc8 5 _ rfl
    have x86 : w8.cell? ⟨q, j' * 8 + 6, none⟩ = some (.int .i64 y.f5.f1) := hcc8 6 _ rfl
    have x87 : w8.cell? ⟨q, j' * 8 + 7, none⟩ = some (.int .i64 y.f6) := hcc8 7 _ rfl
    have hi1 : ((j' : Int) < (xs.length : Int)) = True := eq_true (by omega)
    have hi2 : IntKind.i64.wrap (j' : Int) = (j' : Int) := IntWalk.i64_in _ (by omega)
    have hi3 : wrap64 ((j' : Int) + 1) = (j' : Int) + 1 := IntWalk.wrap64_in _ (by omega)
    have hi4 : j' < xs.length := hj
    clear hcl8 hM8 hcc8 hcf8
    simp only
    have c81a : ∀ o, (w8.alloc o).cell? ⟨g, 1, none⟩ = some (.slice (some ⟨q, 0, none⟩) xs.length c) := fun o => alloc_cell c81 o
    go_wp2_with fail
    generalize hW9 : w8.alloc _ = W9
    obtain ⟨bb, hbb⟩ : ∃ bb, w8.heap.size = bb := ⟨_, rfl⟩
    have H9 : Aside0 (TabAt W9 base S g most xs n f (.slice (some ⟨q, 0, none⟩) xs.length c) m) := ⟨by rw [← hW9]; exact H8.out.below (below_alloc (Below.refl _ _) _)⟩
    have BX9 : Aside0 (W9.heap[bb]? = some (.cells #[.int .i64 y.f0, .int .i64 y.f1, .int .i64 y.f2, .string y.f3, .string y.f4, .string y.f5.f0, .int .i64 y.f5.f1, .int .i64 y.f6] 35 (0, 0))) := ⟨by rw [← hW9, ← hbb]; exact blk_new w8 _⟩
    have R9 : Aside0 (W9.heap[w.heap.size + 1]? = some (.cells #[.int .i64 0, .int .i64 0, .int .i64 0, .string ⟨#[]⟩, .string ⟨#[]⟩, .string ⟨#[]⟩, .int .i64 0, .int .i64 0] 35 (0, 0))) := ⟨by rw [← hW9]; exact blk_alloc R8.out _⟩
    have B9 : Aside0 (Below w.heap.size w W9) := ⟨by rw [← hW9]; exact below_alloc B8.out _⟩
    have QW : Aside0 (q < w.heap.size) := ⟨Kd.R_lt H.out.row q rfl⟩
    have GW : Aside0 (g < w.heap.size) := ⟨blk_lt H.out.blk⟩
    have BBW : Aside0 (w.heap.size ≤ bb) := ⟨by rw [← hbb]; exact B8.out.size⟩
    have R1W : Aside0 (w.heap.size + 1 < W9.heap.size) := ⟨blk_lt R9.out⟩
    have hky : keyA y = keyQ addr id nm t := by rw [← hy]; exact isK_true.1 HI.out
    rw [hbb]
    clear hW9 hbb H8 B8 R8 c81 c81a x80 x81 x82 x83 x84 x85 x86 x87 hi1 hi2 hi3 hi4
    refine (Delete_calls W9 base S q c j' xs H9.out.row hj hl).mono ?_
    rintro e w10 ⟨rfl, hr10, hg10⟩
    have G10 := Aside0.mk (blk_grown H9.out.blk hg10 H9.out.gv)
    have M10 := Aside0.mk (Many_kept H9.out.many hg10 H9.out.mv)
    have BX10 := Aside0.mk (blk_grown BX9.out hg10 (fun e => by injection e with e; have := QW.out; have := BBW.out; omega))
    have R10 := Aside0.mk (blk_grown R9.out hg10 (fun e => by injection e with e; have := QW.out; omega))
    have B10 : Aside0 (Below base w w10) := ⟨(below_lower B9.out H.out.size).grown hg10 H9.out.size (fun k hk => by cases hk; exact Kd.R_base H9.out.row q rfl)⟩
    have K10 : Aside0 (Kept w w10 S) := ⟨Kept.of_grown hg10 (Kept.of_below B9.out S) (fun k hk => by cases hk; exact Or.inl (H9.out.row.1 q rfl))⟩
    have RR10 := Aside0.mk hr10
    have c10 : w10.cell? ⟨g, 1, none⟩ = some (.slice (some ⟨q, 0, none⟩) xs.length c) := (blk_cell G10.out 1).trans rfl
    have f10 : w10.frozen? ⟨g, 1, none⟩ = false := blk_frozen G10.out 1
    clear hr10 hg10
    simp only
    go_wp2_with fail
    have H11 : Aside0 (TabAt (w10.setCell ⟨g, 1, none⟩ (.slice (some ⟨q, 0, none⟩) (xs.length - 1) c)) base S g most (xs.eraseIdx j') n f (.slice (some ⟨q, 0, none⟩) (xs.length - 1) c) m) := ⟨⟨blk_put G10.out 1 _ rfl, H9.out.lo, H9.out.mlo, Kd.R_set RR10.out G10.out ne61 1 _, Many_set M10.out H9.out.mg _, H9.out.sg, H9.out.sm⟩⟩
    have BX11 := Aside0.mk (blk_far (p := ⟨g, 1, none⟩) BX10.out (show bb ≠ g from fun e => by have := GW.out; have := BBW.out; omega) (.slice (some ⟨q, 0, none⟩) (xs.length - 1) c))
    have R11 := Aside0.mk (blk_far (p := ⟨g, 1, none⟩) R10.out (show w.heap.size + 1 ≠ g from fun e => by have := GW.out; omega) (.slice (some ⟨q, 0, none⟩) (xs.length - 1) c))
    have B11 := Aside0.mk (B10.out.setCell (p := ⟨g, 1, none⟩) H.out.lo (.slice (some ⟨q, 0, none⟩) (xs.length - 1) c))
    have K11 := Aside0.mk (K10.out.setCell (p := ⟨g, 1, none⟩) (Or.inl H.out.sg) (.slice (some ⟨q, 0, none⟩) (xs.length - 1) c))
    clear c10 f10 G10 M10 BX10 R10 B10 K10 RR10 H9 BX9 R9 B9
    generalize w10.setCell ⟨g, 1, none⟩ (.slice (some ⟨q, 0, none⟩) (xs.length - 1) c) = W11 at *
    have HS11 := H11.out.mono (S' := fun k => S k ∨ W11.heap.size ≤ k) (fun k hk => Or.inl hk)
    refine (gone_calls HS11 hn (fun k hk => Or.inr hk) bb y (by rw [hky]; exact HK.out) (by rw [hky]; exact HZB.out) ((blk_cell BX11.out 1).trans rfl) ((blk_cell BX11.out 2).trans rfl) ((blk_cell BX11.out 5).trans rfl) ((blk_cell BX11.out 6).trans rfl)).mono ?_
    rintro e w12 ⟨rfl, h12, hb12, hk12⟩
    have NB12 : ¬ (S bb ∨ W11.heap.size ≤ bb) := fun h => by
      have := blk_lt BX11.out
      rcases h with h | h
      · have := HSL.out bb h; have := BBW.out; omega
      · omega
    have NR12 : ¬ (S (w.heap.size + 1) ∨ W11.heap.size ≤ w.heap.size + 1) := fun h => by
      have := blk_lt R11.out
      rcases h with h | h
      · have := HSL.out _ h; omega
      · omega
    have BX12 := Aside0.mk (blk_kept BX11.out hk12 NB12)
    have R12 := Aside0.mk (blk_kept R11.out hk12 NR12)
    have B12 := Aside0.mk (B11.out.trans hb12)
    have SZ11 : w.heap.size ≤ W11.heap.size := B11.out.size
    have K12 : Aside0 (Kept w w12 S) := ⟨K11.out.then_ hk12 (fun k hk => hk.imp (fun h => h) (fun h => Nat.le_trans SZ11 h))⟩
    rw [hky] at h12
    have H12 := Aside0.mk h12
    have NR := Aside0.mk NR12
    have SZ := Aside0.mk SZ11
    clear HS11 h12 hb12 hk12 H11 BX11 R11 B11 K11 NB12 NR12 SZ11
    have hle : base ≤ w.heap.size + 1 := Nat.le_succ_of_le H.out.size
    have z0 : w12.cell? ⟨bb, 0, none⟩ = some (.int .i64 y.f0) := (blk_cell BX12.out 0).trans rfl
    have z1 : w12.cell? ⟨bb, 1, none⟩ = some (.int .i64 y.f1) := (blk_cell BX12.out 1).trans rfl
    have z2 : w12.cell? ⟨bb, 2, none⟩ = some (.int .i64 y.f2) := (blk_cell BX12.out 2).trans rfl
    have z3 : w12.cell? ⟨bb, 3, none⟩ = some (.string y.f3) := (blk_cell BX12.out 3).trans rfl
    have z4 : w12.cell? ⟨bb, 4, none⟩ = some (.string y.f4) := (blk_cell BX12.out 4).trans rfl
    have z5 : w12.cell? ⟨bb, 5, none⟩ = some (.string y.f5.f0) := (blk_cell BX12.out 5).trans rfl
    have z6 : w12.cell? ⟨bb, 6, none⟩ = some (.int .i64 y.f5.f1) := (blk_cell BX12.out 6).trans rfl
    have z7 : w12.cell? ⟨bb, 7, none⟩ = some (.int .i64 y.f6) := (blk_cell BX12.out 7).trans rfl
    have r0 : w12.cell? ⟨w.heap.size + 1, 0, none⟩ = some (.int .i64 0) := (blk_cell R12.out 0).trans rfl
    have r1 : w12.cell? ⟨w.heap.size + 1, 1, none⟩ = some (.int .i64 0) := (blk_cell R12.out 1).trans rfl
    have r2 : w12.cell? ⟨w.heap.size + 1, 2, none⟩ = some (.int .i64 0) := (blk_cell R12.out 2).trans rfl
    have r3 : w12.cell? ⟨w.heap.size + 1, 3, none⟩ = some (.string ⟨#[]⟩) := (blk_cell R12.out 3).trans rfl
    have r4 : w12.cell? ⟨w.heap.size + 1, 4, none⟩ = some (.string ⟨#[]⟩) := (blk_cell R12.out 4).trans rfl
    have r5 : w12.cell? ⟨w.heap.size + 1, 5, none⟩ = some (.string ⟨#[]⟩) := (blk_cell R12.out 5).trans rfl
    have r6 : w12.cell? ⟨w.heap.size + 1, 6, none⟩ = some (.int .i64 0) := (blk_cell R12.out 6).trans rfl
    have r7 : w12.cell? ⟨w.heap.size + 1, 7, none⟩ = some (.int .i64 0) := (blk_cell R12.out 7).trans rfl
    have yf : ∀ i, w12.frozen? ⟨w.heap.size + 1, i, none⟩ = false := fun i => blk_frozen R12.out i
    simp only
    go_wp2_with fail
    have W13E : ∃ W13, ((((((((w12).setCell ⟨w.heap.size + 1, 0, none⟩ (.int .i64 y.f0)).setCell ⟨w.heap.size + 1, 1, none⟩ (.int .i64 y.f1)).setCell ⟨w.heap.size + 1, 2, none⟩ (.int .i64 y.f2)).setCell ⟨w.heap.size + 1, 3, none⟩ (.string y.f3)).setCell ⟨w.heap.size + 1, 4, none⟩ (.string y.f4)).setCell ⟨w.heap.size + 1, 5, none⟩ (.string y.f5.f0)).setCell ⟨w.heap.size + 1, 6, none⟩ (.int .i64 y.f5.f1)).setCell ⟨w.heap.size + 1, 7, none⟩ (.int .i64 y.f6) = W13 := ⟨_, rfl⟩
    have K13 : Aside0 (Kept w12 (((((((((w12).setCell ⟨w.heap.size + 1, 0, none⟩ (.int .i64 y.f0)).setCell ⟨w.heap.size + 1, 1, none⟩ (.int .i64 y.f1)).setCell ⟨w.heap.size + 1, 2, none⟩ (.int .i64 y.f2)).setCell ⟨w.heap.size + 1, 3, none⟩ (.string y.f3)).setCell ⟨w.heap.size + 1, 4, none⟩ (.string y.f4)).setCell ⟨w.heap.size + 1, 5, none⟩ (.string y.f5.f0)).setCell ⟨w.heap.size + 1, 6, none⟩ (.int .i64 y.f5.f1)).setCell ⟨w.heap.size + 1, 7, none⟩ (.int .i64 y.f6)) (fun k => k = w.heap.size + 1)) := ⟨(((((((((Kept.refl w12 (fun k => k = w.heap.size + 1))).setCell (p := ⟨w.heap.size + 1, 0, none⟩) (Or.inl rfl) _).setCell (p := ⟨w.heap.size + 1, 1, none⟩) (Or.inl rfl) _).setCell (p := ⟨w.heap.size + 1, 2, none⟩) (Or.inl rfl) _).setCell (p := ⟨w.heap.size + 1, 3, none⟩) (Or.inl rfl) _).setCell (p := ⟨w.heap.size + 1, 4, none⟩) (Or.inl rfl) _).setCell (p := ⟨w.heap.size + 1, 5, none⟩) (Or.inl rfl) _).setCell (p := ⟨w.heap.size + 1, 6, none⟩) (Or.inl rfl) _).setCell (p := ⟨w.heap.size + 1, 7, none⟩) (Or.inl rfl) _⟩
    have H13 : Aside0 (TabAt (((((((((w12).setCell ⟨w.heap.size + 1, 0, none⟩ (.int .i64 y.f0)).setCell ⟨w.heap.size + 1, 1, none⟩ (.int .i64 y.f1)).setCell ⟨w.heap.size + 1, 2, none⟩ (.int .i64 y.f2)).setCell ⟨w.heap.size + 1, 3, none⟩ (.string y.f3)).setCell ⟨w.heap.size + 1, 4, none⟩ (.string y.f4)).setCell ⟨w.heap.size + 1, 5, none⟩ (.string y.f5.f0)).setCell ⟨w.heap.size + 1, 6, none⟩ (.int .i64 y.f5.f1)).setCell ⟨w.heap.size + 1, 7, none⟩ (.int .i64 y.f6)) base (fun k => S k ∨ w.heap.size ≤ k) g most (xs.eraseIdx j') (n + 1) (upd f (keyQ addr id nm t) (f (keyQ addr id nm t) - 1)) (.slice (some ⟨q, 0, none⟩) (xs.length - 1) c) m) := ⟨(TabAt.kept H12.out K13.out (fun k hk e => NR.out (by rw [← e]; exact hk))).mono (fun k hk => hk.imp (fun h => h) (fun h => Nat.le_trans SZ.out h))⟩
    have B13 : Aside0 (Below base w (((((((((w12).setCell ⟨w.heap.size + 1, 0, none⟩ (.int .i64 y.f0)).setCell ⟨w.heap.size + 1, 1, none⟩ (.int .i64 y.f1)).setCell ⟨w.heap.size + 1, 2, none⟩ (.int .i64 y.f2)).setCell ⟨w.heap.size + 1, 3, none⟩ (.string y.f3)).setCell ⟨w.heap.size + 1, 4, none⟩ (.string y.f4)).setCell ⟨w.heap.size + 1, 5, none⟩ (.string y.f5.f0)).setCell ⟨w.heap.size + 1, 6, none⟩ (.int .i64 y.f5.f1)).setCell ⟨w.heap.size + 1, 7, none⟩ (.int .i64 y.f6))) := ⟨((((((((B12.out).setCell (p := ⟨w.heap.size + 1, 0, none⟩) hle _).setCell (p := ⟨w.heap.size + 1, 1, none⟩) hle _).setCell (p := ⟨w.heap.size + 1, 2, none⟩) hle _).setCell (p := ⟨w.heap.size + 1, 3, none⟩) hle _).setCell (p := ⟨w.heap.size + 1, 4, none⟩) hle _).setCell (p := ⟨w.heap.size + 1, 5, none⟩) hle _).setCell (p := ⟨w.heap.size + 1, 6, none⟩) hle _).setCell (p := ⟨w.heap.size + 1, 7, none⟩) hle _⟩
    have K14 : Aside0 (Kept w (((((((((w12).setCell ⟨w.heap.size + 1, 0, none⟩ (.int .i64 y.f0)).setCell ⟨w.heap.size + 1, 1, none⟩ (.int .i64 y.f1)).setCell ⟨w.heap.size + 1, 2, none⟩ (.int .i64 y.f2)).setCell ⟨w.heap.size + 1, 3, none⟩ (.string y.f3)).setCell ⟨w.heap.size + 1, 4, none⟩ (.string y.f4)).setCell ⟨w.heap.size + 1, 5, none⟩ (.string y.f5.f0)).setCell ⟨w.heap.size + 1, 6, none⟩ (.int .i64 y.f5.f1)).setCell ⟨w.heap.size + 1, 7, none⟩ (.int .i64 y.f6)) S) := ⟨K12.out.then_ K13.out (fun k hk => Or.inr (by rw [hk]; exact Nat.le_succ _))⟩
    clear K13 W13E
    exact bodyPost_ret (v := .tuple #[v35 y, .int .i64 0]) (by simp [results, Try.results14, go_sem, v35, r0, r1, r2, r3, r4, r5, r6, r7]) rfl ⟨by rw [hy], ⟨_, H13.out⟩, B13.out, K14.out⟩
  · skip
    (try simp only [Exit.then])
    clear v0 v1 q0 q1 hfo hfo2
    generalize hW6 : (((w5.setCell _ _).setCell _ _).setCell _ _).setCell _ _ = W6
    obtain ⟨kb, hkb⟩ : ∃ kb, W.heap.size = kb := ⟨_, rfl⟩
    have NG : W.heap.size ≠ g := fun e => by have := blk_lt HW.out.blk; omega
    have NM : m ≠ W.heap.size := fun e => by have := Many_lt HW.out.many; omega
    have NQ2 : w.heap.size ≠ W.heap.size := NW.out
    have NR2 : w.heap.size + 1 ≠ W.heap.size := by have := SW.out; omega
    have KB : Aside0 (W6.heap[kb]? = some (.cells #[.int .i64 addr, .int .i64 id, .string (mkB (fold (B nm))), .int .i64 t] 66 (0, 0))) := ⟨by rw [← hW6, ← hkb]; exact blk_put (cs := #[.int .i64 addr, .int .i64 id, .string (mkB (fold (B nm))), .int .i64 0]) (blk_put (cs := #[.int .i64 addr, .int .i64 id, .string ⟨#[]⟩, .int .i64 0]) (blk_put (cs := #[.int .i64 addr, .int .i64 0, .string ⟨#[]⟩, .int .i64 0]) (blk_put Z5.out 0 _ rfl) 1 _ rfl) 2 _ rfl) 3 _ rfl⟩
    have HB : Aside0 (w.heap.size ≤ W.heap.size) := ⟨BW.out.size⟩
    have K6 : Kept w5 W6 (fun k => k = W.heap.size) := by rw [← hW6]; exact ((((Kept.refl w5 (fun k => k = W.heap.size)).setCell (p := ⟨W.heap.size, 0, none⟩) (Or.inl rfl) _).setCell (p := ⟨W.heap.size, 1, none⟩) (Or.inl rfl) _).setCell (p := ⟨W.heap.size, 2, none⟩) (Or.inl rfl) _).setCell (p := ⟨W.heap.size, 3, none⟩) (Or.inl rfl) _
    have HN : ∀ k, S k ∧ k < W.heap.size → ¬ k = W.heap.size := fun k hk e => by omega
    have H6 : Aside0 (TabAt W6 base S g most xs n f v m) := ⟨by
      have hbn := HW.out.bound
      have hb5 := (hbn.below (below_drew (below_alloc (Below.refl _ _) (.cells #[.int .i64 0, .int .i64 0, .string ⟨#[]⟩, .int .i64 0] 66)))).below hb
      exact (TabAt.kept hb5 K6 HN).mono (fun k hk => hk.1)⟩
    have Q6 : Aside0 (W6.heap[w.heap.size]? = some (.cells #[.string nm, .int .i64 t, .int .i64 1] 37 (0, 0))) := ⟨blk_kept Q5.out K6 NQ2⟩
    have R6 : Aside0 (W6.heap[w.heap.size + 1]? = some (.cells #[.int .i64 0, .int .i64 0, .int .i64 0, .string ⟨#[]⟩, .string ⟨#[]⟩, .string ⟨#[]⟩, .int .i64 0, .int .i64 0] 35 (0, 0))) := ⟨blk_kept R5.out K6 NR2⟩
    have B6 : Aside0 (Below w.heap.size w W6) := ⟨by rw [← hW6]; exact (((B5.out.setCell (p := ⟨W.heap.size, 0, none⟩) HB.out _).setCell (p := ⟨W.heap.size, 1, none⟩) HB.out _).setCell (p := ⟨W.heap.size, 2, none⟩) HB.out _).setCell (p := ⟨W.heap.size, 3, none⟩) HB.out _⟩
    have NK : Aside0 (w.heap.size + 2 ≤ kb) := ⟨by have := SW.out; omega⟩
    rw [hkb]
    clear hW6 hb B5 H5 Q5 R5 hkb y0 y1 y2 y3 yf Z5 NG NM NQ2 NR2 K6 HN HB

    have a2 : ∀ o, (W6.drewN o).cell? ⟨w.heap.size, 2, none⟩ = some (.int .i64 1) := fun _ => (blk_cell Q6.out 2).trans rfl
    have ag : ∀ o, (W6.drewN o).cell? ⟨g, 2, none⟩ = some (.map (some m)) := fun _ => (blk_cell H6.out.blk 2).trans rfl
    have ak0 : ∀ o, (W6.drewN o).cell? ⟨kb, 0, none⟩ = some (.int .i64 addr) := fun _ => (blk_cell KB.out 0).trans rfl
    have ak1 : ∀ o, (W6.drewN o).cell? ⟨kb, 1, none⟩ = some (.int .i64 id) := fun _ => (blk_cell KB.out 1).trans rfl
    have ak2 : ∀ o, (W6.drewN o).cell? ⟨kb, 2, none⟩ = some (.string (mkB (fold (B nm)))) := fun _ => (blk_cell KB.out 2).trans rfl
    have ak3 : ∀ o, (W6.drewN o).cell? ⟨kb, 3, none⟩ = some (.int .i64 t) := fun _ => (blk_cell KB.out 3).trans rfl

    have hlk : ∀ o, (Instr.lookup 59 (.map (some m)) (.agg #[.int .i64 addr, .int .i64 id, .string (mkB (fold (B nm))), .int .i64 t]) false).run Try.prog (W6.drewN o) = .ok (.int .i64 (f (keyQ addr id nm t))) (W6.drewN o) := fun o => Many_look (Many_below H6.out.many (pw_below_drewN (Below.refl _ _) o)) (keyQ addr id nm t) HK.out

    have hf1 : decide (f (keyQ addr id nm t) = 0) = false := decide_eq_false HZ.out
    have hf2 : (f (keyQ addr id nm t) == 0) = false := beq_eq_false_iff_ne.2 HZ.out
    go_wp2_with fail
    go_quiet (fail)
    (try simp only [Exit.then])
    have R7 : Aside0 ((W6.drewN nq).heap[w.heap.size + 1]? = some (.cells #[.int .i64 0, .int .i64 0, .int .i64 0, .string ⟨#[]⟩, .string ⟨#[]⟩, .string ⟨#[]⟩, .int .i64 0, .int .i64 0] 35 (0, 0))) := ⟨R6.out⟩
    have B7 : Aside0 (Below w.heap.size w (W6.drewN nq)) := ⟨pw_below_drewN B6.out _⟩
    have H7 : Aside0 (TabAt (W6.drewN nq) base S g most xs n f v m) := ⟨H6.out.below (pw_below_drewN (Below.refl _ _) _)⟩
    have KB7 : Aside0 ((W6.drewN nq).heap[kb]? = some (.cells #[.int .i64 addr, .int .i64 id, .string (mkB (fold (B nm))), .int .i64 t] 66 (0, 0))) := ⟨KB.out⟩
    clear a2 ag ak0 ak1 ak2 ak3 hlk R6 B6 H6 KB Q6 hf1 hf2
    generalize W6.drewN nq = W7 at *
    obtain ⟨q, c, ev, hq⟩ := Kd.R_form H7.out.row (by omega)
    subst ev
    have hqb := Kd.R_reads' H7.out.row
    have c71 : W7.cell? ⟨g, 1, none⟩ = some (.slice (some ⟨q, 0, none⟩) xs.length c) := (blk_cell H7.out.blk 1).trans rfl
    go_wp2_with fail
    refine (Index_calls W7 (some ⟨q, 0, none⟩) c xs (keyQ addr id nm t) kb hqb.2.2 hqb.2.1 KB7.out).mono ?_
    rintro e w8 ⟨hb, ⟨rfl, hno⟩ | ⟨j', hj', rfl, hyes, hfirst⟩⟩
    · exact absurd HI.out (by rw [hno j hj]; simp)
    obtain rfl : j' = j := by
      rcases Nat.lt_trichotomy j' j with h1 | h1 | h1
      · exact absurd hyes (by rw [HL.out j' h1]; simp)
      · exact h1
      · exact absurd HI.out (by rw [hfirst j h1]; simp)
    have H8 := Aside0.mk (H7.out.below hb)
    have B8 := Aside0.mk (below_then B7.out B7.out.size hb)
    have R8 := Aside0.mk (blk_below R7.out hb)
    clear hb hyes hfirst H7 B7 R7 KB7 c71 hqb hq
    obtain ⟨y, hy⟩ : ∃ y, xs[j'] = y := ⟨_, rfl⟩
    obtain ⟨cs8, hcl8, hM8, hcc8, hcf8⟩ := Kd.R_elem H8.out.row z35 (j' : Int) (by omega) (by omega)
    rw [Int.toNat_natCast, List.getD_eq_getElem?_getD, List.getElem?_eq_getElem hj, Option.getD_some, hy] at hM8
    rw [Int.toNat_natCast] at hcc8
    obtain rfl := k35_openM hM8
    have c81 : w8.cell? ⟨g, 1, none⟩ = some (.slice (some ⟨q, 0, none⟩) xs.length c) := (blk_cell H8.out.blk 1).trans rfl
    have x80 : w8.cell? ⟨q, j' * 8, none⟩ = some (.int .i64 y.f0) := hcc8 0 _ rfl
    have x81 : w8.cell? ⟨q, j' * 8 + 1, none⟩ = some (.int .i64 y.f1) := hcc8 1 _ rfl
    have x82 : w8.cell? ⟨q, j' * 8 + 2, none⟩ = some (.int .i64 y.f2) := hcc8 2 _ rfl
    have x83 : w8.cell? ⟨q, j' * 8 + 3, none⟩ = some (.string y.f3) := hcc8 3 _ rfl
    have x84 : w8.cell? ⟨q, j' * 8 + 4, none⟩ = some (.string y.f4) := hcc8 4 _ rfl
    have x85 : w8.cell? ⟨q, j' * 8 + 5, none⟩ = some (.string y.f5.f0) := hcc8 5 _ rfl
    have x86 : w8.cell? ⟨q, j' * 8 + 6, none⟩ = some (.int .i64 y.f5.f1) := hcc8 6 _ rfl
    have x87 : w8.cell? ⟨q, j' * 8 + 7, none⟩ = some (.int .i64 y.f6) := hcc8 7 _ rfl
    have hi1 : ((j' : Int) < (xs.length : Int)) = True := eq_true (by omega)
    have hi2 : IntKind.i64.wrap (j' : Int) = (j' : Int) := IntWalk.i64_in _ (by omega)
    have hi3 : wrap64 ((j' : Int) + 1) = (j' : Int) + 1 := IntWalk.wrap64_in _ (by omega)
    have hi4 : j' < xs.length := hj
    clear hcl8 hM8 hcc8 hcf8
    simp only
    have c81a : ∀ o, (w8.alloc o).cell? ⟨g, 1, none⟩ = some (.slice (some ⟨q, 0, none⟩) xs.length c) := fun o => alloc_cell c81 o
    go_wp2_with fail
    generalize hW9 : w8.alloc _ = W9
    obtain ⟨bb, hbb⟩ : ∃ bb, w8.heap.size = bb := ⟨_, rfl⟩
    have H9 : Aside0 (TabAt W9 base S g most xs n f (.slice (some ⟨q, 0, none⟩) xs.length c) m) := ⟨by rw [← hW9]; exact H8.out.below (below_alloc (Below.refl _ _) _)⟩
    have BX9 : Aside0 (W9.heap[bb]? = some (.cells #[.int .i64 y.f0, .int .i64 y.f1, .int .i64 y.f2, .string y.f3, .string y.f4, .string y.f5.f0, .int .i64 y.f5.f1, .int .i64 y.f6] 35 (0, 0))) := ⟨by rw [← hW9, ← hbb]; exact blk_new w8 _⟩
    have R9 : Aside0 (W9.heap[w.heap.size + 1]? = some (.cells #[.int .i64 0, .int .i64 0, .int .i64 0, .string ⟨#[]⟩, .string ⟨#[]⟩, .string ⟨#[]⟩, .int .i64 0, .int .i64 0] 35 (0, 0))) := ⟨by rw [← hW9]; exact blk_alloc R8.out _⟩
    have B9 : Aside0 (Below w.heap.size w W9) := ⟨by rw [← hW9]; exact below_alloc B8.out _⟩
    have QW : Aside0 (q < w.heap.size) := ⟨Kd.R_lt H.out.row q rfl⟩
    have GW : Aside0 (g < w.heap.size) := ⟨blk_lt H.out.blk⟩
    have BBW : Aside0 (w.heap.size ≤ bb) := ⟨by rw [← hbb]; exact B8.out.size⟩
    have R1W : Aside0 (w.heap.size + 1 < W9.heap.size) := ⟨blk_lt R9.out⟩
    have hky : keyA y = keyQ addr id nm t := by rw [← hy]; exact isK_true.1 HI.out
    rw [hbb]
    clear hW9 hbb H8 B8 R8 c81 c81a x80 x81 x82 x83 x84 x85 x86 x87 hi1 hi2 hi3 hi4
    refine (Delete_calls W9 base S q c j' xs H9.out.row hj hl).mono ?_
    rintro e w10 ⟨rfl, hr10, hg10⟩
    have G10 := Aside0.mk (blk_grown H9.out.blk hg10 H9.out.gv)
    have M10 := Aside0.mk (Many_kept H9.out.many hg10 H9.out.mv)
    have BX10 := Aside0.mk (blk_grown BX9.out hg10 (fun e => by injection e with e; have := QW.out; have := BBW.out; omega))
    have R10 := Aside0.mk (blk_grown R9.out hg10 (fun e => by injection e with e; have := QW.out; omega))
    have B10 : Aside0 (Below base w w10) := ⟨(below_lower B9.out H.out.size).grown hg10 H9.out.size (fun k hk => by cases hk; exact Kd.R_base H9.out.row q rfl)⟩
    have K10 : Aside0 (Kept w w10 S) := ⟨Kept.of_grown hg10 (Kept.of_below B9.out S) (fun k hk => by cases hk; exact Or.inl (H9.out.row.1 q rfl))⟩
    have RR10 := Aside0.mk hr10
    have c10 : w10.cell? ⟨g, 1, none⟩ = some (.slice (some ⟨q, 0, none⟩) xs.length c) := (blk_cell G10.out 1).trans rfl
    have f10 : w10.frozen? ⟨g, 1, none⟩ = false := blk_frozen G10.out 1
    clear hr10 hg10
    simp only
    go_wp2_with fail
    have H11 : Aside0 (TabAt (w10.setCell ⟨g, 1, none⟩ (.slice (some ⟨q, 0, none⟩) (xs.length - 1) c)) base S g most (xs.eraseIdx j') n f (.slice (some ⟨q, 0, none⟩) (xs.length - 1) c) m) := ⟨⟨blk_put G10.out 1 _ rfl, H9.out.lo, H9.out.mlo, Kd.R_set RR10.out G10.out ne61 1 _, Many_set M10.out H9.out.mg _, H9.out.sg, H9.out.sm⟩⟩
    have BX11 := Aside0.mk (blk_far (p := ⟨g, 1, none⟩) BX10.out (show bb ≠ g from fun e => by have := GW.out; have := BBW.out; omega) (.slice (some ⟨q, 0, none⟩) (xs.length - 1) c))
    have R11 := Aside0.mk (blk_far (p := ⟨g, 1, none⟩) R10.out (show w.heap.size + 1 ≠ g from fun e => by have := GW.out; omega) (.slice (some ⟨q, 0, none⟩) (xs.length - 1) c))
    have B11 := Aside0.mk (B10.out.setCell (p := ⟨g, 1, none⟩) H.out.lo (.slice (some ⟨q, 0, none⟩) (xs.length - 1) c))
    have K11 := Aside0.mk (K10.out.setCell (p := ⟨g, 1, none⟩) (Or.inl H.out.sg) (.slice (some ⟨q, 0, none⟩) (xs.length - 1) c))
    clear c10 f10 G10 M10 BX10 R10 B10 K10 RR10 H9 BX9 R9 B9
    generalize w10.setCell ⟨g, 1, none⟩ (.slice (some ⟨q, 0, none⟩) (xs.length - 1) c) = W11 at *
    have HS11 := H11.out.mono (S' := fun k => S k ∨ W11.heap.size ≤ k) (fun k hk => Or.inl hk)
    refine (gone_calls HS11 hn (fun k hk => Or.inr hk) bb y (by rw [hky]; exact HK.out) (by rw [hky]; exact HZB.out) ((blk_cell BX11.out 1).trans rfl) ((blk_cell BX11.out 2).trans rfl) ((blk_cell BX11.out 5).trans rfl) ((blk_cell BX11.out 6).trans rfl)).mono ?_
    rintro e w12 ⟨rfl, h12, hb12, hk12⟩
    have NB12 : ¬ (S bb ∨ W11.heap.size ≤ bb) := fun h => by
      have := blk_lt BX11.out
      rcases h with h | h
      · have := HSL.out bb h; have := BBW.out; omega
      · omega
    have NR12 : ¬ (S (w.heap.size + 1) ∨ W11.heap.size ≤ w.heap.size + 1) := fun h => by
      have := blk_lt R11.out
      rcases h with h | h
      · have := HSL.out _ h; omega
      · omega
    have BX12 := Aside0.mk (blk_kept BX11.out hk12 NB12)
    have R12 := Aside0.mk (blk_kept R11.out hk12 NR12)
    have B12 := Aside0.mk (B11.out.trans hb12)
    have SZ11 : w.heap.size ≤ W11.heap.size := B11.out.size
    have K12 : Aside0 (Kept w w12 S) := ⟨K11.out.then_ hk12 (fun k hk => hk.imp (fun h => h) (fun h => Nat.le_trans SZ11 h))⟩
    rw [hky] at h12
    have H12 := Aside0.mk h12
    have NR := Aside0.mk NR12
    have SZ := Aside0.mk SZ11
    clear HS11 h12 hb12 hk12 H11 BX11 R11 B11 K11 NB12 NR12 SZ11
    have hle : base ≤ w.heap.size + 1 := Nat.le_succ_of_le H.out.size
    have z0 : w12.cell? ⟨bb, 0, none⟩ = some (.int .i64 y.f0) := (blk_cell BX12.out 0).trans rfl
    have z1 : w12.cell? ⟨bb, 1, none⟩ = some (.int .i64 y.f1) := (blk_cell BX12.out 1).trans rfl
    have z2 : w12.cell? ⟨bb, 2, none⟩ = some (.int .i64 y.f2) := (blk_cell BX12.out 2).trans rfl
    have z3 : w12.cell? ⟨bb, 3, none⟩ = some (.string y.f3) := (blk_cell BX12.out 3).trans rfl
    have z4 : w12.cell? ⟨bb, 4, none⟩ = some (.string y.f4) := (blk_cell BX12.out 4).trans rfl
    have z5 : w12.cell? ⟨bb, 5, none⟩ = some (.string y.f5.f0) := (blk_cell BX12.out 5).trans rfl
    have z6 : w12.cell? ⟨bb, 6, none⟩ = some (.int .i64 y.f5.f1) := (blk_cell BX12.out 6).trans rfl
    have z7 : w12.cell? ⟨bb, 7, none⟩ = some (.int .i64 y.f6) := (blk_cell BX12.out 7).trans rfl
    have r0 : w12.cell? ⟨w.heap.size + 1, 0, none⟩ = some (.int .i64 0) := (blk_cell R12.out 0).trans rfl
    have r1 : w12.cell? ⟨w.heap.size + 1, 1, none⟩ = some (.int .i64 0) := (blk_cell R12.out 1).trans rfl
    have r2 : w12.cell? ⟨w.heap.size + 1, 2, none⟩ = some (.int .i64 0) := (blk_cell R12.out 2).trans rfl
    have r3 : w12.cell? ⟨w.heap.size + 1, 3, none⟩ = some (.string ⟨#[]⟩) := (blk_cell R12.out 3).trans rfl
    have r4 : w12.cell? ⟨w.heap.size + 1, 4, none⟩ = some (.string ⟨#[]⟩) := (blk_cell R12.out 4).trans rfl
    have r5 : w12.cell? ⟨w.heap.size + 1, 5, none⟩ = some (.string ⟨#[]⟩) := (blk_cell R12.out 5).trans rfl
    have r6 : w12.cell? ⟨w.heap.size + 1, 6, none⟩ = some (.int .i64 0) := (blk_cell R12.out 6).trans rfl
    have r7 : w12.cell? ⟨w.heap.size + 1, 7, none⟩ = some (.int .i64 0) := (blk_cell R12.out 7).trans rfl
    have yf : ∀ i, w12.frozen? ⟨w.heap.size + 1, i, none⟩ = false := fun i => blk_frozen R12.out i
    simp only
    go_wp2_with fail
    have W13E : ∃ W13, ((((((((w12).setCell ⟨w.heap.size + 1, 0, none⟩ (.int .i64 y.f0)).setCell ⟨w.heap.size + 1, 1, none⟩ (.int .i64 y.f1)).setCell ⟨w.heap.size + 1, 2, none⟩ (.int .i64 y.f2)).setCell ⟨w.heap.size + 1, 3, none⟩ (.string y.f3)).setCell ⟨w.heap.size + 1, 4, none⟩ (.string y.f4)).setCell ⟨w.heap.size + 1, 5, none⟩ (.string y.f5.f0)).setCell ⟨w.heap.size + 1, 6, none⟩ (.int .i64 y.f5.f1)).setCell ⟨w.heap.size + 1, 7, none⟩ (.int .i64 y.f6) = W13 := ⟨_, rfl⟩
    have K13 : Aside0 (Kept w12 (((((((((w12).setCell ⟨w.heap.size + 1, 0, none⟩ (.int .i64 y.f0)).setCell ⟨w.heap.size + 1, 1, none⟩ (.int .i64 y.f1)).setCell ⟨w.heap.size + 1, 2, none⟩ (.int .i64 y.f2)).setCell ⟨w.heap.size + 1, 3, none⟩ (.string y.f3)).setCell ⟨w.heap.size + 1, 4, none⟩ (.string y.f4)).setCell ⟨w.heap.size + 1, 5, none⟩ (.string y.f5.f0)).setCell ⟨w.heap.size + 1, 6, none⟩ (.int .i64 y.f5.f1)).setCell ⟨w.heap.size + 1, 7, none⟩ (.int .i64 y.f6)) (fun k => k = w.heap.size + 1)) := ⟨(((((((((Kept.refl w12 (fun k => k = w.heap.size + 1))).setCell (p := ⟨w.heap.size + 1, 0, none⟩) (Or.inl rfl) _).setCell (p := ⟨w.heap.size + 1, 1, none⟩) (Or.inl rfl) _).setCell (p := ⟨w.heap.size + 1, 2, none⟩) (Or.inl rfl) _).setCell (p := ⟨w.heap.size + 1, 3, none⟩) (Or.inl rfl) _).setCell (p := ⟨w.heap.size + 1, 4, none⟩) (Or.inl rfl) _).setCell (p := ⟨w.heap.size + 1, 5, none⟩) (Or.inl rfl) _).setCell (p := ⟨w.heap.size + 1, 6, none⟩) (Or.inl rfl) _).setCell (p := ⟨w.heap.size + 1, 7, none⟩) (Or.inl rfl) _⟩
    have H13 : Aside0 (TabAt (((((((((w12).setCell ⟨w.heap.size + 1, 0, none⟩ (.int .i64 y.f0)).setCell ⟨w.heap.size + 1, 1, none⟩ (.int .i64 y.f1)).setCell ⟨w.heap.size + 1, 2, none⟩ (.int .i64 y.f2)).setCell ⟨w.heap.size + 1, 3, none⟩ (.string y.f3)).setCell ⟨w.heap.size + 1, 4, none⟩ (.string y.f4)).setCell ⟨w.heap.size + 1, 5, none⟩ (.string y.f5.f0)).setCell ⟨w.heap.size + 1, 6, none⟩ (.int .i64 y.f5.f1)).setCell ⟨w.heap.size + 1, 7, none⟩ (.int .i64 y.f6)) base (fun k => S k ∨ w.heap.size ≤ k) g most (xs.eraseIdx j') (n + 1) (upd f (keyQ addr id nm t) (f (keyQ addr id nm t) - 1)) (.slice (some ⟨q, 0, none⟩) (xs.length - 1) c) m) := ⟨(TabAt.kept H12.out K13.out (fun k hk e => NR.out (by rw [← e]; exact hk))).mono (fun k hk => hk.imp (fun h => h) (fun h => Nat.le_trans SZ.out h))⟩
    have B13 : Aside0 (Below base w (((((((((w12).setCell ⟨w.heap.size + 1, 0, none⟩ (.int .i64 y.f0)).setCell ⟨w.heap.size + 1, 1, none⟩ (.int .i64 y.f1)).setCell ⟨w.heap.size + 1, 2, none⟩ (.int .i64 y.f2)).setCell ⟨w.heap.size + 1, 3, none⟩ (.string y.f3)).setCell ⟨w.heap.size + 1, 4, none⟩ (.string y.f4)).setCell ⟨w.heap.size + 1, 5, none⟩ (.string y.f5.f0)).setCell ⟨w.heap.size + 1, 6, none⟩ (.int .i64 y.f5.f1)).setCell ⟨w.heap.size + 1, 7, none⟩ (.int .i64 y.f6))) := ⟨((((((((B12.out).setCell (p := ⟨w.heap.size + 1, 0, none⟩) hle _).setCell (p := ⟨w.heap.size + 1, 1, none⟩) hle _).setCell (p := ⟨w.heap.size + 1, 2, none⟩) hle _).setCell (p := ⟨w.heap.size + 1, 3, none⟩) hle _).setCell (p := ⟨w.heap.size + 1, 4, none⟩) hle _).setCell (p := ⟨w.heap.size + 1, 5, none⟩) hle _).setCell (p := ⟨w.heap.size + 1, 6, none⟩) hle _).setCell (p := ⟨w.heap.size + 1, 7, none⟩) hle _⟩
    have K14 : Aside0 (Kept w (((((((((w12).setCell ⟨w.heap.size + 1, 0, none⟩ (.int .i64 y.f0)).setCell ⟨w.heap.size + 1, 1, none⟩ (.int .i64 y.f1)).setCell ⟨w.heap.size + 1, 2, none⟩ (.int .i64 y.f2)).setCell ⟨w.heap.size + 1, 3, none⟩ (.string y.f3)).setCell ⟨w.heap.size + 1, 4, none⟩ (.string y.f4)).setCell ⟨w.heap.size + 1, 5, none⟩ (.string y.f5.f0)).setCell ⟨w.heap.size + 1, 6, none⟩ (.int .i64 y.f5.f1)).setCell ⟨w.heap.size + 1, 7, none⟩ (.int .i64 y.f6)) S) := ⟨K12.out.then_ K13.out (fun k hk => Or.inr (by rw [hk]; exact Nat.le_succ _))⟩
    clear K13 W13E
    exact bodyPost_ret (v := .tuple #[v35 y, .int .i64 0]) (by simp [results, Try.results14, go_sem, v35, r0, r1, r2, r3, r4, r5, r6, r7]) rfl ⟨by rw [hy], ⟨_, H13.out⟩, B13.out, K14.out⟩
end
end Go.Proofs.Ytojjkgnkdcekpaa.M
