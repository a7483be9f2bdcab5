/- A job's methods on its last task. -/
import Derived.Test.YtkmdjcdmgmffiaaHJob
set_option linter.unusedVariables false
set_option linter.unusedSimpArgs false
namespace Go.Proofs.Ytkmdjcdmgmffiaa.M
open Go Go.RowKit Go.ChangeMaps Go.Proofs.YtkmdjcdmgmffiaaW.PrintWords Go.Proofs.YtkmdjcdmgmffiaaW.PrintLast Go.Proofs.YtkmdjcdmgmffiaaW.PrintMore Go.Proofs.Ytkmdjcdmgmffiaa.P

theorem drew_cell {w : World} {a : Addr} {v : Value} (h : w.cell? a = some v) : w.drew.cell? a = some v := h
theorem alloc_cell {w : World} {a : Addr} {v : Value} (h : w.cell? a = some v) (o : Obj) : (w.alloc o).cell? a = some v := (World.cell?_alloc_lt _ _ _ (World.block_lt_of_cell? _ _ h)).trans h
theorem below_any {b : Nat} {w w' : World} (h : Below w.heap.size w w') (hb : b ≤ w.heap.size) : Below b w w' := below_lower h hb
/-- append as a step of a region that draws its order. -/
theorem step_R_append {P : Program} {ops : Array Oper} {o : Oper} {a : Act} {Q : Exit → Act → World → Prop} {Kc : Act → World → Prop} {E : Prop} {α : Type} (d : Kd α) {w0 W : World} (base : Nat) (hgd : o.guard = none) (s x : Operand) (t e : TypeId) (z : Value) (bytes : Nat)
    (ho : o.op = .call { callee := .builtin .append, args := #[s, x], argTypes := #[t, t] })
    (ht : P.underlying t = some (.slice e)) (hinfo : (P.info? e).map (fun i => (i.zero, i.size, i.bytes)) = some (some z, d.sz, bytes)) (hz : z.cells.size = d.sz) (hs0 : 0 < d.sz) (hb0 : 0 < bytes)
    (v : Value) (xs : List α) (p : α) (cs : List Value) (ok okp : Nat → Prop) (hs : a.eval s = v) (hx : a.eval x = .slice (some ⟨W.heap.size, 0, none⟩) 1 1) (hp : d.M W base okp p cs) (hokp : ∀ k, okp k → ok k ∧ some k ≠ v.ownBlock) (hfresh : ∀ k, W.heap.size ≤ k → ok k)
    (HO : d.R e W base ok v xs) (HB : Below base w0 W) (hbase : base ≤ W.heap.size) (hl : (xs.length + 1) * bytes ≤ 140737488355328)
    (h : ∀ v1 w1, d.R e w1 base ok v1 (xs ++ [p]) → Below base w0 w1 → W.grownBy w1 v.ownBlock → (v1.ownBlock = v.ownBlock ∨ ∃ b, v1.ownBlock = some b ∧ W.heap.size ≤ b) → Kc (a.put o.dst v1) w1) :
    if Region.wanted o (yielded ops a.tmps) = true then Oper.wp P o a (W.alloc (.cells cs.toArray e)) Kc Q else E := by
  have hw : Region.wanted o (yielded ops a.tmps) = true := by simp [Region.wanted, hgd]
  have := Kd.R_append_step (ops := ops) (Q := Q) d base hw s x t e z bytes ho ht hinfo hz hs0 hb0 v xs p cs ok okp hs hx hp hokp hfresh HO HB hbase hl h
  rw [if_pos hw] at this ⊢
  exact this

theorem step_R_append_drew {P : Program} {ops : Array Oper} {o : Oper} {a : Act} {Q : Exit → Act → World → Prop} {Kc : Act → World → Prop} {E : Prop} {α : Type} (d : Kd α) {W : World} (base : Nat) (hgd : o.guard = none) (s x : Operand) (t e : TypeId) (z : Value) (bytes : Nat)
    (ho : o.op = .call { callee := .builtin .append, args := #[s, x], argTypes := #[t, t] })
    (ht : P.underlying t = some (.slice e)) (hinfo : (P.info? e).map (fun i => (i.zero, i.size, i.bytes)) = some (some z, d.sz, bytes)) (hz : z.cells.size = d.sz) (hs0 : 0 < d.sz) (hb0 : 0 < bytes)
    (v : Value) (xs : List α) (p : α) (cs : List Value) (ok okp : Nat → Prop) (hs : a.eval s = v) (hx : a.eval x = .slice (some ⟨W.heap.size, 0, none⟩) 1 1) (hp : d.M W.drew base okp p cs) (hokp : ∀ k, okp k → ok k ∧ some k ≠ v.ownBlock) (hfresh : ∀ k, W.heap.size ≤ k → ok k)
    (HO : d.R e W base ok v xs) (hbase : base ≤ W.heap.size) (hl : (xs.length + 1) * bytes ≤ 140737488355328)
    (h : ∀ v1 w1, d.R e w1 base ok v1 (xs ++ [p]) → Below base W w1 → W.grownBy w1 v.ownBlock → (v1.ownBlock = v.ownBlock ∨ ∃ b, v1.ownBlock = some b ∧ W.heap.size ≤ b) → Kc (a.put o.dst v1) w1) :
    if Region.wanted o (yielded ops a.tmps) = true then Oper.wp P o a (W.alloc (.cells cs.toArray e)).drew Kc Q else E := by
  have hb : Below base W W.drew := below_lower (below_drew (Below.refl _ _)) hbase
  exact step_R_append (W := W.drew) (w0 := W) (ops := ops) (Q := Q) (E := E) d base hgd s x t e z bytes ho ht hinfo hz hs0 hb0 v xs p cs ok okp hs hx hp hokp hfresh (Kd.R_drew HO) hb hbase hl (fun v1 w1 h1 h2 h3 h4 => h v1 w1 h1 h2 ((grown_of_below (below_drew (Below.refl _ _)) v.ownBlock).trans h3) h4)

section
variable {w : World} {base : Nat} {S : Nat → Prop} {g : Nat} {id : Int} {ts : List T34} {d ch sp : Int} {n : Nat} {seen : List (List UInt8)} {v : Value} {m : Nat}
theorem last_cells {q k c : Nat} (h : Kd.R k34 34 w base S (.slice (some ⟨q, 0, none⟩) (k + 1) c) ts) (x : T34) (hx : ts.getD k z34 = x) : ∀ j u, (c34 x)[j]? = some u → w.cell? ⟨q, k * 8 + j, none⟩ = some u := by
  obtain ⟨cs, hl, hM, hc, hf⟩ := Kd.R_elem h z34 (k : Int) (by omega) (by omega)
  rw [Int.toNat_natCast, hx] at hM
  obtain rfl := k34_openM hM
  intro j u hj
  have := hc j u hj
  rwa [Int.toNat_natCast] at this
set_option maxHeartbeats 4000000 in
set_option maxRecDepth 100000 in
theorem Top_none (h : JobAt w base S g id [] d ch sp n seen v m) : Calls Try.prog 10 #[.pointer (some ⟨g, 0, none⟩)] w fun e w' => e = .returned (.tuple #[v34 z34, .bool false]) ∧ Below w.heap.size w w' := by
  obtain ⟨A, c, rfl, hl, _⟩ := Kd.R_reads h.row
  have c1 : ∀ o, (w.alloc o).cell? ⟨g, 1, none⟩ = some (.slice A 0 c) := fun o => (blk_cell (blk_alloc h.blk o) 1).trans rfl
  clear h
  go_enter Try.func10, Try.ntmps10
  go_wp2_with fail
  exact bodyPost_ret (v := .tuple #[v34 z34, .bool false]) (by simp [results, Try.results10, go_sem, v34, z34]) rfl ⟨rfl, below_alloc (Below.refl _ _) _⟩
set_option maxHeartbeats 4000000 in
set_option maxRecDepth 100000 in
theorem Top_some (h : JobAt w base S g id ts d ch sp n seen v m) (k : Nat) (hk : ts.length = k + 1) (hk2 : k ≤ 1000000) (x : T34) (hx : ts.getD k z34 = x) : Calls Try.prog 10 #[.pointer (some ⟨g, 0, none⟩)] w fun e w' => e = .returned (.tuple #[v34 x, .bool true]) ∧ Below w.heap.size w w' := by
  obtain ⟨q, c, rfl, _⟩ := Kd.R_form h.row (by omega)
  have hr := h.row
  rw [hk] at hr
  have hc := last_cells hr x hx
  have c1 : ∀ o, (w.alloc o).cell? ⟨g, 1, none⟩ = some (.slice (some ⟨q, 0, none⟩) (k + 1) c) := fun o => (blk_cell (blk_alloc h.blk o) 1).trans (by rw [hk]; rfl)
  have d0 : ∀ o, (w.alloc o).cell? ⟨q, k * 8, none⟩ = some (.string x.f0) := fun o => (World.cell?_alloc_lt _ _ _ (World.block_lt_of_cell? _ _ (hc 0 _ rfl))).trans (hc 0 _ rfl)
  have d1 : ∀ o, (w.alloc o).cell? ⟨q, k * 8 + 1, none⟩ = some (.int .i64 x.f1) := fun o => (World.cell?_alloc_lt _ _ _ (World.block_lt_of_cell? _ _ (hc 1 _ rfl))).trans (hc 1 _ rfl)
  have d2 : ∀ o, (w.alloc o).cell? ⟨q, k * 8 + 2, none⟩ = some (.string x.f2) := fun o => (World.cell?_alloc_lt _ _ _ (World.block_lt_of_cell? _ _ (hc 2 _ rfl))).trans (hc 2 _ rfl)
  have d3 : ∀ o, (w.alloc o).cell? ⟨q, k * 8 + 3, none⟩ = some (.string x.f3) := fun o => (World.cell?_alloc_lt _ _ _ (World.block_lt_of_cell? _ _ (hc 3 _ rfl))).trans (hc 3 _ rfl)
  have d4 : ∀ o, (w.alloc o).cell? ⟨q, k * 8 + 4, none⟩ = some (.int .i64 x.f4) := fun o => (World.cell?_alloc_lt _ _ _ (World.block_lt_of_cell? _ _ (hc 4 _ rfl))).trans (hc 4 _ rfl)
  have d5 : ∀ o, (w.alloc o).cell? ⟨q, k * 8 + 5, none⟩ = some (.bool x.f5) := fun o => (World.cell?_alloc_lt _ _ _ (World.block_lt_of_cell? _ _ (hc 5 _ rfl))).trans (hc 5 _ rfl)
  have d6 : ∀ o, (w.alloc o).cell? ⟨q, k * 8 + 6, none⟩ = some (.int .i64 x.f6) := fun o => (World.cell?_alloc_lt _ _ _ (World.block_lt_of_cell? _ _ (hc 6 _ rfl))).trans (hc 6 _ rfl)
  have d7 : ∀ o, (w.alloc o).cell? ⟨q, k * 8 + 7, none⟩ = some (.int .i64 x.f7) := fun o => (World.cell?_alloc_lt _ _ _ (World.block_lt_of_cell? _ _ (hc 7 _ rfl))).trans (hc 7 _ rfl)
  have e1 : ((k : Int) + 1 == 0) = false := beq_eq_false_iff_ne.2 (by omega)
  have e2 : decide ((k : Int) + 1 = 0) = false := decide_eq_false (by omega)
  clear h hr hc
  go_enter Try.func10, Try.ntmps10
  go_wp2_with fail
  go_big_region
  simp only [Exit.then]
  go_wp2_with fail
  exact bodyPost_ret (v := .tuple #[v34 x, .bool true]) (by simp [results, Try.results10, go_sem, v34]) rfl ⟨rfl, below_drew (below_alloc (Below.refl _ _) _)⟩
set_option maxHeartbeats 4000000 in
set_option maxRecDepth 100000 in
theorem Push_full (h : JobAt w base S g id ts d ch sp n seen v m) (x : T34) (hd : d < (ts.length : Int)) : Calls Try.prog 13 #[.pointer (some ⟨g, 0, none⟩), v34 x] w fun e w' => e = .returned (.bool false) ∧ Below w.heap.size w w' := by
  obtain ⟨A, c, rfl, hl, _⟩ := Kd.R_reads h.row
  have c1 : ∀ o, (w.alloc o).cell? ⟨g, 1, none⟩ = some (.slice A ts.length c) := fun o => (blk_cell (blk_alloc h.blk o) 1).trans rfl
  have c2 : ∀ o, (w.alloc o).cell? ⟨g, 2, none⟩ = some (.int .i64 d) := fun o => (blk_cell (blk_alloc h.blk o) 2).trans rfl
  have e1 : decide ((ts.length : Int) > d) = true := decide_eq_true hd
  have e2 : decide (d < (ts.length : Int)) = true := decide_eq_true hd
  clear h
  unfold v34
  go_enter Try.func13, Try.ntmps13
  go_wp2_with fail
  go_quiet (fail)
  simp only [Exit.then]
  go_wp2_with fail
  go_ret
  exact ⟨rfl, pw_below_drewN (below_alloc (Below.refl _ _) _) _⟩
set_option maxHeartbeats 4000000 in
set_option maxRecDepth 100000 in
theorem Push_room (h : JobAt w base S g id ts d ch sp n seen v m) (x : T34) (hd : (ts.length : Int) ≤ d) (hd2 : ts.length ≤ 1000000) (hS : ∀ k, w.heap.size ≤ k → S k) : Calls Try.prog 13 #[.pointer (some ⟨g, 0, none⟩), v34 x] w fun e w' => e = .returned (.bool true) ∧ (∃ v', JobAt w' base S g id (ts ++ [x]) d ch sp n seen v' m) ∧ Below base w w' ∧ Kept w w' S := by
  obtain ⟨A, c, rfl, hl, _⟩ := Kd.R_reads h.row
  have H := Aside0.mk h
  have c1 : ∀ o, (w.alloc o).cell? ⟨g, 1, none⟩ = some (.slice A ts.length c) := fun o => (blk_cell (blk_alloc h.blk o) 1).trans rfl
  have c2 : ∀ o, (w.alloc o).cell? ⟨g, 2, none⟩ = some (.int .i64 d) := fun o => (blk_cell (blk_alloc h.blk o) 2).trans rfl
  have e1 : decide ((ts.length : Int) > d) = false := decide_eq_false (by omega)
  have e2 : decide (d < (ts.length : Int)) = false := decide_eq_false (by omega)
  clear h
  unfold v34
  go_enter Try.func13, Try.ntmps13
  go_wp2_with fail
  go_quiet (fail)
  simp only [Exit.then]
  go_wp2_with fail
  generalize hW : World.drewN _ _ = W
  have TW : Aside0 (Below w.heap.size w W) := ⟨by rw [← hW]; exact pw_below_drewN (below_alloc (Below.refl _ _) _) _⟩
  have bx : W.heap[w.heap.size]? = some (.cells #[.string x.f0, .int .i64 x.f1, .string x.f2, .string x.f3, .int .i64 x.f4, .bool x.f5, .int .i64 x.f6, .int .i64 x.f7] 34 (0, 0)) := by rw [← hW]; exact blk_drewN (blk_new w _) _
  clear hW c1 c2 e1 e2
  have HW := Aside0.mk (H.out.below TW.out)
  have HS : Aside0 (∀ k, W.heap.size ≤ k → S k) := ⟨fun k hk => hS k (Nat.le_trans TW.out.size hk)⟩
  clear hS
  have c1 : W.cell? ⟨g, 1, none⟩ = some (.slice A ts.length c) := (blk_cell HW.out.blk 1).trans rfl
  have b0 : W.cell? ⟨w.heap.size, 0, none⟩ = some (.string x.f0) := (blk_cell bx 0).trans rfl
  have b1 : W.cell? ⟨w.heap.size, 1, none⟩ = some (.int .i64 x.f1) := (blk_cell bx 1).trans rfl
  have b2 : W.cell? ⟨w.heap.size, 2, none⟩ = some (.string x.f2) := (blk_cell bx 2).trans rfl
  have b3 : W.cell? ⟨w.heap.size, 3, none⟩ = some (.string x.f3) := (blk_cell bx 3).trans rfl
  have b4 : W.cell? ⟨w.heap.size, 4, none⟩ = some (.int .i64 x.f4) := (blk_cell bx 4).trans rfl
  have b5 : W.cell? ⟨w.heap.size, 5, none⟩ = some (.bool x.f5) := (blk_cell bx 5).trans rfl
  have b6 : W.cell? ⟨w.heap.size, 6, none⟩ = some (.int .i64 x.f6) := (blk_cell bx 6).trans rfl
  have b7 : W.cell? ⟨w.heap.size, 7, none⟩ = some (.int .i64 x.f7) := (blk_cell bx 7).trans rfl
  have BX := Aside0.mk bx
  have SW : Aside0 (base ≤ W.heap.size) := ⟨Nat.le_trans HW.out.lo (Nat.le_of_lt (blk_lt HW.out.blk))⟩
  have XV : Aside0 (some w.heap.size ≠ (Value.slice A ts.length c).ownBlock) := ⟨fun e => by have := Kd.R_lt H.out.row _ e.symm; omega⟩
  clear bx
  have c1a : ∀ o, (W.alloc o).cell? ⟨g, 1, none⟩ = some (.slice A ts.length c) := fun o => alloc_cell c1 o
  go_region_law
    ((refine step_R_append_drew k34 (W := W) base (by rfl) (.tmp 23) (.tmp 25) 46 34 (.agg #[.string ⟨#[]⟩, .int .i64 0, .string ⟨#[]⟩, .string ⟨#[]⟩, .int .i64 0, .bool false, .int .i64 0, .int .i64 0]) 88 (by rfl) Try.underlying46 info34 rfl (by decide) (by omega) (.slice A ts.length c) ts x (c34 x) S (fun _ => False) (by rfl) (by rfl) (k34_mkM _ _ _ x) (fun _ hk => hk.elim) HS.out HW.out.row SW.out (by omega) ?_; intro v1 w3 ho hb hg hat; obtain ⟨A1, c5, e5⟩ := Kd.R_slice ho; rw [show (ts ++ [x]).length = ts.length + 1 from by simp] at e5; subst e5; have G3 := Aside0.mk (blk_grown HW.out.blk hg HW.out.gv); have X3 := Aside0.mk (blk_grown BX.out hg XV.out); have V3 := Aside0.mk ho; have M3 := Aside0.mk (Seen_kept HW.out.tried hg HW.out.mv); have HB3 := Aside0.mk hb; have KP3 := Aside0.mk (Kept.of_grown hg (Kept.of_below TW.out S) (fun k hk => Or.inl (HW.out.row.1 k hk))); clear ho hb hg hat; have q1 : w3.cell? ⟨g, 1, none⟩ = some (.slice A ts.length c) := (blk_cell G3.out 1).trans rfl; have f1 : w3.frozen? ⟨g, 1, none⟩ = false := blk_frozen G3.out 1; have q20 : w3.cell? ⟨w.heap.size, 0, none⟩ = some (.string x.f0) := (blk_cell X3.out 0).trans rfl; have q21 : w3.cell? ⟨w.heap.size, 1, none⟩ = some (.int .i64 x.f1) := (blk_cell X3.out 1).trans rfl; have q22 : w3.cell? ⟨w.heap.size, 2, none⟩ = some (.string x.f2) := (blk_cell X3.out 2).trans rfl; have q23 : w3.cell? ⟨w.heap.size, 3, none⟩ = some (.string x.f3) := (blk_cell X3.out 3).trans rfl; have q24 : w3.cell? ⟨w.heap.size, 4, none⟩ = some (.int .i64 x.f4) := (blk_cell X3.out 4).trans rfl; have q25 : w3.cell? ⟨w.heap.size, 5, none⟩ = some (.bool x.f5) := (blk_cell X3.out 5).trans rfl; have q26 : w3.cell? ⟨w.heap.size, 6, none⟩ = some (.int .i64 x.f6) := (blk_cell X3.out 6).trans rfl; have q27 : w3.cell? ⟨w.heap.size, 7, none⟩ = some (.int .i64 x.f7) := (blk_cell X3.out 7).trans rfl))
  all_goals
    simp only [Exit.then]
    have L1 := HW.out.lo
    have J : JobAt (w3.setCell ⟨g, 1, none⟩ (.slice A1 (ts.length + 1) c5)) base S g id (ts ++ [x]) d ch sp n seen (.slice A1 (ts.length + 1) c5) m := ⟨blk_put G3.out 1 _ rfl, HW.out.lo, HW.out.mlo, Kd.R_set V3.out G3.out ne57 1 _, Seen_set M3.out HW.out.mg _, HW.out.sg, HW.out.sm⟩
    have J' := Aside0.mk J
    have K' := Aside0.mk (KP3.out.setCell (p := ⟨g, 1, none⟩) (Or.inl HW.out.sg) (.slice A1 (ts.length + 1) c5))
    have B' : Aside0 (Below base w (w3.setCell ⟨g, 1, none⟩ (.slice A1 (ts.length + 1) c5))) := ⟨((below_lower TW.out (Nat.le_trans H.out.lo (Nat.le_of_lt (blk_lt H.out.blk)))).trans HB3.out).setCell (p := ⟨g, 1, none⟩) HW.out.lo _⟩
    clear J L1 q1 f1 q20 q21 q22 q23 q24 q25 q26 q27 b0 b1 b2 b3 b4 b5 b6 b7 c1 c1a
    go_wp2_with fail
    go_ret
    exact ⟨rfl, ⟨_, J'.out⟩, B'.out, K'.out⟩
end
end Go.Proofs.Ytkmdjcdmgmffiaa.M
