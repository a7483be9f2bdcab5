/- Job.Chase. -/
import Derived.Test.YtkmdjcdmgmffiaaHJob6
set_option linter.unusedVariables false
set_option linter.unusedSimpArgs false
namespace Go.Proofs.Ytkmdjcdmgmffiaa.M
open Go Go.RowKit Go.ChangeMaps Go.Proofs.YtkmdjcdmgmffiaaW.PrintWords Go.Proofs.YtkmdjcdmgmffiaaW.PrintLast Go.Proofs.YtkmdjcdmgmffiaaW.PrintMore Go.Proofs.Ytkmdjcdmgmffiaa.P

section
variable {w : World} {base : Nat} {S : Nat → Prop} {g : Nat} {id : Int} {ts : List T34} {d ch sp : Int} {n : Nat} {seen : List (List UInt8)} {v : Value} {m : Nat}
set_option maxHeartbeats 4000000 in
set_option maxRecDepth 100000 in
theorem Chase_some (h : JobAt w base S g id ts d ch sp n seen v m) (k : Nat) (hk : ts.length = k + 1) (hk2 : k ≤ 1000000) (x : T34) (hx : ts.getD k z34 = x) (nm : ByteArray) (kt : Nat) (r1 : ByteArray) (r2 : Int) (r3 r4 : ByteArray) (r5 : Int) (r6 : Bool) (r7 r8 : Int)
    (ht : task_New.f kt nm x.f1 ⟨#[0]⟩ = some (r1, r2, r3, r4, r5, r6, r7, r8, 0)) (hs : 1 ≤ ch) (hs2 : ch ≤ 1000000) : Calls Try.prog 12 #[.pointer (some ⟨g, 0, none⟩), .string nm] w fun e w' => e = .returned (.bool true) ∧ JobAt w' base S g id (ts.set k ⟨r1, r2, r3, r4, r5, r6, r7, r8⟩) d (ch - 1) sp n seen v m ∧ Below base w w' ∧ Kept w w' S := by
  have H := Aside0.mk h
  have HT := Aside0.mk ht
  have HK := Aside0.mk hk
  have HX := Aside0.mk hx
  have e1 : (ch == 0) = false := beq_eq_false_iff_ne.2 (by omega)
  have e2 : decide (ch = 0) = false := decide_eq_false (by omega)
  clear h ht hk hx
  go_enter Try.func12, Try.ntmps12
  go_wp2_with fail
  refine (Top_some H.out k HK.out hk2 x HX.out).mono ?_
  rintro e w1 ⟨rfl, hb⟩
  have H1 := Aside0.mk (H.out.below hb)
  have B1 : Aside0 (Below base w w1) := ⟨below_lower hb (by have := blk_lt H.out.blk; have := H.out.lo; omega)⟩
  have K1 := Aside0.mk (Kept.of_below hb S)
  clear hb H
  unfold v34
  simp only
  go_wp2_with fail
  refine (task_New.calls kt nm x.f1 ⟨#[0]⟩ r1 r2 r3 r4 r5 r6 r7 r8 0 _ HT.out).mono ?_
  rintro e w2 ⟨rfl, hb⟩
  have H2 := Aside0.mk ((H1.out.below (below_alloc (Below.refl _ _) _)).below hb)
  have B2 : Aside0 (Below base w w2) := ⟨B1.out.trans (below_lower (below_then (below_alloc (Below.refl _ _) _) (below_alloc (Below.refl _ _) _).size hb) (by have := blk_lt H1.out.blk; have := H1.out.lo; omega))⟩
  have K2 := Aside0.mk ((K1.out.alloc _).below hb)
  clear hb H1 HT K1
  have c3 : ∀ o, (w2.alloc o).cell? ⟨g, 3, none⟩ = some (.int .i64 ch) := fun o => alloc_cell ((blk_cell H2.out.blk 3).trans rfl) o
  have f3 : ∀ o, (w2.alloc o).frozen? ⟨g, 3, none⟩ = false := fun o => blk_frozen (blk_alloc H2.out.blk o) 3
  have c3' : w2.cell? ⟨g, 3, none⟩ = some (.int .i64 ch) := (blk_cell H2.out.blk 3).trans rfl
  have f3' : w2.frozen? ⟨g, 3, none⟩ = false := blk_frozen H2.out.blk 3
  have fr : ∀ u, ((w2.alloc (Obj.cells #[.string r1, .int .i64 r2, .string r3, .string r4, .int .i64 r5, .bool r6, .int .i64 r7, .int .i64 r8] 34)).setCell ⟨g, 3, none⟩ u).cell? ⟨w2.heap.size, 3, none⟩ = some (.string r4) := fun u => (blk_cell (blk_far (blk_new w2 _) (by have := blk_lt H2.out.blk; show w2.heap.size ≠ g; omega) u) 3).trans rfl
  simp only
  go_wp2_with fail
  have J3 := Aside0.mk ((H2.out.below (below_alloc (Below.refl _ _) (Obj.cells #[.string r1, .int .i64 r2, .string r3, .string r4, .int .i64 r5, .bool r6, .int .i64 r7, .int .i64 r8] 34))).setChase (ch - 1))
  have B3 : Aside0 (Below base w ((w2.alloc (Obj.cells #[.string r1, .int .i64 r2, .string r3, .string r4, .int .i64 r5, .bool r6, .int .i64 r7, .int .i64 r8] 34)).setCell ⟨g, 3, none⟩ (.int .i64 (ch - 1)))) := ⟨(B2.out.alloc (Nat.le_trans H2.out.lo (Nat.le_of_lt (blk_lt H2.out.blk))) _).setCell (p := ⟨g, 3, none⟩) H2.out.lo _⟩
  have K3 := Aside0.mk ((K2.out.alloc (Obj.cells #[.string r1, .int .i64 r2, .string r3, .string r4, .int .i64 r5, .bool r6, .int .i64 r7, .int .i64 r8] 34)).setCell (p := ⟨g, 3, none⟩) (Or.inl H2.out.sg) (.int .i64 (ch - 1)))
  clear fr c3 f3 c3' f3' H2 B2
  generalize (w2.alloc (Obj.cells #[.string r1, .int .i64 r2, .string r3, .string r4, .int .i64 r5, .bool r6, .int .i64 r7, .int .i64 r8] 34)).setCell ⟨g, 3, none⟩ (.int .i64 (ch - 1)) = w3 at *
  have hset := Set_some J3.out k HK.out hk2 ⟨r1, r2, r3, r4, r5, r6, r7, r8⟩
  unfold v34 at hset
  refine hset.mono ?_
  rintro e w4 ⟨rfl, h4, hb4, hk4⟩
  have J4 := Aside0.mk h4
  have B4 := Aside0.mk (B3.out.trans hb4)
  have K4 := Aside0.mk (K3.out.then_ hk4 (fun _ h => Or.inl h))
  clear h4 hb4 hk4 hset
  simp only
  go_wp2_with fail
  go_ret
  exact ⟨rfl, J4.out, B4.out, K4.out⟩
set_option maxHeartbeats 4000000 in
set_option maxRecDepth 100000 in
theorem Chase_no (h : JobAt w base S g id ts d ch sp n seen v m) (k : Nat) (hk : ts.length = k + 1) (hk2 : k ≤ 1000000) (x : T34) (hx : ts.getD k z34 = x) (nm : ByteArray) (kt : Nat) (r1 : ByteArray) (r2 : Int) (r3 r4 : ByteArray) (r5 : Int) (r6 : Bool) (r7 r8 et : Int)
    (ht : task_New.f kt nm x.f1 ⟨#[0]⟩ = some (r1, r2, r3, r4, r5, r6, r7, r8, et)) (hs : et ≠ 0 ∨ ch = 0) : Calls Try.prog 12 #[.pointer (some ⟨g, 0, none⟩), .string nm] w fun e w' => e = .returned (.bool false) ∧ JobAt w' base S g id ts d ch sp n seen v m ∧ Below base w w' ∧ Kept w w' S := by
  have H := Aside0.mk h
  have HT := Aside0.mk ht
  have HK := Aside0.mk hk
  have HX := Aside0.mk hx
  obtain ⟨be, hbe⟩ : ∃ b, decide (et = 0) = b := ⟨_, rfl⟩
  have hbe' : (et == 0) = be := by rw [← hbe]; rfl
  obtain ⟨bc, hbc⟩ : ∃ b, decide (ch = 0) = b := ⟨_, rfl⟩
  have hbc' : (ch == 0) = bc := by rw [← hbc]; rfl
  have HS : be = false ∨ bc = true := by rcases hs with hs | hs; exact Or.inl (by rw [← hbe]; exact decide_eq_false hs); exact Or.inr (by rw [← hbc]; exact decide_eq_true hs)
  clear h ht hk hx hs
  go_enter Try.func12, Try.ntmps12
  go_wp2_with fail
  refine (Top_some H.out k HK.out hk2 x HX.out).mono ?_
  rintro e w1 ⟨rfl, hb⟩
  have H1 := Aside0.mk (H.out.below hb)
  have B1 : Aside0 (Below base w w1) := ⟨below_lower hb (by have := blk_lt H.out.blk; have := H.out.lo; omega)⟩
  have K1 := Aside0.mk (Kept.of_below hb S)
  clear hb H
  unfold v34
  simp only
  go_wp2_with fail
  refine (task_New.calls kt nm x.f1 ⟨#[0]⟩ r1 r2 r3 r4 r5 r6 r7 r8 et _ HT.out).mono ?_
  rintro e w2 ⟨rfl, hb⟩
  have H2 := Aside0.mk ((H1.out.below (below_alloc (Below.refl _ _) _)).below hb)
  have B2 : Aside0 (Below base w w2) := ⟨B1.out.trans (below_lower (below_then (below_alloc (Below.refl _ _) _) (below_alloc (Below.refl _ _) _).size hb) (by have := blk_lt H1.out.blk; have := H1.out.lo; omega))⟩
  have K2 := Aside0.mk ((K1.out.alloc _).below hb)
  clear hb H1 HT K1
  have c3 : ∀ o, (w2.alloc o).cell? ⟨g, 3, none⟩ = some (.int .i64 ch) := fun o => alloc_cell ((blk_cell H2.out.blk 3).trans rfl) o
  have J3 := Aside0.mk (H2.out.below (below_alloc (Below.refl _ _) (Obj.cells #[.string r1, .int .i64 r2, .string r3, .string r4, .int .i64 r5, .bool r6, .int .i64 r7, .int .i64 r8] 34)))
  have B3 : Aside0 (Below base w (w2.alloc (Obj.cells #[.string r1, .int .i64 r2, .string r3, .string r4, .int .i64 r5, .bool r6, .int .i64 r7, .int .i64 r8] 34))) := ⟨B2.out.alloc (Nat.le_trans H2.out.lo (Nat.le_of_lt (blk_lt H2.out.blk))) _⟩
  simp only
  cases be
  · have hq : (et = 0) = False := eq_false (of_decide_eq_false hbe)
    go_wp2_with fail
    go_ret
    exact ⟨rfl, J3.out, B3.out, K2.out.alloc _⟩
  · obtain rfl : bc = true := by rcases HS with h | h; cases h; exact h
    have hq : (et = 0) = True := eq_true (of_decide_eq_true hbe)
    have hq2 : (ch = 0) = True := eq_true (of_decide_eq_true hbc)
    go_wp2_with fail
    all_goals
      go_ret
      exact ⟨rfl, J3.out, B3.out, K2.out.alloc _⟩
set_option maxHeartbeats 4000000 in
set_option maxRecDepth 100000 in
theorem Chase_none (h : JobAt w base S g id [] d ch sp n seen v m) (nm : ByteArray) (kt : Nat) (r1 : ByteArray) (r2 : Int) (r3 r4 : ByteArray) (r5 : Int) (r6 : Bool) (r7 r8 et : Int)
    (ht : task_New.f kt nm 0 ⟨#[0]⟩ = some (r1, r2, r3, r4, r5, r6, r7, r8, et)) : Calls Try.prog 12 #[.pointer (some ⟨g, 0, none⟩), .string nm] w fun e w' => e = .returned (.bool false) ∧ Below w.heap.size w w' := by
  have H := Aside0.mk h
  have HT := Aside0.mk ht
  clear h ht
  go_enter Try.func12, Try.ntmps12
  go_wp2_with fail
  refine (Top_none H.out).mono ?_
  rintro e w1 ⟨rfl, hb⟩
  have B1 := Aside0.mk hb
  clear hb H
  unfold v34 z34
  simp only
  go_wp2_with fail
  refine (task_New.calls kt nm 0 ⟨#[0]⟩ r1 r2 r3 r4 r5 r6 r7 r8 et _ HT.out).mono ?_
  rintro e w2 ⟨rfl, hb⟩
  have B2 : Aside0 (Below w.heap.size w w2) := ⟨below_then (below_alloc B1.out _) (below_alloc B1.out _).size hb⟩
  clear hb HT
  simp only
  go_wp2_with fail
  go_ret
  exact ⟨rfl, below_alloc B2.out _⟩
end
end Go.Proofs.Ytkmdjcdmgmffiaa.M
