/- cuts.New at no hint, many, one; job.May; job.New; Chase. -/
import Derived.Test.YtkmdjcdmgmffiaaHJob3
import Derived.Test.YtkmdjcdmgmffiaaPx4
import Derived.Test.YtkmdjcdmgmffiaaPx6
import Derived.Test.YtkmdjcdmgmffiaaPx7
set_option linter.unusedVariables false
set_option linter.unusedSimpArgs false
namespace Go.Proofs.Ytkmdjcdmgmffiaa.M
open Go Go.RowKit Go.ChangeMaps Go.Proofs.YtkmdjcdmgmffiaaW.PrintWords Go.Proofs.YtkmdjcdmgmffiaaW.PrintLast Go.Proofs.YtkmdjcdmgmffiaaW.PrintMore Go.Proofs.Ytkmdjcdmgmffiaa.P

set_option maxHeartbeats 4000000 in
set_option maxRecDepth 100000 in
theorem info9 : (Try.prog.info? 9).map (fun i => (i.zero, i.size, i.bytes)) = some (some (.string ⟨#[]⟩), 1, 16) := by kernel_rfl
theorem info85 : (Try.prog.info? 85).map (fun i => (i.zero, i.size, i.bytes)) = some (some (.agg #[.string ⟨#[]⟩, .string ⟨#[]⟩, .int .i64 0, .string ⟨#[]⟩, .int .i64 0]), 5, 64) := by kernel_rfl
def k85 := Kd.pair Kd.string (Kd.pair Kd.string (Kd.pair (Kd.int .i64) (Kd.pair Kd.string (Kd.int .i64))))
theorem k85_mkM (w : World) (base : Nat) (ok : Nat → Prop) (a b : ByteArray) (c : Int) (d : ByteArray) (e : Int) : k85.M w base ok (a, b, c, d, e) [.string a, .string b, .int .i64 c, .string d, .int .i64 e] := ⟨[_], [_, _, _, _], rfl, rfl, ⟨[_], [_, _, _], rfl, rfl, ⟨[_], [_, _], rfl, rfl, ⟨[_], [_], rfl, rfl, rfl⟩⟩⟩⟩
theorem size_alloc' (w : World) (o : Obj) : (w.alloc o).heap.size = w.heap.size + 1 := by
  show (w.heap.push o).size = _
  exact Array.size_push _
set_option maxHeartbeats 4000000 in
set_option maxRecDepth 100000 in
theorem cuts_none (w : World) (A : Option Addr) (k c : Nat) (hk : k < 1 ∨ 8 < k) : Calls Try.prog 28 #[.slice A k c] w fun e w' => e = .returned (.tuple #[.pointer none, .int .i64 1500]) ∧ Below w.heap.size w w' := by
  rcases hk with hk | hk
  · have e1 : decide ((k : Int) < 1) = true := decide_eq_true (by omega)
    have e2 : decide (k < 1) = true := decide_eq_true (by omega)
    clear hk
    go_enter Try.func28, Try.ntmps28
    go_wp2_with fail
    go_ret2
    exact ⟨rfl, Below.refl _ _⟩
  · have e1 : decide ((k : Int) < 1) = false := decide_eq_false (by omega)
    have e2 : decide (k < 1) = false := decide_eq_false (by omega)
    have e3 : decide ((k : Int) > 8) = true := decide_eq_true (by omega)
    have e4 : decide ((8 : Int) < (k : Int)) = true := decide_eq_true (by omega)
    have e5 : decide (8 < k) = true := decide_eq_true (by omega)
    clear hk
    go_enter Try.func28, Try.ntmps28
    go_wp2_with fail
    go_ret2
    exact ⟨rfl, Below.refl _ _⟩
set_option maxHeartbeats 4000000 in
set_option maxRecDepth 100000 in
theorem cuts_bad1 (w : World) (p c : Nat) (h : ByteArray) (a : Int) (h0 : w.cell? ⟨p, 0, none⟩ = some (.string h)) (h1 : w.cell? ⟨p, 1, none⟩ = some (.int .i64 a)) (km : Nat) (hm : name_May.f km h = some false) : Calls Try.prog 28 #[.slice (some ⟨p, 0, none⟩) 1 c] w fun e w' => e = .returned (.tuple #[.pointer none, .int .i64 1500]) ∧ Below w.heap.size w w' := by
  have hmm := @run_makeMap Try.prog
  have B : ∀ W, Below w.heap.size w ((w.alloc (.map #[] 0)).alloc W) := fun W => below_alloc (below_alloc (Below.refl w.heap.size w) (.map #[] 0)) W
  have Z : ∀ W, ((w.alloc (.map #[] 0)).alloc W).heap[w.heap.size + 1]? = some W := fun W => by rw [← size_alloc' w (.map #[] 0)]; exact blk_new _ _
  have h0' : ∀ o o', ((w.alloc o).alloc o').cell? ⟨p, 0, none⟩ = some (.string h) := fun o o' => alloc_cell (alloc_cell h0 o) o'
  have h1' : ∀ o o', ((w.alloc o).alloc o').cell? ⟨p, 1, none⟩ = some (.int .i64 a) := fun o o' => alloc_cell (alloc_cell h1 o) o'
  have i0 : ((0 : Int) < 1) = True := eq_true (by omega)
  go_enter Try.func28, Try.ntmps28
  go_wp2_with fail
  have B' := Aside0.mk (B (Obj.cells #[Value.slice none 0 0, Value.slice none 0 0, Value.int IntKind.i64 0, Value.string { data := #[] }, Value.map (some w.heap.size)] 81))
  have Z' := Aside0.mk (Z (Obj.cells #[Value.slice none 0 0, Value.slice none 0 0, Value.int IntKind.i64 0, Value.string { data := #[] }, Value.map (some w.heap.size)] 81))
  have H0 := h0' (Obj.map #[] 0) (Obj.cells #[Value.slice none 0 0, Value.slice none 0 0, Value.int IntKind.i64 0, Value.string { data := #[] }, Value.map (some w.heap.size)] 81)
  have H1 := h1' (Obj.map #[] 0) (Obj.cells #[Value.slice none 0 0, Value.slice none 0 0, Value.int IntKind.i64 0, Value.string { data := #[] }, Value.map (some w.heap.size)] 81)
  clear h0' h1' B h0 h1 Z
  generalize (((w.alloc (Obj.map #[] 0)).alloc (Obj.cells #[Value.slice none 0 0, Value.slice none 0 0, Value.int IntKind.i64 0, Value.string { data := #[] }, Value.map (some w.heap.size)] 81))) = W at *
  refine wp_loop_rounds 1 ?_
  rw [rounds_succ]
  go_wp2_with fail
  refine (name_May.calls km h false _ hm).mono ?_
  rintro e w1 ⟨rfl, hb1⟩
  have B1 : Aside0 (Below w.heap.size w w1) := ⟨below_then (below_alloc B'.out _) (below_alloc B'.out _).size hb1⟩
  have D1 : Aside0 (w1.heap[W.heap.size]? = some (.cells #[.string h, .int .i64 a] 43 (0, 0))) := ⟨blk_below (blk_new W _) hb1⟩
  have Z1 : Aside0 (w1.heap[w.heap.size + 1]? = some (Obj.cells #[Value.slice none 0 0, Value.slice none 0 0, Value.int IntKind.i64 0, Value.string { data := #[] }, Value.map (some w.heap.size)] 81)) := ⟨blk_below (blk_alloc Z'.out _) hb1⟩
  have E0 : w1.cell? ⟨W.heap.size, 0, none⟩ = some (.string h) := (blk_cell D1.out 0).trans rfl
  have E1 : w1.cell? ⟨W.heap.size, 1, none⟩ = some (.int .i64 a) := (blk_cell D1.out 1).trans rfl
  clear hb1
  simp only
  go_wp2_with fail
  go_ret2
  exact ⟨rfl, B1.out⟩
set_option maxHeartbeats 4000000 in
set_option maxRecDepth 100000 in
theorem cuts_bad2 (w : World) (p c : Nat) (h : ByteArray) (a : Int) (h0 : w.cell? ⟨p, 0, none⟩ = some (.string h)) (h1 : w.cell? ⟨p, 1, none⟩ = some (.int .i64 a)) (km : Nat) (hm : name_May.f km h = some true) (ha : cuts_addr.f a = some false) : Calls Try.prog 28 #[.slice (some ⟨p, 0, none⟩) 1 c] w fun e w' => e = .returned (.tuple #[.pointer none, .int .i64 1500]) ∧ Below w.heap.size w w' := by
  have hmm := @run_makeMap Try.prog
  have B : ∀ W, Below w.heap.size w ((w.alloc (.map #[] 0)).alloc W) := fun W => below_alloc (below_alloc (Below.refl w.heap.size w) (.map #[] 0)) W
  have Z : ∀ W, ((w.alloc (.map #[] 0)).alloc W).heap[w.heap.size + 1]? = some W := fun W => by rw [← size_alloc' w (.map #[] 0)]; exact blk_new _ _
  have h0' : ∀ o o', ((w.alloc o).alloc o').cell? ⟨p, 0, none⟩ = some (.string h) := fun o o' => alloc_cell (alloc_cell h0 o) o'
  have h1' : ∀ o o', ((w.alloc o).alloc o').cell? ⟨p, 1, none⟩ = some (.int .i64 a) := fun o o' => alloc_cell (alloc_cell h1 o) o'
  have i0 : ((0 : Int) < 1) = True := eq_true (by omega)
  go_enter Try.func28, Try.ntmps28
  go_wp2_with fail
  have B' := Aside0.mk (B (Obj.cells #[Value.slice none 0 0, Value.slice none 0 0, Value.int IntKind.i64 0, Value.string { data := #[] }, Value.map (some w.heap.size)] 81))
  have Z' := Aside0.mk (Z (Obj.cells #[Value.slice none 0 0, Value.slice none 0 0, Value.int IntKind.i64 0, Value.string { data := #[] }, Value.map (some w.heap.size)] 81))
  have H0 := h0' (Obj.map #[] 0) (Obj.cells #[Value.slice none 0 0, Value.slice none 0 0, Value.int IntKind.i64 0, Value.string { data := #[] }, Value.map (some w.heap.size)] 81)
  have H1 := h1' (Obj.map #[] 0) (Obj.cells #[Value.slice none 0 0, Value.slice none 0 0, Value.int IntKind.i64 0, Value.string { data := #[] }, Value.map (some w.heap.size)] 81)
  clear h0' h1' B h0 h1 Z
  generalize (((w.alloc (Obj.map #[] 0)).alloc (Obj.cells #[Value.slice none 0 0, Value.slice none 0 0, Value.int IntKind.i64 0, Value.string { data := #[] }, Value.map (some w.heap.size)] 81))) = W at *
  refine wp_loop_rounds 1 ?_
  rw [rounds_succ]
  go_wp2_with fail
  refine (name_May.calls km h true _ hm).mono ?_
  rintro e w1 ⟨rfl, hb1⟩
  have B1 : Aside0 (Below w.heap.size w w1) := ⟨below_then (below_alloc B'.out _) (below_alloc B'.out _).size hb1⟩
  have D1 : Aside0 (w1.heap[W.heap.size]? = some (.cells #[.string h, .int .i64 a] 43 (0, 0))) := ⟨blk_below (blk_new W _) hb1⟩
  have Z1 : Aside0 (w1.heap[w.heap.size + 1]? = some (Obj.cells #[Value.slice none 0 0, Value.slice none 0 0, Value.int IntKind.i64 0, Value.string { data := #[] }, Value.map (some w.heap.size)] 81)) := ⟨blk_below (blk_alloc Z'.out _) hb1⟩
  have E0 : w1.cell? ⟨W.heap.size, 0, none⟩ = some (.string h) := (blk_cell D1.out 0).trans rfl
  have E1 : w1.cell? ⟨W.heap.size, 1, none⟩ = some (.int .i64 a) := (blk_cell D1.out 1).trans rfl
  clear hb1
  simp only
  go_wp2_with fail
  refine (cuts_addr.calls a false _ ha).mono ?_
  rintro e w2 ⟨rfl, ⟨nd, rfl⟩⟩
  have B2 := Aside0.mk (pw_below_drewN B1.out nd)
  simp only
  go_wp2_with fail
  go_ret2
  exact ⟨rfl, B2.out⟩
set_option maxHeartbeats 4000000 in
set_option maxRecDepth 100000 in
theorem cuts_good (w : World) (p c : Nat) (h : ByteArray) (a : Int) (h0 : w.cell? ⟨p, 0, none⟩ = some (.string h)) (h1 : w.cell? ⟨p, 1, none⟩ = some (.int .i64 a)) (km : Nat) (hm : name_May.f km h = some true) (ha : cuts_addr.f a = some true) (kf : Nat) (x : ByteArray) (hx : rel_Fold.f kf h = some x) : Calls Try.prog 28 #[.slice (some ⟨p, 0, none⟩) 1 c] w fun e w' => (∃ g, e = .returned (.tuple #[.pointer (some g), .int .i64 0])) ∧ Below w.heap.size w w' := by
  have hmm := @run_makeMap Try.prog
  have B : ∀ W, Below w.heap.size w ((w.alloc (.map #[] 0)).alloc W) := fun W => below_alloc (below_alloc (Below.refl w.heap.size w) (.map #[] 0)) W
  have Z : ∀ W, ((w.alloc (.map #[] 0)).alloc W).heap[w.heap.size + 1]? = some W := fun W => by rw [← size_alloc' w (.map #[] 0)]; exact blk_new _ _
  have h0' : ∀ o o', ((w.alloc o).alloc o').cell? ⟨p, 0, none⟩ = some (.string h) := fun o o' => alloc_cell (alloc_cell h0 o) o'
  have h1' : ∀ o o', ((w.alloc o).alloc o').cell? ⟨p, 1, none⟩ = some (.int .i64 a) := fun o o' => alloc_cell (alloc_cell h1 o) o'
  have i0 : ((0 : Int) < 1) = True := eq_true (by omega)
  go_enter Try.func28, Try.ntmps28
  go_wp2_with fail
  have B' := Aside0.mk (B (Obj.cells #[Value.slice none 0 0, Value.slice none 0 0, Value.int IntKind.i64 0, Value.string { data := #[] }, Value.map (some w.heap.size)] 81))
  have Z' := Aside0.mk (Z (Obj.cells #[Value.slice none 0 0, Value.slice none 0 0, Value.int IntKind.i64 0, Value.string { data := #[] }, Value.map (some w.heap.size)] 81))
  have H0 := h0' (Obj.map #[] 0) (Obj.cells #[Value.slice none 0 0, Value.slice none 0 0, Value.int IntKind.i64 0, Value.string { data := #[] }, Value.map (some w.heap.size)] 81)
  have H1 := h1' (Obj.map #[] 0) (Obj.cells #[Value.slice none 0 0, Value.slice none 0 0, Value.int IntKind.i64 0, Value.string { data := #[] }, Value.map (some w.heap.size)] 81)
  clear h0' h1' B h0 h1 Z
  generalize (((w.alloc (Obj.map #[] 0)).alloc (Obj.cells #[Value.slice none 0 0, Value.slice none 0 0, Value.int IntKind.i64 0, Value.string { data := #[] }, Value.map (some w.heap.size)] 81))) = W at *
  refine wp_loop_rounds 2 ?_
  rw [rounds_succ]
  go_wp2_with fail
  refine (name_May.calls km h true _ hm).mono ?_
  rintro e w1 ⟨rfl, hb1⟩
  have B1 : Aside0 (Below w.heap.size w w1) := ⟨below_then (below_alloc B'.out _) (below_alloc B'.out _).size hb1⟩
  have D1 : Aside0 (w1.heap[W.heap.size]? = some (.cells #[.string h, .int .i64 a] 43 (0, 0))) := ⟨blk_below (blk_new W _) hb1⟩
  have Z1 : Aside0 (w1.heap[w.heap.size + 1]? = some (Obj.cells #[Value.slice none 0 0, Value.slice none 0 0, Value.int IntKind.i64 0, Value.string { data := #[] }, Value.map (some w.heap.size)] 81)) := ⟨blk_below (blk_alloc Z'.out _) hb1⟩
  have E0 : w1.cell? ⟨W.heap.size, 0, none⟩ = some (.string h) := (blk_cell D1.out 0).trans rfl
  have E1 : w1.cell? ⟨W.heap.size, 1, none⟩ = some (.int .i64 a) := (blk_cell D1.out 1).trans rfl
  clear hb1
  simp only
  go_wp2_with fail
  refine (cuts_addr.calls a true _ ha).mono ?_
  rintro e w2 ⟨rfl, ⟨nd, rfl⟩⟩
  simp only
  go_wp2_with fail
  refine (rel_Fold.calls kf h x _ hx).mono ?_
  rintro e w2 ⟨rfl, hb2⟩
  have B2 : Aside0 (Below w.heap.size w w2) := ⟨below_then (pw_below_drewN B1.out nd) (pw_below_drewN B1.out nd).size hb2⟩
  have D2 : Aside0 (w2.heap[W.heap.size]? = some (.cells #[.string h, .int .i64 a] 43 (0, 0))) := ⟨blk_below (blk_drewN D1.out _) hb2⟩
  have Z2 := Aside0.mk (blk_below (blk_drewN Z1.out nd) hb2)
  clear hb2 E0 E1 Z1 D1 H0 H1
  have E0 : w2.cell? ⟨w.heap.size + 1, 0, none⟩ = some (.slice none 0 0) := (blk_cell Z2.out 0).trans rfl
  have E1 : w2.cell? ⟨w.heap.size + 1, 1, none⟩ = some (.slice none 0 0) := (blk_cell Z2.out 1).trans rfl
  have E2 : w2.cell? ⟨W.heap.size, 1, none⟩ = some (.int .i64 a) := (blk_cell D2.out 1).trans rfl
  have F0 := blk_frozen Z2.out 0
  have F1 := blk_frozen Z2.out 1
  simp only
  go_wp2_with fail
  refine (slices_Contains_string_string.calls 1 none 0 [] x false _ (Kd.C_nil _ _) (by simp) rfl).mono ?_
  rintro e w3 ⟨rfl, ⟨nd3, rfl⟩⟩
  simp only
  have Z3 := Aside0.mk (blk_drewN Z2.out nd3)
  have D3 := Aside0.mk (blk_drewN D2.out nd3)
  have B3 := Aside0.mk (pw_below_drewN B2.out nd3)
  obtain ⟨v0, hv0⟩ : ∃ v : Value, v = .slice none 0 0 := ⟨_, rfl⟩
  have O3 : Aside0 (Kd.R Kd.string 9 (w2.drewN nd3) w.heap.size (fun _ => True) v0 []) := ⟨by rw [hv0]; exact Kd.R_nil _ _ _ _ _⟩
  have N3 : Aside0 (v0.ownBlock = none) := ⟨by rw [hv0]; rfl⟩
  have E0' : (w2.drewN nd3).cell? ⟨w.heap.size + 1, 0, none⟩ = some v0 := by rw [hv0]; exact (blk_cell Z3.out 0).trans rfl
  have E0'' : ∀ o, ((w2.drewN nd3).alloc o).cell? ⟨w.heap.size + 1, 0, none⟩ = some v0 := fun o => alloc_cell E0' o
  clear E0 E1 E2 F0 F1 Z2 D2 B2 hv0
  generalize w2.drewN nd3 = w3 at *
  go_wp2_with ((with_reducible refine gate_builtin (b := .append) (xs := #[.tmp 51, .tmp 53]) rfl ?_); at_builtin; refine Kd.R_append Kd.string (w0 := w3) w.heap.size rfl (.tmp 51) (.tmp 53) 45 9 (.string ⟨#[]⟩) 16 rfl Try.underlying45 info9 rfl (by decide) (by omega) v0 [] x [.string x] (fun _ => True) (fun _ => False) rfl rfl rfl (fun _ hk => hk.elim) (fun _ _ => trivial) O3.out (Below.refl _ _) B3.out.size (by simp) ?_; intro v1 w5 ho hb hg hat; obtain ⟨A1, c5, e5⟩ := Kd.R_slice ho; rw [show (([] : List ByteArray) ++ [x]).length = 1 from rfl] at e5; subst e5; have Z5 := Aside0.mk (blk_grown Z3.out hg (by rw [N3.out]; simp)); have D5 := Aside0.mk (blk_grown D3.out hg (by rw [N3.out]; simp)); have B5 := Aside0.mk (B3.out.trans hb); clear ho hb hg hat; have E0 : w5.cell? ⟨w.heap.size + 1, 0, none⟩ = some (.slice none 0 0) := (blk_cell Z5.out 0).trans rfl; have F0 := blk_frozen Z5.out 0)
  have Z6 := Aside0.mk (blk_put Z5.out 0 (.slice A1 1 c5) rfl)
  have D6 : Aside0 ((w5.setCell ⟨w.heap.size + 1, 0, none⟩ (.slice A1 1 c5)).heap[W.heap.size]? = some (.cells #[.string h, .int .i64 a] 43 (0, 0))) := ⟨blk_far D5.out (fun e => by have := blk_lt Z'.out; simp at e; omega) _⟩
  have B6 : Aside0 (Below w.heap.size w (w5.setCell ⟨w.heap.size + 1, 0, none⟩ (.slice A1 1 c5))) := ⟨B5.out.setCell (p := ⟨w.heap.size + 1, 0, none⟩) (Nat.le_succ _) _⟩
  generalize w5.setCell ⟨w.heap.size + 1, 0, none⟩ (.slice A1 1 c5) = w6 at *
  clear Z5 D5 B5 E0 F0 E0' E0'' O3 N3 Z3 D3 B3
  obtain ⟨v0, hv0⟩ : ∃ v : Value, v = .slice none 0 0 := ⟨_, rfl⟩
  have O3 : Aside0 (Kd.R k85 85 w6 w.heap.size (fun _ => True) v0 []) := ⟨by rw [hv0]; exact Kd.R_nil _ _ _ _ _⟩
  have N3 : Aside0 (v0.ownBlock = none) := ⟨by rw [hv0]; rfl⟩
  have E0 : w6.cell? ⟨w.heap.size + 1, 1, none⟩ = some v0 := by rw [hv0]; exact (blk_cell Z6.out 1).trans rfl
  have E1 : ∀ o, (w6.alloc o).cell? ⟨w.heap.size + 1, 1, none⟩ = some v0 := fun o => alloc_cell E0 o
  have E2 : w6.cell? ⟨W.heap.size, 1, none⟩ = some (.int .i64 a) := (blk_cell D6.out 1).trans rfl
  have E3 : ∀ o, (w6.alloc o).cell? ⟨W.heap.size, 1, none⟩ = some (.int .i64 a) := fun o => alloc_cell E2 o
  clear hv0
  go_region_law
    ((refine step_R_append_drew k85 (W := w6) w.heap.size (by rfl) (.tmp 63) (.tmp 68) 77 85 (.agg #[.string ⟨#[]⟩, .string ⟨#[]⟩, .int .i64 0, .string ⟨#[]⟩, .int .i64 0]) 64 (by rfl) Try.underlying77 info85 rfl (by decide) (by omega) v0 [] (⟨#[0]⟩, x, a, ⟨#[0]⟩, 0) [.string ⟨#[0]⟩, .string x, .int .i64 a, .string ⟨#[0]⟩, .int .i64 0] (fun _ => True) (fun _ => False) (by rfl) (by rfl) (k85_mkM _ _ _ _ _ _ _ _) (fun _ hk => hk.elim) (fun _ _ => trivial) O3.out B6.out.size (by simp) ?_; intro v1 w7 ho hb hg hat; obtain ⟨A2, c6, e6⟩ := Kd.R_slice ho; have e7 : v1 = .slice A2 1 c6 := e6; clear e6; subst e7; have Z7 := Aside0.mk (blk_grown Z6.out hg (by rw [N3.out]; simp)); have D7 := Aside0.mk (blk_grown D6.out hg (by rw [N3.out]; simp)); have B7 := Aside0.mk (B6.out.trans hb); clear ho hb hg hat; have G0 : w7.cell? ⟨w.heap.size + 1, 1, none⟩ = some (.slice none 0 0) := (blk_cell Z7.out 1).trans rfl; have G1 := blk_frozen Z7.out 1; have G2 : w7.cell? ⟨W.heap.size, 1, none⟩ = some (.int .i64 a) := (blk_cell D7.out 1).trans rfl))
  all_goals
    have B8 : Aside0 (Below w.heap.size w (w7.setCell ⟨w.heap.size + 1, 1, none⟩ (.slice A2 1 c6))) := ⟨B7.out.setCell (p := ⟨w.heap.size + 1, 1, none⟩) (Nat.le_succ _) _⟩
    clear G0 G1 G2 Z7 D7 B7 E0 E1 E2 E3
    generalize w7.setCell ⟨w.heap.size + 1, 1, none⟩ (.slice A2 1 c6) = w8 at *
    have i1 : ((0 : Int) + 1 < 1) = False := eq_false (by omega)
    go_wp2_with fail
    rw [rounds_succ]
    go_wp2_with fail
    go_ret2
    exact ⟨⟨_, rfl⟩, B8.out⟩
end Go.Proofs.Ytkmdjcdmgmffiaa.M
