/- What job.New answers for configs of which one part may not be. -/
import Derived.Test.YtkmdjcdmgmffiaaHJob10
import Derived.Test.YtkmdjcdmgmffiaaPx7
set_option linter.unusedVariables false
set_option linter.unusedSimpArgs false
namespace Go.Proofs.Ytkmdjcdmgmffiaa.M
open Go Go.RowKit Go.ChangeMaps Go.Proofs.YtkmdjcdmgmffiaaW.PrintWords Go.Proofs.YtkmdjcdmgmffiaaW.PrintLast Go.Proofs.YtkmdjcdmgmffiaaW.PrintMore Go.Proofs.Ytkmdjcdmgmffiaa.P

theorem umod0 (d : Int) (k : Nat) (hk : 1 ≤ k ∧ k ≤ 100) : 0 ≤ (IntKind.u64.wrap d).tmod k ∧ (IntKind.u64.wrap d).tmod k ≤ ((k - 1 : Nat) : Int) := by
  have hu : 0 ≤ IntKind.u64.wrap d := by
    simp only [IntKind.wrap, IntKind.bits, IntKind.signed, Bool.false_and, Bool.false_eq_true, if_false]
    omega
  have h1 : (IntKind.u64.wrap d).tmod k = (IntKind.u64.wrap d) % k := Int.tmod_eq_emod_of_nonneg hu
  have h2 : 0 ≤ (IntKind.u64.wrap d) % (k : Int) := Int.emod_nonneg _ (by omega)
  have h3 : (IntKind.u64.wrap d) % (k : Int) < k := Int.emod_lt_of_pos _ (by omega)
  rw [h1]
  omega
/-- job.New of a config of which one number may not be. -/
theorem new_no {W0 : World} {base : Nat} {ok : Nat → Prop} {A0 A10 : Option Addr} {c0 c10 : Nat} (R43 : Kd.R k43 43 W0 base ok (.slice A0 1 c0) [⟨⟨#[1, 114, 0]⟩, 1⟩]) (R10 : Kd.R (Kd.int .i64) 3 W0 base ok (.slice A10 3 c10) [1, 2, 3]) (W : World) (hb : Below W0.heap.size W0 W) (x1 x2 x3 x4 x5 x6 x7 x8 x9 : Int) (hbad : ¬ ((1 ≤ x1 ∧ x1 ≤ 256) ∧ (1 ≤ x2 ∧ x2 ≤ 16) ∧ (1 ≤ x3 ∧ x3 ≤ 64) ∧ (0 ≤ x4 ∧ x4 ≤ 4) ∧ (0 ≤ x5 ∧ x5 ≤ 8) ∧ (1 ≤ x6 ∧ x6 ≤ 1000) ∧ (1 ≤ x7 ∧ x7 ≤ 8) ∧ (0 ≤ x8 ∧ x8 ≤ 16) ∧ (0 ≤ x9 ∧ x9 ≤ 16))) :
    Calls Try.prog 9 #[cfg (.slice A0 1 c0) x1 x2 x3 x4 x5 x6 x7 x8 x9 (.slice A10 3 c10), .int .i64 1, .string ⟨#[0]⟩, .int .i64 1] W fun e w' => e = .returned (.tuple #[.pointer none, .int .i64 2300]) ∧ Below W.heap.size W w' := by
  obtain ⟨A, c, B, d, e1, e2, hM⟩ := may_one ⟨#[1, 114, 0]⟩ 1 R43 R10 x1 x2 x3 x4 x5 x6 x7 x8 x9 _ _ _ _ _ _ _ _ _ true rfl (in_eq _ _ _ _ rfl) (in_eq _ _ _ _ rfl) (in_eq _ _ _ _ rfl) (in_eq _ _ _ _ rfl) (in_eq _ _ _ _ rfl) (in_eq _ _ _ _ rfl) (in_eq _ _ _ _ rfl) (in_eq _ _ _ _ rfl) (in_eq _ _ _ _ rfl) true true may_r rfl _ fold_r
  cases e1
  cases e2
  exact New_bad W A0 A10 1 c0 3 c10 x1 x2 x3 x4 x5 x6 x7 x8 x9 1 1 0 ⟨#[0]⟩ _ _ _ _ _ _ _ _ 40 _ task_0 (fun W' h' => hM W' (below_then hb hb.size h')) (Or.inl (by
    simp only [Bool.true_and, Bool.and_true, Bool.and_eq_false_iff, decide_eq_false_iff_not]
    omega))
theorem cell_set_other (w : World) (q i j : Nat) (hij : j ≠ i) (u v : Value) (h : w.cell? ⟨q, i, none⟩ = some v) : (w.setCell ⟨q, j, none⟩ u).cell? ⟨q, i, none⟩ = some v := by
  first
    | (go_simp; done)
    | (rw [World.cell?_setCell_ne _ _ _ _ (by simp [hij])]; exact h)
    | (simp [hij, h]; done)
theorem cell_set_same (w : World) (q i : Nat) (u v : Value) (h : w.cell? ⟨q, i, none⟩ = some v) : (w.setCell ⟨q, i, none⟩ u).cell? ⟨q, i, none⟩ = some u := by
  first
    | (go_simp; done)
    | (simp [h]; done)
/-- job.New of a config whose hint may not be. -/
theorem new_hint (W : World) (q c : Nat) (A10 : Option Addr) (c10 : Nat) (h : ByteArray) (a : Int) (e0 : W.cell? ⟨q, 0, none⟩ = some (.string h)) (e1 : W.cell? ⟨q, 1, none⟩ = some (.int .i64 a)) (hbad : name_May.f 40 h = some false ∨ (name_May.f 40 h = some true ∧ cuts_addr.f a = some false)) :
    Calls Try.prog 9 #[cfg (.slice (some ⟨q, 0, none⟩) 1 c) 20 4 20 2 3 5 2 10 4 (.slice A10 3 c10), .int .i64 1, .string ⟨#[0]⟩, .int .i64 1] W fun e w' => e = .returned (.tuple #[.pointer none, .int .i64 2300]) ∧ Below W.heap.size W w' := by
  refine New_bad W _ A10 1 c 3 c10 20 4 20 2 3 5 2 10 4 1 1 0 ⟨#[0]⟩ _ _ _ _ _ _ _ _ 40 false task_0 (fun W' hb => ?_) (Or.inl rfl)
  have hcut : ∀ o, Calls Try.prog 28 #[.slice (some ⟨q, 0, none⟩) 1 c] (W'.alloc o) fun e w' => (∃ u, e = .returned (.tuple #[.pointer u, .int .i64 1500])) ∧ Below (W'.alloc o).heap.size (W'.alloc o) w' := by
    intro o
    have d0 := alloc_cell (pw_cell_below hb e0) o
    have d1 := alloc_cell (pw_cell_below hb e1) o
    rcases hbad with hm | ⟨hm, ha⟩
    · exact (cuts_bad1 _ q c h a d0 d1 40 hm).mono (fun e w' hw => ⟨⟨_, hw.1⟩, hw.2⟩)
    · exact (cuts_bad2 _ q c h a d0 d1 40 hm ha).mono (fun e w' hw => ⟨⟨_, hw.1⟩, hw.2⟩)
  refine (May_calls W' _ 1 c A10 3 c10 20 4 20 2 3 5 2 10 4 1500 false _ _ _ _ _ _ _ _ _ _ hcut rfl rfl (in_eq _ _ _ _ rfl) (in_eq _ _ _ _ rfl) (in_eq _ _ _ _ rfl) (in_eq _ _ _ _ rfl) (in_eq _ _ _ _ rfl) (in_eq _ _ _ _ rfl) (in_eq _ _ _ _ rfl) (in_eq _ _ _ _ rfl) (in_eq _ _ _ _ rfl)).mono (fun e w' hw => ⟨?_, hw.2⟩)
  simpa using hw.1
theorem may_a : name_May.f 40 ⟨#[97]⟩ = some false := by kernel_rfl
theorem task_big (t : Int) (h : 65535 < t) : task_New.f 40 ⟨#[0]⟩ t ⟨#[0]⟩ = some (⟨#[]⟩, 0, ⟨#[]⟩, ⟨#[]⟩, 0, false, 0, 0, 2200) := by
  have e1 : name_May.f 40 ⟨#[0]⟩ = some true := by kernel_rfl
  have e2 : rel_Above.f 40 ⟨#[0]⟩ ⟨#[0]⟩ = some true := by kernel_rfl
  unfold task_New.f
  rw [e1, e2]
  simp only [Option.bind_some, if_true, if_neg (show ¬ t < 1 by omega), decide_eq_true (show t > 65535 from h)]
  rfl
theorem task_e : task_New.f 40 ⟨#[]⟩ 1 ⟨#[0]⟩ = some (⟨#[]⟩, 0, ⟨#[]⟩, ⟨#[]⟩, 0, false, 0, 0, 2200) := by kernel_rfl
theorem ne26 : ∀ q, q ∈ 43 :: k43.E → q ≠ 26 := by
  intro q hq
  rw [show k43.E = [] from rfl] at hq
  simp at hq
  omega
/-- job.New of a config with more numbers than may be. -/
theorem new_ids {W0 : World} {base : Nat} {ok : Nat → Prop} {A0 : Option Addr} {c0 : Nat} (R43 : Kd.R k43 43 W0 base ok (.slice A0 1 c0) [⟨⟨#[1, 114, 0]⟩, 1⟩]) (A1 : Option Addr) (L c5 : Nat) (hL : 1024 < L) :
    Calls Try.prog 9 #[cfg (.slice A0 1 c0) 20 4 20 2 3 5 2 10 4 (.slice A1 L c5), .int .i64 1, .string ⟨#[0]⟩, .int .i64 1] W0 fun e w' => e = .returned (.tuple #[.pointer none, .int .i64 2300]) ∧ Below W0.heap.size W0 w' := by
  obtain ⟨q, c, e, hc⟩ := hint_cells R43
  cases e
  refine New_bad W0 _ A1 1 c0 L c5 20 4 20 2 3 5 2 10 4 1 1 0 ⟨#[0]⟩ _ _ _ _ _ _ _ _ 40 false task_0 (fun W hb => ?_) (Or.inl rfl)
  have hcut : ∀ o, Calls Try.prog 28 #[.slice (some ⟨q, 0, none⟩) 1 c0] (W.alloc o) fun e w' => (∃ u, e = .returned (.tuple #[.pointer u, .int .i64 0])) ∧ Below (W.alloc o).heap.size (W.alloc o) w' := by
    intro o
    obtain ⟨d0, d1⟩ := hc (W.alloc o) (below_then hb hb.size (below_alloc (Below.refl _ _) o))
    refine (cuts_good _ q c0 ⟨#[1, 114, 0]⟩ 1 d0 d1 40 may_r rfl 40 ⟨#[1, 114, 0]⟩ fold_r).mono (fun e w' hw => ⟨?_, hw.2⟩)
    obtain ⟨g, hg⟩ := hw.1
    exact ⟨_, hg⟩
  refine (May_calls W _ 1 c0 A1 L c5 20 4 20 2 3 5 2 10 4 0 true _ _ _ _ _ _ _ _ _ false hcut rfl (decide_eq_false (by omega)) (in_eq _ _ _ _ rfl) (in_eq _ _ _ _ rfl) (in_eq _ _ _ _ rfl) (in_eq _ _ _ _ rfl) (in_eq _ _ _ _ rfl) (in_eq _ _ _ _ rfl) (in_eq _ _ _ _ rfl) (in_eq _ _ _ _ rfl) (in_eq _ _ _ _ rfl)).mono (fun e w' hw => ⟨?_, hw.2⟩)
  simpa using hw.1
end Go.Proofs.Ytkmdjcdmgmffiaa.M
