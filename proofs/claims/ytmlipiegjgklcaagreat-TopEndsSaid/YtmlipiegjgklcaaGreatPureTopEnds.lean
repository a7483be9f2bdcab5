/- TopEnds: its runs, put together. -/
import Derived.Test.YtmlipiegjgklcaaGreatXj
import Derived.Test.YtmlipiegjgklcaaGreatEb
import Derived.Test.YtmlipiegjgklcaaGreatEc
import Derived.Test.YtmlipiegjgklcaaGreatEd
import Derived.Test.YtmlipiegjgklcaaGreatEe
/- TopEnds: its runs, put together. -/
noncomputable section
set_option linter.unusedVariables false
namespace Go.Ax.Top
open Go.RowKit
section
variable {ρ : Nat → Int} {rng : Rng}

theorem tree5_ok (hr : Ranges ρ rngC) : OkT ρ rng tree5 := OkT.list (tree4_ok hr) ⟨transG_ok mixed fo40 (List.forall_mem_cons.2 ⟨step_of hr (tree4_ok hr) k_eMayT, List.forall_mem_cons.2 ⟨step_of hr (tree4_ok hr) k_eMayC, (fun _ h => by cases h)⟩⟩), trivial⟩
theorem eM_ok (hr : Ranges ρ rngC) : Tr P ρ 10 eM := step_of hr (tree5_ok hr) k_eM
theorem treeR0_ok (hr : Ranges ρ rngC) : OkT ρ rng treeR0 := OkT.list (tree5_ok hr) ⟨transG_ok mixed fo10 (List.forall_mem_cons.2 ⟨eM_ok hr, (fun _ h => by cases h)⟩), transG_ok mixed fo11 (List.forall_mem_cons.2 ⟨step_of hr (tree5_ok hr) k_e0, List.forall_mem_cons.2 ⟨step_of hr (tree5_ok hr) k_e1, List.forall_mem_cons.2 ⟨step_of hr (tree5_ok hr) k_e2, List.forall_mem_cons.2 ⟨step_of hr (tree5_ok hr) k_e3, List.forall_mem_cons.2 ⟨step_of hr (tree5_ok hr) k_e4, List.forall_mem_cons.2 ⟨step_of hr (tree5_ok hr) k_e5, List.forall_mem_cons.2 ⟨step_of hr (tree5_ok hr) k_e6, List.forall_mem_cons.2 ⟨step_of hr (tree5_ok hr) k_e7, List.forall_mem_cons.2 ⟨step_of hr (tree5_ok hr) k_e8, (fun _ h => by cases h)⟩⟩⟩⟩⟩⟩⟩⟩⟩), trivial⟩
theorem treeR1_ok (hr : Ranges ρ rngC) : OkT ρ rng treeR1 := OkT.list (tree5_ok hr) ⟨transG_ok mixed fo10 (List.forall_mem_cons.2 ⟨eM_ok hr, (fun _ h => by cases h)⟩), transG_ok mixed fo11 (List.forall_mem_cons.2 ⟨step_of hr (tree5_ok hr) k_e9, List.forall_mem_cons.2 ⟨step_of hr (tree5_ok hr) k_e10, List.forall_mem_cons.2 ⟨step_of hr (tree5_ok hr) k_e11, List.forall_mem_cons.2 ⟨step_of hr (tree5_ok hr) k_e12, List.forall_mem_cons.2 ⟨step_of hr (tree5_ok hr) k_e13, List.forall_mem_cons.2 ⟨step_of hr (tree5_ok hr) k_e14, List.forall_mem_cons.2 ⟨step_of hr (tree5_ok hr) k_e15, List.forall_mem_cons.2 ⟨step_of hr (tree5_ok hr) k_e16, List.forall_mem_cons.2 ⟨step_of hr (tree5_ok hr) k_e17, List.forall_mem_cons.2 ⟨step_of hr (tree5_ok hr) k_e18, List.forall_mem_cons.2 ⟨step_of hr (tree5_ok hr) k_e19, (fun _ h => by cases h)⟩⟩⟩⟩⟩⟩⟩⟩⟩⟩⟩), trivial⟩
theorem treeR2_ok (hr : Ranges ρ rngC) : OkT ρ rng treeR2 := OkT.list (tree5_ok hr) ⟨transG_ok mixed fo10 (List.forall_mem_cons.2 ⟨eM_ok hr, (fun _ h => by cases h)⟩), transG_ok mixed fo11 (List.forall_mem_cons.2 ⟨step_of hr (tree5_ok hr) k_e20, List.forall_mem_cons.2 ⟨step_of hr (tree5_ok hr) k_e21, List.forall_mem_cons.2 ⟨step_of hr (tree5_ok hr) k_e22, List.forall_mem_cons.2 ⟨step_of hr (tree5_ok hr) k_e23, List.forall_mem_cons.2 ⟨step_of hr (tree5_ok hr) k_e24, List.forall_mem_cons.2 ⟨step_of hr (tree5_ok hr) k_e25, List.forall_mem_cons.2 ⟨step_of hr (tree5_ok hr) k_e26, List.forall_mem_cons.2 ⟨step_of hr (tree5_ok hr) k_e27, List.forall_mem_cons.2 ⟨step_of hr (tree5_ok hr) k_e28, (fun _ h => by cases h)⟩⟩⟩⟩⟩⟩⟩⟩⟩), trivial⟩
theorem treeR3_ok (hr : Ranges ρ rngC) : OkT ρ rng treeR3 := OkT.list (tree5_ok hr) ⟨transG_ok mixed fo10 (List.forall_mem_cons.2 ⟨eM_ok hr, (fun _ h => by cases h)⟩), transG_ok mixed fo11 (List.forall_mem_cons.2 ⟨step_of hr (tree5_ok hr) k_e29, List.forall_mem_cons.2 ⟨step_of hr (tree5_ok hr) k_e30, List.forall_mem_cons.2 ⟨step_of hr (tree5_ok hr) k_e31, List.forall_mem_cons.2 ⟨step_of hr (tree5_ok hr) k_e32, List.forall_mem_cons.2 ⟨step_of hr (tree5_ok hr) k_e33, List.forall_mem_cons.2 ⟨step_of hr (tree5_ok hr) k_e34, List.forall_mem_cons.2 ⟨step_of hr (tree5_ok hr) k_e35, (fun _ h => by cases h)⟩⟩⟩⟩⟩⟩⟩), trivial⟩
end
theorem rngR_ok {ρ : Nat → Int} (hr : Ranges ρ rngC) {i : Int} (h0 : ρ 0 % 4 = i) : Ranges ρ (rngR i) := by
  intro e
  unfold rngR
  split
  · simp only [SE.val, show Int.ofNat 0 = (0 : Int) from rfl]; omega
  · exact hr e
theorem TopEnds_calls (w : World) (a b : Int) (wa : (Lit.int .i64 a).wf = true) (wb : (Lit.int .i64 b).wf = true) : Calls P 8 #[.int .i64 a, .int .i64 b] w fun e w' => e = .returned (.bool true) ∧ Below w.heap.size w w' := by
  have ha := wf_i64 wa
  have hb := wf_i64 wb
  let ρ : Nat → Int := fun n => if n = 0 then a else b
  have hr : Ranges ρ rngC := r64_ok fun i => by
    show -9223372036854775808 ≤ (if i = 0 then a else b) ∧ (if i = 0 then a else b) ≤ 9223372036854775807
    split <;> omega
  have hv : VL ρ (fun _ => none) [symR 0, symR 1] (#[Value.int .i64 a, Value.int .i64 b] : Array Value).toList := by
    simp only [VL]
    exact ⟨_, _, rfl, symR_V 0, _, _, rfl, symR_V 1, rfl⟩
  have h0 : ρ 0 % 4 = 0 ∨ ρ 0 % 4 = 1 ∨ ρ 0 % 4 = 2 ∨ ρ 0 % 4 = 3 := by omega
  rcases h0 with h0 | h0 | h0 | h0
  · exact law_of (rngR_ok hr h0) (treeR0_ok hr) l_0 w _ hv
  · exact law_of (rngR_ok hr h0) (treeR1_ok hr) l_1 w _ hv
  · exact law_of (rngR_ok hr h0) (treeR2_ok hr) l_2 w _ hv
  · exact law_of (rngR_ok hr h0) (treeR3_ok hr) l_3 w _ hv
end Go.Ax.Top
end
/- TopEnds answers true at every input. -/
noncomputable section
namespace Go.Proofs.YtmlipiegjgklcaaGreat.M
open Go.RowKit
theorem TopEnds_calls (w : World) (a b : Int) (wa : (Lit.int .i64 a).wf = true) (wb : (Lit.int .i64 b).wf = true) : Calls Tryz.prog 8 #[.int .i64 a, .int .i64 b] w fun e w' => e = .returned (.bool true) ∧ Below w.heap.size w w' :=
  Go.Ax.Top.TopEnds_calls w a b wa wb
end Go.Proofs.YtmlipiegjgklcaaGreat.M
end
