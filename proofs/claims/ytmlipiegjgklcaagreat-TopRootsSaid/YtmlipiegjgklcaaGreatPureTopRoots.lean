/- TopRoots: its runs, put together. -/
import Derived.Test.YtmlipiegjgklcaaGreatXj
import Derived.Test.YtmlipiegjgklcaaGreatRb
import Derived.Test.YtmlipiegjgklcaaGreatRc
import Derived.Test.YtmlipiegjgklcaaGreatRd
import Derived.Test.YtmlipiegjgklcaaGreatRe
import Derived.Test.YtmlipiegjgklcaaGreatRf
/- TopRoots: its runs, put together. -/
noncomputable section
set_option linter.unusedVariables false
namespace Go.Ax.Top
open Go.RowKit
section
variable {ρ : Nat → Int} {rng : Rng}

theorem tree5_ok (hr : Ranges ρ rngC) : OkT ρ rng tree5 := OkT.list (tree4_ok hr) ⟨transG_ok mixed fo40 (List.forall_mem_cons.2 ⟨step_of hr (tree4_ok hr) k_eMayT, List.forall_mem_cons.2 ⟨step_of hr (tree4_ok hr) k_eMayC, (fun _ h => by cases h)⟩⟩), trivial⟩
theorem eM_ok (hr : Ranges ρ rngC) : Tr P ρ 10 eM := step_of hr (tree5_ok hr) k_eM
theorem treeR00_ok (hr : Ranges ρ rngC) : OkT ρ rng treeR00 := OkT.list (tree5_ok hr) ⟨transG_ok mixed fo10 (List.forall_mem_cons.2 ⟨eM_ok hr, (fun _ h => by cases h)⟩), transG_ok mixed fo11 (List.forall_mem_cons.2 ⟨step_of hr (tree5_ok hr) k_e0, List.forall_mem_cons.2 ⟨step_of hr (tree5_ok hr) k_e1, List.forall_mem_cons.2 ⟨step_of hr (tree5_ok hr) k_e2, List.forall_mem_cons.2 ⟨step_of hr (tree5_ok hr) k_e3, List.forall_mem_cons.2 ⟨step_of hr (tree5_ok hr) k_e4, List.forall_mem_cons.2 ⟨step_of hr (tree5_ok hr) k_e5, List.forall_mem_cons.2 ⟨step_of hr (tree5_ok hr) k_e6, List.forall_mem_cons.2 ⟨step_of hr (tree5_ok hr) k_e7, (fun _ h => by cases h)⟩⟩⟩⟩⟩⟩⟩⟩), trivial⟩
theorem treeR01_ok (hr : Ranges ρ rngC) : OkT ρ rng treeR01 := OkT.list (tree5_ok hr) ⟨transG_ok mixed fo10 (List.forall_mem_cons.2 ⟨eM_ok hr, (fun _ h => by cases h)⟩), transG_ok mixed fo11 (List.forall_mem_cons.2 ⟨step_of hr (tree5_ok hr) k_e8, List.forall_mem_cons.2 ⟨step_of hr (tree5_ok hr) k_e9, List.forall_mem_cons.2 ⟨step_of hr (tree5_ok hr) k_e10, List.forall_mem_cons.2 ⟨step_of hr (tree5_ok hr) k_e11, List.forall_mem_cons.2 ⟨step_of hr (tree5_ok hr) k_e12, List.forall_mem_cons.2 ⟨step_of hr (tree5_ok hr) k_e13, List.forall_mem_cons.2 ⟨step_of hr (tree5_ok hr) k_e14, List.forall_mem_cons.2 ⟨step_of hr (tree5_ok hr) k_e15, (fun _ h => by cases h)⟩⟩⟩⟩⟩⟩⟩⟩), trivial⟩
theorem treeR10_ok (hr : Ranges ρ rngC) : OkT ρ rng treeR10 := OkT.list (tree5_ok hr) ⟨transG_ok mixed fo10 (List.forall_mem_cons.2 ⟨eM_ok hr, (fun _ h => by cases h)⟩), transG_ok mixed fo11 (List.forall_mem_cons.2 ⟨step_of hr (tree5_ok hr) k_e16, List.forall_mem_cons.2 ⟨step_of hr (tree5_ok hr) k_e17, List.forall_mem_cons.2 ⟨step_of hr (tree5_ok hr) k_e18, List.forall_mem_cons.2 ⟨step_of hr (tree5_ok hr) k_e19, List.forall_mem_cons.2 ⟨step_of hr (tree5_ok hr) k_e20, List.forall_mem_cons.2 ⟨step_of hr (tree5_ok hr) k_e21, List.forall_mem_cons.2 ⟨step_of hr (tree5_ok hr) k_e22, List.forall_mem_cons.2 ⟨step_of hr (tree5_ok hr) k_e23, (fun _ h => by cases h)⟩⟩⟩⟩⟩⟩⟩⟩), trivial⟩
theorem treeR11_ok (hr : Ranges ρ rngC) : OkT ρ rng treeR11 := OkT.list (tree5_ok hr) ⟨transG_ok mixed fo10 (List.forall_mem_cons.2 ⟨eM_ok hr, (fun _ h => by cases h)⟩), transG_ok mixed fo11 (List.forall_mem_cons.2 ⟨step_of hr (tree5_ok hr) k_e24, List.forall_mem_cons.2 ⟨step_of hr (tree5_ok hr) k_e25, List.forall_mem_cons.2 ⟨step_of hr (tree5_ok hr) k_e26, List.forall_mem_cons.2 ⟨step_of hr (tree5_ok hr) k_e27, List.forall_mem_cons.2 ⟨step_of hr (tree5_ok hr) k_e28, List.forall_mem_cons.2 ⟨step_of hr (tree5_ok hr) k_e29, List.forall_mem_cons.2 ⟨step_of hr (tree5_ok hr) k_e30, List.forall_mem_cons.2 ⟨step_of hr (tree5_ok hr) k_e31, (fun _ h => by cases h)⟩⟩⟩⟩⟩⟩⟩⟩), trivial⟩
theorem treeR20_ok (hr : Ranges ρ rngC) : OkT ρ rng treeR20 := OkT.list (tree5_ok hr) ⟨transG_ok mixed fo10 (List.forall_mem_cons.2 ⟨eM_ok hr, (fun _ h => by cases h)⟩), transG_ok mixed fo11 (List.forall_mem_cons.2 ⟨step_of hr (tree5_ok hr) k_e32, List.forall_mem_cons.2 ⟨step_of hr (tree5_ok hr) k_e33, List.forall_mem_cons.2 ⟨step_of hr (tree5_ok hr) k_e34, List.forall_mem_cons.2 ⟨step_of hr (tree5_ok hr) k_e35, (fun _ h => by cases h)⟩⟩⟩⟩), trivial⟩
theorem treeR21_ok (hr : Ranges ρ rngC) : OkT ρ rng treeR21 := OkT.list (tree5_ok hr) ⟨transG_ok mixed fo10 (List.forall_mem_cons.2 ⟨eM_ok hr, (fun _ h => by cases h)⟩), transG_ok mixed fo11 (List.forall_mem_cons.2 ⟨step_of hr (tree5_ok hr) k_e36, List.forall_mem_cons.2 ⟨step_of hr (tree5_ok hr) k_e37, List.forall_mem_cons.2 ⟨step_of hr (tree5_ok hr) k_e38, List.forall_mem_cons.2 ⟨step_of hr (tree5_ok hr) k_e39, (fun _ h => by cases h)⟩⟩⟩⟩), trivial⟩
theorem treeR30_ok (hr : Ranges ρ rngC) : OkT ρ rng treeR30 := OkT.list (tree5_ok hr) ⟨transG_ok mixed fo10 (List.forall_mem_cons.2 ⟨eM_ok hr, (fun _ h => by cases h)⟩), transG_ok mixed fo11 (List.forall_mem_cons.2 ⟨step_of hr (tree5_ok hr) k_e40, List.forall_mem_cons.2 ⟨step_of hr (tree5_ok hr) k_e41, List.forall_mem_cons.2 ⟨step_of hr (tree5_ok hr) k_e42, List.forall_mem_cons.2 ⟨step_of hr (tree5_ok hr) k_e43, List.forall_mem_cons.2 ⟨step_of hr (tree5_ok hr) k_e44, List.forall_mem_cons.2 ⟨step_of hr (tree5_ok hr) k_e45, (fun _ h => by cases h)⟩⟩⟩⟩⟩⟩), trivial⟩
theorem treeR31_ok (hr : Ranges ρ rngC) : OkT ρ rng treeR31 := OkT.list (tree5_ok hr) ⟨transG_ok mixed fo10 (List.forall_mem_cons.2 ⟨eM_ok hr, (fun _ h => by cases h)⟩), transG_ok mixed fo11 (List.forall_mem_cons.2 ⟨step_of hr (tree5_ok hr) k_e46, List.forall_mem_cons.2 ⟨step_of hr (tree5_ok hr) k_e47, List.forall_mem_cons.2 ⟨step_of hr (tree5_ok hr) k_e48, List.forall_mem_cons.2 ⟨step_of hr (tree5_ok hr) k_e49, List.forall_mem_cons.2 ⟨step_of hr (tree5_ok hr) k_e50, List.forall_mem_cons.2 ⟨step_of hr (tree5_ok hr) k_e51, (fun _ h => by cases h)⟩⟩⟩⟩⟩⟩), trivial⟩
end
theorem rngR_ok {ρ : Nat → Int} (hr : Ranges ρ rngC) {i j : Int} (h0 : ρ 0 % 4 = i) (h1 : ρ 1 % 2 = j) : Ranges ρ (rngR i j) := by
  intro e
  unfold rngR
  split
  · simp only [SE.val, show Int.ofNat 0 = (0 : Int) from rfl]; omega
  · simp only [SE.val, show Int.ofNat 0 = (0 : Int) from rfl]; omega
  · exact hr e
theorem TopRoots_calls (w : World) (a b : Int) (wa : (Lit.int .i64 a).wf = true) (wb : (Lit.int .i64 b).wf = true) : Calls P 4 #[.int .i64 a, .int .i64 b] w fun e w' => e = .returned (.bool true) ∧ Below w.heap.size w w' := by
  have ha := wf_i64 wa
  have hb := wf_i64 wb
  let ρ : Nat → Int := fun n => if n = 0 then a else b
  have hr : Ranges ρ rngC := r64_ok fun i => by
    show -9223372036854775808 ≤ (if i = 0 then a else b) ∧ (if i = 0 then a else b) ≤ 9223372036854775807
    split <;> omega
  have hv : VL ρ (fun _ => none) [symR 0, symR 1] (#[Value.int .i64 a, Value.int .i64 b] : Array Value).toList := by
    simp only [VL]
    exact ⟨_, _, rfl, symR_V 0, _, _, rfl, symR_V 1, rfl⟩
  have h0 : ρ 0 % 4 = 0 ∨ ρ 0 % 4 = 1 ∨ ρ 0 % 4 = 2 ∨ ρ 0 % 4 = 3 := by omega
  have h1 : ρ 1 % 2 = 0 ∨ ρ 1 % 2 = 1 := by omega
  rcases h0 with h0 | h0 | h0 | h0 <;> rcases h1 with h1 | h1
  · exact law_of (rngR_ok hr h0 h1) (treeR00_ok hr) l_00 w _ hv
  · exact law_of (rngR_ok hr h0 h1) (treeR01_ok hr) l_01 w _ hv
  · exact law_of (rngR_ok hr h0 h1) (treeR10_ok hr) l_10 w _ hv
  · exact law_of (rngR_ok hr h0 h1) (treeR11_ok hr) l_11 w _ hv
  · exact law_of (rngR_ok hr h0 h1) (treeR20_ok hr) l_20 w _ hv
  · exact law_of (rngR_ok hr h0 h1) (treeR21_ok hr) l_21 w _ hv
  · exact law_of (rngR_ok hr h0 h1) (treeR30_ok hr) l_30 w _ hv
  · exact law_of (rngR_ok hr h0 h1) (treeR31_ok hr) l_31 w _ hv
end Go.Ax.Top
end
/- TopRoots answers true at every input. -/
noncomputable section
namespace Go.Proofs.YtmlipiegjgklcaaGreat.M
open Go.RowKit
theorem TopRoots_calls (w : World) (a b : Int) (wa : (Lit.int .i64 a).wf = true) (wb : (Lit.int .i64 b).wf = true) : Calls Tryz.prog 4 #[.int .i64 a, .int .i64 b] w fun e w' => e = .returned (.bool true) ∧ Below w.heap.size w w' :=
  Go.Ax.Top.TopRoots_calls w a b wa wb
end Go.Proofs.YtmlipiegjgklcaaGreat.M
end
