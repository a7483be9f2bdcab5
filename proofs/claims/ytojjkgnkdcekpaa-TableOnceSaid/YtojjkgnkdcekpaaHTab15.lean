/- TableOnce, the lists alone: what is still asked, after some were taken. -/
import Derived.Test.YtojjkgnkdcekpaaHTab11
set_option linter.unusedVariables false
set_option linter.unusedSimpArgs false
namespace Go.Proofs.Ytojjkgnkdcekpaa.M
open Go Go.RowKit Go.ChangeMaps Go.Proofs.YtojjkgnkdcekpaaW.PrintWords Go.Proofs.YtojjkgnkdcekpaaW.PrintLast Go.Proofs.YtojjkgnkdcekpaaW.PrintMore Go.Proofs.Ytojjkgnkdcekpaa.P

/-- The questions 0 .. N - 1 that are not gone. -/
def onl (u : Nat → Int) (N : Nat) (g : List Bool) : List S35 := ((List.range N).filter fun i => !(g.getD i false)).map fun (i : Nat) => akd ((i : Int) + 1) (i : Int) 7 (u i)
theorem onl_zero (u : Nat → Int) (g : List Bool) : onl u 0 g = [] := rfl
theorem onl_succ (u : Nat → Int) (N : Nat) (g : List Bool) : onl u (N + 1) g = onl u N g ++ (if g.getD N false = true then [] else [akd ((N : Int) + 1) (N : Int) 7 (u N)]) := by
  unfold onl
  rw [List.range_succ, List.filter_append, List.map_append]
  congr 1
  cases h : g.getD N false
  · rw [List.filter_cons_of_pos (by rw [h]; rfl)]; rfl
  · rw [List.filter_cons_of_neg (by rw [h]; simp)]; rfl
theorem onl_len (u : Nat → Int) (N : Nat) (g : List Bool) : (onl u N g).length ≤ N := by
  unfold onl
  rw [List.length_map]
  exact Nat.le_trans (List.length_filter_le _ _) (by simp)
theorem range_split (N k : Nat) (hk : k < N) : ∃ l1 l2 : List Nat, List.range N = l1 ++ k :: l2 ∧ (∀ i ∈ l1, i < k) ∧ (∀ i ∈ l2, k < i) := by
  obtain ⟨l1, l2, e⟩ := List.append_of_mem (List.mem_range.2 hk)
  have h : List.Pairwise (· < ·) (List.range N) := List.pairwise_lt_range
  rw [e, List.pairwise_append] at h
  exact ⟨l1, l2, e, fun i hi => h.2.2 i hi k List.mem_cons_self, fun i hi => (List.pairwise_cons.1 h.2.1).1 i hi⟩
theorem isK_on (k i : Nat) (v : Int) : isK (KA 7 (k : Int)) (akd ((i : Int) + 1) (i : Int) 7 v) = decide (i = k) := by
  rw [isK_KA]
  simp only [decide_true, Bool.true_and]
  exact decide_eq_decide.2 (by omega)
theorem onl_none (u : Nat → Int) (N : Nat) (g : List Bool) (k : Nat) (h : ¬ (k < N ∧ g.getD k false = false)) : ∀ x ∈ onl u N g, isK (KA 7 (k : Int)) x = false := by
  intro x hx
  unfold onl at hx
  obtain ⟨i, hi, rfl⟩ := List.mem_map.1 hx
  obtain ⟨h1, h2⟩ := List.mem_filter.1 hi
  rw [isK_on]
  refine decide_eq_false ?_
  rintro rfl
  exact h ⟨List.mem_range.1 h1, by simpa using h2⟩
theorem onl_there (u : Nat → Int) (N : Nat) (g : List Bool) (k : Nat) (hk : k < N) (hl : g.length = N) (hg : g.getD k false = false) :
    ∃ (l1 l2 : List S35), onl u N g = l1 ++ akd ((k : Int) + 1) (k : Int) 7 (u k) :: l2 ∧ (∀ x ∈ l1, isK (KA 7 (k : Int)) x = false) ∧ onl u N (g.set k true) = l1 ++ l2 := by
  obtain ⟨l1, l2, e, h1, h2⟩ := range_split N k hk
  have hs : ∀ i, i ≠ k → (g.set k true).getD i false = g.getD i false := by
    intro i hi
    simp only [List.getD_eq_getElem?_getD]
    rw [List.getElem?_set_ne (by omega)]
  have hs2 : (g.set k true).getD k false = true := by
    simp only [List.getD_eq_getElem?_getD]
    rw [List.getElem?_set_self (by omega)]
    rfl
  refine ⟨(l1.filter fun i => !(g.getD i false)).map fun (i : Nat) => akd ((i : Int) + 1) (i : Int) 7 (u i), (l2.filter fun i => !(g.getD i false)).map fun (i : Nat) => akd ((i : Int) + 1) (i : Int) 7 (u i), ?_, ?_, ?_⟩
  · unfold onl
    rw [e, List.filter_append, List.map_append, List.filter_cons_of_pos (by rw [hg]; rfl), List.map_cons]
  · intro x hx
    obtain ⟨i, hi, rfl⟩ := List.mem_map.1 hx
    rw [isK_on]
    have := h1 i (List.mem_filter.1 hi).1
    exact decide_eq_false (by omega)
  · unfold onl
    rw [e, List.filter_append, List.map_append, List.filter_cons_of_neg (by rw [hs2]; simp)]
    congr 2
    · exact List.filter_congr fun i hi => by rw [hs i (by have := h1 i hi; omega)]
    · exact List.filter_congr fun i hi => by rw [hs i (by have := h2 i hi; omega)]
end Go.Proofs.Ytojjkgnkdcekpaa.M
