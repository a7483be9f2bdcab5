/- TableOnce, the lists for the third loop: what stands behind a prefix. (To be imported by HTab17 in place of HTab16.) -/
import Derived.Test.YtojjkgnkdcekpaaHTab11
set_option linter.unusedVariables false
set_option linter.unusedSimpArgs false
namespace Go.Proofs.Ytojjkgnkdcekpaa.M
open Go Go.RowKit Go.ChangeMaps Go.Proofs.YtojjkgnkdcekpaaW.PrintWords Go.Proofs.YtojjkgnkdcekpaaW.PrintLast Go.Proofs.YtojjkgnkdcekpaaW.PrintMore Go.Proofs.Ytojjkgnkdcekpaa.P

/-- The questions 0 .. N - 1 that are not gone. -/
def onl (u : Nat → Int) (N : Nat) (g : List Bool) : List S35 := ((List.range N).filter fun i => !(g.getD i false)).map fun (i : Nat) => akd ((i : Int) + 1) (i : Int) 7 (u i)
theorem onl_zero (u : Nat → Int) (g : List Bool) : onl u 0 g = [] := rfl
theorem onl_succ (u : Nat → Int) (N : Nat) (g : List Bool) : onl u (N + 1) g = onl u N g ++ (if g.getD N false = true then [] else [akd ((N : Int) + 1) (N : Int) 7 (u N)]) := by
  unfold onl
  rw [List.range_succ, List.filter_append, List.map_append]
  congr 1
  cases h : g.getD N false
  · rw [List.filter_cons_of_pos (by rw [h]; rfl)]; rfl
  · rw [List.filter_cons_of_neg (by rw [h]; simp)]; rfl
theorem onl_len (u : Nat → Int) (N : Nat) (g : List Bool) : (onl u N g).length ≤ N := by
  unfold onl
  rw [List.length_map]
  exact Nat.le_trans (List.length_filter_le _ _) (by simp)
theorem range_split (N k : Nat) (hk : k < N) : ∃ l1 l2 : List Nat, List.range N = l1 ++ k :: l2 ∧ (∀ i ∈ l1, i < k) ∧ (∀ i ∈ l2, k < i) := by
  obtain ⟨l1, l2, e⟩ := List.append_of_mem (List.mem_range.2 hk)
  have h : List.Pairwise (· < ·) (List.range N) := List.pairwise_lt_range
  rw [e, List.pairwise_append] at h
  exact ⟨l1, l2, e, fun i hi => h.2.2 i hi k List.mem_cons_self, fun i hi => (List.pairwise_cons.1 h.2.1).1 i hi⟩
theorem isK_on (k i : Nat) (v : Int) : isK (KA 7 (k : Int)) (akd ((i : Int) + 1) (i : Int) 7 v) = decide (i = k) := by
  rw [isK_KA]
  simp only [decide_true, Bool.true_and]
  exact decide_eq_decide.2 (by omega)
theorem onl_none (u : Nat → Int) (N : Nat) (g : List Bool) (k : Nat) (h : ¬ (k < N ∧ g.getD k false = false)) : ∀ x ∈ onl u N g, isK (KA 7 (k : Int)) x = false := by
  intro x hx
  unfold onl at hx
  obtain ⟨i, hi, rfl⟩ := List.mem_map.1 hx
  obtain ⟨h1, h2⟩ := List.mem_filter.1 hi
  rw [isK_on]
  refine decide_eq_false ?_
  rintro rfl
  exact h ⟨List.mem_range.1 h1, by simpa using h2⟩
theorem onl_there (u : Nat → Int) (N : Nat) (g : List Bool) (k : Nat) (hk : k < N) (hl : g.length = N) (hg : g.getD k false = false) :
    ∃ (l1 l2 : List S35), onl u N g = l1 ++ akd ((k : Int) + 1) (k : Int) 7 (u k) :: l2 ∧ (∀ x ∈ l1, isK (KA 7 (k : Int)) x = false) ∧ onl u N (g.set k true) = l1 ++ l2 := by
  obtain ⟨l1, l2, e, h1, h2⟩ := range_split N k hk
  have hs : ∀ i, i ≠ k → (g.set k true).getD i false = g.getD i false := by
    intro i hi
    simp only [List.getD_eq_getElem?_getD]
    rw [List.getElem?_set_ne (by omega)]
  have hs2 : (g.set k true).getD k false = true := by
    simp only [List.getD_eq_getElem?_getD]
    rw [List.getElem?_set_self (by omega)]
    rfl
  refine ⟨(l1.filter fun i => !(g.getD i false)).map fun (i : Nat) => akd ((i : Int) + 1) (i : Int) 7 (u i), (l2.filter fun i => !(g.getD i false)).map fun (i : Nat) => akd ((i : Int) + 1) (i : Int) 7 (u i), ?_, ?_, ?_⟩
  · unfold onl
    rw [e, List.filter_append, List.map_append, List.filter_cons_of_pos (by rw [hg]; rfl), List.map_cons]
  · intro x hx
    obtain ⟨i, hi, rfl⟩ := List.mem_map.1 hx
    rw [isK_on]
    have := h1 i (List.mem_filter.1 hi).1
    exact decide_eq_false (by omega)
  · unfold onl
    rw [e, List.filter_append, List.map_append, List.filter_cons_of_neg (by rw [hs2]; simp)]
    congr 2
    · exact List.filter_congr fun i hi => by rw [hs i (by have := h1 i hi; omega)]
    · exact List.filter_congr fun i hi => by rw [hs i (by have := h2 i hi; omega)]
end Go.Proofs.Ytojjkgnkdcekpaa.M

set_option linter.unusedVariables false
set_option linter.unusedSimpArgs false
namespace Go.Proofs.Ytojjkgnkdcekpaa.M
open Go Go.RowKit Go.ChangeMaps Go.Proofs.YtojjkgnkdcekpaaW.PrintWords Go.Proofs.YtojjkgnkdcekpaaW.PrintLast Go.Proofs.YtojjkgnkdcekpaaW.PrintMore Go.Proofs.Ytojjkgnkdcekpaa.P

section
variable {w w' : World} {base : Nat} {S : Nat → Prop} {g0 : Nat} {most : Int} {n : Nat} {v : Value} {m : Nat}
theorem takeMid (l1 l2 : List S35) (x : S35) (addr id : Int) (h : TabAt w base S g0 most (l1 ++ x :: l2) n (cntA (l1 ++ x :: l2)) v m) (hn : n ≤ 100000) (hl : (l1 ++ x :: l2).length ≤ 1000) (hS : ∀ k, w.heap.size ≤ k → S k) (ha : -9223372036854775808 ≤ addr ∧ addr ≤ 9223372036854775807) (hd : -9223372036854775808 ≤ id ∧ id ≤ 9223372036854775807) (h1 : ∀ y ∈ l1, isK (KA addr id) y = false) (hx : isK (KA addr id) x = true) : Calls Try.prog 14 #[.pointer (some ⟨g0, 0, none⟩), .int .i64 addr, .int .i64 id, .agg #[.string ⟨#[1, 97, 0]⟩, .int .i64 1, .int .i64 1]] w fun e w' => e = .returned (.tuple #[v35 x, .int .i64 0]) ∧ (∃ v', TabAt w' base S g0 most (l1 ++ l2) (n + 1) (cntA (l1 ++ l2)) v' m) ∧ Below base w w' ∧ Kept w w' S := by
  have hj : l1.length < (l1 ++ x :: l2).length := by simp
  have e1 : (l1 ++ x :: l2)[l1.length]'hj = x := by rw [List.getElem_append_right (Nat.le_refl _)]; simp
  have e2 : (l1 ++ x :: l2).eraseIdx l1.length = l1 ++ l2 := by rw [List.eraseIdx_append_of_length_le (Nat.le_refl _)]; simp
  refine (takeC h hn hl hS addr id ⟨#[1, 97, 0]⟩ 1 (by rw [keyQ_a]; exact KA_good _ _ ha hd) l1.length hj (by rw [keyQ_a, e1]; exact hx) (fun i hi => by rw [keyQ_a, List.getElem_append_left hi]; exact h1 _ (List.getElem_mem hi))).mono ?_
  rintro e w' ⟨a1, a2, a3, a4⟩
  rw [e1] at a1
  rw [e2] at a2
  exact ⟨a1, a2, a3, a4⟩
end
end Go.Proofs.Ytojjkgnkdcekpaa.M

set_option linter.unusedVariables false
set_option linter.unusedSimpArgs false
namespace Go.Proofs.Ytojjkgnkdcekpaa.M
open Go Go.RowKit Go.ChangeMaps Go.Proofs.YtojjkgnkdcekpaaW.PrintWords Go.Proofs.YtojjkgnkdcekpaaW.PrintLast Go.Proofs.YtojjkgnkdcekpaaW.PrintMore Go.Proofs.Ytojjkgnkdcekpaa.P

theorem onl_prefix (u : Nat → Int) (g : List Bool) (i : Nat) : ∀ d : Nat, ∃ rest, onl u (i + d) g = onl u i g ++ rest
  | 0 => ⟨[], by simp⟩
  | d + 1 => by
    obtain ⟨r, e⟩ := onl_prefix u g i d
    exact ⟨r ++ (if g.getD (i + d) false = true then [] else [akd (((i + d : Nat) : Int) + 1) ((i + d : Nat) : Int) 7 (u (i + d))]), by rw [show i + (d + 1) = (i + d) + 1 from rfl, onl_succ, e, List.append_assoc]⟩
/-- The i-th question is still asked: it stands behind the prefix. -/
theorem onl_at (u : Nat → Int) (g : List Bool) (i N : Nat) (h : i < N) (hg : g.getD i false = false) : ∃ rest, onl u N g = onl u i g ++ akd ((i : Int) + 1) (i : Int) 7 (u i) :: rest := by
  obtain ⟨r, e⟩ := onl_prefix u g (i + 1) (N - (i + 1))
  rw [show i + 1 + (N - (i + 1)) = N by omega, onl_succ, hg] at e
  refine ⟨r, ?_⟩
  rw [e, List.append_assoc]
  rfl
theorem due_at (u : Nat → Int) (g : List Bool) (i N : Nat) (D : Int) (h : i < N) (hg : g.getD i false = false) (hd : u i ≤ D) : ∃ rest, (onl u N g).filter (isDue D) = (onl u i g).filter (isDue D) ++ akd ((i : Int) + 1) (i : Int) 7 (u i) :: rest := by
  obtain ⟨r, e⟩ := onl_at u g i N h hg
  refine ⟨r.filter (isDue D), ?_⟩
  rw [e, List.filter_append, List.filter_cons_of_pos (show isDue D (akd ((i : Int) + 1) (i : Int) 7 (u i)) = true from decide_eq_true hd)]
theorem onl_gone (u : Nat → Int) (g : List Bool) (i : Nat) (hg : g.getD i false = true) : onl u (i + 1) g = onl u i g := by
  rw [onl_succ, hg, if_pos rfl, List.append_nil]
theorem onl_more (u : Nat → Int) (g : List Bool) (i : Nat) (hg : g.getD i false = false) : onl u (i + 1) g = onl u i g ++ [akd ((i : Int) + 1) (i : Int) 7 (u i)] := by
  rw [onl_succ, hg]
  rfl
theorem due_yes (u : Nat → Int) (g : List Bool) (i : Nat) (D : Int) (hg : g.getD i false = false) (hd : u i ≤ D) : ((onl u (i + 1) g).filter (isDue D)).length = ((onl u i g).filter (isDue D)).length + 1 ∧ ((onl u (i + 1) g).filter (notDue D)).length = ((onl u i g).filter (notDue D)).length := by
  have h1 : isDue D (akd ((i : Int) + 1) (i : Int) 7 (u i)) = true := decide_eq_true hd
  have h2 : notDue D (akd ((i : Int) + 1) (i : Int) 7 (u i)) = false := by unfold notDue; rw [h1]; rfl
  rw [onl_more u g i hg, List.filter_append, List.filter_append]
  simp [h1, h2]
theorem due_no (u : Nat → Int) (g : List Bool) (i : Nat) (D : Int) (hg : g.getD i false = false) (hd : ¬ u i ≤ D) : ((onl u (i + 1) g).filter (isDue D)).length = ((onl u i g).filter (isDue D)).length ∧ ((onl u (i + 1) g).filter (notDue D)).length = ((onl u i g).filter (notDue D)).length + 1 := by
  have h1 : isDue D (akd ((i : Int) + 1) (i : Int) 7 (u i)) = false := decide_eq_false hd
  have h2 : notDue D (akd ((i : Int) + 1) (i : Int) 7 (u i)) = true := by unfold notDue; rw [h1]; rfl
  rw [onl_more u g i hg, List.filter_append, List.filter_append]
  simp [h1, h2]
theorem due_left (D : Int) (xs : List S35) : (xs.filter (notDue D)).filter (isDue D) = [] := by
  rw [List.filter_filter]
  exact List.filter_eq_nil_iff.2 fun x _ => by unfold notDue; cases isDue D x <;> simp
end Go.Proofs.Ytojjkgnkdcekpaa.M
