/- A slice of strings that came in, as the printed walks read it. -/
import Derived.Test.YtkmdjcdmgmffiaaWWords
import Derived.Deep.Strs
import Derived.OpenShut
import Derived.Carry
import Derived.ProofKit
set_option linter.unusedVariables false
namespace Go.Proofs.Ytkmdjcdmgmffiaa.M
open Go Go.ChangeShapes Go.WideShapes Go.RowKit Go.Deep Go.Proofs.YtkmdjcdmgmffiaaW.PrintWords
section
variable {H : Type} {enc : TypeId × Value → H} {P : Program} {w : World} {held : Bool}
theorem open_C_strs {b0 : Nat} {t e : TypeId} {v : Value} {d : DataW H} {p : List MemPlace} (ht : P.underlying t = some (.slice e)) (he : P.underlying e = some .string) (hc : P.cellsOf e = 1)
    (hv : Value.okWide P w .any b0 t v) (h : DataW.Trod enc P w 0 (fun _ => true) held t v d p) :
    ∃ (A : Option Addr) (c : Nat) (xs : List ByteArray), v = .slice A xs.length c ∧ xs.length ≤ c ∧ Kd.C Kd.string w A xs.length xs := by
  obtain ⟨a, len, cap, rfl⟩ := okWide_slice ht hv
  obtain ⟨fuel, hf⟩ := h
  rcases open_strs ht he hc hf with ⟨hcs, _⟩ | ⟨x, l, c, m, Sx, hcs, _, hl, hm, hmm, _, hcell⟩
  · simp [Value.cells] at hcs
    obtain ⟨rfl, rfl, rfl⟩ := hcs
    exact ⟨none, 0, [], rfl, Nat.le_refl _, rfl, by simp, fun h => absurd h (by simp)⟩
  · simp [Value.cells] at hcs
    obtain ⟨rfl, rfl, rfl⟩ := hcs
    have hlm : len ≤ m := by rw [hmm]; simp; omega
    have hL : ((List.range len).map Sx).length = len := by simp
    refine ⟨some x, cap, (List.range len).map Sx, by rw [hL], by rw [hL]; exact hl, ?_⟩
    rw [hL]
    unfold maxLen at hm
    refine ⟨hL, by omega, fun _ => ⟨x, rfl, fun j q hj => ?_⟩⟩
    have hj2 : j < len := by
      have := (List.getElem?_eq_some_iff.1 hj).1
      rwa [hL] at this
    have hq : Sx j = q := by
      rw [List.getElem?_map, List.getElem?_range hj2] at hj
      simpa using hj
    subst hq
    refine ⟨[.string (Sx j)], rfl, rfl, fun i u hi => ?_⟩
    have hi0 : i = 0 := by
      have := (List.getElem?_eq_some_iff.1 hi).1
      simpa using this
    subst hi0
    have hu : Value.string (Sx j) = u := by simpa using hi
    subst hu
    show w.cell? (x.add (j * 1 + 0)) = _
    rw [Nat.mul_one, Nat.add_zero]
    exact (hcell j (by omega)).1
end
end Go.Proofs.Ytkmdjcdmgmffiaa.M
