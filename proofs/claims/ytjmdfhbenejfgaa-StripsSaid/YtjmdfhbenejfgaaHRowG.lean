/- Slices of structs that came in, as the printed walks read them. -/
import Derived.Test.YtjmdfhbenejfgaaPx0
import Derived.Deep.Slices
import Derived.Deep.Fields
import Derived.Deep.Strs
import Derived.ChangeSame
import Derived.ChangeArms
import Derived.OpenShut
import Derived.Carry
import Derived.ProofKit
import Derived.Lib.SmallJoins
import Derived.SizedLaws
set_option linter.unusedVariables false
namespace Go.Proofs.Ytjmdfhbenejfgaa.M
open Go Go.Joins Go.ChangeShapes Go.WideShapes Go.RowKit Go.Deep Go.Proofs.YtjmdfhbenejfgaaW.PrintWords Go.Proofs.Ytjmdfhbenejfgaa.P
section
variable {H : Type} {enc : TypeId × Value → H} {P : Program} {w : World} {base : Nat} {spare : Nat → Bool} {held : Bool}
theorem open_slice_fields {t e : TypeId} {fs : Array Field} {fuel : Nat} {cs : List Value} {x : DataW H × List MemPlace} (ht : P.underlying t = some (.slice e)) (he : P.underlying e = some (.struct fs))
    (hone : oneCellFields P fs = true) (hC : P.cellsOf e = fs.size) (h : DataW.trod enc P w base spare held fuel t cs = some x) :
    (cs = [.slice none 0 0] ∧ x = (.nil, [])) ∨
    ∃ (a : Addr) (len cap m : Nat) (D : Nat → DataW H) (Pl : Nat → List MemPlace), cs = [.slice (some a) len cap] ∧ base ≤ a.block ∧ len ≤ cap ∧ cap ≤ maxLen ∧ m = (if spare a.block then cap else len) ∧
      x = (.slice ((List.range len).map D) ((List.range (m - len)).map fun j => D (len + j)), MemPlace.row a (m * fs.size) ++ (List.range m).flatMap Pl) ∧
      ∀ i, i < m → ∃ (ys : List (DataW H × List MemPlace)) (n : Nat), D i = .agg (ys.map (·.1)) ∧ Pl i = ys.flatMap (·.2) ∧ ys.length = fs.size ∧
        ∀ (j : Nat) (f : Field), fs[j]? = some f → ∃ (v : Value) (y : DataW H × List MemPlace), w.cell? (a.add (i * fs.size + j)) = some v ∧ ys[j]? = some y ∧ DataW.trod enc P w base spare held n f.type [v] = some y := by
  rcases open_slice ht h with h0 | ⟨a, len, cap, m, n, D, Pl, hcs, hb, hl, hm, hmm, hx, hi⟩
  · exact .inl h0
  · refine .inr ⟨a, len, cap, m, D, Pl, hcs, hb, hl, hm, hmm, by rw [hC] at hx; exact hx, fun i him => ?_⟩
    obtain ⟨cs', hc, ht'⟩ := hi i him
    rw [hC] at hc
    obtain ⟨ys, n', hn', hy, hlen, hyl, hf⟩ := DataW.trod_struct he ht'
    obtain ⟨_, hcl, hat⟩ := World.cells?_some hc
    simp only [Prod.mk.injEq] at hy
    refine ⟨ys, n', hy.1, hy.2, hyl, fun j f hj => ?_⟩
    obtain ⟨ho, hk⟩ := hone_of hone j f hj
    have hjl : j < fs.size := (Array.getElem?_eq_some_iff.1 hj).1
    have hcell := hat j hjl
    have hv : cs'[j]? = some (cs'[j]'(by omega)) := List.getElem?_eq_getElem (by omega)
    have h1 := hf j f hj
    rw [ho, hk] at h1
    have hone' : (cs'.drop j).take 1 = [cs'[j]'(by omega)] := by
      rw [List.drop_eq_getElem_cons (by omega)]
      rfl
    rw [hone'] at h1
    have hys : ys[j]? = some (ys[j]'(by omega)) := List.getElem?_eq_getElem (by omega)
    refine ⟨_, _, ?_, hys, h1.trans hys⟩
    rw [← Go.Deep.add_add, hcell, hv]

theorem fld_string {t : TypeId} {n : Nat} {v : Value} {y : DataW H × List MemPlace} (ht : P.underlying t = some .string) (h : DataW.trod enc P w base spare held n t [v] = some y) : ∃ s : ByteArray, v = .string s ∧ s.size ≤ maxLen := by
  obtain ⟨s, hc, hy, hs⟩ := DataW.trod_string ht h
  exact ⟨s, by simpa using hc, hs⟩
theorem fld_int {t : TypeId} {k : IntKind} {n : Nat} {v : Value} {y : DataW H × List MemPlace} (ht : P.underlying t = some (.int k)) (h : DataW.trod enc P w base spare held n t [v] = some y) : ∃ s : Int, v = .int k s ∧ (Lit.int k s).wf = true := by
  obtain ⟨s, hc, hy, hs⟩ := DataW.trod_int ht h
  exact ⟨s, by simpa using hc, hs⟩
theorem fld_bool {t : TypeId} {n : Nat} {v : Value} {y : DataW H × List MemPlace} (ht : P.underlying t = some .bool) (h : DataW.trod enc P w base spare held n t [v] = some y) : ∃ s : Bool, v = .bool s := by
  obtain ⟨s, hc, hy⟩ := DataW.trod_bool ht h
  exact ⟨s, by simpa using hc⟩

/-- A row read element by element, of a kind. -/
theorem C_of_elems {α : Type} (d : Kd α) {w : World} (a : Addr) (len : Nat) (X : Nat → α) (cells : α → List Value) (hcap : len ≤ 9223372036854775807) (hK : ∀ x, d.K w x (cells x)) (hc : ∀ i, i < len → ∀ j u, (cells (X i))[j]? = some u → w.cell? (a.add (i * d.sz + j)) = some u) :
    Kd.C d w (some a) len ((List.range len).map X) := by
  have hL : ((List.range len).map X).length = len := by simp
  refine ⟨hL, hcap, fun _ => ⟨a, rfl, fun j q hj => ?_⟩⟩
  have hj2 : j < len := by
    have := (List.getElem?_eq_some_iff.1 hj).1
    rwa [hL] at this
  have hq : X j = q := by
    rw [List.getElem?_map, List.getElem?_range hj2] at hj
    simpa using hj
  subst hq
  exact ⟨cells (X j), d.K_len (hK (X j)), hK (X j), hc j hj2⟩
end

section
variable {H : Type} {enc : TypeId × Value → H} {P : Program} {w : World} {held : Bool}
/-- A slice's cell, opened to a kind's row. -/
theorem open_row {α : Type} [Inhabited α] (d : Kd α) (z : α) (cells : α → List Value) (hK : ∀ x, d.K w x (cells x)) {t e : TypeId} {fs : Array Field} {n : Nat} {v : Value} {y : DataW H × List MemPlace} (ht : P.underlying t = some (.slice e)) (he : P.underlying e = some (.struct fs))
    (hone : oneCellFields P fs = true) (hC : P.cellsOf e = fs.size) (hsz : fs.size = d.sz) (h : DataW.trod enc P w 0 (fun _ => true) held n t [v] = some y)
    (elem : ∀ (a : Addr) (i m : Nat), (∀ (j : Nat) (f : Field), fs[j]? = some f → ∃ (v : Value) (y : DataW H × List MemPlace), w.cell? (a.add (i * fs.size + j)) = some v ∧ DataW.trod enc P w 0 (fun _ => true) held m f.type [v] = some y) →
      ∃ x : α, ∀ j u, (cells x)[j]? = some u → w.cell? (a.add (i * d.sz + j)) = some u) :
    ∃ (A : Option Addr) (c : Nat) (xs : List α), v = .slice A xs.length c ∧ xs.length ≤ c ∧ Kd.C d w A xs.length xs ∧ (xs.length = 0 ∨ ∃ es sp, y.1 = .slice es sp ∧ es.length = xs.length) := by
  rcases open_slice_fields ht he hone hC h with ⟨hcs, _⟩ | ⟨a, len, cap, m, D, Pl, hcs, _, hl, hm, hmm, hy, hi⟩
  · exact ⟨none, 0, [], by simpa using hcs, Nat.le_refl _, ⟨rfl, by simp, fun h => absurd h (by simp)⟩, .inl rfl⟩
  · have hlm : len ≤ m := by rw [hmm]; simp; omega
    obtain ⟨X, hX⟩ := choose_lt (α := α) (n := len) (p := fun i x => ∀ j u, (cells x)[j]? = some u → w.cell? (a.add (i * d.sz + j)) = some u) (fun i hi2 => by
      obtain ⟨ys, n', _, _, _, hf⟩ := hi i (by omega)
      refine elem a i n' (fun j f hj => ?_)
      obtain ⟨v, y, h1, _, h3⟩ := hf j f hj
      exact ⟨v, y, h1, h3⟩)
    have hL : ((List.range len).map X).length = len := by simp
    refine ⟨some a, cap, (List.range len).map X, by rw [hL]; simpa using hcs, by rw [hL]; exact hl, ?_⟩
    rw [hL]
    unfold maxLen at hm
    refine ⟨C_of_elems d a len X cells (by omega) hK hX, .inr ⟨_, _, congrArg Prod.fst hy, by simp⟩⟩

/-- The length of a slice in a struct that came in. -/
theorem sized_field {ts : List TypeId} {ds : List (DataW H)} {j i : Nat} {t e : TypeId} {fs : Array Field} {f : Field} {parts : List (DataW H)} {x : DataW H} {len B : Nat} (hsz : (DataW.weightsEach P ts ds).all (· ≤ reachBytes) = true) (ht : ts[j]? = some t) (hd : ds[j]? = some (.agg parts))
    (hu : P.underlying t = some (.struct fs)) (hf : (fs.toList.map (·.type))[i]? = some f.type) (hx : parts[i]? = some x) (hs : P.underlying f.type = some (.slice e)) (hB : P.bytesOf e = B) (hl : len = 0 ∨ ∃ es sp, x = .slice es sp ∧ es.length = len) : len * B ≤ 140737488351232 := by
  rcases hl with rfl | ⟨es, sp, rfl, rfl⟩
  · omega
  · have h1 : (es.length + sp.length) * P.bytesOf e ∈ (DataW.agg parts).weights P t := by
      simp only [DataW.weights, hu]
      exact DataW.weights_mem_each hf hx _ (by simp [DataW.weights, hs])
    have h2 := List.all_eq_true.1 hsz _ (DataW.weights_mem_each ht hd _ h1)
    have h3 : (es.length + sp.length) * P.bytesOf e ≤ reachBytes := by simpa using h2
    rw [hB] at h3
    have h4 : es.length * B ≤ (es.length + sp.length) * B := Nat.mul_le_mul_right _ (by omega)
    unfold reachBytes at h3
    omega

end
end Go.Proofs.Ytjmdfhbenejfgaa.M
