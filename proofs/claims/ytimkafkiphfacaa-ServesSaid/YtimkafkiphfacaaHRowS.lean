/- Slices of strings and of bindings that came in, with what is known of their elements. -/
import Derived.Test.YtimkafkiphfacaaHMsg
set_option linter.unusedVariables false
namespace Go.Proofs.Ytimkafkiphfacaa.M
open Go Go.Joins Go.ChangeShapes Go.WideShapes Go.RowKit Go.Deep Go.Proofs.YtimkafkiphfacaaW.PrintWords Go.Proofs.Ytimkafkiphfacaa.P
section
variable {H : Type} {enc : TypeId × Value → H} {P : Program} {w : World} {held : Bool}
theorem open_C_strs2 {b0 : Nat} {t e : TypeId} {v : Value} {d : DataW H} {p : List MemPlace} (ht : P.underlying t = some (.slice e)) (he : P.underlying e = some .string) (hc : P.cellsOf e = 1)
    (hv : Value.okWide P w .any b0 t v) (h : DataW.Trod enc P w 0 (fun _ => true) held t v d p) :
    ∃ (A : Option Addr) (c : Nat) (xs : List ByteArray), v = .slice A xs.length c ∧ xs.length ≤ c ∧ Kd.C Kd.string w A xs.length xs ∧ (∀ x ∈ xs, x.size ≤ 9223372036854775807) ∧ (xs.length = 0 ∨ ∃ es sp, d = .slice es sp ∧ es.length = xs.length) := by
  obtain ⟨a, len, cap, rfl⟩ := okWide_slice ht hv
  obtain ⟨fuel, hf⟩ := h
  rcases open_strs ht he hc hf with ⟨hcs, _⟩ | ⟨x, l, c, m, Sx, hcs, _, hl, hm, hmm, hd, hcell⟩
  · simp [Value.cells] at hcs
    obtain ⟨rfl, rfl, rfl⟩ := hcs
    exact ⟨none, 0, [], rfl, Nat.le_refl _, ⟨rfl, by simp, fun h => absurd h (by simp)⟩, by simp, .inl rfl⟩
  · simp [Value.cells] at hcs
    obtain ⟨rfl, rfl, rfl⟩ := hcs
    have hlm : len ≤ m := by rw [hmm]; simp; omega
    have hL : ((List.range len).map Sx).length = len := by simp
    refine ⟨some x, cap, (List.range len).map Sx, by rw [hL], by rw [hL]; exact hl, ?_, ?_, .inr ⟨_, _, congrArg Prod.fst hd, by simp⟩⟩
    · rw [hL]
      unfold maxLen at hm
      refine ⟨hL, by omega, fun _ => ⟨x, rfl, fun j q hj => ?_⟩⟩
      have hj2 : j < len := by
        have := (List.getElem?_eq_some_iff.1 hj).1
        rwa [hL] at this
      have hq : Sx j = q := by
        rw [List.getElem?_map, List.getElem?_range hj2] at hj
        simpa using hj
      subst hq
      refine ⟨[.string (Sx j)], rfl, rfl, fun i u hi => ?_⟩
      have hi0 : i = 0 := by
        have := (List.getElem?_eq_some_iff.1 hi).1
        simpa using this
      subst hi0
      have hu : Value.string (Sx j) = u := by simpa using hi
      subst hu
      show w.cell? (x.add (j * 1 + 0)) = _
      rw [Nat.mul_one, Nat.add_zero]
      exact (hcell j (by omega)).1
    · intro y hy
      obtain ⟨j, hj, rfl⟩ := List.mem_map.1 hy
      have hj2 := List.mem_range.1 hj
      have := (hcell j (by omega)).2
      unfold maxLen at this
      exact this
/-- A slice of structs as a parameter, opened to a kind's row, each element with what is known of it. -/
theorem open_rowP {α : Type} (d : Kd α) (Q : α → Prop) (cells : α → List Value) (hK : ∀ x, d.K w x (cells x)) {b0 : Nat} {t e : TypeId} {fs : Array Field} {v : Value} {dd : DataW H} {p : List MemPlace} [Inhabited α] (ht : P.underlying t = some (.slice e)) (he : P.underlying e = some (.struct fs))
    (hone : oneCellFields P fs = true) (hC : P.cellsOf e = fs.size) (hsz : fs.size = d.sz) (hv : Value.okWide P w .any b0 t v) (h : DataW.Trod enc P w 0 (fun _ => true) held t v dd p)
    (elem : ∀ (a : Addr) (i m : Nat), (∀ (j : Nat) (f : Field), fs[j]? = some f → ∃ (v : Value) (y : DataW H × List MemPlace), w.cell? (a.add (i * fs.size + j)) = some v ∧ DataW.trod enc P w 0 (fun _ => true) held m f.type [v] = some y) →
      ∃ x : α, Q x ∧ ∀ j u, (cells x)[j]? = some u → w.cell? (a.add (i * d.sz + j)) = some u) :
    ∃ (A : Option Addr) (c : Nat) (xs : List α), v = .slice A xs.length c ∧ xs.length ≤ c ∧ Kd.C d w A xs.length xs ∧ (∀ x ∈ xs, Q x) ∧ (xs.length = 0 ∨ ∃ es sp, dd = .slice es sp ∧ es.length = xs.length) := by
  obtain ⟨a, len, cap, rfl⟩ := okWide_slice ht hv
  obtain ⟨fuel, hf⟩ := h
  rcases open_slice_fields ht he hone hC hf with ⟨hcs, _⟩ | ⟨a, len, cap, m, D, Pl, hcs, _, hl, hm, hmm, hy, hi⟩
  · simp [Value.cells] at hcs
    obtain ⟨rfl, rfl, rfl⟩ := hcs
    exact ⟨none, 0, [], rfl, Nat.le_refl _, ⟨rfl, by simp, fun h => absurd h (by simp)⟩, by simp, .inl rfl⟩
  · simp [Value.cells] at hcs
    obtain ⟨rfl, rfl, rfl⟩ := hcs
    have hlm : len ≤ m := by rw [hmm]; simp; omega
    obtain ⟨X, hX⟩ := choose_lt (α := α) (n := len) (p := fun i x => Q x ∧ ∀ j u, (cells x)[j]? = some u → w.cell? (a.add (i * d.sz + j)) = some u) (fun i hi2 => by
      obtain ⟨ys, n', _, _, _, hf⟩ := hi i (by omega)
      refine elem a i n' (fun j f hj => ?_)
      obtain ⟨v, y, h1, _, h3⟩ := hf j f hj
      exact ⟨v, y, h1, h3⟩)
    have hL : ((List.range len).map X).length = len := by simp
    refine ⟨some a, cap, (List.range len).map X, by rw [hL], by rw [hL]; exact hl, ?_, ?_, .inr ⟨_, _, congrArg Prod.fst hy, by simp⟩⟩
    · rw [hL]
      unfold maxLen at hm
      exact C_of_elems d a len X cells (by omega) hK (fun i hi => (hX i hi).2)
    · intro y hy
      obtain ⟨j, hj, rfl⟩ := List.mem_map.1 hy
      exact (hX j (List.mem_range.1 hj)).1
/-- The length of a slice that came in. -/
theorem sized_row {ts : List TypeId} {ds : List (DataW H)} {j : Nat} {t e : TypeId} {d : DataW H} {len B : Nat} (hsz : (DataW.weightsEach P ts ds).all (· ≤ reachBytes) = true) (ht : ts[j]? = some t) (hd : ds[j]? = some d)
    (hu : P.underlying t = some (.slice e)) (hB : P.bytesOf e = B) (hl : len = 0 ∨ ∃ es sp, d = .slice es sp ∧ es.length = len) : len * B ≤ 140737488351232 := by
  rcases hl with rfl | ⟨es, sp, rfl, rfl⟩
  · omega
  · have h3 := sized_slice hsz ht hd hu
    rw [hB] at h3
    have h4 : es.length * B ≤ (es.length + sp.length) * B := Nat.mul_le_mul_right _ (by omega)
    unfold reachBytes at h3
    omega
end
section
variable {H : Type} {enc : TypeId × Value → H} {P : Program} {w : World} {held : Bool}
theorem open_C_binds {b0 : Nat} {t e : TypeId} {f0 f1 f2 f3 f4 : Field} {v : Value} {d : DataW H} {p : List MemPlace} (ht : P.underlying t = some (.slice e)) (he : P.underlying e = some (.struct #[f0, f1, f2, f3, f4])) (hone : oneCellFields P #[f0, f1, f2, f3, f4] = true) (hC : P.cellsOf e = 5)
    (h0 : P.underlying f0.type = some .string) (h1 : P.underlying f1.type = some .string) (h2 : P.underlying f2.type = some (.int .i64)) (h3 : P.underlying f3.type = some .string) (h4 : P.underlying f4.type = some (.int .i64))
    (hv : Value.okWide P w .any b0 t v) (h : DataW.Trod enc P w 0 (fun _ => true) held t v d p) :
    ∃ (A : Option Addr) (c : Nat) (xs : List S61), v = .slice A xs.length c ∧ xs.length ≤ c ∧ Kd.C k61 w A xs.length xs ∧ (∀ x ∈ xs, (Lit.int .i64 x.f2).wf = true) ∧ (xs.length = 0 ∨ ∃ es sp, d = .slice es sp ∧ es.length = xs.length) := by
  haveI : Inhabited S61 := ⟨z61⟩
  refine open_rowP k61 (fun x => (Lit.int .i64 x.f2).wf = true) (fun x => [.string x.f0, .string x.f1, .int .i64 x.f2, .string x.f3, .int .i64 x.f4]) (fun x => k61_mk w x) ht he hone hC rfl hv h (fun a i m hf => ?_)
  obtain ⟨v0, y0, c0, r0⟩ := hf 0 f0 rfl
  obtain ⟨v1, y1, c1, r1⟩ := hf 1 f1 rfl
  obtain ⟨v2, y2, c2, r2⟩ := hf 2 f2 rfl
  obtain ⟨v3, y3, c3, r3⟩ := hf 3 f3 rfl
  obtain ⟨v4, y4, c4, r4⟩ := hf 4 f4 rfl
  obtain ⟨s0, rfl, _⟩ := fld_string h0 r0
  obtain ⟨s1, rfl, _⟩ := fld_string h1 r1
  obtain ⟨s2, rfl, q2⟩ := fld_int h2 r2
  obtain ⟨s3, rfl, _⟩ := fld_string h3 r3
  obtain ⟨s4, rfl, _⟩ := fld_int h4 r4
  refine ⟨⟨s0, s1, s2, s3, s4⟩, q2, fun j u hj => ?_⟩
  match j, hj with
  | 0, hj => obtain rfl := Option.some.inj hj; exact c0
  | 1, hj => obtain rfl := Option.some.inj hj; exact c1
  | 2, hj => obtain rfl := Option.some.inj hj; exact c2
  | 3, hj => obtain rfl := Option.some.inj hj; exact c3
  | 4, hj => obtain rfl := Option.some.inj hj; exact c4
end
section
variable {H : Type} {enc : TypeId × Value → H} {P : Program} {w : World} {held : Bool}
theorem open_C_strs3 {b0 : Nat} {t e : TypeId} {v : Value} {d : DataW H} {p : List MemPlace} (ht : P.underlying t = some (.slice e)) (he : P.underlying e = some .string) (hc : P.cellsOf e = 1)
    (hv : Value.okWide P w .any b0 t v) (h : DataW.Trod enc P w 0 (fun _ => true) held t v d p) :
    ∃ (A : Option Addr) (c : Nat) (xs : List ByteArray), v = .slice A xs.length c ∧ xs.length ≤ c ∧ Kd.C Kd.string w A xs.length xs ∧ (xs = [] ∨ ∃ sp, d = .slice (xs.map fun s => .lit (.string s.data.toList)) sp) := by
  obtain ⟨a, len, cap, rfl⟩ := okWide_slice ht hv
  obtain ⟨fuel, hf⟩ := h
  rcases open_strs ht he hc hf with ⟨hcs, _⟩ | ⟨x, l, c, m, Sx, hcs, _, hl, hm, hmm, hd, hcell⟩
  · simp [Value.cells] at hcs
    obtain ⟨rfl, rfl, rfl⟩ := hcs
    exact ⟨none, 0, [], rfl, Nat.le_refl _, ⟨rfl, by simp, fun h => absurd h (by simp)⟩, .inl rfl⟩
  · simp [Value.cells] at hcs
    obtain ⟨rfl, rfl, rfl⟩ := hcs
    have hlm : len ≤ m := by rw [hmm]; simp; omega
    have hL : ((List.range len).map Sx).length = len := by simp
    refine ⟨some x, cap, (List.range len).map Sx, by rw [hL], by rw [hL]; exact hl, ?_, .inr ⟨_, by rw [List.map_map]; exact congrArg Prod.fst hd⟩⟩
    rw [hL]
    unfold maxLen at hm
    refine ⟨hL, by omega, fun _ => ⟨x, rfl, fun j q hj => ?_⟩⟩
    have hj2 : j < len := by
      have := (List.getElem?_eq_some_iff.1 hj).1
      rwa [hL] at this
    have hq : Sx j = q := by
      rw [List.getElem?_map, List.getElem?_range hj2] at hj
      simpa using hj
    subst hq
    refine ⟨[.string (Sx j)], rfl, rfl, fun i u hi => ?_⟩
    have hi0 : i = 0 := by
      have := (List.getElem?_eq_some_iff.1 hi).1
      simpa using this
    subst hi0
    have hu : Value.string (Sx j) = u := by simpa using hi
    subst hu
    show w.cell? (x.add (j * 1 + 0)) = _
    rw [Nat.mul_one, Nat.add_zero]
    exact (hcell j (by omega)).1
theorem mem_weightsAll {e : TypeId} : ∀ {l : List (DataW H)} {d : DataW H} {n : Nat}, d ∈ l → n ∈ d.weights P e → n ∈ DataW.weightsAll P e l
  | x :: r, d, n, hd, hn => by
    rw [DataW.weightsAll, List.mem_append]
    rcases List.mem_cons.1 hd with rfl | hd
    · exact .inl hn
    · exact .inr (mem_weightsAll hd hn)
/-- Lengths of a slice of strings that came in, and of each of them. -/
theorem sized_strs {ts : List TypeId} {ds : List (DataW H)} {j : Nat} {t e : TypeId} {d : DataW H} {xs : List ByteArray} (hsz : (DataW.weightsEach P ts ds).all (· ≤ reachBytes) = true) (ht : ts[j]? = some t) (hd : ds[j]? = some d)
    (hu : P.underlying t = some (.slice e)) (hl : xs = [] ∨ ∃ sp, d = .slice (xs.map fun s => .lit (.string s.data.toList)) sp) : ∀ x ∈ xs, x.size ≤ 140737488351232 := by
  rcases hl with rfl | ⟨sp, rfl⟩
  · simp
  · intro x hx
    have h1 : x.data.toList.length ∈ (DataW.slice (xs.map fun s => DataW.lit (H := H) (.string s.data.toList)) sp).weights P t := by
      rw [DataW.weights, hu]
      refine List.mem_cons_of_mem _ (List.mem_append_left _ (mem_weightsAll (List.mem_map.2 ⟨x, hx, rfl⟩) ?_))
      rw [DataW.weights]
      exact List.mem_singleton.2 rfl
    have h2 := List.all_eq_true.1 hsz _ (DataW.weights_mem_each ht hd _ h1)
    have h3 : x.data.toList.length ≤ reachBytes := by simpa using h2
    unfold reachBytes at h3
    rw [Array.length_toList] at h3
    exact h3
theorem len_of {xs : List ByteArray} {d : DataW H} (hl : xs = [] ∨ ∃ sp, d = .slice (xs.map fun s => .lit (.string s.data.toList)) sp) : xs.length = 0 ∨ ∃ es sp, d = .slice es sp ∧ es.length = xs.length := by
  rcases hl with rfl | ⟨sp, rfl⟩
  · exact .inl rfl
  · exact .inr ⟨_, _, rfl, by simp⟩
end
end Go.Proofs.Ytimkafkiphfacaa.M
