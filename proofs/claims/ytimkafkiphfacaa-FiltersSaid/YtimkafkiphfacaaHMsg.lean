/- Slices of structs and messages that came in, as the printed walks read them. -/
import Derived.Test.YtimkafkiphfacaaPx0
import Derived.Deep.Slices
import Derived.Deep.Fields
import Derived.Deep.Strs
import Derived.ChangeSame
import Derived.ChangeArms
import Derived.OpenShut
import Derived.Carry
import Derived.ProofKit
import Derived.Lib.SmallJoins
import Derived.SizedLaws
set_option linter.unusedVariables false
namespace Go.Proofs.Ytimkafkiphfacaa.M
open Go Go.Joins Go.ChangeShapes Go.WideShapes Go.RowKit Go.Deep Go.Proofs.YtimkafkiphfacaaW.PrintWords Go.Proofs.Ytimkafkiphfacaa.P
section
variable {H : Type} {enc : TypeId × Value → H} {P : Program} {w : World} {base : Nat} {spare : Nat → Bool} {held : Bool}
theorem open_slice_fields {t e : TypeId} {fs : Array Field} {fuel : Nat} {cs : List Value} {x : DataW H × List MemPlace} (ht : P.underlying t = some (.slice e)) (he : P.underlying e = some (.struct fs))
    (hone : oneCellFields P fs = true) (hC : P.cellsOf e = fs.size) (h : DataW.trod enc P w base spare held fuel t cs = some x) :
    (cs = [.slice none 0 0] ∧ x = (.nil, [])) ∨
    ∃ (a : Addr) (len cap m : Nat) (D : Nat → DataW H) (Pl : Nat → List MemPlace), cs = [.slice (some a) len cap] ∧ base ≤ a.block ∧ len ≤ cap ∧ cap ≤ maxLen ∧ m = (if spare a.block then cap else len) ∧
      x = (.slice ((List.range len).map D) ((List.range (m - len)).map fun j => D (len + j)), MemPlace.row a (m * fs.size) ++ (List.range m).flatMap Pl) ∧
      ∀ i, i < m → ∃ (ys : List (DataW H × List MemPlace)) (n : Nat), D i = .agg (ys.map (·.1)) ∧ Pl i = ys.flatMap (·.2) ∧ ys.length = fs.size ∧
        ∀ (j : Nat) (f : Field), fs[j]? = some f → ∃ (v : Value) (y : DataW H × List MemPlace), w.cell? (a.add (i * fs.size + j)) = some v ∧ ys[j]? = some y ∧ DataW.trod enc P w base spare held n f.type [v] = some y := by
  rcases open_slice ht h with h0 | ⟨a, len, cap, m, n, D, Pl, hcs, hb, hl, hm, hmm, hx, hi⟩
  · exact .inl h0
  · refine .inr ⟨a, len, cap, m, D, Pl, hcs, hb, hl, hm, hmm, by rw [hC] at hx; exact hx, fun i him => ?_⟩
    obtain ⟨cs', hc, ht'⟩ := hi i him
    rw [hC] at hc
    obtain ⟨ys, n', hn', hy, hlen, hyl, hf⟩ := DataW.trod_struct he ht'
    obtain ⟨_, hcl, hat⟩ := World.cells?_some hc
    simp only [Prod.mk.injEq] at hy
    refine ⟨ys, n', hy.1, hy.2, hyl, fun j f hj => ?_⟩
    obtain ⟨ho, hk⟩ := hone_of hone j f hj
    have hjl : j < fs.size := (Array.getElem?_eq_some_iff.1 hj).1
    have hcell := hat j hjl
    have hv : cs'[j]? = some (cs'[j]'(by omega)) := List.getElem?_eq_getElem (by omega)
    have h1 := hf j f hj
    rw [ho, hk] at h1
    have hone' : (cs'.drop j).take 1 = [cs'[j]'(by omega)] := by
      rw [List.drop_eq_getElem_cons (by omega)]
      rfl
    rw [hone'] at h1
    have hys : ys[j]? = some (ys[j]'(by omega)) := List.getElem?_eq_getElem (by omega)
    refine ⟨_, _, ?_, hys, h1.trans hys⟩
    rw [← Go.Deep.add_add, hcell, hv]

theorem fld_string {t : TypeId} {n : Nat} {v : Value} {y : DataW H × List MemPlace} (ht : P.underlying t = some .string) (h : DataW.trod enc P w base spare held n t [v] = some y) : ∃ s : ByteArray, v = .string s ∧ s.size ≤ maxLen := by
  obtain ⟨s, hc, hy, hs⟩ := DataW.trod_string ht h
  exact ⟨s, by simpa using hc, hs⟩
theorem fld_int {t : TypeId} {k : IntKind} {n : Nat} {v : Value} {y : DataW H × List MemPlace} (ht : P.underlying t = some (.int k)) (h : DataW.trod enc P w base spare held n t [v] = some y) : ∃ s : Int, v = .int k s ∧ (Lit.int k s).wf = true := by
  obtain ⟨s, hc, hy, hs⟩ := DataW.trod_int ht h
  exact ⟨s, by simpa using hc, hs⟩
theorem fld_bool {t : TypeId} {n : Nat} {v : Value} {y : DataW H × List MemPlace} (ht : P.underlying t = some .bool) (h : DataW.trod enc P w base spare held n t [v] = some y) : ∃ s : Bool, v = .bool s := by
  obtain ⟨s, hc, hy⟩ := DataW.trod_bool ht h
  exact ⟨s, by simpa using hc⟩

/-- A row read element by element, of a kind. -/
theorem C_of_elems {α : Type} (d : Kd α) {w : World} (a : Addr) (len : Nat) (X : Nat → α) (cells : α → List Value) (hcap : len ≤ 9223372036854775807) (hK : ∀ x, d.K w x (cells x)) (hc : ∀ i, i < len → ∀ j u, (cells (X i))[j]? = some u → w.cell? (a.add (i * d.sz + j)) = some u) :
    Kd.C d w (some a) len ((List.range len).map X) := by
  have hL : ((List.range len).map X).length = len := by simp
  refine ⟨hL, hcap, fun _ => ⟨a, rfl, fun j q hj => ?_⟩⟩
  have hj2 : j < len := by
    have := (List.getElem?_eq_some_iff.1 hj).1
    rwa [hL] at this
  have hq : X j = q := by
    rw [List.getElem?_map, List.getElem?_range hj2] at hj
    simpa using hj
  subst hq
  exact ⟨cells (X j), d.K_len (hK (X j)), hK (X j), hc j hj2⟩
end

section
variable {H : Type} {enc : TypeId × Value → H} {P : Program} {w : World} {held : Bool}
/-- A slice's cell, opened to a kind's row. -/
theorem open_row {α : Type} [Inhabited α] (d : Kd α) (z : α) (cells : α → List Value) (hK : ∀ x, d.K w x (cells x)) {t e : TypeId} {fs : Array Field} {n : Nat} {v : Value} {y : DataW H × List MemPlace} (ht : P.underlying t = some (.slice e)) (he : P.underlying e = some (.struct fs))
    (hone : oneCellFields P fs = true) (hC : P.cellsOf e = fs.size) (hsz : fs.size = d.sz) (h : DataW.trod enc P w 0 (fun _ => true) held n t [v] = some y)
    (elem : ∀ (a : Addr) (i m : Nat), (∀ (j : Nat) (f : Field), fs[j]? = some f → ∃ (v : Value) (y : DataW H × List MemPlace), w.cell? (a.add (i * fs.size + j)) = some v ∧ DataW.trod enc P w 0 (fun _ => true) held m f.type [v] = some y) →
      ∃ x : α, ∀ j u, (cells x)[j]? = some u → w.cell? (a.add (i * d.sz + j)) = some u) :
    ∃ (A : Option Addr) (c : Nat) (xs : List α), v = .slice A xs.length c ∧ xs.length ≤ c ∧ Kd.C d w A xs.length xs ∧ (xs.length = 0 ∨ ∃ es sp, y.1 = .slice es sp ∧ es.length = xs.length) := by
  rcases open_slice_fields ht he hone hC h with ⟨hcs, _⟩ | ⟨a, len, cap, m, D, Pl, hcs, _, hl, hm, hmm, hy, hi⟩
  · exact ⟨none, 0, [], by simpa using hcs, Nat.le_refl _, ⟨rfl, by simp, fun h => absurd h (by simp)⟩, .inl rfl⟩
  · have hlm : len ≤ m := by rw [hmm]; simp; omega
    obtain ⟨X, hX⟩ := choose_lt (α := α) (n := len) (p := fun i x => ∀ j u, (cells x)[j]? = some u → w.cell? (a.add (i * d.sz + j)) = some u) (fun i hi2 => by
      obtain ⟨ys, n', _, _, _, hf⟩ := hi i (by omega)
      refine elem a i n' (fun j f hj => ?_)
      obtain ⟨v, y, h1, _, h3⟩ := hf j f hj
      exact ⟨v, y, h1, h3⟩)
    have hL : ((List.range len).map X).length = len := by simp
    refine ⟨some a, cap, (List.range len).map X, by rw [hL]; simpa using hcs, by rw [hL]; exact hl, ?_⟩
    rw [hL]
    unfold maxLen at hm
    refine ⟨C_of_elems d a len X cells (by omega) hK hX, .inr ⟨_, _, congrArg Prod.fst hy, by simp⟩⟩

theorem open_rrs {t e : TypeId} {f0 f1 f2 f3 f4 : Field} {n : Nat} {v : Value} {y : DataW H × List MemPlace} (ht : P.underlying t = some (.slice e)) (he : P.underlying e = some (.struct #[f0, f1, f2, f3, f4])) (hone : oneCellFields P #[f0, f1, f2, f3, f4] = true) (hC : P.cellsOf e = 5)
    (h0 : P.underlying f0.type = some .string) (h1 : P.underlying f1.type = some (.int .i64)) (h2 : P.underlying f2.type = some (.int .i64)) (h3 : P.underlying f3.type = some (.int .i64)) (h4 : P.underlying f4.type = some .string)
    (h : DataW.trod enc P w 0 (fun _ => true) held n t [v] = some y) : ∃ (A : Option Addr) (c : Nat) (xs : List S42), v = .slice A xs.length c ∧ xs.length ≤ c ∧ Kd.C k42 w A xs.length xs ∧ (xs.length = 0 ∨ ∃ es sp, y.1 = .slice es sp ∧ es.length = xs.length) := by
  haveI : Inhabited S42 := ⟨z42⟩
  refine open_row k42 z42 (fun x => [.string x.f0, .int .i64 x.f1, .int .i64 x.f2, .int .i64 x.f3, .string x.f4]) (fun x => k42_mk w x) ht he hone hC rfl h (fun a i m hf => ?_)
  obtain ⟨v0, y0, c0, r0⟩ := hf 0 f0 rfl
  obtain ⟨v1, y1, c1, r1⟩ := hf 1 f1 rfl
  obtain ⟨v2, y2, c2, r2⟩ := hf 2 f2 rfl
  obtain ⟨v3, y3, c3, r3⟩ := hf 3 f3 rfl
  obtain ⟨v4, y4, c4, r4⟩ := hf 4 f4 rfl
  obtain ⟨s0, rfl, _⟩ := fld_string h0 r0
  obtain ⟨s1, rfl, _⟩ := fld_int h1 r1
  obtain ⟨s2, rfl, _⟩ := fld_int h2 r2
  obtain ⟨s3, rfl, _⟩ := fld_int h3 r3
  obtain ⟨s4, rfl, _⟩ := fld_string h4 r4
  refine ⟨⟨s0, s1, s2, s3, s4⟩, fun j u hj => ?_⟩
  match j, hj with
  | 0, hj => obtain rfl := Option.some.inj hj; exact c0
  | 1, hj => obtain rfl := Option.some.inj hj; exact c1
  | 2, hj => obtain rfl := Option.some.inj hj; exact c2
  | 3, hj => obtain rfl := Option.some.inj hj; exact c3
  | 4, hj => obtain rfl := Option.some.inj hj; exact c4

theorem open_qs {t e : TypeId} {f0 f1 f2 : Field} {n : Nat} {v : Value} {y : DataW H × List MemPlace} (ht : P.underlying t = some (.slice e)) (he : P.underlying e = some (.struct #[f0, f1, f2])) (hone : oneCellFields P #[f0, f1, f2] = true) (hC : P.cellsOf e = 3)
    (h0 : P.underlying f0.type = some .string) (h1 : P.underlying f1.type = some (.int .i64)) (h2 : P.underlying f2.type = some (.int .i64))
    (h : DataW.trod enc P w 0 (fun _ => true) held n t [v] = some y) : ∃ (A : Option Addr) (c : Nat) (xs : List S71), v = .slice A xs.length c ∧ xs.length ≤ c ∧ Kd.C k71 w A xs.length xs ∧ (xs.length = 0 ∨ ∃ es sp, y.1 = .slice es sp ∧ es.length = xs.length) := by
  haveI : Inhabited S71 := ⟨z71⟩
  refine open_row k71 z71 (fun x => [.string x.f0, .int .i64 x.f1, .int .i64 x.f2]) (fun x => k71_mk w x) ht he hone hC rfl h (fun a i m hf => ?_)
  obtain ⟨v0, y0, c0, r0⟩ := hf 0 f0 rfl
  obtain ⟨v1, y1, c1, r1⟩ := hf 1 f1 rfl
  obtain ⟨v2, y2, c2, r2⟩ := hf 2 f2 rfl
  obtain ⟨s0, rfl, _⟩ := fld_string h0 r0
  obtain ⟨s1, rfl, _⟩ := fld_int h1 r1
  obtain ⟨s2, rfl, _⟩ := fld_int h2 r2
  refine ⟨⟨s0, s1, s2⟩, fun j u hj => ?_⟩
  match j, hj with
  | 0, hj => obtain rfl := Option.some.inj hj; exact c0
  | 1, hj => obtain rfl := Option.some.inj hj; exact c1
  | 2, hj => obtain rfl := Option.some.inj hj; exact c2

/-- The length of a slice in a struct that came in. -/
theorem sized_field {ts : List TypeId} {ds : List (DataW H)} {j i : Nat} {t e : TypeId} {fs : Array Field} {f : Field} {parts : List (DataW H)} {x : DataW H} {len B : Nat} (hsz : (DataW.weightsEach P ts ds).all (· ≤ reachBytes) = true) (ht : ts[j]? = some t) (hd : ds[j]? = some (.agg parts))
    (hu : P.underlying t = some (.struct fs)) (hf : (fs.toList.map (·.type))[i]? = some f.type) (hx : parts[i]? = some x) (hs : P.underlying f.type = some (.slice e)) (hB : P.bytesOf e = B) (hl : len = 0 ∨ ∃ es sp, x = .slice es sp ∧ es.length = len) : len * B ≤ 140737488351232 := by
  rcases hl with rfl | ⟨es, sp, rfl, rfl⟩
  · omega
  · have h1 : (es.length + sp.length) * P.bytesOf e ∈ (DataW.agg parts).weights P t := by
      simp only [DataW.weights, hu]
      exact DataW.weights_mem_each hf hx _ (by simp [DataW.weights, hs])
    have h2 := List.all_eq_true.1 hsz _ (DataW.weights_mem_each ht hd _ h1)
    have h3 : (es.length + sp.length) * P.bytesOf e ≤ reachBytes := by simpa using h2
    rw [hB] at h3
    have h4 : es.length * B ≤ (es.length + sp.length) * B := Nat.mul_le_mul_right _ (by omega)
    unfold reachBytes at h3
    omega

theorem array13 {α : Type} {cs : Array α} (h : cs.size = 13) : ∃ c0 c1 c2 c3 c4 c5 c6 c7 c8 c9 c10 c11 c12, cs = #[c0, c1, c2, c3, c4, c5, c6, c7, c8, c9, c10, c11, c12] := by
  obtain ⟨l⟩ := cs
  match l, h with
  | [c0, c1, c2, c3, c4, c5, c6, c7, c8, c9, c10, c11, c12], _ => exact ⟨c0, c1, c2, c3, c4, c5, c6, c7, c8, c9, c10, c11, c12, rfl⟩

/-- A message by value, opened: its head's nine cells and its four slices, each read. -/
theorem open_msg {r : Reach} {b0 : Nat} {t : TypeId} {fH fQ fA fN fR : Field} {h0 h1 h2 h3 h4 h5 h6 h7 h8 : Field} {base : Nat} {spare : Nat → Bool} {v : Value} {d : DataW H} {p : List MemPlace}
    (hs : P.underlying t = some (.struct #[fH, fQ, fA, fN, fR])) (hh : P.underlying fH.type = some (.struct #[h0, h1, h2, h3, h4, h5, h6, h7, h8])) (hone : oneCellFields P #[h0, h1, h2, h3, h4, h5, h6, h7, h8] = true) (hC : P.cellsOf t = 13)
    (oH : fH.offset = 0) (cH : P.cellsOf fH.type = 9) (oQ : fQ.offset = 9) (cQ : P.cellsOf fQ.type = 1) (oA : fA.offset = 10) (cA : P.cellsOf fA.type = 1) (oN : fN.offset = 11) (cN : P.cellsOf fN.type = 1) (oR : fR.offset = 12) (cR : P.cellsOf fR.type = 1)
    (hv : Value.okWide P w r b0 t v) (h : DataW.Trod enc P w base spare held t v d p) :
    ∃ (c0 c1 c2 c3 c4 c5 c6 c7 c8 c9 c10 c11 c12 : Value) (n m : Nat) (yH y0 y1 y2 y3 y4 y5 y6 y7 y8 y9 y10 y11 y12 : DataW H × List MemPlace), v = .agg #[c0, c1, c2, c3, c4, c5, c6, c7, c8, c9, c10, c11, c12] ∧ d = .agg [yH.1, y9.1, y10.1, y11.1, y12.1] ∧
      DataW.trod enc P w base spare held m h0.type [c0] = some y0 ∧ DataW.trod enc P w base spare held m h1.type [c1] = some y1 ∧ DataW.trod enc P w base spare held m h2.type [c2] = some y2 ∧ DataW.trod enc P w base spare held m h3.type [c3] = some y3 ∧ DataW.trod enc P w base spare held m h4.type [c4] = some y4 ∧
      DataW.trod enc P w base spare held m h5.type [c5] = some y5 ∧ DataW.trod enc P w base spare held m h6.type [c6] = some y6 ∧ DataW.trod enc P w base spare held m h7.type [c7] = some y7 ∧ DataW.trod enc P w base spare held m h8.type [c8] = some y8 ∧
      DataW.trod enc P w base spare held n fQ.type [c9] = some y9 ∧ DataW.trod enc P w base spare held n fA.type [c10] = some y10 ∧ DataW.trod enc P w base spare held n fN.type [c11] = some y11 ∧ DataW.trod enc P w base spare held n fR.type [c12] = some y12 := by
  obtain ⟨cs, rfl, hsz⟩ := okWide_struct hs hv
  obtain ⟨c0, c1, c2, c3, c4, c5, c6, c7, c8, c9, c10, c11, c12, rfl⟩ := array13 (hsz.trans hC)
  obtain ⟨fuel, hf⟩ := h
  obtain ⟨xs, n, _, hx, _, hlen, hg⟩ := DataW.trod_struct hs hf
  match xs, hlen with
  | [z0, z1, z2, z3, z4], _ =>
    have g0 := hg 0 fH rfl
    have g1 := hg 1 fQ rfl
    have g2 := hg 2 fA rfl
    have g3 := hg 3 fN rfl
    have g4 := hg 4 fR rfl
    rw [oH, cH] at g0
    rw [oQ, cQ] at g1
    rw [oA, cA] at g2
    rw [oN, cN] at g3
    rw [oR, cR] at g4
    have g0' : DataW.trod enc P w base spare held n fH.type [c0, c1, c2, c3, c4, c5, c6, c7, c8] = some z0 := by simpa [Value.cells] using g0
    obtain ⟨ws, m, _, _, _, hwl, hw⟩ := DataW.trod_struct hh g0'
    match ws, hwl with
    | [w0, w1, w2, w3, w4, w5, w6, w7, w8], _ =>
      have q0 := hw 0 h0 rfl
      have q1 := hw 1 h1 rfl
      have q2 := hw 2 h2 rfl
      have q3 := hw 3 h3 rfl
      have q4 := hw 4 h4 rfl
      have q5 := hw 5 h5 rfl
      have q6 := hw 6 h6 rfl
      have q7 := hw 7 h7 rfl
      have q8 := hw 8 h8 rfl
      obtain ⟨o0, k0⟩ := hone_of hone 0 h0 rfl
      obtain ⟨o1, k1⟩ := hone_of hone 1 h1 rfl
      obtain ⟨o2, k2⟩ := hone_of hone 2 h2 rfl
      obtain ⟨o3, k3⟩ := hone_of hone 3 h3 rfl
      obtain ⟨o4, k4⟩ := hone_of hone 4 h4 rfl
      obtain ⟨o5, k5⟩ := hone_of hone 5 h5 rfl
      obtain ⟨o6, k6⟩ := hone_of hone 6 h6 rfl
      obtain ⟨o7, k7⟩ := hone_of hone 7 h7 rfl
      obtain ⟨o8, k8⟩ := hone_of hone 8 h8 rfl
      rw [o0, k0] at q0
      rw [o1, k1] at q1
      rw [o2, k2] at q2
      rw [o3, k3] at q3
      rw [o4, k4] at q4
      rw [o5, k5] at q5
      rw [o6, k6] at q6
      rw [o7, k7] at q7
      rw [o8, k8] at q8
      exact ⟨c0, c1, c2, c3, c4, c5, c6, c7, c8, c9, c10, c11, c12, n, m, z0, w0, w1, w2, w3, w4, w5, w6, w7, w8, z1, z2, z3, z4, rfl, by simpa using congrArg Prod.fst hx, q0, q1, q2, q3, q4, q5, q6, q7, q8, g1, g2, g3, g4⟩
end
end Go.Proofs.Ytimkafkiphfacaa.M
