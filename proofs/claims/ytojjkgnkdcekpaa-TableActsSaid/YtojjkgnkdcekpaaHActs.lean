/- A slice of TableOnce's acts that came in, each with what is known of it. -/
import Derived.Test.YtojjkgnkdcekpaaPx0
import Derived.Deep.Slices
import Derived.Deep.Fields
import Derived.Deep.Strs
import Derived.ChangeSame
import Derived.ChangeArms
import Derived.OpenShut
import Derived.Carry
import Derived.ProofKit
import Derived.Lib.SmallJoins
import Derived.SizedLaws
set_option linter.unusedVariables false
namespace Go.Proofs.Ytojjkgnkdcekpaa.M
open Go Go.Joins Go.ChangeShapes Go.WideShapes Go.RowKit Go.Deep Go.Proofs.YtojjkgnkdcekpaaW.PrintWords Go.Proofs.Ytojjkgnkdcekpaa.P

/-- An act. -/
structure S39 where
  kind : Int
  a : S35
  qn : ByteArray
  qt : Int
  qc : Int
  now : Int
def z39 : S39 := ⟨0, z35, ⟨#[]⟩, 0, 0, 0⟩
def k39 : Kd S39 := Kd.iso (Kd.pair (Kd.int .i64) (Kd.pair k35 (Kd.pair Kd.string (Kd.pair (Kd.int .i64) (Kd.pair (Kd.int .i64) (Kd.int .i64)))))) (fun x : S39 => (x.kind, x.a, x.qn, x.qt, x.qc, x.now))
def c39 (x : S39) : List Value := [.int .i64 x.kind, .int .i64 x.a.f0, .int .i64 x.a.f1, .int .i64 x.a.f2, .string x.a.f3, .string x.a.f4, .string x.a.f5.f0, .int .i64 x.a.f5.f1, .int .i64 x.a.f6, .string x.qn, .int .i64 x.qt, .int .i64 x.qc, .int .i64 x.now]
theorem k39_mk (w : World) (x : S39) : k39.K w x (c39 x) := ⟨[_], [_, _, _, _, _, _, _, _, _, _, _, _], rfl, rfl, ⟨[_, _, _, _, _, _, _, _], [_, _, _, _], rfl, k35_mk w x.a, ⟨[_], [_, _, _], rfl, rfl, ⟨[_], [_, _], rfl, rfl, ⟨[_], [_], rfl, rfl, rfl⟩⟩⟩⟩⟩
theorem k39_open {w : World} {x : S39} {cs : List Value} (h : k39.K w x cs) : cs = c39 x := by
  obtain ⟨_, _, rfl, rfl, ⟨_, _, rfl, h2, ⟨_, _, rfl, rfl, ⟨_, _, rfl, rfl, ⟨_, _, rfl, rfl, rfl⟩⟩⟩⟩⟩ := h
  obtain rfl := k35_open h2
  exact rfl
/-- What is known of an act's numbers. -/
def Ok39 (x : S39) : Prop := (Lit.int .i64 x.a.f1).wf = true ∧ (Lit.int .i64 x.a.f2).wf = true ∧ (Lit.int .i64 x.a.f5.f1).wf = true ∧ (Lit.int .i64 x.qt).wf = true
section
variable {H : Type} {enc : TypeId × Value → H} {P : Program} {w : World} {held : Bool}
theorem sub_get {l : List Value} {o k j : Nat} {v : Value} (h : ((l.drop o).take k)[j]? = some v) : l[o + j]? = some v := by
  rw [List.getElem?_take] at h
  split at h
  · rw [List.getElem?_drop] at h
    exact h
  · cases h
theorem fld_in {t : TypeId} {fs : Array Field} {n : Nat} {cs : List Value} {y : DataW H × List MemPlace} (ht : P.underlying t = some (.struct fs)) (h : DataW.trod enc P w 0 (fun _ => true) held n t cs = some y) (j : Nat) (f : Field) (hj : fs[j]? = some f) : ∃ n' y', DataW.trod enc P w 0 (fun _ => true) held n' f.type ((cs.drop f.offset).take (P.cellsOf f.type)) = some y' := by
  obtain ⟨ys, n', hn', hy, hlen, hyl, hf⟩ := DataW.trod_struct ht h
  have hlt : j < fs.size := (Array.getElem?_eq_some_iff.1 hj).1
  have hys : ys[j]? = some (ys[j]'(by omega)) := List.getElem?_eq_getElem (by omega)
  exact ⟨n', _, (hf j f hj).trans hys⟩
theorem leaf_string {t : TypeId} {n : Nat} {cs : List Value} {y : DataW H × List MemPlace} (ht : P.underlying t = some .string) (h : DataW.trod enc P w 0 (fun _ => true) held n t cs = some y) : ∃ s : ByteArray, cs[0]? = some (.string s) := by
  obtain ⟨s, hc, hy, hs⟩ := DataW.trod_string ht h
  exact ⟨s, by rw [hc]; rfl⟩
theorem leaf_int {t : TypeId} {k : IntKind} {n : Nat} {cs : List Value} {y : DataW H × List MemPlace} (ht : P.underlying t = some (.int k)) (h : DataW.trod enc P w 0 (fun _ => true) held n t cs = some y) : ∃ s : Int, cs[0]? = some (.int k s) ∧ (Lit.int k s).wf = true := by
  obtain ⟨s, hc, hy, hs⟩ := DataW.trod_int ht h
  exact ⟨s, by rw [hc]; rfl, hs⟩
theorem C_of_cells {α : Type} (d : Kd α) {w : World} (a : Addr) (len : Nat) (X : Nat → α) (cells : α → List Value) (hcap : len ≤ 9223372036854775807) (hK : ∀ x, d.K w x (cells x)) (hc : ∀ i, i < len → ∀ j u, (cells (X i))[j]? = some u → w.cell? (a.add (i * d.sz + j)) = some u) :
    Kd.C d w (some a) len ((List.range len).map X) := by
  have hL : ((List.range len).map X).length = len := by simp
  refine ⟨hL, hcap, fun _ => ⟨a, rfl, fun j q hj => ?_⟩⟩
  have hj2 : j < len := by
    have := (List.getElem?_eq_some_iff.1 hj).1
    rwa [hL] at this
  have hq : X j = q := by
    rw [List.getElem?_map, List.getElem?_range hj2] at hj
    simpa using hj
  subst hq
  exact ⟨cells (X j), d.K_len (hK (X j)), hK (X j), hc j hj2⟩
end
section
variable {H : Type} {enc : TypeId × Value → H} {w : World} {held : Bool}
theorem open_act {n : Nat} {cs : List Value} {y : DataW H × List MemPlace} (h : DataW.trod enc Try.prog w 0 (fun _ => true) held n 39 cs = some y) : ∃ x : S39, Ok39 x ∧ ∀ (j : Nat) (u : Value), (c39 x)[j]? = some u → cs[j]? = some u := by
  obtain ⟨_, _, r0⟩ := fld_in Try.underlying39 h 0 _ rfl
  obtain ⟨_, _, r1⟩ := fld_in Try.underlying39 h 1 _ rfl
  obtain ⟨_, _, r2⟩ := fld_in Try.underlying39 h 2 _ rfl
  obtain ⟨_, _, r3⟩ := fld_in Try.underlying39 h 3 _ rfl
  obtain ⟨k, hk, -⟩ := leaf_int Try.underlying3 r0
  obtain ⟨nw, hn, -⟩ := leaf_int Try.underlying3 r3
  obtain ⟨_, _, a0⟩ := fld_in Try.underlying35 r1 0 _ rfl
  obtain ⟨_, _, a1⟩ := fld_in Try.underlying35 r1 1 _ rfl
  obtain ⟨_, _, a2⟩ := fld_in Try.underlying35 r1 2 _ rfl
  obtain ⟨_, _, a3⟩ := fld_in Try.underlying35 r1 3 _ rfl
  obtain ⟨_, _, a4⟩ := fld_in Try.underlying35 r1 4 _ rfl
  obtain ⟨_, _, a5⟩ := fld_in Try.underlying35 r1 5 _ rfl
  obtain ⟨_, _, a6⟩ := fld_in Try.underlying35 r1 6 _ rfl
  obtain ⟨x0, h0, -⟩ := leaf_int Try.underlying3 a0
  obtain ⟨x1, h1, q1⟩ := leaf_int Try.underlying3 a1
  obtain ⟨x2, h2, q2⟩ := leaf_int Try.underlying3 a2
  obtain ⟨x3, h3⟩ := leaf_string Try.underlying9 a3
  obtain ⟨x4, h4⟩ := leaf_string Try.underlying9 a4
  obtain ⟨_, _, s0⟩ := fld_in Try.underlying33 a5 0 _ rfl
  obtain ⟨_, _, s1⟩ := fld_in Try.underlying33 a5 1 _ rfl
  obtain ⟨x5, h5⟩ := leaf_string Try.underlying9 s0
  obtain ⟨x6, h6, q6⟩ := leaf_int Try.underlying3 s1
  obtain ⟨x7, h7, -⟩ := leaf_int Try.underlying3 a6
  obtain ⟨_, _, b0⟩ := fld_in Try.underlying37 r2 0 _ rfl
  obtain ⟨_, _, b1⟩ := fld_in Try.underlying37 r2 1 _ rfl
  obtain ⟨_, _, b2⟩ := fld_in Try.underlying37 r2 2 _ rfl
  obtain ⟨y0, g0⟩ := leaf_string Try.underlying9 b0
  obtain ⟨y1, g1, p1⟩ := leaf_int Try.underlying3 b1
  obtain ⟨y2, g2, -⟩ := leaf_int Try.underlying3 b2
  refine ⟨⟨k, ⟨x0, x1, x2, x3, x4, ⟨x5, x6⟩, x7⟩, y0, y1, y2, nw⟩, ⟨q1, q2, q6, p1⟩, fun j u hj => ?_⟩
  match j, hj with
  | 0, hj => obtain rfl := Option.some.inj hj; exact sub_get hk
  | 1, hj => obtain rfl := Option.some.inj hj; exact sub_get (sub_get h0)
  | 2, hj => obtain rfl := Option.some.inj hj; exact sub_get (sub_get h1)
  | 3, hj => obtain rfl := Option.some.inj hj; exact sub_get (sub_get h2)
  | 4, hj => obtain rfl := Option.some.inj hj; exact sub_get (sub_get h3)
  | 5, hj => obtain rfl := Option.some.inj hj; exact sub_get (sub_get h4)
  | 6, hj => obtain rfl := Option.some.inj hj; exact sub_get (sub_get (sub_get h5))
  | 7, hj => obtain rfl := Option.some.inj hj; exact sub_get (sub_get (sub_get h6))
  | 8, hj => obtain rfl := Option.some.inj hj; exact sub_get (sub_get h7)
  | 9, hj => obtain rfl := Option.some.inj hj; exact sub_get (sub_get g0)
  | 10, hj => obtain rfl := Option.some.inj hj; exact sub_get (sub_get g1)
  | 11, hj => obtain rfl := Option.some.inj hj; exact sub_get (sub_get g2)
  | 12, hj => obtain rfl := Option.some.inj hj; exact sub_get hn
theorem open_C_acts {b0 : Nat} {v : Value} {dd : DataW H} {p : List MemPlace} (hv : Value.okWide Try.prog w .any b0 22 v) (h : DataW.Trod enc Try.prog w 0 (fun _ => true) held 22 v dd p) :
    ∃ (A : Option Addr) (c : Nat) (xs : List S39), v = .slice A xs.length c ∧ xs.length ≤ c ∧ Kd.C k39 w A xs.length xs ∧ (∀ x ∈ xs, Ok39 x) := by
  haveI : Inhabited S39 := ⟨z39⟩
  obtain ⟨a, len, cap, rfl⟩ := okWide_slice Try.underlying22 hv
  obtain ⟨fuel, hf⟩ := h
  have hC : Try.prog.cellsOf 39 = 13 := by kernel_rfl
  rcases open_slice Try.underlying22 hf with ⟨hcs, _⟩ | ⟨a, len, cap, m, n, D, Pl, hcs, _, hl, hm, hmm, hy, hi⟩
  · simp [Value.cells] at hcs
    obtain ⟨rfl, rfl, rfl⟩ := hcs
    exact ⟨none, 0, [], rfl, Nat.le_refl _, ⟨rfl, by simp, fun h => absurd h (by simp)⟩, by simp⟩
  · simp [Value.cells] at hcs
    obtain ⟨rfl, rfl, rfl⟩ := hcs
    have hlm : len ≤ m := by rw [hmm]; simp; omega
    obtain ⟨X, hX⟩ := choose_lt (α := S39) (n := len) (p := fun i x => Ok39 x ∧ ∀ j u, (c39 x)[j]? = some u → w.cell? (a.add (i * 13 + j)) = some u) (fun i hi2 => by
      obtain ⟨cs', hc, ht'⟩ := hi i (by omega)
      rw [hC] at hc
      obtain ⟨_, hcl, hat⟩ := World.cells?_some hc
      obtain ⟨x, h1, h2⟩ := open_act ht'
      refine ⟨x, h1, fun j u hj => ?_⟩
      have h3 := h2 j u hj
      have hlt : j < 13 := by
        have := (List.getElem?_eq_some_iff.1 h3).1
        omega
      rw [← Go.Deep.add_add, hat j hlt, h3])
    have hL : ((List.range len).map X).length = len := by simp
    refine ⟨some a, cap, (List.range len).map X, by rw [hL], by rw [hL]; exact hl, ?_, ?_⟩
    · rw [hL]
      unfold maxLen at hm
      exact C_of_cells k39 a len X c39 (by omega) (k39_mk w) (fun i hi => (hX i hi).2)
    · intro y hy
      obtain ⟨j, hj, rfl⟩ := List.mem_map.1 hy
      exact (hX j (List.mem_range.1 hj)).1
/-- An act read. -/
theorem at_39 {w : World} {A : Option Addr} {n : Nat} {xs : List S39} (h : Kd.C k39 w A n xs) (i : Int) (h0 : 0 ≤ i) (h1 : i < n) : ∃ ad, A = some ad ∧ w.cell? (ad.add (i.toNat * 13)) = some (.int .i64 (xs.getD i.toNat z39).kind) ∧ w.cell? ⟨(ad.add (i.toNat * 13)).block, (ad.add (i.toNat * 13)).off + 1, none⟩ = some (.int .i64 (xs.getD i.toNat z39).a.f0) ∧ w.cell? ⟨(ad.add (i.toNat * 13)).block, (ad.add (i.toNat * 13)).off + 2, none⟩ = some (.int .i64 (xs.getD i.toNat z39).a.f1) ∧ w.cell? ⟨(ad.add (i.toNat * 13)).block, (ad.add (i.toNat * 13)).off + 3, none⟩ = some (.int .i64 (xs.getD i.toNat z39).a.f2) ∧ w.cell? ⟨(ad.add (i.toNat * 13)).block, (ad.add (i.toNat * 13)).off + 4, none⟩ = some (.string (xs.getD i.toNat z39).a.f3) ∧ w.cell? ⟨(ad.add (i.toNat * 13)).block, (ad.add (i.toNat * 13)).off + 5, none⟩ = some (.string (xs.getD i.toNat z39).a.f4) ∧ w.cell? ⟨(ad.add (i.toNat * 13)).block, (ad.add (i.toNat * 13)).off + 6, none⟩ = some (.string (xs.getD i.toNat z39).a.f5.f0) ∧ w.cell? ⟨(ad.add (i.toNat * 13)).block, (ad.add (i.toNat * 13)).off + 7, none⟩ = some (.int .i64 (xs.getD i.toNat z39).a.f5.f1) ∧ w.cell? ⟨(ad.add (i.toNat * 13)).block, (ad.add (i.toNat * 13)).off + 8, none⟩ = some (.int .i64 (xs.getD i.toNat z39).a.f6) ∧ w.cell? ⟨(ad.add (i.toNat * 13)).block, (ad.add (i.toNat * 13)).off + 9, none⟩ = some (.string (xs.getD i.toNat z39).qn) ∧ w.cell? ⟨(ad.add (i.toNat * 13)).block, (ad.add (i.toNat * 13)).off + 10, none⟩ = some (.int .i64 (xs.getD i.toNat z39).qt) ∧ w.cell? ⟨(ad.add (i.toNat * 13)).block, (ad.add (i.toNat * 13)).off + 11, none⟩ = some (.int .i64 (xs.getD i.toNat z39).qc) ∧ w.cell? ⟨(ad.add (i.toNat * 13)).block, (ad.add (i.toNat * 13)).off + 12, none⟩ = some (.int .i64 (xs.getD i.toNat z39).now) := by
  obtain ⟨ad, c, e, _, hK, hc0⟩ := Kd.C_get h z39 i h0 h1
  have hc : ∀ j u, c[j]? = some u → w.cell? (ad.add (i.toNat * 13 + j)) = some u := hc0
  obtain rfl := k39_open hK
  exact ⟨ad, e, hc 0 _ rfl, by rw [← add_field _ _ 1 (by omega)]; exact hc 1 _ rfl, by rw [← add_field _ _ 2 (by omega)]; exact hc 2 _ rfl, by rw [← add_field _ _ 3 (by omega)]; exact hc 3 _ rfl, by rw [← add_field _ _ 4 (by omega)]; exact hc 4 _ rfl, by rw [← add_field _ _ 5 (by omega)]; exact hc 5 _ rfl, by rw [← add_field _ _ 6 (by omega)]; exact hc 6 _ rfl, by rw [← add_field _ _ 7 (by omega)]; exact hc 7 _ rfl, by rw [← add_field _ _ 8 (by omega)]; exact hc 8 _ rfl, by rw [← add_field _ _ 9 (by omega)]; exact hc 9 _ rfl, by rw [← add_field _ _ 10 (by omega)]; exact hc 10 _ rfl, by rw [← add_field _ _ 11 (by omega)]; exact hc 11 _ rfl, by rw [← add_field _ _ 12 (by omega)]; exact hc 12 _ rfl⟩
end
end Go.Proofs.Ytojjkgnkdcekpaa.M
