/- What is waited for: the map that counts it, its keys. -/
import Derived.Test.YtojjkgnkdcekpaaPx0
import Derived.Maps.Own
import Derived.Maps.OwnSet
import Derived.Maps.Views
import Derived.DeepKeys4
import Derived.WideKeyEntry
import Derived.IntWalk
import Derived.Deep.QuietTactic
import Derived.Deep.RegionHeld3
import Derived.Deep.DrawnRows
import Derived.BigQuiet
import Derived.BigRegion
import Derived.Lib.SliceRun
import Derived.Below
import Derived.Test.YtojjkgnkdcekpaaSPlaces
import Derived.Laws.BitsLemmas
namespace Go.Proofs.Ytojjkgnkdcekpaa.M
open Go Go.RowKit

theorem and_mask (x : Int) (i : Nat) (hi : i ≤ 62) : bits .and .i64 x (((2 ^ i - 1 : Nat)) : Int) = x % ((2 ^ i : Nat) : Int) := by
  have hp : 2 ^ i ≤ 2 ^ 62 := Nat.pow_le_pow_right (by decide) hi
  have hpos : 0 < 2 ^ i := Nat.two_pow_pos i
  have h64 : (2 ^ 64 : Nat) = 2 ^ i * 2 ^ (64 - i) := by rw [← Nat.pow_add]; congr 1; omega
  have e1 : (BitVec.ofInt 64 x).toNat = (x % (2 ^ 64 : Nat)).toNat := BitVec.toNat_ofInt ..
  have e2 : (BitVec.ofInt 64 (((2 ^ i - 1 : Nat)) : Int)).toNat = 2 ^ i - 1 := by
    rw [BitVec.ofInt_natCast, BitVec.toNat_ofNat]
    apply Nat.mod_eq_of_lt
    omega
  simp only [bits, BitVec.toNat_and]
  show IntKind.i64.wrap (((BitVec.ofInt 64 x).toNat &&& (BitVec.ofInt 64 (((2 ^ i - 1 : Nat)) : Int)).toNat : Nat) : Int) = _
  rw [e1, e2, Nat.and_two_pow_sub_one_eq_mod]
  have hx : 0 ≤ x % ((2 ^ 64 : Nat) : Int) := Int.emod_nonneg _ (by decide)
  have e3 : (((x % ((2 ^ 64 : Nat) : Int)).toNat % 2 ^ i : Nat) : Int) = x % ((2 ^ i : Nat) : Int) := by
    rw [Int.natCast_emod, Int.toNat_of_nonneg hx]
    apply Int.emod_emod_of_dvd
    rw [h64]
    exact Int.natCast_dvd_natCast.2 (Nat.dvd_mul_right _ _)
  rw [e3]
  have h0 := Int.emod_nonneg x (show ((2 ^ i : Nat) : Int) ≠ 0 by omega)
  have h1 := Int.emod_lt_of_pos x (show (0 : Int) < ((2 ^ i : Nat) : Int) by omega)
  rw [IntKind.wrap_i64]
  omega

theorem and127 (x : Int) : bits .and .i64 x 127 = x % 128 := and_mask x 7 (by decide)
theorem and63 (x : Int) : bits .and .i64 x 63 = x % 64 := and_mask x 6 (by decide)
theorem and31 (x : Int) : bits .and .i64 x 31 = x % 32 := and_mask x 5 (by decide)
theorem and15 (x : Int) : bits .and .i64 x 15 = x % 16 := and_mask x 4 (by decide)
theorem and7 (x : Int) : bits .and .i64 x 7 = x % 8 := and_mask x 3 (by decide)
theorem and3 (x : Int) : bits .and .i64 x 3 = x % 4 := and_mask x 2 (by decide)
theorem and1 (x : Int) : bits .and .i64 x 1 = x % 2 := and_mask x 1 (by decide)
theorem and1023 (x : Int) : bits .and .i64 x 1023 = x % 1024 := and_mask x 10 (by decide)
theorem and32767 (x : Int) : bits .and .i64 x 32767 = x % 32768 := and_mask x 15 (by decide)
theorem and65535 (x : Int) : bits .and .i64 x 65535 = x % 65536 := and_mask x 16 (by decide)

end Go.Proofs.Ytojjkgnkdcekpaa.M

set_option linter.unusedVariables false
set_option linter.unusedSimpArgs false
namespace Go.Proofs.Ytojjkgnkdcekpaa.M
open Go Go.RowKit Go.ChangeMaps Go.Proofs.YtojjkgnkdcekpaaW.PrintWords Go.Proofs.YtojjkgnkdcekpaaW.PrintLast Go.Proofs.YtojjkgnkdcekpaaW.PrintMore Go.Proofs.Ytojjkgnkdcekpaa.P

theorem size_alloc' (w : World) (o : Obj) : (w.alloc o).heap.size = w.heap.size + 1 := by
  show (w.heap.push o).size = _
  exact Array.size_push _
theorem set_far {w : World} {g b i j : Nat} {v : Value} (h : w.cell? ⟨b, j, none⟩ = some v) (hne : b ≠ g) (u : Value) : (w.setCell ⟨g, i, none⟩ u).cell? ⟨b, j, none⟩ = some v := by
  rw [World.cell?_of_block (Below.heap_setCell w ⟨g, i, none⟩ u b hne)]
  exact h
structure K66 where
  a : Int
  i : Int
  s : ByteArray
  t : Int
def kv (k : K66) : Value := .agg #[.int .i64 k.a, .int .i64 k.i, .string k.s, .int .i64 k.t]
def K66.Good (k : K66) : Prop := (Lit.int .i64 k.a).wf = true ∧ (Lit.int .i64 k.i).wf = true ∧ k.s.size ≤ maxLen ∧ (Lit.int .i64 k.t).wf = true
theorem laidOut19 : laidOutB Try.prog = true := by kernel_rfl
theorem keyType66 : Try.prog.keyType 66 = true := by kernel_rfl
theorem wide66 : (match Try.prog.underlying 66 with | some (.array _ _) | some (.struct _) => true | _ => false) = true := by rw [Try.underlying66]
theorem row66 : (66 : TypeId) < Try.prog.types.size := of_decide_eq_true (by kernel_rfl)
theorem law66 : Go.WideMaps.KeyLaw Try.prog 66 := deep_law_laid laidOut19 (m := 2) (by omega) row66 (by kernel_rfl) wide66
theorem keyed66 : Go.Maps.Keyed Try.prog 66 := Go.Maps.Keyed.of_law law66
theorem cells66 : Try.prog.cellsOf 66 = 4 := by kernel_rfl
theorem cells3 : Try.prog.cellsOf 3 = 1 := by kernel_rfl
theorem cells9 : Try.prog.cellsOf 9 = 1 := by kernel_rfl
theorem lits66 (d : Nat) (k : K66) (h : k.Good) : Try.prog.keyLits (d + 2) 66 [.int .i64 k.a, .int .i64 k.i, .string k.s, .int .i64 k.t] = some [.int .i64 k.a, .int .i64 k.i, .string k.s.data.toList, .int .i64 k.t] := by
  obtain ⟨h1, h2, h3, h4⟩ := h
  simp [Program.keyLits, Try.underlying66, cells66, cells3, cells9, Try.underlying3, Try.underlying9, h1, h2, h3, h4]
def klit (k : K66) : Lit := .string (keyBytes [.int .i64 k.a, .int .i64 k.i, .string k.s.data.toList, .int .i64 k.t])
theorem key_some (k : K66) (h : k.Good) : keyOf Try.prog 66 (kv k) = some (klit k) := by
  have hf : (kv k).formed Try.prog 66 = true := by simp [Value.formed, kv, Try.underlying66, cells66]
  have h2 : (66 : Nat) < Try.prog.types.size := row66
  obtain ⟨d, hd⟩ : ∃ d, Try.prog.types.size + 1 = d + 2 := ⟨Try.prog.types.size - 1, by omega⟩
  unfold keyOf
  rw [Try.underlying66]
  simp only [keyType66, hf, Bool.true_and, if_true, hd]
  rw [show (kv k).cells.toList = [.int .i64 k.a, .int .i64 k.i, .string k.s, .int .i64 k.t] from rfl, lits66 d k h]
  rfl
theorem kv_inj {a b : K66} (h : kv a = kv b) : a = b := by
  cases a; cases b
  unfold kv at h
  simp at h
  obtain ⟨h1, h2, h3, h4⟩ := h
  subst h1 h2 h3 h4
  rfl
theorem klit_inj {a b : K66} (ha : a.Good) (hb : b.Good) (h : klit a = klit b) : a = b :=
  kv_inj (keyed66.inj (key_some a ha) (by rw [h]; exact key_some b hb))

/-- The map that counts. -/
def ManyAt (w : World) (m n : Nat) (f : K66 → Int) : Prop := ∃ D : DataW Unit, w.ownsMap Try.prog 66 (plainElem Try.prog 3) m n D ∧ ∀ x : K66, x.Good → D.atKey (klit x) (.lit (.int .i64 0)) = .lit (.int .i64 (f x))
theorem Many_look {w : World} {m n : Nat} {f : K66 → Int} (h : ManyAt w m n f) (x : K66) (hx : x.Good) : (Instr.lookup 59 (.map (some m)) (kv x) false).run Try.prog w = .ok (.int .i64 (f x)) w := by
  obtain ⟨D, ho, hD⟩ := h
  obtain ⟨v, ps, hrun, hv⟩ := ho.lookup (t := 59) (e := 3) keyed66 Try.underlying59 (Try.zeroValue3 w) (plainElem_int Try.underlying3 (by decide)) (key_some x hx)
  obtain ⟨a, rfl, hb, _⟩ := plainElem_int_inv Try.underlying3 hv
  simp only [Prod.mk.injEq] at hb
  rw [hD x hx] at hb
  have : f x = a := by
    have h1 := hb.1
    injection h1 with h1
    injection h1
  rw [this]
  exact hrun
theorem Many_made (w : World) : ManyAt (w.alloc (.map #[] 0)) w.heap.size 0 (fun _ => 0) := ⟨_, World.ownsMap_made w _ _ _, fun x _ => by
  have h := WideAt.atKey_none (entries := ([] : List (Lit × DataW Unit))) (k := klit x) (.lit (.int .i64 0)) (fun p hp => by simp at hp)
  simpa using h⟩
theorem Many_kept {w w' : World} {m n : Nat} {f : K66 → Int} {row : Option Nat} (h : ManyAt w m n f) (hg : w.grownBy w' row) (hne : some m ≠ row) : ManyAt w' m n f := by
  obtain ⟨D, ho, hD⟩ := h
  exact ⟨D, ho.kept hg hne, hD⟩
theorem Many_below {w w' : World} {m n : Nat} {f : K66 → Int} (h : ManyAt w m n f) (hb : Below w.heap.size w w') : ManyAt w' m n f := Many_kept h (grown_of_below hb none) (by simp)
theorem Many_lt {w : World} {m n : Nat} {f : K66 → Int} (h : ManyAt w m n f) : m < w.heap.size := by
  obtain ⟨D, ho, hD⟩ := h
  exact ho.lt
theorem Many_map {w : World} {m n : Nat} {f : K66 → Int} (h : ManyAt w m n f) : ∃ es clock, w.heap[m]? = some (.map es clock) := by
  obtain ⟨D, ⟨es, clock, hb, _⟩, hD⟩ := h
  exact ⟨es, clock, hb⟩
theorem Many_congr {w : World} {m n : Nat} {f f' : K66 → Int} (h : ManyAt w m n f) (hf : ∀ x, x.Good → f x = f' x) : ManyAt w m n f' := by
  obtain ⟨D, ho, hD⟩ := h
  exact ⟨D, ho, fun x hx => by rw [hD x hx, hf x hx]⟩
theorem Many_set {w : World} {m n : Nat} {f : K66 → Int} (h : ManyAt w m n f) {a : Addr} (ha : m ≠ a.block) (u : Value) : ManyAt (w.setCell a u) m n f := by
  obtain ⟨D, ho, hD⟩ := h
  exact ⟨D, ho.setCell ha u, hD⟩
noncomputable def upd (f : K66 → Int) (x : K66) (c : Int) : K66 → Int := open Classical in fun y => if y = x then c else f y
theorem upd_same (f : K66 → Int) (x : K66) (c : Int) : upd f x c x = c := by unfold upd; simp
theorem upd_other (f : K66 → Int) {x y : K66} (h : y ≠ x) (c : Int) : upd f x c y = f y := by unfold upd; simp [h]
theorem Many_store {w : World} {m n : Nat} {f : K66 → Int} (h : ManyAt w m n f) (x : K66) (hx : x.Good) (c : Int) (hc : (Lit.int .i64 c).wf = true) (hn : n ≤ 1000000) : ∃ w', (Instr.mapUpdate 59 (.map (some m)) (kv x) (.int .i64 c)).run Try.prog w = .ok () w' ∧ ManyAt w' m (n + 1) (upd f x c) ∧ w.grownBy w' (some m) := by
  obtain ⟨D, ho, hD⟩ := h
  obtain ⟨w', h1, h2, h3⟩ := ho.update (t := 59) (e := 3) keyed66 Try.underlying59 (by unfold maxLen; omega) (key_some x hx) (plainElem_int Try.underlying3 hc)
  refine ⟨w', h1, ⟨_, h2, fun y hy => ?_⟩, h3⟩
  by_cases e : y = x
  · subst e
    rw [Go.Maps.atKey_put_same ho.isMap (by simp [klit, WideAt.IsKeyLit]), upd_same]
  · rw [Go.Maps.atKey_put_other (by intro h; exact e (klit_inj hy hx h)), hD y hy, upd_other f e]
theorem setBlock_two (w : World) (b : Nat) (o o' : Obj) : setBlock (setBlock w b o) b o' = setBlock w b o' := by
  unfold setBlock
  congr 1
  apply Array.ext'
  simp
theorem turned_grown {w : World} {m : Nat} {es : Array MapEntry} {clock : Nat} (hb : w.heap[m]? = some (.map es clock)) (es' : Array MapEntry) (clock' : Nat) : w.grownBy (setBlock w m (.map es' clock')) (some m) :=
  World.mapTurned.grown ⟨es, clock, es', clock', hb, rfl⟩
/-- m[k]++ and its like: the entry is looked for (or made), then written. -/
theorem Many_entry {w : World} {m n : Nat} {f : K66 → Int} (h : ManyAt w m n f) (x : K66) (hx : x.Good) (hn : n ≤ 1000000) : ∃ v0 st w1, (Instr.mapEntry 59 (.map (some m)) (kv x)).run Try.prog w = .ok (.tuple #[v0, st]) w1 ∧ ManyAt w1 m (n + 1) f ∧ w.grownBy w1 (some m) ∧ ∀ c, (Lit.int .i64 c).wf = true → ∃ w2, (Instr.entryStore 59 (.map (some m)) st (.int .i64 c)).run Try.prog w1 = .ok () w2 ∧ ManyAt w2 m (n + 1) (upd f x c) ∧ w.grownBy w2 (some m) := by
  have h0 := h
  obtain ⟨D, ⟨es, clock, hb, F, hs, hDe⟩, hD⟩ := h
  obtain ⟨v0, st, es1, clock1, hrun, hv, hst⟩ := Go.WideElems.entry_then_store law66 Try.underlying59 (z := .int .i64 0) (fun u => Try.zeroValue3 u) hb F (key_some x hx)
  refine ⟨v0, goInt st, _, hrun, ?_, turned_grown hb _ _, fun c hc => ?_⟩
  · rcases law66.find w (key_some x hx) es.toList F.keys with ⟨h1, h2⟩ | ⟨j, e0, h1, h2, h3⟩
    · have hr1 : (Instr.mapEntry 59 (.map (some m)) (kv x)).run Try.prog w = .ok (.tuple #[.int .i64 0, goInt clock]) (setBlock w m (.map (es.push ⟨kv x, .int .i64 0, clock⟩) (clock + 1))) := by
        simp [Instr.mapEntry, run_underlying Try.underlying59, MapKept.run_getObj_map hb, law66.check w false (key_some x hx), h1, Try.zeroValue3 w, MapKept.run_setObj_map _ hb, Result.andThen, setBlock]
      have hr2 : (Instr.mapUpdate 59 (.map (some m)) (kv x) (.int .i64 0)).run Try.prog w = .ok () (setBlock w m (.map (es.push ⟨kv x, .int .i64 0, clock⟩) (clock + 1))) := by
        simp [Instr.mapUpdate, run_underlying Try.underlying59, MapKept.run_getObj_map hb, law66.check w false (key_some x hx), h1, MapKept.run_setObj_map _ hb, Result.andThen, setBlock]
      obtain ⟨w', h3, h4, h5⟩ := Many_store h0 x hx 0 (by decide) hn
      rw [hr2] at h3
      injection h3 with _ h3
      rw [hrun] at hr1
      injection hr1 with _ hr1
      rw [hr1, h3]
      refine Many_congr h4 (fun y hy => ?_)
      by_cases e : y = x
      · subst e
        rw [upd_same]
        have h6 := hD y hy
        rw [hDe, Go.WideElems.atKey_none law66 F (key_some y hy) h2] at h6
        injection h6 with h6
        injection h6
      · rw [upd_other f e]
    · have hj : es[j]? = some e0 := by simpa using h2
      have hsame : es.modify j (fun e => { e with key := kv x }) = es := by
        apply Array.ext'
        rw [Array.toList_modify, modify_eq_set _ _ _ _ h2]
        have : ({ e0 with key := kv x } : MapEntry) = e0 := by rw [← h3]
        rw [this]
        exact Go.WideElems.set_self _ _ _ h2
      have hr1 : (Instr.mapEntry 59 (.map (some m)) (kv x)).run Try.prog w = .ok (.tuple #[e0.val, goInt e0.born]) (setBlock w m (.map es clock)) := by
        simp [Instr.mapEntry, run_underlying Try.underlying59, MapKept.run_getObj_map hb, law66.check w false (key_some x hx), h1, hj, h3, law66.stays w (key_some x hx), hsame, MapKept.run_setObj_map _ hb, Result.andThen, setBlock]
      rw [hrun] at hr1
      injection hr1 with _ hr1
      rw [hr1]
      exact ⟨D, ⟨es, clock, heap_setBlock_same hb _, F, by omega, hDe⟩, hD⟩
  · obtain ⟨es', clock', h1, h2⟩ := hst (setBlock w m (.map es1 clock1)) (.int .i64 c) (heap_setBlock_same hb _)
    rw [setBlock_two] at h1
    obtain ⟨w', h3, h4, h5⟩ := Many_store h0 x hx c hc hn
    rw [h2] at h3
    injection h3 with _ h3
    rw [← h3] at h4
    exact ⟨_, h1, h4, turned_grown hb _ _⟩
theorem Many_drop {w : World} {m n : Nat} {f : K66 → Int} (h : ManyAt w m n f) (x : K66) (hx : x.Good) (ty : TypeId) : ∃ w', (Builtin.delete_ #[59, 66] ty #[.map (some m), kv x]).run Try.prog w = .ok (.tuple #[]) w' ∧ ManyAt w' m n (upd f x 0) ∧ w.grownBy w' (some m) := by
  obtain ⟨D, ho, hD⟩ := h
  obtain ⟨w', h1, h2, h3⟩ := ho.drop (t := 59) (e := 3) keyed66 Try.underlying59 (key_some x hx) ty
  refine ⟨w', h1, ⟨_, h2, fun y hy => ?_⟩, h3.grown⟩
  by_cases e : y = x
  · subst e
    rw [Go.Maps.atKey_del_same, upd_same]
  · rw [Go.Maps.atKey_del_other (by intro h; exact e (klit_inj hy hx h)), hD y hy, upd_other f e]
end Go.Proofs.Ytojjkgnkdcekpaa.M
