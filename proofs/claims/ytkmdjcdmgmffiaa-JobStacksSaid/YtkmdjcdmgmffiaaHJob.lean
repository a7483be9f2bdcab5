/- A job in memory: its tasks, its bounds, the hosts that were tried. -/
import Derived.Test.YtkmdjcdmgmffiaaPx0
import Derived.Test.YtkmdjcdmgmffiaaMBits
import Derived.Maps.Own
import Derived.Maps.OwnSet
import Derived.Maps.Views
import Derived.IntWalk
import Derived.Deep.QuietTactic
import Derived.Deep.RegionHeld3
import Derived.Deep.DrawnRows
import Derived.BigQuiet
import Derived.BigRegion
import Derived.Lib.SliceRun
set_option linter.unusedVariables false
set_option linter.unusedSimpArgs false
namespace Go.Proofs.Ytkmdjcdmgmffiaa.M
open Go Go.RowKit Go.ChangeMaps Go.Proofs.YtkmdjcdmgmffiaaW.PrintWords Go.Proofs.YtkmdjcdmgmffiaaW.PrintLast Go.Proofs.YtkmdjcdmgmffiaaW.PrintMore Go.Proofs.Ytkmdjcdmgmffiaa.P

structure T34 where
  f0 : ByteArray
  f1 : Int
  f2 : ByteArray
  f3 : ByteArray
  f4 : Int
  f5 : Bool
  f6 : Int
  f7 : Int
def z34 : T34 := ⟨⟨#[]⟩, 0, ⟨#[]⟩, ⟨#[]⟩, 0, false, 0, 0⟩
def k34 : Kd T34 := Kd.iso (Kd.pair Kd.string (Kd.pair (Kd.int .i64) (Kd.pair Kd.string (Kd.pair Kd.string (Kd.pair (Kd.int .i64) (Kd.pair Kd.bool (Kd.pair (Kd.int .i64) (Kd.int .i64)))))))) (fun x : T34 => (x.f0, x.f1, x.f2, x.f3, x.f4, x.f5, x.f6, x.f7))
def c34 (x : T34) : List Value := [.string x.f0, .int .i64 x.f1, .string x.f2, .string x.f3, .int .i64 x.f4, .bool x.f5, .int .i64 x.f6, .int .i64 x.f7]
def v34 (x : T34) : Value := .agg #[.string x.f0, .int .i64 x.f1, .string x.f2, .string x.f3, .int .i64 x.f4, .bool x.f5, .int .i64 x.f6, .int .i64 x.f7]
theorem k34_openM {w : World} {base : Nat} {ok : Nat → Prop} {x : T34} {cs : List Value} (h : k34.M w base ok x cs) : cs = c34 x := by
  obtain ⟨_, _, rfl, rfl, ⟨_, _, rfl, rfl, ⟨_, _, rfl, rfl, ⟨_, _, rfl, rfl, ⟨_, _, rfl, rfl, ⟨_, _, rfl, rfl, ⟨_, _, rfl, rfl, rfl⟩⟩⟩⟩⟩⟩⟩ := h
  exact rfl
theorem k34_open {w : World} {x : T34} {cs : List Value} (h : k34.K w x cs) : cs = c34 x := by
  obtain ⟨_, _, rfl, rfl, ⟨_, _, rfl, rfl, ⟨_, _, rfl, rfl, ⟨_, _, rfl, rfl, ⟨_, _, rfl, rfl, ⟨_, _, rfl, rfl, ⟨_, _, rfl, rfl, rfl⟩⟩⟩⟩⟩⟩⟩ := h
  exact rfl
theorem k34_mkM (w : World) (base : Nat) (ok : Nat → Prop) (x : T34) : k34.M w base ok x (c34 x) := ⟨[_], [_, _, _, _, _, _, _], rfl, rfl, ⟨[_], [_, _, _, _, _, _], rfl, rfl, ⟨[_], [_, _, _, _, _], rfl, rfl, ⟨[_], [_, _, _, _], rfl, rfl, ⟨[_], [_, _, _], rfl, rfl, ⟨[_], [_, _], rfl, rfl, ⟨[_], [_], rfl, rfl, rfl⟩⟩⟩⟩⟩⟩⟩
theorem info34 : (Try.prog.info? 34).map (fun i => (i.zero, i.size, i.bytes)) = some (some (.agg #[.string ⟨#[]⟩, .int .i64 0, .string ⟨#[]⟩, .string ⟨#[]⟩, .int .i64 0, .bool false, .int .i64 0, .int .i64 0]), 8, 88) := by kernel_rfl
theorem below_lower {b B : Nat} {w w' : World} (h : Below B w w') (hb : b ≤ B) : Below b w w' := ⟨h.os, h.tape, h.output, h.size, fun k hk => h.block k (Nat.lt_of_lt_of_le hk hb)⟩

/-- The map of what was tried. -/
def SeenAt (w : World) (m n : Nat) (out : List (List UInt8)) : Prop := ∃ D : DataW Unit, w.ownsMap Try.prog 9 (plainElem Try.prog 4) m n D ∧ ∀ x : ByteArray, D.atKey (.string x.data.toList) (.lit (.bool false)) = .lit (.bool (decide (x.data.toList ∈ out)))
theorem plainElem_bool_inv {P : Program} {e : TypeId} (he : P.underlying e = some .bool) {v : Value} {z : DataW Unit × List MemPlace} (h : plainElem P e v = some z) : ∃ b, v = .bool b ∧ z = (.lit (.bool b), []) := by
  unfold plainElem at h
  rw [he] at h
  cases v <;> simp at h
  subst h
  exact ⟨_, rfl, rfl⟩
theorem Seen_look {w : World} {m n : Nat} {out : List (List UInt8)} (h : SeenAt w m n out) (x : ByteArray) (hx : x.size ≤ maxLen) : (Instr.lookup 54 (.map (some m)) (.string x) false).run Try.prog w = .ok (.bool (decide (x.data.toList ∈ out))) w := by
  obtain ⟨D, ho, hD⟩ := h
  obtain ⟨v, ps, hrun, hv⟩ := ho.lookup (t := 54) (e := 4) (Go.Maps.string_keyed Try.underlying9) Try.underlying54 (Try.zeroValue4 w) (plainElem_bool Try.underlying4 false) (Go.WideMaps.keyOf_string_mk Try.underlying9 hx)
  obtain ⟨b, rfl, hb⟩ := plainElem_bool_inv Try.underlying4 hv
  simp only [Prod.mk.injEq] at hb
  rw [hD] at hb
  have : decide (x.data.toList ∈ out) = b := by injection hb.1 with h1; injection h1
  rw [this]
  exact hrun
theorem Seen_made (w : World) : SeenAt (w.alloc (.map #[] 0)) w.heap.size 0 [] := ⟨_, World.ownsMap_made w _ _ _, fun x => by
  have h := WideAt.atKey_none (entries := ([] : List (Lit × DataW Unit))) (k := .string x.data.toList) (.lit (.bool false)) (fun p hp => by simp at hp)
  simpa using h⟩
theorem Seen_kept {w w' : World} {m n : Nat} {out : List (List UInt8)} {row : Option Nat} (h : SeenAt w m n out) (hg : w.grownBy w' row) (hne : some m ≠ row) : SeenAt w' m n out := by
  obtain ⟨D, ho, hD⟩ := h
  exact ⟨D, ho.kept hg hne, hD⟩
theorem Seen_below {w w' : World} {m n : Nat} {out : List (List UInt8)} (h : SeenAt w m n out) (hb : Below w.heap.size w w') : SeenAt w' m n out := Seen_kept h (grown_of_below hb none) (by simp)
theorem Seen_lt {w : World} {m n : Nat} {out : List (List UInt8)} (h : SeenAt w m n out) : m < w.heap.size := by
  obtain ⟨D, ho, hD⟩ := h
  exact ho.lt
theorem Seen_map {w : World} {m n : Nat} {out : List (List UInt8)} (h : SeenAt w m n out) : ∃ es clock, w.heap[m]? = some (.map es clock) := by
  obtain ⟨D, ⟨es, clock, hb, _⟩, hD⟩ := h
  exact ⟨es, clock, hb⟩
theorem bytes_inj {x y : ByteArray} (h : x.data.toList = y.data.toList) : x = y := by
  cases x; cases y
  simp at h
  subst h
  rfl
theorem Seen_store {w : World} {m n : Nat} {out : List (List UInt8)} (h : SeenAt w m n out) (x : ByteArray) (hx : x.size ≤ maxLen) (hn : n ≤ 1000000) : ∃ w', (Instr.mapUpdate 54 (.map (some m)) (.string x) (.bool true)).run Try.prog w = .ok () w' ∧ SeenAt w' m (n + 1) (x.data.toList :: out) ∧ w.grownBy w' (some m) := by
  obtain ⟨D, ho, hD⟩ := h
  obtain ⟨w', h1, h2, h3⟩ := ho.update (t := 54) (e := 4) (Go.Maps.string_keyed Try.underlying9) Try.underlying54 (by unfold maxLen; omega) (Go.WideMaps.keyOf_string_mk Try.underlying9 hx) (plainElem_bool Try.underlying4 true)
  refine ⟨w', h1, ⟨_, h2, fun y => ?_⟩, h3⟩
  by_cases e : y = x
  · subst e
    rw [Go.Maps.atKey_put_same ho.isMap (by simp [WideAt.IsKeyLit])]
    simp
  · have e2 : y.data.toList ≠ x.data.toList := fun h => e (bytes_inj h)
    rw [Go.Maps.atKey_put_other (by intro h; injection h with h; exact e2 h), hD]
    simp [e2]

/-- A job: base: whence on its blocks are. -/
structure JobAt (w : World) (base : Nat) (S : Nat → Prop) (g : Nat) (id : Int) (ts : List T34) (d ch sp : Int) (n : Nat) (seen : List (List UInt8)) (v : Value) (m : Nat) : Prop where
  blk : w.heap[g]? = some (.cells #[.int .i64 id, v, .int .i64 d, .int .i64 ch, .int .i64 sp, .map (some m), .slice none 0 0] 57 (0, 0))
  lo : base ≤ g
  mlo : base ≤ m
  row : Kd.R k34 34 w base S v ts
  tried : SeenAt w m n seen
  sg : S g
  sm : S m
theorem k34_E : k34.E = [] := rfl
theorem JobAt.below {w w' : World} {base : Nat} {S : Nat → Prop} {g : Nat} {id : Int} {ts : List T34} {d ch sp : Int} {n : Nat} {seen : List (List UInt8)} {v : Value} {m : Nat} (h : JobAt w base S g id ts d ch sp n seen v m) (hb : Below w.heap.size w w') : JobAt w' base S g id ts d ch sp n seen v m :=
  ⟨blk_below h.blk hb, h.lo, h.mlo, Kd.R_below h.row hb, Seen_below h.tried hb, h.sg, h.sm⟩
theorem JobAt.lower {w : World} {base b : Nat} {S : Nat → Prop} {g : Nat} {id : Int} {ts : List T34} {d ch sp : Int} {n : Nat} {seen : List (List UInt8)} {v : Value} {m : Nat} (h : JobAt w base S g id ts d ch sp n seen v m) (hb : b ≤ base) : JobAt w b S g id ts d ch sp n seen v m :=
  ⟨h.blk, Nat.le_trans hb h.lo, Nat.le_trans hb h.mlo, Kd.R_lower h.row hb, h.tried, h.sg, h.sm⟩
theorem ne57 : ∀ q, q ∈ 34 :: k34.E → q ≠ 57 := by
  intro q hq
  rw [k34_E] at hq
  simp at hq
  omega
theorem Seen_set {w : World} {m n : Nat} {out : List (List UInt8)} (h : SeenAt w m n out) {a : Addr} (ha : m ≠ a.block) (u : Value) : SeenAt (w.setCell a u) m n out := by
  obtain ⟨D, ho, hD⟩ := h
  exact ⟨D, ho.setCell ha u, hD⟩
theorem JobAt.mg {w : World} {base : Nat} {S : Nat → Prop} {g : Nat} {id : Int} {ts : List T34} {d ch sp : Int} {n : Nat} {seen : List (List UInt8)} {v : Value} {m : Nat} (h : JobAt w base S g id ts d ch sp n seen v m) : m ≠ g := by
  obtain ⟨es, clock, he⟩ := Seen_map h.tried
  rintro rfl
  rw [h.blk] at he
  cases he
theorem JobAt.mv {w : World} {base : Nat} {S : Nat → Prop} {g : Nat} {id : Int} {ts : List T34} {d ch sp : Int} {n : Nat} {seen : List (List UInt8)} {v : Value} {m : Nat} (h : JobAt w base S g id ts d ch sp n seen v m) : some m ≠ v.ownBlock := by
  obtain ⟨es, clock, he⟩ := Seen_map h.tried
  intro e
  obtain ⟨cells, hc⟩ := Kd.R_typed h.row m e.symm
  rw [he] at hc
  cases hc
theorem JobAt.gv {w : World} {base : Nat} {S : Nat → Prop} {g : Nat} {id : Int} {ts : List T34} {d ch sp : Int} {n : Nat} {seen : List (List UInt8)} {v : Value} {m : Nat} (h : JobAt w base S g id ts d ch sp n seen v m) : some g ≠ v.ownBlock := Kd.R_ne h.row h.blk (by decide)
/-- A number of the job's turns. -/
theorem JobAt.setChase {w : World} {base : Nat} {S : Nat → Prop} {g : Nat} {id : Int} {ts : List T34} {d ch sp : Int} {n : Nat} {seen : List (List UInt8)} {v : Value} {m : Nat} (h : JobAt w base S g id ts d ch sp n seen v m) (x : Int) : JobAt (w.setCell ⟨g, 3, none⟩ (.int .i64 x)) base S g id ts d x sp n seen v m :=
  ⟨blk_put h.blk 3 _ rfl, h.lo, h.mlo, Kd.R_set h.row h.blk ne57 3 _, Seen_set h.tried h.mg _, h.sg, h.sm⟩
theorem JobAt.setSpend {w : World} {base : Nat} {S : Nat → Prop} {g : Nat} {id : Int} {ts : List T34} {d ch sp : Int} {n : Nat} {seen : List (List UInt8)} {v : Value} {m : Nat} (h : JobAt w base S g id ts d ch sp n seen v m) (x : Int) : JobAt (w.setCell ⟨g, 4, none⟩ (.int .i64 x)) base S g id ts d ch x n seen v m :=
  ⟨blk_put h.blk 4 _ rfl, h.lo, h.mlo, Kd.R_set h.row h.blk ne57 4 _, Seen_set h.tried h.mg _, h.sg, h.sm⟩

/-- A box that was made: no block of the job's. -/
theorem JobAt.box {w : World} {base : Nat} {S : Nat → Prop} {g : Nat} {id : Int} {ts : List T34} {d ch sp : Int} {n : Nat} {seen : List (List UInt8)} {v : Value} {m : Nat} (h : JobAt w base S g id ts d ch sp n seen v m) (o : Obj) : JobAt (w.alloc o) base (fun k => S k ∧ k ≠ w.heap.size) g id ts d ch sp n seen v m :=
  ⟨blk_alloc h.blk o, h.lo, h.mlo, Kd.R_mono (Kd.R_tight k34_E (Kd.R_below h.row (below_alloc (Below.refl _ _) o))) (fun k hk => ⟨h.row.1 k hk.symm, fun e => by have := Kd.R_lt h.row k hk.symm; omega⟩), Seen_below h.tried (below_alloc (Below.refl _ _) o), ⟨h.sg, Nat.ne_of_lt (blk_lt h.blk)⟩, ⟨h.sm, Nat.ne_of_lt (Seen_lt h.tried)⟩⟩
theorem JobAt.mono {w : World} {base : Nat} {S S' : Nat → Prop} {g : Nat} {id : Int} {ts : List T34} {d ch sp : Int} {n : Nat} {seen : List (List UInt8)} {v : Value} {m : Nat} (h : JobAt w base S g id ts d ch sp n seen v m) (hs : ∀ k, S k → S' k) : JobAt w base S' g id ts d ch sp n seen v m := ⟨h.blk, h.lo, h.mlo, Kd.R_mono h.row hs, h.tried, hs _ h.sg, hs _ h.sm⟩

section
variable {w : World} {base : Nat} {S : Nat → Prop} {g : Nat} {id : Int} {ts : List T34} {d ch sp : Int} {n : Nat} {seen : List (List UInt8)} {v : Value} {m : Nat}
set_option maxHeartbeats 4000000 in
set_option maxRecDepth 100000 in
theorem Depth_calls (h : JobAt w base S g id ts d ch sp n seen v m) : Calls Try.prog 14 #[.pointer (some ⟨g, 0, none⟩)] w fun e w' => e = .returned (.int .i64 (ts.length : Int)) ∧ w' = w := by
  obtain ⟨A, c, rfl, hl, _⟩ := Kd.R_reads h.row
  have c1 : w.cell? ⟨g, 1, none⟩ = some (.slice A ts.length c) := (blk_cell h.blk 1).trans rfl
  clear h
  go_enter Try.func14, Try.ntmps14
  go_wp2_with fail
  go_ret
  exact ⟨rfl, rfl⟩
set_option maxHeartbeats 4000000 in
set_option maxRecDepth 100000 in
theorem Spend_none (h : JobAt w base S g id ts d ch 0 n seen v m) : Calls Try.prog 11 #[.pointer (some ⟨g, 0, none⟩)] w fun e w' => e = .returned (.bool false) ∧ w' = w := by
  have c4 : w.cell? ⟨g, 4, none⟩ = some (.int .i64 0) := (blk_cell h.blk 4).trans rfl
  clear h
  go_enter Try.func11, Try.ntmps11
  go_wp2_with fail
  go_ret
  exact ⟨rfl, rfl⟩
set_option maxHeartbeats 4000000 in
set_option maxRecDepth 100000 in
theorem Spend_some (h : JobAt w base S g id ts d ch sp n seen v m) (hs : 1 ≤ sp) (hs2 : sp ≤ 1000000) : Calls Try.prog 11 #[.pointer (some ⟨g, 0, none⟩)] w fun e w' => e = .returned (.bool true) ∧ JobAt w' base S g id ts d ch (sp - 1) n seen v m ∧ Below base w w' ∧ Kept w w' S := by
  have H := Aside0.mk h
  have c4 : w.cell? ⟨g, 4, none⟩ = some (.int .i64 sp) := (blk_cell h.blk 4).trans rfl
  have f4 : w.frozen? ⟨g, 4, none⟩ = false := blk_frozen h.blk 4
  have e1 : (sp == 0) = false := beq_eq_false_iff_ne.2 (by omega)
  have e2 : decide (sp = 0) = false := decide_eq_false (by omega)
  clear h
  go_enter Try.func11, Try.ntmps11
  go_wp2_with fail
  go_ret
  exact ⟨rfl, H.out.setSpend _, (Below.refl _ _).setCell (p := ⟨g, 4, none⟩) H.out.lo _, (Kept.refl w S).setCell (p := ⟨g, 4, none⟩) (Or.inl H.out.sg) _⟩
end
end Go.Proofs.Ytkmdjcdmgmffiaa.M
