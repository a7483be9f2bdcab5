-- Written by a program of this session's prover (over the kit's printer, with contracts of the session's own); Lean checks it.
import Derived.Test.YtkmdjcdmgmffiaaProg
import Derived.Below
import Derived.Deep.Draws
import Derived.Deep.AppendLies
import Derived.Maps.AppendAt
import Derived.OwnWalk
import Derived.Laws.BytesArg
import Derived.Laws.MakeOwn
import Derived.Laws.OwnMore
import Derived.Deep.OwnRows
import Derived.Tactics
import Derived.Lib.ConvBytes
import Derived.Laws.Slices
import Derived.WalkKit
import Derived.KernelRfl
import Derived.RowKit3
import Derived.Deep.LoopGhost
import Derived.Deep.QuietTactic
import Derived.BigQuiet
import Derived.WideLaws
import Derived.Deep.DeepCutAuto
import Derived.Deep.CutBlock
import Derived.Deep.RegionHeld3
import Derived.Laws.Rows
import Derived.Lib.AppendStr
import Derived.ArgAppend
import Derived.Laws.IdiomCopy
import Derived.OrdersHeld
import Derived.Laws.BitsLemmas
import Derived.RowKit
import Derived.WalkMore
import Derived.Test.YtkmdjcdmgmffiaaMRow
import Derived.Test.YtkmdjcdmgmffiaaMNames
import Derived.Lib.Hide
import Derived.Test.YtkmdjcdmgmffiaaBld
import Derived.Test.YtkmdjcdmgmffiaaShelf
import Derived.Test.YtkmdjcdmgmffiaaWWords
import Derived.Test.YtkmdjcdmgmffiaaWLast
import Derived.Test.YtkmdjcdmgmffiaaWTab
import Derived.Test.YtkmdjcdmgmffiaaWFour
import Derived.Test.YtkmdjcdmgmffiaaWQPut
import Derived.Test.YtkmdjcdmgmffiaaWApart
import Derived.Test.YtkmdjcdmgmffiaaWArr
import Derived.Test.YtkmdjcdmgmffiaaWZeros
import Derived.Test.YtkmdjcdmgmffiaaWFoot
import Derived.Test.YtkmdjcdmgmffiaaWKept
import Derived.Test.YtkmdjcdmgmffiaaWShare
import Derived.Test.YtkmdjcdmgmffiaaWN
import Derived.Test.YtkmdjcdmgmffiaaWFootNe
import Derived.Test.YtkmdjcdmgmffiaaWAt
import Derived.Test.YtkmdjcdmgmffiaaWEqStruct
import Derived.Test.YtkmdjcdmgmffiaaWRepsOne
import Derived.Test.YtkmdjcdmgmffiaaWInv
import Derived.Test.YtkmdjcdmgmffiaaWInvWords
import Derived.Test.YtkmdjcdmgmffiaaWGuard
import Derived.Test.YtkmdjcdmgmffiaaWNEv
import Derived.Test.YtkmdjcdmgmffiaaWMore
import Derived.Test.YtkmdjcdmgmffiaaMOrder
namespace Go.Proofs.Ytkmdjcdmgmffiaa.M
open Go

theorem bl_not_or (a b : ByteArray) : (!(Op.bytesLess a.toList b.toList || a.toList == b.toList)) = Op.bytesLess b.toList a.toList := by
  cases h : bl b.toList a.toList with
  | true =>
    have h1 := bl_asymm _ _ h
    have h2 : (a.toList == b.toList) = false := by
      rw [Bool.eq_false_iff]; intro q; have q := eq_of_beq q; rw [q, bl_irrefl] at h; cases h
    show (!(bl a.toList b.toList || a.toList == b.toList)) = _
    rw [h1, h2]; exact h.symm
  | false =>
    have h1 : (bl a.toList b.toList || a.toList == b.toList) = true := by
      cases h2 : bl a.toList b.toList with
      | true => rfl
      | false => rw [bl_total _ _ h2 h]; simp
    show (!(bl a.toList b.toList || a.toList == b.toList)) = _
    rw [h1]; exact h.symm

@[go_sem] theorem binOp_str_gtr (t : TypeId) (a b : ByteArray) : binOp .gtr t (.string a) (.string b) = pure (.bool (Op.bytesLess b.toList a.toList)) := by
  have : binOp .gtr t (.string a) (.string b) = pure (.bool !(Op.bytesLess a.toList b.toList || a.toList == b.toList)) := by simp [binOp, Op.stringOp]
  rw [this, bl_not_or]
@[go_sem] theorem binOp_str_leq (t : TypeId) (a b : ByteArray) : binOp .leq t (.string a) (.string b) = pure (.bool !(Op.bytesLess b.toList a.toList)) := by
  have : binOp .leq t (.string a) (.string b) = pure (.bool (Op.bytesLess a.toList b.toList || a.toList == b.toList)) := by simp [binOp, Op.stringOp]
  have e := bl_not_or a b
  rw [this, ← e, Bool.not_not]
@[go_sem] theorem binOp_str_geq (t : TypeId) (a b : ByteArray) : binOp .geq t (.string a) (.string b) = pure (.bool !(Op.bytesLess a.toList b.toList)) := by simp [binOp, Op.stringOp]
end Go.Proofs.Ytkmdjcdmgmffiaa.M

namespace Go.Proofs.Ytkmdjcdmgmffiaa.P
open Go.RowKit Go.Proofs.YtkmdjcdmgmffiaaW.PrintWords Go.Proofs.YtkmdjcdmgmffiaaW.PrintLast Go.Proofs.YtkmdjcdmgmffiaaW.PrintMore
attribute [local go_sem] max2_int min2_int max_two min_two max_three min_three max_four min_four   -- for this text's walks alone
set_option linter.unusedVariables false
set_option linter.unusedSimpArgs false



def errW : Option Int → Value
  | none => .nilIface
  | some c => .iface 0 (.int .i64 c)
theorem errW_none : errW none = .nilIface := rfl
theorem errW_some (c : Int) : errW (some c) = .iface 0 (.int .i64 c) := rfl

theorem info3 : (Try.prog.info? 3).map (fun i => (i.zero, i.size, i.bytes)) = some (some (.int .i64 0), 1, 8) := by kernel_rfl
theorem info9 : (Try.prog.info? 9).map (fun i => (i.zero, i.size, i.bytes)) = some (some (.string ⟨#[]⟩), 1, 16) := by kernel_rfl
theorem info43 : (Try.prog.info? 43).map (fun i => (i.zero, i.size, i.bytes)) = some (some (.agg #[(.string ⟨#[]⟩), (.int .i64 0)]), 2, 24) := by kernel_rfl
-- the values' own types
/-! #### struct type 43 -/
structure S43 where
  f0 : ByteArray
  f1 : Int
def z43 : S43 := ⟨(⟨#[]⟩ : ByteArray), (0 : Int)⟩
def k43 : Kd S43 := Kd.iso (Kd.pair Kd.string (Kd.int .i64)) (fun x : S43 => (x.f0, x.f1))
theorem k43_open {w : World} {x : S43} {cs : List Value} (h : k43.K w x cs) : cs = [.string x.f0, .int .i64 x.f1] := by
  obtain ⟨_, _, rfl, rfl, rfl⟩ := h
  exact rfl
theorem k43_openM {w : World} {base : Nat} {ok : Nat → Prop} {x : S43} {cs : List Value} (h : k43.M w base ok x cs) : cs = [.string x.f0, .int .i64 x.f1] := by
  obtain ⟨_, _, rfl, rfl, rfl⟩ := h
  exact rfl
theorem k43_mk (w : World) (x : S43)  : k43.K w x [.string x.f0, .int .i64 x.f1] := ⟨[.string x.f0], [.int .i64 x.f1], rfl, rfl, rfl⟩
theorem k43_mkM (w : World) (base : Nat) (ok : Nat → Prop) (x : S43)  : k43.M w base ok x [.string x.f0, .int .i64 x.f1] := ⟨[.string x.f0], [.int .i64 x.f1], rfl, rfl, rfl⟩
def rd_T43 (xs : List S43) (i : Int) : S43 := xs.getD i.toNat z43
theorem at_T43 {w : World} {A : Option Addr} {n : Nat} {xs : List S43} (h : Kd.C k43 w A n xs) (i : Int) (h0 : 0 ≤ i) (h1 : i < n) : ∃ ad , A = some ad ∧ w.cell? (ad.add (i.toNat * 2)) = some (.string (rd_T43 xs i).f0) ∧ w.cell? ⟨(ad.add (i.toNat * 2)).block, (ad.add (i.toNat * 2)).off + 1, none⟩ = some (.int .i64 (rd_T43 xs i).f1) := by
  obtain ⟨ad, c, e, _, hK, hc0⟩ := Kd.C_get h z43 i h0 h1
  have hc : ∀ j u, c[j]? = some u → w.cell? (ad.add (i.toNat * 2 + j)) = some u := hc0
  obtain rfl := k43_open hK
  exact ⟨ad, e, hc 0 _ rfl, by rw [← add_field _ _ 1 (by omega)]; exact hc 1 _ rfl⟩

end Go.Proofs.Ytkmdjcdmgmffiaa.P
