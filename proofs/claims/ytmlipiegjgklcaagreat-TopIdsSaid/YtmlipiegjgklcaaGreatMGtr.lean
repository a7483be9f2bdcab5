/- The three comparisons of texts for which the walk has no law in the printer's spelling. -/
import Derived.Test.YtmlipiegjgklcaaGreatMOrder
import Derived.WalkMore
namespace Go.Proofs.YtmlipiegjgklcaaGreat.M
open Go

theorem bl_not_or (a b : ByteArray) : (!(Op.bytesLess a.toList b.toList || a.toList == b.toList)) = Op.bytesLess b.toList a.toList := by
  cases h : bl b.toList a.toList with
  | true =>
    have h1 := bl_asymm _ _ h
    have h2 : (a.toList == b.toList) = false := by
      rw [Bool.eq_false_iff]; intro q; have q := eq_of_beq q; rw [q, bl_irrefl] at h; cases h
    show (!(bl a.toList b.toList || a.toList == b.toList)) = _
    rw [h1, h2]; exact h.symm
  | false =>
    have h1 : (bl a.toList b.toList || a.toList == b.toList) = true := by
      cases h2 : bl a.toList b.toList with
      | true => rfl
      | false => rw [bl_total _ _ h2 h]; simp
    show (!(bl a.toList b.toList || a.toList == b.toList)) = _
    rw [h1]; exact h.symm

@[go_sem] theorem binOp_str_gtr (t : TypeId) (a b : ByteArray) : binOp .gtr t (.string a) (.string b) = pure (.bool (Op.bytesLess b.toList a.toList)) := by
  have : binOp .gtr t (.string a) (.string b) = pure (.bool !(Op.bytesLess a.toList b.toList || a.toList == b.toList)) := by simp [binOp, Op.stringOp]
  rw [this, bl_not_or]
@[go_sem] theorem binOp_str_leq (t : TypeId) (a b : ByteArray) : binOp .leq t (.string a) (.string b) = pure (.bool !(Op.bytesLess b.toList a.toList)) := by
  have : binOp .leq t (.string a) (.string b) = pure (.bool (Op.bytesLess a.toList b.toList || a.toList == b.toList)) := by simp [binOp, Op.stringOp]
  have e := bl_not_or a b
  rw [this, ← e, Bool.not_not]
@[go_sem] theorem binOp_str_geq (t : TypeId) (a b : ByteArray) : binOp .geq t (.string a) (.string b) = pure (.bool !(Op.bytesLess a.toList b.toList)) := by simp [binOp, Op.stringOp]
end Go.Proofs.YtmlipiegjgklcaaGreat.M
