/-
  No cell of these rows narrows 'for every input' (looked for: loops, veiled, ifaces, maps, wideKeys, modest, calm, conditions, laid).
  DERIVED. THE GIVEN ROWS OF THIS SEAT. 8 by the template 'for every input the law returns true; each argument reads behind the call as it read before'; 0 by the template 'total and deterministic' (their statements: YteodnommecpglaaTotals.lean).
  GIVEN WITH THE SEED: the statements are not yours to turn. If you find one false, say at which input.
  Laid BY PROGRAM, IN A SANDBOX (cutbox-rows.mjs): the forced cells as the released guide's own fill.sh prints them over the translation 8816c3b519f62368… (all of the seat's roots in one cut). By AI agents, Wed Nov 11 2026. No macro, syntax, notation, axiom, sorry.
-/
import Derived.Test.YteodnommecpglaaChecked
import GoSem.Claim
import GoSem.ClaimJoined
import GoSem.ClaimMapViews
import Derived.JoinedTies
import Derived.KernelRfl
namespace Go.Proofs.Yteodnommecpglaa
/- THE CELL 'sum', in the pinned program and in every row, IS THE sha256 OF THE DUMP (.gsa) THAT YteodnommecpglaaProg.lean LOADS. Nothing in Lean hashes anything: it is a label: what it is worth is what the hold of that sum in a sandbox is worth. -/
noncomputable def Try.pinned : Pinned := { name := "yteodnommecpglaa", sum := "8816c3b519f62368623de6fee9f0e717f2e8a90cbf2fd41865d682287db74aa4", checked := Try.checked }
namespace Rows
def none {H : Type} : Left H := { results := [], args := [] }

/-- 'wimplelaw2.Rels': WHATEVER THE INPUT: true; the input reads as it did. -/
def relsSpec : ChangeSpec := { name := "rels", fn := fun _ => fun
  | [d1, d2, d3, d4] => { results := [.lit (.bool true)], args := [d1, d2, d3, d4] }
  | _ => none }
def relsRow : OpenClaim := { program := "yteodnommecpglaa", sum := "8816c3b519f62368623de6fee9f0e717f2e8a90cbf2fd41865d682287db74aa4", func := "wimple/wimplelaw2.Rels", spec := "rels", inPlace := ["internal/abi.NoEscape"], apart := false }
def RelsSaid : Prop := relsRow.holds Try.pinned (OpenSpec.ofChange relsSpec)

/-- ITS FALSE NEIGHBOUR: 'it returns false'. Refute it at one input. -/
def relsWrong : ChangeSpec := { name := "rels", fn := fun _ => fun
  | [d1, d2, d3, d4] => { results := [.lit (.bool false)], args := [d1, d2, d3, d4] }
  | _ => none }
def RelsWrongFalsely : Prop := relsRow.holds Try.pinned (OpenSpec.ofChange relsWrong)

/-- 'wimplelaw2.RelRules': WHATEVER THE INPUT: true; the input reads as it did. -/
def relRulesSpec : ChangeSpec := { name := "relRules", fn := fun _ => fun
  | [d1, d2, d3, d4] => { results := [.lit (.bool true)], args := [d1, d2, d3, d4] }
  | _ => none }
def relRulesRow : OpenClaim := { program := "yteodnommecpglaa", sum := "8816c3b519f62368623de6fee9f0e717f2e8a90cbf2fd41865d682287db74aa4", func := "wimple/wimplelaw2.RelRules", spec := "relRules", inPlace := ["internal/abi.NoEscape"], apart := false }
def RelRulesSaid : Prop := relRulesRow.holds Try.pinned (OpenSpec.ofChange relRulesSpec)

/-- ITS FALSE NEIGHBOUR: 'it returns false'. Refute it at one input. -/
def relRulesWrong : ChangeSpec := { name := "relRules", fn := fun _ => fun
  | [d1, d2, d3, d4] => { results := [.lit (.bool false)], args := [d1, d2, d3, d4] }
  | _ => none }
def RelRulesWrongFalsely : Prop := relRulesRow.holds Try.pinned (OpenSpec.ofChange relRulesWrong)

/-- 'wimplelaw2.RelParts': WHATEVER THE INPUT: true; the input reads as it did. -/
def relPartsSpec : ChangeSpec := { name := "relParts", fn := fun _ => fun
  | [d] => { results := [.lit (.bool true)], args := [d] }
  | _ => none }
def relPartsRow : OpenClaim := { program := "yteodnommecpglaa", sum := "8816c3b519f62368623de6fee9f0e717f2e8a90cbf2fd41865d682287db74aa4", func := "wimple/wimplelaw2.RelParts", spec := "relParts", inPlace := ["internal/abi.NoEscape"], apart := false }
def RelPartsSaid : Prop := relPartsRow.holds Try.pinned (OpenSpec.ofChange relPartsSpec)

/-- ITS FALSE NEIGHBOUR: 'it returns false'. Refute it at one input. -/
def relPartsWrong : ChangeSpec := { name := "relParts", fn := fun _ => fun
  | [d] => { results := [.lit (.bool false)], args := [d] }
  | _ => none }
def RelPartsWrongFalsely : Prop := relPartsRow.holds Try.pinned (OpenSpec.ofChange relPartsWrong)

/-- 'wimplelaw2.RelCases': WHATEVER THE INPUT: true; the input reads as it did. -/
def relCasesSpec : ChangeSpec := { name := "relCases", fn := fun _ => fun
  | [d1, d2] => { results := [.lit (.bool true)], args := [d1, d2] }
  | _ => none }
def relCasesRow : OpenClaim := { program := "yteodnommecpglaa", sum := "8816c3b519f62368623de6fee9f0e717f2e8a90cbf2fd41865d682287db74aa4", func := "wimple/wimplelaw2.RelCases", spec := "relCases", inPlace := ["internal/abi.NoEscape"], apart := false }
def RelCasesSaid : Prop := relCasesRow.holds Try.pinned (OpenSpec.ofChange relCasesSpec)

/-- ITS FALSE NEIGHBOUR: 'it returns false'. Refute it at one input. -/
def relCasesWrong : ChangeSpec := { name := "relCases", fn := fun _ => fun
  | [d1, d2] => { results := [.lit (.bool false)], args := [d1, d2] }
  | _ => none }
def RelCasesWrongFalsely : Prop := relCasesRow.holds Try.pinned (OpenSpec.ofChange relCasesWrong)

/-- 'wimplelaw2.RelLengths': WHATEVER THE INPUT: true; the input reads as it did. -/
def relLengthsSpec : ChangeSpec := { name := "relLengths", fn := fun _ => fun
  | [d1, d2] => { results := [.lit (.bool true)], args := [d1, d2] }
  | _ => none }
def relLengthsRow : OpenClaim := { program := "yteodnommecpglaa", sum := "8816c3b519f62368623de6fee9f0e717f2e8a90cbf2fd41865d682287db74aa4", func := "wimple/wimplelaw2.RelLengths", spec := "relLengths", inPlace := ["internal/abi.NoEscape"], apart := false }
def RelLengthsSaid : Prop := relLengthsRow.holds Try.pinned (OpenSpec.ofChange relLengthsSpec)

/-- ITS FALSE NEIGHBOUR: 'it returns false'. Refute it at one input. -/
def relLengthsWrong : ChangeSpec := { name := "relLengths", fn := fun _ => fun
  | [d1, d2] => { results := [.lit (.bool false)], args := [d1, d2] }
  | _ => none }
def RelLengthsWrongFalsely : Prop := relLengthsRow.holds Try.pinned (OpenSpec.ofChange relLengthsWrong)

/-- 'wimplelaw2.RelChildren': WHATEVER THE INPUT: true; the input reads as it did. -/
def relChildrenSpec : ChangeSpec := { name := "relChildren", fn := fun _ => fun
  | [d1, d2] => { results := [.lit (.bool true)], args := [d1, d2] }
  | _ => none }
def relChildrenRow : OpenClaim := { program := "yteodnommecpglaa", sum := "8816c3b519f62368623de6fee9f0e717f2e8a90cbf2fd41865d682287db74aa4", func := "wimple/wimplelaw2.RelChildren", spec := "relChildren", inPlace := ["internal/abi.NoEscape"], apart := false }
def RelChildrenSaid : Prop := relChildrenRow.holds Try.pinned (OpenSpec.ofChange relChildrenSpec)

/-- ITS FALSE NEIGHBOUR: 'it returns false'. Refute it at one input. -/
def relChildrenWrong : ChangeSpec := { name := "relChildren", fn := fun _ => fun
  | [d1, d2] => { results := [.lit (.bool false)], args := [d1, d2] }
  | _ => none }
def RelChildrenWrongFalsely : Prop := relChildrenRow.holds Try.pinned (OpenSpec.ofChange relChildrenWrong)

/-- 'wimplelaw2.RelNone': WHATEVER THE INPUT: true; the input reads as it did. -/
def relNoneSpec : ChangeSpec := { name := "relNone", fn := fun _ => fun
  | [d1, d2] => { results := [.lit (.bool true)], args := [d1, d2] }
  | _ => none }
def relNoneRow : OpenClaim := { program := "yteodnommecpglaa", sum := "8816c3b519f62368623de6fee9f0e717f2e8a90cbf2fd41865d682287db74aa4", func := "wimple/wimplelaw2.RelNone", spec := "relNone", inPlace := ["internal/abi.NoEscape"], apart := false }
def RelNoneSaid : Prop := relNoneRow.holds Try.pinned (OpenSpec.ofChange relNoneSpec)

/-- ITS FALSE NEIGHBOUR: 'it returns false'. Refute it at one input. -/
def relNoneWrong : ChangeSpec := { name := "relNone", fn := fun _ => fun
  | [d1, d2] => { results := [.lit (.bool false)], args := [d1, d2] }
  | _ => none }
def RelNoneWrongFalsely : Prop := relNoneRow.holds Try.pinned (OpenSpec.ofChange relNoneWrong)

/-- 'wimplelaw2.RelSorts': WHATEVER THE INPUT: true; the input reads as it did. -/
def relSortsSpec : ChangeSpec := { name := "relSorts", fn := fun _ => fun
  | [d] => { results := [.lit (.bool true)], args := [d] }
  | _ => none }
def relSortsRow : OpenClaim := { program := "yteodnommecpglaa", sum := "8816c3b519f62368623de6fee9f0e717f2e8a90cbf2fd41865d682287db74aa4", func := "wimple/wimplelaw2.RelSorts", spec := "relSorts", inPlace := ["internal/abi.NoEscape"], apart := false }
def RelSortsSaid : Prop := relSortsRow.holds Try.pinned (OpenSpec.ofChange relSortsSpec)

/-- ITS FALSE NEIGHBOUR: 'it returns false'. Refute it at one input. -/
def relSortsWrong : ChangeSpec := { name := "relSorts", fn := fun _ => fun
  | [d] => { results := [.lit (.bool false)], args := [d] }
  | _ => none }
def RelSortsWrongFalsely : Prop := relSortsRow.holds Try.pinned (OpenSpec.ofChange relSortsWrong)

/- THE SECOND FORM. 'bulk': how many values and letters a reading holds, each counted each time it is reached (what is shared counts as often as it is met; a slice's spare places count too). A statement '..UptoSaid' is the law's where the arguments, and the package variables that the reading takes, are together of bulk at most 1048576: NARROWER than '..Said'. Prove '..Said' where nothing that the law and all that it calls make is longer than what came in: it says more and counts as full. Else prove '..UptoSaid'. A law counts once. -/
mutual
def uptoBulk {H : Type} : DataW H → Nat
  | .lit (.string bytes) => bytes.length + 1
  | .lit _ => 1
  | .nil => 1
  | .ptr d => uptoBulk d + 1
  | .slice elems spare => uptoBulkAll elems + uptoBulkAll spare + 1
  | .agg parts => uptoBulkAll parts + 1
  | .iface _ d => uptoBulk d + 1
  | .map entries => uptoBulkEntries entries + 1
  | .held _ => 1
def uptoBulkAll {H : Type} : List (DataW H) → Nat
  | [] => 0
  | d :: r => uptoBulk d + uptoBulkAll r
def uptoBulkEntries {H : Type} : List (Lit × DataW H) → Nat
  | [] => 0
  | x :: r => uptoBulkEntry x + uptoBulkEntries r
def uptoBulkEntry {H : Type} : Lit × DataW H → Nat
  | (.string bytes, d) => bytes.length + uptoBulk d + 1
  | (_, d) => uptoBulk d + 1
 end
def uptoSmall : (H : Type) → List (DataW H) → Bool := fun _ ds => decide (uptoBulkAll ds ≤ 1048576)
def OpenSpec.upto (s : _root_.Go.ChangeSpec) : _root_.Go.OpenSpec := { _root_.Go.OpenSpec.ofChange s with cond := some uptoSmall }

/-- 'wimplelaw2.Rels', WHERE WHAT IT READS IS OF BULK AT MOST 1048576: true; the input reads as it did. -/
def relsUptoRow : OpenClaim := { program := "yteodnommecpglaa", sum := "8816c3b519f62368623de6fee9f0e717f2e8a90cbf2fd41865d682287db74aa4", func := "wimple/wimplelaw2.Rels", spec := "rels", inPlace := ["internal/abi.NoEscape"], apart := false, narrowed := true }
def RelsUptoSaid : Prop := relsUptoRow.holds Try.pinned (OpenSpec.upto relsSpec)

/-- 'wimplelaw2.RelRules', WHERE WHAT IT READS IS OF BULK AT MOST 1048576: true; the input reads as it did. -/
def relRulesUptoRow : OpenClaim := { program := "yteodnommecpglaa", sum := "8816c3b519f62368623de6fee9f0e717f2e8a90cbf2fd41865d682287db74aa4", func := "wimple/wimplelaw2.RelRules", spec := "relRules", inPlace := ["internal/abi.NoEscape"], apart := false, narrowed := true }
def RelRulesUptoSaid : Prop := relRulesUptoRow.holds Try.pinned (OpenSpec.upto relRulesSpec)

/-- 'wimplelaw2.RelParts', WHERE WHAT IT READS IS OF BULK AT MOST 1048576: true; the input reads as it did. -/
def relPartsUptoRow : OpenClaim := { program := "yteodnommecpglaa", sum := "8816c3b519f62368623de6fee9f0e717f2e8a90cbf2fd41865d682287db74aa4", func := "wimple/wimplelaw2.RelParts", spec := "relParts", inPlace := ["internal/abi.NoEscape"], apart := false, narrowed := true }
def RelPartsUptoSaid : Prop := relPartsUptoRow.holds Try.pinned (OpenSpec.upto relPartsSpec)

/-- 'wimplelaw2.RelCases', WHERE WHAT IT READS IS OF BULK AT MOST 1048576: true; the input reads as it did. -/
def relCasesUptoRow : OpenClaim := { program := "yteodnommecpglaa", sum := "8816c3b519f62368623de6fee9f0e717f2e8a90cbf2fd41865d682287db74aa4", func := "wimple/wimplelaw2.RelCases", spec := "relCases", inPlace := ["internal/abi.NoEscape"], apart := false, narrowed := true }
def RelCasesUptoSaid : Prop := relCasesUptoRow.holds Try.pinned (OpenSpec.upto relCasesSpec)

/-- 'wimplelaw2.RelLengths', WHERE WHAT IT READS IS OF BULK AT MOST 1048576: true; the input reads as it did. -/
def relLengthsUptoRow : OpenClaim := { program := "yteodnommecpglaa", sum := "8816c3b519f62368623de6fee9f0e717f2e8a90cbf2fd41865d682287db74aa4", func := "wimple/wimplelaw2.RelLengths", spec := "relLengths", inPlace := ["internal/abi.NoEscape"], apart := false, narrowed := true }
def RelLengthsUptoSaid : Prop := relLengthsUptoRow.holds Try.pinned (OpenSpec.upto relLengthsSpec)

/-- 'wimplelaw2.RelChildren', WHERE WHAT IT READS IS OF BULK AT MOST 1048576: true; the input reads as it did. -/
def relChildrenUptoRow : OpenClaim := { program := "yteodnommecpglaa", sum := "8816c3b519f62368623de6fee9f0e717f2e8a90cbf2fd41865d682287db74aa4", func := "wimple/wimplelaw2.RelChildren", spec := "relChildren", inPlace := ["internal/abi.NoEscape"], apart := false, narrowed := true }
def RelChildrenUptoSaid : Prop := relChildrenUptoRow.holds Try.pinned (OpenSpec.upto relChildrenSpec)

/-- 'wimplelaw2.RelNone', WHERE WHAT IT READS IS OF BULK AT MOST 1048576: true; the input reads as it did. -/
def relNoneUptoRow : OpenClaim := { program := "yteodnommecpglaa", sum := "8816c3b519f62368623de6fee9f0e717f2e8a90cbf2fd41865d682287db74aa4", func := "wimple/wimplelaw2.RelNone", spec := "relNone", inPlace := ["internal/abi.NoEscape"], apart := false, narrowed := true }
def RelNoneUptoSaid : Prop := relNoneUptoRow.holds Try.pinned (OpenSpec.upto relNoneSpec)

/-- 'wimplelaw2.RelSorts', WHERE WHAT IT READS IS OF BULK AT MOST 1048576: true; the input reads as it did. -/
def relSortsUptoRow : OpenClaim := { program := "yteodnommecpglaa", sum := "8816c3b519f62368623de6fee9f0e717f2e8a90cbf2fd41865d682287db74aa4", func := "wimple/wimplelaw2.RelSorts", spec := "relSorts", inPlace := ["internal/abi.NoEscape"], apart := false, narrowed := true }
def RelSortsUptoSaid : Prop := relSortsUptoRow.holds Try.pinned (OpenSpec.upto relSortsSpec)

end Rows
end Go.Proofs.Yteodnommecpglaa
