/-
  No cell of these rows narrows 'for every input' (looked for: loops, veiled, ifaces, maps, wideKeys, modest, calm, conditions, laid).
  DERIVED. THE GIVEN ROWS OF THIS SEAT. 7 by the template 'for every input the law returns true; each argument reads behind the call as it read before'; 0 by the template 'total and deterministic' (their statements: YtbcflinledkgjaaTotals.lean).
  GIVEN WITH THE SEED: the statements are not yours to turn. If you find one false, say at which input.
  Laid BY PROGRAM, IN A SANDBOX (cutbox-rows.mjs): the forced cells as the released guide's own fill.sh prints them over the translation fe7d67b01093845b… (all of the seat's roots in one cut). By AI agents, Wed Nov 11 2026. No macro, syntax, notation, axiom, sorry.
-/
import Derived.Test.YtbcflinledkgjaaChecked
import GoSem.Claim
import GoSem.ClaimJoined
import GoSem.ClaimMapViews
import Derived.JoinedTies
import Derived.KernelRfl
namespace Go.Proofs.Ytbcflinledkgjaa
/- THE CELL 'sum', in the pinned program and in every row, IS THE sha256 OF THE DUMP (.gsa) THAT YtbcflinledkgjaaProg.lean LOADS. Nothing in Lean hashes anything: it is a label: what it is worth is what the hold of that sum in a sandbox is worth. -/
noncomputable def Try.pinned : Pinned := { name := "ytbcflinledkgjaa", sum := "fe7d67b01093845b3089140a28ca8e5665667cbbb03e009c61eda980b053665f", checked := Try.checked }
namespace Rows
def none {H : Type} : Left H := { results := [], args := [] }

/-- 'wimplelaw17.Qmins': WHATEVER THE INPUT: true; the input reads as it did. -/
def qminsSpec : ChangeSpec := { name := "qmins", fn := fun _ => fun
  | [d1, d2, d3, d4, d5] => { results := [.lit (.bool true)], args := [d1, d2, d3, d4, d5] }
  | _ => none }
def qminsRow : OpenClaim := { program := "ytbcflinledkgjaa", sum := "fe7d67b01093845b3089140a28ca8e5665667cbbb03e009c61eda980b053665f", func := "wimple/wimplelaw17.Qmins", spec := "qmins", inPlace := ["internal/abi.NoEscape"], apart := false }
def QminsSaid : Prop := qminsRow.holds Try.pinned (OpenSpec.ofChange qminsSpec)

/-- ITS FALSE NEIGHBOUR: 'it returns false'. Refute it at one input. -/
def qminsWrong : ChangeSpec := { name := "qmins", fn := fun _ => fun
  | [d1, d2, d3, d4, d5] => { results := [.lit (.bool false)], args := [d1, d2, d3, d4, d5] }
  | _ => none }
def QminsWrongFalsely : Prop := qminsRow.holds Try.pinned (OpenSpec.ofChange qminsWrong)

/-- 'wimplelaw17.QminTells': WHATEVER THE INPUT: true; the input reads as it did. -/
def qminTellsSpec : ChangeSpec := { name := "qminTells", fn := fun _ => fun
  | [d1, d2, d3] => { results := [.lit (.bool true)], args := [d1, d2, d3] }
  | _ => none }
def qminTellsRow : OpenClaim := { program := "ytbcflinledkgjaa", sum := "fe7d67b01093845b3089140a28ca8e5665667cbbb03e009c61eda980b053665f", func := "wimple/wimplelaw17.QminTells", spec := "qminTells", inPlace := ["internal/abi.NoEscape"], apart := false }
def QminTellsSaid : Prop := qminTellsRow.holds Try.pinned (OpenSpec.ofChange qminTellsSpec)

/-- ITS FALSE NEIGHBOUR: 'it returns false'. Refute it at one input. -/
def qminTellsWrong : ChangeSpec := { name := "qminTells", fn := fun _ => fun
  | [d1, d2, d3] => { results := [.lit (.bool false)], args := [d1, d2, d3] }
  | _ => none }
def QminTellsWrongFalsely : Prop := qminTellsRow.holds Try.pinned (OpenSpec.ofChange qminTellsWrong)

/-- 'wimplelaw17.QminWalk': WHATEVER THE INPUT: true; the input reads as it did. -/
def qminWalkSpec : ChangeSpec := { name := "qminWalk", fn := fun _ => fun
  | [d1, d2, d3, d4] => { results := [.lit (.bool true)], args := [d1, d2, d3, d4] }
  | _ => none }
def qminWalkRow : OpenClaim := { program := "ytbcflinledkgjaa", sum := "fe7d67b01093845b3089140a28ca8e5665667cbbb03e009c61eda980b053665f", func := "wimple/wimplelaw17.QminWalk", spec := "qminWalk", inPlace := ["internal/abi.NoEscape"], apart := false }
def QminWalkSaid : Prop := qminWalkRow.holds Try.pinned (OpenSpec.ofChange qminWalkSpec)

/-- ITS FALSE NEIGHBOUR: 'it returns false'. Refute it at one input. -/
def qminWalkWrong : ChangeSpec := { name := "qminWalk", fn := fun _ => fun
  | [d1, d2, d3, d4] => { results := [.lit (.bool false)], args := [d1, d2, d3, d4] }
  | _ => none }
def QminWalkWrongFalsely : Prop := qminWalkRow.holds Try.pinned (OpenSpec.ofChange qminWalkWrong)

/-- 'wimplelaw17.QminSizes': WHATEVER THE INPUT: true; the input reads as it did. -/
def qminSizesSpec : ChangeSpec := { name := "qminSizes", fn := fun _ => fun
  | [d1, d2, d3, d4] => { results := [.lit (.bool true)], args := [d1, d2, d3, d4] }
  | _ => none }
def qminSizesRow : OpenClaim := { program := "ytbcflinledkgjaa", sum := "fe7d67b01093845b3089140a28ca8e5665667cbbb03e009c61eda980b053665f", func := "wimple/wimplelaw17.QminSizes", spec := "qminSizes", inPlace := ["internal/abi.NoEscape"], apart := false }
def QminSizesSaid : Prop := qminSizesRow.holds Try.pinned (OpenSpec.ofChange qminSizesSpec)

/-- ITS FALSE NEIGHBOUR: 'it returns false'. Refute it at one input. -/
def qminSizesWrong : ChangeSpec := { name := "qminSizes", fn := fun _ => fun
  | [d1, d2, d3, d4] => { results := [.lit (.bool false)], args := [d1, d2, d3, d4] }
  | _ => none }
def QminSizesWrongFalsely : Prop := qminSizesRow.holds Try.pinned (OpenSpec.ofChange qminSizesWrong)

/-- 'wimplelaw17.QminForms': WHATEVER THE INPUT: true; the input reads as it did. -/
def qminFormsSpec : ChangeSpec := { name := "qminForms", fn := fun _ => fun
  | [d1, d2] => { results := [.lit (.bool true)], args := [d1, d2] }
  | _ => none }
def qminFormsRow : OpenClaim := { program := "ytbcflinledkgjaa", sum := "fe7d67b01093845b3089140a28ca8e5665667cbbb03e009c61eda980b053665f", func := "wimple/wimplelaw17.QminForms", spec := "qminForms", inPlace := ["internal/abi.NoEscape"], apart := false }
def QminFormsSaid : Prop := qminFormsRow.holds Try.pinned (OpenSpec.ofChange qminFormsSpec)

/-- ITS FALSE NEIGHBOUR: 'it returns false'. Refute it at one input. -/
def qminFormsWrong : ChangeSpec := { name := "qminForms", fn := fun _ => fun
  | [d1, d2] => { results := [.lit (.bool false)], args := [d1, d2] }
  | _ => none }
def QminFormsWrongFalsely : Prop := qminFormsRow.holds Try.pinned (OpenSpec.ofChange qminFormsWrong)

/-- 'wimplelaw17.QminFull': WHATEVER THE INPUT: true; the input reads as it did. -/
def qminFullSpec : ChangeSpec := { name := "qminFull", fn := fun _ => fun
  | [d1, d2, d3, d4] => { results := [.lit (.bool true)], args := [d1, d2, d3, d4] }
  | _ => none }
def qminFullRow : OpenClaim := { program := "ytbcflinledkgjaa", sum := "fe7d67b01093845b3089140a28ca8e5665667cbbb03e009c61eda980b053665f", func := "wimple/wimplelaw17.QminFull", spec := "qminFull", inPlace := ["internal/abi.NoEscape"], apart := false }
def QminFullSaid : Prop := qminFullRow.holds Try.pinned (OpenSpec.ofChange qminFullSpec)

/-- ITS FALSE NEIGHBOUR: 'it returns false'. Refute it at one input. -/
def qminFullWrong : ChangeSpec := { name := "qminFull", fn := fun _ => fun
  | [d1, d2, d3, d4] => { results := [.lit (.bool false)], args := [d1, d2, d3, d4] }
  | _ => none }
def QminFullWrongFalsely : Prop := qminFullRow.holds Try.pinned (OpenSpec.ofChange qminFullWrong)

/-- 'wimplelaw17.QminLong': WHATEVER THE INPUT: true; the input reads as it did. -/
def qminLongSpec : ChangeSpec := { name := "qminLong", fn := fun _ => fun
  | [d1, d2, d3] => { results := [.lit (.bool true)], args := [d1, d2, d3] }
  | _ => none }
def qminLongRow : OpenClaim := { program := "ytbcflinledkgjaa", sum := "fe7d67b01093845b3089140a28ca8e5665667cbbb03e009c61eda980b053665f", func := "wimple/wimplelaw17.QminLong", spec := "qminLong", inPlace := ["internal/abi.NoEscape"], apart := false }
def QminLongSaid : Prop := qminLongRow.holds Try.pinned (OpenSpec.ofChange qminLongSpec)

/-- ITS FALSE NEIGHBOUR: 'it returns false'. Refute it at one input. -/
def qminLongWrong : ChangeSpec := { name := "qminLong", fn := fun _ => fun
  | [d1, d2, d3] => { results := [.lit (.bool false)], args := [d1, d2, d3] }
  | _ => none }
def QminLongWrongFalsely : Prop := qminLongRow.holds Try.pinned (OpenSpec.ofChange qminLongWrong)

/- THE SECOND FORM. 'bulk': how many values and letters a reading holds, each counted each time it is reached (what is shared counts as often as it is met; a slice's spare places count too). A statement '..UptoSaid' is the law's where the arguments, and the package variables that the reading takes, are together of bulk at most 1048576: NARROWER than '..Said'. Prove '..Said' where nothing that the law and all that it calls make is longer than what came in: it says more and counts as full. Else prove '..UptoSaid'. A law counts once. -/
mutual
def uptoBulk {H : Type} : DataW H → Nat
  | .lit (.string bytes) => bytes.length + 1
  | .lit _ => 1
  | .nil => 1
  | .ptr d => uptoBulk d + 1
  | .slice elems spare => uptoBulkAll elems + uptoBulkAll spare + 1
  | .agg parts => uptoBulkAll parts + 1
  | .iface _ d => uptoBulk d + 1
  | .map entries => uptoBulkEntries entries + 1
  | .held _ => 1
def uptoBulkAll {H : Type} : List (DataW H) → Nat
  | [] => 0
  | d :: r => uptoBulk d + uptoBulkAll r
def uptoBulkEntries {H : Type} : List (Lit × DataW H) → Nat
  | [] => 0
  | x :: r => uptoBulkEntry x + uptoBulkEntries r
def uptoBulkEntry {H : Type} : Lit × DataW H → Nat
  | (.string bytes, d) => bytes.length + uptoBulk d + 1
  | (_, d) => uptoBulk d + 1
 end
def uptoSmall : (H : Type) → List (DataW H) → Bool := fun _ ds => decide (uptoBulkAll ds ≤ 1048576)
def OpenSpec.upto (s : _root_.Go.ChangeSpec) : _root_.Go.OpenSpec := { _root_.Go.OpenSpec.ofChange s with cond := some uptoSmall }

/-- 'wimplelaw17.Qmins', WHERE WHAT IT READS IS OF BULK AT MOST 1048576: true; the input reads as it did. -/
def qminsUptoRow : OpenClaim := { program := "ytbcflinledkgjaa", sum := "fe7d67b01093845b3089140a28ca8e5665667cbbb03e009c61eda980b053665f", func := "wimple/wimplelaw17.Qmins", spec := "qmins", inPlace := ["internal/abi.NoEscape"], apart := false, narrowed := true }
def QminsUptoSaid : Prop := qminsUptoRow.holds Try.pinned (OpenSpec.upto qminsSpec)

/-- 'wimplelaw17.QminTells', WHERE WHAT IT READS IS OF BULK AT MOST 1048576: true; the input reads as it did. -/
def qminTellsUptoRow : OpenClaim := { program := "ytbcflinledkgjaa", sum := "fe7d67b01093845b3089140a28ca8e5665667cbbb03e009c61eda980b053665f", func := "wimple/wimplelaw17.QminTells", spec := "qminTells", inPlace := ["internal/abi.NoEscape"], apart := false, narrowed := true }
def QminTellsUptoSaid : Prop := qminTellsUptoRow.holds Try.pinned (OpenSpec.upto qminTellsSpec)

/-- 'wimplelaw17.QminWalk', WHERE WHAT IT READS IS OF BULK AT MOST 1048576: true; the input reads as it did. -/
def qminWalkUptoRow : OpenClaim := { program := "ytbcflinledkgjaa", sum := "fe7d67b01093845b3089140a28ca8e5665667cbbb03e009c61eda980b053665f", func := "wimple/wimplelaw17.QminWalk", spec := "qminWalk", inPlace := ["internal/abi.NoEscape"], apart := false, narrowed := true }
def QminWalkUptoSaid : Prop := qminWalkUptoRow.holds Try.pinned (OpenSpec.upto qminWalkSpec)

/-- 'wimplelaw17.QminSizes', WHERE WHAT IT READS IS OF BULK AT MOST 1048576: true; the input reads as it did. -/
def qminSizesUptoRow : OpenClaim := { program := "ytbcflinledkgjaa", sum := "fe7d67b01093845b3089140a28ca8e5665667cbbb03e009c61eda980b053665f", func := "wimple/wimplelaw17.QminSizes", spec := "qminSizes", inPlace := ["internal/abi.NoEscape"], apart := false, narrowed := true }
def QminSizesUptoSaid : Prop := qminSizesUptoRow.holds Try.pinned (OpenSpec.upto qminSizesSpec)

/-- 'wimplelaw17.QminForms', WHERE WHAT IT READS IS OF BULK AT MOST 1048576: true; the input reads as it did. -/
def qminFormsUptoRow : OpenClaim := { program := "ytbcflinledkgjaa", sum := "fe7d67b01093845b3089140a28ca8e5665667cbbb03e009c61eda980b053665f", func := "wimple/wimplelaw17.QminForms", spec := "qminForms", inPlace := ["internal/abi.NoEscape"], apart := false, narrowed := true }
def QminFormsUptoSaid : Prop := qminFormsUptoRow.holds Try.pinned (OpenSpec.upto qminFormsSpec)

/-- 'wimplelaw17.QminFull', WHERE WHAT IT READS IS OF BULK AT MOST 1048576: true; the input reads as it did. -/
def qminFullUptoRow : OpenClaim := { program := "ytbcflinledkgjaa", sum := "fe7d67b01093845b3089140a28ca8e5665667cbbb03e009c61eda980b053665f", func := "wimple/wimplelaw17.QminFull", spec := "qminFull", inPlace := ["internal/abi.NoEscape"], apart := false, narrowed := true }
def QminFullUptoSaid : Prop := qminFullUptoRow.holds Try.pinned (OpenSpec.upto qminFullSpec)

/-- 'wimplelaw17.QminLong', WHERE WHAT IT READS IS OF BULK AT MOST 1048576: true; the input reads as it did. -/
def qminLongUptoRow : OpenClaim := { program := "ytbcflinledkgjaa", sum := "fe7d67b01093845b3089140a28ca8e5665667cbbb03e009c61eda980b053665f", func := "wimple/wimplelaw17.QminLong", spec := "qminLong", inPlace := ["internal/abi.NoEscape"], apart := false, narrowed := true }
def QminLongUptoSaid : Prop := qminLongUptoRow.holds Try.pinned (OpenSpec.upto qminLongSpec)

end Rows
end Go.Proofs.Ytbcflinledkgjaa
