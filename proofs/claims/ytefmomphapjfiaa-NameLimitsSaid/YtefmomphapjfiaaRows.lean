/-
  No cell of these rows narrows 'for every input' (looked for: loops, veiled, ifaces, maps, wideKeys, modest, calm, conditions, laid).
  DERIVED. THE GIVEN ROWS OF THIS SEAT. 6 by the template 'for every input the law returns true; each argument reads behind the call as it read before'; 0 by the template 'total and deterministic' (their statements: YtefmomphapjfiaaTotals.lean).
  GIVEN WITH THE SEED: the statements are not yours to turn. If you find one false, say at which input.
  Laid BY PROGRAM, IN A SANDBOX (cutbox-rows.mjs): the forced cells as the released guide's own fill.sh prints them over the translation 3e096ba08e03f9bf… (all of the seat's roots in one cut). By AI agents, Wed Nov 11 2026. No macro, syntax, notation, axiom, sorry.
-/
import Derived.Test.YtefmomphapjfiaaChecked
import GoSem.Claim
import GoSem.ClaimJoined
import GoSem.ClaimMapViews
import Derived.JoinedTies
import Derived.KernelRfl
namespace Go.Proofs.Ytefmomphapjfiaa
/- THE CELL 'sum', in the pinned program and in every row, IS THE sha256 OF THE DUMP (.gsa) THAT YtefmomphapjfiaaProg.lean LOADS. Nothing in Lean hashes anything: it is a label: what it is worth is what the hold of that sum in a sandbox is worth. -/
noncomputable def Try.pinned : Pinned := { name := "ytefmomphapjfiaa", sum := "3e096ba08e03f9bfe946cf88f765610dee5e64ccdb90115a6da969bd8b87bda7", checked := Try.checked }
namespace Rows
def none {H : Type} : Left H := { results := [], args := [] }

/-- 'wimplelaw1.Names': WHATEVER THE INPUT: true; the input reads as it did. -/
def namesSpec : ChangeSpec := { name := "names", fn := fun _ => fun
  | [d1, d2] => { results := [.lit (.bool true)], args := [d1, d2] }
  | _ => none }
def namesRow : OpenClaim := { program := "ytefmomphapjfiaa", sum := "3e096ba08e03f9bfe946cf88f765610dee5e64ccdb90115a6da969bd8b87bda7", func := "wimple/wimplelaw1.Names", spec := "names", inPlace := ["internal/abi.NoEscape"], apart := false }
def NamesSaid : Prop := namesRow.holds Try.pinned (OpenSpec.ofChange namesSpec)

/-- ITS FALSE NEIGHBOUR: 'it returns false'. Refute it at one input. -/
def namesWrong : ChangeSpec := { name := "names", fn := fun _ => fun
  | [d1, d2] => { results := [.lit (.bool false)], args := [d1, d2] }
  | _ => none }
def NamesWrongFalsely : Prop := namesRow.holds Try.pinned (OpenSpec.ofChange namesWrong)

/-- 'wimplelaw1.NameBack': WHATEVER THE INPUT: true; the input reads as it did. -/
def nameBackSpec : ChangeSpec := { name := "nameBack", fn := fun _ => fun
  | [d1, d2] => { results := [.lit (.bool true)], args := [d1, d2] }
  | _ => none }
def nameBackRow : OpenClaim := { program := "ytefmomphapjfiaa", sum := "3e096ba08e03f9bfe946cf88f765610dee5e64ccdb90115a6da969bd8b87bda7", func := "wimple/wimplelaw1.NameBack", spec := "nameBack", inPlace := ["internal/abi.NoEscape"], apart := false }
def NameBackSaid : Prop := nameBackRow.holds Try.pinned (OpenSpec.ofChange nameBackSpec)

/-- ITS FALSE NEIGHBOUR: 'it returns false'. Refute it at one input. -/
def nameBackWrong : ChangeSpec := { name := "nameBack", fn := fun _ => fun
  | [d1, d2] => { results := [.lit (.bool false)], args := [d1, d2] }
  | _ => none }
def NameBackWrongFalsely : Prop := nameBackRow.holds Try.pinned (OpenSpec.ofChange nameBackWrong)

/-- 'wimplelaw1.NameLimits': WHATEVER THE INPUT: true; the input reads as it did. -/
def nameLimitsSpec : ChangeSpec := { name := "nameLimits", fn := fun _ => fun
  | [d1, d2] => { results := [.lit (.bool true)], args := [d1, d2] }
  | _ => none }
def nameLimitsRow : OpenClaim := { program := "ytefmomphapjfiaa", sum := "3e096ba08e03f9bfe946cf88f765610dee5e64ccdb90115a6da969bd8b87bda7", func := "wimple/wimplelaw1.NameLimits", spec := "nameLimits", inPlace := ["internal/abi.NoEscape"], apart := false }
def NameLimitsSaid : Prop := nameLimitsRow.holds Try.pinned (OpenSpec.ofChange nameLimitsSpec)

/-- ITS FALSE NEIGHBOUR: 'it returns false'. Refute it at one input. -/
def nameLimitsWrong : ChangeSpec := { name := "nameLimits", fn := fun _ => fun
  | [d1, d2] => { results := [.lit (.bool false)], args := [d1, d2] }
  | _ => none }
def NameLimitsWrongFalsely : Prop := nameLimitsRow.holds Try.pinned (OpenSpec.ofChange nameLimitsWrong)

/-- 'wimplelaw1.NameCounts': WHATEVER THE INPUT: true; the input reads as it did. -/
def nameCountsSpec : ChangeSpec := { name := "nameCounts", fn := fun _ => fun
  | [d1, d2] => { results := [.lit (.bool true)], args := [d1, d2] }
  | _ => none }
def nameCountsRow : OpenClaim := { program := "ytefmomphapjfiaa", sum := "3e096ba08e03f9bfe946cf88f765610dee5e64ccdb90115a6da969bd8b87bda7", func := "wimple/wimplelaw1.NameCounts", spec := "nameCounts", inPlace := ["internal/abi.NoEscape"], apart := false }
def NameCountsSaid : Prop := nameCountsRow.holds Try.pinned (OpenSpec.ofChange nameCountsSpec)

/-- ITS FALSE NEIGHBOUR: 'it returns false'. Refute it at one input. -/
def nameCountsWrong : ChangeSpec := { name := "nameCounts", fn := fun _ => fun
  | [d1, d2] => { results := [.lit (.bool false)], args := [d1, d2] }
  | _ => none }
def NameCountsWrongFalsely : Prop := nameCountsRow.holds Try.pinned (OpenSpec.ofChange nameCountsWrong)

/-- 'wimplelaw1.NamePlain': WHATEVER THE INPUT: true; the input reads as it did. -/
def namePlainSpec : ChangeSpec := { name := "namePlain", fn := fun _ => fun
  | [d] => { results := [.lit (.bool true)], args := [d] }
  | _ => none }
def namePlainRow : OpenClaim := { program := "ytefmomphapjfiaa", sum := "3e096ba08e03f9bfe946cf88f765610dee5e64ccdb90115a6da969bd8b87bda7", func := "wimple/wimplelaw1.NamePlain", spec := "namePlain", inPlace := ["internal/abi.NoEscape"], apart := false }
def NamePlainSaid : Prop := namePlainRow.holds Try.pinned (OpenSpec.ofChange namePlainSpec)

/-- ITS FALSE NEIGHBOUR: 'it returns false'. Refute it at one input. -/
def namePlainWrong : ChangeSpec := { name := "namePlain", fn := fun _ => fun
  | [d] => { results := [.lit (.bool false)], args := [d] }
  | _ => none }
def NamePlainWrongFalsely : Prop := namePlainRow.holds Try.pinned (OpenSpec.ofChange namePlainWrong)

/-- 'wimplelaw1.NameWrong': WHATEVER THE INPUT: true; the input reads as it did. -/
def nameWrongSpec : ChangeSpec := { name := "nameWrong", fn := fun _ => fun
  | [d] => { results := [.lit (.bool true)], args := [d] }
  | _ => none }
def nameWrongRow : OpenClaim := { program := "ytefmomphapjfiaa", sum := "3e096ba08e03f9bfe946cf88f765610dee5e64ccdb90115a6da969bd8b87bda7", func := "wimple/wimplelaw1.NameWrong", spec := "nameWrong", inPlace := ["internal/abi.NoEscape"], apart := false }
def NameWrongSaid : Prop := nameWrongRow.holds Try.pinned (OpenSpec.ofChange nameWrongSpec)

/-- ITS FALSE NEIGHBOUR: 'it returns false'. Refute it at one input. -/
def nameWrongWrong : ChangeSpec := { name := "nameWrong", fn := fun _ => fun
  | [d] => { results := [.lit (.bool false)], args := [d] }
  | _ => none }
def NameWrongWrongFalsely : Prop := nameWrongRow.holds Try.pinned (OpenSpec.ofChange nameWrongWrong)

/- THE SECOND FORM. 'bulk': how many values and letters a reading holds, each counted each time it is reached (what is shared counts as often as it is met; a slice's spare places count too). A statement '..UptoSaid' is the law's where the arguments, and the package variables that the reading takes, are together of bulk at most 1048576: NARROWER than '..Said'. Prove '..Said' where nothing that the law and all that it calls make is longer than what came in: it says more and counts as full. Else prove '..UptoSaid'. A law counts once. -/
mutual
def uptoBulk {H : Type} : DataW H → Nat
  | .lit (.string bytes) => bytes.length + 1
  | .lit _ => 1
  | .nil => 1
  | .ptr d => uptoBulk d + 1
  | .slice elems spare => uptoBulkAll elems + uptoBulkAll spare + 1
  | .agg parts => uptoBulkAll parts + 1
  | .iface _ d => uptoBulk d + 1
  | .map entries => uptoBulkEntries entries + 1
  | .held _ => 1
def uptoBulkAll {H : Type} : List (DataW H) → Nat
  | [] => 0
  | d :: r => uptoBulk d + uptoBulkAll r
def uptoBulkEntries {H : Type} : List (Lit × DataW H) → Nat
  | [] => 0
  | x :: r => uptoBulkEntry x + uptoBulkEntries r
def uptoBulkEntry {H : Type} : Lit × DataW H → Nat
  | (.string bytes, d) => bytes.length + uptoBulk d + 1
  | (_, d) => uptoBulk d + 1
 end
def uptoSmall : (H : Type) → List (DataW H) → Bool := fun _ ds => decide (uptoBulkAll ds ≤ 1048576)
def OpenSpec.upto (s : _root_.Go.ChangeSpec) : _root_.Go.OpenSpec := { _root_.Go.OpenSpec.ofChange s with cond := some uptoSmall }

/-- 'wimplelaw1.Names', WHERE WHAT IT READS IS OF BULK AT MOST 1048576: true; the input reads as it did. -/
def namesUptoRow : OpenClaim := { program := "ytefmomphapjfiaa", sum := "3e096ba08e03f9bfe946cf88f765610dee5e64ccdb90115a6da969bd8b87bda7", func := "wimple/wimplelaw1.Names", spec := "names", inPlace := ["internal/abi.NoEscape"], apart := false, narrowed := true }
def NamesUptoSaid : Prop := namesUptoRow.holds Try.pinned (OpenSpec.upto namesSpec)

/-- 'wimplelaw1.NameBack', WHERE WHAT IT READS IS OF BULK AT MOST 1048576: true; the input reads as it did. -/
def nameBackUptoRow : OpenClaim := { program := "ytefmomphapjfiaa", sum := "3e096ba08e03f9bfe946cf88f765610dee5e64ccdb90115a6da969bd8b87bda7", func := "wimple/wimplelaw1.NameBack", spec := "nameBack", inPlace := ["internal/abi.NoEscape"], apart := false, narrowed := true }
def NameBackUptoSaid : Prop := nameBackUptoRow.holds Try.pinned (OpenSpec.upto nameBackSpec)

/-- 'wimplelaw1.NameLimits', WHERE WHAT IT READS IS OF BULK AT MOST 1048576: true; the input reads as it did. -/
def nameLimitsUptoRow : OpenClaim := { program := "ytefmomphapjfiaa", sum := "3e096ba08e03f9bfe946cf88f765610dee5e64ccdb90115a6da969bd8b87bda7", func := "wimple/wimplelaw1.NameLimits", spec := "nameLimits", inPlace := ["internal/abi.NoEscape"], apart := false, narrowed := true }
def NameLimitsUptoSaid : Prop := nameLimitsUptoRow.holds Try.pinned (OpenSpec.upto nameLimitsSpec)

/-- 'wimplelaw1.NameCounts', WHERE WHAT IT READS IS OF BULK AT MOST 1048576: true; the input reads as it did. -/
def nameCountsUptoRow : OpenClaim := { program := "ytefmomphapjfiaa", sum := "3e096ba08e03f9bfe946cf88f765610dee5e64ccdb90115a6da969bd8b87bda7", func := "wimple/wimplelaw1.NameCounts", spec := "nameCounts", inPlace := ["internal/abi.NoEscape"], apart := false, narrowed := true }
def NameCountsUptoSaid : Prop := nameCountsUptoRow.holds Try.pinned (OpenSpec.upto nameCountsSpec)

/-- 'wimplelaw1.NamePlain', WHERE WHAT IT READS IS OF BULK AT MOST 1048576: true; the input reads as it did. -/
def namePlainUptoRow : OpenClaim := { program := "ytefmomphapjfiaa", sum := "3e096ba08e03f9bfe946cf88f765610dee5e64ccdb90115a6da969bd8b87bda7", func := "wimple/wimplelaw1.NamePlain", spec := "namePlain", inPlace := ["internal/abi.NoEscape"], apart := false, narrowed := true }
def NamePlainUptoSaid : Prop := namePlainUptoRow.holds Try.pinned (OpenSpec.upto namePlainSpec)

/-- 'wimplelaw1.NameWrong', WHERE WHAT IT READS IS OF BULK AT MOST 1048576: true; the input reads as it did. -/
def nameWrongUptoRow : OpenClaim := { program := "ytefmomphapjfiaa", sum := "3e096ba08e03f9bfe946cf88f765610dee5e64ccdb90115a6da969bd8b87bda7", func := "wimple/wimplelaw1.NameWrong", spec := "nameWrong", inPlace := ["internal/abi.NoEscape"], apart := false, narrowed := true }
def NameWrongUptoSaid : Prop := nameWrongUptoRow.holds Try.pinned (OpenSpec.upto nameWrongSpec)

end Rows
end Go.Proofs.Ytefmomphapjfiaa
