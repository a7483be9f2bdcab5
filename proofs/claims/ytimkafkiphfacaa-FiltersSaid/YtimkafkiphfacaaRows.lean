/-
  No cell of these rows narrows 'for every input' (looked for: loops, veiled, ifaces, maps, wideKeys, modest, calm, conditions, laid).
  DERIVED. THE GIVEN ROWS OF THIS SEAT. 7 by the template 'for every input the law returns true; each argument reads behind the call as it read before'; 0 by the template 'total and deterministic' (their statements: YtimkafkiphfacaaTotals.lean).
  GIVEN WITH THE SEED: the statements are not yours to turn. If you find one false, say at which input.
  Laid BY PROGRAM, IN A SANDBOX (cutbox-rows.mjs): the forced cells as the released guide's own fill.sh prints them over the translation 3b67e754d02d0828… (all of the seat's roots in one cut). By AI agents, Wed Nov 11 2026. No macro, syntax, notation, axiom, sorry.
-/
import Derived.Test.YtimkafkiphfacaaChecked
import GoSem.Claim
import GoSem.ClaimJoined
import GoSem.ClaimMapViews
import Derived.JoinedTies
import Derived.KernelRfl
namespace Go.Proofs.Ytimkafkiphfacaa
/- THE CELL 'sum', in the pinned program and in every row, IS THE sha256 OF THE DUMP (.gsa) THAT YtimkafkiphfacaaProg.lean LOADS. Nothing in Lean hashes anything: it is a label: what it is worth is what the hold of that sum in a sandbox is worth. -/
noncomputable def Try.pinned : Pinned := { name := "ytimkafkiphfacaa", sum := "3b67e754d02d0828ab2123dd69fa8b3aa21c6705d1f8b0d146c9af57fed35f7d", checked := Try.checked }
namespace Rows
def none {H : Type} : Left H := { results := [], args := [] }

/-- 'wimplelaw12.Filters': WHATEVER THE INPUT: true; the input reads as it did. -/
def filtersSpec : ChangeSpec := { name := "filters", fn := fun _ => fun
  | [d1, d2] => { results := [.lit (.bool true)], args := [d1, d2] }
  | _ => none }
def filtersRow : OpenClaim := { program := "ytimkafkiphfacaa", sum := "3b67e754d02d0828ab2123dd69fa8b3aa21c6705d1f8b0d146c9af57fed35f7d", func := "wimple/wimplelaw12.Filters", spec := "filters", inPlace := ["internal/abi.NoEscape"], apart := false }
def FiltersSaid : Prop := filtersRow.holds Try.pinned (OpenSpec.ofChange filtersSpec)

/-- ITS FALSE NEIGHBOUR: 'it returns false'. Refute it at one input. -/
def filtersWrong : ChangeSpec := { name := "filters", fn := fun _ => fun
  | [d1, d2] => { results := [.lit (.bool false)], args := [d1, d2] }
  | _ => none }
def FiltersWrongFalsely : Prop := filtersRow.holds Try.pinned (OpenSpec.ofChange filtersWrong)

/-- 'wimplelaw12.FilterBounds': WHATEVER THE INPUT: true; the input reads as it did. -/
def filterBoundsSpec : ChangeSpec := { name := "filterBounds", fn := fun _ => fun
  | [d1, d2, d3] => { results := [.lit (.bool true)], args := [d1, d2, d3] }
  | _ => none }
def filterBoundsRow : OpenClaim := { program := "ytimkafkiphfacaa", sum := "3b67e754d02d0828ab2123dd69fa8b3aa21c6705d1f8b0d146c9af57fed35f7d", func := "wimple/wimplelaw12.FilterBounds", spec := "filterBounds", inPlace := ["internal/abi.NoEscape"], apart := false }
def FilterBoundsSaid : Prop := filterBoundsRow.holds Try.pinned (OpenSpec.ofChange filterBoundsSpec)

/-- ITS FALSE NEIGHBOUR: 'it returns false'. Refute it at one input. -/
def filterBoundsWrong : ChangeSpec := { name := "filterBounds", fn := fun _ => fun
  | [d1, d2, d3] => { results := [.lit (.bool false)], args := [d1, d2, d3] }
  | _ => none }
def FilterBoundsWrongFalsely : Prop := filterBoundsRow.holds Try.pinned (OpenSpec.ofChange filterBoundsWrong)

/-- 'wimplelaw12.FilterRoot': WHATEVER THE INPUT: true; the input reads as it did. -/
def filterRootSpec : ChangeSpec := { name := "filterRoot", fn := fun _ => fun
  | [d] => { results := [.lit (.bool true)], args := [d] }
  | _ => none }
def filterRootRow : OpenClaim := { program := "ytimkafkiphfacaa", sum := "3b67e754d02d0828ab2123dd69fa8b3aa21c6705d1f8b0d146c9af57fed35f7d", func := "wimple/wimplelaw12.FilterRoot", spec := "filterRoot", inPlace := ["internal/abi.NoEscape"], apart := false }
def FilterRootSaid : Prop := filterRootRow.holds Try.pinned (OpenSpec.ofChange filterRootSpec)

/-- ITS FALSE NEIGHBOUR: 'it returns false'. Refute it at one input. -/
def filterRootWrong : ChangeSpec := { name := "filterRoot", fn := fun _ => fun
  | [d] => { results := [.lit (.bool false)], args := [d] }
  | _ => none }
def FilterRootWrongFalsely : Prop := filterRootRow.holds Try.pinned (OpenSpec.ofChange filterRootWrong)

/-- 'wimplelaw12.FilterTwice': WHATEVER THE INPUT: true; the input reads as it did. -/
def filterTwiceSpec : ChangeSpec := { name := "filterTwice", fn := fun _ => fun
  | [d1, d2] => { results := [.lit (.bool true)], args := [d1, d2] }
  | _ => none }
def filterTwiceRow : OpenClaim := { program := "ytimkafkiphfacaa", sum := "3b67e754d02d0828ab2123dd69fa8b3aa21c6705d1f8b0d146c9af57fed35f7d", func := "wimple/wimplelaw12.FilterTwice", spec := "filterTwice", inPlace := ["internal/abi.NoEscape"], apart := false }
def FilterTwiceSaid : Prop := filterTwiceRow.holds Try.pinned (OpenSpec.ofChange filterTwiceSpec)

/-- ITS FALSE NEIGHBOUR: 'it returns false'. Refute it at one input. -/
def filterTwiceWrong : ChangeSpec := { name := "filterTwice", fn := fun _ => fun
  | [d1, d2] => { results := [.lit (.bool false)], args := [d1, d2] }
  | _ => none }
def FilterTwiceWrongFalsely : Prop := filterTwiceRow.holds Try.pinned (OpenSpec.ofChange filterTwiceWrong)

/-- 'wimplelaw16.Serves': WHATEVER THE INPUT: true; the input reads as it did. -/
def servesSpec : ChangeSpec := { name := "serves", fn := fun _ => fun
  | [d1, d2] => { results := [.lit (.bool true)], args := [d1, d2] }
  | _ => none }
def servesRow : OpenClaim := { program := "ytimkafkiphfacaa", sum := "3b67e754d02d0828ab2123dd69fa8b3aa21c6705d1f8b0d146c9af57fed35f7d", func := "wimple/wimplelaw16.Serves", spec := "serves", inPlace := ["internal/abi.NoEscape"], unfollowed := true, recurses := true, apart := false }
def ServesSaid : Prop := servesRow.holds Try.pinned (OpenSpec.ofChange servesSpec)

/-- ITS FALSE NEIGHBOUR: 'it returns false'. Refute it at one input. -/
def servesWrong : ChangeSpec := { name := "serves", fn := fun _ => fun
  | [d1, d2] => { results := [.lit (.bool false)], args := [d1, d2] }
  | _ => none }
def ServesWrongFalsely : Prop := servesRow.holds Try.pinned (OpenSpec.ofChange servesWrong)

/-- 'wimplelaw16.ServeOnce': WHATEVER THE INPUT: true; the input reads as it did. -/
def serveOnceSpec : ChangeSpec := { name := "serveOnce", fn := fun _ => fun
  | [d1, d2] => { results := [.lit (.bool true)], args := [d1, d2] }
  | _ => none }
def serveOnceRow : OpenClaim := { program := "ytimkafkiphfacaa", sum := "3b67e754d02d0828ab2123dd69fa8b3aa21c6705d1f8b0d146c9af57fed35f7d", func := "wimple/wimplelaw16.ServeOnce", spec := "serveOnce", inPlace := ["internal/abi.NoEscape"], unfollowed := true, recurses := true, apart := false }
def ServeOnceSaid : Prop := serveOnceRow.holds Try.pinned (OpenSpec.ofChange serveOnceSpec)

/-- ITS FALSE NEIGHBOUR: 'it returns false'. Refute it at one input. -/
def serveOnceWrong : ChangeSpec := { name := "serveOnce", fn := fun _ => fun
  | [d1, d2] => { results := [.lit (.bool false)], args := [d1, d2] }
  | _ => none }
def ServeOnceWrongFalsely : Prop := serveOnceRow.holds Try.pinned (OpenSpec.ofChange serveOnceWrong)

/-- 'wimplelaw16.ServeCut': WHATEVER THE INPUT: true; the input reads as it did. -/
def serveCutSpec : ChangeSpec := { name := "serveCut", fn := fun _ => fun
  | [d1, d2, d3] => { results := [.lit (.bool true)], args := [d1, d2, d3] }
  | _ => none }
def serveCutRow : OpenClaim := { program := "ytimkafkiphfacaa", sum := "3b67e754d02d0828ab2123dd69fa8b3aa21c6705d1f8b0d146c9af57fed35f7d", func := "wimple/wimplelaw16.ServeCut", spec := "serveCut", inPlace := ["internal/abi.NoEscape"], unfollowed := true, recurses := true, apart := false }
def ServeCutSaid : Prop := serveCutRow.holds Try.pinned (OpenSpec.ofChange serveCutSpec)

/-- ITS FALSE NEIGHBOUR: 'it returns false'. Refute it at one input. -/
def serveCutWrong : ChangeSpec := { name := "serveCut", fn := fun _ => fun
  | [d1, d2, d3] => { results := [.lit (.bool false)], args := [d1, d2, d3] }
  | _ => none }
def ServeCutWrongFalsely : Prop := serveCutRow.holds Try.pinned (OpenSpec.ofChange serveCutWrong)

/- THE SECOND FORM. 'bulk': how many values and letters a reading holds, each counted each time it is reached (what is shared counts as often as it is met; a slice's spare places count too). A statement '..UptoSaid' is the law's where the arguments, and the package variables that the reading takes, are together of bulk at most 1048576: NARROWER than '..Said'. Prove '..Said' where nothing that the law and all that it calls make is longer than what came in: it says more and counts as full. Else prove '..UptoSaid'. A law counts once. -/
mutual
def uptoBulk {H : Type} : DataW H → Nat
  | .lit (.string bytes) => bytes.length + 1
  | .lit _ => 1
  | .nil => 1
  | .ptr d => uptoBulk d + 1
  | .slice elems spare => uptoBulkAll elems + uptoBulkAll spare + 1
  | .agg parts => uptoBulkAll parts + 1
  | .iface _ d => uptoBulk d + 1
  | .map entries => uptoBulkEntries entries + 1
  | .held _ => 1
def uptoBulkAll {H : Type} : List (DataW H) → Nat
  | [] => 0
  | d :: r => uptoBulk d + uptoBulkAll r
def uptoBulkEntries {H : Type} : List (Lit × DataW H) → Nat
  | [] => 0
  | x :: r => uptoBulkEntry x + uptoBulkEntries r
def uptoBulkEntry {H : Type} : Lit × DataW H → Nat
  | (.string bytes, d) => bytes.length + uptoBulk d + 1
  | (_, d) => uptoBulk d + 1
 end
def uptoSmall : (H : Type) → List (DataW H) → Bool := fun _ ds => decide (uptoBulkAll ds ≤ 1048576)
def OpenSpec.upto (s : _root_.Go.ChangeSpec) : _root_.Go.OpenSpec := { _root_.Go.OpenSpec.ofChange s with cond := some uptoSmall }

/-- 'wimplelaw12.Filters', WHERE WHAT IT READS IS OF BULK AT MOST 1048576: true; the input reads as it did. -/
def filtersUptoRow : OpenClaim := { program := "ytimkafkiphfacaa", sum := "3b67e754d02d0828ab2123dd69fa8b3aa21c6705d1f8b0d146c9af57fed35f7d", func := "wimple/wimplelaw12.Filters", spec := "filters", inPlace := ["internal/abi.NoEscape"], apart := false, narrowed := true }
def FiltersUptoSaid : Prop := filtersUptoRow.holds Try.pinned (OpenSpec.upto filtersSpec)

/-- 'wimplelaw12.FilterBounds', WHERE WHAT IT READS IS OF BULK AT MOST 1048576: true; the input reads as it did. -/
def filterBoundsUptoRow : OpenClaim := { program := "ytimkafkiphfacaa", sum := "3b67e754d02d0828ab2123dd69fa8b3aa21c6705d1f8b0d146c9af57fed35f7d", func := "wimple/wimplelaw12.FilterBounds", spec := "filterBounds", inPlace := ["internal/abi.NoEscape"], apart := false, narrowed := true }
def FilterBoundsUptoSaid : Prop := filterBoundsUptoRow.holds Try.pinned (OpenSpec.upto filterBoundsSpec)

/-- 'wimplelaw12.FilterRoot', WHERE WHAT IT READS IS OF BULK AT MOST 1048576: true; the input reads as it did. -/
def filterRootUptoRow : OpenClaim := { program := "ytimkafkiphfacaa", sum := "3b67e754d02d0828ab2123dd69fa8b3aa21c6705d1f8b0d146c9af57fed35f7d", func := "wimple/wimplelaw12.FilterRoot", spec := "filterRoot", inPlace := ["internal/abi.NoEscape"], apart := false, narrowed := true }
def FilterRootUptoSaid : Prop := filterRootUptoRow.holds Try.pinned (OpenSpec.upto filterRootSpec)

/-- 'wimplelaw12.FilterTwice', WHERE WHAT IT READS IS OF BULK AT MOST 1048576: true; the input reads as it did. -/
def filterTwiceUptoRow : OpenClaim := { program := "ytimkafkiphfacaa", sum := "3b67e754d02d0828ab2123dd69fa8b3aa21c6705d1f8b0d146c9af57fed35f7d", func := "wimple/wimplelaw12.FilterTwice", spec := "filterTwice", inPlace := ["internal/abi.NoEscape"], apart := false, narrowed := true }
def FilterTwiceUptoSaid : Prop := filterTwiceUptoRow.holds Try.pinned (OpenSpec.upto filterTwiceSpec)

/-- 'wimplelaw16.Serves', WHERE WHAT IT READS IS OF BULK AT MOST 1048576: true; the input reads as it did. -/
def servesUptoRow : OpenClaim := { program := "ytimkafkiphfacaa", sum := "3b67e754d02d0828ab2123dd69fa8b3aa21c6705d1f8b0d146c9af57fed35f7d", func := "wimple/wimplelaw16.Serves", spec := "serves", inPlace := ["internal/abi.NoEscape"], unfollowed := true, recurses := true, apart := false, narrowed := true }
def ServesUptoSaid : Prop := servesUptoRow.holds Try.pinned (OpenSpec.upto servesSpec)

/-- 'wimplelaw16.ServeOnce', WHERE WHAT IT READS IS OF BULK AT MOST 1048576: true; the input reads as it did. -/
def serveOnceUptoRow : OpenClaim := { program := "ytimkafkiphfacaa", sum := "3b67e754d02d0828ab2123dd69fa8b3aa21c6705d1f8b0d146c9af57fed35f7d", func := "wimple/wimplelaw16.ServeOnce", spec := "serveOnce", inPlace := ["internal/abi.NoEscape"], unfollowed := true, recurses := true, apart := false, narrowed := true }
def ServeOnceUptoSaid : Prop := serveOnceUptoRow.holds Try.pinned (OpenSpec.upto serveOnceSpec)

/-- 'wimplelaw16.ServeCut', WHERE WHAT IT READS IS OF BULK AT MOST 1048576: true; the input reads as it did. -/
def serveCutUptoRow : OpenClaim := { program := "ytimkafkiphfacaa", sum := "3b67e754d02d0828ab2123dd69fa8b3aa21c6705d1f8b0d146c9af57fed35f7d", func := "wimple/wimplelaw16.ServeCut", spec := "serveCut", inPlace := ["internal/abi.NoEscape"], unfollowed := true, recurses := true, apart := false, narrowed := true }
def ServeCutUptoSaid : Prop := serveCutUptoRow.holds Try.pinned (OpenSpec.upto serveCutSpec)

end Rows
end Go.Proofs.Ytimkafkiphfacaa
