/-
  No cell of these rows narrows 'for every input' (looked for: loops, veiled, ifaces, maps, wideKeys, modest, calm, conditions, laid).
  DERIVED. THE GIVEN ROWS OF THIS SEAT. 5 by the template 'for every input the law returns true; each argument reads behind the call as it read before'; 0 by the template 'total and deterministic' (their statements: YtojjkgnkdcekpaaTotals.lean).
  GIVEN WITH THE SEED: the statements are not yours to turn. If you find one false, say at which input.
  Laid BY PROGRAM, IN A SANDBOX (cutbox-rows.mjs): the forced cells as the released guide's own fill.sh prints them over the translation 042ff7be1e897eab… (all of the seat's roots in one cut). By AI agents, Wed Nov 11 2026. No macro, syntax, notation, axiom, sorry.
-/
import Derived.Test.YtojjkgnkdcekpaaChecked
import GoSem.Claim
import GoSem.ClaimJoined
import GoSem.ClaimMapViews
import Derived.JoinedTies
import Derived.KernelRfl
namespace Go.Proofs.Ytojjkgnkdcekpaa
/- THE CELL 'sum', in the pinned program and in every row, IS THE sha256 OF THE DUMP (.gsa) THAT YtojjkgnkdcekpaaProg.lean LOADS. Nothing in Lean hashes anything: it is a label: what it is worth is what the hold of that sum in a sandbox is worth. -/
noncomputable def Try.pinned : Pinned := { name := "ytojjkgnkdcekpaa", sum := "042ff7be1e897eabb824d30f1c1b80f968bd4b3212a822c7fd675e28a2360315", checked := Try.checked }
namespace Rows
def none {H : Type} : Left H := { results := [], args := [] }

/-- 'wimplelaw19.TableActs': WHATEVER THE INPUT: true; the input reads as it did. -/
def tableActsSpec : ChangeSpec := { name := "tableActs", fn := fun _ => fun
  | [d1, d2] => { results := [.lit (.bool true)], args := [d1, d2] }
  | _ => none }
def tableActsRow : OpenClaim := { program := "ytojjkgnkdcekpaa", sum := "042ff7be1e897eabb824d30f1c1b80f968bd4b3212a822c7fd675e28a2360315", func := "wimple/wimplelaw19.TableActs", spec := "tableActs", inPlace := ["internal/abi.NoEscape"], unfollowed := true, recurses := true, plainKeys := false, apart := false }
def TableActsSaid : Prop := tableActsRow.holds Try.pinned (OpenSpec.ofChange tableActsSpec)

/-- ITS FALSE NEIGHBOUR: 'it returns false'. Refute it at one input. -/
def tableActsWrong : ChangeSpec := { name := "tableActs", fn := fun _ => fun
  | [d1, d2] => { results := [.lit (.bool false)], args := [d1, d2] }
  | _ => none }
def TableActsWrongFalsely : Prop := tableActsRow.holds Try.pinned (OpenSpec.ofChange tableActsWrong)

/-- 'wimplelaw19.TableOnce': WHATEVER THE INPUT: true; the input reads as it did. -/
def tableOnceSpec : ChangeSpec := { name := "tableOnce", fn := fun _ => fun
  | [d1, d2, d3] => { results := [.lit (.bool true)], args := [d1, d2, d3] }
  | _ => none }
def tableOnceRow : OpenClaim := { program := "ytojjkgnkdcekpaa", sum := "042ff7be1e897eabb824d30f1c1b80f968bd4b3212a822c7fd675e28a2360315", func := "wimple/wimplelaw19.TableOnce", spec := "tableOnce", inPlace := ["internal/abi.NoEscape"], unfollowed := true, recurses := true, plainKeys := false, apart := false }
def TableOnceSaid : Prop := tableOnceRow.holds Try.pinned (OpenSpec.ofChange tableOnceSpec)

/-- ITS FALSE NEIGHBOUR: 'it returns false'. Refute it at one input. -/
def tableOnceWrong : ChangeSpec := { name := "tableOnce", fn := fun _ => fun
  | [d1, d2, d3] => { results := [.lit (.bool false)], args := [d1, d2, d3] }
  | _ => none }
def TableOnceWrongFalsely : Prop := tableOnceRow.holds Try.pinned (OpenSpec.ofChange tableOnceWrong)

/-- 'wimplelaw19.TableForms': WHATEVER THE INPUT: true; the input reads as it did. -/
def tableFormsSpec : ChangeSpec := { name := "tableForms", fn := fun _ => fun
  | [d1, d2] => { results := [.lit (.bool true)], args := [d1, d2] }
  | _ => none }
def tableFormsRow : OpenClaim := { program := "ytojjkgnkdcekpaa", sum := "042ff7be1e897eabb824d30f1c1b80f968bd4b3212a822c7fd675e28a2360315", func := "wimple/wimplelaw19.TableForms", spec := "tableForms", inPlace := ["internal/abi.NoEscape"], unfollowed := true, recurses := true, plainKeys := false, apart := false }
def TableFormsSaid : Prop := tableFormsRow.holds Try.pinned (OpenSpec.ofChange tableFormsSpec)

/-- ITS FALSE NEIGHBOUR: 'it returns false'. Refute it at one input. -/
def tableFormsWrong : ChangeSpec := { name := "tableForms", fn := fun _ => fun
  | [d1, d2] => { results := [.lit (.bool false)], args := [d1, d2] }
  | _ => none }
def TableFormsWrongFalsely : Prop := tableFormsRow.holds Try.pinned (OpenSpec.ofChange tableFormsWrong)

/-- 'wimplelaw19.TableMatch': WHATEVER THE INPUT: true; the input reads as it did. -/
def tableMatchSpec : ChangeSpec := { name := "tableMatch", fn := fun _ => fun
  | [d1, d2] => { results := [.lit (.bool true)], args := [d1, d2] }
  | _ => none }
def tableMatchRow : OpenClaim := { program := "ytojjkgnkdcekpaa", sum := "042ff7be1e897eabb824d30f1c1b80f968bd4b3212a822c7fd675e28a2360315", func := "wimple/wimplelaw19.TableMatch", spec := "tableMatch", inPlace := ["internal/abi.NoEscape"], unfollowed := true, recurses := true, plainKeys := false, apart := false }
def TableMatchSaid : Prop := tableMatchRow.holds Try.pinned (OpenSpec.ofChange tableMatchSpec)

/-- ITS FALSE NEIGHBOUR: 'it returns false'. Refute it at one input. -/
def tableMatchWrong : ChangeSpec := { name := "tableMatch", fn := fun _ => fun
  | [d1, d2] => { results := [.lit (.bool false)], args := [d1, d2] }
  | _ => none }
def TableMatchWrongFalsely : Prop := tableMatchRow.holds Try.pinned (OpenSpec.ofChange tableMatchWrong)

/-- 'wimplelaw19.TableRows': WHATEVER THE INPUT: true; the input reads as it did. -/
def tableRowsSpec : ChangeSpec := { name := "tableRows", fn := fun _ => fun
  | [d] => { results := [.lit (.bool true)], args := [d] }
  | _ => none }
def tableRowsRow : OpenClaim := { program := "ytojjkgnkdcekpaa", sum := "042ff7be1e897eabb824d30f1c1b80f968bd4b3212a822c7fd675e28a2360315", func := "wimple/wimplelaw19.TableRows", spec := "tableRows", inPlace := ["internal/abi.NoEscape"], unfollowed := true, recurses := true, plainKeys := false, apart := false }
def TableRowsSaid : Prop := tableRowsRow.holds Try.pinned (OpenSpec.ofChange tableRowsSpec)

/-- ITS FALSE NEIGHBOUR: 'it returns false'. Refute it at one input. -/
def tableRowsWrong : ChangeSpec := { name := "tableRows", fn := fun _ => fun
  | [d] => { results := [.lit (.bool false)], args := [d] }
  | _ => none }
def TableRowsWrongFalsely : Prop := tableRowsRow.holds Try.pinned (OpenSpec.ofChange tableRowsWrong)

/- THE SECOND FORM. 'bulk': how many values and letters a reading holds, each counted each time it is reached (what is shared counts as often as it is met; a slice's spare places count too). A statement '..UptoSaid' is the law's where the arguments, and the package variables that the reading takes, are together of bulk at most 1048576: NARROWER than '..Said'. Prove '..Said' where nothing that the law and all that it calls make is longer than what came in: it says more and counts as full. Else prove '..UptoSaid'. A law counts once. -/
mutual
def uptoBulk {H : Type} : DataW H → Nat
  | .lit (.string bytes) => bytes.length + 1
  | .lit _ => 1
  | .nil => 1
  | .ptr d => uptoBulk d + 1
  | .slice elems spare => uptoBulkAll elems + uptoBulkAll spare + 1
  | .agg parts => uptoBulkAll parts + 1
  | .iface _ d => uptoBulk d + 1
  | .map entries => uptoBulkEntries entries + 1
  | .held _ => 1
def uptoBulkAll {H : Type} : List (DataW H) → Nat
  | [] => 0
  | d :: r => uptoBulk d + uptoBulkAll r
def uptoBulkEntries {H : Type} : List (Lit × DataW H) → Nat
  | [] => 0
  | x :: r => uptoBulkEntry x + uptoBulkEntries r
def uptoBulkEntry {H : Type} : Lit × DataW H → Nat
  | (.string bytes, d) => bytes.length + uptoBulk d + 1
  | (_, d) => uptoBulk d + 1
 end
def uptoSmall : (H : Type) → List (DataW H) → Bool := fun _ ds => decide (uptoBulkAll ds ≤ 1048576)
def OpenSpec.upto (s : _root_.Go.ChangeSpec) : _root_.Go.OpenSpec := { _root_.Go.OpenSpec.ofChange s with cond := some uptoSmall }

/-- 'wimplelaw19.TableActs', WHERE WHAT IT READS IS OF BULK AT MOST 1048576: true; the input reads as it did. -/
def tableActsUptoRow : OpenClaim := { program := "ytojjkgnkdcekpaa", sum := "042ff7be1e897eabb824d30f1c1b80f968bd4b3212a822c7fd675e28a2360315", func := "wimple/wimplelaw19.TableActs", spec := "tableActs", inPlace := ["internal/abi.NoEscape"], unfollowed := true, recurses := true, plainKeys := false, apart := false, narrowed := true }
def TableActsUptoSaid : Prop := tableActsUptoRow.holds Try.pinned (OpenSpec.upto tableActsSpec)

/-- 'wimplelaw19.TableOnce', WHERE WHAT IT READS IS OF BULK AT MOST 1048576: true; the input reads as it did. -/
def tableOnceUptoRow : OpenClaim := { program := "ytojjkgnkdcekpaa", sum := "042ff7be1e897eabb824d30f1c1b80f968bd4b3212a822c7fd675e28a2360315", func := "wimple/wimplelaw19.TableOnce", spec := "tableOnce", inPlace := ["internal/abi.NoEscape"], unfollowed := true, recurses := true, plainKeys := false, apart := false, narrowed := true }
def TableOnceUptoSaid : Prop := tableOnceUptoRow.holds Try.pinned (OpenSpec.upto tableOnceSpec)

/-- 'wimplelaw19.TableForms', WHERE WHAT IT READS IS OF BULK AT MOST 1048576: true; the input reads as it did. -/
def tableFormsUptoRow : OpenClaim := { program := "ytojjkgnkdcekpaa", sum := "042ff7be1e897eabb824d30f1c1b80f968bd4b3212a822c7fd675e28a2360315", func := "wimple/wimplelaw19.TableForms", spec := "tableForms", inPlace := ["internal/abi.NoEscape"], unfollowed := true, recurses := true, plainKeys := false, apart := false, narrowed := true }
def TableFormsUptoSaid : Prop := tableFormsUptoRow.holds Try.pinned (OpenSpec.upto tableFormsSpec)

/-- 'wimplelaw19.TableMatch', WHERE WHAT IT READS IS OF BULK AT MOST 1048576: true; the input reads as it did. -/
def tableMatchUptoRow : OpenClaim := { program := "ytojjkgnkdcekpaa", sum := "042ff7be1e897eabb824d30f1c1b80f968bd4b3212a822c7fd675e28a2360315", func := "wimple/wimplelaw19.TableMatch", spec := "tableMatch", inPlace := ["internal/abi.NoEscape"], unfollowed := true, recurses := true, plainKeys := false, apart := false, narrowed := true }
def TableMatchUptoSaid : Prop := tableMatchUptoRow.holds Try.pinned (OpenSpec.upto tableMatchSpec)

/-- 'wimplelaw19.TableRows', WHERE WHAT IT READS IS OF BULK AT MOST 1048576: true; the input reads as it did. -/
def tableRowsUptoRow : OpenClaim := { program := "ytojjkgnkdcekpaa", sum := "042ff7be1e897eabb824d30f1c1b80f968bd4b3212a822c7fd675e28a2360315", func := "wimple/wimplelaw19.TableRows", spec := "tableRows", inPlace := ["internal/abi.NoEscape"], unfollowed := true, recurses := true, plainKeys := false, apart := false, narrowed := true }
def TableRowsUptoSaid : Prop := tableRowsUptoRow.holds Try.pinned (OpenSpec.upto tableRowsSpec)

end Rows
end Go.Proofs.Ytojjkgnkdcekpaa
