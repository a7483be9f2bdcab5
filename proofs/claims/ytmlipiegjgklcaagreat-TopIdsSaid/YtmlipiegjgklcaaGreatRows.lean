/-
  No cell of these rows narrows 'for every input' (looked for: loops, veiled, ifaces, maps, wideKeys, modest, calm, conditions, laid).
  DERIVED. THE GIVEN ROWS OF THIS SEAT. 6 by the template 'for every input the law returns true; each argument reads behind the call as it read before'; 0 by the template 'total and deterministic' (their statements: YtmlipiegjgklcaaGreatTotals.lean).
  GIVEN WITH THE SEED: the statements are not yours to turn. If you find one false, say at which input.
  Laid BY PROGRAM, IN A SANDBOX (cutbox-rows.mjs): the forced cells as the released guide's own fill.sh prints them over the translation d0555bfd5b7aff29… (all of the seat's roots in one cut). By AI agents, Wed Nov 11 2026. No macro, syntax, notation, axiom, sorry.
-/
import Derived.Test.YtmlipiegjgklcaaGreatChecked
import GoSem.Claim
import GoSem.ClaimJoined
import GoSem.ClaimMapViews
import Derived.JoinedTies
import Derived.KernelRfl
namespace Go.Proofs.YtmlipiegjgklcaaGreat
/- THE CELL 'sum', in the pinned program and in every row, IS THE sha256 OF THE DUMP (.gsa) THAT YtmlipiegjgklcaaGreatProg.lean LOADS. Nothing in Lean hashes anything: it is a label: what it is worth is what the hold of that sum in a sandbox is worth. -/
noncomputable def Tryz.pinned : Pinned := { name := "ytmlipiegjgklcaagreat", sum := "d0555bfd5b7aff2957d38d5da25e3a5bc38b44d279bc6dd8955da8aed2cbfeeb", checked := Tryz.checked }
namespace Rows
def none {H : Type} : Left H := { results := [], args := [] }

/-- 'wimpletop.TopClients': WHATEVER THE INPUT: true; the input reads as it did. -/
def topClientsSpec : ChangeSpec := { name := "topClients", fn := fun _ => fun
  | [d1, d2] => { results := [.lit (.bool true)], args := [d1, d2] }
  | _ => none }
def topClientsRow : OpenClaim := { program := "ytmlipiegjgklcaagreat", sum := "d0555bfd5b7aff2957d38d5da25e3a5bc38b44d279bc6dd8955da8aed2cbfeeb", func := "wimple/wimpletop.TopClients", spec := "topClients", inPlace := ["internal/abi.NoEscape"], unfollowed := true, recurses := true, plainKeys := false, apart := false }
def TopClientsSaid : Prop := topClientsRow.holds Tryz.pinned (OpenSpec.ofChange topClientsSpec)

/-- ITS FALSE NEIGHBOUR: 'it returns false'. Refute it at one input. -/
def topClientsWrong : ChangeSpec := { name := "topClients", fn := fun _ => fun
  | [d1, d2] => { results := [.lit (.bool false)], args := [d1, d2] }
  | _ => none }
def TopClientsWrongFalsely : Prop := topClientsRow.holds Tryz.pinned (OpenSpec.ofChange topClientsWrong)

/-- 'wimpletop.TopRoots': WHATEVER THE INPUT: true; the input reads as it did. -/
def topRootsSpec : ChangeSpec := { name := "topRoots", fn := fun _ => fun
  | [d1, d2] => { results := [.lit (.bool true)], args := [d1, d2] }
  | _ => none }
def topRootsRow : OpenClaim := { program := "ytmlipiegjgklcaagreat", sum := "d0555bfd5b7aff2957d38d5da25e3a5bc38b44d279bc6dd8955da8aed2cbfeeb", func := "wimple/wimpletop.TopRoots", spec := "topRoots", inPlace := ["internal/abi.NoEscape"], unfollowed := true, recurses := true, plainKeys := false, apart := false }
def TopRootsSaid : Prop := topRootsRow.holds Tryz.pinned (OpenSpec.ofChange topRootsSpec)

/-- ITS FALSE NEIGHBOUR: 'it returns false'. Refute it at one input. -/
def topRootsWrong : ChangeSpec := { name := "topRoots", fn := fun _ => fun
  | [d1, d2] => { results := [.lit (.bool false)], args := [d1, d2] }
  | _ => none }
def TopRootsWrongFalsely : Prop := topRootsRow.holds Tryz.pinned (OpenSpec.ofChange topRootsWrong)

/-- 'wimpletop.TopIds': WHATEVER THE INPUT: true; the input reads as it did. -/
def topIdsSpec : ChangeSpec := { name := "topIds", fn := fun _ => fun
  | [d1, d2] => { results := [.lit (.bool true)], args := [d1, d2] }
  | _ => none }
def topIdsRow : OpenClaim := { program := "ytmlipiegjgklcaagreat", sum := "d0555bfd5b7aff2957d38d5da25e3a5bc38b44d279bc6dd8955da8aed2cbfeeb", func := "wimple/wimpletop.TopIds", spec := "topIds", inPlace := ["internal/abi.NoEscape"], unfollowed := true, recurses := true, plainKeys := false, apart := false }
def TopIdsSaid : Prop := topIdsRow.holds Tryz.pinned (OpenSpec.ofChange topIdsSpec)

/-- ITS FALSE NEIGHBOUR: 'it returns false'. Refute it at one input. -/
def topIdsWrong : ChangeSpec := { name := "topIds", fn := fun _ => fun
  | [d1, d2] => { results := [.lit (.bool false)], args := [d1, d2] }
  | _ => none }
def TopIdsWrongFalsely : Prop := topIdsRow.holds Tryz.pinned (OpenSpec.ofChange topIdsWrong)

/-- 'wimpletop.TopTypes': WHATEVER THE INPUT: true; the input reads as it did. -/
def topTypesSpec : ChangeSpec := { name := "topTypes", fn := fun _ => fun
  | [d1, d2, d3, d4] => { results := [.lit (.bool true)], args := [d1, d2, d3, d4] }
  | _ => none }
def topTypesRow : OpenClaim := { program := "ytmlipiegjgklcaagreat", sum := "d0555bfd5b7aff2957d38d5da25e3a5bc38b44d279bc6dd8955da8aed2cbfeeb", func := "wimple/wimpletop.TopTypes", spec := "topTypes", inPlace := ["internal/abi.NoEscape"], unfollowed := true, recurses := true, plainKeys := false, apart := false }
def TopTypesSaid : Prop := topTypesRow.holds Tryz.pinned (OpenSpec.ofChange topTypesSpec)

/-- ITS FALSE NEIGHBOUR: 'it returns false'. Refute it at one input. -/
def topTypesWrong : ChangeSpec := { name := "topTypes", fn := fun _ => fun
  | [d1, d2, d3, d4] => { results := [.lit (.bool false)], args := [d1, d2, d3, d4] }
  | _ => none }
def TopTypesWrongFalsely : Prop := topTypesRow.holds Tryz.pinned (OpenSpec.ofChange topTypesWrong)

/-- 'wimpletop.TopEcs': WHATEVER THE INPUT: true; the input reads as it did. -/
def topEcsSpec : ChangeSpec := { name := "topEcs", fn := fun _ => fun
  | [d1, d2, d3] => { results := [.lit (.bool true)], args := [d1, d2, d3] }
  | _ => none }
def topEcsRow : OpenClaim := { program := "ytmlipiegjgklcaagreat", sum := "d0555bfd5b7aff2957d38d5da25e3a5bc38b44d279bc6dd8955da8aed2cbfeeb", func := "wimple/wimpletop.TopEcs", spec := "topEcs", inPlace := ["internal/abi.NoEscape"], unfollowed := true, recurses := true, plainKeys := false, apart := false }
def TopEcsSaid : Prop := topEcsRow.holds Tryz.pinned (OpenSpec.ofChange topEcsSpec)

/-- ITS FALSE NEIGHBOUR: 'it returns false'. Refute it at one input. -/
def topEcsWrong : ChangeSpec := { name := "topEcs", fn := fun _ => fun
  | [d1, d2, d3] => { results := [.lit (.bool false)], args := [d1, d2, d3] }
  | _ => none }
def TopEcsWrongFalsely : Prop := topEcsRow.holds Tryz.pinned (OpenSpec.ofChange topEcsWrong)

/-- 'wimpletop.TopEnds': WHATEVER THE INPUT: true; the input reads as it did. -/
def topEndsSpec : ChangeSpec := { name := "topEnds", fn := fun _ => fun
  | [d1, d2] => { results := [.lit (.bool true)], args := [d1, d2] }
  | _ => none }
def topEndsRow : OpenClaim := { program := "ytmlipiegjgklcaagreat", sum := "d0555bfd5b7aff2957d38d5da25e3a5bc38b44d279bc6dd8955da8aed2cbfeeb", func := "wimple/wimpletop.TopEnds", spec := "topEnds", inPlace := ["internal/abi.NoEscape"], unfollowed := true, recurses := true, plainKeys := false, apart := false }
def TopEndsSaid : Prop := topEndsRow.holds Tryz.pinned (OpenSpec.ofChange topEndsSpec)

/-- ITS FALSE NEIGHBOUR: 'it returns false'. Refute it at one input. -/
def topEndsWrong : ChangeSpec := { name := "topEnds", fn := fun _ => fun
  | [d1, d2] => { results := [.lit (.bool false)], args := [d1, d2] }
  | _ => none }
def TopEndsWrongFalsely : Prop := topEndsRow.holds Tryz.pinned (OpenSpec.ofChange topEndsWrong)

/- THE SECOND FORM. 'bulk': how many values and letters a reading holds, each counted each time it is reached (what is shared counts as often as it is met; a slice's spare places count too). A statement '..UptoSaid' is the law's where the arguments, and the package variables that the reading takes, are together of bulk at most 1048576: NARROWER than '..Said'. Prove '..Said' where nothing that the law and all that it calls make is longer than what came in: it says more and counts as full. Else prove '..UptoSaid'. A law counts once. -/
mutual
def uptoBulk {H : Type} : DataW H → Nat
  | .lit (.string bytes) => bytes.length + 1
  | .lit _ => 1
  | .nil => 1
  | .ptr d => uptoBulk d + 1
  | .slice elems spare => uptoBulkAll elems + uptoBulkAll spare + 1
  | .agg parts => uptoBulkAll parts + 1
  | .iface _ d => uptoBulk d + 1
  | .map entries => uptoBulkEntries entries + 1
  | .held _ => 1
def uptoBulkAll {H : Type} : List (DataW H) → Nat
  | [] => 0
  | d :: r => uptoBulk d + uptoBulkAll r
def uptoBulkEntries {H : Type} : List (Lit × DataW H) → Nat
  | [] => 0
  | x :: r => uptoBulkEntry x + uptoBulkEntries r
def uptoBulkEntry {H : Type} : Lit × DataW H → Nat
  | (.string bytes, d) => bytes.length + uptoBulk d + 1
  | (_, d) => uptoBulk d + 1
 end
def uptoSmall : (H : Type) → List (DataW H) → Bool := fun _ ds => decide (uptoBulkAll ds ≤ 1048576)
def OpenSpec.upto (s : _root_.Go.ChangeSpec) : _root_.Go.OpenSpec := { _root_.Go.OpenSpec.ofChange s with cond := some uptoSmall }

/-- 'wimpletop.TopClients', WHERE WHAT IT READS IS OF BULK AT MOST 1048576: true; the input reads as it did. -/
def topClientsUptoRow : OpenClaim := { program := "ytmlipiegjgklcaagreat", sum := "d0555bfd5b7aff2957d38d5da25e3a5bc38b44d279bc6dd8955da8aed2cbfeeb", func := "wimple/wimpletop.TopClients", spec := "topClients", inPlace := ["internal/abi.NoEscape"], unfollowed := true, recurses := true, plainKeys := false, apart := false, narrowed := true }
def TopClientsUptoSaid : Prop := topClientsUptoRow.holds Tryz.pinned (OpenSpec.upto topClientsSpec)

/-- 'wimpletop.TopRoots', WHERE WHAT IT READS IS OF BULK AT MOST 1048576: true; the input reads as it did. -/
def topRootsUptoRow : OpenClaim := { program := "ytmlipiegjgklcaagreat", sum := "d0555bfd5b7aff2957d38d5da25e3a5bc38b44d279bc6dd8955da8aed2cbfeeb", func := "wimple/wimpletop.TopRoots", spec := "topRoots", inPlace := ["internal/abi.NoEscape"], unfollowed := true, recurses := true, plainKeys := false, apart := false, narrowed := true }
def TopRootsUptoSaid : Prop := topRootsUptoRow.holds Tryz.pinned (OpenSpec.upto topRootsSpec)

/-- 'wimpletop.TopIds', WHERE WHAT IT READS IS OF BULK AT MOST 1048576: true; the input reads as it did. -/
def topIdsUptoRow : OpenClaim := { program := "ytmlipiegjgklcaagreat", sum := "d0555bfd5b7aff2957d38d5da25e3a5bc38b44d279bc6dd8955da8aed2cbfeeb", func := "wimple/wimpletop.TopIds", spec := "topIds", inPlace := ["internal/abi.NoEscape"], unfollowed := true, recurses := true, plainKeys := false, apart := false, narrowed := true }
def TopIdsUptoSaid : Prop := topIdsUptoRow.holds Tryz.pinned (OpenSpec.upto topIdsSpec)

/-- 'wimpletop.TopTypes', WHERE WHAT IT READS IS OF BULK AT MOST 1048576: true; the input reads as it did. -/
def topTypesUptoRow : OpenClaim := { program := "ytmlipiegjgklcaagreat", sum := "d0555bfd5b7aff2957d38d5da25e3a5bc38b44d279bc6dd8955da8aed2cbfeeb", func := "wimple/wimpletop.TopTypes", spec := "topTypes", inPlace := ["internal/abi.NoEscape"], unfollowed := true, recurses := true, plainKeys := false, apart := false, narrowed := true }
def TopTypesUptoSaid : Prop := topTypesUptoRow.holds Tryz.pinned (OpenSpec.upto topTypesSpec)

/-- 'wimpletop.TopEcs', WHERE WHAT IT READS IS OF BULK AT MOST 1048576: true; the input reads as it did. -/
def topEcsUptoRow : OpenClaim := { program := "ytmlipiegjgklcaagreat", sum := "d0555bfd5b7aff2957d38d5da25e3a5bc38b44d279bc6dd8955da8aed2cbfeeb", func := "wimple/wimpletop.TopEcs", spec := "topEcs", inPlace := ["internal/abi.NoEscape"], unfollowed := true, recurses := true, plainKeys := false, apart := false, narrowed := true }
def TopEcsUptoSaid : Prop := topEcsUptoRow.holds Tryz.pinned (OpenSpec.upto topEcsSpec)

/-- 'wimpletop.TopEnds', WHERE WHAT IT READS IS OF BULK AT MOST 1048576: true; the input reads as it did. -/
def topEndsUptoRow : OpenClaim := { program := "ytmlipiegjgklcaagreat", sum := "d0555bfd5b7aff2957d38d5da25e3a5bc38b44d279bc6dd8955da8aed2cbfeeb", func := "wimple/wimpletop.TopEnds", spec := "topEnds", inPlace := ["internal/abi.NoEscape"], unfollowed := true, recurses := true, plainKeys := false, apart := false, narrowed := true }
def TopEndsUptoSaid : Prop := topEndsUptoRow.holds Tryz.pinned (OpenSpec.upto topEndsSpec)

end Rows
end Go.Proofs.YtmlipiegjgklcaaGreat
