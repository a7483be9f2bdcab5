/-
  No cell of these rows narrows 'for every input' (looked for: loops, veiled, ifaces, maps, wideKeys, modest, calm, conditions, laid).
  DERIVED. THE GIVEN ROWS OF THIS SEAT. 4 by the template 'for every input the law returns true; each argument reads behind the call as it read before'; 0 by the template 'total and deterministic' (their statements: YtkmdjcdmgmffiaaTotals.lean).
  GIVEN WITH THE SEED: the statements are not yours to turn. If you find one false, say at which input.
  Laid BY PROGRAM, IN A SANDBOX (cutbox-rows.mjs): the forced cells as the released guide's own fill.sh prints them over the translation 1d0bbf89b43acebd… (all of the seat's roots in one cut). By AI agents, Wed Nov 11 2026. No macro, syntax, notation, axiom, sorry.
-/
import Derived.Test.YtkmdjcdmgmffiaaChecked
import GoSem.Claim
import GoSem.ClaimJoined
import GoSem.ClaimMapViews
import Derived.JoinedTies
import Derived.KernelRfl
namespace Go.Proofs.Ytkmdjcdmgmffiaa
/- THE CELL 'sum', in the pinned program and in every row, IS THE sha256 OF THE DUMP (.gsa) THAT YtkmdjcdmgmffiaaProg.lean LOADS. Nothing in Lean hashes anything: it is a label: what it is worth is what the hold of that sum in a sandbox is worth. -/
noncomputable def Try.pinned : Pinned := { name := "ytkmdjcdmgmffiaa", sum := "1d0bbf89b43acebd942e77b37ef3199241be0994856c3e9bc7dc5f60cff5a5ec", checked := Try.checked }
namespace Rows
def none {H : Type} : Left H := { results := [], args := [] }

/-- 'wimplelaw23.JobBounds': WHATEVER THE INPUT: true; the input reads as it did. -/
def jobBoundsSpec : ChangeSpec := { name := "jobBounds", fn := fun _ => fun
  | [d1, d2, d3] => { results := [.lit (.bool true)], args := [d1, d2, d3] }
  | _ => none }
def jobBoundsRow : OpenClaim := { program := "ytkmdjcdmgmffiaa", sum := "1d0bbf89b43acebd942e77b37ef3199241be0994856c3e9bc7dc5f60cff5a5ec", func := "wimple/wimplelaw23.JobBounds", spec := "jobBounds", inPlace := ["internal/abi.NoEscape"], apart := false }
def JobBoundsSaid : Prop := jobBoundsRow.holds Try.pinned (OpenSpec.ofChange jobBoundsSpec)

/-- ITS FALSE NEIGHBOUR: 'it returns false'. Refute it at one input. -/
def jobBoundsWrong : ChangeSpec := { name := "jobBounds", fn := fun _ => fun
  | [d1, d2, d3] => { results := [.lit (.bool false)], args := [d1, d2, d3] }
  | _ => none }
def JobBoundsWrongFalsely : Prop := jobBoundsRow.holds Try.pinned (OpenSpec.ofChange jobBoundsWrong)

/-- 'wimplelaw23.JobForms': WHATEVER THE INPUT: true; the input reads as it did. -/
def jobFormsSpec : ChangeSpec := { name := "jobForms", fn := fun _ => fun
  | [d1, d2] => { results := [.lit (.bool true)], args := [d1, d2] }
  | _ => none }
def jobFormsRow : OpenClaim := { program := "ytkmdjcdmgmffiaa", sum := "1d0bbf89b43acebd942e77b37ef3199241be0994856c3e9bc7dc5f60cff5a5ec", func := "wimple/wimplelaw23.JobForms", spec := "jobForms", inPlace := ["internal/abi.NoEscape"], apart := false }
def JobFormsSaid : Prop := jobFormsRow.holds Try.pinned (OpenSpec.ofChange jobFormsSpec)

/-- ITS FALSE NEIGHBOUR: 'it returns false'. Refute it at one input. -/
def jobFormsWrong : ChangeSpec := { name := "jobForms", fn := fun _ => fun
  | [d1, d2] => { results := [.lit (.bool false)], args := [d1, d2] }
  | _ => none }
def JobFormsWrongFalsely : Prop := jobFormsRow.holds Try.pinned (OpenSpec.ofChange jobFormsWrong)

/-- 'wimplelaw23.JobStacks': WHATEVER THE INPUT: true; the input reads as it did. -/
def jobStacksSpec : ChangeSpec := { name := "jobStacks", fn := fun _ => fun
  | [d1, d2] => { results := [.lit (.bool true)], args := [d1, d2] }
  | _ => none }
def jobStacksRow : OpenClaim := { program := "ytkmdjcdmgmffiaa", sum := "1d0bbf89b43acebd942e77b37ef3199241be0994856c3e9bc7dc5f60cff5a5ec", func := "wimple/wimplelaw23.JobStacks", spec := "jobStacks", inPlace := ["internal/abi.NoEscape"], apart := false }
def JobStacksSaid : Prop := jobStacksRow.holds Try.pinned (OpenSpec.ofChange jobStacksSpec)

/-- ITS FALSE NEIGHBOUR: 'it returns false'. Refute it at one input. -/
def jobStacksWrong : ChangeSpec := { name := "jobStacks", fn := fun _ => fun
  | [d1, d2] => { results := [.lit (.bool false)], args := [d1, d2] }
  | _ => none }
def JobStacksWrongFalsely : Prop := jobStacksRow.holds Try.pinned (OpenSpec.ofChange jobStacksWrong)

/-- 'wimplelaw23.JobHosts': WHATEVER THE INPUT: true; the input reads as it did. -/
def jobHostsSpec : ChangeSpec := { name := "jobHosts", fn := fun _ => fun
  | [d] => { results := [.lit (.bool true)], args := [d] }
  | _ => none }
def jobHostsRow : OpenClaim := { program := "ytkmdjcdmgmffiaa", sum := "1d0bbf89b43acebd942e77b37ef3199241be0994856c3e9bc7dc5f60cff5a5ec", func := "wimple/wimplelaw23.JobHosts", spec := "jobHosts", inPlace := ["internal/abi.NoEscape"], apart := false }
def JobHostsSaid : Prop := jobHostsRow.holds Try.pinned (OpenSpec.ofChange jobHostsSpec)

/-- ITS FALSE NEIGHBOUR: 'it returns false'. Refute it at one input. -/
def jobHostsWrong : ChangeSpec := { name := "jobHosts", fn := fun _ => fun
  | [d] => { results := [.lit (.bool false)], args := [d] }
  | _ => none }
def JobHostsWrongFalsely : Prop := jobHostsRow.holds Try.pinned (OpenSpec.ofChange jobHostsWrong)

/- THE SECOND FORM. 'bulk': how many values and letters a reading holds, each counted each time it is reached (what is shared counts as often as it is met; a slice's spare places count too). A statement '..UptoSaid' is the law's where the arguments, and the package variables that the reading takes, are together of bulk at most 1048576: NARROWER than '..Said'. Prove '..Said' where nothing that the law and all that it calls make is longer than what came in: it says more and counts as full. Else prove '..UptoSaid'. A law counts once. -/
mutual
def uptoBulk {H : Type} : DataW H → Nat
  | .lit (.string bytes) => bytes.length + 1
  | .lit _ => 1
  | .nil => 1
  | .ptr d => uptoBulk d + 1
  | .slice elems spare => uptoBulkAll elems + uptoBulkAll spare + 1
  | .agg parts => uptoBulkAll parts + 1
  | .iface _ d => uptoBulk d + 1
  | .map entries => uptoBulkEntries entries + 1
  | .held _ => 1
def uptoBulkAll {H : Type} : List (DataW H) → Nat
  | [] => 0
  | d :: r => uptoBulk d + uptoBulkAll r
def uptoBulkEntries {H : Type} : List (Lit × DataW H) → Nat
  | [] => 0
  | x :: r => uptoBulkEntry x + uptoBulkEntries r
def uptoBulkEntry {H : Type} : Lit × DataW H → Nat
  | (.string bytes, d) => bytes.length + uptoBulk d + 1
  | (_, d) => uptoBulk d + 1
 end
def uptoSmall : (H : Type) → List (DataW H) → Bool := fun _ ds => decide (uptoBulkAll ds ≤ 1048576)
def OpenSpec.upto (s : _root_.Go.ChangeSpec) : _root_.Go.OpenSpec := { _root_.Go.OpenSpec.ofChange s with cond := some uptoSmall }

/-- 'wimplelaw23.JobBounds', WHERE WHAT IT READS IS OF BULK AT MOST 1048576: true; the input reads as it did. -/
def jobBoundsUptoRow : OpenClaim := { program := "ytkmdjcdmgmffiaa", sum := "1d0bbf89b43acebd942e77b37ef3199241be0994856c3e9bc7dc5f60cff5a5ec", func := "wimple/wimplelaw23.JobBounds", spec := "jobBounds", inPlace := ["internal/abi.NoEscape"], apart := false, narrowed := true }
def JobBoundsUptoSaid : Prop := jobBoundsUptoRow.holds Try.pinned (OpenSpec.upto jobBoundsSpec)

/-- 'wimplelaw23.JobForms', WHERE WHAT IT READS IS OF BULK AT MOST 1048576: true; the input reads as it did. -/
def jobFormsUptoRow : OpenClaim := { program := "ytkmdjcdmgmffiaa", sum := "1d0bbf89b43acebd942e77b37ef3199241be0994856c3e9bc7dc5f60cff5a5ec", func := "wimple/wimplelaw23.JobForms", spec := "jobForms", inPlace := ["internal/abi.NoEscape"], apart := false, narrowed := true }
def JobFormsUptoSaid : Prop := jobFormsUptoRow.holds Try.pinned (OpenSpec.upto jobFormsSpec)

/-- 'wimplelaw23.JobStacks', WHERE WHAT IT READS IS OF BULK AT MOST 1048576: true; the input reads as it did. -/
def jobStacksUptoRow : OpenClaim := { program := "ytkmdjcdmgmffiaa", sum := "1d0bbf89b43acebd942e77b37ef3199241be0994856c3e9bc7dc5f60cff5a5ec", func := "wimple/wimplelaw23.JobStacks", spec := "jobStacks", inPlace := ["internal/abi.NoEscape"], apart := false, narrowed := true }
def JobStacksUptoSaid : Prop := jobStacksUptoRow.holds Try.pinned (OpenSpec.upto jobStacksSpec)

/-- 'wimplelaw23.JobHosts', WHERE WHAT IT READS IS OF BULK AT MOST 1048576: true; the input reads as it did. -/
def jobHostsUptoRow : OpenClaim := { program := "ytkmdjcdmgmffiaa", sum := "1d0bbf89b43acebd942e77b37ef3199241be0994856c3e9bc7dc5f60cff5a5ec", func := "wimple/wimplelaw23.JobHosts", spec := "jobHosts", inPlace := ["internal/abi.NoEscape"], apart := false, narrowed := true }
def JobHostsUptoSaid : Prop := jobHostsUptoRow.holds Try.pinned (OpenSpec.upto jobHostsSpec)

end Rows
end Go.Proofs.Ytkmdjcdmgmffiaa
