/-
  No cell of these rows narrows 'for every input' (looked for: loops, veiled, ifaces, maps, wideKeys, modest, calm, conditions, laid).
  DERIVED. THE GIVEN ROWS OF THIS SEAT. 6 by the template 'for every input the law returns true; each argument reads behind the call as it read before'; 0 by the template 'total and deterministic' (their statements: YtgphnnnhhhmemaaTotals.lean).
  GIVEN WITH THE SEED: the statements are not yours to turn. If you find one false, say at which input.
  Laid BY PROGRAM, IN A SANDBOX (cutbox-rows.mjs): the forced cells as the released guide's own fill.sh prints them over the translation b7b5a4319dc1cfdd… (all of the seat's roots in one cut). By AI agents, Wed Nov 11 2026. No macro, syntax, notation, axiom, sorry.
-/
import Derived.Test.YtgphnnnhhhmemaaChecked
import GoSem.Claim
import GoSem.ClaimJoined
import GoSem.ClaimMapViews
import Derived.JoinedTies
import Derived.KernelRfl
namespace Go.Proofs.Ytgphnnnhhhmemaa
/- THE CELL 'sum', in the pinned program and in every row, IS THE sha256 OF THE DUMP (.gsa) THAT YtgphnnnhhhmemaaProg.lean LOADS. Nothing in Lean hashes anything: it is a label: what it is worth is what the hold of that sum in a sandbox is worth. -/
noncomputable def Try.pinned : Pinned := { name := "ytgphnnnhhhmemaa", sum := "b7b5a4319dc1cfddeff267ecc75affdd7ea01c9ae00357020e541a571d8e6a33", checked := Try.checked }
namespace Rows
def none {H : Type} : Left H := { results := [], args := [] }

/-- 'wimplelaw22.Tasks': WHATEVER THE INPUT: true; the input reads as it did. -/
def tasksSpec : ChangeSpec := { name := "tasks", fn := fun _ => fun
  | [d1, d2, d3, d4, d5, d6, d7, d8] => { results := [.lit (.bool true)], args := [d1, d2, d3, d4, d5, d6, d7, d8] }
  | _ => none }
def tasksRow : OpenClaim := { program := "ytgphnnnhhhmemaa", sum := "b7b5a4319dc1cfddeff267ecc75affdd7ea01c9ae00357020e541a571d8e6a33", func := "wimple/wimplelaw22.Tasks", spec := "tasks", inPlace := ["internal/abi.NoEscape"], apart := false }
def TasksSaid : Prop := tasksRow.holds Try.pinned (OpenSpec.ofChange tasksSpec)

/-- ITS FALSE NEIGHBOUR: 'it returns false'. Refute it at one input. -/
def tasksWrong : ChangeSpec := { name := "tasks", fn := fun _ => fun
  | [d1, d2, d3, d4, d5, d6, d7, d8] => { results := [.lit (.bool false)], args := [d1, d2, d3, d4, d5, d6, d7, d8] }
  | _ => none }
def TasksWrongFalsely : Prop := tasksRow.holds Try.pinned (OpenSpec.ofChange tasksWrong)

/-- 'wimplelaw22.TaskTries': WHATEVER THE INPUT: true; the input reads as it did. -/
def taskTriesSpec : ChangeSpec := { name := "taskTries", fn := fun _ => fun
  | [d1, d2] => { results := [.lit (.bool true)], args := [d1, d2] }
  | _ => none }
def taskTriesRow : OpenClaim := { program := "ytgphnnnhhhmemaa", sum := "b7b5a4319dc1cfddeff267ecc75affdd7ea01c9ae00357020e541a571d8e6a33", func := "wimple/wimplelaw22.TaskTries", spec := "taskTries", inPlace := ["internal/abi.NoEscape"], apart := false }
def TaskTriesSaid : Prop := taskTriesRow.holds Try.pinned (OpenSpec.ofChange taskTriesSpec)

/-- ITS FALSE NEIGHBOUR: 'it returns false'. Refute it at one input. -/
def taskTriesWrong : ChangeSpec := { name := "taskTries", fn := fun _ => fun
  | [d1, d2] => { results := [.lit (.bool false)], args := [d1, d2] }
  | _ => none }
def TaskTriesWrongFalsely : Prop := taskTriesRow.holds Try.pinned (OpenSpec.ofChange taskTriesWrong)

/-- 'wimplelaw22.TaskTurns': WHATEVER THE INPUT: true; the input reads as it did. -/
def taskTurnsSpec : ChangeSpec := { name := "taskTurns", fn := fun _ => fun
  | [d1, d2, d3] => { results := [.lit (.bool true)], args := [d1, d2, d3] }
  | _ => none }
def taskTurnsRow : OpenClaim := { program := "ytgphnnnhhhmemaa", sum := "b7b5a4319dc1cfddeff267ecc75affdd7ea01c9ae00357020e541a571d8e6a33", func := "wimple/wimplelaw22.TaskTurns", spec := "taskTurns", inPlace := ["internal/abi.NoEscape"], apart := false }
def TaskTurnsSaid : Prop := taskTurnsRow.holds Try.pinned (OpenSpec.ofChange taskTurnsSpec)

/-- ITS FALSE NEIGHBOUR: 'it returns false'. Refute it at one input. -/
def taskTurnsWrong : ChangeSpec := { name := "taskTurns", fn := fun _ => fun
  | [d1, d2, d3] => { results := [.lit (.bool false)], args := [d1, d2, d3] }
  | _ => none }
def TaskTurnsWrongFalsely : Prop := taskTurnsRow.holds Try.pinned (OpenSpec.ofChange taskTurnsWrong)

/-- 'wimplelaw22.TaskForms': WHATEVER THE INPUT: true; the input reads as it did. -/
def taskFormsSpec : ChangeSpec := { name := "taskForms", fn := fun _ => fun
  | [d1, d2, d3, d4] => { results := [.lit (.bool true)], args := [d1, d2, d3, d4] }
  | _ => none }
def taskFormsRow : OpenClaim := { program := "ytgphnnnhhhmemaa", sum := "b7b5a4319dc1cfddeff267ecc75affdd7ea01c9ae00357020e541a571d8e6a33", func := "wimple/wimplelaw22.TaskForms", spec := "taskForms", inPlace := ["internal/abi.NoEscape"], apart := false }
def TaskFormsSaid : Prop := taskFormsRow.holds Try.pinned (OpenSpec.ofChange taskFormsSpec)

/-- ITS FALSE NEIGHBOUR: 'it returns false'. Refute it at one input. -/
def taskFormsWrong : ChangeSpec := { name := "taskForms", fn := fun _ => fun
  | [d1, d2, d3, d4] => { results := [.lit (.bool false)], args := [d1, d2, d3, d4] }
  | _ => none }
def TaskFormsWrongFalsely : Prop := taskFormsRow.holds Try.pinned (OpenSpec.ofChange taskFormsWrong)

/-- 'wimplelaw22.TaskWalk': WHATEVER THE INPUT: true; the input reads as it did. -/
def taskWalkSpec : ChangeSpec := { name := "taskWalk", fn := fun _ => fun
  | [d1, d2] => { results := [.lit (.bool true)], args := [d1, d2] }
  | _ => none }
def taskWalkRow : OpenClaim := { program := "ytgphnnnhhhmemaa", sum := "b7b5a4319dc1cfddeff267ecc75affdd7ea01c9ae00357020e541a571d8e6a33", func := "wimple/wimplelaw22.TaskWalk", spec := "taskWalk", inPlace := ["internal/abi.NoEscape"], apart := false }
def TaskWalkSaid : Prop := taskWalkRow.holds Try.pinned (OpenSpec.ofChange taskWalkSpec)

/-- ITS FALSE NEIGHBOUR: 'it returns false'. Refute it at one input. -/
def taskWalkWrong : ChangeSpec := { name := "taskWalk", fn := fun _ => fun
  | [d1, d2] => { results := [.lit (.bool false)], args := [d1, d2] }
  | _ => none }
def TaskWalkWrongFalsely : Prop := taskWalkRow.holds Try.pinned (OpenSpec.ofChange taskWalkWrong)

/-- 'wimplelaw22.TaskFresh': WHATEVER THE INPUT: true; the input reads as it did. -/
def taskFreshSpec : ChangeSpec := { name := "taskFresh", fn := fun _ => fun
  | [d1, d2, d3] => { results := [.lit (.bool true)], args := [d1, d2, d3] }
  | _ => none }
def taskFreshRow : OpenClaim := { program := "ytgphnnnhhhmemaa", sum := "b7b5a4319dc1cfddeff267ecc75affdd7ea01c9ae00357020e541a571d8e6a33", func := "wimple/wimplelaw22.TaskFresh", spec := "taskFresh", inPlace := ["internal/abi.NoEscape"], apart := false }
def TaskFreshSaid : Prop := taskFreshRow.holds Try.pinned (OpenSpec.ofChange taskFreshSpec)

/-- ITS FALSE NEIGHBOUR: 'it returns false'. Refute it at one input. -/
def taskFreshWrong : ChangeSpec := { name := "taskFresh", fn := fun _ => fun
  | [d1, d2, d3] => { results := [.lit (.bool false)], args := [d1, d2, d3] }
  | _ => none }
def TaskFreshWrongFalsely : Prop := taskFreshRow.holds Try.pinned (OpenSpec.ofChange taskFreshWrong)

/- THE SECOND FORM. 'bulk': how many values and letters a reading holds, each counted each time it is reached (what is shared counts as often as it is met; a slice's spare places count too). A statement '..UptoSaid' is the law's where the arguments, and the package variables that the reading takes, are together of bulk at most 1048576: NARROWER than '..Said'. Prove '..Said' where nothing that the law and all that it calls make is longer than what came in: it says more and counts as full. Else prove '..UptoSaid'. A law counts once. -/
mutual
def uptoBulk {H : Type} : DataW H → Nat
  | .lit (.string bytes) => bytes.length + 1
  | .lit _ => 1
  | .nil => 1
  | .ptr d => uptoBulk d + 1
  | .slice elems spare => uptoBulkAll elems + uptoBulkAll spare + 1
  | .agg parts => uptoBulkAll parts + 1
  | .iface _ d => uptoBulk d + 1
  | .map entries => uptoBulkEntries entries + 1
  | .held _ => 1
def uptoBulkAll {H : Type} : List (DataW H) → Nat
  | [] => 0
  | d :: r => uptoBulk d + uptoBulkAll r
def uptoBulkEntries {H : Type} : List (Lit × DataW H) → Nat
  | [] => 0
  | x :: r => uptoBulkEntry x + uptoBulkEntries r
def uptoBulkEntry {H : Type} : Lit × DataW H → Nat
  | (.string bytes, d) => bytes.length + uptoBulk d + 1
  | (_, d) => uptoBulk d + 1
 end
def uptoSmall : (H : Type) → List (DataW H) → Bool := fun _ ds => decide (uptoBulkAll ds ≤ 1048576)
def OpenSpec.upto (s : _root_.Go.ChangeSpec) : _root_.Go.OpenSpec := { _root_.Go.OpenSpec.ofChange s with cond := some uptoSmall }

/-- 'wimplelaw22.Tasks', WHERE WHAT IT READS IS OF BULK AT MOST 1048576: true; the input reads as it did. -/
def tasksUptoRow : OpenClaim := { program := "ytgphnnnhhhmemaa", sum := "b7b5a4319dc1cfddeff267ecc75affdd7ea01c9ae00357020e541a571d8e6a33", func := "wimple/wimplelaw22.Tasks", spec := "tasks", inPlace := ["internal/abi.NoEscape"], apart := false, narrowed := true }
def TasksUptoSaid : Prop := tasksUptoRow.holds Try.pinned (OpenSpec.upto tasksSpec)

/-- 'wimplelaw22.TaskTries', WHERE WHAT IT READS IS OF BULK AT MOST 1048576: true; the input reads as it did. -/
def taskTriesUptoRow : OpenClaim := { program := "ytgphnnnhhhmemaa", sum := "b7b5a4319dc1cfddeff267ecc75affdd7ea01c9ae00357020e541a571d8e6a33", func := "wimple/wimplelaw22.TaskTries", spec := "taskTries", inPlace := ["internal/abi.NoEscape"], apart := false, narrowed := true }
def TaskTriesUptoSaid : Prop := taskTriesUptoRow.holds Try.pinned (OpenSpec.upto taskTriesSpec)

/-- 'wimplelaw22.TaskTurns', WHERE WHAT IT READS IS OF BULK AT MOST 1048576: true; the input reads as it did. -/
def taskTurnsUptoRow : OpenClaim := { program := "ytgphnnnhhhmemaa", sum := "b7b5a4319dc1cfddeff267ecc75affdd7ea01c9ae00357020e541a571d8e6a33", func := "wimple/wimplelaw22.TaskTurns", spec := "taskTurns", inPlace := ["internal/abi.NoEscape"], apart := false, narrowed := true }
def TaskTurnsUptoSaid : Prop := taskTurnsUptoRow.holds Try.pinned (OpenSpec.upto taskTurnsSpec)

/-- 'wimplelaw22.TaskForms', WHERE WHAT IT READS IS OF BULK AT MOST 1048576: true; the input reads as it did. -/
def taskFormsUptoRow : OpenClaim := { program := "ytgphnnnhhhmemaa", sum := "b7b5a4319dc1cfddeff267ecc75affdd7ea01c9ae00357020e541a571d8e6a33", func := "wimple/wimplelaw22.TaskForms", spec := "taskForms", inPlace := ["internal/abi.NoEscape"], apart := false, narrowed := true }
def TaskFormsUptoSaid : Prop := taskFormsUptoRow.holds Try.pinned (OpenSpec.upto taskFormsSpec)

/-- 'wimplelaw22.TaskWalk', WHERE WHAT IT READS IS OF BULK AT MOST 1048576: true; the input reads as it did. -/
def taskWalkUptoRow : OpenClaim := { program := "ytgphnnnhhhmemaa", sum := "b7b5a4319dc1cfddeff267ecc75affdd7ea01c9ae00357020e541a571d8e6a33", func := "wimple/wimplelaw22.TaskWalk", spec := "taskWalk", inPlace := ["internal/abi.NoEscape"], apart := false, narrowed := true }
def TaskWalkUptoSaid : Prop := taskWalkUptoRow.holds Try.pinned (OpenSpec.upto taskWalkSpec)

/-- 'wimplelaw22.TaskFresh', WHERE WHAT IT READS IS OF BULK AT MOST 1048576: true; the input reads as it did. -/
def taskFreshUptoRow : OpenClaim := { program := "ytgphnnnhhhmemaa", sum := "b7b5a4319dc1cfddeff267ecc75affdd7ea01c9ae00357020e541a571d8e6a33", func := "wimple/wimplelaw22.TaskFresh", spec := "taskFresh", inPlace := ["internal/abi.NoEscape"], apart := false, narrowed := true }
def TaskFreshUptoSaid : Prop := taskFreshUptoRow.holds Try.pinned (OpenSpec.upto taskFreshSpec)

end Rows
end Go.Proofs.Ytgphnnnhhhmemaa
