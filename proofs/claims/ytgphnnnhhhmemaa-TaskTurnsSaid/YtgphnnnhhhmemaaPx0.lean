-- Written by a program of this session's prover (over the kit's printer, with contracts of the session's own); Lean checks it.
import Derived.Test.YtgphnnnhhhmemaaProg
import Derived.Below
import Derived.Deep.Draws
import Derived.Deep.AppendLies
import Derived.Maps.AppendAt
import Derived.OwnWalk
import Derived.Laws.BytesArg
import Derived.Laws.MakeOwn
import Derived.Laws.OwnMore
import Derived.Deep.OwnRows
import Derived.Tactics
import Derived.Lib.ConvBytes
import Derived.Laws.Slices
import Derived.WalkKit
import Derived.KernelRfl
import Derived.RowKit3
import Derived.Deep.LoopGhost
import Derived.Deep.QuietTactic
import Derived.BigQuiet
import Derived.WideLaws
import Derived.Deep.DeepCutAuto
import Derived.Deep.CutBlock
import Derived.Deep.RegionHeld3
import Derived.Laws.Rows
import Derived.Lib.AppendStr
import Derived.ArgAppend
import Derived.Laws.IdiomCopy
import Derived.OrdersHeld
import Derived.Laws.BitsLemmas
import Derived.RowKit
import Derived.WalkMore
import Derived.Test.YtgphnnnhhhmemaaMGtr
import Derived.Test.YtgphnnnhhhmemaaMRow
import Derived.Test.YtgphnnnhhhmemaaMNames
import Derived.Lib.Hide
import Derived.Test.YtgphnnnhhhmemaaBld
import Derived.Test.YtgphnnnhhhmemaaShelf
import Derived.Test.YtgphnnnhhhmemaaWWords
import Derived.Test.YtgphnnnhhhmemaaWLast
import Derived.Test.YtgphnnnhhhmemaaWTab
import Derived.Test.YtgphnnnhhhmemaaWFour
import Derived.Test.YtgphnnnhhhmemaaWQPut
import Derived.Test.YtgphnnnhhhmemaaWApart
import Derived.Test.YtgphnnnhhhmemaaWArr
import Derived.Test.YtgphnnnhhhmemaaWZeros
import Derived.Test.YtgphnnnhhhmemaaWFoot
import Derived.Test.YtgphnnnhhhmemaaWKept
import Derived.Test.YtgphnnnhhhmemaaWShare
import Derived.Test.YtgphnnnhhhmemaaWN
import Derived.Test.YtgphnnnhhhmemaaWFootNe
import Derived.Test.YtgphnnnhhhmemaaWAt
import Derived.Test.YtgphnnnhhhmemaaWEqStruct
import Derived.Test.YtgphnnnhhhmemaaWRepsOne
import Derived.Test.YtgphnnnhhhmemaaWInv
import Derived.Test.YtgphnnnhhhmemaaWInvWords
import Derived.Test.YtgphnnnhhhmemaaWGuard
import Derived.Test.YtgphnnnhhhmemaaWNEv
import Derived.Test.YtgphnnnhhhmemaaWMore
namespace Go.Proofs.Ytgphnnnhhhmemaa.P
open Go.RowKit Go.Proofs.YtgphnnnhhhmemaaW.PrintWords Go.Proofs.YtgphnnnhhhmemaaW.PrintLast Go.Proofs.YtgphnnnhhhmemaaW.PrintMore
attribute [local go_sem] max2_int min2_int max_two min_two max_three min_three max_four min_four   -- for this text's walks alone
set_option linter.unusedVariables false
set_option linter.unusedSimpArgs false



def errW : Option Int → Value
  | none => .nilIface
  | some c => .iface 0 (.int .i64 c)
theorem errW_none : errW none = .nilIface := rfl
theorem errW_some (c : Int) : errW (some c) = .iface 0 (.int .i64 c) := rfl

theorem info3 : (Try.prog.info? 3).map (fun i => (i.zero, i.size, i.bytes)) = some (some (.int .i64 0), 1, 8) := by kernel_rfl
theorem info9 : (Try.prog.info? 9).map (fun i => (i.zero, i.size, i.bytes)) = some (some (.string ⟨#[]⟩), 1, 16) := by kernel_rfl
-- the values' own types

end Go.Proofs.Ytgphnnnhhhmemaa.P
