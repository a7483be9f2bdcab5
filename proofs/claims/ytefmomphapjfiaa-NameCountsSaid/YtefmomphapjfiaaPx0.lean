-- Written by a program of this session's prover (over the kit's printer, with contracts of the session's own); Lean checks it.
import Derived.Test.YtefmomphapjfiaaProg
import Derived.Below
import Derived.Deep.Draws
import Derived.Deep.AppendLies
import Derived.Maps.AppendAt
import Derived.OwnWalk
import Derived.Laws.BytesArg
import Derived.Laws.MakeOwn
import Derived.Laws.OwnMore
import Derived.Deep.OwnRows
import Derived.Tactics
import Derived.Lib.ConvBytes
import Derived.Laws.Slices
import Derived.WalkKit
import Derived.KernelRfl
import Derived.RowKit3
import Derived.Deep.LoopGhost
import Derived.Deep.QuietTactic
import Derived.BigQuiet
import Derived.WideLaws
import Derived.Deep.DeepCutAuto
import Derived.Deep.CutBlock
import Derived.Deep.RegionHeld3
import Derived.Laws.Rows
import Derived.Lib.AppendStr
import Derived.ArgAppend
import Derived.Laws.IdiomCopy
import Derived.OrdersHeld
import Derived.Laws.BitsLemmas
import Derived.RowKit
import Derived.WalkMore
import Derived.Test.YtefmomphapjfiaaBld
import Derived.Test.YtefmomphapjfiaaShelf
import Derived.Test.YtefmomphapjfiaaMText
import Derived.Lib.Hide
import Derived.Test.YtefmomphapjfiaaWWords
import Derived.Test.YtefmomphapjfiaaWLast
import Derived.Test.YtefmomphapjfiaaWTab
import Derived.Test.YtefmomphapjfiaaWFour
import Derived.Test.YtefmomphapjfiaaWQPut
import Derived.Test.YtefmomphapjfiaaWApart
import Derived.Test.YtefmomphapjfiaaWArr
import Derived.Test.YtefmomphapjfiaaWZeros
import Derived.Test.YtefmomphapjfiaaWFoot
import Derived.Test.YtefmomphapjfiaaWKept
import Derived.Test.YtefmomphapjfiaaWShare
import Derived.Test.YtefmomphapjfiaaWN
import Derived.Test.YtefmomphapjfiaaWFootNe
import Derived.Test.YtefmomphapjfiaaWAt
import Derived.Test.YtefmomphapjfiaaWEqStruct
import Derived.Test.YtefmomphapjfiaaWRepsOne
import Derived.Test.YtefmomphapjfiaaWInv
import Derived.Test.YtefmomphapjfiaaWInvWords
import Derived.Test.YtefmomphapjfiaaWGuard
import Derived.Test.YtefmomphapjfiaaWNEv
import Derived.Test.YtefmomphapjfiaaWMore
namespace Go.Proofs.Ytefmomphapjfiaa.P
open Go.RowKit Go.Proofs.YtefmomphapjfiaaW.PrintWords Go.Proofs.YtefmomphapjfiaaW.PrintLast Go.Proofs.YtefmomphapjfiaaW.PrintMore
attribute [local go_sem] max2_int min2_int max_two min_two max_three min_three max_four min_four   -- for this text's walks alone
set_option linter.unusedVariables false
set_option linter.unusedSimpArgs false



def errW : Option Int → Value
  | none => .nilIface
  | some c => .iface 0 (.int .i64 c)
theorem errW_none : errW none = .nilIface := rfl
theorem errW_some (c : Int) : errW (some c) = .iface 0 (.int .i64 c) := rfl

theorem info3 : (Try.prog.info? 3).map (fun i => (i.zero, i.size, i.bytes)) = some (some (.int .i64 0), 1, 8) := by kernel_rfl
theorem info5 : (Try.prog.info? 5).map (fun i => (i.zero, i.size, i.bytes)) = some (some (.int .u8 0), 1, 1) := by kernel_rfl
theorem info9 : (Try.prog.info? 9).map (fun i => (i.zero, i.size, i.bytes)) = some (some (.string ⟨#[]⟩), 1, 16) := by kernel_rfl
-- the values' own types

end Go.Proofs.Ytefmomphapjfiaa.P
