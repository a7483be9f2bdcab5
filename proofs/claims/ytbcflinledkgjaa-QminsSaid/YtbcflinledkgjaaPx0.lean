-- Written by a program of this session's prover (over the kit's printer, with contracts of the session's own); Lean checks it.
import Derived.Test.YtbcflinledkgjaaProg
import Derived.Below
import Derived.Deep.Draws
import Derived.Deep.AppendLies
import Derived.Maps.AppendAt
import Derived.OwnWalk
import Derived.Laws.BytesArg
import Derived.Laws.MakeOwn
import Derived.Laws.OwnMore
import Derived.Deep.OwnRows
import Derived.Tactics
import Derived.Lib.ConvBytes
import Derived.Laws.Slices
import Derived.WalkKit
import Derived.KernelRfl
import Derived.RowKit3
import Derived.Deep.LoopGhost
import Derived.Deep.QuietTactic
import Derived.BigQuiet
import Derived.WideLaws
import Derived.Deep.DeepCutAuto
import Derived.Deep.CutBlock
import Derived.Deep.RegionHeld3
import Derived.Laws.Rows
import Derived.Lib.AppendStr
import Derived.ArgAppend
import Derived.Laws.IdiomCopy
import Derived.OrdersHeld
import Derived.Laws.BitsLemmas
import Derived.RowKit
import Derived.WalkMore
import Derived.Test.YtbcflinledkgjaaMGtr
import Derived.Test.YtbcflinledkgjaaMRow
import Derived.Test.YtbcflinledkgjaaMNames
import Derived.Lib.Hide
import Derived.Test.YtbcflinledkgjaaBld
import Derived.Test.YtbcflinledkgjaaShelf
import Derived.Test.YtbcflinledkgjaaWWords
import Derived.Test.YtbcflinledkgjaaWLast
import Derived.Test.YtbcflinledkgjaaWTab
import Derived.Test.YtbcflinledkgjaaWFour
import Derived.Test.YtbcflinledkgjaaWQPut
import Derived.Test.YtbcflinledkgjaaWApart
import Derived.Test.YtbcflinledkgjaaWArr
import Derived.Test.YtbcflinledkgjaaWZeros
import Derived.Test.YtbcflinledkgjaaWFoot
import Derived.Test.YtbcflinledkgjaaWKept
import Derived.Test.YtbcflinledkgjaaWShare
import Derived.Test.YtbcflinledkgjaaWN
import Derived.Test.YtbcflinledkgjaaWFootNe
import Derived.Test.YtbcflinledkgjaaWAt
import Derived.Test.YtbcflinledkgjaaWEqStruct
import Derived.Test.YtbcflinledkgjaaWRepsOne
import Derived.Test.YtbcflinledkgjaaWInv
import Derived.Test.YtbcflinledkgjaaWInvWords
import Derived.Test.YtbcflinledkgjaaWGuard
import Derived.Test.YtbcflinledkgjaaWNEv
import Derived.Test.YtbcflinledkgjaaWMore
namespace Go.Proofs.Ytbcflinledkgjaa.P
open Go.RowKit Go.Proofs.YtbcflinledkgjaaW.PrintWords Go.Proofs.YtbcflinledkgjaaW.PrintLast Go.Proofs.YtbcflinledkgjaaW.PrintMore
attribute [local go_sem] max2_int min2_int max_two min_two max_three min_three max_four min_four   -- for this text's walks alone
set_option linter.unusedVariables false
set_option linter.unusedSimpArgs false



def errW : Option Int → Value
  | none => .nilIface
  | some c => .iface 0 (.int .i64 c)
theorem errW_none : errW none = .nilIface := rfl
theorem errW_some (c : Int) : errW (some c) = .iface 0 (.int .i64 c) := rfl

theorem info3 : (Try.prog.info? 3).map (fun i => (i.zero, i.size, i.bytes)) = some (some (.int .i64 0), 1, 8) := by kernel_rfl
theorem info9 : (Try.prog.info? 9).map (fun i => (i.zero, i.size, i.bytes)) = some (some (.string ⟨#[]⟩), 1, 16) := by kernel_rfl
-- the values' own types

end Go.Proofs.Ytbcflinledkgjaa.P
