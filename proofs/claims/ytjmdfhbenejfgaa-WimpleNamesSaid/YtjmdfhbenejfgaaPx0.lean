-- Written by a program of this session's prover (over the kit's printer, with contracts of the session's own); Lean checks it.
import Derived.Test.YtjmdfhbenejfgaaProg
import Derived.Below
import Derived.Deep.Draws
import Derived.Deep.AppendLies
import Derived.Maps.AppendAt
import Derived.OwnWalk
import Derived.Laws.BytesArg
import Derived.Laws.MakeOwn
import Derived.Laws.OwnMore
import Derived.Deep.OwnRows
import Derived.Tactics
import Derived.Lib.ConvBytes
import Derived.Laws.Slices
import Derived.WalkKit
import Derived.KernelRfl
import Derived.RowKit3
import Derived.Deep.LoopGhost
import Derived.Deep.QuietTactic
import Derived.BigQuiet
import Derived.WideLaws
import Derived.Deep.DeepCutAuto
import Derived.Deep.CutBlock
import Derived.Deep.RegionHeld3
import Derived.Laws.Rows
import Derived.Lib.AppendStr
import Derived.ArgAppend
import Derived.Laws.IdiomCopy
import Derived.OrdersHeld
import Derived.Laws.BitsLemmas
import Derived.RowKit
import Derived.WalkMore
import Derived.Test.YtjmdfhbenejfgaaMGtr
import Derived.Test.YtjmdfhbenejfgaaWWords
import Derived.Test.YtjmdfhbenejfgaaWLast
import Derived.Test.YtjmdfhbenejfgaaWTab
import Derived.Test.YtjmdfhbenejfgaaWFour
import Derived.Test.YtjmdfhbenejfgaaWQPut
import Derived.Test.YtjmdfhbenejfgaaWApart
import Derived.Test.YtjmdfhbenejfgaaWArr
import Derived.Test.YtjmdfhbenejfgaaWZeros
import Derived.Test.YtjmdfhbenejfgaaWFoot
import Derived.Test.YtjmdfhbenejfgaaWKept
import Derived.Test.YtjmdfhbenejfgaaWShare
import Derived.Test.YtjmdfhbenejfgaaWN
import Derived.Test.YtjmdfhbenejfgaaWFootNe
import Derived.Test.YtjmdfhbenejfgaaWAt
import Derived.Test.YtjmdfhbenejfgaaWEqStruct
import Derived.Test.YtjmdfhbenejfgaaWRepsOne
import Derived.Test.YtjmdfhbenejfgaaWInv
import Derived.Test.YtjmdfhbenejfgaaWInvWords
import Derived.Test.YtjmdfhbenejfgaaWGuard
import Derived.Test.YtjmdfhbenejfgaaWNEv
import Derived.Test.YtjmdfhbenejfgaaWMore
namespace Go.Proofs.Ytjmdfhbenejfgaa.P
open Go.RowKit Go.Proofs.YtjmdfhbenejfgaaW.PrintWords Go.Proofs.YtjmdfhbenejfgaaW.PrintLast Go.Proofs.YtjmdfhbenejfgaaW.PrintMore
attribute [local go_sem] max2_int min2_int max_two min_two max_three min_three max_four min_four   -- for this text's walks alone
set_option linter.unusedVariables false
set_option linter.unusedSimpArgs false



def errW : Option Int → Value
  | none => .nilIface
  | some c => .iface 0 (.int .i64 c)
theorem errW_none : errW none = .nilIface := rfl
theorem errW_some (c : Int) : errW (some c) = .iface 0 (.int .i64 c) := rfl

-- the values' own types

end Go.Proofs.Ytjmdfhbenejfgaa.P
