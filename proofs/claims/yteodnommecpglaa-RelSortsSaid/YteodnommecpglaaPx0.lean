-- Written by a program of this session's prover (over the kit's printer, with contracts of the session's own); Lean checks it.
import Derived.Test.YteodnommecpglaaProg
import Derived.Below
import Derived.Deep.Draws
import Derived.Deep.AppendLies
import Derived.Maps.AppendAt
import Derived.OwnWalk
import Derived.Laws.BytesArg
import Derived.Laws.MakeOwn
import Derived.Laws.OwnMore
import Derived.Deep.OwnRows
import Derived.Tactics
import Derived.Lib.ConvBytes
import Derived.Laws.Slices
import Derived.WalkKit
import Derived.KernelRfl
import Derived.RowKit3
import Derived.Deep.LoopGhost
import Derived.Deep.QuietTactic
import Derived.BigQuiet
import Derived.WideLaws
import Derived.Deep.DeepCutAuto
import Derived.Deep.CutBlock
import Derived.Deep.RegionHeld3
import Derived.Laws.Rows
import Derived.Lib.AppendStr
import Derived.ArgAppend
import Derived.Laws.IdiomCopy
import Derived.OrdersHeld
import Derived.Laws.BitsLemmas
import Derived.RowKit
import Derived.WalkMore
import Derived.Test.YteodnommecpglaaMGtr
import Derived.Test.YteodnommecpglaaMRow
import Derived.Test.YteodnommecpglaaMNames
import Derived.Lib.Hide
import Derived.Test.YteodnommecpglaaBld
import Derived.Test.YteodnommecpglaaShelf
import Derived.Test.YteodnommecpglaaWWords
import Derived.Test.YteodnommecpglaaWLast
import Derived.Test.YteodnommecpglaaWTab
import Derived.Test.YteodnommecpglaaWFour
import Derived.Test.YteodnommecpglaaWQPut
import Derived.Test.YteodnommecpglaaWApart
import Derived.Test.YteodnommecpglaaWArr
import Derived.Test.YteodnommecpglaaWZeros
import Derived.Test.YteodnommecpglaaWFoot
import Derived.Test.YteodnommecpglaaWKept
import Derived.Test.YteodnommecpglaaWShare
import Derived.Test.YteodnommecpglaaWN
import Derived.Test.YteodnommecpglaaWFootNe
import Derived.Test.YteodnommecpglaaWAt
import Derived.Test.YteodnommecpglaaWEqStruct
import Derived.Test.YteodnommecpglaaWRepsOne
import Derived.Test.YteodnommecpglaaWInv
import Derived.Test.YteodnommecpglaaWInvWords
import Derived.Test.YteodnommecpglaaWGuard
import Derived.Test.YteodnommecpglaaWNEv
import Derived.Test.YteodnommecpglaaWMore
namespace Go.Proofs.Yteodnommecpglaa.P
open Go.RowKit Go.Proofs.YteodnommecpglaaW.PrintWords Go.Proofs.YteodnommecpglaaW.PrintLast Go.Proofs.YteodnommecpglaaW.PrintMore
attribute [local go_sem] max2_int min2_int max_two min_two max_three min_three max_four min_four   -- for this text's walks alone
set_option linter.unusedVariables false
set_option linter.unusedSimpArgs false



def errW : Option Int → Value
  | none => .nilIface
  | some c => .iface 0 (.int .i64 c)
theorem errW_none : errW none = .nilIface := rfl
theorem errW_some (c : Int) : errW (some c) = .iface 0 (.int .i64 c) := rfl

theorem info3 : (Try.prog.info? 3).map (fun i => (i.zero, i.size, i.bytes)) = some (some (.int .i64 0), 1, 8) := by kernel_rfl
theorem info5 : (Try.prog.info? 5).map (fun i => (i.zero, i.size, i.bytes)) = some (some (.int .u8 0), 1, 1) := by kernel_rfl
theorem info9 : (Try.prog.info? 9).map (fun i => (i.zero, i.size, i.bytes)) = some (some (.string ⟨#[]⟩), 1, 16) := by kernel_rfl
-- the values' own types

end Go.Proofs.Yteodnommecpglaa.P
