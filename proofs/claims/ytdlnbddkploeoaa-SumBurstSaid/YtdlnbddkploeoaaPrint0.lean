-- Written by a program of this session (wip/gprint.py) for this claim: Lean checks it.
import Derived.Test.YtdlnbddkploeoaaProg
import Derived.Below
import Derived.Deep.Draws
import Derived.Deep.AppendLies
import Derived.Maps.AppendAt
import Derived.OwnWalk
import Derived.Laws.BytesArg
import Derived.Laws.MakeOwn
import Derived.Laws.OwnMore
import Derived.Deep.OwnRows
import Derived.Tactics
import Derived.Lib.ConvBytes
import Derived.Laws.Slices
import Derived.WalkKit
import Derived.KernelRfl
import Derived.RowKit3
import Derived.Deep.LoopGhost
import Derived.Deep.QuietTactic
import Derived.BigQuiet
import Derived.WideLaws
import Derived.Deep.DeepCutAuto
import Derived.Deep.CutBlock
import Derived.Deep.RegionHeld3
import Derived.Laws.Rows
import Derived.Lib.AppendStr
import Derived.ArgAppend
import Derived.Laws.IdiomCopy
import Derived.OrdersHeld
import Derived.Laws.BitsLemmas
import Derived.RowKit
import Derived.Test.YtdlnbddkploeoaaWWords
import Derived.Test.YtdlnbddkploeoaaWLast
import Derived.Test.YtdlnbddkploeoaaWTab
import Derived.Test.YtdlnbddkploeoaaWFour
import Derived.Test.YtdlnbddkploeoaaWQPut
import Derived.Test.YtdlnbddkploeoaaWApart
import Derived.Test.YtdlnbddkploeoaaWArr
import Derived.Test.YtdlnbddkploeoaaWZeros
import Derived.Test.YtdlnbddkploeoaaWFoot
import Derived.Test.YtdlnbddkploeoaaWKept
import Derived.Test.YtdlnbddkploeoaaWShare
import Derived.Test.YtdlnbddkploeoaaWN
import Derived.Test.YtdlnbddkploeoaaWFootNe
import Derived.Test.YtdlnbddkploeoaaWAt
import Derived.Test.YtdlnbddkploeoaaWEqStruct
import Derived.Test.YtdlnbddkploeoaaWRepsOne
import Derived.Test.YtdlnbddkploeoaaWInv
import Derived.Test.YtdlnbddkploeoaaWInvWords
import Derived.Test.YtdlnbddkploeoaaWGuard
import Derived.Test.YtdlnbddkploeoaaWNEv
import Derived.Test.YtdlnbddkploeoaaWMore
namespace Go.Proofs.Ytdlnbddkploeoaa.Print
open Go.RowKit Go.Proofs.YtdlnbddkploeoaaW.PrintWords Go.Proofs.YtdlnbddkploeoaaW.PrintLast Go.Proofs.YtdlnbddkploeoaaW.PrintMore
attribute [local go_sem] max2_int min2_int max_two min_two max_three min_three max_four min_four   -- for this text's walks alone
set_option linter.unusedVariables false
set_option linter.unusedSimpArgs false



def errW : Option Int → Value
  | none => .nilIface
  | some c => .iface 0 (.int .i64 c)
theorem errW_none : errW none = .nilIface := rfl
theorem errW_some (c : Int) : errW (some c) = .iface 0 (.int .i64 c) := rfl

theorem info5 : (Try.prog.info? 5).map (fun i => (i.zero, i.size, i.bytes)) = some (some (.int .u8 0), 1, 1) := by kernel_rfl
-- the values' own types

end Go.Proofs.Ytdlnbddkploeoaa.Print
