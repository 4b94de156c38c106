-- Written by a program of this session (wip/gprint.py) for this claim: Lean checks it.
import Derived.Test.YtdidcjmefinhjaaProg
import Derived.Below
import Derived.Deep.Draws
import Derived.Deep.AppendLies
import Derived.Maps.AppendAt
import Derived.OwnWalk
import Derived.Laws.BytesArg
import Derived.Laws.MakeOwn
import Derived.Laws.OwnMore
import Derived.Deep.OwnRows
import Derived.Tactics
import Derived.Lib.ConvBytes
import Derived.Laws.Slices
import Derived.WalkKit
import Derived.KernelRfl
import Derived.RowKit3
import Derived.Deep.LoopGhost
import Derived.Deep.QuietTactic
import Derived.BigQuiet
import Derived.WideLaws
import Derived.Deep.DeepCutAuto
import Derived.Deep.CutBlock
import Derived.Deep.RegionHeld3
import Derived.Laws.Rows
import Derived.Lib.AppendStr
import Derived.ArgAppend
import Derived.Laws.IdiomCopy
import Derived.OrdersHeld
import Derived.Laws.BitsLemmas
import Derived.RowKit
import Derived.Test.YtdidcjmefinhjaaWWords
import Derived.Test.YtdidcjmefinhjaaWLast
import Derived.Test.YtdidcjmefinhjaaWTab
import Derived.Test.YtdidcjmefinhjaaWFour
import Derived.Test.YtdidcjmefinhjaaWQPut
import Derived.Test.YtdidcjmefinhjaaWApart
import Derived.Test.YtdidcjmefinhjaaWArr
import Derived.Test.YtdidcjmefinhjaaWZeros
import Derived.Test.YtdidcjmefinhjaaWFoot
import Derived.Test.YtdidcjmefinhjaaWKept
import Derived.Test.YtdidcjmefinhjaaWShare
import Derived.Test.YtdidcjmefinhjaaWN
import Derived.Test.YtdidcjmefinhjaaWFootNe
import Derived.Test.YtdidcjmefinhjaaWAt
import Derived.Test.YtdidcjmefinhjaaWEqStruct
import Derived.Test.YtdidcjmefinhjaaWRepsOne
import Derived.Test.YtdidcjmefinhjaaWInv
import Derived.Test.YtdidcjmefinhjaaWInvWords
import Derived.Test.YtdidcjmefinhjaaWGuard
import Derived.Test.YtdidcjmefinhjaaWNEv
import Derived.Test.YtdidcjmefinhjaaWMore
namespace Go.Proofs.Ytdidcjmefinhjaa.Print
open Go.RowKit Go.Proofs.YtdidcjmefinhjaaW.PrintWords Go.Proofs.YtdidcjmefinhjaaW.PrintLast Go.Proofs.YtdidcjmefinhjaaW.PrintMore
attribute [local go_sem] max2_int min2_int max_two min_two max_three min_three max_four min_four   -- for this text's walks alone
set_option linter.unusedVariables false
set_option linter.unusedSimpArgs false



def errW : Option Int → Value
  | none => .nilIface
  | some c => .iface 0 (.int .i64 c)
theorem errW_none : errW none = .nilIface := rfl
theorem errW_some (c : Int) : errW (some c) = .iface 0 (.int .i64 c) := rfl

theorem info5 : (Try.prog.info? 5).map (fun i => (i.zero, i.size, i.bytes)) = some (some (.int .u8 0), 1, 1) := by kernel_rfl
-- the values' own types

end Go.Proofs.Ytdidcjmefinhjaa.Print
