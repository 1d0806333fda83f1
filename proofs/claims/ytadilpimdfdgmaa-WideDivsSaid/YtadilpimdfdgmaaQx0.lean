/- Laid by mp.py, a program of this session, over the kit's printer: the Go text of each function comes to the answers of the function beside it. Conditions: none but that the function answers. -/
import Derived.Test.YtadilpimdfdgmaaWide
import Derived.Test.YtadilpimdfdgmaaProg
import Derived.Below
import Derived.Deep.Draws
import Derived.Deep.AppendLies
import Derived.Maps.AppendAt
import Derived.OwnWalk
import Derived.Laws.BytesArg
import Derived.Laws.MakeOwn
import Derived.Laws.OwnMore
import Derived.Deep.OwnRows
import Derived.Tactics
import Derived.Lib.ConvBytes
import Derived.Laws.Slices
import Derived.WalkKit
import Derived.KernelRfl
import Derived.RowKit3
import Derived.Deep.LoopGhost
import Derived.Deep.QuietTactic
import Derived.BigQuiet
import Derived.WideLaws
import Derived.Deep.DeepCutAuto
import Derived.Deep.CutBlock
import Derived.Deep.RegionHeld3
import Derived.Laws.Rows
import Derived.Lib.AppendStr
import Derived.ArgAppend
import Derived.Laws.IdiomCopy
import Derived.OrdersHeld
import Derived.Laws.BitsLemmas
import Derived.RowKit
import Derived.Test.YtadilpimdfdgmaaWWords
import Derived.Test.YtadilpimdfdgmaaWLast
import Derived.Test.YtadilpimdfdgmaaWTab
import Derived.Test.YtadilpimdfdgmaaWFour
import Derived.Test.YtadilpimdfdgmaaWQPut
import Derived.Test.YtadilpimdfdgmaaWApart
import Derived.Test.YtadilpimdfdgmaaWArr
import Derived.Test.YtadilpimdfdgmaaWZeros
import Derived.Test.YtadilpimdfdgmaaWFoot
import Derived.Test.YtadilpimdfdgmaaWKept
import Derived.Test.YtadilpimdfdgmaaWShare
import Derived.Test.YtadilpimdfdgmaaWN
import Derived.Test.YtadilpimdfdgmaaWFootNe
import Derived.Test.YtadilpimdfdgmaaWAt
import Derived.Test.YtadilpimdfdgmaaWEqStruct
import Derived.Test.YtadilpimdfdgmaaWRepsOne
import Derived.Test.YtadilpimdfdgmaaWInv
import Derived.Test.YtadilpimdfdgmaaWInvWords
import Derived.Test.YtadilpimdfdgmaaWGuard
import Derived.Test.YtadilpimdfdgmaaWNEv
import Derived.Test.YtadilpimdfdgmaaWMore
namespace Go.Proofs.Ytadilpimdfdgmaa.Q
open Go.RowKit Go.Proofs.YtadilpimdfdgmaaW.PrintWords Go.Proofs.YtadilpimdfdgmaaW.PrintLast Go.Proofs.YtadilpimdfdgmaaW.PrintMore
attribute [local go_sem] max2_int min2_int max_two min_two max_three min_three max_four min_four   -- for this text's walks alone
set_option linter.unusedVariables false
set_option linter.unusedSimpArgs false



def errW : Option Int → Value
  | none => .nilIface
  | some c => .iface 0 (.int .i64 c)
theorem errW_none : errW none = .nilIface := rfl
theorem errW_some (c : Int) : errW (some c) = .iface 0 (.int .i64 c) := rfl

-- the values' own types

end Go.Proofs.Ytadilpimdfdgmaa.Q
