/- Laid by mp.py, a program of this session, over the kit's printer: the Go text of each function comes to the answers of the function beside it. Conditions: none but that the function answers. -/
import Derived.Test.YtmhejpcbgknncaaHistE
import Derived.Test.YtmhejpcbgknncaaProg
import Derived.Test.YtmhejpcbgknncaaRows
import Derived.Below
import Derived.Deep.Draws
import Derived.Deep.AppendLies
import Derived.Maps.AppendAt
import Derived.OwnWalk
import Derived.Laws.BytesArg
import Derived.Laws.MakeOwn
import Derived.Laws.OwnMore
import Derived.Deep.OwnRows
import Derived.Tactics
import Derived.Lib.ConvBytes
import Derived.Laws.Slices
import Derived.WalkKit
import Derived.KernelRfl
import Derived.RowKit3
import Derived.Deep.LoopGhost
import Derived.Deep.QuietTactic
import Derived.BigQuiet
import Derived.WideLaws
import Derived.Deep.DeepCutAuto
import Derived.Deep.CutBlock
import Derived.Deep.RegionHeld3
import Derived.Laws.Rows
import Derived.Lib.AppendStr
import Derived.ArgAppend
import Derived.Laws.IdiomCopy
import Derived.OrdersHeld
import Derived.Laws.BitsLemmas
import Derived.RowKit
import Derived.Test.YtmhejpcbgknncaaWWords
import Derived.Test.YtmhejpcbgknncaaWLast
import Derived.Test.YtmhejpcbgknncaaWTab
import Derived.Test.YtmhejpcbgknncaaWFour
import Derived.Test.YtmhejpcbgknncaaWQPut
import Derived.Test.YtmhejpcbgknncaaWApart
import Derived.Test.YtmhejpcbgknncaaWArr
import Derived.Test.YtmhejpcbgknncaaWZeros
import Derived.Test.YtmhejpcbgknncaaWFoot
import Derived.Test.YtmhejpcbgknncaaWKept
import Derived.Test.YtmhejpcbgknncaaWShare
import Derived.Test.YtmhejpcbgknncaaWN
import Derived.Test.YtmhejpcbgknncaaWFootNe
import Derived.Test.YtmhejpcbgknncaaWAt
import Derived.Test.YtmhejpcbgknncaaWEqStruct
import Derived.Test.YtmhejpcbgknncaaWRepsOne
import Derived.Test.YtmhejpcbgknncaaWInv
import Derived.Test.YtmhejpcbgknncaaWInvWords
import Derived.Test.YtmhejpcbgknncaaWGuard
import Derived.Test.YtmhejpcbgknncaaWNEv
import Derived.Test.YtmhejpcbgknncaaWMore
namespace Go.Proofs.Ytmhejpcbgknncaa.Hi
open Go.RowKit Go.Proofs.YtmhejpcbgknncaaW.PrintWords Go.Proofs.YtmhejpcbgknncaaW.PrintLast Go.Proofs.YtmhejpcbgknncaaW.PrintMore
attribute [local go_sem] max2_int min2_int max_two min_two max_three min_three max_four min_four   -- for this text's walks alone
set_option linter.unusedVariables false
set_option linter.unusedSimpArgs false



def errW : Option Int → Value
  | none => .nilIface
  | some c => .iface 0 (.int .i64 c)
theorem errW_none : errW none = .nilIface := rfl
theorem errW_some (c : Int) : errW (some c) = .iface 0 (.int .i64 c) := rfl

-- the values' own types

end Go.Proofs.Ytmhejpcbgknncaa.Hi
