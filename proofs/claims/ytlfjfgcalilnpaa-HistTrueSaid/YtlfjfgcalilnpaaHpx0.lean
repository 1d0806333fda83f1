/- Laid by mp.py, a program of this session, over the kit's printer: the Go text of each function comes to the answers of the function beside it. Conditions: none but that the function answers. -/
import Derived.Test.YtlfjfgcalilnpaaRows
import Derived.Test.YtlfjfgcalilnpaaProg
import Derived.Test.YtlfjfgcalilnpaaRows
import Derived.Below
import Derived.Deep.Draws
import Derived.Deep.AppendLies
import Derived.Maps.AppendAt
import Derived.OwnWalk
import Derived.Laws.BytesArg
import Derived.Laws.MakeOwn
import Derived.Laws.OwnMore
import Derived.Deep.OwnRows
import Derived.Tactics
import Derived.Lib.ConvBytes
import Derived.Laws.Slices
import Derived.WalkKit
import Derived.KernelRfl
import Derived.RowKit3
import Derived.Deep.LoopGhost
import Derived.Deep.QuietTactic
import Derived.BigQuiet
import Derived.WideLaws
import Derived.Deep.DeepCutAuto
import Derived.Deep.CutBlock
import Derived.Deep.RegionHeld3
import Derived.Laws.Rows
import Derived.Lib.AppendStr
import Derived.ArgAppend
import Derived.Laws.IdiomCopy
import Derived.OrdersHeld
import Derived.Laws.BitsLemmas
import Derived.RowKit
import Derived.Test.YtlfjfgcalilnpaaWWords
import Derived.Test.YtlfjfgcalilnpaaWLast
import Derived.Test.YtlfjfgcalilnpaaWTab
import Derived.Test.YtlfjfgcalilnpaaWFour
import Derived.Test.YtlfjfgcalilnpaaWQPut
import Derived.Test.YtlfjfgcalilnpaaWApart
import Derived.Test.YtlfjfgcalilnpaaWArr
import Derived.Test.YtlfjfgcalilnpaaWZeros
import Derived.Test.YtlfjfgcalilnpaaWFoot
import Derived.Test.YtlfjfgcalilnpaaWKept
import Derived.Test.YtlfjfgcalilnpaaWShare
import Derived.Test.YtlfjfgcalilnpaaWN
import Derived.Test.YtlfjfgcalilnpaaWFootNe
import Derived.Test.YtlfjfgcalilnpaaWAt
import Derived.Test.YtlfjfgcalilnpaaWEqStruct
import Derived.Test.YtlfjfgcalilnpaaWRepsOne
import Derived.Test.YtlfjfgcalilnpaaWInv
import Derived.Test.YtlfjfgcalilnpaaWInvWords
import Derived.Test.YtlfjfgcalilnpaaWGuard
import Derived.Test.YtlfjfgcalilnpaaWNEv
import Derived.Test.YtlfjfgcalilnpaaWMore
namespace Go.Proofs.Ytlfjfgcalilnpaa.Hp
open Go.RowKit Go.Proofs.YtlfjfgcalilnpaaW.PrintWords Go.Proofs.YtlfjfgcalilnpaaW.PrintLast Go.Proofs.YtlfjfgcalilnpaaW.PrintMore
attribute [local go_sem] max2_int min2_int max_two min_two max_three min_three max_four min_four   -- for this text's walks alone
set_option linter.unusedVariables false
set_option linter.unusedSimpArgs false



def errW : Option Int → Value
  | none => .nilIface
  | some c => .iface 0 (.int .i64 c)
theorem errW_none : errW none = .nilIface := rfl
theorem errW_some (c : Int) : errW (some c) = .iface 0 (.int .i64 c) := rfl

-- the values' own types

end Go.Proofs.Ytlfjfgcalilnpaa.Hp
