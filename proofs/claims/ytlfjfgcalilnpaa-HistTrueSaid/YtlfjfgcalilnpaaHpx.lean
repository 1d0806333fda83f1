/- Laid by mp.py, a program of this session, over the kit's printer: the Go text of each function comes to the answers of the function beside it. Conditions: none but that the function answers. -/
import Derived.Test.YtlfjfgcalilnpaaHpx0
import Derived.Test.YtlfjfgcalilnpaaHpx1
namespace Go.Proofs.Ytlfjfgcalilnpaa.Hp
open Go.RowKit Go.Proofs.YtlfjfgcalilnpaaW.PrintWords Go.Proofs.YtlfjfgcalilnpaaW.PrintLast Go.Proofs.YtlfjfgcalilnpaaW.PrintMore
attribute [local go_sem] max2_int min2_int max_two min_two max_three min_three max_four min_four   -- for this text's walks alone
set_option linter.unusedVariables false
set_option linter.unusedSimpArgs false

end Go.Proofs.Ytlfjfgcalilnpaa.Hp
