/- For every hi, lo, d of 64 bits: Div tells the quotient, the rest and whether it fits as the reference's long division by bits does. No condition. -/
import Derived.Test.YtadilpimdfdgmaaBase
namespace Go.Proofs.Ytadilpimdfdgmaa.Pure
open Go.Proofs.Ytadilpimdfdgmaa.Q
theorem WideDivs : varvelaw01_WideDivs.Pure := by
  intro a b d ha hb hd
  replace ha := U.of_wf ha; replace hb := U.of_wf hb; replace hd := U.of_wf hd
  refine ⟨70, ?_⟩
  unfold varvelaw01_WideDivs.f
  rw [Div_eq ha hb hd, refDiv_eq ha hb hd 70 (by omega), awake_true]
  simp
end Go.Proofs.Ytadilpimdfdgmaa.Pure
