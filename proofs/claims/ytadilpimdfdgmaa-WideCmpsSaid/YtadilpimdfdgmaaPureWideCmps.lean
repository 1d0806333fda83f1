/- For all a, b, c, d of 64 bits: Cmp is the reference's, turned round it is its opposite, and of a fraction with itself 0. No condition. -/
import Derived.Test.YtadilpimdfdgmaaBase
namespace Go.Proofs.Ytadilpimdfdgmaa.Pure
open Go.RowKit Go.Proofs.Ytadilpimdfdgmaa.Q Go.Proofs.YtadilpimdfdgmaaW.PrintWords Go.Proofs.YtadilpimdfdgmaaW.PrintLast
theorem WideCmps : varvelaw01_WideCmps.Pure := by
  intro a b c d ha hb hc hd
  replace ha := U.of_wf ha; replace hb := U.of_wf hb; replace hc := U.of_wf hc; replace hd := U.of_wf hd
  refine ⟨70, ?_⟩
  unfold varvelaw01_WideCmps.f
  rw [Cmp_eq ha hb hc hd, refCmp_eq ha hb hc hd 70 (by omega), Cmp_eq hc hd ha hb, Cmp_eq ha hb ha hb, awake_true]
  simp only [Option.bind_some, if_true]
  generalize a * d = P
  generalize c * b = Q
  rw [if_pos, if_pos]
  · rw [if_neg (by omega), if_neg (by omega)]
  · unfold wrap64
    repeat' split
    all_goals omega
end Go.Proofs.Ytadilpimdfdgmaa.Pure
