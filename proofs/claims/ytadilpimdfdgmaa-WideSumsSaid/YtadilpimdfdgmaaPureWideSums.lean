/- For all a, b of 64 bits: Add and Sub, held at the ends, are the reference's. No condition. -/
import Derived.Test.YtadilpimdfdgmaaBase
namespace Go.Proofs.Ytadilpimdfdgmaa.Pure
open Go.Proofs.Ytadilpimdfdgmaa.Q
theorem WideSums : varvelaw01_WideSums.Pure := by
  intro a b ha hb
  replace ha := U.of_wf ha; replace hb := U.of_wf hb
  have e : varveref01_Sub.f a b = wide_Sub.f a b := rfl
  unfold varvelaw01_WideSums.f
  rw [Add_eq ha hb, refAdd_eq ha hb, e, Sub_eq ha hb, awake_true]
  simp
end Go.Proofs.Ytadilpimdfdgmaa.Pure
