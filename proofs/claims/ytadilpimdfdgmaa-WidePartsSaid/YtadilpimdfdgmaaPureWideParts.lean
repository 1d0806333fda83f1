/- For all a, b, d of 64 bits: Floor and Ceil are the reference's. No condition. -/
import Derived.Test.YtadilpimdfdgmaaBase
namespace Go.Proofs.Ytadilpimdfdgmaa.Pure
open Go.Proofs.Ytadilpimdfdgmaa.Q
theorem WideParts : varvelaw01_WideParts.Pure := by
  intro a b d ha hb hd
  replace ha := U.of_wf ha; replace hb := U.of_wf hb; replace hd := U.of_wf hd
  refine ⟨70, ?_⟩
  unfold varvelaw01_WideParts.f
  rw [Floor_eq ha hb hd, refFloor_eq ha hb hd 70 (by omega), Ceil_eq ha hb hd 70 (by omega), refCeil_eq ha hb hd 70 (by omega), awake_true]
  simp
end Go.Proofs.Ytadilpimdfdgmaa.Pure
