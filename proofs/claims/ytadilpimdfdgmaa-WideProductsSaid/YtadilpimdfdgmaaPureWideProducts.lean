/- For all a, b of 64 bits: Mul and Full are the reference's. No condition. -/
import Derived.Test.YtadilpimdfdgmaaBase
namespace Go.Proofs.Ytadilpimdfdgmaa.Pure
open Go.Proofs.Ytadilpimdfdgmaa.Q
theorem WideProducts : varvelaw01_WideProducts.Pure := by
  intro a b ha hb
  replace ha := U.of_wf ha; replace hb := U.of_wf hb
  refine ⟨70, ?_⟩
  unfold varvelaw01_WideProducts.f
  rw [Full_eq ha hb, refFull_eq ha hb 70 (by omega), Mul_eq ha hb, refMul_eq ha hb 70 (by omega), awake_true]
  simp
end Go.Proofs.Ytadilpimdfdgmaa.Pure
