/- For all a, b of 64 bits: a times b by b is a, rounded down and up, where b is not 0, and does not fit where it is. No condition. -/
import Derived.Test.YtadilpimdfdgmaaBase
namespace Go.Proofs.Ytadilpimdfdgmaa.Pure
open Go.Proofs.Ytadilpimdfdgmaa.Q
theorem WideOnes : varvelaw01_WideOnes.Pure := by
  intro a b ha hb
  replace ha := U.of_wf ha; replace hb := U.of_wf hb
  have h0 : U 0 := ⟨by omega, by omega⟩
  have a0 := ha.1; have a1 := ha.2; have b0 := hb.1
  refine ⟨1, ?_⟩
  unfold varvelaw01_WideOnes.f
  rw [Floor_eq ha hb hb, Ceil_eq ha hb hb 1 (by omega), Cmp_eq ha hb ha hb, Add_eq ha h0, awake_true]
  simp only [Option.bind_some]
  rw [Int.add_zero, if_pos (show a < 18446744073709551616 from a1), Sub_eq ha ha]
  simp only [Option.bind_some]
  by_cases z : b = 0
  · have e : pr a b b = (0, 0, false) := by unfold pr; exact div128_no (by rw [z]; simp)
    rw [e, if_pos z]
    simp [ceil128]
  · have lt : a * b / 18446744073709551616 < b := by
      refine Int.ediv_lt_of_lt_mul (by omega) ?_
      rw [Int.mul_comm]
      exact Int.mul_lt_mul_of_pos_left a1 (by omega)
    obtain ⟨e, u, r0, r1, r2⟩ := pr_yes ha hb hb lt
    rw [e, Int.mul_ediv_cancel _ z, Int.mul_emod_left]
    rw [if_neg z]
    simp [ceil128]
end Go.Proofs.Ytadilpimdfdgmaa.Pure
