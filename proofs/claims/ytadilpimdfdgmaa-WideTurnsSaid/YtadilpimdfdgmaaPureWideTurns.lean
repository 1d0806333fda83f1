/- For all a, b, c, d, e, f of 64 bits, the lower ones not 0: where a by b is at most c by d, and that at most e by f, Cmp does not tell that a by b is more than e by f. No condition. -/
import Derived.Test.YtadilpimdfdgmaaBase
namespace Go.Proofs.Ytadilpimdfdgmaa.Pure
open Go.Proofs.Ytadilpimdfdgmaa.Q
theorem cmp_le {P Q : Int} : (if P < Q then (-1 : Int) else if Q < P then 1 else 0) ≤ 0 ↔ P ≤ Q := by
  repeat' split
  all_goals omega
theorem fractions {a b c d e f : Int} (hb : 0 < b) (hd : 0 < d) (hf : 0 < f) (h1 : a * d ≤ c * b) (h2 : c * f ≤ e * d) : a * f ≤ e * b := by
  have k1 : a * d * f ≤ c * b * f := Int.mul_le_mul_of_nonneg_right h1 (by omega)
  have k2 : c * f * b ≤ e * d * b := Int.mul_le_mul_of_nonneg_right h2 (by omega)
  refine Int.le_of_mul_le_mul_right (a := d) ?_ hd
  have e1 : a * f * d = a * d * f := by rw [Int.mul_assoc, Int.mul_comm f d, ← Int.mul_assoc]
  have e2 : c * b * f = c * f * b := by rw [Int.mul_assoc, Int.mul_comm b f, ← Int.mul_assoc]
  have e3 : e * b * d = e * d * b := by rw [Int.mul_assoc, Int.mul_comm b d, ← Int.mul_assoc]
  omega
theorem WideTurns : varvelaw01_WideTurns.Pure := by
  intro a b c d e f ha hb hc hd he hf
  replace ha := U.of_wf ha; replace hb := U.of_wf hb; replace hc := U.of_wf hc; replace hd := U.of_wf hd; replace he := U.of_wf he; replace hf := U.of_wf hf
  refine ⟨1, ?_⟩
  unfold varvelaw01_WideTurns.f
  simp only [varvelaw01_WideTurns.j0]
  rw [awake_true, Cmp_eq ha hb hc hd, Cmp_eq hc hd he hf, Cmp_eq ha hb he hf]
  simp only [Option.bind_some]
  by_cases z1 : b = 0
  · rw [if_pos z1]; rfl
  rw [if_neg z1]
  by_cases z2 : d = 0
  · rw [if_pos z2]; rfl
  rw [if_neg z2]
  by_cases z3 : f = 0
  · rw [if_pos (by simp [z3])]
  rw [if_neg (by simp [z3])]
  have hb0 := hb.1; have hd0 := hd.1; have hf0 := hf.1
  by_cases h1 : a * d ≤ c * b
  · rw [if_pos (cmp_le.mpr h1)]
    by_cases h2 : c * f ≤ e * d
    · rw [if_pos (cmp_le.mpr h2)]
      have h3 := fractions (by omega) (by omega) (by omega) h1 h2
      rw [if_neg (by have := cmp_le.mpr h3; omega)]
    · rw [if_neg (fun h => h2 (cmp_le.mp h))]
  · rw [if_neg (fun h => h1 (cmp_le.mp h))]
end Go.Proofs.Ytadilpimdfdgmaa.Pure
