/- For every hi, lo, d of 64 bits: where Div fits, quotient times divisor and what is left are what there was, and what is left is below the divisor; where not, all is zero. No condition. -/
import Derived.Test.YtadilpimdfdgmaaBase
namespace Go.Proofs.Ytadilpimdfdgmaa.Pure
open Go.Proofs.Ytadilpimdfdgmaa.Q
theorem WideBack : varvelaw01_WideBack.Pure := by
  intro h l d hh hl hd
  replace hh := U.of_wf hh; replace hl := U.of_wf hl; replace hd := U.of_wf hd
  unfold varvelaw01_WideBack.f
  rw [Div_eq hh hl hd, awake_true]
  simp only [Option.bind_some]
  have h0 := hh.1; have h1 := hh.2; have l0 := hl.1; have l1 := hl.2; have d0 := hd.1; have d1 := hd.2
  by_cases c : h < d
  · rw [div128_yes c]
    obtain ⟨u, r0, r1, e⟩ := div128_facts hh hl hd c
    have uq := u
    generalize (h * 18446744073709551616 + l) / d = q at *
    generalize (h * 18446744073709551616 + l) % d = r at *
    rw [if_pos rfl]
    simp only []
    rw [Full_eq uq hd]
    simp only [Option.bind_some]
    have P0 := mul_U uq hd
    rw [Int.mul_comm] at e
    generalize q * d = P at *
    rw [wu_in (n := 18446744073709551615 - r) (by omega) (by omega), if_pos r1, if_pos r1]
    have s : Go.IntKind.u64.wrap (P % 18446744073709551616 + r) = l := by rw [wu]; omega
    rw [s, if_pos rfl]
    by_cases ov : P % 18446744073709551616 > 18446744073709551615 - r
    · rw [if_pos ov, wu_in (by omega) (by omega), if_pos (by omega)]
    · rw [if_neg ov, if_pos (by omega)]
  · rw [div128_no c]
    simp only [Bool.false_eq_true, if_false, if_true]
    by_cases z : d = 0
    · rw [if_pos z]
    · rw [if_neg z, if_pos (by omega)]
end Go.Proofs.Ytadilpimdfdgmaa.Pure
