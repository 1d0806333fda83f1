/- For all a, b, c of 64 bits: held sums and products may be turned round and grouped, and a product goes into a sum. No condition. -/
import Derived.Test.YtadilpimdfdgmaaBase
namespace Go.Proofs.Ytadilpimdfdgmaa.Pure
open Go.Proofs.Ytadilpimdfdgmaa.Q

/-- A number held at the greatest one. -/
def hold (x : Int) : Int := if x < 18446744073709551616 then x else 18446744073709551615
theorem hold_lt {x : Int} (h : x < 18446744073709551616) : hold x = x := if_pos h
theorem hold_ge {x : Int} (h : 18446744073709551615 ≤ x) : hold x = 18446744073709551615 := by unfold hold; split <;> omega
theorem hold_U {x : Int} (h : 0 ≤ x) : U (hold x) := by unfold hold U; split <;> omega
theorem Add_hold {a b : Int} (ha : U a) (hb : U b) : wide_Add.f a b = some (hold (a + b)) := Add_eq ha hb
theorem Mul_hold {a b : Int} (ha : U a) (hb : U b) : wide_Mul.f a b = some (hold (a * b)) := Mul_eq ha hb
theorem le_mul {a b : Int} (ha : 1 ≤ a) (hb : 0 ≤ b) : b ≤ a * b := by
  have : 1 * b ≤ a * b := Int.mul_le_mul_of_nonneg_right ha hb
  omega
theorem hold_mul {x c : Int} (hx : 0 ≤ x) (hc : 0 ≤ c) : hold (hold x * c) = hold (x * c) := by
  by_cases h : x < 18446744073709551616
  · rw [hold_lt h]
  · rw [hold_ge (x := x) (by omega)]
    by_cases z : c = 0
    · subst z; rw [Int.mul_zero, Int.mul_zero]
    · have h1 := le_mul (a := c) (b := 18446744073709551615) (by omega) (by omega)
      have h2 := le_mul (a := c) (b := x) (by omega) hx
      rw [Int.mul_comm] at h1 h2
      rw [hold_ge h1, hold_ge (x := x * c) (by omega)]
theorem hold_add {x y : Int} (hx : 0 ≤ x) (hy : 0 ≤ y) : hold (hold x + hold y) = hold (x + y) := by
  unfold hold
  repeat' split
  all_goals omega
theorem WideLaws : varvelaw01_WideLaws.Pure := by
  intro a b c ha hb hc
  replace ha := U.of_wf ha; replace hb := U.of_wf hb; replace hc := U.of_wf hc
  have a0 := ha.1; have b0 := hb.1; have c0 := hc.1
  have ab := Int.mul_nonneg a0 b0
  have bc := Int.mul_nonneg b0 c0
  have ac := Int.mul_nonneg a0 c0
  unfold varvelaw01_WideLaws.f
  rw [Add_hold ha hb, Add_hold hb ha, Mul_hold ha hb, Mul_hold hb ha, Add_hold hb hc, Mul_hold hb hc, Mul_hold ha hc, awake_true]
  simp only [Option.bind_some]
  rw [Add_hold (hold_U (x := a + b) (by omega)) hc, Add_hold ha (hold_U (x := b + c) (by omega)), Mul_hold (hold_U (x := a * b) ab) hc, Mul_hold ha (hold_U (x := b * c) bc), Mul_hold ha (hold_U (x := b + c) (by omega)), Add_hold (hold_U (x := a * b) ab) (hold_U (x := a * c) ac)]
  simp only [Option.bind_some]
  have s1 : hold (hold (a + b) + c) = hold (a + hold (b + c)) := by
    have e1 := hold_add (x := a + b) (y := c) (by omega) c0
    have e2 := hold_add (x := a) (y := b + c) a0 (by omega)
    rw [hold_lt hc.2] at e1; rw [hold_lt ha.2] at e2
    rw [e1, e2, Int.add_assoc]
  have s2 : hold (hold (a * b) * c) = hold (a * hold (b * c)) := by
    rw [hold_mul ab c0, Int.mul_comm a (hold (b * c)), hold_mul bc a0, Int.mul_assoc, Int.mul_comm a]
  have s3 : hold (a * hold (b + c)) = hold (hold (a * b) + hold (a * c)) := by
    rw [hold_add ab ac, Int.mul_comm a (hold (b + c)), hold_mul (by omega) a0, Int.mul_comm _ a, Int.mul_add]
  rw [if_pos (by rw [Int.add_comm]), if_pos (by rw [Int.mul_comm]), if_pos s1, if_pos s2, if_pos s3]
end Go.Proofs.Ytadilpimdfdgmaa.Pure
