/- For every a of 64 bits and every place from 0 to 63: the product by the power of two is the shift, over both halves, and it is held just where something stands above. No condition. -/
import Derived.Test.YtadilpimdfdgmaaBase
namespace Go.Proofs.Ytadilpimdfdgmaa.Pure
open Go.RowKit Go.Proofs.Ytadilpimdfdgmaa.Q Go.Proofs.YtadilpimdfdgmaaW.PrintWords Go.Proofs.YtadilpimdfdgmaaW.PrintLast Go.Proofs.YtadilpimdfdgmaaW.PrintMore
theorem place_eq (v : Int) : ∃ n : Nat, n < 64 ∧ varvelaw00_Place.f v 64 = some (n : Int) := by
  unfold varvelaw00_Place.f
  rw [if_neg (by omega)]
  have h1 : Int.tmod v 64 < 64 := Int.tmod_lt_of_pos v (by omega)
  have h2 : -64 < Int.tmod v 64 := by
    by_cases p : 0 ≤ v
    · have := Int.tmod_nonneg 64 p; omega
    · have e : Int.tmod (-v) 64 = - Int.tmod v 64 := Int.neg_tmod _ _
      have := Int.tmod_lt_of_pos (-v) (b := 64) (by omega)
      omega
  generalize Int.tmod v 64 = m at *
  by_cases c : m < 0
  · refine ⟨(m + 64).toNat, by omega, ?_⟩
    rw [if_pos c]
    congr 1
    unfold wrap64; omega
  · refine ⟨m.toNat, by omega, ?_⟩
    rw [if_neg c]
    congr 1
    omega
theorem WideShifts : varvelaw01_WideShifts.Pure := by
  intro a v ha _
  replace ha := U.of_wf ha
  obtain ⟨n, hn, e⟩ := place_eq v
  obtain ⟨x, rfl⟩ : ∃ x : Nat, a = x := ⟨a.toNat, by have := ha.1; omega⟩
  have hx : x < 18446744073709551616 := by have := ha.2; omega
  have hp : 2 ^ n ≤ 2 ^ 63 := Nat.pow_le_pow_right (by decide) (by omega)
  have hp2 : (2 : Nat) ^ n < 18446744073709551616 := by
    have : (2 : Nat) ^ 63 = 9223372036854775808 := by decide
    omega
  have hp0 := Nat.two_pow_pos n
  unfold varvelaw01_WideShifts.f
  rw [e, Option.bind_some]
  rw [wu_in (n := (n : Int)) (by omega) (by omega), if_pos (by omega)]
  have s1 : shl .u64 1 (n : Int) = ((2 ^ n : Nat) : Int) := by
    have := D.shl_nat 1 n (by omega)
    rw [Nat.one_mul, Nat.mod_eq_of_lt hp2, show ((1 : Nat) : Int) = 1 from rfl] at this
    exact this
  have uP : U ((2 ^ n : Nat) : Int) := ⟨by omega, by omega⟩
  rw [s1, D.shl_nat x n (by omega), Full_eq ha uP, Mul_eq ha uP, awake_true]
  repeat rw [Option.bind_some]
  dsimp only
  have eP : (x : Int) * ((2 ^ n : Nat) : Int) = ((x * 2 ^ n : Nat) : Int) := (Int.natCast_mul _ _).symm
  rw [eP]
  have d1 : ((x * 2 ^ n : Nat) : Int) / 18446744073709551616 = ((x * 2 ^ n / 18446744073709551616 : Nat) : Int) := by omega
  have d2 : ((x * 2 ^ n : Nat) : Int) % 18446744073709551616 = ((x * 2 ^ n % 18446744073709551616 : Nat) : Int) := by omega
  rw [d1, d2]
  have upper : x * 2 ^ n / 18446744073709551616 = x / 2 ^ (64 - n) := by
    have p64 : (2 : Nat) ^ (64 - n) * 2 ^ n = 18446744073709551616 := by rw [← Nat.pow_add, show 64 - n + n = 64 by omega]
    conv => lhs; rw [← p64]
    exact Nat.mul_div_mul_right _ _ hp0
  have last : ((if ((x * 2 ^ n : Nat) : Int) < 18446744073709551616 then ((x * 2 ^ n : Nat) : Int) else 18446744073709551615) == ((x * 2 ^ n % 18446744073709551616 : Nat) : Int)) =
      if ((x * 2 ^ n / 18446744073709551616 : Nat) : Int) = 0 then true else (((x * 2 ^ n % 18446744073709551616 : Nat) : Int) == 18446744073709551615) := by
    clear upper d1 d2 eP
    generalize x * 2 ^ n = P
    by_cases c : P < 18446744073709551616
    · rw [if_pos (by omega), if_pos (by omega)]
      exact beq_iff_eq.mpr (by omega)
    · rw [if_neg (by omega), if_neg (by omega)]
      exact BEq.comm
  rw [last]
  by_cases z : (n : Int) > 0
  · have es : Go.IntKind.u64.wrap (wrap64 (64 - (n : Int))) = ((64 - n : Nat) : Int) := by
      have : wrap64 (64 - (n : Int)) = ((64 - n : Nat) : Int) := by unfold wrap64; omega
      rw [this, wu]; omega
    rw [if_pos z, es, if_pos (by omega), shr_nat x (64 - n) (by omega), if_pos (by rw [upper]), if_pos rfl]
    by_cases c : ((x * 2 ^ n / 18446744073709551616 : Nat) : Int) = 0
    · rw [if_pos c, if_pos c]; rfl
    · rw [if_neg c, if_neg c]; simp
  · obtain rfl : n = 0 := by omega
    rw [if_neg z]
    have c : ((x * 2 ^ 0 / 18446744073709551616 : Nat) : Int) = 0 := by
      rw [Nat.pow_zero, Nat.mul_one, Nat.div_eq_of_lt hx]; rfl
    rw [if_pos c, if_pos rfl, if_pos c]; rfl
end Go.Proofs.Ytadilpimdfdgmaa.Pure
