/- What the functions of wide and of its reference compute, as plain numbers. Plain Lean, no program in sight. -/
import Derived.Test.YtlfjfgcalilnpaaQx
import Derived.DataShut
namespace Go.Proofs.Ytlfjfgcalilnpaa.Pure
set_option linter.unusedVariables false
set_option linter.unusedSimpArgs false
open Go.RowKit Go.Proofs.Ytlfjfgcalilnpaa.Q Go.Proofs.YtlfjfgcalilnpaaW.PrintWords Go.Proofs.YtlfjfgcalilnpaaW.PrintLast Go.Proofs.YtlfjfgcalilnpaaW.PrintMore

/-- A number of 64 bits. -/
def U (x : Int) : Prop := 0 ≤ x ∧ x < 18446744073709551616
theorem U.of_wf {x : Int} (h : (Lit.int .u64 x).wf = true) : U x := by
  have h2 := (Lit.wf_int_iff .u64 x).mp h
  simp [IntKind.min, IntKind.max, IntKind.bits, IntKind.signed] at h2
  exact ⟨by omega, by omega⟩

theorem wu (n : Int) : IntKind.u64.wrap n = n % 18446744073709551616 := IntKind.wrap_u64 n
theorem wu_in {n : Int} (h0 : 0 ≤ n) (h1 : n < 18446744073709551616) : IntKind.u64.wrap n = n := by rw [wu]; omega

theorem mul_U {a b : Int} (ha : U a) (hb : U b) : 0 ≤ a * b ∧ a * b ≤ 340282366920938463426481119284349108225 := by
  have h0 := Int.mul_nonneg ha.1 hb.1
  have h1 : a * b ≤ 18446744073709551615 * 18446744073709551615 := Int.mul_le_mul (by have := ha.2; omega) (by have := hb.2; omega) hb.1 (by omega)
  exact ⟨h0, by omega⟩

theorem full_eq {a b : Int} (ha : U a) (hb : U b) : wide_full.f a b = some (a * b / 18446744073709551616, a * b % 18446744073709551616) := by
  unfold wide_full.f bits_Mul64.f
  rw [if_pos ⟨ha.1, ha.2, hb.1, hb.2⟩]
  rfl
theorem full_U {a b : Int} (ha : U a) (hb : U b) : U (a * b / 18446744073709551616) ∧ U (a * b % 18446744073709551616) := by
  have := mul_U ha hb
  exact ⟨⟨by omega, by omega⟩, ⟨by omega, by omega⟩⟩
/-- The division of 128 bits by 64, as the chapter says it. -/
def div128 (h l d : Int) : Int × Int × Bool := if h < d then ((h * 18446744073709551616 + l) / d, (h * 18446744073709551616 + l) % d, true) else (0, 0, false)
theorem divide_eq {h l d : Int} (hh : U h) (hl : U l) (hd : U d) : wide_divide.f h l d = some (div128 h l d) := by
  unfold wide_divide.f div128
  by_cases c : h < d
  · rw [if_neg (by omega), if_pos c]
    unfold bits_Div64.f
    rw [if_pos ⟨hh.1, c, hl.1, hl.2, hd.2⟩]; rfl
  · rw [if_pos (by omega), if_neg c]
theorem div128_facts {h l d : Int} (hh : U h) (hl : U l) (hd : U d) (c : h < d) : U ((h * 18446744073709551616 + l) / d) ∧ 0 ≤ (h * 18446744073709551616 + l) % d ∧ (h * 18446744073709551616 + l) % d < d ∧
    d * ((h * 18446744073709551616 + l) / d) + (h * 18446744073709551616 + l) % d = h * 18446744073709551616 + l := by
  have p : 0 < d := by have := hh.1; omega
  have h0 := hh.1; have l0 := hl.1; have l1 := hl.2; have d1 := hd.2
  refine ⟨⟨Int.ediv_nonneg (by omega) (by omega), Int.ediv_lt_of_lt_mul p ?_⟩, Int.emod_nonneg _ (by omega), Int.emod_lt_of_pos _ p, Int.mul_ediv_add_emod _ _⟩
  omega

/-! ### The reference's product, bit by bit -/
theorem shr_nat (x s : Nat) (hs : s ≤ 64) : shr .u64 (x : Int) (s : Int) = ((x / 2 ^ s : Nat) : Int) := D.shr_nat x s hs
theorem and_one (a : Nat) (ha : a < 18446744073709551616) : bits .and .u64 (a : Int) 1 = ((a % 2 : Nat) : Int) := by
  have h := bits_and_u64_nat a 1 ha (by omega)
  rw [Nat.and_one_is_mod] at h
  exact h
theorem or_bit (a b : Nat) (ha : a < 9223372036854775808) (hb : b < 2) : bits .or .u64 ((a * 2 : Nat) : Int) (b : Int) = ((a * 2 + b : Nat) : Int) := by
  have h := bits_or_u64_nat (a * 2) b (by omega) (by omega)
  have e := Nat.shiftLeft_add_eq_or_of_lt (i := 1) (b := b) (by omega) a
  rw [Nat.shiftLeft_eq, Nat.pow_one] at e
  rw [h, ← e]
theorem half (x n : Nat) : x / 2 ^ n = 2 * (x / 2 ^ (n + 1)) + x / 2 ^ n % 2 := by
  rw [Nat.pow_succ, ← Nat.div_div_eq_div_mul]; omega
theorem pow_half (n : Nat) (h : n ≤ 63) : 2 ^ (63 - n) ≤ 9223372036854775808 ∧ 2 ^ (64 - n) = 2 * 2 ^ (63 - n) := by
  refine ⟨?_, by rw [show 64 - n = (63 - n) + 1 by omega, Nat.pow_succ]; omega⟩
  have : 2 ^ (63 - n) ≤ 2 ^ 63 := Nat.pow_le_pow_right (by decide) (by omega)
  simpa using this

theorem step_0 (hi lo T : Nat) (h : T = 2 * (hi * 18446744073709551616 + lo)) : (hi * 2 + lo / 9223372036854775808) * 18446744073709551616 + lo * 2 % 18446744073709551616 = T := by omega
theorem step_1 (hi lo T a : Nat) (h : T = 2 * (hi * 18446744073709551616 + lo) + a) (ov : ¬ lo * 2 % 18446744073709551616 + a ≥ 18446744073709551616) :
    (hi * 2 + lo / 9223372036854775808) * 18446744073709551616 + (lo * 2 % 18446744073709551616 + a) % 18446744073709551616 = T := by omega
theorem step_2 (hi lo T a : Nat) (h : T = 2 * (hi * 18446744073709551616 + lo) + a) (ha : a < 18446744073709551616) (ov : lo * 2 % 18446744073709551616 + a ≥ 18446744073709551616) :
    (hi * 2 + lo / 9223372036854775808 + 1) * 18446744073709551616 + (lo * 2 % 18446744073709551616 + a) % 18446744073709551616 = T := by omega
theorem mod64 (x : Nat) : x % 18446744073709551616 < 18446744073709551616 := by omega
theorem wrapN {a : Int} (b : Nat) (h0 : 0 ≤ a) (h : a.toNat % 18446744073709551616 = b) : IntKind.u64.wrap a = (b : Int) := by rw [wu]; omega

theorem top_bound (a b n : Nat) (ha : a < 18446744073709551616) (hb : b < 18446744073709551616) (hn : n ≤ 64) : a * (b / 2 ^ n) < 2 ^ (64 - n) * 18446744073709551616 := by
  have q1 : b / 2 ^ n < 2 ^ (64 - n) := by
    refine Nat.div_lt_of_lt_mul ?_
    rw [← Nat.pow_add, show n + (64 - n) = 64 by omega]; exact hb
  have q2 : a * (b / 2 ^ n) ≤ a * 2 ^ (64 - n) := Nat.mul_le_mul_left _ (Nat.le_of_lt q1)
  have q3 : a * 2 ^ (64 - n) < 18446744073709551616 * 2 ^ (64 - n) := Nat.mul_lt_mul_of_pos_right ha (Nat.two_pow_pos _)
  rw [Nat.mul_comm 18446744073709551616] at q3
  exact Nat.lt_of_le_of_lt q2 q3
theorem top_lt {hi lo Z T : Nat} (h : hi * 18446744073709551616 + lo = T) (hT : T < Z * 18446744073709551616) : hi < Z := by omega

/-! ### The reference's quotient, bit by bit -/
/-! ### Parts -/
def pr (a b d : Int) : Int × Int × Bool := div128 (a * b / 18446744073709551616) (a * b % 18446744073709551616) d
def ceil128 (x : Int × Int × Bool) : Int × Bool := if x.2.2 = false then (0, false) else if x.2.1 > 0 then (if x.1 = 18446744073709551615 then (0, false) else (x.1 + 1, true)) else (x.1, true)
theorem div128_no {h l d : Int} (c : ¬ h < d) : div128 h l d = (0, 0, false) := if_neg c
theorem div128_yes {h l d : Int} (c : h < d) : div128 h l d = ((h * 18446744073709551616 + l) / d, (h * 18446744073709551616 + l) % d, true) := if_pos c
theorem pr_yes {a b d : Int} (ha : U a) (hb : U b) (hd : U d) (c : a * b / 18446744073709551616 < d) :
    pr a b d = (a * b / d, a * b % d, true) ∧ U (a * b / d) ∧ 0 ≤ a * b % d ∧ a * b % d < d ∧ d * (a * b / d) + a * b % d = a * b := by
  obtain ⟨f1, f2⟩ := full_U ha hb
  obtain ⟨g1, g2, g3, g4⟩ := div128_facts f1 f2 hd c
  have e : a * b / 18446744073709551616 * 18446744073709551616 + a * b % 18446744073709551616 = a * b := by omega
  unfold pr
  rw [div128_yes c]
  rw [e] at g1 g2 g3 g4 ⊢
  exact ⟨rfl, g1, g2, g3, g4⟩
theorem Ceil_eq {a b d : Int} (ha : U a) (hb : U b) (hd : U d) (k : Nat) (hk : 1 ≤ k) : wide_Ceil.f k a b d = some (ceil128 (pr a b d)) := by
  obtain ⟨f1, f2⟩ := full_U ha hb
  obtain ⟨k, rfl⟩ : ∃ m, k = m + 1 := ⟨k - 1, by omega⟩
  unfold wide_Ceil.f
  rw [full_eq ha hb]
  simp only [Option.bind_some]
  rw [divide_eq f1 f2 hd]
  simp only [Option.bind_some]
  by_cases c : a * b / 18446744073709551616 < d
  · obtain ⟨e, u, r0, r1, r2⟩ := pr_yes ha hb hd c
    unfold pr at e ⊢
    rw [e]
    have q1 := u.1; have q2 := u.2
    clear e r2
    generalize a * b / d = Q at *
    generalize a * b % d = R at *
    by_cases p : R > 0
    · by_cases q : Q = 18446744073709551615
      · simp [wide_Ceil.j0, ceil128, p, q]
      · simp [wide_Ceil.j0, ceil128, p, q]
        exact wu_in (by omega) (by omega)
    · have : R = 0 := by omega
      simp [wide_Ceil.j0, ceil128, this]
  · unfold pr
    rw [div128_no c]
    simp [wide_Ceil.j0, ceil128]
theorem refAdd_eq {a b : Int} (ha : U a) (hb : U b) : varveref01_Add.f a b = some (if a + b < 18446744073709551616 then a + b else 18446744073709551615) := by
  unfold varveref01_Add.f
  have a0 := ha.1; have a1 := ha.2; have b0 := hb.1; have b1 := hb.2
  rw [wu_in (n := 18446744073709551615 - b) (by omega) (by omega)]
  by_cases h : a + b < 18446744073709551616
  · rw [if_neg (by omega), if_pos h, wu_in (by omega) h]
  · rw [if_pos (by omega), if_neg h]
end Go.Proofs.Ytlfjfgcalilnpaa.Pure
