/- What the two divisions compute, as plain numbers (out of the Hist seat). Plain Lean. -/
import Derived.Test.YtpjchgiemmnikaaKChk
import Derived.DataShut
namespace Go.Proofs.Ytpjchgiemmnikaa.Pure
set_option linter.unusedVariables false
set_option linter.unusedSimpArgs false
open Go.RowKit Go.Proofs.Ytpjchgiemmnikaa.Q Go.Proofs.YtpjchgiemmnikaaW.PrintWords Go.Proofs.YtpjchgiemmnikaaW.PrintLast Go.Proofs.YtpjchgiemmnikaaW.PrintMore
/-- A number of 64 bits. -/
def U (x : Int) : Prop := 0 ≤ x ∧ x < 18446744073709551616
theorem U.of_wf {x : Int} (h : (Lit.int .u64 x).wf = true) : U x := by
  have h2 := (Lit.wf_int_iff .u64 x).mp h
  simp [IntKind.min, IntKind.max, IntKind.bits, IntKind.signed] at h2
  exact ⟨by omega, by omega⟩

theorem wu (n : Int) : IntKind.u64.wrap n = n % 18446744073709551616 := IntKind.wrap_u64 n
theorem wu_in {n : Int} (h0 : 0 ≤ n) (h1 : n < 18446744073709551616) : IntKind.u64.wrap n = n := by rw [wu]; omega

def div128 (h l d : Int) : Int × Int × Bool := if h < d then ((h * 18446744073709551616 + l) / d, (h * 18446744073709551616 + l) % d, true) else (0, 0, false)
theorem divide_eq {h l d : Int} (hh : U h) (hl : U l) (hd : U d) : wide_divide.f h l d = some (div128 h l d) := by
  unfold wide_divide.f div128
  by_cases c : h < d
  · rw [if_neg (by omega), if_pos c]
    unfold bits_Div64.f
    rw [if_pos ⟨hh.1, c, hl.1, hl.2, hd.2⟩]; rfl
  · rw [if_pos (by omega), if_neg c]
theorem div128_facts {h l d : Int} (hh : U h) (hl : U l) (hd : U d) (c : h < d) : U ((h * 18446744073709551616 + l) / d) ∧ 0 ≤ (h * 18446744073709551616 + l) % d ∧ (h * 18446744073709551616 + l) % d < d ∧
    d * ((h * 18446744073709551616 + l) / d) + (h * 18446744073709551616 + l) % d = h * 18446744073709551616 + l := by
  have p : 0 < d := by have := hh.1; omega
  have h0 := hh.1; have l0 := hl.1; have l1 := hl.2; have d1 := hd.2
  refine ⟨⟨Int.ediv_nonneg (by omega) (by omega), Int.ediv_lt_of_lt_mul p ?_⟩, Int.emod_nonneg _ (by omega), Int.emod_lt_of_pos _ p, Int.mul_ediv_add_emod _ _⟩
  omega

/-! ### The reference's product, bit by bit -/
theorem shr_nat (x s : Nat) (hs : s ≤ 64) : shr .u64 (x : Int) (s : Int) = ((x / 2 ^ s : Nat) : Int) := D.shr_nat x s hs
theorem and_one (a : Nat) (ha : a < 18446744073709551616) : bits .and .u64 (a : Int) 1 = ((a % 2 : Nat) : Int) := by
  have h := bits_and_u64_nat a 1 ha (by omega)
  rw [Nat.and_one_is_mod] at h
  exact h
theorem or_bit (a b : Nat) (ha : a < 9223372036854775808) (hb : b < 2) : bits .or .u64 ((a * 2 : Nat) : Int) (b : Int) = ((a * 2 + b : Nat) : Int) := by
  have h := bits_or_u64_nat (a * 2) b (by omega) (by omega)
  have e := Nat.shiftLeft_add_eq_or_of_lt (i := 1) (b := b) (by omega) a
  rw [Nat.shiftLeft_eq, Nat.pow_one] at e
  rw [h, ← e]
theorem half (x n : Nat) : x / 2 ^ n = 2 * (x / 2 ^ (n + 1)) + x / 2 ^ n % 2 := by
  rw [Nat.pow_succ, ← Nat.div_div_eq_div_mul]; omega
theorem pow_half (n : Nat) (h : n ≤ 63) : 2 ^ (63 - n) ≤ 9223372036854775808 ∧ 2 ^ (64 - n) = 2 * 2 ^ (63 - n) := by
  refine ⟨?_, by rw [show 64 - n = (63 - n) + 1 by omega, Nat.pow_succ]; omega⟩
  have : 2 ^ (63 - n) ≤ 2 ^ 63 := Nat.pow_le_pow_right (by decide) (by omega)
  simpa using this

theorem step_0 (hi lo T : Nat) (h : T = 2 * (hi * 18446744073709551616 + lo)) : (hi * 2 + lo / 9223372036854775808) * 18446744073709551616 + lo * 2 % 18446744073709551616 = T := by omega
theorem step_1 (hi lo T a : Nat) (h : T = 2 * (hi * 18446744073709551616 + lo) + a) (ov : ¬ lo * 2 % 18446744073709551616 + a ≥ 18446744073709551616) :
    (hi * 2 + lo / 9223372036854775808) * 18446744073709551616 + (lo * 2 % 18446744073709551616 + a) % 18446744073709551616 = T := by omega
theorem step_2 (hi lo T a : Nat) (h : T = 2 * (hi * 18446744073709551616 + lo) + a) (ha : a < 18446744073709551616) (ov : lo * 2 % 18446744073709551616 + a ≥ 18446744073709551616) :
    (hi * 2 + lo / 9223372036854775808 + 1) * 18446744073709551616 + (lo * 2 % 18446744073709551616 + a) % 18446744073709551616 = T := by omega
theorem mod64 (x : Nat) : x % 18446744073709551616 < 18446744073709551616 := by omega
theorem wrapN {a : Int} (b : Nat) (h0 : 0 ≤ a) (h : a.toNat % 18446744073709551616 = b) : IntKind.u64.wrap a = (b : Int) := by rw [wu]; omega

/-- One round of the reference's loop. -/
theorem refDiv_l0 (N lo d : Nat) (hlo : lo < 18446744073709551616) (hd : d < 18446744073709551616) (hN : N % 18446744073709551616 = lo) : ∀ (n q r k : Nat), n ≤ 64 → N / 2 ^ n = q * d + r → r < d → q < 2 ^ (64 - n) → n < k →
    varveref01_Div.l0 k lo d r q ((n : Int) - 1) = some (((N / d : Nat) : Int), ((N % d : Nat) : Int), true) := by
  intro n
  induction n with
  | zero =>
    intro q r k _ he hr _ hk
    obtain ⟨k, rfl⟩ : ∃ m, k = m + 1 := ⟨k - 1, by omega⟩
    simp only [varveref01_Div.l0]
    rw [if_neg (by omega)]
    simp only [Nat.pow_zero, Nat.div_one] at he
    have a1 : N / d = q := by rw [he, Nat.mul_comm, Nat.mul_add_div (by omega), Nat.div_eq_of_lt hr, Nat.add_zero]
    have a2 : N % d = r := by rw [he, Nat.mul_comm, Nat.mul_add_mod, Nat.mod_eq_of_lt hr]
    rw [a1, a2]
  | succ n ih =>
    intro q r k hn he hr hq hk
    obtain ⟨k, rfl⟩ : ∃ m, k = m + 1 := ⟨k - 1, by omega⟩
    obtain ⟨hp, hp2⟩ := pow_half n (by omega)
    rw [show 64 - (n + 1) = 63 - n by omega] at hq
    have hh := half N n
    have hbit : lo / 2 ^ n % 2 = N / 2 ^ n % 2 := by
      have e : (18446744073709551616 : Nat) = 2 ^ n * (2 * 2 ^ (63 - n)) := by rw [← hp2, ← Nat.pow_add, show n + (64 - n) = 64 by omega]
      have e2 := Nat.div_add_mod N 18446744073709551616
      rw [hN, e] at e2
      rw [← e2, Nat.mul_assoc, Nat.mul_add_div (Nat.two_pow_pos _), Nat.mul_assoc]
      omega
    obtain ⟨bit, hb⟩ : ∃ bit, bit = N / 2 ^ n % 2 := ⟨_, rfl⟩
    rw [← hb] at hbit hh
    rw [he] at hh
    have hlq : lo / 2 ^ n < 18446744073709551616 := Nat.lt_of_le_of_lt (Nat.div_le_self _ _) hlo
    simp only [varveref01_Div.l0]
    rw [show ((n + 1 : Nat) : Int) - 1 = (n : Int) by omega, if_pos (by omega), wu_in (n := (n : Int)) (by omega) (by omega), if_pos (by omega), shr_nat lo n (by omega), and_one _ hlq, hbit]
    have e2 : (r : Int) / 9223372036854775808 = ((r / 9223372036854775808 : Nat) : Int) := by omega
    have e3 : IntKind.u64.wrap ((r : Int) * 2) = ((r * 2 % 18446744073709551616 : Nat) : Int) := by rw [wu]; omega
    have e4 : wrap64 ((n : Int) - 1) = (n : Int) - 1 := by unfold wrap64; omega
    have e5 : IntKind.u64.wrap ((q : Int) * 2) = ((q * 2 : Nat) : Int) := by rw [wu]; omega
    have e6 : r * 2 % 18446744073709551616 = r % 9223372036854775808 * 2 := by omega
    rw [e2, e3, e4, e5, e6, or_bit (r % 9223372036854775808) bit (by omega) (by omega)]
    have e7 := or_bit q 1 (by omega) (by omega)
    rw [show ((1 : Nat) : Int) = 1 from rfl] at e7
    rw [e7]
    have up : ∀ (r' : Nat), r' < d → 2 * r + bit = d + r' → varveref01_Div.l0 k lo d r' ((q * 2 + 1 : Nat) : Int) ((n : Int) - 1) = some (((N / d : Nat) : Int), ((N % d : Nat) : Int), true) := fun r' h1 h2 =>
      ih (q * 2 + 1) r' k (by omega) (by rw [hh, Nat.add_mul, Nat.mul_add, Nat.mul_assoc, Nat.mul_left_comm q 2 d]; omega) h1 (by omega) (by omega)
    by_cases top : r / 9223372036854775808 = 1
    · rw [if_pos (by omega)]
      have e8 : IntKind.u64.wrap (((r % 9223372036854775808 * 2 + bit : Nat) : Int) - (d : Int)) = ((2 * r + bit - d : Nat) : Int) := by rw [wu]; omega
      rw [e8]
      exact up _ (by omega) (by omega)
    · rw [if_neg (by omega)]
      by_cases ge : r % 9223372036854775808 * 2 + bit ≥ d
      · rw [if_pos (by omega)]
        have e8 : IntKind.u64.wrap (((r % 9223372036854775808 * 2 + bit : Nat) : Int) - (d : Int)) = ((2 * r + bit - d : Nat) : Int) := by rw [wu]; omega
        rw [e8]
        exact up _ (by omega) (by omega)
      · rw [if_neg (by omega)]
        exact ih (q * 2) (r % 9223372036854775808 * 2 + bit) k (by omega) (by rw [hh, Nat.mul_add, Nat.mul_assoc, Nat.mul_left_comm q 2 d]; omega) (by omega) (by omega) (by omega)

theorem refDiv_eq {h l d : Int} (hh : U h) (hl : U l) (hd : U d) (k : Nat) (hk : 66 < k) : varveref01_Div.f k h l d = some (div128 h l d) := by
  unfold varveref01_Div.f div128
  obtain ⟨k, rfl⟩ : ∃ m, k = m + 1 := ⟨k - 1, by omega⟩
  by_cases z : d = 0
  · rw [if_pos z, if_neg (by have := hh.1; omega)]
    simp only [varveref01_Div.j0, if_true]
  · rw [if_neg z]
    simp only [varveref01_Div.j0]
    by_cases c : h < d
    · rw [if_neg (by simp; omega), if_pos c]
      obtain ⟨H, rfl⟩ : ∃ n : Nat, h = n := ⟨h.toNat, by have := hh.1; omega⟩
      obtain ⟨L, rfl⟩ : ∃ n : Nat, l = n := ⟨l.toNat, by have := hl.1; omega⟩
      obtain ⟨D, rfl⟩ : ∃ n : Nat, d = n := ⟨d.toNat, by have := hd.1; omega⟩
      have l1 := hl.2; have d1 := hd.2
      have e := refDiv_l0 (H * 18446744073709551616 + L) L D (by omega) (by omega) (by omega) 64 0 H k (by omega) (by
        have : (2 : Nat) ^ 64 = 18446744073709551616 := by decide
        rw [this]; omega) (by omega) (by decide) (by omega)
      rw [Int.natCast_ediv, Int.natCast_emod, Int.natCast_add, Int.natCast_mul] at e
      exact e
    · rw [if_pos (by simp; omega), if_neg c]

theorem div128_no {h l d : Int} (c : ¬ h < d) : div128 h l d = (0, 0, false) := if_neg c
theorem div128_yes {h l d : Int} (c : h < d) : div128 h l d = ((h * 18446744073709551616 + l) / d, (h * 18446744073709551616 + l) % d, true) := if_pos c
end Go.Proofs.Ytpjchgiemmnikaa.Pure
