/- What math/bits.Div64 computes (the printed function of its Go text): the quotient and the rest of 128 bits by 64. Plain Lean. -/
import Derived.Test.YtlfjfgcalilnpaaDx
import Derived.Laws.Bits64b
namespace Go.Proofs.Ytlfjfgcalilnpaa.D
set_option linter.unusedVariables false
set_option linter.unusedSimpArgs false
open Go.RowKit Go.Proofs.YtlfjfgcalilnpaaW.PrintWords Go.Proofs.YtlfjfgcalilnpaaW.PrintLast Go.Proofs.YtlfjfgcalilnpaaW.PrintMore

theorem wu (n : Int) : IntKind.u64.wrap n = n % 18446744073709551616 := IntKind.wrap_u64 n
theorem wu_in {n : Int} (h0 : 0 ≤ n) (h1 : n < 18446744073709551616) : IntKind.u64.wrap n = n := by rw [wu]; omega

/-- A digit of the school method: what the loop's test says of a guess. -/
theorem guess_le {q r yn1 yn0 u32 u1 y : Int} (hy : y = yn1 * 4294967296 + yn0) (he : q * yn1 + r = u32) (h : q * yn0 ≤ r * 4294967296 + u1) : q * y ≤ u32 * 4294967296 + u1 := by
  have e : q * y = q * yn1 * 4294967296 + q * yn0 := by rw [hy, Int.mul_add, ← Int.mul_assoc]
  omega
theorem guess_gt {q r yn1 yn0 u32 u1 y : Int} (hy : y = yn1 * 4294967296 + yn0) (he : q * yn1 + r = u32) (h : r * 4294967296 + u1 < q * yn0) : u32 * 4294967296 + u1 < q * y := by
  have e : q * y = q * yn1 * 4294967296 + q * yn0 := by rw [hy, Int.mul_add, ← Int.mul_assoc]
  omega
theorem mul_lt32 {q z : Int} (h0 : 0 ≤ q) (h1 : q ≤ 4294967295) (z0 : 0 ≤ z) (z1 : z ≤ 4294967295) : 0 ≤ q * z ∧ q * z ≤ 18446744065119617025 := by
  have a := Int.mul_nonneg h0 z0
  have b : q * z ≤ 4294967295 * 4294967295 := Int.mul_le_mul h1 z1 z0 (by omega)
  exact ⟨a, by omega⟩

structure Digit (y yn1 yn0 u32 u1 : Int) : Prop where
  hy : y = yn1 * 4294967296 + yn0
  lo1 : 2147483648 ≤ yn1
  hi1 : yn1 < 4294967296
  lo0 : 0 ≤ yn0
  hi0 : yn0 < 4294967296
  u0 : 0 ≤ u32
  ul : u32 < y
  d0 : 0 ≤ u1
  d1 : u1 < 4294967296

def dig (y u32 u1 : Int) : Int := (u32 * 4294967296 + u1) / y
theorem Digit.pos {y yn1 yn0 u32 u1 : Int} (D : Digit y yn1 yn0 u32 u1) : 0 < y := by have := D.hy; have := D.lo1; have := D.lo0; omega
theorem Digit.dig0 {y yn1 yn0 u32 u1 : Int} (D : Digit y yn1 yn0 u32 u1) : 0 ≤ dig y u32 u1 := Int.ediv_nonneg (by have := D.u0; have := D.d0; omega) (by have := D.pos; omega)
theorem Digit.dig_lt {y yn1 yn0 u32 u1 : Int} (D : Digit y yn1 yn0 u32 u1) : dig y u32 u1 < 4294967296 :=
  Int.ediv_lt_of_lt_mul D.pos (by have := D.ul; have := D.d1; omega)
theorem Digit.le {y yn1 yn0 u32 u1 q r : Int} (D : Digit y yn1 yn0 u32 u1) (he : q * yn1 + r = u32) (h : q * yn0 ≤ r * 4294967296 + u1) : q ≤ dig y u32 u1 :=
  Int.le_ediv_of_mul_le D.pos (guess_le D.hy he h)
theorem Digit.lt {y yn1 yn0 u32 u1 q r : Int} (D : Digit y yn1 yn0 u32 u1) (he : q * yn1 + r = u32) (h : r * 4294967296 + u1 < q * yn0) : dig y u32 u1 < q :=
  Int.ediv_lt_of_lt_mul D.pos (guess_gt D.hy he h)
/-- The first guess. -/
theorem Digit.first {y yn1 yn0 u32 u1 : Int} (D : Digit y yn1 yn0 u32 u1) :
    dig y u32 u1 ≤ u32 / yn1 ∧ u32 / yn1 ≤ 4294967297 ∧ 0 ≤ u32 % yn1 ∧ u32 % yn1 < 4294967296 ∧ (u32 / yn1) * yn1 + u32 % yn1 = u32 := by
  have p1 : 0 < yn1 := by have := D.lo1; omega
  have e := Int.mul_ediv_add_emod u32 yn1
  rw [Int.mul_comm] at e
  have m0 := Int.emod_nonneg u32 (b := yn1) (by omega)
  have m1 := Int.emod_lt_of_pos u32 p1
  refine ⟨?_, ?_, m0, by have := D.hi1; omega, e⟩
  · refine Int.lt_add_one_iff.mp (Int.ediv_lt_of_lt_mul D.pos ?_)
    -- u32 * 2^32 + u1 < (g + 1) * y
    have a : u32 < (u32 / yn1 + 1) * yn1 := by rw [Int.add_mul]; omega
    have g0 : 0 ≤ u32 / yn1 := Int.ediv_nonneg D.u0 (by omega)
    have b : (u32 / yn1 + 1) * y = (u32 / yn1 + 1) * yn1 * 4294967296 + (u32 / yn1 + 1) * yn0 := by rw [D.hy, Int.mul_add, ← Int.mul_assoc]
    have c : 0 ≤ (u32 / yn1 + 1) * yn0 := Int.mul_nonneg (by omega) D.lo0
    have := D.d1
    omega
  · refine Int.lt_add_one_iff.mp (Int.ediv_lt_of_lt_mul p1 ?_)
    have := D.ul; have := D.hy; have := D.hi0; have := D.lo1
    omega

/-- One guess of the first loop, and the next ones. -/
theorem l0_finds (x2 x8 x9 x10 x11 x13 x14 : Int) (D : Digit x2 x9 x10 x11 x13) (d : Nat) : ∀ (q r : Int) (k : Nat), q * x9 + r = x11 → dig x2 x11 x13 ≤ q → q ≤ 4294967297 → 0 ≤ r → r < 4294967296 →
    q - dig x2 x11 x13 ≤ d → 2 * d + 2 ≤ k → ∃ k', k ≤ k' + (2 * d + 2) ∧ bits_Div64.l0 k x2 x8 x9 x10 x11 x13 x14 q r = bits_Div64.j4 k' x2 x8 x9 x10 x11 x13 x14 (dig x2 x11 x13) := by
  have q0 := D.dig0; have q1 := D.dig_lt; have b1 := D.lo1; have b2 := D.hi1; have b3 := D.lo0; have b4 := D.hi0; have b5 := D.d0; have b6 := D.d1
  induction d with
  | zero =>
    intro q r k he hq hq2 hr0 hr1 hd hk
    obtain rfl : q = dig x2 x11 x13 := by omega
    obtain ⟨k, rfl⟩ : ∃ m, k = m + 2 := ⟨k - 2, by omega⟩
    have hm := mul_lt32 q0 (by omega) b3 (by omega)
    refine ⟨k, by omega, ?_⟩
    have nl : ¬ (r * 4294967296 + x13 < dig x2 x11 x13 * x10) := fun h => absurd (D.lt he h) (by omega)
    simp only [bits_Div64.l0]
    rw [if_neg (by omega), wu_in hm.1 (by omega), wu_in (n := 4294967296 * r) (by omega) (by omega), wu_in (by omega) (by omega), decide_eq_false (by omega)]
    simp only [bits_Div64.j3]
    rw [if_neg (by decide)]
  | succ d ih =>
    intro q r k he hq hq2 hr0 hr1 hd hk
    obtain ⟨k, rfl⟩ : ∃ m, k = m + 2 := ⟨k - 2, by omega⟩
    by_cases hb : dig x2 x11 x13 = q
    · subst hb
      have hm := mul_lt32 q0 (by omega) b3 (by omega)
      refine ⟨k, by omega, ?_⟩
      have nl : ¬ (r * 4294967296 + x13 < dig x2 x11 x13 * x10) := fun h => absurd (D.lt he h) (by omega)
      simp only [bits_Div64.l0]
      rw [if_neg (by omega), wu_in hm.1 (by omega), wu_in (n := 4294967296 * r) (by omega) (by omega), wu_in (by omega) (by omega), decide_eq_false (by omega)]
      simp only [bits_Div64.j3]
      rw [if_neg (by decide)]
    · have he' : (q - 1) * x9 + (r + x9) = x11 := by rw [Int.sub_mul]; omega
      -- the test says: too great
      have step : bits_Div64.l0 (k + 2) x2 x8 x9 x10 x11 x13 x14 q r = if r + x9 ≥ 4294967296 then bits_Div64.j4 k x2 x8 x9 x10 x11 x13 x14 (q - 1) else bits_Div64.l0 k x2 x8 x9 x10 x11 x13 x14 (q - 1) (r + x9) := by
        simp only [bits_Div64.l0]
        by_cases hg : q ≥ 4294967296
        · rw [if_pos hg]
          simp only [bits_Div64.j3, if_true]
          rw [wu_in (n := r + x9) (by omega) (by omega), wu_in (n := q - 1) (by omega) (by omega)]
        · have hm := mul_lt32 (q := q) (by omega) (by omega) b3 (by omega)
          have gt : r * 4294967296 + x13 < q * x10 := by
            refine Int.not_le.mp fun h => ?_
            have := D.le he h
            omega
          rw [if_neg hg, wu_in hm.1 (by omega), wu_in (n := 4294967296 * r) (by omega) (by omega), wu_in (n := 4294967296 * r + x13) (by omega) (by omega), decide_eq_true (by omega)]
          simp only [bits_Div64.j3, if_true]
          rw [wu_in (n := r + x9) (by omega) (by omega), wu_in (n := q - 1) (by omega) (by omega)]
      rw [step]
      by_cases hs : r + x9 ≥ 4294967296
      · rw [if_pos hs]
        refine ⟨k, by omega, ?_⟩
        have lt : (q - 1) * x10 ≤ (r + x9) * 4294967296 + x13 := by
          have : (q - 1) * x10 ≤ 4294967296 * 4294967295 := Int.mul_le_mul (by omega) (by omega) b3 (by omega)
          omega
        have := D.le he' lt
        rw [show q - 1 = dig x2 x11 x13 by omega]
      · rw [if_neg hs]
        obtain ⟨k', h1, h2⟩ := ih (q - 1) (r + x9) k he' (by omega) (by omega) (by omega) (by omega) (by omega) (by omega)
        exact ⟨k', by omega, h2⟩

theorem l1_finds (x2 x8 x9 x10 x14 x15 x17 : Int) (D : Digit x2 x9 x10 x17 x14) (h8 : 0 ≤ x8) (d : Nat) : ∀ (q r : Int) (k : Nat), q * x9 + r = x17 → dig x2 x17 x14 ≤ q → q ≤ 4294967297 → 0 ≤ r → r < 4294967296 →
    q - dig x2 x17 x14 ≤ d → 2 * d + 2 ≤ k → bits_Div64.l1 k x2 x8 x9 x10 x14 x15 r x17 q =
      some (IntKind.u64.wrap ((IntKind.u64.wrap (x15 * 4294967296)) + dig x2 x17 x14), shr .u64 (IntKind.u64.wrap ((IntKind.u64.wrap ((IntKind.u64.wrap (x17 * 4294967296)) + x14)) - (IntKind.u64.wrap (dig x2 x17 x14 * x2)))) x8) := by
  have q0 := D.dig0; have q1 := D.dig_lt; have b1 := D.lo1; have b2 := D.hi1; have b3 := D.lo0; have b4 := D.hi0; have b5 := D.d0; have b6 := D.d1
  induction d with
  | zero =>
    intro q r k he hq hq2 hr0 hr1 hd hk
    obtain rfl : q = dig x2 x17 x14 := by omega
    obtain ⟨k, rfl⟩ : ∃ m, k = m + 2 := ⟨k - 2, by omega⟩
    have hm := mul_lt32 q0 (by omega) b3 (by omega)
    have nl : ¬ (r * 4294967296 + x14 < dig x2 x17 x14 * x10) := fun h => absurd (D.lt he h) (by omega)
    simp only [bits_Div64.l1]
    rw [if_neg (by omega), wu_in hm.1 (by omega), wu_in (n := 4294967296 * r) (by omega) (by omega), wu_in (n := 4294967296 * r + x14) (by omega) (by omega), decide_eq_false (by omega)]
    simp only [bits_Div64.j6]
    rw [if_neg (by decide), if_pos h8]
  | succ d ih =>
    intro q r k he hq hq2 hr0 hr1 hd hk
    obtain ⟨k, rfl⟩ : ∃ m, k = m + 2 := ⟨k - 2, by omega⟩
    by_cases hb : dig x2 x17 x14 = q
    · subst hb
      have hm := mul_lt32 q0 (by omega) b3 (by omega)
      have nl : ¬ (r * 4294967296 + x14 < dig x2 x17 x14 * x10) := fun h => absurd (D.lt he h) (by omega)
      simp only [bits_Div64.l1]
      rw [if_neg (by omega), wu_in hm.1 (by omega), wu_in (n := 4294967296 * r) (by omega) (by omega), wu_in (n := 4294967296 * r + x14) (by omega) (by omega), decide_eq_false (by omega)]
      simp only [bits_Div64.j6]
      rw [if_neg (by decide), if_pos h8]
    · have he' : (q - 1) * x9 + (r + x9) = x17 := by rw [Int.sub_mul]; omega
      have step : bits_Div64.l1 (k + 2) x2 x8 x9 x10 x14 x15 r x17 q = if r + x9 ≥ 4294967296 then some (IntKind.u64.wrap ((IntKind.u64.wrap (x15 * 4294967296)) + (q - 1)), shr .u64 (IntKind.u64.wrap ((IntKind.u64.wrap ((IntKind.u64.wrap (x17 * 4294967296)) + x14)) - (IntKind.u64.wrap ((q - 1) * x2)))) x8) else bits_Div64.l1 k x2 x8 x9 x10 x14 x15 (r + x9) x17 (q - 1) := by
        simp only [bits_Div64.l1]
        by_cases hg : q ≥ 4294967296
        · rw [if_pos hg]
          simp only [bits_Div64.j6, if_true, if_pos h8]
          rw [wu_in (n := r + x9) (by omega) (by omega), wu_in (n := q - 1) (by omega) (by omega)]
        · have hm := mul_lt32 (q := q) (by omega) (by omega) b3 (by omega)
          have gt : r * 4294967296 + x14 < q * x10 := by
            refine Int.not_le.mp fun h => ?_
            have := D.le he h
            omega
          rw [if_neg hg, wu_in hm.1 (by omega), wu_in (n := 4294967296 * r) (by omega) (by omega), wu_in (n := 4294967296 * r + x14) (by omega) (by omega), decide_eq_true (by omega)]
          simp only [bits_Div64.j6, if_true, if_pos h8]
          rw [wu_in (n := r + x9) (by omega) (by omega), wu_in (n := q - 1) (by omega) (by omega)]
      rw [step]
      by_cases hs : r + x9 ≥ 4294967296
      · rw [if_pos hs]
        have lt : (q - 1) * x10 ≤ (r + x9) * 4294967296 + x14 := by
          have : (q - 1) * x10 ≤ 4294967296 * 4294967295 := Int.mul_le_mul (by omega) (by omega) b3 (by omega)
          omega
        have := D.le he' lt
        rw [show q - 1 = dig x2 x17 x14 by omega]
      · rw [if_neg hs]
        exact ih (q - 1) (r + x9) k he' (by omega) (by omega) (by omega) (by omega) (by omega) (by omega)

theorem bitLen_log (y : Nat) (h0 : y ≠ 0) (h : y < 18446744073709551616) : ∃ s : Nat, s ≤ 63 ∧ Lib.bitLen y + s = 64 ∧ 9223372036854775808 ≤ y * 2 ^ s ∧ y * 2 ^ s < 18446744073709551616 := by
  have a : 2 ^ y.log2 ≤ y := Nat.log2_self_le h0
  have b : y < 2 ^ (y.log2 + 1) := Nat.lt_log2_self
  have c : y.log2 < 64 := by
    refine (Nat.pow_lt_pow_iff_right (a := 2) (by decide)).mp ?_
    have : (2 : Nat) ^ 64 = 18446744073709551616 := by decide
    omega
  have e : Lib.bitLen y = y.log2 + Lib.bitLen (y / 2 ^ y.log2) := Lib.bitLen_shift y.log2 y a h
  have one : y / 2 ^ y.log2 = 1 := by
    refine Nat.div_eq_of_lt_le (by omega) ?_
    rw [Nat.pow_succ] at b
    omega
  rw [one, show Lib.bitLen 1 = 1 from rfl] at e
  refine ⟨63 - y.log2, by omega, by omega, ?_, ?_⟩
  · have : 2 ^ y.log2 * 2 ^ (63 - y.log2) ≤ y * 2 ^ (63 - y.log2) := Nat.mul_le_mul_right _ a
    rw [← Nat.pow_add, show y.log2 + (63 - y.log2) = 63 by omega] at this
    simpa using this
  · have : y * 2 ^ (63 - y.log2) < 2 ^ (y.log2 + 1) * 2 ^ (63 - y.log2) := Nat.mul_lt_mul_of_pos_right b (Nat.two_pow_pos _)
    rw [← Nat.pow_add, show y.log2 + 1 + (63 - y.log2) = 64 by omega] at this
    simpa using this

theorem shl_nat (x s : Nat) (hs : s ≤ 64) : shl .u64 (x : Int) (s : Int) = ((x * 2 ^ s % 18446744073709551616 : Nat) : Int) := by
  unfold shl
  rw [wu, Int.toNat_natCast, show min s IntKind.u64.bits = s from Nat.min_eq_left hs, Int.natCast_emod, Int.natCast_mul, Int.natCast_pow]; rfl
theorem shr_nat (x s : Nat) (hs : s ≤ 64) : shr .u64 (x : Int) (s : Int) = ((x / 2 ^ s : Nat) : Int) := by
  unfold shr
  rw [Int.toNat_natCast, show min s IntKind.u64.bits = s from Nat.min_eq_left hs, Int.natCast_ediv, Int.natCast_pow]; rfl
theorem maskN (a : Nat) (ha : a < 18446744073709551616) : bits .and .u64 (a : Int) 4294967295 = ((a % 4294967296 : Nat) : Int) := by
  have h := bits_and_u64_nat a 4294967295 ha (by omega)
  have e : a &&& 4294967295 = a % 4294967296 := Nat.and_two_pow_sub_one_eq_mod a 32
  rw [e] at h
  exact h

/-- What the shift makes of 128 bits. -/
theorem shifted (hi lo y s : Nat) (hs : s ≤ 63) (hlo : lo < 18446744073709551616) (hlt : hi < y) (hY : y * 2 ^ s < 18446744073709551616) :
    hi * 2 ^ s % 18446744073709551616 ||| lo / 2 ^ (64 - s) = hi * 2 ^ s + lo / 2 ^ (64 - s) ∧ hi * 2 ^ s + lo / 2 ^ (64 - s) < y * 2 ^ s ∧
      (hi * 18446744073709551616 + lo) * 2 ^ s = (hi * 2 ^ s + lo / 2 ^ (64 - s)) * 18446744073709551616 + lo * 2 ^ s % 18446744073709551616 := by
  have p64 : (2 : Nat) ^ (64 - s) * 2 ^ s = 18446744073709551616 := by rw [← Nat.pow_add, show 64 - s + s = 64 by omega]
  have ps := Nat.two_pow_pos s
  have q : lo / 2 ^ (64 - s) < 2 ^ s := by
    refine Nat.div_lt_of_lt_mul ?_
    omega
  have m : (hi + 1) * 2 ^ s ≤ y * 2 ^ s := Nat.mul_le_mul_right _ hlt
  rw [Nat.add_mul, Nat.one_mul] at m
  have d : lo * 2 ^ s / 18446744073709551616 = lo / 2 ^ (64 - s) := by
    conv => lhs; rw [← p64]
    exact Nat.mul_div_mul_right _ _ ps
  refine ⟨?_, by omega, ?_⟩
  · rw [Nat.mod_eq_of_lt (by omega), ← Nat.shiftLeft_eq]
    exact (Nat.shiftLeft_add_eq_or_of_lt q hi).symm
  · have e := Nat.div_add_mod (lo * 2 ^ s) 18446744073709551616
    rw [d] at e
    rw [Nat.add_mul, Nat.add_mul, Nat.mul_right_comm]
    omega

/-- The whole of it: the quotient and the rest. -/
theorem div64_nat (hi lo y : Nat) (hlt : hi < y) (hlo : lo < 18446744073709551616) (hy : y < 18446744073709551616) :
    ∃ k, bits_Div64.f k hi lo y = some ((((hi * 18446744073709551616 + lo) / y : Nat) : Int), (((hi * 18446744073709551616 + lo) % y : Nat) : Int)) := by
  by_cases h0 : hi = 0
  · subst h0
    refine ⟨2, ?_⟩
    unfold bits_Div64.f
    rw [if_neg (by omega)]
    simp only [bits_Div64.j0]
    rw [if_neg (by omega)]
    simp only [bits_Div64.j1]
    rw [if_pos (by rfl), if_neg (by omega), wu, Int.tdiv_eq_ediv_of_nonneg (by omega), Int.tmod_eq_emod_of_nonneg (by omega)]
    have : lo / y < 18446744073709551616 := Nat.lt_of_le_of_lt (Nat.div_le_self _ _) hlo
    simp only [Nat.zero_mul, Nat.zero_add]
    have e : ((lo : Int) / (y : Int)) = ((lo / y : Nat) : Int) := by push_cast; rfl
    have e2 : ((lo : Int) % (y : Int)) = ((lo % y : Nat) : Int) := by push_cast; rfl
    rw [e, e2, Int.emod_eq_of_lt (Int.natCast_nonneg _) (by omega)]
  · obtain ⟨s, hs, hL, hY0, hY1⟩ := bitLen_log y (by omega) hy
    obtain ⟨hor, hu, hN⟩ := shifted hi lo y s hs hlo hlt hY1
    have ps := Nat.two_pow_pos s
    obtain ⟨Y, hYe⟩ : ∃ Y, Y = y * 2 ^ s := ⟨_, rfl⟩
    obtain ⟨U, hUe⟩ : ∃ U, U = hi * 2 ^ s + lo / 2 ^ (64 - s) := ⟨_, rfl⟩
    obtain ⟨L, hLe⟩ : ∃ L, L = lo * 2 ^ s % 18446744073709551616 := ⟨_, rfl⟩
    have hL1 : L < 18446744073709551616 := by rw [hLe]; exact Nat.mod_lt _ (by decide)
    rw [← hYe] at hY0 hY1 hu
    rw [← hUe] at hor hu hN
    rw [← hLe] at hN
    -- the first digit
    have D1 : Digit Y (Y / 4294967296 : Nat) (Y % 4294967296 : Nat) U (L / 4294967296 : Nat) := ⟨by omega, by omega, by omega, by omega, by omega, by omega, by omega, by omega, by omega⟩
    obtain ⟨f1, f2, f3, f4, f5⟩ := D1.first
    have q0 := D1.dig0; have q1 := D1.dig_lt
    have posY : (0 : Int) < Y := by omega
    obtain ⟨R1, hR1⟩ : ∃ R1 : Nat, (R1 : Int) = ((U : Int) * 4294967296 + (L / 4294967296 : Nat)) % Y := ⟨(((U : Int) * 4294967296 + (L / 4294967296 : Nat)) % Y).toNat, Int.toNat_of_nonneg (Int.emod_nonneg _ (by omega))⟩
    have hR1lt : (R1 : Int) < Y := by rw [hR1]; exact Int.emod_lt_of_pos _ posY
    have e1 : dig Y U (L / 4294967296 : Nat) * Y + R1 = (U : Int) * 4294967296 + (L / 4294967296 : Nat) := by
      rw [hR1, Int.mul_comm]; exact Int.mul_ediv_add_emod _ _
    -- the second one
    have D2 : Digit Y (Y / 4294967296 : Nat) (Y % 4294967296 : Nat) R1 (L % 4294967296 : Nat) := ⟨by omega, by omega, by omega, by omega, by omega, by omega, by omega, by omega, by omega⟩
    obtain ⟨g1, g2, g3, g4, g5⟩ := D2.first
    have r0 := D2.dig0; have r1 := D2.dig_lt
    obtain ⟨R0, hR0⟩ : ∃ R0 : Nat, (R0 : Int) = ((R1 : Int) * 4294967296 + (L % 4294967296 : Nat)) % Y := ⟨(((R1 : Int) * 4294967296 + (L % 4294967296 : Nat)) % Y).toNat, Int.toNat_of_nonneg (Int.emod_nonneg _ (by omega))⟩
    have hR0lt : (R0 : Int) < Y := by rw [hR0]; exact Int.emod_lt_of_pos _ posY
    have e0 : dig Y R1 (L % 4294967296 : Nat) * Y + R0 = (R1 : Int) * 4294967296 + (L % 4294967296 : Nat) := by
      rw [hR0, Int.mul_comm]; exact Int.mul_ediv_add_emod _ _
    obtain ⟨A, hA⟩ : ∃ A : Nat, dig Y U (L / 4294967296 : Nat) = A := ⟨(dig Y U (L / 4294967296 : Nat)).toNat, (Int.toNat_of_nonneg q0).symm⟩
    obtain ⟨B, hB⟩ : ∃ B : Nat, dig Y R1 (L % 4294967296 : Nat) = B := ⟨(dig Y R1 (L % 4294967296 : Nat)).toNat, (Int.toNat_of_nonneg r0).symm⟩
    -- the rounds
    obtain ⟨d, hd⟩ : ∃ d : Nat, d = 4294967297 := ⟨_, rfl⟩
    obtain ⟨K, hK⟩ : ∃ K : Nat, K = 4 * d + 10 := ⟨_, rfl⟩
    have hdd : (d : Int) = 4294967297 := by omega
    obtain ⟨k1, hk1, hl0⟩ := l0_finds Y s (Y / 4294967296 : Nat) (Y % 4294967296 : Nat) U (L / 4294967296 : Nat) (L % 4294967296 : Nat) D1 d _ _ K f5 f1 f2 f3 f4 (by omega) (by omega)
    have hl1 := l1_finds Y s (Y / 4294967296 : Nat) (Y % 4294967296 : Nat) (L % 4294967296 : Nat) A R1 D2 (by omega) d _ _ (k1 - 1) g5 g1 g2 g3 g4 (by omega) (by omega)
    refine ⟨K + 2, ?_⟩
    unfold bits_Div64.f
    rw [if_neg (by omega)]
    simp only [bits_Div64.j0]
    rw [if_neg (by omega)]
    simp only [bits_Div64.j1]
    rw [if_neg (by omega)]
    unfold bits_LeadingZeros64.f
    rw [if_pos (by omega)]
    simp only [Option.bind_some, Int.toNat_natCast]
    have es : IntKind.u64.wrap (64 - (Lib.bitLen y : Int)) = (s : Int) := by rw [wu]; omega
    have es' : IntKind.u64.wrap (64 - (s : Int)) = ((64 - s : Nat) : Int) := by rw [wu]; omega
    rw [es, es', if_pos (by omega), if_pos (by omega), shl_nat y s (by omega), shl_nat hi s (by omega), shl_nat lo s (by omega), shr_nat lo (64 - s) (by omega), ← hLe, ← hYe, Nat.mod_eq_of_lt hY1, maskN Y hY1, maskN L hL1]
    rw [bits_or_u64_nat _ _ (Nat.mod_lt _ (by decide)) (Nat.lt_of_le_of_lt (Nat.div_le_self _ _) hlo), hor]
    have dv : ∀ n : Nat, (n : Int) / 4294967296 = ((n / 4294967296 : Nat) : Int) := fun n => by omega
    rw [dv, dv, if_neg (by omega)]
    have td : Int.tdiv (U : Int) ((Y / 4294967296 : Nat) : Int) = (U : Int) / ((Y / 4294967296 : Nat) : Int) := Int.tdiv_eq_ediv_of_nonneg (by omega)
    have d0 : 0 ≤ (U : Int) / ((Y / 4294967296 : Nat) : Int) := Int.ediv_nonneg (by omega) (by omega)
    have md : (U : Int) / ((Y / 4294967296 : Nat) : Int) * ((Y / 4294967296 : Nat) : Int) ≤ U := by omega
    have md0 : 0 ≤ (U : Int) / ((Y / 4294967296 : Nat) : Int) * ((Y / 4294967296 : Nat) : Int) := Int.mul_nonneg d0 (by omega)
    rw [td, wu_in d0 (by omega), wu_in md0 (by omega), wu_in (by omega) (by omega)]
    rw [show (U : Int) - (U : Int) / ((Y / 4294967296 : Nat) : Int) * ((Y / 4294967296 : Nat) : Int) = (U : Int) % ((Y / 4294967296 : Nat) : Int) by omega]
    rw [hl0]
    obtain ⟨k2, rfl⟩ : ∃ k2, k1 = k2 + 1 := ⟨k1 - 1, by omega⟩
    rw [Nat.add_sub_cancel] at hl1
    simp only [bits_Div64.j4]
    rw [if_neg (by omega), hA]
    -- what the first digit leaves
    rw [hA] at e1
    have un21 : IntKind.u64.wrap ((IntKind.u64.wrap ((IntKind.u64.wrap ((U : Int) * 4294967296)) + ((L / 4294967296 : Nat) : Int))) - (IntKind.u64.wrap ((A : Int) * (Y : Int)))) = (R1 : Int) := by
      obtain ⟨P, hP⟩ : ∃ P : Int, P = (A : Int) * (Y : Int) := ⟨_, rfl⟩
      rw [← hP] at e1 ⊢
      rw [wu, wu, wu, wu]
      omega
    rw [un21]
    have td2 : Int.tdiv (R1 : Int) ((Y / 4294967296 : Nat) : Int) = (R1 : Int) / ((Y / 4294967296 : Nat) : Int) := Int.tdiv_eq_ediv_of_nonneg (by omega)
    have d02 : 0 ≤ (R1 : Int) / ((Y / 4294967296 : Nat) : Int) := Int.ediv_nonneg (by omega) (by omega)
    have md2 : (R1 : Int) / ((Y / 4294967296 : Nat) : Int) * ((Y / 4294967296 : Nat) : Int) ≤ R1 := by omega
    have md02 : 0 ≤ (R1 : Int) / ((Y / 4294967296 : Nat) : Int) * ((Y / 4294967296 : Nat) : Int) := Int.mul_nonneg d02 (by omega)
    rw [td2, wu_in d02 (by omega), wu_in md02 (by omega), wu_in (by omega) (by omega)]
    rw [show (R1 : Int) - (R1 : Int) / ((Y / 4294967296 : Nat) : Int) * ((Y / 4294967296 : Nat) : Int) = (R1 : Int) % ((Y / 4294967296 : Nat) : Int) by omega]
    rw [hl1, hB]
    rw [hB] at e0
    -- the two digits, and what is left, turned back
    have un0 : IntKind.u64.wrap ((IntKind.u64.wrap ((IntKind.u64.wrap ((R1 : Int) * 4294967296)) + ((L % 4294967296 : Nat) : Int))) - (IntKind.u64.wrap ((B : Int) * (Y : Int)))) = (R0 : Int) := by
      obtain ⟨P, hP⟩ : ∃ P : Int, P = (B : Int) * (Y : Int) := ⟨_, rfl⟩
      rw [← hP] at e0 ⊢
      rw [wu, wu, wu, wu]
      omega
    rw [un0, shr_nat R0 s (by omega)]
    rw [hA] at q1; rw [hB] at r1
    have eq : IntKind.u64.wrap (IntKind.u64.wrap ((A : Int) * 4294967296) + (B : Int)) = ((A * 4294967296 + B : Nat) : Int) := by rw [wu, wu]; omega
    rw [eq]
    have n1 : A * Y + R1 = U * 4294967296 + L / 4294967296 := by
      have : ((A * Y : Nat) : Int) = (A : Int) * Y := Int.natCast_mul _ _
      omega
    have n0 : B * Y + R0 = R1 * 4294967296 + L % 4294967296 := by
      have : ((B * Y : Nat) : Int) = (B : Int) * Y := Int.natCast_mul _ _
      omega
    obtain ⟨qt, hqt⟩ : ∃ qt, qt = A * 4294967296 + B := ⟨_, rfl⟩
    have whole : (hi * 18446744073709551616 + lo) * 2 ^ s = qt * y * 2 ^ s + R0 := by
      rw [hN, Nat.mul_assoc, ← hYe, hqt, Nat.add_mul, Nat.mul_right_comm]
      omega
    have le : qt * y ≤ hi * 18446744073709551616 + lo := by
      refine Nat.le_of_mul_le_mul_right (c := 2 ^ s) ?_ ps
      omega
    obtain ⟨rest, hrest⟩ : ∃ rest, hi * 18446744073709551616 + lo = qt * y + rest := ⟨_, (Nat.add_sub_cancel' le).symm⟩
    have hR : R0 = rest * 2 ^ s := by
      rw [hrest, Nat.add_mul] at whole
      omega
    have rlt : rest < y := by
      refine Nat.lt_of_mul_lt_mul_right (a := 2 ^ s) ?_
      rw [← hR, ← hYe]
      omega
    rw [hrest, hR, Nat.mul_div_cancel _ ps, ← hqt]
    have a1 : (qt * y + rest) / y = qt := by rw [Nat.mul_comm, Nat.mul_add_div (by omega), Nat.div_eq_of_lt rlt, Nat.add_zero]
    have a2 : (qt * y + rest) % y = rest := by rw [Nat.mul_comm, Nat.mul_add_mod, Nat.mod_eq_of_lt rlt]
    rw [a1, a2]

theorem div64_int (a0 a1 a2 : Int) (h0 : 0 ≤ a0) (hlt : a0 < a2) (h1 : 0 ≤ a1) (h2 : a1 < 18446744073709551616) (h3 : a2 < 18446744073709551616) :
    ∃ k, bits_Div64.f k a0 a1 a2 = some ((a0 * 18446744073709551616 + a1) / a2, (a0 * 18446744073709551616 + a1) % a2) := by
  obtain ⟨hi, rfl⟩ : ∃ n : Nat, a0 = n := ⟨a0.toNat, by omega⟩
  obtain ⟨lo, rfl⟩ : ∃ n : Nat, a1 = n := ⟨a1.toNat, by omega⟩
  obtain ⟨y, rfl⟩ : ∃ n : Nat, a2 = n := ⟨a2.toNat, by omega⟩
  obtain ⟨k, hk⟩ := div64_nat hi lo y (by omega) (by omega) (by omega)
  refine ⟨k, ?_⟩
  rw [hk, Int.natCast_ediv, Int.natCast_emod, Int.natCast_add, Int.natCast_mul]
  rfl
end Go.Proofs.Ytlfjfgcalilnpaa.D
