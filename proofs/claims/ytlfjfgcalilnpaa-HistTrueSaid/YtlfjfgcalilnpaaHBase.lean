/- Buckets of numbers, and counts, as plain numbers and lists. Plain Lean, no program in sight. -/
import Derived.Test.YtlfjfgcalilnpaaHix
import Derived.DataShut
import Derived.KernelRfl
namespace Go.Proofs.Ytlfjfgcalilnpaa.Pure
set_option linter.unusedVariables false
set_option linter.unusedSimpArgs false
open Go.RowKit Go.Proofs.Ytlfjfgcalilnpaa.Hi Go.Proofs.YtlfjfgcalilnpaaW.PrintWords Go.Proofs.YtlfjfgcalilnpaaW.PrintLast Go.Proofs.YtlfjfgcalilnpaaW.PrintMore

set_option maxRecDepth 100000 in
theorem awake_true : varvelaw07_awake.f = some true := by kernel_rfl

theorem w64 {n : Int} (h0 : -9223372036854775808 ≤ n) (h1 : n < 9223372036854775808) : wrap64 n = n := by unfold wrap64; omega

/-! ### Buckets -/
def eN (at_ : Nat) : Nat := if at_ < 256 then 0 else at_ / 128 - 1
def mN (at_ : Nat) : Nat := if at_ < 256 then at_ else at_ - 128 * (at_ / 128 - 1)
def lowN (at_ : Nat) : Nat := mN at_ * 2 ^ eN at_
theorem eN_le {at_ : Nat} (h : at_ < 7424) : eN at_ ≤ 56 := by unfold eN; split <;> omega
theorem mN_lt {at_ : Nat} : mN at_ < 256 := by unfold mN; split <;> omega
theorem pow_le56 {e : Nat} (h : e ≤ 56) : 2 ^ e ≤ 72057594037927936 := by
  have := Nat.pow_le_pow_right (n := 2) (by decide) h
  simpa using this
theorem lowN_top {at_ : Nat} (h : at_ < 7424) : lowN at_ + 2 ^ eN at_ ≤ 18446744073709551616 := by
  have a : (mN at_ + 1) * 2 ^ eN at_ ≤ 256 * 72057594037927936 := Nat.mul_le_mul (mN_lt) (pow_le56 (eN_le h))
  rw [Nat.add_mul, Nat.one_mul] at a
  unfold lowN; omega
theorem lowN_lt {at_ : Nat} (h : at_ < 7424) : lowN at_ < 18446744073709551616 := by
  have := lowN_top h; have := Nat.two_pow_pos (eN at_); omega
theorem lowN_succ {at_ : Nat} : lowN (at_ + 1) = lowN at_ + 2 ^ eN at_ := by
  unfold lowN
  by_cases h : at_ < 255
  · have e1 : eN (at_ + 1) = 0 := if_pos (by omega)
    have e2 : eN at_ = 0 := if_pos (by omega)
    have m1 : mN (at_ + 1) = at_ + 1 := if_pos (by omega)
    have m2 : mN at_ = at_ := if_pos (by omega)
    rw [e1, e2, m1, m2]; omega
  · by_cases h2 : at_ = 255
    · subst h2; decide
    · have e2 : eN at_ = at_ / 128 - 1 := if_neg (by omega)
      have m2 : mN at_ = at_ - 128 * (at_ / 128 - 1) := if_neg (by omega)
      have e1 : eN (at_ + 1) = (at_ + 1) / 128 - 1 := if_neg (by omega)
      have m1 : mN (at_ + 1) = at_ + 1 - 128 * ((at_ + 1) / 128 - 1) := if_neg (by omega)
      by_cases c : (at_ + 1) / 128 = at_ / 128
      · rw [e1, e2, m1, m2, c, show at_ + 1 - 128 * (at_ / 128 - 1) = (at_ - 128 * (at_ / 128 - 1)) + 1 by omega, Nat.add_mul, Nat.one_mul]
      · rw [e1, e2, m1, m2, show (at_ + 1) / 128 - 1 = (at_ / 128 - 1) + 1 by omega, show at_ + 1 - 128 * (at_ / 128 - 1 + 1) = 128 by omega, show at_ - 128 * (at_ / 128 - 1) = 255 by omega, Nat.pow_succ]
        omega
theorem lowN_mono {a b : Nat} (h : a ≤ b) : lowN a ≤ lowN b := by
  induction b with
  | zero => rw [show a = 0 by omega]; exact Nat.le_refl _
  | succ b ih =>
    rw [lowN_succ]
    by_cases c : a = b + 1
    · rw [c, lowN_succ]; exact Nat.le_refl _
    · have := ih (by omega)
      exact Nat.le_trans this (Nat.le_add_right _ _)
theorem bucket_in (v : Nat) (hv : v < 18446744073709551616) : lowN (bucketN v) ≤ v ∧ v < lowN (bucketN v) + 2 ^ eN (bucketN v) := by
  by_cases h : v < 256
  · have e : bucketN v = v := if_pos h
    rw [e]
    have e1 : eN v = 0 := if_pos h
    have m1 : mN v = v := if_pos h
    unfold lowN; rw [e1, m1]; omega
  · obtain ⟨e, h1, h2, h3, h4, h5, h6, h7⟩ := bitLen_bounds v (by omega) hv
    have eb : bucketN v = 128 * e + v / 2 ^ e := by unfold bucketN; rw [if_neg h, h1, Nat.add_sub_cancel]
    rw [eb]
    have e1 : eN (128 * e + v / 2 ^ e) = e := by unfold eN; rw [if_neg (by omega)]; omega
    have m1 : mN (128 * e + v / 2 ^ e) = v / 2 ^ e := by unfold mN; rw [if_neg (by omega)]; omega
    unfold lowN
    rw [e1, m1]
    have d := Nat.div_add_mod v (2 ^ e)
    have m := Nat.mod_lt v (Nat.two_pow_pos e)
    rw [Nat.mul_comm] at d
    omega
theorem bucket_of {v at_ : Nat} (hv : v < 18446744073709551616) (h1 : lowN at_ ≤ v) (h2 : v < lowN at_ + 2 ^ eN at_) : bucketN v = at_ := by
  obtain ⟨b1, b2⟩ := bucket_in v hv
  rw [← lowN_succ] at b2 h2
  rcases Nat.lt_trichotomy (bucketN v) at_ with c | c | c
  · have := lowN_mono (a := bucketN v + 1) (b := at_) c; omega
  · exact c
  · have := lowN_mono (a := at_ + 1) (b := bucketN v) c; omega
theorem bucket_mono {v w : Nat} (hw : w < 18446744073709551616) (h : v ≤ w) : bucketN v ≤ bucketN w := by
  refine Nat.le_of_not_lt fun c => ?_
  obtain ⟨a1, a2⟩ := bucket_in v (by omega)
  obtain ⟨b1, b2⟩ := bucket_in w hw
  rw [← lowN_succ] at b2
  have := lowN_mono (a := bucketN w + 1) (b := bucketN v) c
  omega
theorem low_near (v : Nat) (hv : v < 18446744073709551616) : v - lowN (bucketN v) ≤ v / 128 := by
  by_cases h : v < 256
  · have e : bucketN v = v := if_pos h
    have e1 : eN v = 0 := if_pos h
    have m1 : mN v = v := if_pos h
    rw [e]; unfold lowN; rw [e1, m1]; omega
  · obtain ⟨b1, b2⟩ := bucket_in v hv
    obtain ⟨e, h1, h2, h3, h4, h5, h6, h7⟩ := bitLen_bounds v (by omega) hv
    have eb : bucketN v = 128 * e + v / 2 ^ e := by unfold bucketN; rw [if_neg h, h1, Nat.add_sub_cancel]
    have e1 : eN (bucketN v) = e := by rw [eb]; unfold eN; rw [if_neg (by omega)]; omega
    rw [e1] at b2
    rw [Nat.pow_add] at h6
    omega

theorem shape_eq (at_ : Nat) (h : at_ < 7424) : hist_shape.f (at_ : Int) = some ((mN at_ : Int), (eN at_ : Int)) := by
  unfold hist_shape.f mN eN
  by_cases c : at_ < 256
  · rw [if_pos (by omega), if_pos c, if_pos c, IntKind.wrap_u64, Int.emod_eq_of_lt (by omega) (by omega)]; rfl
  · have t : Int.tdiv (at_ : Int) 128 = ((at_ / 128 : Nat) : Int) := by rw [Int.tdiv_eq_ediv_of_nonneg (by omega)]; omega
    rw [if_neg (by omega), if_neg c, if_neg c, t, w64 (n := ((at_ / 128 : Nat) : Int)) (by omega) (by omega), w64 (n := ((at_ / 128 : Nat) : Int) - 1) (by omega) (by omega), w64 (n := 128 * (((at_ / 128 : Nat) : Int) - 1)) (by omega) (by omega), w64 (by omega) (by omega), IntKind.wrap_u64]
    congr 2 <;> omega
theorem shl_at (m e : Nat) (hm : m * 2 ^ e < 18446744073709551616) (he : e ≤ 56) : shl .u64 (m : Int) (e : Int) = ((m * 2 ^ e : Nat) : Int) := by
  rw [D.shl_nat m e (by omega), Nat.mod_eq_of_lt hm]
theorem low_eq (at_ : Nat) (h : at_ < 7424) : hist_Low.f (at_ : Int) = some ((lowN at_ : Int), true) := by
  unfold hist_Low.f
  rw [if_neg (by omega), if_neg (by omega), shape_eq at_ h]
  simp only [Option.bind_some]
  rw [if_pos (by omega), shl_at _ _ (lowN_lt h) (eN_le h)]; rfl
theorem low_out (at_ : Int) (h : ¬ (0 ≤ at_ ∧ at_ < 7424)) : hist_Low.f at_ = some (0, false) := by
  unfold hist_Low.f
  by_cases c : at_ < 0
  · rw [if_pos c]
  · rw [if_neg c, if_pos (by omega)]
def highN (at_ : Nat) : Nat := lowN at_ + (2 ^ eN at_ - 1)
theorem highN_lt {at_ : Nat} (h : at_ < 7424) : highN at_ < 18446744073709551616 := by
  have := lowN_top h; have := Nat.two_pow_pos (eN at_); unfold highN; omega
theorem high_eq (at_ : Nat) (h : at_ < 7424) : hist_High.f (at_ : Int) = some ((highN at_ : Int), true) := by
  unfold hist_High.f
  rw [low_eq at_ h]
  simp only [Option.bind_some, if_true]
  rw [shape_eq at_ h]
  simp only [Option.bind_some]
  have hp := pow_le56 (eN_le h)
  have h1 := shl_at 1 (eN at_) (by omega) (eN_le h)
  rw [Nat.one_mul, show ((1 : Nat) : Int) = 1 from rfl] at h1
  have hh := highN_lt h
  unfold highN at *
  have p0 := Nat.two_pow_pos (eN at_)
  rw [if_pos (by omega), h1, IntKind.wrap_u64, IntKind.wrap_u64]
  congr 2
  generalize 2 ^ eN at_ = P at *
  omega
theorem high_out (at_ : Int) (h : ¬ (0 ≤ at_ ∧ at_ < 7424)) : hist_High.f at_ = some (0, false) := by
  unfold hist_High.f
  rw [low_out at_ h]
  simp
theorem bucket_half (v : Nat) (h : 256 ≤ v) (hv : v < 18446744073709551616) : bucketN v = 128 + bucketN (v / 2) := by
  have hb := Lib.bitLen_half v (by omega) hv
  unfold bucketN
  rw [if_neg (by omega)]
  obtain ⟨e, h1, h2, h3, h4, h5, h6, h7⟩ := bitLen_bounds v h hv
  rw [h1] at hb ⊢
  by_cases c : v / 2 < 256
  · have e1 : e = 1 := by
      have : 2 ^ (e + 7) < 2 ^ 9 := by have : (2 : Nat) ^ 9 = 512 := rfl
                                       omega
      have := (Nat.pow_lt_pow_iff_right (a := 2) (by decide)).mp this
      omega
    rw [if_pos c, e1]
  · rw [if_neg c, show Lib.bitLen (v / 2) = (e - 1) + 8 by omega, Nat.add_sub_cancel, Nat.add_sub_cancel]
    have : v / 2 ^ e = v / 2 / 2 ^ (e - 1) := by
      rw [Nat.div_div_eq_div_mul]
      congr 1
      rw [show e = (e - 1) + 1 by omega, Nat.pow_succ, Nat.add_sub_cancel]; omega
    omega
theorem refBucket_l0 : ∀ (d v e k : Nat), v < 2 ^ d → v < 18446744073709551616 → e + d ≤ 200 → d < k → varveref07_Bucket.l0 k (v : Int) (e : Int) = some ((128 * e + bucketN v : Nat) : Int) := by
  intro d
  induction d with
  | zero =>
    intro v e k h hv _ hk
    obtain ⟨k, rfl⟩ : ∃ m, k = m + 1 := ⟨k - 1, by omega⟩
    have h0 : v = 0 := by simpa using h
    subst h0
    simp only [varveref07_Bucket.l0]
    rw [if_neg (by omega), w64 (n := 128 * (e : Int)) (by omega) (by omega), w64 (n := ((0 : Nat) : Int)) (by omega) (by omega), w64 (by omega) (by omega)]
    have : bucketN 0 = 0 := rfl
    rw [this]; congr 1
  | succ d ih =>
    intro v e k h hv he hk
    obtain ⟨k, rfl⟩ : ∃ m, k = m + 1 := ⟨k - 1, by omega⟩
    simp only [varveref07_Bucket.l0]
    by_cases c : 256 ≤ v
    · rw [if_pos (by omega), w64 (n := (e : Int) + 1) (by omega) (by omega)]
      have := ih (v / 2) (e + 1) k (by rw [Nat.pow_succ] at h; omega) (by omega) (by omega) (by omega)
      rw [show (v : Int) / 2 = ((v / 2 : Nat) : Int) by omega, show (e : Int) + 1 = ((e + 1 : Nat) : Int) by omega, this, bucket_half v c hv]
      congr 2; omega
    · have hb : bucketN v = v := if_pos (by omega)
      rw [if_neg (by omega), w64 (n := 128 * (e : Int)) (by omega) (by omega), w64 (n := (v : Int)) (by omega) (by omega), w64 (by omega) (by omega), hb]
      congr 1
theorem refBucket_eq (v : Nat) (hv : v < 18446744073709551616) (k : Nat) (hk : 64 < k) : varveref07_Bucket.f k (v : Int) = some (bucketN v : Int) := by
  unfold varveref07_Bucket.f
  have := refBucket_l0 64 v 0 k (by simpa using hv) hv (by omega) hk
  rw [Nat.mul_zero, Nat.zero_add] at this
  exact this
theorem Bucket_eq (v : Nat) (hv : v < 18446744073709551616) : hist_Bucket.f (v : Int) = some (bucketN v : Int) := by
  unfold hist_Bucket.f
  rw [if_pos (by omega), Int.toNat_natCast]

end Go.Proofs.Ytlfjfgcalilnpaa.Pure

namespace Go.Proofs.Ytlfjfgcalilnpaa.Pure
set_option linter.unusedVariables false
set_option linter.unusedSimpArgs false
open Go.RowKit Go.Proofs.Ytlfjfgcalilnpaa.Hi

theorem psum_foldl (l : List Int) (s : Int) : l.foldl (· + ·) s = s + psum l := by
  induction l generalizing s with
  | nil => simp [psum]
  | cons x l ih => have a := ih (s + x); have b := ih (0 + x); simp only [psum, List.foldl_cons] at *; omega
theorem psum_cons (x : Int) (l : List Int) : psum (x :: l) = x + psum l := by
  have := psum_foldl l (0 + x)
  simp only [psum, List.foldl_cons] at *
  omega
theorem psum_append (a b : List Int) : psum (a ++ b) = psum a + psum b := by
  rw [psum, List.foldl_append, psum_foldl]; rfl
theorem psum_set (l : List Int) (i : Nat) (x : Int) (h : i < l.length) : psum (l.set i x) = psum l - l.getD i 0 + x := by
  induction l generalizing i with
  | nil => simp at h
  | cons y l ih =>
    cases i with
    | zero => rw [List.set_cons_zero, psum_cons, psum_cons]; simp; omega
    | succ i =>
      rw [List.set_cons_succ, psum_cons, psum_cons, ih i (by simpa using h)]
      simp; omega
theorem psum_hzero (n : Nat) : psum (hzero n) = 0 := by
  induction n with
  | zero => rfl
  | succ n ih => unfold hzero at *; rw [List.replicate_succ, psum_cons, ih]; rfl
theorem psum_ge (l : List Int) (h : Cnt l) (i : Nat) (hi : i < l.length) : l.getD i 0 ≤ psum l := by
  induction l generalizing i with
  | nil => simp at hi
  | cons y l ih =>
    have hy := h y (by simp)
    have hl : Cnt l := fun x hx => h x (by simp [hx])
    have hp := psum_nonneg l hl
    rw [psum_cons]
    cases i with
    | zero => simp; omega
    | succ i => have := ih hl i (by simpa using hi); simp at *; omega
theorem getD_range {l : List Int} (h : Cnt l) (i : Nat) : 0 ≤ l.getD i 0 ∧ l.getD i 0 < 18446744073709551616 := by
  by_cases c : i < l.length
  · exact h _ (List.mem_of_getElem? (getD_get c))
  · rw [List.getD, List.getElem?_eq_none (by omega)]; simp
theorem hsum_hadd {l : List Int} (h : hgood l = true) (i : Nat) (hi : i < 7424) (n : Int) (n0 : 0 ≤ n) : hsum (hadd l i n) = hold (hsum l + n) := by
  have g := (hgood_iff _).mp h
  have g2 := (hgood_iff _).mp (hadd_good h i n n0)
  rw [hsum_psum _ g2.2, hsum_psum _ g.2]
  have e : psum (hadd l i n) = psum l - l.getD i 0 + hold (l.getD i 0 + n) := psum_set l i _ (by omega)
  rw [e]
  have a := psum_ge l g.2 i (by omega)
  have b := getD_range g.2 i
  generalize l.getD i 0 = y at *
  generalize psum l = s at *
  unfold hold
  repeat' split
  all_goals omega
theorem hsum_hzero : hsum (hzero 7424) = 0 := by
  rw [hsum_psum _ ((hgood_iff _).mp hzero_good).2, psum_hzero]; rfl
theorem New_eq : hist_New.f = some (hzero 7424) := by unfold hist_New.f; exact Eq.refl _
theorem Hist_Add_eq {l : List Int} (h : hgood l = true) (v : Nat) (hv : v < 18446744073709551616) (n : Int) (hn : U n) : hist_Hist_Add.f l (v : Int) n = some (hadd l (bucketN v) n) := by
  unfold hist_Hist_Add.f
  rw [if_pos ⟨h, ⟨by omega, by omega⟩, hn⟩, Int.toNat_natCast]
end Go.Proofs.Ytlfjfgcalilnpaa.Pure
