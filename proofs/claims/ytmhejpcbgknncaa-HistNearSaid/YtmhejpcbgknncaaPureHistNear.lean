/- For all numbers v, w of 64 bits: v lies between its bucket's ends, no more than a 128th of it above the lower one; both ends are in the bucket; buckets rise with numbers, and each begins behind the one before. No condition. -/
import Derived.Test.YtmhejpcbgknncaaHBase
namespace Go.Proofs.Ytmhejpcbgknncaa.Pure
open Go.RowKit Go.Proofs.Ytmhejpcbgknncaa.Hi Go.Proofs.YtmhejpcbgknncaaW.PrintWords Go.Proofs.YtmhejpcbgknncaaW.PrintLast
theorem HistNear : varvelaw07_HistNear.Pure := by
  intro v w hv hw
  replace hv := U.of_wf hv; replace hw := U.of_wf hw
  obtain ⟨x, rfl⟩ : ∃ x : Nat, v = x := ⟨v.toNat, by have := hv.1; omega⟩
  obtain ⟨y, rfl⟩ : ∃ y : Nat, w = y := ⟨w.toNat, by have := hw.1; omega⟩
  have hx : x < 18446744073709551616 := by have := hv.2; omega
  have hy : y < 18446744073709551616 := by have := hw.2; omega
  have hat := bucketN_lt x hx
  obtain ⟨b1, b2⟩ := bucket_in x hx
  have hn := low_near x hx
  have hmon := bucket_mono (v := x) (w := y) hy
  have hl := lowN_lt hat
  have hh := highN_lt hat
  have p0 := Nat.two_pow_pos (eN (bucketN x))
  have bl : bucketN (lowN (bucketN x)) = bucketN x := bucket_of hl (Nat.le_refl _) (by omega)
  have bh : bucketN (highN (bucketN x)) = bucketN x := bucket_of hh (by unfold highN; omega) (by unfold highN; omega)
  have hs : lowN (bucketN x + 1) = highN (bucketN x) + 1 := by rw [lowN_succ]; unfold highN; omega
  have hb : x ≤ highN (bucketN x) := by unfold highN; omega
  refine ⟨2, ?_⟩
  unfold varvelaw07_HistNear.f
  rw [Bucket_eq x hx]
  simp only [Option.bind_some]
  rw [low_eq _ hat, high_eq _ hat]
  simp only [Option.bind_some, if_true]
  rw [Bucket_eq _ hl, Bucket_eq _ hh, bl, bh]
  simp only [Option.bind_some, if_true]
  have t : Int.tdiv (x : Int) 128 = ((x / 128 : Nat) : Int) := by rw [Int.tdiv_eq_ediv_of_nonneg (by omega)]; omega
  rw [if_neg (by omega), if_neg (by omega), if_neg (by omega), if_neg (by omega), t, IntKind.wrap_u64, IntKind.wrap_u64, if_neg (by omega)]
  simp only [bne_self_eq_false, varvelaw07_HistNear.j0, Bool.false_eq_true, if_false]
  have tail : varvelaw07_HistNear.j1 1 ((bucketN x : Nat) : Int) ((highN (bucketN x) : Nat) : Int) false = some true := by
    simp only [varvelaw07_HistNear.j1, Bool.false_eq_true, if_false]
    rw [w64 (n := ((bucketN x : Nat) : Int) + 1) (by omega) (by omega), awake_true]
    by_cases c : bucketN x + 1 < 7424
    · rw [if_pos (by omega), show ((bucketN x : Nat) : Int) + 1 = ((bucketN x + 1 : Nat) : Int) by omega, low_eq _ c]
      simp only [Option.bind_some]
      have := lowN_lt c
      rw [if_pos (by rw [IntKind.wrap_u64]; omega)]
    · have e : bucketN x = 7423 := by omega
      have : highN 7423 = 18446744073709551615 := by decide
      rw [if_neg (by omega), e, this, if_pos (by rfl)]; rfl
  by_cases c : x ≤ y
  · have := hmon c
    rw [if_pos (by omega), Bucket_eq y hy]
    simp only [Option.bind_some]
    rw [decide_eq_false (by omega)]
    exact tail
  · rw [if_neg (by omega)]
    exact tail
end Go.Proofs.Ytmhejpcbgknncaa.Pure
