/- For every number of 64 bits and every int: Bucket, Low and High are the reference's. No condition. -/
import Derived.Test.YtmhejpcbgknncaaHBase
namespace Go.Proofs.Ytmhejpcbgknncaa.Pure
open Go.RowKit Go.Proofs.Ytmhejpcbgknncaa.Hi Go.Proofs.YtmhejpcbgknncaaW.PrintWords Go.Proofs.YtmhejpcbgknncaaW.PrintLast
theorem HistBuckets : varvelaw07_HistBuckets.Pure := by
  intro v at_ hv hat
  replace hv := U.of_wf hv
  obtain ⟨x, rfl⟩ : ∃ x : Nat, v = x := ⟨v.toNat, by have := hv.1; omega⟩
  have hx : x < 18446744073709551616 := by have := hv.2; omega
  refine ⟨100, ?_⟩
  unfold varvelaw07_HistBuckets.f
  rw [Bucket_eq x hx, refBucket_eq x hx 100 (by omega), awake_true]
  by_cases c : 0 ≤ at_ ∧ at_ < 7424
  · obtain ⟨a, rfl⟩ : ∃ a : Nat, at_ = a := ⟨at_.toNat, by omega⟩
    have ha : a < 7424 := by omega
    rw [low_eq a ha, high_eq a ha, refLow_eq a ha 100 (by omega), refHigh_eq a ha 100 (by omega)]
    simp
  · rw [low_out at_ c, high_out at_ c, refLow_out at_ c 100 (by omega), refHigh_out at_ c 100 (by omega)]
    simp
end Go.Proofs.Ytmhejpcbgknncaa.Pure
