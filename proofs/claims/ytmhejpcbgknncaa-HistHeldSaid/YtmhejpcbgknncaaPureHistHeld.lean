/- For all numbers and counts of 64 bits: what was added twice is counted together, held at the greatest number: then there is no count and no quantile, and the rank of the greatest number is all. No condition. -/
import Derived.Test.YtmhejpcbgknncaaHSum
namespace Go.Proofs.Ytmhejpcbgknncaa.Pure
open Go.RowKit Go.Proofs.Ytmhejpcbgknncaa.Hi Go.Proofs.YtmhejpcbgknncaaW.PrintWords Go.Proofs.YtmhejpcbgknncaaW.PrintLast

theorem HistHeld : varvelaw07_HistHeld.Pure := by
  intro v n w m hv hn hw hm
  replace hv := U.of_wf hv; replace hw := U.of_wf hw; replace hn := U.of_wf hn; replace hm := U.of_wf hm
  obtain ⟨x, rfl⟩ : ∃ x : Nat, v = x := ⟨v.toNat, by have := hv.1; omega⟩
  obtain ⟨y, rfl⟩ : ∃ y : Nat, w = y := ⟨w.toNat, by have := hw.1; omega⟩
  have hx : x < 18446744073709551616 := by have := hv.2; omega
  have hy : y < 18446744073709551616 := by have := hw.2; omega
  have n0 := hn.1; have n1 := hn.2; have m0 := hm.1; have m1 := hm.2
  have g1 := hadd_good hzero_good (bucketN x) n n0
  have g2 := hadd_good g1 (bucketN y) m m0
  have s1 := hsum_hadd hzero_good (bucketN x) (bucketN_lt x hx) n n0
  have s2 := hsum_hadd g1 (bucketN y) (bucketN_lt y hy) m m0
  have hz := hsum_hzero
  unfold varvelaw07_HistHeld.f
  rw [New_eq, Option.bind_some, Hist_Add_eq hzero_good x hx n hn, Option.bind_some, Hist_Add_eq g1 y hy m hm, Option.bind_some]
  have gg := (hgood_iff _).mp g2
  generalize hadd (hadd (hzero 7424) (bucketN x) n) (bucketN y) m = L at *
  have top : bucketN 18446744073709551615 = 7423 := by
    have a : lowN 7423 = 18374686479671623680 := by decide
    have b : (2 : Nat) ^ eN 7423 = 72057594037927936 := by decide
    exact bucket_of (by omega) (by omega) (by omega)
  have hr : hist_Hist_Rank.f L 18446744073709551615 = some (hsum L, L) := by
    unfold hist_Hist_Rank.f
    rw [if_pos ⟨g2, ⟨by omega, by omega⟩⟩]
    have e : (18446744073709551615 : Int).toNat = 18446744073709551615 := by omega
    rw [e, top, List.take_of_length_le (by omega)]
  have hq : hsum L = 18446744073709551615 → hist_Hist_Quantile.f L 1 2 = some (0, 11, L) := fun h => by
    unfold hist_Hist_Quantile.f
    rw [if_pos ⟨g2, ⟨by omega, by omega⟩, ⟨by omega, by omega⟩⟩, if_neg (by omega), if_pos h]
  rw [hz, Int.zero_add] at s1
  rw [s1] at s2
  unfold hist_Hist_Count.f
  rw [if_pos g2, awake_true, IntKind.wrap_u64, IntKind.wrap_u64]
  rw [Option.bind_some]
  dsimp only
  by_cases c : n ≥ (18446744073709551615 - m) % 18446744073709551616
  · have e : hsum L = 18446744073709551615 := by
      rw [s2]; unfold hold; repeat' split
      all_goals omega
    rw [if_pos c, hq e, Option.bind_some]
    dsimp only
    rw [hr, Option.bind_some, e]
    simp
  · have e : hsum L = n + m := by
      rw [s2]; unfold hold; repeat' split
      all_goals omega
    have e2 : (n + m) % 18446744073709551616 = n + m := by omega
    rw [if_neg c, hr, Option.bind_some, e, e2, if_pos rfl, if_neg (by omega : ¬ n + m = 18446744073709551615)]
    simp
end Go.Proofs.Ytmhejpcbgknncaa.Pure
