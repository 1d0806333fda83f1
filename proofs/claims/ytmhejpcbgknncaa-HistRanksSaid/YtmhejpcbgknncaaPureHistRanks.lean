/- For every list of buckets and part: the rank of a quantile is at least its part. No condition. -/
import Derived.Test.YtmhejpcbgknncaaWalkHistRanks
namespace Go.Proofs.Ytmhejpcbgknncaa.Pure
open Go.RowKit Go.Proofs.Ytmhejpcbgknncaa.Hi Go.Proofs.Ytmhejpcbgknncaa.Hj Go.Proofs.Ytmhejpcbgknncaa.Hk Go.Proofs.YtmhejpcbgknncaaW.PrintWords Go.Proofs.YtmhejpcbgknncaaW.PrintLast
theorem hsum_psum_of {L : List Int} (hg : hgood L = true) (h : hsum L ≠ 18446744073709551615) : hsum L = psum L := by
  have gg := (hgood_iff _).mp hg
  have hp := hsum_psum _ gg.2
  have hr := hsum_range _ gg.2
  unfold hold at hp
  split at hp
  · exact hp
  · omega
theorem Quantile_zero {s : List Int} (hg : hgood s = true) {a b : Int} (ha : U a) (hb : U b) (h0 : b ≠ 0) (hab : a ≤ b) (hs : hsum s = 18446744073709551615 ∨ hsum s = 0) : ∃ e, e ≠ 0 ∧ hist_Hist_Quantile.f s a b = some (0, e, s) := by
  unfold hist_Hist_Quantile.f
  rw [if_pos ⟨hg, ha, hb⟩, if_neg (by omega)]
  by_cases c : hsum s = 18446744073709551615
  · exact ⟨11, by omega, by rw [if_pos c]⟩
  · exact ⟨3, by omega, by rw [if_neg c, if_pos (by omega)]⟩
theorem HistRanks_j0 (l : List S51) (h : WB l) (hc : chk l = true) (a b : Int) (ha : U a) (hb : U b) (b0 : b ≠ 0) (hab : a ≤ b) (k : Nat) : varvelaw07_HistRanks.j0 (k + 1) l a b false = some true := by
  have hl := h.len
  simp only [varvelaw07_HistRanks.j0]
  rw [if_neg (by simp), Copy_eq l hl, Option.bind_some, From_eq h hc, Option.bind_some]
  have hg := merged_good h hc
  generalize hL : merged (hzero 7424) l = L at *
  have gg := (hgood_iff _).mp hg
  by_cases hs : hsum L = 18446744073709551615 ∨ hsum L = 0
  · obtain ⟨e, e0, q⟩ := Quantile_zero hg ha hb b0 hab hs
    rw [q, Option.bind_some]; dsimp only
    rw [if_neg e0, if_pos rfl, awake_true]; rfl
  · have e := hsum_psum_of hg (by omega)
    obtain ⟨q, _, k1, k2⟩ := Quantile_eq hg ha hb b0 hab (by omega) (by omega)
    have b0' : 0 < b := by have := hb.1; omega
    have hc1 : hist_Hist_Count.f L = some (hsum L, 0, L) := by
      unfold hist_Hist_Count.f
      rw [if_pos hg, if_neg (by omega)]
    obtain ⟨s1, s2, s3⟩ := rankAt_spec gg.1 k2
    have kk : a = b → max 1 (up a (hsum L) b) = hsum L := fun c => by
      subst c; rw [up_all b0']; omega
    generalize max 1 (up a (hsum L) b) = K at *
    generalize rankAt L K = r at *
    rw [q, Option.bind_some]; dsimp only
    rw [if_pos rfl, hc1, Option.bind_some]; dsimp only
    have rl := Rank_low hg e s1
    have bef : lowN r ≠ 0 → ∃ v, hist_Hist_Rank.f L (IntKind.u64.wrap ((lowN r : Int) - 1)) = some (v, L) ∧ v < hsum L := fun c => by
      obtain ⟨j, j1, j2⟩ := Rank_before hg e s1 c
      exact ⟨_, j2, by have := s3 j j1; omega⟩
    by_cases c : a = b
    · rw [if_pos c, rl, Option.bind_some]; dsimp only
      rw [if_pos (by have := kk c; omega), awake_true]
      by_cases d : (lowN r : Int) = 0
      · rw [if_pos d]; rfl
      · obtain ⟨v, v1, v2⟩ := bef (by omega)
        rw [if_neg d, v1, Option.bind_some]; dsimp only
        rw [if_pos v2]; rfl
    · rw [if_neg c, rl, Option.bind_some]; dsimp only
      rw [if_pos (by omega), awake_true]
      by_cases d : (lowN r : Int) = 0
      · rw [if_pos d]; rfl
      · obtain ⟨v, v1, v2⟩ := bef (by omega)
        rw [if_neg d, v1, Option.bind_some]; dsimp only
        rw [if_pos v2]; rfl
theorem HistRanks : varvelaw07_HistRanks.Pure := by
  intro l a b h ha hb
  replace ha := U.of_wf ha; replace hb := U.of_wf hb
  have hl := h.len
  refine ⟨l.length + 2, ?_⟩
  have jt : varvelaw07_HistRanks.j0 (l.length + 2) l a b true = some true := by
    simp only [varvelaw07_HistRanks.j0]; rw [awake_true]; rfl
  unfold varvelaw07_HistRanks.f
  rw [refCheck_eq l hl _ (by omega), Option.bind_some]
  by_cases hk : chk l = true
  · rw [if_pos hk]
    by_cases c2 : b = 0
    · rw [if_pos c2]; exact jt
    · rw [if_neg c2]
      by_cases c3 : a > b
      · rw [decide_eq_true c3]; exact jt
      · rw [decide_eq_false c3]
        exact HistRanks_j0 l h hk a b ha hb c2 (by omega) (l.length + 1)
  · rw [if_neg hk]; exact jt
end Go.Proofs.Ytmhejpcbgknncaa.Pure
