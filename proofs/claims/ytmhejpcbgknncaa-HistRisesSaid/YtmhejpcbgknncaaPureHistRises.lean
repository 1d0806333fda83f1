/- For every list of buckets and parts: a greater part of the numbers never ends at a lower one, and all of them end at the last bucket. No condition. -/
import Derived.Test.YtmhejpcbgknncaaWalkHistRises
namespace Go.Proofs.Ytmhejpcbgknncaa.Pure
open Go.RowKit Go.Proofs.Ytmhejpcbgknncaa.Hi Go.Proofs.Ytmhejpcbgknncaa.Hj Go.Proofs.Ytmhejpcbgknncaa.Hk Go.Proofs.YtmhejpcbgknncaaW.PrintWords Go.Proofs.YtmhejpcbgknncaaW.PrintLast
theorem hsum_bool {L : List Int} (hg : hgood L = true) (h : hsum L ≠ 18446744073709551615) : hsum L = psum L := by
  have gg := (hgood_iff _).mp hg
  have hp := hsum_psum _ gg.2
  have hr := hsum_range _ gg.2
  unfold hold at hp
  split at hp
  · exact hp
  · omega
theorem Quantile_held {s : List Int} (hg : hgood s = true) {a b : Int} (ha : U a) (hb : U b) (h0 : b ≠ 0) (hab : a ≤ b) (hs : hsum s = 18446744073709551615) : hist_Hist_Quantile.f s a b = some (0, 11, s) := by
  unfold hist_Hist_Quantile.f
  rw [if_pos ⟨hg, ha, hb⟩, if_neg (by omega), if_pos hs]
theorem HistRises_j0 (l : List S51) (h : WB l) (hc : chk l = true) (hne : l.length ≠ 0) (a b c : Int) (ha : U a) (hb : U b) (hcc : U c) (c0 : c ≠ 0) (hab : a ≤ b) (hbc : b ≤ c) (k : Nat) : varvelaw07_HistRises.j0 (k + 1) l a b c false = some true := by
  have hl := h.len
  simp only [varvelaw07_HistRises.j0]
  rw [if_neg (by simp), Copy_eq l hl, Option.bind_some, From_eq h hc, Option.bind_some]
  obtain ⟨⟨f0, f1, f2⟩, ⟨e0, e1, e2⟩, hp⟩ := merged_ends h hc hne
  have hg := merged_good h hc
  generalize hL : merged (hzero 7424) l = L at *
  have gg := (hgood_iff _).mp hg
  by_cases hs : hsum L = 18446744073709551615
  · rw [Quantile_held hg ha hcc c0 (by omega) hs, Option.bind_some, Quantile_held hg hb hcc c0 (by omega) hs, Option.bind_some, Quantile_held hg hcc hcc c0 (by omega) hs, Option.bind_some, awake_true]
    simp
  · have e := hsum_bool hg hs
    have hz : hsum L ≠ 0 := by omega
    obtain ⟨qa, _, a1, a2⟩ := Quantile_eq hg ha hcc c0 (by omega) hs hz
    obtain ⟨qb, _, b1, b2⟩ := Quantile_eq hg hb hcc c0 hbc hs hz
    obtain ⟨qc, _, c1, c2⟩ := Quantile_eq hg hcc hcc c0 (Int.le_refl _) hs hz
    obtain ⟨q0, _, z1, z2⟩ := Quantile_eq (a := 0) hg ⟨by omega, by omega⟩ hcc c0 hcc.1 hs hz
    have c0' : 0 < c := by have := hcc.1; omega
    have hs0 : 0 ≤ hsum L := by omega
    have uc : up c (hsum L) c = hsum L := up_all c0'
    have uz : up 0 (hsum L) c = 0 := up_none
    have m1 := up_mono (n := hsum L) hs0 c0' hab
    have m2 := up_mono (n := hsum L) hs0 c0' hbc
    have r1 : rankAt L (max 1 (up a (hsum L) c)) ≤ rankAt L (max 1 (up b (hsum L) c)) := rankAt_mono gg.1 (by omega) b2
    have r2 : rankAt L (max 1 (up b (hsum L) c)) ≤ rankAt L (max 1 (up c (hsum L) c)) := rankAt_mono gg.1 (by omega) c2
    have r3 : max 1 (up c (hsum L) c) = psum L := by omega
    have r4 : max 1 (up 0 (hsum L) c) = 1 := by omega
    have l1 := lowN_mono r1
    have l2 := lowN_mono r2
    rw [qa, Option.bind_some]; dsimp only
    rw [qb, Option.bind_some]; dsimp only
    rw [qc, Option.bind_some]; dsimp only
    rw [q0, if_neg (by omega), w64 (n := (l.length : Int) - 1) (by omega) (by omega), if_pos (by omega), if_pos (by omega)]
    have le : hist_Low.f (rd_T51 l ((l.length : Int) - 1)).f0 = some ((lowN ((rd_T51 l ((l.length : Int) - 1)).f0).toNat : Int), true) := by
      have := low_eq ((rd_T51 l ((l.length : Int) - 1)).f0).toNat (by omega)
      rwa [Int.toNat_of_nonneg e0] at this
    have lf : hist_Low.f (rd_T51 l 0).f0 = some ((lowN ((rd_T51 l 0).f0).toNat : Int), true) := by
      have := low_eq ((rd_T51 l 0).f0).toNat (by omega)
      rwa [Int.toNat_of_nonneg f0] at this
    rw [le, Option.bind_some, if_pos (by omega), lf, Option.bind_some, Option.bind_some, if_pos rfl, if_pos rfl, if_pos rfl, awake_true]
    dsimp only
    rw [r3] at l2 ⊢
    rw [r4]
    rw [if_pos (by omega), if_pos (by omega), if_pos (by rw [e2]), if_pos (by rw [f2]), Option.bind_some]
theorem HistRises : varvelaw07_HistRises.Pure := by
  intro l a b c h ha hb hc
  replace ha := U.of_wf ha; replace hb := U.of_wf hb; replace hc := U.of_wf hc
  have hl := h.len
  refine ⟨l.length + 2, ?_⟩
  have jt : varvelaw07_HistRises.j0 (l.length + 2) l a b c true = some true := by
    simp only [varvelaw07_HistRises.j0]; rw [awake_true]; rfl
  unfold varvelaw07_HistRises.f
  rw [refCheck_eq l hl _ (by omega), Option.bind_some]
  by_cases hk : chk l = true
  · rw [if_pos hk]
    by_cases c1 : (l.length : Int) = 0
    · rw [if_pos c1]; exact jt
    · rw [if_neg c1]
      by_cases c2 : c = 0
      · rw [if_pos c2]; exact jt
      · rw [if_neg c2]
        by_cases c3 : a > b
        · rw [if_pos c3]; exact jt
        · rw [if_neg c3]
          by_cases c4 : b > c
          · rw [decide_eq_true c4]; exact jt
          · rw [decide_eq_false c4]
            exact HistRises_j0 l h hk (by omega) a b c ha hb hc c2 (by omega) (by omega) (l.length + 1)
  · rw [if_neg hk]; exact jt
end Go.Proofs.Ytmhejpcbgknncaa.Pure
