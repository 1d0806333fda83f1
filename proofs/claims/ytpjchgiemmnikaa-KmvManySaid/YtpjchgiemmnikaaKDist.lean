/- What both Distincts tell of a list. Plain. -/
import Derived.Test.YtpjchgiemmnikaaKBaseDiv
namespace Go.Proofs.Ytpjchgiemmnikaa
set_option linter.unusedVariables false
set_option linter.unusedSimpArgs false
open Go.RowKit Go.Maps Go.Proofs.YtpjchgiemmnikaaW.PrintWords Go.Proofs.YtpjchgiemmnikaaW.PrintLast Go.Proofs.YtpjchgiemmnikaaW.PrintMore Go.Proofs.Ytpjchgiemmnikaa.Pure Go.Proofs.Ytpjchgiemmnikaa.Q

/-- How many unlike things a list stands for. -/
def kdist (l : List Int) : Int :=
  if ¬ KOk l then 0 else if l.length < 1024 then l.length else if rd l 1023 = 18446744073709551615 then 1023 else 1023 * 18446744073709551616 / (rd l 1023 + 1)
theorem last_big {l : List Int} (hg : KGood l) (hl : l.length = 1024) : 1023 ≤ rd l 1023 ∧ rd l 1023 < 18446744073709551616 := by
  have h : ∀ n : Nat, n < 1024 → (n : Int) ≤ rd l n := by
    intro n
    induction n with
    | zero => intro _; rw [rd_nat (by omega)]; exact (hg.2.2 _ (List.getElem_mem _)).1
    | succ n ih => intro hn; have := ih (by omega); have := asc_at hg.1 (show n < n + 1 by omega) (by omega); omega
  refine ⟨h 1023 (by omega), ?_⟩
  rw [show (1023 : Int) = ((1023 : Nat) : Int) from rfl, rd_nat (by omega)]
  exact (hg.2.2 _ (List.getElem_mem _)).2
theorem kmvDist_all {l : List Int} (hr : ∀ x ∈ l, 0 ≤ x ∧ x < 18446744073709551616) (hL : l.length ≤ 4611686018427387904) : kmv_Distinct.f (2 * l.length + 2) l = some (kdist l) := by
  unfold kmv_Distinct.f kdist
  rw [kmvCheck_all l hL]
  simp only [Option.bind_some]
  by_cases ok : KOk l
  · rw [if_pos (decide_eq_true ok), if_neg (c := ¬ KOk l) (fun c => c ok)]
    have := ok.2
    by_cases h : l.length < 1024
    · rw [if_pos (c := (l.length : Int) < 1024) (by omega), if_pos (c := l.length < 1024) h, wu]
      congr 1; omega
    · have hl : l.length = 1024 := by omega
      obtain ⟨b1, b2⟩ := last_big ⟨ok.1, ok.2, hr⟩ hl
      rw [if_neg (c := (l.length : Int) < 1024) (by omega), if_neg (c := l.length < 1024) h, if_pos (c := (1023 : Int) < (l.length : Int)) (by omega)]
      by_cases hm : rd l 1023 = 18446744073709551615
      · rw [if_pos hm, if_pos hm]
      · rw [if_neg hm, if_neg hm, wu_in (by omega) (by omega)]
        unfold wide_Div.f
        rw [divide_eq ⟨by omega, by omega⟩ ⟨by omega, by omega⟩ ⟨by omega, by omega⟩, div128_yes (by omega)]
        simp
  · rw [if_neg (by simpa using ok), if_pos (c := ¬ KOk l) ok]
theorem refDist_all {l : List Int} (hr : ∀ x ∈ l, 0 ≤ x ∧ x < 18446744073709551616) (hL : l.length ≤ 4611686018427387904) : ∃ k, varveref08_Distinct.f k l = some (kdist l) := by
  refine ⟨l.length + 1 + 67, ?_⟩
  have hc : varveref08_Check.f (l.length + 1 + 67) l = some (decide (KOk l)) := by
    have : ∀ m, varveref08_Check.f (l.length + 1 + m) l = some (decide (KOk l)) := fun m => by
      induction m with
      | zero => exact refCheck_all l hL
      | succ m ih => exact varveref08_Check.mono l _ _ ih
    exact this 67
  unfold varveref08_Distinct.f kdist
  rw [hc]
  simp only [Option.bind_some]
  by_cases ok : KOk l
  · rw [if_pos (decide_eq_true ok), if_neg (c := ¬ KOk l) (fun c => c ok)]
    have := ok.2
    by_cases h : l.length < 1024
    · rw [if_pos (c := (l.length : Int) < 1024) (by omega), if_pos (c := l.length < 1024) h, wu]
      congr 1; omega
    · have hl : l.length = 1024 := by omega
      obtain ⟨b1, b2⟩ := last_big ⟨ok.1, ok.2, hr⟩ hl
      have w1 : wrap64 ((l.length : Int) - 1) = 1023 := by unfold wrap64; omega
      rw [w1, if_neg (c := (l.length : Int) < 1024) (by omega), if_neg (c := l.length < 1024) h, if_pos (c := (0 : Int) ≤ 1023) (by omega), if_pos (c := (1023 : Int) < (l.length : Int)) (by omega)]
      by_cases hm : rd l 1023 = 18446744073709551615
      · rw [if_pos hm, if_pos hm]
      · rw [if_neg hm, if_neg hm, wu_in (by omega) (by omega)]
        rw [refDiv_eq ⟨by omega, by omega⟩ ⟨by omega, by omega⟩ ⟨by omega, by omega⟩ _ (by omega), div128_yes (by omega)]
        simp
  · rw [if_neg (by simpa using ok), if_pos (c := ¬ KOk l) ok]
end Go.Proofs.Ytpjchgiemmnikaa
