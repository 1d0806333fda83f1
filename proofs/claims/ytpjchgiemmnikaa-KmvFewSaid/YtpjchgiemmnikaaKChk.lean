/- What the two checks tell: whether a list is one that may be. Plain. -/
import Derived.Test.YtpjchgiemmnikaaKFnv
namespace Go.Proofs.Ytpjchgiemmnikaa
set_option linter.unusedVariables false
set_option linter.unusedSimpArgs false
open Go.RowKit Go.Maps Go.Proofs.YtpjchgiemmnikaaW.PrintWords Go.Proofs.YtpjchgiemmnikaaW.PrintLast Go.Proofs.YtpjchgiemmnikaaW.PrintMore Go.Proofs.Ytpjchgiemmnikaa.Pure Go.Proofs.Ytpjchgiemmnikaa.Q

instance (l : List Int) : Decidable (KOk l) := by unfold KOk; infer_instance
theorem refCheck_go (l : List Int) (hL : l.length ≤ 4611686018427387904) : ∀ (n i : Nat), l.length + 1 - i = n → 1 ≤ i → (∀ j, 1 ≤ j → j < i → j < l.length → rd l ((j : Int) - 1) < rd l j) →
    varveref08_Check.l0 (n + 1) l (i : Int) = some (decide (KOk l)) := by
  intro n
  induction n with
  | zero =>
    intro i h1 h2 h3
    rw [varveref08_Check.l0, if_neg (by omega)]
    congr 1
    refine decide_eq_decide.2 ⟨fun c => ⟨asc_steps fun j a b => h3 j a (by omega) b, by omega⟩, fun c => by have := c.2; omega⟩
  | succ n ih =>
    intro i h1 h2 h3
    by_cases hi : i < l.length
    · have w1 : wrap64 ((i : Int) - 1) = (i : Int) - 1 := by unfold wrap64; omega
      have w2 : wrap64 ((i : Int) + 1) = ((i + 1 : Nat) : Int) := by unfold wrap64; omega
      rw [varveref08_Check.l0, if_pos (by omega), if_pos (by omega), w1, if_pos (by omega), if_pos (by omega), w2]
      by_cases hp : rd l (i : Int) ≤ rd l ((i : Int) - 1)
      · rw [if_pos hp]
        congr 1
        refine (decide_eq_false fun c => ?_).symm
        have := asc_at c.1 (show i - 1 < i by omega) hi
        rw [show ((i - 1 : Nat) : Int) = (i : Int) - 1 by omega] at this
        omega
      · rw [if_neg hp]
        refine ih (i + 1) (by omega) (by omega) fun j a b c => ?_
        rcases Nat.lt_or_ge j i with d | d
        · exact h3 j a d c
        · obtain rfl : j = i := by omega
          omega
    · rw [varveref08_Check.l0, if_neg (by omega)]
      congr 1
      refine decide_eq_decide.2 ⟨fun c => ⟨asc_steps fun j a b => h3 j a (by omega) b, by omega⟩, fun c => by have := c.2; omega⟩
theorem refCheck_all (l : List Int) (hL : l.length ≤ 4611686018427387904) : varveref08_Check.f (l.length + 1) l = some (decide (KOk l)) := by
  unfold varveref08_Check.f
  exact refCheck_go l hL l.length 1 (by omega) (Nat.le_refl _) fun j a b _ => by omega
theorem kmvCheck_go (l : List Int) (hL : l.length ≤ 4611686018427387904) : ∀ (n i : Nat), l.length + 1 - i = n → 1 ≤ i → (∀ j, 1 ≤ j → j < i → j < l.length → rd l ((j : Int) - 1) < rd l j) →
    kmv_Check.l0 (2 * n + 2) l (i : Int) = some (decide (KOk l)) := by
  intro n
  induction n with
  | zero =>
    intro i h1 h2 h3
    rw [show 2 * 0 + 2 = 0 + 1 + 1 from rfl, kmv_Check.l0, if_neg (by omega), kmv_Check.j1, if_neg (by simp)]
    congr 1
    refine decide_eq_decide.2 ⟨fun c => ⟨asc_steps fun j a b => h3 j a (by omega) b, by omega⟩, fun c => by have := c.2; omega⟩
  | succ n ih =>
    intro i h1 h2 h3
    rw [show 2 * (n + 1) + 2 = (2 * n + 2) + 1 + 1 by omega, kmv_Check.l0]
    by_cases hi : i < l.length
    · rw [if_pos (by omega)]
      by_cases h4 : (i : Int) ≤ 1024
      · have w1 : wrap64 ((i : Int) - 1) = (i : Int) - 1 := by unfold wrap64; omega
        have w2 : wrap64 ((i : Int) + 1) = ((i + 1 : Nat) : Int) := by unfold wrap64; omega
        rw [decide_eq_true h4, kmv_Check.j1, if_pos rfl, if_pos (by omega), if_pos (by omega), w1, if_pos (by omega), if_pos (by omega), w2]
        by_cases hp : rd l (i : Int) ≤ rd l ((i : Int) - 1)
        · rw [if_pos hp]
          congr 1
          refine (decide_eq_false fun c => ?_).symm
          have := asc_at c.1 (show i - 1 < i by omega) hi
          rw [show ((i - 1 : Nat) : Int) = (i : Int) - 1 by omega] at this
          omega
        · rw [if_neg hp]
          refine ih (i + 1) (by omega) (by omega) fun j a b c => ?_
          rcases Nat.lt_or_ge j i with d | d
          · exact h3 j a d c
          · obtain rfl : j = i := by omega
            omega
      · rw [decide_eq_false h4, kmv_Check.j1, if_neg (by simp)]
        congr 1
        exact decide_eq_decide.2 ⟨fun c => by omega, fun c => by have := c.2; omega⟩
    · rw [if_neg (by omega), kmv_Check.j1, if_neg (by simp)]
      congr 1
      refine decide_eq_decide.2 ⟨fun c => ⟨asc_steps fun j a b => h3 j a (by omega) b, by omega⟩, fun c => by have := c.2; omega⟩
theorem kmvCheck_all (l : List Int) (hL : l.length ≤ 4611686018427387904) : kmv_Check.f (2 * l.length + 2) l = some (decide (KOk l)) := by
  unfold kmv_Check.f
  exact kmvCheck_go l hL l.length 1 (by omega) (Nat.le_refl _) fun j a b _ => by omega
end Go.Proofs.Ytpjchgiemmnikaa
