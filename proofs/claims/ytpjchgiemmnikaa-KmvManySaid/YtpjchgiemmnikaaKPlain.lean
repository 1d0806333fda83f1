/- What the reference's Hash does to a rising list is khash. Plain Lean. -/
import Derived.Test.YtpjchgiemmnikaaKHash
namespace Go.Proofs.Ytpjchgiemmnikaa
set_option linter.unusedVariables false
set_option linter.unusedSimpArgs false
open Go.Proofs.Ytpjchgiemmnikaa.Pure

theorem kins_split {h : Int} : ∀ {l : List Int} {k : Nat}, k ≤ l.length → (∀ j (hj : j < k) (hl : j < l.length), l[j] < h) → (∀ hk : k < l.length, h < l[k]) → kins h l = l.take k ++ h :: l.drop k := by
  intro l
  induction l with
  | nil => intro k _ _ _; simp [kins]
  | cons x r ih =>
    intro k hk h1 h2
    cases k with
    | zero =>
      have := h2 (by simp)
      simp only [List.getElem_cons_zero] at this
      rw [kins, if_pos this]; simp
    | succ k =>
      have hx := h1 0 (by omega) (by simp)
      simp only [List.getElem_cons_zero] at hx
      rw [kins, if_neg (by omega), if_neg (by omega), ih (k := k) (by simpa using hk) (fun j hj hl => by have := h1 (j + 1) (by omega) (by simpa using hl); simpa using this)
        (fun hk' => by have := h2 (by simpa using hk'); simpa using this)]
      simp
theorem khash_split {h : Int} {l : List Int} {k : Nat} (hk : k ≤ l.length) (h1 : ∀ j (hj : j < k) (hl : j < l.length), l[j] < h) (h2 : ∀ hk : k < l.length, h < l[k]) : khash l h = (l.take k ++ h :: l.drop k).take 1024 := by
  unfold khash; rw [kins_split hk h1 h2]
theorem khash_at {h : Int} {l : List Int} {k : Nat} (hA : Asc l) (hl : l.length ≤ 1024) (hk : k < l.length) (he : l[k] = h) : khash l h = l :=
  khash_in hA hl (he ▸ List.getElem_mem hk)
theorem khash_full {h : Int} {l : List Int} {k : Nat} (hl : l.length ≤ 1024) (hk : k ≤ l.length) (hk2 : 1024 ≤ k) (h1 : ∀ j (hj : j < k) (hl : j < l.length), l[j] < h) : khash l h = l := by
  refine khash_over (by omega) fun x hx => ?_
  obtain ⟨j, hj, rfl⟩ := List.getElem_of_mem hx
  exact h1 j (by omega) hj
end Go.Proofs.Ytpjchgiemmnikaa
