/- Lists of buckets: whether they may be, by the program and by the reference; sameness. Plain Lean, no program in sight. -/
import Derived.Test.YtlfjfgcalilnpaaHix
import Derived.Test.YtlfjfgcalilnpaaHBase
namespace Go.Proofs.Ytlfjfgcalilnpaa.Pure
set_option linter.unusedVariables false
set_option linter.unusedSimpArgs false
open Go.RowKit Go.Proofs.Ytlfjfgcalilnpaa.Hi

/-- How a list of buckets is read. -/
def WB (l : List S75) : Prop := l.length * 16 ≤ 140737488351232 ∧ l.length ≤ 9223372036854775807 ∧ ∀ b ∈ l, (Lit.int .i64 b.f0).wf = true ∧ (Lit.int .u64 b.f1).wf = true
theorem WB.len {l : List S75} (h : WB l) : l.length < 8796093022208 := by have := h.1; omega
theorem rd_drop {l : List S75} {n : Nat} (h : n < l.length) : l.drop n = rd_T75 l (n : Int) :: l.drop (n + 1) := by
  rw [List.drop_eq_getElem_cons h]
  congr 1
  rw [rd_T75, Int.toNat_natCast, List.getD, List.getElem?_eq_getElem h]; rfl

/-- May a list be behind a bucket? -/
def chkFrom (last : Int) : List S75 → Bool
  | [] => true
  | b :: r => decide (last < b.f0) && (decide (b.f0 < 7424) && (!(b.f1 == 0) && chkFrom b.f0 r))
def chk (l : List S75) : Bool := chkFrom (-1) l
theorem check_l0 (l : List S75) (hl : l.length < 8796093022208) : ∀ (d n k : Nat) (last : Int), n + d = l.length → d < k → hist_Check.l0 k last l (l.length : Int) (n : Int) = some (chkFrom last (l.drop n)) := by
  intro d
  induction d with
  | zero =>
    intro n k last hn hk
    obtain ⟨k, rfl⟩ : ∃ m, k = m + 1 := ⟨k - 1, by omega⟩
    simp only [hist_Check.l0]
    rw [if_neg (by omega), List.drop_of_length_le (by omega)]; rfl
  | succ d ih =>
    intro n k last hn hk
    obtain ⟨k, rfl⟩ : ∃ m, k = m + 1 := ⟨k - 1, by omega⟩
    simp only [hist_Check.l0]
    rw [if_pos (by omega), if_pos (by omega), if_pos (by omega), rd_drop (show n < l.length by omega), w64 (n := (n : Int) + 1) (by omega) (by omega)]
    have := ih (n + 1) k ((rd_T75 l (n : Int)).f0) (by omega) (by omega)
    rw [show (n : Int) + 1 = ((n + 1 : Nat) : Int) by omega, this]
    simp only [chkFrom]
    generalize rd_T75 l (n : Int) = b
    by_cases c1 : b.f0 ≤ last
    · rw [if_pos c1, decide_eq_false (by omega)]; rfl
    · rw [if_neg c1, decide_eq_true (by omega)]
      by_cases c2 : b.f0 ≥ 7424
      · rw [if_pos c2, decide_eq_false (by omega)]; rfl
      · rw [if_neg c2, decide_eq_true (by omega)]
        by_cases c3 : b.f1 = 0
        · rw [if_pos c3, c3]; rfl
        · rw [if_neg c3, beq_eq_false_iff_ne.mpr c3]; rfl
theorem Check_eq (l : List S75) (hl : l.length < 8796093022208) (k : Nat) (hk : l.length < k) : hist_Check.f k l = some (chk l) := by
  unfold hist_Check.f chk
  have := check_l0 l hl l.length 0 k (-1) (by omega) hk
  simpa using this
/-- The bucket before a place. -/
def before (l : List S75) (n : Nat) : Int := if n = 0 then -1 else (rd_T75 l ((n - 1 : Nat) : Int)).f0
theorem refCheck_l0 (l : List S75) (hl : l.length < 8796093022208) : ∀ (d n k : Nat), n + d = l.length → d < k → -1 ≤ before l n → varveref07_Check.l0 k l (n : Int) = some (chkFrom (before l n) (l.drop n)) := by
  intro d
  induction d with
  | zero =>
    intro n k hn hk _
    obtain ⟨k, rfl⟩ : ∃ m, k = m + 1 := ⟨k - 1, by omega⟩
    simp only [varveref07_Check.l0]
    rw [if_neg (by omega), List.drop_of_length_le (by omega)]; rfl
  | succ d ih =>
    intro n k hn hk hb
    obtain ⟨k, rfl⟩ : ∃ m, k = m + 1 := ⟨k - 1, by omega⟩
    simp only [varveref07_Check.l0]
    rw [if_pos (by omega), if_pos (by omega), rd_drop (show n < l.length by omega), w64 (n := (n : Int) + 1) (by omega) (by omega), w64 (n := (n : Int) - 1) (by omega) (by omega)]
    have hnx : before l (n + 1) = (rd_T75 l (n : Int)).f0 := by unfold before; rw [if_neg (by omega), Nat.add_sub_cancel]
    have IH := ih (n + 1) k (by omega) (by omega)
    rw [hnx] at IH
    rw [show (n : Int) + 1 = ((n + 1 : Nat) : Int) by omega]
    have hbe : (n : Int) > 0 → (rd_T75 l ((n : Int) - 1)).f0 = before l n := fun h => by
      unfold before; rw [if_neg (by omega), show ((n - 1 : Nat) : Int) = (n : Int) - 1 by omega]
    have hb0 : ¬ (n : Int) > 0 → before l n = -1 := fun h => by unfold before; rw [if_pos (by omega)]
    simp only [chkFrom]
    generalize rd_T75 l (n : Int) = b at *
    generalize before l n = p at *
    by_cases c1 : b.f0 < 0
    · rw [if_pos c1, decide_eq_false (by omega)]; rfl
    · rw [if_neg c1]
      by_cases c2 : b.f0 ≥ 7424
      · rw [if_pos c2, decide_eq_false (p := b.f0 < 7424) (by omega)]; simp
      · rw [if_neg c2, decide_eq_true (p := b.f0 < 7424) (by omega)]
        by_cases c3 : b.f1 = 0
        · rw [if_pos c3, c3]; simp
        · rw [if_neg c3, beq_eq_false_iff_ne.mpr c3, IH (by omega)]
          by_cases c4 : (n : Int) > 0
          · rw [if_pos c4, if_pos (by omega), if_pos (by omega), hbe c4]
            by_cases c5 : b.f0 ≤ p
            · rw [if_pos c5, decide_eq_false (by omega)]; rfl
            · rw [if_neg c5, decide_eq_true (by omega)]; rfl
          · rw [if_neg c4, hb0 c4, decide_eq_true (by omega)]; rfl
theorem refCheck_eq (l : List S75) (hl : l.length < 8796093022208) (k : Nat) (hk : l.length < k) : varveref07_Check.f k l = some (chk l) := by
  unfold varveref07_Check.f chk
  have := refCheck_l0 l hl l.length 0 k (by omega) hk (by simp [before])
  simpa [before] using this
theorem same_l0 (l : List S75) (hl : l.length < 8796093022208) : ∀ (d n k : Nat), n + d = l.length → d < k → varvelaw00_SameBuckets.l0 k l l (n : Int) = some true := by
  intro d
  induction d with
  | zero =>
    intro n k hn hk
    obtain ⟨k, rfl⟩ : ∃ m, k = m + 1 := ⟨k - 1, by omega⟩
    simp only [varvelaw00_SameBuckets.l0]
    rw [if_neg (by omega)]
  | succ d ih =>
    intro n k hn hk
    obtain ⟨k, rfl⟩ : ∃ m, k = m + 1 := ⟨k - 1, by omega⟩
    simp only [varvelaw00_SameBuckets.l0]
    rw [if_pos (by omega), if_pos (by omega), if_pos (by omega), w64 (n := (n : Int) + 1) (by omega) (by omega), show (n : Int) + 1 = ((n + 1 : Nat) : Int) by omega, ih (n + 1) k (by omega) (by omega)]
    simp
theorem Same_self (l : List S75) (hl : l.length < 8796093022208) (k : Nat) (hk : l.length < k) : varvelaw00_SameBuckets.f k l l = some true := by
  unfold varvelaw00_SameBuckets.f
  rw [if_pos rfl]
  exact same_l0 l hl l.length 0 k (by omega) hk
theorem Copy_eq (l : List S75) (hl : l.length < 8796093022208) : varvelaw00_Buckets.f l = some l := by
  unfold varvelaw00_Buckets.f
  rw [if_pos (by simpa using hl)]; simp
end Go.Proofs.Ytlfjfgcalilnpaa.Pure
