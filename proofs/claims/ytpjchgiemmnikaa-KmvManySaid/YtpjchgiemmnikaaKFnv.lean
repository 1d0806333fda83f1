/- The program's fnv and the reference's are one function: some number of 64 bits for every string. -/
import Derived.Test.YtpjchgiemmnikaaKAwake
namespace Go.Proofs.Ytpjchgiemmnikaa
set_option linter.unusedVariables false
set_option linter.unusedSimpArgs false
open Go.RowKit Go.Maps Go.Proofs.YtpjchgiemmnikaaW.PrintWords Go.Proofs.YtpjchgiemmnikaaW.PrintLast Go.Proofs.YtpjchgiemmnikaaW.PrintMore Go.Proofs.Ytpjchgiemmnikaa.Pure Go.Proofs.Ytpjchgiemmnikaa.Q

theorem fnv_round (s : ByteArray) (hs : s.size ≤ maxLen) : ∀ (n i : Nat) (x : Int), s.size - i = n → i ≤ s.size → 0 ≤ x ∧ x < 18446744073709551616 →
    ∃ r, fnv_More.l0 (n + 1) x s (s.size : Int) (i : Int) = some r ∧ varveref06_More.l0 (n + 1) x s (i : Int) = some r ∧ 0 ≤ r ∧ r < 18446744073709551616 := by
  have hM : maxLen = 9223372036854775807 := rfl
  intro n
  induction n with
  | zero =>
    intro i x h1 h2 hx
    refine ⟨x, ?_, ?_, hx⟩
    · rw [fnv_More.l0, if_neg (by omega)]
    · rw [varveref06_More.l0, if_neg (by omega)]
  | succ n ih =>
    intro i x h1 h2 hx
    obtain ⟨b, hb⟩ : ∃ b, Go.bits .xor .u64 x (IntKind.u64.wrap (bt s (i : Int))) = b := ⟨_, rfl⟩
    have hw : wrap64 ((i : Int) + 1) = ((i + 1 : Nat) : Int) := by unfold wrap64; omega
    obtain ⟨r, e1, e2, hr⟩ := ih (i + 1) (IntKind.u64.wrap (b * 1099511628211)) (by omega) (by omega) (by rw [IntKind.wrap_u64]; omega)
    refine ⟨r, ?_, ?_, hr⟩
    · rw [fnv_More.l0, if_pos (by omega), if_pos (by omega), if_pos (by omega), hb, hw]; exact e1
    · rw [varveref06_More.l0, if_pos (by omega), if_pos (by omega), hb, hw, ← e2]
      congr 1
      simp only [IntKind.wrap_u64]
      omega
theorem fnv_all (s : ByteArray) (hs : s.size ≤ maxLen) : ∃ k r, fnv_Of.f k s = some r ∧ varveref06_Of.f k s = some r ∧ 0 ≤ r ∧ r < 18446744073709551616 := by
  obtain ⟨r, e1, e2, hr⟩ := fnv_round s hs s.size 0 14695981039346656037 (by omega) (by omega) (by omega)
  refine ⟨s.size + 1, r, ?_, ?_, hr⟩
  · unfold fnv_Of.f fnv_More.f
    rw [show (0 : Int) = ((0 : Nat) : Int) from rfl, e1]; rfl
  · unfold varveref06_Of.f varveref06_More.f
    rw [show (0 : Int) = ((0 : Nat) : Int) from rfl, e2]; rfl
end Go.Proofs.Ytpjchgiemmnikaa
