/- What the leaf functions of package wide compute, by walks over their Go text. -/
import Derived.Test.YtlfjfgcalilnpaaDiv
import Derived.WalkSpells
import Derived.WalkLawsBesides
import Derived.Laws.Externs
namespace Go.Proofs.Ytlfjfgcalilnpaa
set_option linter.unusedVariables false
set_option linter.unusedSimpArgs false
open Go.RowKit Go.Proofs.YtlfjfgcalilnpaaW.PrintWords Go.Proofs.YtlfjfgcalilnpaaW.PrintLast Go.Proofs.YtlfjfgcalilnpaaW.PrintMore

theorem mul64_eq (a0 a1 : Int) (w : World) (h0 : 0 ≤ a0) (h1 : a0 < 18446744073709551616) (h2 : 0 ≤ a1) (h3 : a1 < 18446744073709551616) :
    Calls Try.prog 141 #[.int .u64 a0, .int .u64 a1] w fun e w' => e = .returned (.tuple #[.int .u64 (a0 * a1 / 18446744073709551616), .int .u64 (a0 * a1 % 18446744073709551616)]) ∧ w = w' := by
  obtain ⟨x, rfl⟩ : ∃ n : Nat, a0 = n := ⟨a0.toNat, by omega⟩
  obtain ⟨y, rfl⟩ : ∃ n : Nat, a1 = n := ⟨a1.toNat, by omega⟩
  refine (Try.bits_Mul64 x y (by omega) (by omega) w).mono fun e w' ⟨he, hw⟩ => ⟨?_, hw.symm⟩
  rw [he, Int.natCast_ediv, Int.natCast_emod, Int.natCast_mul]
  rfl
theorem mul64_any (a0 a1 : Int) (w : World) (h0 : 0 ≤ a0) (h1 : a0 < 18446744073709551616) (h2 : 0 ≤ a1) (h3 : a1 < 18446744073709551616) :
    Calls Try.prog 141 #[.int .u64 a0, .int .u64 a1] w fun e w' => e = .returned (.tuple #[.int .u64 (a0 * a1 / 18446744073709551616), .int .u64 (a0 * a1 % 18446744073709551616)]) ∧ Drawn0 w w' := by
  obtain ⟨x, rfl⟩ : ∃ n : Nat, a0 = n := ⟨a0.toNat, by omega⟩
  obtain ⟨y, rfl⟩ : ∃ n : Nat, a1 = n := ⟨a1.toNat, by omega⟩
  refine (Try.bits_Mul64 x y (by omega) (by omega) w).mono fun e w' ⟨he, hw⟩ => ⟨?_, by rw [hw]; exact Drawn0.refl w⟩
  rw [he, Int.natCast_ediv, Int.natCast_emod, Int.natCast_mul]
  rfl

theorem run_add64_at (x y : Int) (h0 : 0 ≤ x) (h1 : 0 ≤ y) (w : World) :
    (callFunc 111 #[.int .u64 x, .int .u64 y, .int .u64 0]).run Try.prog w =
      .ok (.value (.tuple #[.int .u64 ((x + y) % 18446744073709551616), .int .u64 ((x + y) / 18446744073709551616)])) w := by
  rw [run_callFunc_extern Try.func111 (by kernel_rfl) (by kernel_rfl) (by kernel_rfl) (e := add64Entry) (by kernel_rfl), run_add64 x y 0 h0 h1 (by omega) (by omega)]
  simp only [Result.andThen, Int.add_zero]

set_option maxHeartbeats 400000 in
theorem add_eq (a0 a1 : Int) (w : World) (h0 : 0 ≤ a0) (h1 : a0 < 18446744073709551616) (h2 : 0 ≤ a1) (h3 : a1 < 18446744073709551616) :
    Calls Try.prog 63 #[.int .u64 a0, .int .u64 a1] w fun e w' => e = .returned (.int .u64 (if a0 + a1 < 18446744073709551616 then a0 + a1 else 18446744073709551615)) ∧ w = w' := by
  have hadd := fun w => run_add64_at a0 a1 h0 h2 w
  by_cases hc : a0 + a1 < 18446744073709551616
  · rw [if_pos hc]
    rw [Int.emod_eq_of_lt (by omega) hc, show (a0 + a1) / 18446744073709551616 = 0 by omega] at hadd
    go_enter Try.func63, Try.ntmps63
    go_wp2_with (simp only [hadd])
    go_ret
    exact ⟨rfl, rfl⟩
  · rw [if_neg hc]
    rw [show (a0 + a1) / 18446744073709551616 = 1 by omega] at hadd
    go_enter Try.func63, Try.ntmps63
    go_wp2_with (simp only [hadd])
    go_ret
    exact ⟨rfl, rfl⟩

theorem add_any (a0 a1 : Int) (w : World) (h0 : 0 ≤ a0) (h1 : a0 < 18446744073709551616) (h2 : 0 ≤ a1) (h3 : a1 < 18446744073709551616) :
    Calls Try.prog 63 #[.int .u64 a0, .int .u64 a1] w fun e w' => e = .returned (.int .u64 (if a0 + a1 < 18446744073709551616 then a0 + a1 else 18446744073709551615)) ∧ Drawn0 w w' :=
  (add_eq a0 a1 w h0 h1 h2 h3).mono fun _ _ ⟨he, hw⟩ => ⟨he, by rw [← hw]; exact Drawn0.refl w⟩

set_option maxHeartbeats 400000 in
theorem full_any (a0 a1 : Int) (w : World) (h0 : 0 ≤ a0) (h1 : a0 < 18446744073709551616) (h2 : 0 ≤ a1) (h3 : a1 < 18446744073709551616) :
    Calls Try.prog 114 #[.int .u64 a0, .int .u64 a1] w fun e w' => e = .returned (.agg #[.int .u64 (a0 * a1 / 18446744073709551616), .int .u64 (a0 * a1 % 18446744073709551616)]) ∧ Below w.heap.size w w' := by
  go_enter Try.func114, Try.ntmps114
  go_wp2_with (go_at_call 141; refine (mul64_eq a0 a1 _ h0 h1 h2 h3).mono ?_; rintro e w' ⟨rfl, rfl⟩)
  exact bodyPost_ret (v := .agg #[.int .u64 (a0 * a1 / 18446744073709551616), .int .u64 (a0 * a1 % 18446744073709551616)]) (by simp [results, Try.results114, go_sem]) rfl ⟨rfl, ((Below.refl _ _).alloc (Nat.le_refl _) _)⟩

theorem full_at (a0 a1 h l : Int) (w : World) (h0 : 0 ≤ a0) (h1 : a0 < 18446744073709551616) (h2 : 0 ≤ a1) (h3 : a1 < 18446744073709551616) (eh : a0 * a1 / 18446744073709551616 = h) (el : a0 * a1 % 18446744073709551616 = l) :
    Calls Try.prog 114 #[.int .u64 a0, .int .u64 a1] w fun e w' => e = .returned (.agg #[.int .u64 h, .int .u64 l]) ∧ Below w.heap.size w w' := by
  subst eh; subst el; exact full_any a0 a1 w h0 h1 h2 h3

end Go.Proofs.Ytlfjfgcalilnpaa
