/- Laid by mp.py, a program of this session, over the kit's printer: the Go text of each function comes to the answers of the function beside it. Conditions: none but that the function answers. -/
import Derived.Test.YtlfjfgcalilnpaaHpx0
namespace Go.Proofs.Ytlfjfgcalilnpaa.Hp
open Go.RowKit Go.Proofs.YtlfjfgcalilnpaaW.PrintWords Go.Proofs.YtlfjfgcalilnpaaW.PrintLast Go.Proofs.YtlfjfgcalilnpaaW.PrintMore
attribute [local go_sem] max2_int min2_int max_two min_two max_three min_three max_four min_four   -- for this text's walks alone
set_option linter.unusedVariables false
set_option linter.unusedSimpArgs false

/-! ### varvelaw07_less: function 22 -/
def varvelaw07_less.f (a0 : Int) (a1 : Int) (a2 : Int) (a3 : Int) : Option (Bool) := if (IntKind.u64.wrap ((IntKind.u64.wrap ((IntKind.u64.wrap (a0)) * (a1 / 4294967296))) + ((IntKind.u64.wrap ((IntKind.u64.wrap (a0)) * (Go.bits .and .u64 a1 4294967295))) / 4294967296))) = (IntKind.u64.wrap ((IntKind.u64.wrap (a2 * (a3 / 4294967296))) + ((IntKind.u64.wrap (a2 * (Go.bits .and .u64 a3 4294967295))) / 4294967296))) then (some (decide ((Go.bits .and .u64 (IntKind.u64.wrap ((IntKind.u64.wrap (a0)) * (Go.bits .and .u64 a1 4294967295))) 4294967295) < (Go.bits .and .u64 (IntKind.u64.wrap (a2 * (Go.bits .and .u64 a3 4294967295))) 4294967295)))) else (some (decide ((IntKind.u64.wrap ((IntKind.u64.wrap ((IntKind.u64.wrap (a0)) * (a1 / 4294967296))) + ((IntKind.u64.wrap ((IntKind.u64.wrap (a0)) * (Go.bits .and .u64 a1 4294967295))) / 4294967296))) < (IntKind.u64.wrap ((IntKind.u64.wrap (a2 * (a3 / 4294967296))) + ((IntKind.u64.wrap (a2 * (Go.bits .and .u64 a3 4294967295))) / 4294967296))))))
set_option maxHeartbeats 8000000 in
set_option maxRecDepth 100000 in
theorem varvelaw07_less.calls (a0 : Int) (a1 : Int) (a2 : Int) (a3 : Int) (r : Bool) (w : World) (h : varvelaw07_less.f a0 a1 a2 a3 = some r) :
    Calls Try.prog 22 #[.int .i64 a0, .int .u64 a1, .int .u64 a2, .int .u64 a3] w fun e w' => e = .returned (.bool r) ∧ Drawn0 w w' := by
  have H : (if (IntKind.u64.wrap ((IntKind.u64.wrap ((IntKind.u64.wrap (a0)) * (a1 / 4294967296))) + ((IntKind.u64.wrap ((IntKind.u64.wrap (a0)) * (Go.bits .and .u64 a1 4294967295))) / 4294967296))) = (IntKind.u64.wrap ((IntKind.u64.wrap (a2 * (a3 / 4294967296))) + ((IntKind.u64.wrap (a2 * (Go.bits .and .u64 a3 4294967295))) / 4294967296))) then (some (decide ((Go.bits .and .u64 (IntKind.u64.wrap ((IntKind.u64.wrap (a0)) * (Go.bits .and .u64 a1 4294967295))) 4294967295) < (Go.bits .and .u64 (IntKind.u64.wrap (a2 * (Go.bits .and .u64 a3 4294967295))) 4294967295)))) else (some (decide ((IntKind.u64.wrap ((IntKind.u64.wrap ((IntKind.u64.wrap (a0)) * (a1 / 4294967296))) + ((IntKind.u64.wrap ((IntKind.u64.wrap (a0)) * (Go.bits .and .u64 a1 4294967295))) / 4294967296))) < (IntKind.u64.wrap ((IntKind.u64.wrap (a2 * (a3 / 4294967296))) + ((IntKind.u64.wrap (a2 * (Go.bits .and .u64 a3 4294967295))) / 4294967296))))))) = some r := h
  clear h
  by_cases c5 : (IntKind.u64.wrap ((IntKind.u64.wrap ((IntKind.u64.wrap (a0)) * (a1 / 4294967296))) + ((IntKind.u64.wrap ((IntKind.u64.wrap (a0)) * (Go.bits .and .u64 a1 4294967295))) / 4294967296))) = (IntKind.u64.wrap ((IntKind.u64.wrap (a2 * (a3 / 4294967296))) + ((IntKind.u64.wrap (a2 * (Go.bits .and .u64 a3 4294967295))) / 4294967296)))
  · rw [if_pos c5] at H
    have c5b0 : ((IntKind.u64.wrap ((IntKind.u64.wrap ((IntKind.u64.wrap (a0)) * (a1 / 4294967296))) + ((IntKind.u64.wrap ((IntKind.u64.wrap (a0)) * (Go.bits .and .u64 a1 4294967295))) / 4294967296))) == (IntKind.u64.wrap ((IntKind.u64.wrap (a2 * (a3 / 4294967296))) + ((IntKind.u64.wrap (a2 * (Go.bits .and .u64 a3 4294967295))) / 4294967296)))) = true := beq_iff_eq.mpr c5
    have c5b1 : ((IntKind.u64.wrap ((IntKind.u64.wrap ((IntKind.u64.wrap (a0)) * (a1 / 4294967296))) + ((IntKind.u64.wrap ((IntKind.u64.wrap (a0)) * (Go.bits .and .u64 a1 4294967295))) / 4294967296))) != (IntKind.u64.wrap ((IntKind.u64.wrap (a2 * (a3 / 4294967296))) + ((IntKind.u64.wrap (a2 * (Go.bits .and .u64 a3 4294967295))) / 4294967296)))) = false := bne_eq_false_iff_eq.mpr c5
    clear c5
    obtain rfl := Option.some.inj H
    go_enter Try.func22, Try.ntmps22
    go_wp2
    go_ret
    exact ⟨by first | rfl | (simp; done) | (simp [*]; done), by repeat (first | exact Drawn0.refl _ | apply Drawn0.step)⟩
  · rw [if_neg c5] at H
    have c5b0 : ((IntKind.u64.wrap ((IntKind.u64.wrap ((IntKind.u64.wrap (a0)) * (a1 / 4294967296))) + ((IntKind.u64.wrap ((IntKind.u64.wrap (a0)) * (Go.bits .and .u64 a1 4294967295))) / 4294967296))) == (IntKind.u64.wrap ((IntKind.u64.wrap (a2 * (a3 / 4294967296))) + ((IntKind.u64.wrap (a2 * (Go.bits .and .u64 a3 4294967295))) / 4294967296)))) = false := beq_eq_false_iff_ne.mpr c5
    have c5b1 : ((IntKind.u64.wrap ((IntKind.u64.wrap ((IntKind.u64.wrap (a0)) * (a1 / 4294967296))) + ((IntKind.u64.wrap ((IntKind.u64.wrap (a0)) * (Go.bits .and .u64 a1 4294967295))) / 4294967296))) != (IntKind.u64.wrap ((IntKind.u64.wrap (a2 * (a3 / 4294967296))) + ((IntKind.u64.wrap (a2 * (Go.bits .and .u64 a3 4294967295))) / 4294967296)))) = true := bne_iff_ne.mpr c5
    obtain rfl := Option.some.inj H
    go_enter Try.func22, Try.ntmps22
    go_wp2
    go_ret
    exact ⟨by first | rfl | (simp; done) | (simp [*]; done), by repeat (first | exact Drawn0.refl _ | apply Drawn0.step)⟩

/-- THE ONE PURE STATEMENT of varvelaw07_less: yours. -/
def varvelaw07_less.Pure : Prop := ∀ (a0 : Int) (a1 : Int) (a2 : Int) (a3 : Int), (Lit.int .i64 a0).wf = true → (Lit.int .u64 a1).wf = true → (Lit.int .u64 a2).wf = true → (Lit.int .u64 a3).wf = true → varvelaw07_less.f a0 a1 a2 a3 = some true
theorem varvelaw07_less.walk (P : varvelaw07_less.Pure) (a0 : Int) (a1 : Int) (a2 : Int) (a3 : Int) (w : World) (w0 : (Lit.int .i64 a0).wf = true) (w1 : (Lit.int .u64 a1).wf = true) (w2 : (Lit.int .u64 a2).wf = true) (w3 : (Lit.int .u64 a3).wf = true) :
    Calls Try.prog 22 #[.int .i64 a0, .int .u64 a1, .int .u64 a2, .int .u64 a3] w fun e w' => e = .returned (.bool true) ∧ Below w.heap.size w w' := by
  have h := P a0 a1 a2 a3 w0 w1 w2 w3
  refine (varvelaw07_less.calls a0 a1 a2 a3 true w h).mono ?_
  rintro e w' ⟨rfl, hd⟩
  exact ⟨rfl, hd.below⟩

end Go.Proofs.Ytlfjfgcalilnpaa.Hp
