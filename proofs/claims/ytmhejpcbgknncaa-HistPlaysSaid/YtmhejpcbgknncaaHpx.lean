/- Laid by mp.py, a program of this session, over the kit's printer: the Go text of each function comes to the answers of the function beside it. Conditions: none but that the function answers. -/
import Derived.Test.YtmhejpcbgknncaaRows
import Derived.Test.YtmhejpcbgknncaaProg
import Derived.Below
import Derived.Deep.Draws
import Derived.Deep.AppendLies
import Derived.Maps.AppendAt
import Derived.OwnWalk
import Derived.Laws.BytesArg
import Derived.Laws.MakeOwn
import Derived.Laws.OwnMore
import Derived.Deep.OwnRows
import Derived.Tactics
import Derived.Lib.ConvBytes
import Derived.Laws.Slices
import Derived.WalkKit
import Derived.KernelRfl
import Derived.RowKit3
import Derived.Deep.LoopGhost
import Derived.Deep.QuietTactic
import Derived.BigQuiet
import Derived.WideLaws
import Derived.Deep.DeepCutAuto
import Derived.Deep.CutBlock
import Derived.Deep.RegionHeld3
import Derived.Laws.Rows
import Derived.Lib.AppendStr
import Derived.ArgAppend
import Derived.Laws.IdiomCopy
import Derived.OrdersHeld
import Derived.Laws.BitsLemmas
import Derived.RowKit
import Derived.Test.YtmhejpcbgknncaaWWords
import Derived.Test.YtmhejpcbgknncaaWLast
import Derived.Test.YtmhejpcbgknncaaWTab
import Derived.Test.YtmhejpcbgknncaaWFour
import Derived.Test.YtmhejpcbgknncaaWQPut
import Derived.Test.YtmhejpcbgknncaaWApart
import Derived.Test.YtmhejpcbgknncaaWArr
import Derived.Test.YtmhejpcbgknncaaWZeros
import Derived.Test.YtmhejpcbgknncaaWFoot
import Derived.Test.YtmhejpcbgknncaaWKept
import Derived.Test.YtmhejpcbgknncaaWShare
import Derived.Test.YtmhejpcbgknncaaWN
import Derived.Test.YtmhejpcbgknncaaWFootNe
import Derived.Test.YtmhejpcbgknncaaWAt
import Derived.Test.YtmhejpcbgknncaaWEqStruct
import Derived.Test.YtmhejpcbgknncaaWRepsOne
import Derived.Test.YtmhejpcbgknncaaWInv
import Derived.Test.YtmhejpcbgknncaaWInvWords
import Derived.Test.YtmhejpcbgknncaaWGuard
import Derived.Test.YtmhejpcbgknncaaWNEv
import Derived.Test.YtmhejpcbgknncaaWMore
namespace Go.Proofs.Ytmhejpcbgknncaa.Hp
open Go.RowKit Go.Proofs.YtmhejpcbgknncaaW.PrintWords Go.Proofs.YtmhejpcbgknncaaW.PrintLast Go.Proofs.YtmhejpcbgknncaaW.PrintMore
attribute [local go_sem] max2_int min2_int max_two min_two max_three min_three max_four min_four   -- for this text's walks alone
set_option linter.unusedVariables false
set_option linter.unusedSimpArgs false



def errW : Option Int → Value
  | none => .nilIface
  | some c => .iface 0 (.int .i64 c)
theorem errW_none : errW none = .nilIface := rfl
theorem errW_some (c : Int) : errW (some c) = .iface 0 (.int .i64 c) := rfl

-- the values' own types

end Go.Proofs.Ytmhejpcbgknncaa.Hp

namespace Go.Proofs.Ytmhejpcbgknncaa.Hp
open Go.RowKit Go.Proofs.YtmhejpcbgknncaaW.PrintWords Go.Proofs.YtmhejpcbgknncaaW.PrintLast Go.Proofs.YtmhejpcbgknncaaW.PrintMore
attribute [local go_sem] max2_int min2_int max_two min_two max_three min_three max_four min_four   -- for this text's walks alone
set_option linter.unusedVariables false
set_option linter.unusedSimpArgs false

/-! ### varvelaw00_Place: function 34 -/
def varvelaw00_Place.f (a0 : Int) (a1 : Int) : Option (Int) := if a1 = 0 then (none) else (if (Int.tmod a0 a1) < 0 then (some (wrap64 ((Int.tmod a0 a1) + a1))) else (some (Int.tmod a0 a1)))
set_option maxHeartbeats 8000000 in
set_option maxRecDepth 100000 in
theorem varvelaw00_Place.calls (a0 : Int) (a1 : Int) (r : Int) (w : World) (h : varvelaw00_Place.f a0 a1 = some r) :
    Calls Try.prog 34 #[.int .i64 a0, .int .i64 a1] w fun e w' => e = .returned (.int .i64 r) ∧ Drawn0 w w' := by
  have H : (if a1 = 0 then (none) else (if (Int.tmod a0 a1) < 0 then (some (wrap64 ((Int.tmod a0 a1) + a1))) else (some (Int.tmod a0 a1)))) = some r := h
  clear h
  by_cases c3 : a1 = 0
  · rw [if_pos c3] at H
    exact absurd H (by simp)
  · rw [if_neg c3] at H
    have c3b0 : (a1 == 0) = false := beq_eq_false_iff_ne.mpr c3
    have c3b1 : (a1 != 0) = true := bne_iff_ne.mpr c3
    by_cases c4 : (Int.tmod a0 a1) < 0
    · rw [if_pos c4] at H
      have c4b0 : decide ((Int.tmod a0 a1) < 0) = true := decide_eq_true c4
      clear c4
      obtain rfl := Option.some.inj H
      go_enter Try.func34, Try.ntmps34
      go_wp2
      go_ret
      exact ⟨by first | rfl | (simp; done) | (simp [*]; done), by repeat (first | exact Drawn0.refl _ | apply Drawn0.step)⟩
    · rw [if_neg c4] at H
      have c4b0 : decide ((Int.tmod a0 a1) < 0) = false := decide_eq_false c4
      clear c4
      obtain rfl := Option.some.inj H
      go_enter Try.func34, Try.ntmps34
      go_wp2
      go_ret
      exact ⟨by first | rfl | (simp; done) | (simp [*]; done), by repeat (first | exact Drawn0.refl _ | apply Drawn0.step)⟩

/-! ### varvelaw07_less: function 27 -/
def varvelaw07_less.f (a0 : Int) (a1 : Int) (a2 : Int) (a3 : Int) : Option (Bool) := if (IntKind.u64.wrap ((IntKind.u64.wrap ((IntKind.u64.wrap (a0)) * (a1 / 4294967296))) + ((IntKind.u64.wrap ((IntKind.u64.wrap (a0)) * (Go.bits .and .u64 a1 4294967295))) / 4294967296))) = (IntKind.u64.wrap ((IntKind.u64.wrap (a2 * (a3 / 4294967296))) + ((IntKind.u64.wrap (a2 * (Go.bits .and .u64 a3 4294967295))) / 4294967296))) then (some (decide ((Go.bits .and .u64 (IntKind.u64.wrap ((IntKind.u64.wrap (a0)) * (Go.bits .and .u64 a1 4294967295))) 4294967295) < (Go.bits .and .u64 (IntKind.u64.wrap (a2 * (Go.bits .and .u64 a3 4294967295))) 4294967295)))) else (some (decide ((IntKind.u64.wrap ((IntKind.u64.wrap ((IntKind.u64.wrap (a0)) * (a1 / 4294967296))) + ((IntKind.u64.wrap ((IntKind.u64.wrap (a0)) * (Go.bits .and .u64 a1 4294967295))) / 4294967296))) < (IntKind.u64.wrap ((IntKind.u64.wrap (a2 * (a3 / 4294967296))) + ((IntKind.u64.wrap (a2 * (Go.bits .and .u64 a3 4294967295))) / 4294967296))))))
set_option maxHeartbeats 8000000 in
set_option maxRecDepth 100000 in
theorem varvelaw07_less.calls (a0 : Int) (a1 : Int) (a2 : Int) (a3 : Int) (r : Bool) (w : World) (h : varvelaw07_less.f a0 a1 a2 a3 = some r) :
    Calls Try.prog 27 #[.int .i64 a0, .int .u64 a1, .int .u64 a2, .int .u64 a3] w fun e w' => e = .returned (.bool r) ∧ Drawn0 w w' := by
  have H : (if (IntKind.u64.wrap ((IntKind.u64.wrap ((IntKind.u64.wrap (a0)) * (a1 / 4294967296))) + ((IntKind.u64.wrap ((IntKind.u64.wrap (a0)) * (Go.bits .and .u64 a1 4294967295))) / 4294967296))) = (IntKind.u64.wrap ((IntKind.u64.wrap (a2 * (a3 / 4294967296))) + ((IntKind.u64.wrap (a2 * (Go.bits .and .u64 a3 4294967295))) / 4294967296))) then (some (decide ((Go.bits .and .u64 (IntKind.u64.wrap ((IntKind.u64.wrap (a0)) * (Go.bits .and .u64 a1 4294967295))) 4294967295) < (Go.bits .and .u64 (IntKind.u64.wrap (a2 * (Go.bits .and .u64 a3 4294967295))) 4294967295)))) else (some (decide ((IntKind.u64.wrap ((IntKind.u64.wrap ((IntKind.u64.wrap (a0)) * (a1 / 4294967296))) + ((IntKind.u64.wrap ((IntKind.u64.wrap (a0)) * (Go.bits .and .u64 a1 4294967295))) / 4294967296))) < (IntKind.u64.wrap ((IntKind.u64.wrap (a2 * (a3 / 4294967296))) + ((IntKind.u64.wrap (a2 * (Go.bits .and .u64 a3 4294967295))) / 4294967296))))))) = some r := h
  clear h
  by_cases c5 : (IntKind.u64.wrap ((IntKind.u64.wrap ((IntKind.u64.wrap (a0)) * (a1 / 4294967296))) + ((IntKind.u64.wrap ((IntKind.u64.wrap (a0)) * (Go.bits .and .u64 a1 4294967295))) / 4294967296))) = (IntKind.u64.wrap ((IntKind.u64.wrap (a2 * (a3 / 4294967296))) + ((IntKind.u64.wrap (a2 * (Go.bits .and .u64 a3 4294967295))) / 4294967296)))
  · rw [if_pos c5] at H
    have c5b0 : ((IntKind.u64.wrap ((IntKind.u64.wrap ((IntKind.u64.wrap (a0)) * (a1 / 4294967296))) + ((IntKind.u64.wrap ((IntKind.u64.wrap (a0)) * (Go.bits .and .u64 a1 4294967295))) / 4294967296))) == (IntKind.u64.wrap ((IntKind.u64.wrap (a2 * (a3 / 4294967296))) + ((IntKind.u64.wrap (a2 * (Go.bits .and .u64 a3 4294967295))) / 4294967296)))) = true := beq_iff_eq.mpr c5
    have c5b1 : ((IntKind.u64.wrap ((IntKind.u64.wrap ((IntKind.u64.wrap (a0)) * (a1 / 4294967296))) + ((IntKind.u64.wrap ((IntKind.u64.wrap (a0)) * (Go.bits .and .u64 a1 4294967295))) / 4294967296))) != (IntKind.u64.wrap ((IntKind.u64.wrap (a2 * (a3 / 4294967296))) + ((IntKind.u64.wrap (a2 * (Go.bits .and .u64 a3 4294967295))) / 4294967296)))) = false := bne_eq_false_iff_eq.mpr c5
    clear c5
    obtain rfl := Option.some.inj H
    go_enter Try.func27, Try.ntmps27
    go_wp2
    go_ret
    exact ⟨by first | rfl | (simp; done) | (simp [*]; done), by repeat (first | exact Drawn0.refl _ | apply Drawn0.step)⟩
  · rw [if_neg c5] at H
    have c5b0 : ((IntKind.u64.wrap ((IntKind.u64.wrap ((IntKind.u64.wrap (a0)) * (a1 / 4294967296))) + ((IntKind.u64.wrap ((IntKind.u64.wrap (a0)) * (Go.bits .and .u64 a1 4294967295))) / 4294967296))) == (IntKind.u64.wrap ((IntKind.u64.wrap (a2 * (a3 / 4294967296))) + ((IntKind.u64.wrap (a2 * (Go.bits .and .u64 a3 4294967295))) / 4294967296)))) = false := beq_eq_false_iff_ne.mpr c5
    have c5b1 : ((IntKind.u64.wrap ((IntKind.u64.wrap ((IntKind.u64.wrap (a0)) * (a1 / 4294967296))) + ((IntKind.u64.wrap ((IntKind.u64.wrap (a0)) * (Go.bits .and .u64 a1 4294967295))) / 4294967296))) != (IntKind.u64.wrap ((IntKind.u64.wrap (a2 * (a3 / 4294967296))) + ((IntKind.u64.wrap (a2 * (Go.bits .and .u64 a3 4294967295))) / 4294967296)))) = true := bne_iff_ne.mpr c5
    obtain rfl := Option.some.inj H
    go_enter Try.func27, Try.ntmps27
    go_wp2
    go_ret
    exact ⟨by first | rfl | (simp; done) | (simp [*]; done), by repeat (first | exact Drawn0.refl _ | apply Drawn0.step)⟩

/-- THE ONE PURE STATEMENT of varvelaw07_less: yours. -/
def varvelaw07_less.Pure : Prop := ∀ (a0 : Int) (a1 : Int) (a2 : Int) (a3 : Int), (Lit.int .i64 a0).wf = true → (Lit.int .u64 a1).wf = true → (Lit.int .u64 a2).wf = true → (Lit.int .u64 a3).wf = true → varvelaw07_less.f a0 a1 a2 a3 = some true
theorem varvelaw07_less.walk (P : varvelaw07_less.Pure) (a0 : Int) (a1 : Int) (a2 : Int) (a3 : Int) (w : World) (w0 : (Lit.int .i64 a0).wf = true) (w1 : (Lit.int .u64 a1).wf = true) (w2 : (Lit.int .u64 a2).wf = true) (w3 : (Lit.int .u64 a3).wf = true) :
    Calls Try.prog 27 #[.int .i64 a0, .int .u64 a1, .int .u64 a2, .int .u64 a3] w fun e w' => e = .returned (.bool true) ∧ Below w.heap.size w w' := by
  have h := P a0 a1 a2 a3 w0 w1 w2 w3
  refine (varvelaw07_less.calls a0 a1 a2 a3 true w h).mono ?_
  rintro e w' ⟨rfl, hd⟩
  exact ⟨rfl, hd.below⟩

end Go.Proofs.Ytmhejpcbgknncaa.Hp
