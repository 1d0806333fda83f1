/- What the laws of this folder share, part 2: walks of functions over their Go text, and plain lemmas. Conditions: as each lemma says. -/
import Derived.Laws.MakeOwn
import Derived.BigQuiet
import Derived.Test.YtofgcacahfdjdaaProg
import Derived.Test.YtofgcacahfdjdaaRows
import Derived.Below
import Derived.Deep.Draws
import Derived.Deep.AppendLies
import Derived.Maps.AppendAt
import Derived.OwnWalk
import Derived.Laws.BytesArg
import Derived.Laws.OwnMore
import Derived.Deep.OwnRows
import Derived.Tactics
import Derived.Lib.ConvBytes
import Derived.Laws.Slices
import Derived.WalkKit
import Derived.KernelRfl
import Derived.RowKit3
import Derived.Deep.LoopGhost
import Derived.Deep.QuietTactic
import Derived.WideLaws
import Derived.Deep.DeepCutAuto
import Derived.Deep.CutBlock
import Derived.Deep.RegionHeld3
import Derived.Laws.Rows
import Derived.Lib.AppendStr
import Derived.ArgAppend
import Derived.Laws.IdiomCopy
import Derived.OrdersHeld
import Derived.Laws.BitsLemmas
import Derived.RowKit
import Derived.Test.YtofgcacahfdjdaaHzM1
namespace Go.Proofs.Ytofgcacahfdjdaa.Vt
open Go.RowKit Go.Proofs.YtofgcacahfdjdaaW.PrintWords Go.Proofs.YtofgcacahfdjdaaW.PrintLast Go.Proofs.YtofgcacahfdjdaaW.PrintMore Go.Proofs.Ytofgcacahfdjdaa.Hi Go.Proofs.Ytofgcacahfdjdaa.Q
attribute [local go_sem] max2_int min2_int max_two min_two max_three min_three max_four min_four   -- for this text's walks alone
set_option linter.unusedVariables false
set_option linter.unusedSimpArgs false
mutual
def vint_Get.l0 : Nat → List Int → Int → Int → Int → Option (Int × Int × Bool)
  | 0, _, _, _, _ => none
  | k + 1, x0, x1, x7, x8 => if x8 < 10 then (vint_Get.j1 k x0 x1 x7 x8 (decide (x1 < (x0.length : Int)))) else (vint_Get.j1 k x0 x1 x7 x8 false)
def vint_Get.j1 : Nat → List Int → Int → Int → Int → Bool → Option (Int × Int × Bool)
  | 0, _, _, _, _, _ => none
  | k + 1, x0, x1, x7, x8, x19 => if x19 = true then (if 0 ≤ x1 then (if x1 < (x0.length : Int) then (if x8 = 9 then (vint_Get.j2 k x0 (wrap64 (x1 + 1)) x7 x8 (rd x0 x1) (decide ((rd x0 x1) > 1))) else (vint_Get.j2 k x0 (wrap64 (x1 + 1)) x7 x8 (rd x0 x1) false)) else (none)) else (none)) else (some (0, 0, false))
def vint_Get.j2 : Nat → List Int → Int → Int → Int → Int → Bool → Option (Int × Int × Bool)
  | 0, _, _, _, _, _, _ => none
  | k + 1, x0, x1, x7, x8, x9, x33 => if x33 = true then (some (0, 0, false)) else (if 0 ≤ (wrap64 (7 * x8)) then (if x9 < 128 then (if x8 > 0 then (if x9 = 0 then (some (0, 0, false)) else (some (Go.bits .or .u64 x7 (shl .u64 (IntKind.u64.wrap (Go.bits .and .u8 x9 127)) (wrap64 (7 * x8))), x1, true))) else (some (Go.bits .or .u64 x7 (shl .u64 (IntKind.u64.wrap (Go.bits .and .u8 x9 127)) (wrap64 (7 * x8))), x1, true))) else (vint_Get.l0 k x0 x1 (Go.bits .or .u64 x7 (shl .u64 (IntKind.u64.wrap (Go.bits .and .u8 x9 127)) (wrap64 (7 * x8)))) (wrap64 (x8 + 1)))) else (none))
end
def vint_Get.f (k : Nat) (l0 : List Int) (a1 : Int) : Option (Int × Int × Bool) := if a1 < 0 then (some (0, 0, false)) else (vint_Get.l0 k l0 a1 0 0)
set_option maxHeartbeats 8000000 in
set_option maxRecDepth 100000 in
theorem vint_Get.calls (k : Nat) (A0 : Option Addr) (c0 : Nat) (l0 : List Int) (a1 : Int) (r1 : Int) (r2 : Int) (r3 : Bool) (w : World) (hr0 : Kd.C (Kd.int .u8) w A0 l0.length l0) (hc0 : l0.length ≤ c0) (h : vint_Get.f k l0 a1 = some (r1, r2, r3)) :
    Calls Try.prog 61 #[.slice A0 l0.length c0, .int .i64 a1] w fun e w' => e = .returned (.tuple #[.int .u64 r1, .int .i64 r2, .bool r3]) ∧ Drawn0 w w' := by
  have HR0 := Aside0.mk hr0
  have HC0 := Aside0.mk hc0
  clear hr0 hc0
  have H : (if a1 < 0 then (some (0, 0, false)) else (vint_Get.l0 k l0 a1 0 0)) = some (r1, r2, r3) := h
  clear h
  by_cases c3 : a1 < 0
  · rw [if_pos c3] at H
    have c3b0 : decide (a1 < 0) = true := decide_eq_true c3
    clear c3
    simp only [Option.some.injEq, Prod.mk.injEq] at H
    obtain ⟨rfl, rfl, rfl⟩ := H
    go_enter Try.func61, Try.ntmps61
    go_wp2
    go_ret3
    exact ⟨by first | rfl | (simp; done) | (simp [*]; done), by repeat (first | exact Drawn0.refl _ | apply Drawn0.step)⟩
  · rw [if_neg c3] at H
    have c3b0 : decide (a1 < 0) = false := decide_eq_false c3
    clear c3
    have H' := Aside0.mk H
    clear H
    go_enter Try.func61, Try.ntmps61
    go_wp2
    go_loopg [1, 7, 8] k (fun kq v1 v7 v8 w' => ∃ (x1_1 : Int) (x7_1 : Int) (x8_1 : Int), v1 = .int .i64 x1_1 ∧ v7 = .int .u64 x7_1 ∧ v8 = .int .i64 x8_1 ∧ Aside0 (vint_Get.l0 kq l0 x1_1 x7_1 x8_1 = some (r1, r2, r3)) ∧ Aside0 (kq ≤ k) ∧ Drawn0 w w')
    case atStart => exact ⟨(a1), (0), (0), (by first | rfl | (simp; done) | (simp [*]; done)), (by first | rfl | (simp; done) | (simp [*]; done)), (by first | rfl | (simp; done) | (simp [*]; done)), H', ⟨Nat.le_refl _⟩, by repeat (first | exact Drawn0.refl _ | apply Drawn0.step)⟩
    case round =>
      clear H'
      try clear p2
      try clear c3
      try clear c3b0
      obtain ⟨x1_1, x7_1, x8_1, rfl, rfl, rfl, HA, HK1, ⟨m1, rfl⟩⟩ := hrel
      cases gk with
      | zero => exact absurd HA.out (by simp [vint_Get.l0])
      | succ k1 =>
        have H := HA.out
        clear HA
        simp only [vint_Get.l0] at H
        have HC4 := Aside0.mk H
        clear H
        go_upto_region 5 with (fail)
        go_cut [19] (fun v19 wc => ∃ (kq : Nat) (x19_3 : Bool), v19 = .bool x19_3 ∧ Aside0 (vint_Get.j1 kq l0 x1_1 x7_1 x8_1 x19_3 = some (r1, r2, r3)) ∧ Aside0 (kq ≤ k1) ∧ Drawn0 w wc)
        case first =>
          have H := HC4.out
          clear HC4
          by_cases c5 : x8_1 < 10
          · rw [if_pos c5] at H
            have c5b0 : decide (x8_1 < 10) = true := decide_eq_true c5
            clear c5
            (first | rw [c5b0] | (simp only [i64_w, i32_w]; rw [c5b0]) | skip)
            have H' := Aside0.mk H
            clear H
            go_wp2
            go_meet
            case rel => exact ⟨_, (decide (x1_1 < (l0.length : Int))), (by first | rfl | (simp; done) | (simp [*]; done)), H', ⟨by have := HK1.out; first | omega | exact Nat.le_refl _⟩, by repeat (first | exact Drawn0.refl _ | apply Drawn0.step)⟩
          · rw [if_neg c5] at H
            have c5b0 : decide (x8_1 < 10) = false := decide_eq_false c5
            clear c5
            (first | rw [c5b0] | (simp only [i64_w, i32_w]; rw [c5b0]) | skip)
            have H' := Aside0.mk H
            clear H
            go_wp2
            go_meet
            case rel => exact ⟨_, (false), (by first | rfl | (simp; done) | (simp [*]; done)), H', ⟨by have := HK1.out; first | omega | exact Nat.le_refl _⟩, by repeat (first | exact Drawn0.refl _ | apply Drawn0.step)⟩
        case rest =>
          clear HC4
          try clear p2
          try clear c3
          try clear c3b0
          try clear c5
          try clear c5b0
          try clear p2
          obtain ⟨kq, x19_3, rfl, HA, HJ3, ⟨mc3, rfl⟩⟩ := hcut
          cases kq with
          | zero => exact absurd HA.out (by simp [vint_Get.j1])
          | succ kj3 =>
            have H := HA.out
            clear HA
            simp only [vint_Get.j1] at H
            by_cases c6 : x19_3 = true
            · subst c6
              have H1 : (if 0 ≤ x1_1 then (if x1_1 < (l0.length : Int) then (if x8_1 = 9 then (vint_Get.j2 kj3 l0 (wrap64 (x1_1 + 1)) x7_1 x8_1 (rd l0 x1_1) (decide ((rd l0 x1_1) > 1))) else (vint_Get.j2 kj3 l0 (wrap64 (x1_1 + 1)) x7_1 x8_1 (rd l0 x1_1) false)) else (none)) else (none)) = some (r1, r2, r3) := by rw [if_pos rfl] at H; exact H
              clear H
              have H := H1
              clear H1
              by_cases c7 : 0 ≤ x1_1
              · rw [if_pos c7] at H
                have c7b0 : decide (0 ≤ x1_1) = true := decide_eq_true c7
                clear c7
                by_cases c8 : x1_1 < (l0.length : Int)
                · rw [if_pos c8] at H
                  have c8b0 : decide (x1_1 < (l0.length : Int)) = true := decide_eq_true c8
                  clear c8
                  have HC9 := Aside0.mk H
                  clear H
                  have p101 : 0 ≤ (x1_1 : Int) := of_decide_eq_true (by first | (with_reducible assumption) | assumption)
                  have q101 : x1_1 < (l0.length : Int) := of_decide_eq_true (by first | (with_reducible assumption) | assumption)
                  obtain ⟨ad101, e101, hx101_0⟩ := Kd.at_int HR0.out x1_1 p101 q101
                  cases e101
                  replace p101 := eq_true p101
                  replace q101 := eq_true q101
                  go_upto_region 9 with (fail)
                  go_cut [33] (fun v33 wc => ∃ (kq : Nat) (x33_8 : Bool), v33 = .bool x33_8 ∧ Aside0 (vint_Get.j2 kq l0 (wrap64 (x1_1 + 1)) x7_1 x8_1 (rd l0 x1_1) x33_8 = some (r1, r2, r3)) ∧ Aside0 (kq ≤ kj3) ∧ Drawn0 w wc)
                  case first =>
                    have H := HC9.out
                    clear HC9
                    by_cases c10 : x8_1 = 9
                    · rw [if_pos c10] at H
                      have c10b0 : (x8_1 == 9) = true := beq_iff_eq.mpr c10
                      have c10b1 : (x8_1 != 9) = false := bne_eq_false_iff_eq.mpr c10
                      clear c10
                      (first | rw [c10b0] | (simp only [i64_w, i32_w]; rw [c10b0]) | skip)
                      have H' := Aside0.mk H
                      clear H
                      go_wp2
                      go_meet
                      case rel => exact ⟨_, (decide ((rd l0 x1_1) > 1)), (by first | rfl | (simp; done) | (simp [*]; done)), H', ⟨by have := HK1.out; have := HJ3.out; first | omega | exact Nat.le_refl _⟩, by repeat (first | exact Drawn0.refl _ | apply Drawn0.step)⟩
                    · rw [if_neg c10] at H
                      have c10b0 : (x8_1 == 9) = false := beq_eq_false_iff_ne.mpr c10
                      have c10b1 : (x8_1 != 9) = true := bne_iff_ne.mpr c10
                      (first | rw [c10b0] | (simp only [i64_w, i32_w]; rw [c10b0]) | skip)
                      have H' := Aside0.mk H
                      clear H
                      go_wp2
                      go_meet
                      case rel => exact ⟨_, (false), (by first | rfl | (simp; done) | (simp [*]; done)), H', ⟨by have := HK1.out; have := HJ3.out; first | omega | exact Nat.le_refl _⟩, by repeat (first | exact Drawn0.refl _ | apply Drawn0.step)⟩
                  case rest =>
                    clear HC9
                    try clear c1
                    try clear p1
                    try clear q1
                    try clear hx1
                    try clear p2
                    try clear c3
                    try clear c3b0
                    try clear c5
                    try clear c5b0
                    try clear c6
                    try clear p6
                    try clear c7
                    try clear c7b0
                    try clear c8
                    try clear c8b0
                    try clear c10
                    try clear c10b0
                    try clear c10b1
                    try clear p10
                    try clear q10
                    try clear hx10
                    try clear hx101_0
                    try clear p101
                    try clear p2
                    try clear q101
                    obtain ⟨kq, x33_8, rfl, HA, HJ8, ⟨mc8, rfl⟩⟩ := hcut
                    cases kq with
                    | zero => exact absurd HA.out (by simp [vint_Get.j2])
                    | succ kj8 =>
                      have H := HA.out
                      clear HA
                      simp only [vint_Get.j2] at H
                      by_cases c11 : x33_8 = true
                      · subst c11
                        have H1 : (some (0, 0, false)) = some (r1, r2, r3) := by rw [if_pos rfl] at H; exact H
                        clear H
                        have H := H1
                        clear H1
                        simp only [Option.some.injEq, Prod.mk.injEq] at H
                        obtain ⟨rfl, rfl, rfl⟩ := H
                        go_wp2
                        go_ret3
                        exact ⟨by first | rfl | (simp; done) | (simp [*]; done), by repeat (first | exact Drawn0.refl _ | apply Drawn0.step)⟩
                      · replace c11 := Bool.eq_false_iff.mpr c11
                        subst c11
                        have H1 : (if 0 ≤ (wrap64 (7 * x8_1)) then (if (rd l0 x1_1) < 128 then (if x8_1 > 0 then (if (rd l0 x1_1) = 0 then (some (0, 0, false)) else (some (Go.bits .or .u64 x7_1 (shl .u64 (IntKind.u64.wrap (Go.bits .and .u8 (rd l0 x1_1) 127)) (wrap64 (7 * x8_1))), (wrap64 (x1_1 + 1)), true))) else (some (Go.bits .or .u64 x7_1 (shl .u64 (IntKind.u64.wrap (Go.bits .and .u8 (rd l0 x1_1) 127)) (wrap64 (7 * x8_1))), (wrap64 (x1_1 + 1)), true))) else (vint_Get.l0 kj8 l0 (wrap64 (x1_1 + 1)) (Go.bits .or .u64 x7_1 (shl .u64 (IntKind.u64.wrap (Go.bits .and .u8 (rd l0 x1_1) 127)) (wrap64 (7 * x8_1)))) (wrap64 (x8_1 + 1)))) else (none)) = some (r1, r2, r3) := by rw [if_neg (show ¬ (false = true) by decide)] at H; exact H
                        clear H
                        have H := H1
                        clear H1
                        obtain ⟨ji12, hji12⟩ : ∃ j_ : Int, (wrap64 (7 * x8_1)) = j_ := ⟨_, rfl⟩
                        replace H : (if 0 ≤ (ji12) then (if (rd l0 x1_1) < 128 then (if x8_1 > 0 then (if (rd l0 x1_1) = 0 then (some (0, 0, false)) else (some (Go.bits .or .u64 x7_1 (shl .u64 (IntKind.u64.wrap (Go.bits .and .u8 (rd l0 x1_1) 127)) (ji12)), (wrap64 (x1_1 + 1)), true))) else (some (Go.bits .or .u64 x7_1 (shl .u64 (IntKind.u64.wrap (Go.bits .and .u8 (rd l0 x1_1) 127)) (ji12)), (wrap64 (x1_1 + 1)), true))) else (vint_Get.l0 kj8 l0 (wrap64 (x1_1 + 1)) (Go.bits .or .u64 x7_1 (shl .u64 (IntKind.u64.wrap (Go.bits .and .u8 (rd l0 x1_1) 127)) (ji12))) (wrap64 (x8_1 + 1)))) else (none)) = some (r1, r2, r3) := by first | (rw [hji12] at H; exact H) | (simp only [hji12] at H ⊢; exact H)
                        have hji12w : (IntKind.i64.wrap (7 * x8_1)) = ji12 := (i64_w _).trans hji12
                        by_cases c13 : 0 ≤ (ji12)
                        · rw [if_pos c13] at H
                          have c13b0 := eq_true c13
                          have c13b1 : decide (0 ≤ (ji12)) = true := decide_eq_true c13
                          clear c13
                          obtain ⟨ji14, hji14⟩ : ∃ j_ : Int, (shl .u64 (IntKind.u64.wrap (Go.bits .and .u8 (rd l0 x1_1) 127)) (ji12)) = j_ := ⟨_, rfl⟩
                          replace H : (if (rd l0 x1_1) < 128 then (if x8_1 > 0 then (if (rd l0 x1_1) = 0 then (some (0, 0, false)) else (some (Go.bits .or .u64 x7_1 (ji14), (wrap64 (x1_1 + 1)), true))) else (some (Go.bits .or .u64 x7_1 (ji14), (wrap64 (x1_1 + 1)), true))) else (vint_Get.l0 kj8 l0 (wrap64 (x1_1 + 1)) (Go.bits .or .u64 x7_1 (ji14)) (wrap64 (x8_1 + 1)))) = some (r1, r2, r3) := by first | (rw [hji14] at H; exact H) | (simp only [hji14] at H ⊢; exact H)
                          have hji14_ : (IntKind.u64.wrap ((IntKind.u64.wrap (Go.bits .and .u8 (rd l0 x1_1) 127)) * 2 ^ min (ji12).toNat 64)) = ji14 := hji14
                          have hji14z : (ji12) ≤ 64 → (IntKind.u64.wrap ((IntKind.u64.wrap (Go.bits .and .u8 (rd l0 x1_1) 127)) * 2 ^ (ji12).toNat)) = ji14 := shl_small hji14
                          by_cases c15 : (rd l0 x1_1) < 128
                          · rw [if_pos c15] at H
                            have c15b0 : decide ((rd l0 x1_1) < 128) = true := decide_eq_true c15
                            clear c15
                            by_cases c16 : x8_1 > 0
                            · rw [if_pos c16] at H
                              have c16b0 : decide (0 < x8_1) = true := decide_eq_true c16
                              clear c16
                              by_cases c17 : (rd l0 x1_1) = 0
                              · rw [if_pos c17] at H
                                have c17b0 : ((rd l0 x1_1) == 0) = true := beq_iff_eq.mpr c17
                                have c17b1 : ((rd l0 x1_1) != 0) = false := bne_eq_false_iff_eq.mpr c17
                                clear c17
                                simp only [Option.some.injEq, Prod.mk.injEq] at H
                                obtain ⟨rfl, rfl, rfl⟩ := H
                                go_wp2
                                go_ret3
                                exact ⟨by first | rfl | (simp; done) | (simp only [← hji12, ← hji14] <;> (first | rfl | simp)) | (simp [*]; done), by repeat (first | exact Drawn0.refl _ | apply Drawn0.step)⟩
                              · rw [if_neg c17] at H
                                have c17b0 : ((rd l0 x1_1) == 0) = false := beq_eq_false_iff_ne.mpr c17
                                have c17b1 : ((rd l0 x1_1) != 0) = true := bne_iff_ne.mpr c17
                                simp only [Option.some.injEq, Prod.mk.injEq] at H
                                obtain ⟨rfl, rfl, rfl⟩ := H
                                go_wp2
                                go_ret3
                                exact ⟨by first | rfl | (simp; done) | (simp only [← hji12, ← hji14] <;> (first | rfl | simp)) | (simp [*]; done), by repeat (first | exact Drawn0.refl _ | apply Drawn0.step)⟩
                            · rw [if_neg c16] at H
                              have c16b0 : decide (0 < x8_1) = false := decide_eq_false c16
                              clear c16
                              simp only [Option.some.injEq, Prod.mk.injEq] at H
                              obtain ⟨rfl, rfl, rfl⟩ := H
                              go_wp2
                              go_ret3
                              exact ⟨by first | rfl | (simp; done) | (simp only [← hji12, ← hji14] <;> (first | rfl | simp)) | (simp [*]; done), by repeat (first | exact Drawn0.refl _ | apply Drawn0.step)⟩
                          · rw [if_neg c15] at H
                            have c15b0 : decide ((rd l0 x1_1) < 128) = false := decide_eq_false c15
                            clear c15
                            have H' := Aside0.mk H
                            clear H
                            go_wp2
                            go_roundg kj8
                            case measure => have := HK1.out; have := HJ3.out; have := HJ8.out; omega
                            case rel => exact ⟨((wrap64 (x1_1 + 1))), (Go.bits .or .u64 x7_1 (ji14)), (wrap64 (x8_1 + 1)), (by first | rfl | (simp; done) | (simp [*]; done)), (by first | rfl | (simp; done) | (simp only [← hji14] <;> (first | rfl | simp)) | (simp [*]; done)), (by first | rfl | (simp; done) | (simp [*]; done)), H', ⟨by have := HK1.out; have := HJ3.out; have := HJ8.out; omega⟩, by repeat (first | exact Drawn0.refl _ | apply Drawn0.step)⟩
                        · rw [if_neg c13] at H
                          exact absurd H (by simp)
                · rw [if_neg c8] at H
                  exact absurd H (by simp)
              · rw [if_neg c7] at H
                exact absurd H (by simp)
            · replace c6 := Bool.eq_false_iff.mpr c6
              subst c6
              have H1 : (some (0, 0, false)) = some (r1, r2, r3) := by rw [if_neg (show ¬ (false = true) by decide)] at H; exact H
              clear H
              have H := H1
              clear H1
              simp only [Option.some.injEq, Prod.mk.injEq] at H
              obtain ⟨rfl, rfl, rfl⟩ := H
              go_wp2
              go_ret3
              exact ⟨by first | rfl | (simp; done) | (simp [*]; done), by repeat (first | exact Drawn0.refl _ | apply Drawn0.step)⟩
def slices_Equal_byte_byte.l0 : Nat → List Int → List Int → Int → Int → Option (Bool)
  | 0, _, _, _, _ => none
  | k + 1, x0, x1, x12, x13 => if x13 < x12 then (if 0 ≤ x13 then (if x13 < (x0.length : Int) then (if x13 < (x1.length : Int) then (if (rd x0 x13) = (rd x1 x13) then (slices_Equal_byte_byte.l0 k x0 x1 x12 (wrap64 (x13 + 1))) else (some false)) else (none)) else (none)) else (none)) else (some true)
def slices_Equal_byte_byte.f (k : Nat) (l0 : List Int) (l1 : List Int) : Option (Bool) := if (l0.length : Int) = (l1.length : Int) then (slices_Equal_byte_byte.l0 k l0 l1 (l0.length : Int) 0) else (some false)
theorem slices_Equal_byte_byte.mono_l : ∀ k, (∀ y0 y1 y2 y3, LeO (slices_Equal_byte_byte.l0 k y0 y1 y2 y3) (slices_Equal_byte_byte.l0 (k + 1) y0 y1 y2 y3))
  | 0 => fun _ _ _ _ r h => by simp [slices_Equal_byte_byte.l0] at h
  | k + 1 => by
    have ih0 := slices_Equal_byte_byte.mono_l k
    · intro y0 y1 y2 y3
      unfold slices_Equal_byte_byte.l0
      repeat' first
      | (with_reducible exact ih0 _ _ _ _)
      | (with_reducible exact LeO.refl _)
      | (with_reducible exact LeO.none _)
      | (with_reducible refine LeO.ite ?_ ?_)
      | (with_reducible refine LeO.bind ?_ (fun _ => ?_))
      | exact ih0 _ _ _ _
      | exact LeO.none _
      | refine LeO.ite ?_ ?_
      | refine LeO.bind ?_ (fun _ => ?_)
theorem slices_Equal_byte_byte.mono : ∀ a0 a1 k, LeO (slices_Equal_byte_byte.f k a0 a1) (slices_Equal_byte_byte.f (k + 1) a0 a1) := by
  intro a0 a1 k
  have ih0 := slices_Equal_byte_byte.mono_l k
  unfold slices_Equal_byte_byte.f
  repeat' first
      | (with_reducible exact ih0 _ _ _ _)
      | (with_reducible exact LeO.refl _)
      | (with_reducible exact LeO.none _)
      | (with_reducible refine LeO.ite ?_ ?_)
      | (with_reducible refine LeO.bind ?_ (fun _ => ?_))
      | exact ih0 _ _ _ _
      | exact LeO.none _
      | refine LeO.ite ?_ ?_
      | refine LeO.bind ?_ (fun _ => ?_)
set_option maxHeartbeats 8000000 in
set_option maxRecDepth 100000 in
theorem slices_Equal_byte_byte.calls (k : Nat) (A0 : Option Addr) (c0 : Nat) (l0 : List Int) (A1 : Option Addr) (c1 : Nat) (l1 : List Int) (r : Bool) (w : World) (hr0 : Kd.C (Kd.int .u8) w A0 l0.length l0) (hc0 : l0.length ≤ c0) (hr1 : Kd.C (Kd.int .u8) w A1 l1.length l1) (hc1 : l1.length ≤ c1) (h : slices_Equal_byte_byte.f k l0 l1 = some r) :
    Calls Try.prog 35 #[.slice A0 l0.length c0, .slice A1 l1.length c1] w fun e w' => e = .returned (.bool r) ∧ Drawn0 w w' := by
  have HR0 := Aside0.mk hr0
  have HC0 := Aside0.mk hc0
  clear hr0 hc0
  have HR1 := Aside0.mk hr1
  have HC1 := Aside0.mk hc1
  clear hr1 hc1
  have H : (if (l0.length : Int) = (l1.length : Int) then (slices_Equal_byte_byte.l0 k l0 l1 (l0.length : Int) 0) else (some false)) = some r := h
  clear h
  by_cases c3 : (l0.length : Int) = (l1.length : Int)
  · rw [if_pos c3] at H
    have c3b0 : ((l0.length : Int) == (l1.length : Int)) = true := beq_iff_eq.mpr c3
    have c3b1 : ((l0.length : Int) != (l1.length : Int)) = false := bne_eq_false_iff_eq.mpr c3
    have c3b2 : (l0.length == l1.length) = true := by first | simpa using c3 | (simp at c3 ⊢; omega)
    clear c3
    have H' := Aside0.mk H
    clear H
    go_enter Try.func35, Try.ntmps35
    go_wp2
    repeat (go_quiet (fail); try go_wp2)
    go_loopg [13] k (fun kq v13 w' => ∃ (x13_1 : Int), v13 = .int .i64 x13_1 ∧ Aside0 (slices_Equal_byte_byte.l0 kq l0 l1 (l0.length : Int) x13_1 = some r) ∧ Aside0 (kq ≤ k) ∧ Drawn0 w w')
    case atStart => exact ⟨(0), (by first | rfl | (simp; done) | (simp [*]; done)), H', ⟨Nat.le_refl _⟩, by repeat (first | exact Drawn0.refl _ | apply Drawn0.step)⟩
    case round =>
      clear H'
      try clear c1
      try clear p2
      try clear c3
      try clear c3b0
      try clear c3b1
      try clear c3b2
      obtain ⟨x13_1, rfl, HA, HK1, ⟨m1, rfl⟩⟩ := hrel
      cases gk with
      | zero => exact absurd HA.out (by simp [slices_Equal_byte_byte.l0])
      | succ k1 =>
        have H := HA.out
        clear HA
        simp only [slices_Equal_byte_byte.l0] at H
        by_cases c4 : x13_1 < (l0.length : Int)
        · rw [if_pos c4] at H
          have c4b0 : decide (x13_1 < (l0.length : Int)) = true := decide_eq_true c4
          clear c4
          by_cases c5 : 0 ≤ x13_1
          · rw [if_pos c5] at H
            have c5b0 : decide (0 ≤ x13_1) = true := decide_eq_true c5
            clear c5
            by_cases c6 : x13_1 < (l0.length : Int)
            · rw [if_pos c6] at H
              have c6b0 : decide (x13_1 < (l0.length : Int)) = true := decide_eq_true c6
              clear c6
              by_cases c7 : x13_1 < (l1.length : Int)
              · rw [if_pos c7] at H
                have c7b0 : decide (x13_1 < (l1.length : Int)) = true := decide_eq_true c7
                clear c7
                by_cases c8 : (rd l0 x13_1) = (rd l1 x13_1)
                · rw [if_pos c8] at H
                  have c8b0 : ((rd l0 x13_1) == (rd l1 x13_1)) = true := beq_iff_eq.mpr c8
                  have c8b1 : ((rd l0 x13_1) != (rd l1 x13_1)) = false := bne_eq_false_iff_eq.mpr c8
                  clear c8
                  have H' := Aside0.mk H
                  clear H
                  have p102 : 0 ≤ (x13_1 : Int) := of_decide_eq_true (by first | (with_reducible assumption) | assumption)
                  have q102 : x13_1 < (l0.length : Int) := of_decide_eq_true (by first | (with_reducible assumption) | assumption)
                  obtain ⟨ad102, e102, hx102_0⟩ := Kd.at_int HR0.out x13_1 p102 q102
                  cases e102
                  replace p102 := eq_true p102
                  replace q102 := eq_true q102
                  have p103 : 0 ≤ (x13_1 : Int) := of_decide_eq_true (by first | (with_reducible assumption) | assumption)
                  have q103 : x13_1 < (l1.length : Int) := of_decide_eq_true (by first | (with_reducible assumption) | assumption)
                  obtain ⟨ad103, e103, hx103_0⟩ := Kd.at_int HR1.out x13_1 p103 q103
                  cases e103
                  replace p103 := eq_true p103
                  replace q103 := eq_true q103
                  go_wp2
                  repeat (go_quiet (fail); try go_wp2)
                  go_roundg k1
                  case measure => have := HK1.out; omega
                  case rel => exact ⟨(wrap64 (x13_1 + 1)), (by first | rfl | (simp; done) | (simp [*]; done)), H', ⟨by have := HK1.out; omega⟩, by repeat (first | exact Drawn0.refl _ | apply Drawn0.step)⟩
                · rw [if_neg c8] at H
                  have c8b0 : ((rd l0 x13_1) == (rd l1 x13_1)) = false := beq_eq_false_iff_ne.mpr c8
                  have c8b1 : ((rd l0 x13_1) != (rd l1 x13_1)) = true := bne_iff_ne.mpr c8
                  obtain rfl := Option.some.inj H
                  have p102 : 0 ≤ (x13_1 : Int) := of_decide_eq_true (by first | (with_reducible assumption) | assumption)
                  have q102 : x13_1 < (l0.length : Int) := of_decide_eq_true (by first | (with_reducible assumption) | assumption)
                  obtain ⟨ad102, e102, hx102_0⟩ := Kd.at_int HR0.out x13_1 p102 q102
                  cases e102
                  replace p102 := eq_true p102
                  replace q102 := eq_true q102
                  have p103 : 0 ≤ (x13_1 : Int) := of_decide_eq_true (by first | (with_reducible assumption) | assumption)
                  have q103 : x13_1 < (l1.length : Int) := of_decide_eq_true (by first | (with_reducible assumption) | assumption)
                  obtain ⟨ad103, e103, hx103_0⟩ := Kd.at_int HR1.out x13_1 p103 q103
                  cases e103
                  replace p103 := eq_true p103
                  replace q103 := eq_true q103
                  go_wp2
                  repeat (go_quiet (fail); try go_wp2)
                  go_ret
                  exact ⟨by first | rfl | (simp; done) | (simp [*]; done), by repeat (first | exact Drawn0.refl _ | apply Drawn0.step)⟩
              · rw [if_neg c7] at H
                exact absurd H (by simp)
            · rw [if_neg c6] at H
              exact absurd H (by simp)
          · rw [if_neg c5] at H
            exact absurd H (by simp)
        · rw [if_neg c4] at H
          have c4b0 : decide (x13_1 < (l0.length : Int)) = false := decide_eq_false c4
          clear c4
          obtain rfl := Option.some.inj H
          go_wp2
          repeat (go_quiet (fail); try go_wp2)
          go_ret
          exact ⟨by first | rfl | (simp; done) | (simp [*]; done), by repeat (first | exact Drawn0.refl _ | apply Drawn0.step)⟩
  · rw [if_neg c3] at H
    have c3b0 : ((l0.length : Int) == (l1.length : Int)) = false := beq_eq_false_iff_ne.mpr c3
    have c3b1 : ((l0.length : Int) != (l1.length : Int)) = true := bne_iff_ne.mpr c3
    have c3b2 : (l0.length == l1.length) = false := by first | simpa using c3 | (simp at c3 ⊢; omega)
    obtain rfl := Option.some.inj H
    go_enter Try.func35, Try.ntmps35
    go_wp2
    repeat (go_quiet (fail); try go_wp2)
    go_ret
    exact ⟨by first | rfl | (simp; done) | (simp [*]; done), by repeat (first | exact Drawn0.refl _ | apply Drawn0.step)⟩
/-- THE ONE PURE STATEMENT of slices_Equal_byte_byte: yours. -/
def slices_Equal_byte_byte.Pure : Prop := ∀ (l0 : List Int) (l1 : List Int), l0.length ≤ maxLen → l0.length * 1 ≤ 140737488351232 → (∀ x ∈ l0, (Lit.int .u8 x).wf = true) → l1.length ≤ maxLen → l1.length * 1 ≤ 140737488351232 → (∀ x ∈ l1, (Lit.int .u8 x).wf = true) → ∃ k, slices_Equal_byte_byte.f k l0 l1 = some true
theorem slices_Equal_byte_byte.walk (P : slices_Equal_byte_byte.Pure) (a0 : Option Addr) (len0 cap0 : Nat) (z0 : List Int) (a1 : Option Addr) (len1 cap1 : Nat) (z1 : List Int) (w : World) (w0 : (a0 = none ∧ len0 = 0 ∧ cap0 = 0 ∧ z0 = []) ∨ ∃ x, a0 = some x ∧ len0 ≤ cap0 ∧ cap0 ≤ maxLen ∧ z0.length = cap0 ∧ (∀ i, i < z0.length → w.cell? (x.add i) = some (.int .u8 (z0.getD i 0))) ∧ ∀ n ∈ z0, (Lit.int .u8 n).wf = true) (y0 : len0 * 1 ≤ 140737488351232) (w1 : (a1 = none ∧ len1 = 0 ∧ cap1 = 0 ∧ z1 = []) ∨ ∃ x, a1 = some x ∧ len1 ≤ cap1 ∧ cap1 ≤ maxLen ∧ z1.length = cap1 ∧ (∀ i, i < z1.length → w.cell? (x.add i) = some (.int .u8 (z1.getD i 0))) ∧ ∀ n ∈ z1, (Lit.int .u8 n).wf = true) (y1 : len1 * 1 ≤ 140737488351232) :
    Calls Try.prog 35 #[.slice a0 len0 cap0, .slice a1 len1 cap1] w fun e w' => e = .returned (.bool true) ∧ Below w.heap.size w w' := by
  obtain ⟨l0, rfl, hr0, hm0, hw0, hc0⟩ := ReadsInt.ofRowC w0
  obtain ⟨l1, rfl, hr1, hm1, hw1, hc1⟩ := ReadsInt.ofRowC w1
  obtain ⟨k, h⟩ := P l0 l1 hm0 y0 hw0 hm1 y1 hw1
  refine (slices_Equal_byte_byte.calls k _ _ l0 _ _ l1 true w (Kd.C_of_reads (d := (0 : Int)) (h1 := fun _ => rfl) hr0) hc0 (Kd.C_of_reads (d := (0 : Int)) (h1 := fun _ => rfl) hr1) hc1 h).mono ?_
  rintro e w' ⟨rfl, hd⟩
  exact ⟨rfl, hd.below⟩
def varvelaw00_Bytes.f (l0 : List Int) : Option (List Int) := if ([] : List Int).length + l0.length < 140737488355328 then (some (([] : List Int) ++ l0)) else (none)
set_option maxHeartbeats 8000000 in
set_option maxRecDepth 100000 in
theorem varvelaw00_Bytes.calls (A0 : Option Addr) (c0 : Nat) (l0 : List Int) (r : List Int) (w : World) (hr0 : Kd.C (Kd.int .u8) w A0 l0.length l0) (hc0 : l0.length ≤ c0) (h : varvelaw00_Bytes.f l0 = some r) :
    Calls Try.prog 9 #[.slice A0 l0.length c0] w fun e w' => ∃ v0_ : Value, e = .returned (v0_) ∧ Kd.R (Kd.int .u8) 5 w' w.heap.size (fun _ => True) v0_ r ∧ Below w.heap.size w w' := by
  have HR0 := Aside0.mk hr0
  have HC0 := Aside0.mk hc0
  clear hr0 hc0
  have HB := Aside0.mk (Below.refl w.heap.size w)
  have H : (if ([] : List Int).length + l0.length < 140737488355328 then (some (([] : List Int) ++ l0)) else (none)) = some r := h
  clear h
  by_cases c2 : ([] : List Int).length + l0.length < 140737488355328
  · rw [if_pos c2] at H
    have LMc2 := Aside0.mk c2
    clear c2
    obtain ⟨y104, hy104⟩ : ∃ y_ : List Int, y_ = (([] : List Int) ++ l0) := ⟨_, rfl⟩
    replace H : (some y104) = some r := by first | (rw [hy104]; with_reducible exact H) | (have H2_ := (Option.bind_some _ _).symm.trans H; rw [hy104]; with_reducible exact H2_) | (have H2_ := (Option.bind_some _ _).symm.trans H; with_reducible exact H2_) | with_reducible exact H | (rw [hy104]; exact H) | exact H
    have Ny104 := Aside0.mk hy104
    clear hy104
    obtain rfl := Option.some.inj H
    go_enter Try.func9, Try.ntmps9
    go_wp2_with (first | ((with_reducible refine gate_builtin (b := .append) (xs := #[.const (.slice none 0 0), .tmp 3]) rfl ?_); at_builtin; refine Kd.R_append_rows (Kd.int .u8) (w0 := w) w.heap.size rfl (.const (.slice none 0 0)) (.tmp 3) 22 5 (.int .u8 0) 1 rfl Try.underlying22 info5 rfl (by decide) (by omega) (.slice none 0 0) ([] : List Int) l0 _ _ _ (fun _ => True) (fun _ => False) rfl rfl ?aO ?aR (fun _ _ h => h) (fun _ h => h.elim) ?aF ?aB ?aS ?aL ?_; (case aR => repeat (first | exact HR0.out | (with_reducible refine Kd.C_alloc ?_ _) | (with_reducible refine Kd.C_drewN ?_ _) | (with_reducible refine Kd.C_drew ?_))); (case aB => exact (by repeat (first | (with_reducible first | exact HB.out | apply below_alloc | apply pw_below_drewN | apply below_drew1) | exact HB.out))); (case aF => exact (fun _ _ => trivial)); (case aO => exact ((Kd.R_nil _ _ _ _ (fun _ => True)))); (case aS => exact (below_size (by repeat (first | (with_reducible first | exact HB.out | apply below_alloc | apply pw_below_drewN | apply below_drew1) | exact HB.out)))); (case aL => have := LMc2.out; omega); intro v105 w3 ho hb hg hat; rw [← Ny104.out] at ho; have n0_ := Aside0.mk (hb); have n1_ := Aside0.mk (ho); clear HB; have HB := n0_; have HO106 := n1_; clear n0_ n1_; clear ho hb hg hat))
    go_ret
    exact ⟨_, by first | rfl | (simp [errW_none, errW_some] <;> rfl) | (simp [*, errW_none, errW_some] <;> rfl), by (with_reducible repeat (first | apply Kd.R_alloc | apply Kd.R_drewN | apply Kd.R_drew)); exact HO106.out, by repeat (first | (with_reducible first | exact HB.out | apply below_alloc | apply pw_below_drewN | apply below_drew1) | exact HB.out)⟩
  · rw [if_neg c2] at H
    exact absurd H (by simp)
def varveref04_Put.f (a0 : Int) : Option (List Int) := if 0 ≤ a0 ∧ a0 < 18446744073709551616 then some (encN a0.toNat) else none
theorem varveref04_Put.calls (a0 : Int) (r : List Int) (w : World) (h : varveref04_Put.f a0 = some r) :
    Calls Try.prog 49 #[.int .u64 a0] w fun e w' => ∃ v0_ : Value, e = .returned (v0_) ∧ Kd.R (Kd.int .u8) 5 w' w.heap.size (fun _ => True) v0_ r ∧ Below w.heap.size w w' := by
  unfold varveref04_Put.f at h
  split at h
  case isTrue hr =>
    obtain rfl := Option.some.inj h
    obtain ⟨n, rfl⟩ := Int.eq_ofNat_of_zero_le hr.1
    rw [Int.toNat_natCast]
    exact rput_any n (by omega) w
  case isFalse => cases h
def varveref07_sparse.l0 : Nat → List (S67) → List Int → Int → Option (List Int)
  | 0, _, _, _ => none
  | k + 1, x0, x3, x4 => if x4 < (x0.length : Int) then (if 0 ≤ x4 then (if x4 > 0 then (if 0 ≤ (wrap64 (x4 - 1)) then (if (wrap64 (x4 - 1)) < (x0.length : Int) then ((varveref04_Put.f (IntKind.u64.wrap (wrap64 ((wrap64 (((rd_T67 x0 x4).f0) - ((rd_T67 x0 (wrap64 (x4 - 1))).f0))) - 1)))).bind fun t121 => (if x3.length + t121.length < 140737488355328 then ((some (x3 ++ t121 : List Int)).bind fun y124 => ((varveref04_Put.f ((rd_T67 x0 x4).f1)).bind fun t128 => (if y124.length + t128.length < 140737488355328 then (varveref07_sparse.l0 k x0 (y124 ++ t128) (wrap64 (x4 + 1))) else (none)))) else (none))) else (none)) else (none)) else ((varveref04_Put.f (IntKind.u64.wrap ((rd_T67 x0 x4).f0))).bind fun t134 => (if x3.length + t134.length < 140737488355328 then ((some (x3 ++ t134 : List Int)).bind fun y137 => ((varveref04_Put.f ((rd_T67 x0 x4).f1)).bind fun t141 => (if y137.length + t141.length < 140737488355328 then (varveref07_sparse.l0 k x0 (y137 ++ t141) (wrap64 (x4 + 1))) else (none)))) else (none)))) else (none)) else (some x3)
def varveref07_sparse.f (k : Nat) (l0 : List (S67)) : Option (List Int) := (some (([0] : List Int) : List Int)).bind fun y110 => ((varveref04_Put.f (IntKind.u64.wrap ((l0.length : Int)))).bind fun t113 => (if y110.length + t113.length < 140737488355328 then (varveref07_sparse.l0 k l0 (y110 ++ t113) 0) else (none)))
theorem varveref07_sparse.mono_l : ∀ k, (∀ y0 y1 y2, LeO (varveref07_sparse.l0 k y0 y1 y2) (varveref07_sparse.l0 (k + 1) y0 y1 y2))
  | 0 => fun _ _ _ r h => by simp [varveref07_sparse.l0] at h
  | k + 1 => by
    have ih0 := varveref07_sparse.mono_l k
    · intro y0 y1 y2
      unfold varveref07_sparse.l0
      repeat' first
      | (with_reducible exact ih0 _ _ _)
      | (with_reducible exact LeO.refl _)
      | (with_reducible exact LeO.none _)
      | (with_reducible refine LeO.ite ?_ ?_)
      | (with_reducible refine LeO.bind ?_ (fun _ => ?_))
      | exact ih0 _ _ _
      | exact LeO.none _
      | refine LeO.ite ?_ ?_
      | refine LeO.bind ?_ (fun _ => ?_)
theorem varveref07_sparse.mono : ∀ a0 k, LeO (varveref07_sparse.f k a0) (varveref07_sparse.f (k + 1) a0) := by
  intro a0 k
  have ih0 := varveref07_sparse.mono_l k
  unfold varveref07_sparse.f
  repeat' first
      | (with_reducible exact ih0 _ _ _)
      | (with_reducible exact LeO.refl _)
      | (with_reducible exact LeO.none _)
      | (with_reducible refine LeO.ite ?_ ?_)
      | (with_reducible refine LeO.bind ?_ (fun _ => ?_))
      | exact ih0 _ _ _
      | exact LeO.none _
      | refine LeO.ite ?_ ?_
      | refine LeO.bind ?_ (fun _ => ?_)
set_option maxHeartbeats 8000000 in
set_option maxRecDepth 100000 in
theorem varveref07_sparse.calls (k : Nat) (A0 : Option Addr) (c0 : Nat) (l0 : List (S67)) (r : List Int) (w : World) (hr0 : Kd.C k67 w A0 l0.length l0) (hc0 : l0.length ≤ c0) (h : varveref07_sparse.f k l0 = some r) :
    Calls Try.prog 45 #[.slice A0 l0.length c0] w fun e w' => ∃ v0_ : Value, e = .returned (v0_) ∧ Kd.R (Kd.int .u8) 5 w' w.heap.size (fun _ => True) v0_ r ∧ Below w.heap.size w w' := by
  have HR0 := Aside0.mk hr0
  have HC0 := Aside0.mk hc0
  clear hr0 hc0
  have HB := Aside0.mk (Below.refl w.heap.size w)
  have H : ((some (([0] : List Int) : List Int)).bind fun y110 => ((varveref04_Put.f (IntKind.u64.wrap ((l0.length : Int)))).bind fun t113 => (if y110.length + t113.length < 140737488355328 then (varveref07_sparse.l0 k l0 (y110 ++ t113) 0) else (none)))) = some r := h
  clear h
  obtain ⟨y110, hy110⟩ : ∃ y_ : List Int, y_ = (([0] : List Int)) := ⟨_, rfl⟩
  replace H : ((varveref04_Put.f (IntKind.u64.wrap ((l0.length : Int)))).bind fun t113 => (if y110.length + t113.length < 140737488355328 then (varveref07_sparse.l0 k l0 (y110 ++ t113) 0) else (none))) = some r := by first | (rw [hy110]; with_reducible exact H) | (have H2_ := (Option.bind_some _ _).symm.trans H; rw [hy110]; with_reducible exact H2_) | (have H2_ := (Option.bind_some _ _).symm.trans H; with_reducible exact H2_) | with_reducible exact H | (rw [hy110]; exact H) | exact H
  have Ny110 := Aside0.mk hy110
  clear hy110
  replace H := Option.bind_eq_some_iff.mp H
  obtain ⟨t113, A20, H⟩ := H
  replace H : (if y110.length + t113.length < 140737488355328 then (varveref07_sparse.l0 k l0 (y110 ++ t113) 0) else (none)) = some r := H
  have A2 := Aside0.mk A20
  clear A20
  by_cases c3 : y110.length + t113.length < 140737488355328
  · rw [if_pos c3] at H
    have LMc3 := Aside0.mk c3
    clear c3
    obtain ⟨y116, hy116⟩ : ∃ y_ : List Int, y_ = (y110 ++ t113) := ⟨_, rfl⟩
    replace H : (varveref07_sparse.l0 k l0 y116 0) = some r := by first | (rw [hy116]; with_reducible exact H) | (have H2_ := (Option.bind_some _ _).symm.trans H; rw [hy116]; with_reducible exact H2_) | (have H2_ := (Option.bind_some _ _).symm.trans H; with_reducible exact H2_) | with_reducible exact H | (rw [hy116]; exact H) | exact H
    have Ny116 := Aside0.mk hy116
    clear hy116
    have H' := Aside0.mk H
    clear H
    go_enter Try.func45, Try.ntmps45
    go_wp2_with (first | ((with_reducible refine gate_dst (N := 6) rfl ?_); refine Kd.R_lit (Kd.int .u8) _ 5 ?hg (N := 6) ?hd (xs := ([0] : List Int)) (inner := [.int .u8 0]) (ok := fun _ => True) (okp := fun _ => True) ?hr ?hp (fun _ hk => hk) trivial (Below.refl _ _) (Nat.le_refl _) (by simp) ?_; (case hd => rfl); (case hg => rfl); (case hr => first | (go_simp; done) | (go_simp; rfl)); (case hp => exact (Reps.one (show Kd.M (Kd.int .u8) _ _ _ 0 [.int .u8 0] from rfl) (Reps.none _ _))); intro v111 w4 ho5 hb hg_ hnew_; clear hg_ hnew_; (first | rw [← Ny110.out] at ho5 | (simp only [Int.reduceToNat] at ho5; rw [← Ny110.out] at ho5)); have n0_ := Aside0.mk (Kd.R_lower ho5 (below_size (by repeat (first | (with_reducible first | exact HB.out | apply below_alloc | apply pw_below_drewN | apply below_drew1) | exact HB.out)))); have n1_ := Aside0.mk (below_step (by repeat (first | (with_reducible first | exact HB.out | apply below_alloc | apply pw_below_drewN | apply below_drew1) | exact HB.out)) hb); clear HB; have HO112 := n0_; have HB := n1_; clear n0_ n1_; clear hb ho5) | ((with_reducible refine gate_callee (f := 49) rfl ?_); refine goesL_ (some 10) rfl rfl Try.func49 (by kernel_rfl) rfl #[.int .u64 (IntKind.u64.wrap ((l0.length : Int)))] rfl (by (try simp only [List.map_toArray, List.map_cons, List.map_nil]); first | done | rfl | (simp only [List.length_drop, List.length_take]; rfl)) ?_; (with_reducible refine (varveref04_Put.calls (IntKind.u64.wrap ((l0.length : Int))) t113 _ A2.out).mono ?_); rintro e w6 ⟨v114, rfl, ho0, hb⟩; refine ⟨_, rfl, ?_⟩; have n0_ := Aside0.mk (Kd.R_elder' (by (with_reducible repeat (first | apply Kd.R_alloc | apply Kd.R_drewN | apply Kd.R_drew)); exact HO112.out) (Kd.R_base ho0) hb); have n1_ := Aside0.mk (Kd.R_lower (Kd.R_new' ho0 (Kd.R_lt (by (with_reducible repeat (first | apply Kd.R_alloc | apply Kd.R_drewN | apply Kd.R_drew)); exact HO112.out))) (below_size (by repeat (first | (with_reducible first | exact HB.out | apply below_alloc | apply pw_below_drewN | apply below_drew1) | exact HB.out)))); have n2_ := Aside0.mk (below_step (by repeat (first | (with_reducible first | exact HB.out | apply below_alloc | apply pw_below_drewN | apply below_drew1) | exact HB.out)) hb); clear HO112; clear HB; have HO112 := n0_; have HO115 := n1_; have HB := n2_; clear n0_ n1_ n2_; (try clear hb); (try clear hb2); (try clear hk); (try clear hi); (try clear ho0); obtain ⟨Ao8, co8, eo8⟩ := Kd.R_slice HO115.out; subst eo8) | ((with_reducible refine gate_builtin (b := .append) (xs := #[.tmp 6, .tmp 10]) rfl ?_); at_builtin; refine Kd.R_append_rows (Kd.int .u8) (w0 := w) w.heap.size rfl (.tmp 6) (.tmp 10) 22 5 (.int .u8 0) 1 rfl Try.underlying22 info5 rfl (by decide) (by omega) v111 y110 t113 _ _ _ (fun k_ => some k_ ≠ (.slice Ao8 t113.length co8 : Value).ownBlock) (fun _ => False) rfl rfl ?aO ?aR (fun _ _ h => h) (fun _ h => h.elim) ?aF ?aB ?aS ?aL ?_; (case aR => repeat (first | exact (Kd.R_reads' HO115.out).2.2 | (with_reducible refine Kd.C_alloc ?_ _) | (with_reducible refine Kd.C_drewN ?_ _) | (with_reducible refine Kd.C_drew ?_))); (case aB => exact (by repeat (first | (with_reducible first | exact HB.out | apply below_alloc | apply pw_below_drewN | apply below_drew1) | exact HB.out))); (case aF => exact (fun k_ hk => Kd.fresh' (Kd.R_lt (by (with_reducible repeat (first | apply Kd.R_alloc | apply Kd.R_drewN | apply Kd.R_drew)); exact HO115.out)) k_ hk)); (case aO => exact (by (with_reducible repeat (first | apply Kd.R_alloc | apply Kd.R_drewN | apply Kd.R_drew)); exact Kd.R_mono HO112.out (fun _ hk => hk.2))); (case aS => exact (below_size (by repeat (first | (with_reducible first | exact HB.out | apply below_alloc | apply pw_below_drewN | apply below_drew1) | exact HB.out)))); (case aL => have := LMc3.out; omega); intro v117 w7 ho hb hg hat; rw [← Ny116.out] at ho; have n0_ := Aside0.mk (Kd.R_after (ok := (fun _ => True)) (by (with_reducible repeat (first | apply Kd.R_alloc | apply Kd.R_drewN | apply Kd.R_drew)); exact HO115.out) hg hat); have n1_ := Aside0.mk (hb); have n2_ := Aside0.mk (ho); clear HO115; clear HB; clear HO112; have HO115 := n0_; have HB := n1_; have HO118 := n2_; clear n0_ n1_ n2_; clear ho hb hg hat))
    go_loopg [3, 4] k (fun kq v3 v4 w' => ∃ (x3_1 : List Int) (x4_1 : Int), v4 = .int .i64 x4_1 ∧ Aside0 (varveref07_sparse.l0 kq l0 x3_1 x4_1 = some r) ∧ Aside0 (kq ≤ k) ∧ Aside0 (Kd.R (Kd.int .u8) 5 w' w.heap.size (fun _ => True) v3 x3_1) ∧ Aside0 (Below w.heap.size w w'))
    case atStart => exact ⟨(y116), (0), (by first | rfl | (simp; done) | (simp [*]; done)), H', ⟨Nat.le_refl _⟩, ⟨by (with_reducible repeat (first | apply Kd.R_alloc | apply Kd.R_drewN | apply Kd.R_drew)); exact Kd.R_mono HO118.out (fun _ hk => trivial)⟩, ⟨by repeat (first | (with_reducible first | exact HB.out | apply below_alloc | apply pw_below_drewN | apply below_drew1) | exact HB.out)⟩⟩
    case round =>
      clear H'
      try clear p2
      try clear c3
      try clear c4
      obtain ⟨x3_1, x4_1, rfl, HA, HK1, HO_3, HB⟩ := hrel
      cases gk with
      | zero => exact absurd HA.out (by simp [varveref07_sparse.l0])
      | succ k1 =>
        have H := HA.out
        clear HA
        simp only [varveref07_sparse.l0] at H
        by_cases c9 : x4_1 < (l0.length : Int)
        · rw [if_pos c9] at H
          have c9b0 : decide (x4_1 < (l0.length : Int)) = true := decide_eq_true c9
          clear c9
          by_cases c10 : 0 ≤ x4_1
          · rw [if_pos c10] at H
            have c10b0 : decide (0 ≤ x4_1) = true := decide_eq_true c10
            clear c10
            by_cases c11 : x4_1 > 0
            · rw [if_pos c11] at H
              have c11b0 : decide (0 < x4_1) = true := decide_eq_true c11
              clear c11
              obtain ⟨ji12, hji12⟩ : ∃ j_ : Int, (wrap64 (x4_1 - 1)) = j_ := ⟨_, rfl⟩
              replace H : (if 0 ≤ (ji12) then (if (ji12) < (l0.length : Int) then ((varveref04_Put.f (IntKind.u64.wrap (wrap64 ((wrap64 (((rd_T67 l0 x4_1).f0) - ((rd_T67 l0 (ji12)).f0))) - 1)))).bind fun t121 => (if x3_1.length + t121.length < 140737488355328 then ((some (x3_1 ++ t121 : List Int)).bind fun y124 => ((varveref04_Put.f ((rd_T67 l0 x4_1).f1)).bind fun t128 => (if y124.length + t128.length < 140737488355328 then (varveref07_sparse.l0 k1 l0 (y124 ++ t128) (wrap64 (x4_1 + 1))) else (none)))) else (none))) else (none)) else (none)) = some r := by first | (rw [hji12] at H; exact H) | (simp only [hji12] at H ⊢; exact H)
              have hji12w : (IntKind.i64.wrap (x4_1 - 1)) = ji12 := (i64_w _).trans hji12
              by_cases c13 : 0 ≤ (ji12)
              · rw [if_pos c13] at H
                have c13b0 : decide (0 ≤ (ji12)) = true := decide_eq_true c13
                clear c13
                by_cases c14 : (ji12) < (l0.length : Int)
                · rw [if_pos c14] at H
                  have c14b0 : decide ((ji12) < (l0.length : Int)) = true := decide_eq_true c14
                  clear c14
                  replace H := Option.bind_eq_some_iff.mp H
                  obtain ⟨t121, A150, H⟩ := H
                  replace H : (if x3_1.length + t121.length < 140737488355328 then ((some (x3_1 ++ t121 : List Int)).bind fun y124 => ((varveref04_Put.f ((rd_T67 l0 x4_1).f1)).bind fun t128 => (if y124.length + t128.length < 140737488355328 then (varveref07_sparse.l0 k1 l0 (y124 ++ t128) (wrap64 (x4_1 + 1))) else (none)))) else (none)) = some r := H
                  have A15 := Aside0.mk A150
                  clear A150
                  by_cases c16 : x3_1.length + t121.length < 140737488355328
                  · rw [if_pos c16] at H
                    have LMc16 := Aside0.mk c16
                    clear c16
                    obtain ⟨y124, hy124⟩ : ∃ y_ : List Int, y_ = (x3_1 ++ t121) := ⟨_, rfl⟩
                    replace H : ((varveref04_Put.f ((rd_T67 l0 x4_1).f1)).bind fun t128 => (if y124.length + t128.length < 140737488355328 then (varveref07_sparse.l0 k1 l0 (y124 ++ t128) (wrap64 (x4_1 + 1))) else (none))) = some r := by first | (rw [hy124]; with_reducible exact H) | (have H2_ := (Option.bind_some _ _).symm.trans H; rw [hy124]; with_reducible exact H2_) | (have H2_ := (Option.bind_some _ _).symm.trans H; with_reducible exact H2_) | with_reducible exact H | (rw [hy124]; exact H) | exact H
                    have Ny124 := Aside0.mk hy124
                    clear hy124
                    replace H := Option.bind_eq_some_iff.mp H
                    obtain ⟨t128, A170, H⟩ := H
                    replace H : (if y124.length + t128.length < 140737488355328 then (varveref07_sparse.l0 k1 l0 (y124 ++ t128) (wrap64 (x4_1 + 1))) else (none)) = some r := H
                    have A17 := Aside0.mk A170
                    clear A170
                    by_cases c18 : y124.length + t128.length < 140737488355328
                    · rw [if_pos c18] at H
                      have LMc18 := Aside0.mk c18
                      clear c18
                      obtain ⟨y131, hy131⟩ : ∃ y_ : List Int, y_ = (y124 ++ t128) := ⟨_, rfl⟩
                      replace H : (varveref07_sparse.l0 k1 l0 y131 (wrap64 (x4_1 + 1))) = some r := by first | (rw [hy131]; with_reducible exact H) | (have H2_ := (Option.bind_some _ _).symm.trans H; rw [hy131]; with_reducible exact H2_) | (have H2_ := (Option.bind_some _ _).symm.trans H; with_reducible exact H2_) | with_reducible exact H | (rw [hy131]; exact H) | exact H
                      have Ny131 := Aside0.mk hy131
                      clear hy131
                      have H' := Aside0.mk H
                      clear H
                      have p119 : 0 ≤ (x4_1 : Int) := of_decide_eq_true (by first | (with_reducible assumption) | assumption)
                      have q119 : x4_1 < (l0.length : Int) := of_decide_eq_true (by first | (with_reducible assumption) | assumption)
                      obtain ⟨ad119, e119, hx119_0, hx119_1⟩ := at_T67 HR0.out x4_1 p119 q119
                      cases e119
                      replace hx119_0 := (HB.out.cell (World.block_lt_of_cell? w _ hx119_0)).trans hx119_0
                      replace hx119_1 := (HB.out.cell (World.block_lt_of_cell? w _ hx119_1)).trans hx119_1
                      replace p119 := eq_true p119
                      replace q119 := eq_true q119
                      have p120 : 0 ≤ ((ji12) : Int) := of_decide_eq_true (by first | (with_reducible assumption) | assumption)
                      have q120 : (ji12) < (l0.length : Int) := of_decide_eq_true (by first | (with_reducible assumption) | assumption)
                      obtain ⟨ad120, e120, hx120_0, hx120_1⟩ := at_T67 HR0.out (ji12) p120 q120
                      obtain rfl : ad119 = ad120 := (by injection e120)
                      replace hx120_0 := (HB.out.cell (World.block_lt_of_cell? w _ hx120_0)).trans hx120_0
                      replace hx120_1 := (HB.out.cell (World.block_lt_of_cell? w _ hx120_1)).trans hx120_1
                      replace p120 := eq_true p120
                      replace q120 := eq_true q120
                      go_wp2_with (first | ((with_reducible refine gate_callee (f := 49) rfl ?_); refine goesL_ (some 37) rfl rfl Try.func49 (by kernel_rfl) rfl #[.int .u64 (IntKind.u64.wrap (wrap64 ((wrap64 (((rd_T67 l0 x4_1).f0) - ((rd_T67 l0 (ji12)).f0))) - 1)))] rfl (by (try simp only [List.map_toArray, List.map_cons, List.map_nil]); first | done | (simp only [hji12]; rfl) | rfl | (simp only [List.length_drop, List.length_take]; rfl)) ?_; (with_reducible refine (varveref04_Put.calls (IntKind.u64.wrap (wrap64 ((wrap64 (((rd_T67 l0 x4_1).f0) - ((rd_T67 l0 (ji12)).f0))) - 1))) t121 _ A15.out).mono ?_); rintro e w19 ⟨v122, rfl, ho0, hb⟩; refine ⟨_, rfl, ?_⟩; have n0_ := Aside0.mk (Kd.R_elder' (by (with_reducible repeat (first | apply Kd.R_alloc | apply Kd.R_drewN | apply Kd.R_drew)); exact HO_3.out) (Kd.R_base ho0) hb); have n1_ := Aside0.mk (Kd.R_lower (Kd.R_new' ho0 (Kd.R_lt (by (with_reducible repeat (first | apply Kd.R_alloc | apply Kd.R_drewN | apply Kd.R_drew)); exact HO_3.out))) (below_size (by repeat (first | (with_reducible first | exact HB.out | apply below_alloc | apply pw_below_drewN | apply below_drew1) | exact HB.out)))); have n2_ := Aside0.mk (below_step (by repeat (first | (with_reducible first | exact HB.out | apply below_alloc | apply pw_below_drewN | apply below_drew1) | exact HB.out)) hb); clear HO_3; clear HB; have HO_3 := n0_; have HO123 := n1_; have HB := n2_; clear n0_ n1_ n2_; (try clear hb); (try clear hb2); (try clear hk); (try clear hi); (try clear ho0); obtain ⟨Ao21, co21, eo21⟩ := Kd.R_slice HO123.out; subst eo21) | ((with_reducible refine gate_builtin (b := .append) (xs := #[.tmp 34, .tmp 37]) rfl ?_); at_builtin; refine Kd.R_append_rows (Kd.int .u8) (w0 := w) w.heap.size rfl (.tmp 34) (.tmp 37) 22 5 (.int .u8 0) 1 rfl Try.underlying22 info5 rfl (by decide) (by omega) u3 x3_1 t121 _ _ _ (fun k_ => some k_ ≠ (.slice Ao21 t121.length co21 : Value).ownBlock) (fun _ => False) rfl rfl ?aO ?aR (fun _ _ h => h) (fun _ h => h.elim) ?aF ?aB ?aS ?aL ?_; (case aR => repeat (first | exact (Kd.R_reads' HO123.out).2.2 | (with_reducible refine Kd.C_alloc ?_ _) | (with_reducible refine Kd.C_drewN ?_ _) | (with_reducible refine Kd.C_drew ?_))); (case aB => exact (by repeat (first | (with_reducible first | exact HB.out | apply below_alloc | apply pw_below_drewN | apply below_drew1) | exact HB.out))); (case aF => exact (fun k_ hk => Kd.fresh' (Kd.R_lt (by (with_reducible repeat (first | apply Kd.R_alloc | apply Kd.R_drewN | apply Kd.R_drew)); exact HO123.out)) k_ hk)); (case aO => exact (by (with_reducible repeat (first | apply Kd.R_alloc | apply Kd.R_drewN | apply Kd.R_drew)); exact Kd.R_mono HO_3.out (fun _ hk => hk.2))); (case aS => exact (below_size (by repeat (first | (with_reducible first | exact HB.out | apply below_alloc | apply pw_below_drewN | apply below_drew1) | exact HB.out)))); (case aL => have := LMc16.out; omega); intro v125 w20 ho hb hg hat; rw [← Ny124.out] at ho; have n0_ := Aside0.mk (Kd.R_after (ok := (fun _ => True)) (by (with_reducible repeat (first | apply Kd.R_alloc | apply Kd.R_drewN | apply Kd.R_drew)); exact HO123.out) hg hat); have n1_ := Aside0.mk (hb); have n2_ := Aside0.mk (ho); clear HO123; clear HB; clear HO_3; have HO123 := n0_; have HB := n1_; have HO126 := n2_; clear n0_ n1_ n2_; clear ho hb hg hat; have p127 : 0 ≤ (x4_1 : Int) := of_decide_eq_true (by first | (with_reducible assumption) | assumption); have q127 : x4_1 < (l0.length : Int) := of_decide_eq_true (by first | (with_reducible assumption) | assumption); obtain ⟨ad127, e127, hx127_0, hx127_1⟩ := at_T67 HR0.out x4_1 p127 q127; obtain rfl : ad119 = ad127 := (by injection e127); replace hx127_0 := (HB.out.cell (World.block_lt_of_cell? w _ hx127_0)).trans hx127_0; replace hx127_1 := (HB.out.cell (World.block_lt_of_cell? w _ hx127_1)).trans hx127_1; replace p127 := eq_true p127; replace q127 := eq_true q127) | ((with_reducible refine gate_callee (f := 49) rfl ?_); refine goesL_ (some 45) rfl rfl Try.func49 (by kernel_rfl) rfl #[.int .u64 ((rd_T67 l0 x4_1).f1)] rfl (by (try simp only [List.map_toArray, List.map_cons, List.map_nil]); first | done | rfl | (simp only [List.length_drop, List.length_take]; rfl)) ?_; (with_reducible refine (varveref04_Put.calls ((rd_T67 l0 x4_1).f1) t128 _ A17.out).mono ?_); rintro e w22 ⟨v129, rfl, ho0, hb⟩; refine ⟨_, rfl, ?_⟩; have n0_ := Aside0.mk (Kd.R_elder' (by (with_reducible repeat (first | apply Kd.R_alloc | apply Kd.R_drewN | apply Kd.R_drew)); exact HO123.out) (Kd.R_base ho0) hb); have n1_ := Aside0.mk (Kd.R_elder' (by (with_reducible repeat (first | apply Kd.R_alloc | apply Kd.R_drewN | apply Kd.R_drew)); exact HO126.out) (Kd.R_base ho0) hb); have n2_ := Aside0.mk (Kd.R_lower (Kd.R_new' (Kd.R_new' ho0 (Kd.R_lt (by (with_reducible repeat (first | apply Kd.R_alloc | apply Kd.R_drewN | apply Kd.R_drew)); exact HO123.out))) (Kd.R_lt (by (with_reducible repeat (first | apply Kd.R_alloc | apply Kd.R_drewN | apply Kd.R_drew)); exact HO126.out))) (below_size (by repeat (first | (with_reducible first | exact HB.out | apply below_alloc | apply pw_below_drewN | apply below_drew1) | exact HB.out)))); have n3_ := Aside0.mk (below_step (by repeat (first | (with_reducible first | exact HB.out | apply below_alloc | apply pw_below_drewN | apply below_drew1) | exact HB.out)) hb); clear HO123; clear HO126; clear HB; have HO123 := n0_; have HO126 := n1_; have HO130 := n2_; have HB := n3_; clear n0_ n1_ n2_ n3_; (try clear hb); (try clear hb2); (try clear hk); (try clear hi); (try clear ho0); obtain ⟨Ao24, co24, eo24⟩ := Kd.R_slice HO130.out; subst eo24) | ((with_reducible refine gate_builtin (b := .append) (xs := #[.tmp 39, .tmp 45]) rfl ?_); at_builtin; refine Kd.R_append_rows (Kd.int .u8) (w0 := w) w.heap.size rfl (.tmp 39) (.tmp 45) 22 5 (.int .u8 0) 1 rfl Try.underlying22 info5 rfl (by decide) (by omega) v125 y124 t128 _ _ _ (fun k_ => some k_ ≠ (.slice Ao21 t121.length co21 : Value).ownBlock ∧ some k_ ≠ (.slice Ao24 t128.length co24 : Value).ownBlock) (fun _ => False) rfl rfl ?aO ?aR (fun _ _ h => h) (fun _ h => h.elim) ?aF ?aB ?aS ?aL ?_; (case aR => repeat (first | exact (Kd.R_reads' HO130.out).2.2 | (with_reducible refine Kd.C_alloc ?_ _) | (with_reducible refine Kd.C_drewN ?_ _) | (with_reducible refine Kd.C_drew ?_))); (case aB => exact (by repeat (first | (with_reducible first | exact HB.out | apply below_alloc | apply pw_below_drewN | apply below_drew1) | exact HB.out))); (case aF => exact (fun k_ hk => ⟨Kd.fresh' (Kd.R_lt (by (with_reducible repeat (first | apply Kd.R_alloc | apply Kd.R_drewN | apply Kd.R_drew)); exact HO123.out)) k_ hk, Kd.fresh' (Kd.R_lt (by (with_reducible repeat (first | apply Kd.R_alloc | apply Kd.R_drewN | apply Kd.R_drew)); exact HO130.out)) k_ hk⟩)); (case aO => exact (by (with_reducible repeat (first | apply Kd.R_alloc | apply Kd.R_drewN | apply Kd.R_drew)); exact HO126.out)); (case aS => exact (below_size (by repeat (first | (with_reducible first | exact HB.out | apply below_alloc | apply pw_below_drewN | apply below_drew1) | exact HB.out)))); (case aL => have := LMc18.out; omega); intro v132 w23 ho hb hg hat; rw [← Ny131.out] at ho; have n0_ := Aside0.mk (Kd.R_after (ok := (fun k_ => some k_ ≠ (.slice Ao24 t128.length co24 : Value).ownBlock)) (by (with_reducible repeat (first | apply Kd.R_alloc | apply Kd.R_drewN | apply Kd.R_drew)); exact Kd.R_mono HO123.out (fun _ hk => ⟨hk.2, hk.1.2⟩)) hg hat); have n1_ := Aside0.mk (Kd.R_after (ok := (fun k_ => some k_ ≠ (.slice Ao21 t121.length co21 : Value).ownBlock)) (by (with_reducible repeat (first | apply Kd.R_alloc | apply Kd.R_drewN | apply Kd.R_drew)); exact Kd.R_mono HO130.out (fun _ hk => ⟨hk.1.2, hk.2⟩)) hg hat); have n2_ := Aside0.mk (hb); have n3_ := Aside0.mk (ho); clear HO123; clear HO130; clear HB; clear HO126; have HO123 := n0_; have HO130 := n1_; have HB := n2_; have HO133 := n3_; clear n0_ n1_ n2_ n3_; clear ho hb hg hat))
                      go_roundg k1
                      case measure => have := HK1.out; omega
                      case rel => exact ⟨(y131), (wrap64 (x4_1 + 1)), (by first | rfl | (simp; done) | (simp [*]; done)), H', ⟨by have := HK1.out; omega⟩, ⟨by (with_reducible repeat (first | apply Kd.R_alloc | apply Kd.R_drewN | apply Kd.R_drew)); exact Kd.R_mono HO133.out (fun _ hk => trivial)⟩, ⟨by repeat (first | (with_reducible first | exact HB.out | apply below_alloc | apply pw_below_drewN | apply below_drew1) | exact HB.out)⟩⟩
                    · rw [if_neg c18] at H
                      exact absurd H (by simp)
                  · rw [if_neg c16] at H
                    exact absurd H (by simp)
                · rw [if_neg c14] at H
                  exact absurd H (by simp)
              · rw [if_neg c13] at H
                exact absurd H (by simp)
            · rw [if_neg c11] at H
              have c11b0 : decide (0 < x4_1) = false := decide_eq_false c11
              clear c11
              replace H := Option.bind_eq_some_iff.mp H
              obtain ⟨t134, A250, H⟩ := H
              replace H : (if x3_1.length + t134.length < 140737488355328 then ((some (x3_1 ++ t134 : List Int)).bind fun y137 => ((varveref04_Put.f ((rd_T67 l0 x4_1).f1)).bind fun t141 => (if y137.length + t141.length < 140737488355328 then (varveref07_sparse.l0 k1 l0 (y137 ++ t141) (wrap64 (x4_1 + 1))) else (none)))) else (none)) = some r := H
              have A25 := Aside0.mk A250
              clear A250
              by_cases c26 : x3_1.length + t134.length < 140737488355328
              · rw [if_pos c26] at H
                have LMc26 := Aside0.mk c26
                clear c26
                obtain ⟨y137, hy137⟩ : ∃ y_ : List Int, y_ = (x3_1 ++ t134) := ⟨_, rfl⟩
                replace H : ((varveref04_Put.f ((rd_T67 l0 x4_1).f1)).bind fun t141 => (if y137.length + t141.length < 140737488355328 then (varveref07_sparse.l0 k1 l0 (y137 ++ t141) (wrap64 (x4_1 + 1))) else (none))) = some r := by first | (rw [hy137]; with_reducible exact H) | (have H2_ := (Option.bind_some _ _).symm.trans H; rw [hy137]; with_reducible exact H2_) | (have H2_ := (Option.bind_some _ _).symm.trans H; with_reducible exact H2_) | with_reducible exact H | (rw [hy137]; exact H) | exact H
                have Ny137 := Aside0.mk hy137
                clear hy137
                replace H := Option.bind_eq_some_iff.mp H
                obtain ⟨t141, A270, H⟩ := H
                replace H : (if y137.length + t141.length < 140737488355328 then (varveref07_sparse.l0 k1 l0 (y137 ++ t141) (wrap64 (x4_1 + 1))) else (none)) = some r := H
                have A27 := Aside0.mk A270
                clear A270
                by_cases c28 : y137.length + t141.length < 140737488355328
                · rw [if_pos c28] at H
                  have LMc28 := Aside0.mk c28
                  clear c28
                  obtain ⟨y144, hy144⟩ : ∃ y_ : List Int, y_ = (y137 ++ t141) := ⟨_, rfl⟩
                  replace H : (varveref07_sparse.l0 k1 l0 y144 (wrap64 (x4_1 + 1))) = some r := by first | (rw [hy144]; with_reducible exact H) | (have H2_ := (Option.bind_some _ _).symm.trans H; rw [hy144]; with_reducible exact H2_) | (have H2_ := (Option.bind_some _ _).symm.trans H; with_reducible exact H2_) | with_reducible exact H | (rw [hy144]; exact H) | exact H
                  have Ny144 := Aside0.mk hy144
                  clear hy144
                  have H' := Aside0.mk H
                  clear H
                  have p119 : 0 ≤ (x4_1 : Int) := of_decide_eq_true (by first | (with_reducible assumption) | assumption)
                  have q119 : x4_1 < (l0.length : Int) := of_decide_eq_true (by first | (with_reducible assumption) | assumption)
                  obtain ⟨ad119, e119, hx119_0, hx119_1⟩ := at_T67 HR0.out x4_1 p119 q119
                  cases e119
                  replace hx119_0 := (HB.out.cell (World.block_lt_of_cell? w _ hx119_0)).trans hx119_0
                  replace hx119_1 := (HB.out.cell (World.block_lt_of_cell? w _ hx119_1)).trans hx119_1
                  replace p119 := eq_true p119
                  replace q119 := eq_true q119
                  go_wp2_with (first | ((with_reducible refine gate_callee (f := 49) rfl ?_); refine goesL_ (some 37) rfl rfl Try.func49 (by kernel_rfl) rfl #[.int .u64 (IntKind.u64.wrap ((rd_T67 l0 x4_1).f0))] rfl (by (try simp only [List.map_toArray, List.map_cons, List.map_nil]); first | done | rfl | (simp only [List.length_drop, List.length_take]; rfl)) ?_; (with_reducible refine (varveref04_Put.calls (IntKind.u64.wrap ((rd_T67 l0 x4_1).f0)) t134 _ A25.out).mono ?_); rintro e w29 ⟨v135, rfl, ho0, hb⟩; refine ⟨_, rfl, ?_⟩; have n0_ := Aside0.mk (Kd.R_elder' (by (with_reducible repeat (first | apply Kd.R_alloc | apply Kd.R_drewN | apply Kd.R_drew)); exact HO_3.out) (Kd.R_base ho0) hb); have n1_ := Aside0.mk (Kd.R_lower (Kd.R_new' ho0 (Kd.R_lt (by (with_reducible repeat (first | apply Kd.R_alloc | apply Kd.R_drewN | apply Kd.R_drew)); exact HO_3.out))) (below_size (by repeat (first | (with_reducible first | exact HB.out | apply below_alloc | apply pw_below_drewN | apply below_drew1) | exact HB.out)))); have n2_ := Aside0.mk (below_step (by repeat (first | (with_reducible first | exact HB.out | apply below_alloc | apply pw_below_drewN | apply below_drew1) | exact HB.out)) hb); clear HO_3; clear HB; have HO_3 := n0_; have HO136 := n1_; have HB := n2_; clear n0_ n1_ n2_; (try clear hb); (try clear hb2); (try clear hk); (try clear hi); (try clear ho0); obtain ⟨Ao31, co31, eo31⟩ := Kd.R_slice HO136.out; subst eo31) | ((with_reducible refine gate_builtin (b := .append) (xs := #[.tmp 34, .tmp 37]) rfl ?_); at_builtin; refine Kd.R_append_rows (Kd.int .u8) (w0 := w) w.heap.size rfl (.tmp 34) (.tmp 37) 22 5 (.int .u8 0) 1 rfl Try.underlying22 info5 rfl (by decide) (by omega) u3 x3_1 t134 _ _ _ (fun k_ => some k_ ≠ (.slice Ao31 t134.length co31 : Value).ownBlock) (fun _ => False) rfl rfl ?aO ?aR (fun _ _ h => h) (fun _ h => h.elim) ?aF ?aB ?aS ?aL ?_; (case aR => repeat (first | exact (Kd.R_reads' HO136.out).2.2 | (with_reducible refine Kd.C_alloc ?_ _) | (with_reducible refine Kd.C_drewN ?_ _) | (with_reducible refine Kd.C_drew ?_))); (case aB => exact (by repeat (first | (with_reducible first | exact HB.out | apply below_alloc | apply pw_below_drewN | apply below_drew1) | exact HB.out))); (case aF => exact (fun k_ hk => Kd.fresh' (Kd.R_lt (by (with_reducible repeat (first | apply Kd.R_alloc | apply Kd.R_drewN | apply Kd.R_drew)); exact HO136.out)) k_ hk)); (case aO => exact (by (with_reducible repeat (first | apply Kd.R_alloc | apply Kd.R_drewN | apply Kd.R_drew)); exact Kd.R_mono HO_3.out (fun _ hk => hk.2))); (case aS => exact (below_size (by repeat (first | (with_reducible first | exact HB.out | apply below_alloc | apply pw_below_drewN | apply below_drew1) | exact HB.out)))); (case aL => have := LMc26.out; omega); intro v138 w30 ho hb hg hat; rw [← Ny137.out] at ho; have n0_ := Aside0.mk (Kd.R_after (ok := (fun _ => True)) (by (with_reducible repeat (first | apply Kd.R_alloc | apply Kd.R_drewN | apply Kd.R_drew)); exact HO136.out) hg hat); have n1_ := Aside0.mk (hb); have n2_ := Aside0.mk (ho); clear HO136; clear HB; clear HO_3; have HO136 := n0_; have HB := n1_; have HO139 := n2_; clear n0_ n1_ n2_; clear ho hb hg hat; have p140 : 0 ≤ (x4_1 : Int) := of_decide_eq_true (by first | (with_reducible assumption) | assumption); have q140 : x4_1 < (l0.length : Int) := of_decide_eq_true (by first | (with_reducible assumption) | assumption); obtain ⟨ad140, e140, hx140_0, hx140_1⟩ := at_T67 HR0.out x4_1 p140 q140; obtain rfl : ad119 = ad140 := (by injection e140); replace hx140_0 := (HB.out.cell (World.block_lt_of_cell? w _ hx140_0)).trans hx140_0; replace hx140_1 := (HB.out.cell (World.block_lt_of_cell? w _ hx140_1)).trans hx140_1; replace p140 := eq_true p140; replace q140 := eq_true q140) | ((with_reducible refine gate_callee (f := 49) rfl ?_); refine goesL_ (some 45) rfl rfl Try.func49 (by kernel_rfl) rfl #[.int .u64 ((rd_T67 l0 x4_1).f1)] rfl (by (try simp only [List.map_toArray, List.map_cons, List.map_nil]); first | done | rfl | (simp only [List.length_drop, List.length_take]; rfl)) ?_; (with_reducible refine (varveref04_Put.calls ((rd_T67 l0 x4_1).f1) t141 _ A27.out).mono ?_); rintro e w32 ⟨v142, rfl, ho0, hb⟩; refine ⟨_, rfl, ?_⟩; have n0_ := Aside0.mk (Kd.R_elder' (by (with_reducible repeat (first | apply Kd.R_alloc | apply Kd.R_drewN | apply Kd.R_drew)); exact HO136.out) (Kd.R_base ho0) hb); have n1_ := Aside0.mk (Kd.R_elder' (by (with_reducible repeat (first | apply Kd.R_alloc | apply Kd.R_drewN | apply Kd.R_drew)); exact HO139.out) (Kd.R_base ho0) hb); have n2_ := Aside0.mk (Kd.R_lower (Kd.R_new' (Kd.R_new' ho0 (Kd.R_lt (by (with_reducible repeat (first | apply Kd.R_alloc | apply Kd.R_drewN | apply Kd.R_drew)); exact HO136.out))) (Kd.R_lt (by (with_reducible repeat (first | apply Kd.R_alloc | apply Kd.R_drewN | apply Kd.R_drew)); exact HO139.out))) (below_size (by repeat (first | (with_reducible first | exact HB.out | apply below_alloc | apply pw_below_drewN | apply below_drew1) | exact HB.out)))); have n3_ := Aside0.mk (below_step (by repeat (first | (with_reducible first | exact HB.out | apply below_alloc | apply pw_below_drewN | apply below_drew1) | exact HB.out)) hb); clear HO136; clear HO139; clear HB; have HO136 := n0_; have HO139 := n1_; have HO143 := n2_; have HB := n3_; clear n0_ n1_ n2_ n3_; (try clear hb); (try clear hb2); (try clear hk); (try clear hi); (try clear ho0); obtain ⟨Ao34, co34, eo34⟩ := Kd.R_slice HO143.out; subst eo34) | ((with_reducible refine gate_builtin (b := .append) (xs := #[.tmp 39, .tmp 45]) rfl ?_); at_builtin; refine Kd.R_append_rows (Kd.int .u8) (w0 := w) w.heap.size rfl (.tmp 39) (.tmp 45) 22 5 (.int .u8 0) 1 rfl Try.underlying22 info5 rfl (by decide) (by omega) v138 y137 t141 _ _ _ (fun k_ => some k_ ≠ (.slice Ao31 t134.length co31 : Value).ownBlock ∧ some k_ ≠ (.slice Ao34 t141.length co34 : Value).ownBlock) (fun _ => False) rfl rfl ?aO ?aR (fun _ _ h => h) (fun _ h => h.elim) ?aF ?aB ?aS ?aL ?_; (case aR => repeat (first | exact (Kd.R_reads' HO143.out).2.2 | (with_reducible refine Kd.C_alloc ?_ _) | (with_reducible refine Kd.C_drewN ?_ _) | (with_reducible refine Kd.C_drew ?_))); (case aB => exact (by repeat (first | (with_reducible first | exact HB.out | apply below_alloc | apply pw_below_drewN | apply below_drew1) | exact HB.out))); (case aF => exact (fun k_ hk => ⟨Kd.fresh' (Kd.R_lt (by (with_reducible repeat (first | apply Kd.R_alloc | apply Kd.R_drewN | apply Kd.R_drew)); exact HO136.out)) k_ hk, Kd.fresh' (Kd.R_lt (by (with_reducible repeat (first | apply Kd.R_alloc | apply Kd.R_drewN | apply Kd.R_drew)); exact HO143.out)) k_ hk⟩)); (case aO => exact (by (with_reducible repeat (first | apply Kd.R_alloc | apply Kd.R_drewN | apply Kd.R_drew)); exact HO139.out)); (case aS => exact (below_size (by repeat (first | (with_reducible first | exact HB.out | apply below_alloc | apply pw_below_drewN | apply below_drew1) | exact HB.out)))); (case aL => have := LMc28.out; omega); intro v145 w33 ho hb hg hat; rw [← Ny144.out] at ho; have n0_ := Aside0.mk (Kd.R_after (ok := (fun k_ => some k_ ≠ (.slice Ao34 t141.length co34 : Value).ownBlock)) (by (with_reducible repeat (first | apply Kd.R_alloc | apply Kd.R_drewN | apply Kd.R_drew)); exact Kd.R_mono HO136.out (fun _ hk => ⟨hk.2, hk.1.2⟩)) hg hat); have n1_ := Aside0.mk (Kd.R_after (ok := (fun k_ => some k_ ≠ (.slice Ao31 t134.length co31 : Value).ownBlock)) (by (with_reducible repeat (first | apply Kd.R_alloc | apply Kd.R_drewN | apply Kd.R_drew)); exact Kd.R_mono HO143.out (fun _ hk => ⟨hk.1.2, hk.2⟩)) hg hat); have n2_ := Aside0.mk (hb); have n3_ := Aside0.mk (ho); clear HO136; clear HO143; clear HB; clear HO139; have HO136 := n0_; have HO143 := n1_; have HB := n2_; have HO146 := n3_; clear n0_ n1_ n2_ n3_; clear ho hb hg hat))
                  go_roundg k1
                  case measure => have := HK1.out; omega
                  case rel => exact ⟨(y144), (wrap64 (x4_1 + 1)), (by first | rfl | (simp; done) | (simp [*]; done)), H', ⟨by have := HK1.out; omega⟩, ⟨by (with_reducible repeat (first | apply Kd.R_alloc | apply Kd.R_drewN | apply Kd.R_drew)); exact Kd.R_mono HO146.out (fun _ hk => trivial)⟩, ⟨by repeat (first | (with_reducible first | exact HB.out | apply below_alloc | apply pw_below_drewN | apply below_drew1) | exact HB.out)⟩⟩
                · rw [if_neg c28] at H
                  exact absurd H (by simp)
              · rw [if_neg c26] at H
                exact absurd H (by simp)
          · rw [if_neg c10] at H
            exact absurd H (by simp)
        · rw [if_neg c9] at H
          have c9b0 : decide (x4_1 < (l0.length : Int)) = false := decide_eq_false c9
          clear c9
          obtain rfl := Option.some.inj H
          go_wp2
          go_ret
          exact ⟨_, by first | rfl | (simp [errW_none, errW_some] <;> rfl) | (simp [*, errW_none, errW_some] <;> rfl), by (with_reducible repeat (first | apply Kd.R_alloc | apply Kd.R_drewN | apply Kd.R_drew)); exact HO_3.out, by repeat (first | (with_reducible first | exact HB.out | apply below_alloc | apply pw_below_drewN | apply below_drew1) | exact HB.out)⟩
  · rw [if_neg c3] at H
    exact absurd H (by simp)
end Go.Proofs.Ytofgcacahfdjdaa.Vt
namespace Go.Proofs.Ytofgcacahfdjdaa.Vt
open Go.RowKit Go.Proofs.YtofgcacahfdjdaaW.PrintWords Go.Proofs.YtofgcacahfdjdaaW.PrintLast Go.Proofs.YtofgcacahfdjdaaW.PrintMore Go.Proofs.Ytofgcacahfdjdaa.Hi Go.Proofs.Ytofgcacahfdjdaa.Q
attribute [local go_sem] max2_int min2_int max_two min_two max_three min_three max_four min_four   -- for this text's walks alone
set_option linter.unusedVariables false
set_option linter.unusedSimpArgs false
mutual
def varveref07_dense.j0 : Nat → List (S67) → Bool → Option (List Int)
  | 0, _, _ => none
  | k + 1, x0, x15 => if x15 = true then (some ([] : List Int)) else (if 0 < (x0.length : Int) then (if 0 ≤ (wrap64 ((x0.length : Int) - 1)) then (if (wrap64 ((x0.length : Int) - 1)) < (x0.length : Int) then ((some (([1] : List Int) : List Int)).bind fun y155 => ((varveref04_Put.f (IntKind.u64.wrap ((rd_T67 x0 0).f0))).bind fun t158 => (if y155.length + t158.length < 140737488355328 then ((some (y155 ++ t158 : List Int)).bind fun y161 => ((varveref04_Put.f (IntKind.u64.wrap (wrap64 ((wrap64 (((rd_T67 x0 (wrap64 ((x0.length : Int) - 1))).f0) - ((rd_T67 x0 0).f0))) + 1)))).bind fun t164 => (if y161.length + t164.length < 140737488355328 then (varveref07_dense.l0 k x0 ((rd_T67 x0 0).f0) (wrap64 ((wrap64 (((rd_T67 x0 (wrap64 ((x0.length : Int) - 1))).f0) - ((rd_T67 x0 0).f0))) + 1)) (y161 ++ t164) 0 0) else (none)))) else (none)))) else (none)) else (none)) else (none))
def varveref07_dense.l0 : Nat → List (S67) → Int → Int → List Int → Int → Int → Option (List Int)
  | 0, _, _, _, _, _, _ => none
  | k + 1, x0, x3, x4, x5, x6, x7 => if x7 < x4 then (if 0 ≤ x6 then (if x6 < (x0.length : Int) then (if ((rd_T67 x0 x6).f0) = (wrap64 (x3 + x7)) then ((varveref04_Put.f ((rd_T67 x0 x6).f1)).bind fun t172 => (if x5.length + t172.length < 140737488355328 then (varveref07_dense.l0 k x0 x3 x4 (x5 ++ t172) (wrap64 (x6 + 1)) (wrap64 (x7 + 1))) else (none))) else (if x5.length < 140737488355328 then (varveref07_dense.l0 k x0 x3 x4 (x5 ++ [0]) x6 (wrap64 (x7 + 1))) else (none))) else (none)) else (none)) else (some x5)
end
def varveref07_dense.f (k : Nat) (l0 : List (S67)) : Option (List Int) := if (l0.length : Int) = 0 then (varveref07_dense.j0 k l0 true) else ((varveref07_Check.f k l0).bind fun t152 => (varveref07_dense.j0 k l0 (!t152)))
set_option maxHeartbeats 8000000 in
set_option maxRecDepth 100000 in
theorem varveref07_dense.calls (k : Nat) (A0 : Option Addr) (c0 : Nat) (l0 : List (S67)) (r : List Int) (w : World) (hr0 : Kd.C k67 w A0 l0.length l0) (hc0 : l0.length ≤ c0) (h : varveref07_dense.f k l0 = some r) :
    Calls Try.prog 46 #[.slice A0 l0.length c0] w fun e w' => ∃ v0_ : Value, e = .returned (v0_) ∧ Kd.R (Kd.int .u8) 5 w' w.heap.size (fun _ => True) v0_ r ∧ Below w.heap.size w w' := by
  have HR0 := Aside0.mk hr0
  have HC0 := Aside0.mk hc0
  clear hr0 hc0
  have HB := Aside0.mk (Below.refl w.heap.size w)
  have H : (if (l0.length : Int) = 0 then (varveref07_dense.j0 k l0 true) else ((varveref07_Check.f k l0).bind fun t152 => (varveref07_dense.j0 k l0 (!t152)))) = some r := h
  clear h
  have HC2 := Aside0.mk H
  clear H
  go_enter Try.func46, Try.ntmps46
  go_upto_region 1 with (fail)
  go_cut [15] (fun v15 wc => ∃ (kq : Nat) (x15_1 : Bool), v15 = .bool x15_1 ∧ Aside0 (varveref07_dense.j0 kq l0 x15_1 = some r) ∧ Aside0 (kq ≤ k) ∧ Aside0 (Below w.heap.size w wc))
  case first =>
    have H := HC2.out
    clear HC2
    by_cases c3 : (l0.length : Int) = 0
    · rw [if_pos c3] at H
      have c3b0 : ((l0.length : Int) == 0) = true := beq_iff_eq.mpr c3
      have c3b1 : ((l0.length : Int) != 0) = false := bne_eq_false_iff_eq.mpr c3
      clear c3
      (first | rw [c3b0] | (simp only [i64_w, i32_w]; rw [c3b0]) | skip)
      have H' := Aside0.mk H
      clear H
      go_wp2
      go_meet
      case rel => exact ⟨_, (true), (by first | rfl | (simp; done) | (simp [*]; done)), H', ⟨by first | omega | exact Nat.le_refl _⟩, ⟨by repeat (first | (with_reducible first | exact HB.out | apply below_alloc | apply pw_below_drewN | apply below_drew1) | exact HB.out)⟩⟩
    · rw [if_neg c3] at H
      have c3b0 : ((l0.length : Int) == 0) = false := beq_eq_false_iff_ne.mpr c3
      have c3b1 : ((l0.length : Int) != 0) = true := bne_iff_ne.mpr c3
      have c3b2 : ¬ (l0 = []) := fun h_ => c3 (by rw [h_]; rfl)
      (first | rw [c3b0] | (simp only [i64_w, i32_w]; rw [c3b0]) | skip)
      replace H := Option.bind_eq_some_iff.mp H
      obtain ⟨t152, A40, H⟩ := H
      replace H : (varveref07_dense.j0 k l0 (!t152)) = some r := H
      have A4 := Aside0.mk A40
      clear A40
      have H' := Aside0.mk H
      clear H
      go_wp2_with (first | (go_at_call 15; (with_reducible refine (varveref07_Check.calls k _ _ l0 t152 _ ?side1 ?side2 A4.out).mono ?_); (case side1 => repeat (first | exact (Kd.C_below HR0.out HB.out) | (with_reducible refine Kd.C_alloc ?_ _) | (with_reducible refine Kd.C_drewN ?_ _) | (with_reducible refine Kd.C_drew ?_))); (case side2 => exact HC0.out); rintro e w' ⟨rfl, ⟨nd, rfl⟩⟩))
      go_meet
      case rel => exact ⟨_, (!t152), (by first | rfl | (simp; done) | (simp [*]; done)), H', ⟨by first | omega | exact Nat.le_refl _⟩, ⟨by repeat (first | (with_reducible first | exact HB.out | apply below_alloc | apply pw_below_drewN | apply below_drew1) | exact HB.out)⟩⟩
  case rest =>
    clear HC2
    try clear p2
    try clear c3
    try clear c3b0
    try clear c3b1
    try clear c3b2
    try clear c4
    obtain ⟨kq, x15_1, rfl, HA, HJ1, HB⟩ := hcut
    cases kq with
    | zero => exact absurd HA.out (by simp [varveref07_dense.j0])
    | succ kj1 =>
      have H := HA.out
      clear HA
      simp only [varveref07_dense.j0] at H
      by_cases c5 : x15_1 = true
      · subst c5
        have H1 : (some ([] : List Int)) = some r := by rw [if_pos rfl] at H; exact H
        clear H
        have H := H1
        clear H1
        obtain rfl := Option.some.inj H
        go_wp2
        go_ret
        exact ⟨_, by first | rfl | (simp [errW_none, errW_some] <;> rfl) | (simp [*, errW_none, errW_some] <;> rfl), by first | exact Kd.R_nil _ _ _ _ _ | exact Kd.N_nil _ _ _ _ _ | exact Kd.V_nil _ _ _ _ _ | exact Kd.Q_nil _ _ _ _ _ | exact Kd.S_nil _ _ _ _ _, by repeat (first | (with_reducible first | exact HB.out | apply below_alloc | apply pw_below_drewN | apply below_drew1) | exact HB.out)⟩
      · replace c5 := Bool.eq_false_iff.mpr c5
        subst c5
        have H1 : (if 0 < (l0.length : Int) then (if 0 ≤ (wrap64 ((l0.length : Int) - 1)) then (if (wrap64 ((l0.length : Int) - 1)) < (l0.length : Int) then ((some (([1] : List Int) : List Int)).bind fun y155 => ((varveref04_Put.f (IntKind.u64.wrap ((rd_T67 l0 0).f0))).bind fun t158 => (if y155.length + t158.length < 140737488355328 then ((some (y155 ++ t158 : List Int)).bind fun y161 => ((varveref04_Put.f (IntKind.u64.wrap (wrap64 ((wrap64 (((rd_T67 l0 (wrap64 ((l0.length : Int) - 1))).f0) - ((rd_T67 l0 0).f0))) + 1)))).bind fun t164 => (if y161.length + t164.length < 140737488355328 then (varveref07_dense.l0 kj1 l0 ((rd_T67 l0 0).f0) (wrap64 ((wrap64 (((rd_T67 l0 (wrap64 ((l0.length : Int) - 1))).f0) - ((rd_T67 l0 0).f0))) + 1)) (y161 ++ t164) 0 0) else (none)))) else (none)))) else (none)) else (none)) else (none)) = some r := by rw [if_neg (show ¬ (false = true) by decide)] at H; exact H
        clear H
        have H := H1
        clear H1
        by_cases c6 : 0 < (l0.length : Int)
        · rw [if_pos c6] at H
          have c6b0 : decide (0 < (l0.length : Int)) = true := decide_eq_true c6
          have c6b1 : decide (0 < l0.length) = true := decide_eq_true (by omega)
          clear c6
          obtain ⟨ji7, hji7⟩ : ∃ j_ : Int, (wrap64 ((l0.length : Int) - 1)) = j_ := ⟨_, rfl⟩
          replace H : (if 0 ≤ (ji7) then (if (ji7) < (l0.length : Int) then ((some (([1] : List Int) : List Int)).bind fun y155 => ((varveref04_Put.f (IntKind.u64.wrap ((rd_T67 l0 0).f0))).bind fun t158 => (if y155.length + t158.length < 140737488355328 then ((some (y155 ++ t158 : List Int)).bind fun y161 => ((varveref04_Put.f (IntKind.u64.wrap (wrap64 ((wrap64 (((rd_T67 l0 (ji7)).f0) - ((rd_T67 l0 0).f0))) + 1)))).bind fun t164 => (if y161.length + t164.length < 140737488355328 then (varveref07_dense.l0 kj1 l0 ((rd_T67 l0 0).f0) (wrap64 ((wrap64 (((rd_T67 l0 (ji7)).f0) - ((rd_T67 l0 0).f0))) + 1)) (y161 ++ t164) 0 0) else (none)))) else (none)))) else (none)) else (none)) = some r := by first | (rw [hji7] at H; exact H) | (simp only [hji7] at H ⊢; exact H)
          have hji7w : (IntKind.i64.wrap ((l0.length : Int) - 1)) = ji7 := (i64_w _).trans hji7
          by_cases c8 : 0 ≤ (ji7)
          · rw [if_pos c8] at H
            have c8b0 : decide (0 ≤ (ji7)) = true := decide_eq_true c8
            clear c8
            by_cases c9 : (ji7) < (l0.length : Int)
            · rw [if_pos c9] at H
              have c9b0 : decide ((ji7) < (l0.length : Int)) = true := decide_eq_true c9
              clear c9
              obtain ⟨y155, hy155⟩ : ∃ y_ : List Int, y_ = (([1] : List Int)) := ⟨_, rfl⟩
              replace H : ((varveref04_Put.f (IntKind.u64.wrap ((rd_T67 l0 0).f0))).bind fun t158 => (if y155.length + t158.length < 140737488355328 then ((some (y155 ++ t158 : List Int)).bind fun y161 => ((varveref04_Put.f (IntKind.u64.wrap (wrap64 ((wrap64 (((rd_T67 l0 (ji7)).f0) - ((rd_T67 l0 0).f0))) + 1)))).bind fun t164 => (if y161.length + t164.length < 140737488355328 then (varveref07_dense.l0 kj1 l0 ((rd_T67 l0 0).f0) (wrap64 ((wrap64 (((rd_T67 l0 (ji7)).f0) - ((rd_T67 l0 0).f0))) + 1)) (y161 ++ t164) 0 0) else (none)))) else (none))) = some r := by first | (rw [hy155]; with_reducible exact H) | (have H2_ := (Option.bind_some _ _).symm.trans H; rw [hy155]; with_reducible exact H2_) | (have H2_ := (Option.bind_some _ _).symm.trans H; with_reducible exact H2_) | with_reducible exact H | (rw [hy155]; exact H) | exact H
              have Ny155 := Aside0.mk hy155
              clear hy155
              replace H := Option.bind_eq_some_iff.mp H
              obtain ⟨t158, A100, H⟩ := H
              replace H : (if y155.length + t158.length < 140737488355328 then ((some (y155 ++ t158 : List Int)).bind fun y161 => ((varveref04_Put.f (IntKind.u64.wrap (wrap64 ((wrap64 (((rd_T67 l0 (ji7)).f0) - ((rd_T67 l0 0).f0))) + 1)))).bind fun t164 => (if y161.length + t164.length < 140737488355328 then (varveref07_dense.l0 kj1 l0 ((rd_T67 l0 0).f0) (wrap64 ((wrap64 (((rd_T67 l0 (ji7)).f0) - ((rd_T67 l0 0).f0))) + 1)) (y161 ++ t164) 0 0) else (none)))) else (none)) = some r := H
              have A10 := Aside0.mk A100
              clear A100
              by_cases c11 : y155.length + t158.length < 140737488355328
              · rw [if_pos c11] at H
                have LMc11 := Aside0.mk c11
                clear c11
                obtain ⟨y161, hy161⟩ : ∃ y_ : List Int, y_ = (y155 ++ t158) := ⟨_, rfl⟩
                replace H : ((varveref04_Put.f (IntKind.u64.wrap (wrap64 ((wrap64 (((rd_T67 l0 (ji7)).f0) - ((rd_T67 l0 0).f0))) + 1)))).bind fun t164 => (if y161.length + t164.length < 140737488355328 then (varveref07_dense.l0 kj1 l0 ((rd_T67 l0 0).f0) (wrap64 ((wrap64 (((rd_T67 l0 (ji7)).f0) - ((rd_T67 l0 0).f0))) + 1)) (y161 ++ t164) 0 0) else (none))) = some r := by first | (rw [hy161]; with_reducible exact H) | (have H2_ := (Option.bind_some _ _).symm.trans H; rw [hy161]; with_reducible exact H2_) | (have H2_ := (Option.bind_some _ _).symm.trans H; with_reducible exact H2_) | with_reducible exact H | (rw [hy161]; exact H) | exact H
                have Ny161 := Aside0.mk hy161
                clear hy161
                replace H := Option.bind_eq_some_iff.mp H
                obtain ⟨t164, A120, H⟩ := H
                replace H : (if y161.length + t164.length < 140737488355328 then (varveref07_dense.l0 kj1 l0 ((rd_T67 l0 0).f0) (wrap64 ((wrap64 (((rd_T67 l0 (ji7)).f0) - ((rd_T67 l0 0).f0))) + 1)) (y161 ++ t164) 0 0) else (none)) = some r := H
                have A12 := Aside0.mk A120
                clear A120
                by_cases c13 : y161.length + t164.length < 140737488355328
                · rw [if_pos c13] at H
                  have LMc13 := Aside0.mk c13
                  clear c13
                  obtain ⟨y167, hy167⟩ : ∃ y_ : List Int, y_ = (y161 ++ t164) := ⟨_, rfl⟩
                  replace H : (varveref07_dense.l0 kj1 l0 ((rd_T67 l0 0).f0) (wrap64 ((wrap64 (((rd_T67 l0 (ji7)).f0) - ((rd_T67 l0 0).f0))) + 1)) y167 0 0) = some r := by first | (rw [hy167]; with_reducible exact H) | (have H2_ := (Option.bind_some _ _).symm.trans H; rw [hy167]; with_reducible exact H2_) | (have H2_ := (Option.bind_some _ _).symm.trans H; with_reducible exact H2_) | with_reducible exact H | (rw [hy167]; exact H) | exact H
                  have Ny167 := Aside0.mk hy167
                  clear hy167
                  have H' := Aside0.mk H
                  clear H
                  have p153 : 0 ≤ (0 : Int) := (by omega)
                  have q153 : 0 < (l0.length : Int) := of_decide_eq_true (by first | (with_reducible assumption) | assumption)
                  obtain ⟨ad153, e153, hx153_0, hx153_1⟩ := at_T67 HR0.out 0 p153 q153
                  cases e153
                  have qi153 : (0 < l0.length) = True := eq_true (by omega)
                  (try rw [show ((0 : Int)).toNat = 0 from rfl] at hx153_0)
                  (try rw [show 0 * 2 = 0 from rfl] at hx153_0)
                  (try rw [Addr.add_zero'] at hx153_0)
                  (try rw [show ((0 : Int)).toNat = 0 from rfl] at hx153_1)
                  (try rw [show 0 * 2 = 0 from rfl] at hx153_1)
                  (try rw [Addr.add_zero'] at hx153_1)
                  replace hx153_0 := (HB.out.cell (World.block_lt_of_cell? w _ hx153_0)).trans hx153_0
                  replace hx153_1 := (HB.out.cell (World.block_lt_of_cell? w _ hx153_1)).trans hx153_1
                  replace p153 := eq_true p153
                  replace q153 := eq_true q153
                  have p154 : 0 ≤ ((ji7) : Int) := of_decide_eq_true (by first | (with_reducible assumption) | assumption)
                  have q154 : (ji7) < (l0.length : Int) := of_decide_eq_true (by first | (with_reducible assumption) | assumption)
                  obtain ⟨ad154, e154, hx154_0, hx154_1⟩ := at_T67 HR0.out (ji7) p154 q154
                  obtain rfl : ad153 = ad154 := (by injection e154)
                  replace hx154_0 := (HB.out.cell (World.block_lt_of_cell? w _ hx154_0)).trans hx154_0
                  replace hx154_1 := (HB.out.cell (World.block_lt_of_cell? w _ hx154_1)).trans hx154_1
                  replace p154 := eq_true p154
                  replace q154 := eq_true q154
                  go_wp2_with (first | ((with_reducible refine gate_dst (N := 30) rfl ?_); refine Kd.R_lit (Kd.int .u8) _ 5 ?hg (N := 30) ?hd (xs := ([1] : List Int)) (inner := [.int .u8 1]) (ok := fun _ => True) (okp := fun _ => True) ?hr ?hp (fun _ hk => hk) trivial (Below.refl _ _) (Nat.le_refl _) (by simp) ?_; (case hd => rfl); (case hg => rfl); (case hr => first | (go_simp; done) | (go_simp; rfl)); (case hp => exact (Reps.one (show Kd.M (Kd.int .u8) _ _ _ 1 [.int .u8 1] from rfl) (Reps.none _ _))); intro v156 w14 ho15 hb hg_ hnew_; clear hg_ hnew_; (first | rw [← Ny155.out] at ho15 | (simp only [Int.reduceToNat] at ho15; rw [← Ny155.out] at ho15)); have n0_ := Aside0.mk (Kd.R_lower ho15 (below_size (by repeat (first | (with_reducible first | exact HB.out | apply below_alloc | apply pw_below_drewN | apply below_drew1) | exact HB.out)))); have n1_ := Aside0.mk (below_step (by repeat (first | (with_reducible first | exact HB.out | apply below_alloc | apply pw_below_drewN | apply below_drew1) | exact HB.out)) hb); clear HB; have HO157 := n0_; have HB := n1_; clear n0_ n1_; clear hb ho15) | ((with_reducible refine gate_callee (f := 49) rfl ?_); refine goesL_ (some 33) rfl rfl Try.func49 (by kernel_rfl) rfl #[.int .u64 (IntKind.u64.wrap ((rd_T67 l0 0).f0))] rfl (by (try simp only [List.map_toArray, List.map_cons, List.map_nil]); first | done | rfl | (simp only [List.length_drop, List.length_take]; rfl)) ?_; (with_reducible refine (varveref04_Put.calls (IntKind.u64.wrap ((rd_T67 l0 0).f0)) t158 _ A10.out).mono ?_); rintro e w16 ⟨v159, rfl, ho0, hb⟩; refine ⟨_, rfl, ?_⟩; have n0_ := Aside0.mk (Kd.R_elder' (by (with_reducible repeat (first | apply Kd.R_alloc | apply Kd.R_drewN | apply Kd.R_drew)); exact HO157.out) (Kd.R_base ho0) hb); have n1_ := Aside0.mk (Kd.R_lower (Kd.R_new' ho0 (Kd.R_lt (by (with_reducible repeat (first | apply Kd.R_alloc | apply Kd.R_drewN | apply Kd.R_drew)); exact HO157.out))) (below_size (by repeat (first | (with_reducible first | exact HB.out | apply below_alloc | apply pw_below_drewN | apply below_drew1) | exact HB.out)))); have n2_ := Aside0.mk (below_step (by repeat (first | (with_reducible first | exact HB.out | apply below_alloc | apply pw_below_drewN | apply below_drew1) | exact HB.out)) hb); clear HO157; clear HB; have HO157 := n0_; have HO160 := n1_; have HB := n2_; clear n0_ n1_ n2_; (try clear hb); (try clear hb2); (try clear hk); (try clear hi); (try clear ho0); obtain ⟨Ao18, co18, eo18⟩ := Kd.R_slice HO160.out; subst eo18) | ((with_reducible refine gate_builtin (b := .append) (xs := #[.tmp 30, .tmp 33]) rfl ?_); at_builtin; refine Kd.R_append_rows (Kd.int .u8) (w0 := w) w.heap.size rfl (.tmp 30) (.tmp 33) 22 5 (.int .u8 0) 1 rfl Try.underlying22 info5 rfl (by decide) (by omega) v156 y155 t158 _ _ _ (fun k_ => some k_ ≠ (.slice Ao18 t158.length co18 : Value).ownBlock) (fun _ => False) rfl rfl ?aO ?aR (fun _ _ h => h) (fun _ h => h.elim) ?aF ?aB ?aS ?aL ?_; (case aR => repeat (first | exact (Kd.R_reads' HO160.out).2.2 | (with_reducible refine Kd.C_alloc ?_ _) | (with_reducible refine Kd.C_drewN ?_ _) | (with_reducible refine Kd.C_drew ?_))); (case aB => exact (by repeat (first | (with_reducible first | exact HB.out | apply below_alloc | apply pw_below_drewN | apply below_drew1) | exact HB.out))); (case aF => exact (fun k_ hk => Kd.fresh' (Kd.R_lt (by (with_reducible repeat (first | apply Kd.R_alloc | apply Kd.R_drewN | apply Kd.R_drew)); exact HO160.out)) k_ hk)); (case aO => exact (by (with_reducible repeat (first | apply Kd.R_alloc | apply Kd.R_drewN | apply Kd.R_drew)); exact Kd.R_mono HO157.out (fun _ hk => hk.2))); (case aS => exact (below_size (by repeat (first | (with_reducible first | exact HB.out | apply below_alloc | apply pw_below_drewN | apply below_drew1) | exact HB.out)))); (case aL => have := LMc11.out; omega); intro v162 w17 ho hb hg hat; rw [← Ny161.out] at ho; have n0_ := Aside0.mk (Kd.R_after (ok := (fun _ => True)) (by (with_reducible repeat (first | apply Kd.R_alloc | apply Kd.R_drewN | apply Kd.R_drew)); exact HO160.out) hg hat); have n1_ := Aside0.mk (hb); have n2_ := Aside0.mk (ho); clear HO160; clear HB; clear HO157; have HO160 := n0_; have HB := n1_; have HO163 := n2_; clear n0_ n1_ n2_; clear ho hb hg hat) | ((with_reducible refine gate_callee (f := 49) rfl ?_); refine goesL_ (some 38) rfl rfl Try.func49 (by kernel_rfl) rfl #[.int .u64 (IntKind.u64.wrap (wrap64 ((wrap64 (((rd_T67 l0 (ji7)).f0) - ((rd_T67 l0 0).f0))) + 1)))] rfl (by (try simp only [List.map_toArray, List.map_cons, List.map_nil]); first | done | (simp only [hji7]; rfl) | rfl | (simp only [List.length_drop, List.length_take]; rfl)) ?_; (with_reducible refine (varveref04_Put.calls (IntKind.u64.wrap (wrap64 ((wrap64 (((rd_T67 l0 (ji7)).f0) - ((rd_T67 l0 0).f0))) + 1))) t164 _ A12.out).mono ?_); rintro e w19 ⟨v165, rfl, ho0, hb⟩; refine ⟨_, rfl, ?_⟩; have n0_ := Aside0.mk (Kd.R_elder' (by (with_reducible repeat (first | apply Kd.R_alloc | apply Kd.R_drewN | apply Kd.R_drew)); exact HO160.out) (Kd.R_base ho0) hb); have n1_ := Aside0.mk (Kd.R_elder' (by (with_reducible repeat (first | apply Kd.R_alloc | apply Kd.R_drewN | apply Kd.R_drew)); exact HO163.out) (Kd.R_base ho0) hb); have n2_ := Aside0.mk (Kd.R_lower (Kd.R_new' (Kd.R_new' ho0 (Kd.R_lt (by (with_reducible repeat (first | apply Kd.R_alloc | apply Kd.R_drewN | apply Kd.R_drew)); exact HO160.out))) (Kd.R_lt (by (with_reducible repeat (first | apply Kd.R_alloc | apply Kd.R_drewN | apply Kd.R_drew)); exact HO163.out))) (below_size (by repeat (first | (with_reducible first | exact HB.out | apply below_alloc | apply pw_below_drewN | apply below_drew1) | exact HB.out)))); have n3_ := Aside0.mk (below_step (by repeat (first | (with_reducible first | exact HB.out | apply below_alloc | apply pw_below_drewN | apply below_drew1) | exact HB.out)) hb); clear HO160; clear HO163; clear HB; have HO160 := n0_; have HO163 := n1_; have HO166 := n2_; have HB := n3_; clear n0_ n1_ n2_ n3_; (try clear hb); (try clear hb2); (try clear hk); (try clear hi); (try clear ho0); obtain ⟨Ao21, co21, eo21⟩ := Kd.R_slice HO166.out; subst eo21) | ((with_reducible refine gate_builtin (b := .append) (xs := #[.tmp 35, .tmp 38]) rfl ?_); at_builtin; refine Kd.R_append_rows (Kd.int .u8) (w0 := w) w.heap.size rfl (.tmp 35) (.tmp 38) 22 5 (.int .u8 0) 1 rfl Try.underlying22 info5 rfl (by decide) (by omega) v162 y161 t164 _ _ _ (fun k_ => some k_ ≠ (.slice Ao18 t158.length co18 : Value).ownBlock ∧ some k_ ≠ (.slice Ao21 t164.length co21 : Value).ownBlock) (fun _ => False) rfl rfl ?aO ?aR (fun _ _ h => h) (fun _ h => h.elim) ?aF ?aB ?aS ?aL ?_; (case aR => repeat (first | exact (Kd.R_reads' HO166.out).2.2 | (with_reducible refine Kd.C_alloc ?_ _) | (with_reducible refine Kd.C_drewN ?_ _) | (with_reducible refine Kd.C_drew ?_))); (case aB => exact (by repeat (first | (with_reducible first | exact HB.out | apply below_alloc | apply pw_below_drewN | apply below_drew1) | exact HB.out))); (case aF => exact (fun k_ hk => ⟨Kd.fresh' (Kd.R_lt (by (with_reducible repeat (first | apply Kd.R_alloc | apply Kd.R_drewN | apply Kd.R_drew)); exact HO160.out)) k_ hk, Kd.fresh' (Kd.R_lt (by (with_reducible repeat (first | apply Kd.R_alloc | apply Kd.R_drewN | apply Kd.R_drew)); exact HO166.out)) k_ hk⟩)); (case aO => exact (by (with_reducible repeat (first | apply Kd.R_alloc | apply Kd.R_drewN | apply Kd.R_drew)); exact HO163.out)); (case aS => exact (below_size (by repeat (first | (with_reducible first | exact HB.out | apply below_alloc | apply pw_below_drewN | apply below_drew1) | exact HB.out)))); (case aL => have := LMc13.out; omega); intro v168 w20 ho hb hg hat; rw [← Ny167.out] at ho; have n0_ := Aside0.mk (Kd.R_after (ok := (fun k_ => some k_ ≠ (.slice Ao21 t164.length co21 : Value).ownBlock)) (by (with_reducible repeat (first | apply Kd.R_alloc | apply Kd.R_drewN | apply Kd.R_drew)); exact Kd.R_mono HO160.out (fun _ hk => ⟨hk.2, hk.1.2⟩)) hg hat); have n1_ := Aside0.mk (Kd.R_after (ok := (fun k_ => some k_ ≠ (.slice Ao18 t158.length co18 : Value).ownBlock)) (by (with_reducible repeat (first | apply Kd.R_alloc | apply Kd.R_drewN | apply Kd.R_drew)); exact Kd.R_mono HO166.out (fun _ hk => ⟨hk.1.2, hk.2⟩)) hg hat); have n2_ := Aside0.mk (hb); have n3_ := Aside0.mk (ho); clear HO160; clear HO166; clear HB; clear HO163; have HO160 := n0_; have HO166 := n1_; have HB := n2_; have HO169 := n3_; clear n0_ n1_ n2_ n3_; clear ho hb hg hat))
                  go_loopg [5, 6, 7] kj1 (fun kq v5 v6 v7 w' => ∃ (x5_2 : List Int) (x6_2 : Int) (x7_2 : Int), v6 = .int .i64 x6_2 ∧ v7 = .int .i64 x7_2 ∧ Aside0 (varveref07_dense.l0 kq l0 ((rd_T67 l0 0).f0) (wrap64 ((wrap64 (((rd_T67 l0 (ji7)).f0) - ((rd_T67 l0 0).f0))) + 1)) x5_2 x6_2 x7_2 = some r) ∧ Aside0 (kq ≤ kj1) ∧ Aside0 (Kd.R (Kd.int .u8) 5 w' w.heap.size (fun _ => True) v5 x5_2) ∧ Aside0 (Below w.heap.size w w'))
                  case atStart => exact ⟨(y167), (0), (0), (by first | rfl | (simp; done) | (simp [*]; done)), (by first | rfl | (simp; done) | (simp [*]; done)), H', ⟨Nat.le_refl _⟩, ⟨by (with_reducible repeat (first | apply Kd.R_alloc | apply Kd.R_drewN | apply Kd.R_drew)); exact Kd.R_mono HO169.out (fun _ hk => trivial)⟩, ⟨by repeat (first | (with_reducible first | exact HB.out | apply below_alloc | apply pw_below_drewN | apply below_drew1) | exact HB.out)⟩⟩
                  case round =>
                    clear H'
                    try clear c1
                    try clear p1
                    try clear q1
                    try clear hx1
                    try clear qi1
                    try clear p2
                    try clear c3
                    try clear c3b0
                    try clear c3b1
                    try clear c3b2
                    try clear c4
                    try clear c5
                    try clear c6
                    try clear c6b0
                    try clear c6b1
                    try clear p6
                    try clear c8
                    try clear c8b0
                    try clear c9
                    try clear c9b0
                    try clear c11
                    try clear c13
                    try clear p15
                    try clear q15
                    try clear hx15
                    try clear qi15
                    try clear hx153_0
                    try clear hx153_1
                    try clear hx154_0
                    try clear hx154_1
                    try clear p153
                    try clear p154
                    try clear p2
                    try clear q153
                    try clear q154
                    obtain ⟨x5_2, x6_2, x7_2, rfl, rfl, HA, HK2, HO_5, HB⟩ := hrel
                    cases gk with
                    | zero => exact absurd HA.out (by simp [varveref07_dense.l0])
                    | succ k2 =>
                      have H := HA.out
                      clear HA
                      simp only [varveref07_dense.l0] at H
                      by_cases c22 : x7_2 < (wrap64 ((wrap64 (((rd_T67 l0 (ji7)).f0) - ((rd_T67 l0 0).f0))) + 1))
                      · rw [if_pos c22] at H
                        have c22b0 : decide (x7_2 < (wrap64 ((wrap64 (((rd_T67 l0 (ji7)).f0) - ((rd_T67 l0 0).f0))) + 1))) = true := decide_eq_true c22
                        clear c22
                        by_cases c23 : 0 ≤ x6_2
                        · rw [if_pos c23] at H
                          have c23b0 : decide (0 ≤ x6_2) = true := decide_eq_true c23
                          clear c23
                          by_cases c24 : x6_2 < (l0.length : Int)
                          · rw [if_pos c24] at H
                            have c24b0 : decide (x6_2 < (l0.length : Int)) = true := decide_eq_true c24
                            clear c24
                            by_cases c25 : ((rd_T67 l0 x6_2).f0) = (wrap64 (((rd_T67 l0 0).f0) + x7_2))
                            · rw [if_pos c25] at H
                              have c25b0 : (((rd_T67 l0 x6_2).f0) == (wrap64 (((rd_T67 l0 0).f0) + x7_2))) = true := beq_iff_eq.mpr c25
                              have c25b1 : (((rd_T67 l0 x6_2).f0) != (wrap64 (((rd_T67 l0 0).f0) + x7_2))) = false := bne_eq_false_iff_eq.mpr c25
                              clear c25
                              replace H := Option.bind_eq_some_iff.mp H
                              obtain ⟨t172, A260, H⟩ := H
                              replace H : (if x5_2.length + t172.length < 140737488355328 then (varveref07_dense.l0 k2 l0 ((rd_T67 l0 0).f0) (wrap64 ((wrap64 (((rd_T67 l0 (ji7)).f0) - ((rd_T67 l0 0).f0))) + 1)) (x5_2 ++ t172) (wrap64 (x6_2 + 1)) (wrap64 (x7_2 + 1))) else (none)) = some r := H
                              have A26 := Aside0.mk A260
                              clear A260
                              by_cases c27 : x5_2.length + t172.length < 140737488355328
                              · rw [if_pos c27] at H
                                have LMc27 := Aside0.mk c27
                                clear c27
                                obtain ⟨y175, hy175⟩ : ∃ y_ : List Int, y_ = (x5_2 ++ t172) := ⟨_, rfl⟩
                                replace H : (varveref07_dense.l0 k2 l0 ((rd_T67 l0 0).f0) (wrap64 ((wrap64 (((rd_T67 l0 (ji7)).f0) - ((rd_T67 l0 0).f0))) + 1)) y175 (wrap64 (x6_2 + 1)) (wrap64 (x7_2 + 1))) = some r := by first | (rw [hy175]; with_reducible exact H) | (have H2_ := (Option.bind_some _ _).symm.trans H; rw [hy175]; with_reducible exact H2_) | (have H2_ := (Option.bind_some _ _).symm.trans H; with_reducible exact H2_) | with_reducible exact H | (rw [hy175]; exact H) | exact H
                                have Ny175 := Aside0.mk hy175
                                clear hy175
                                have H' := Aside0.mk H
                                clear H
                                have p170 : 0 ≤ (x6_2 : Int) := of_decide_eq_true (by first | (with_reducible assumption) | assumption)
                                have q170 : x6_2 < (l0.length : Int) := of_decide_eq_true (by first | (with_reducible assumption) | assumption)
                                obtain ⟨ad170, e170, hx170_0, hx170_1⟩ := at_T67 HR0.out x6_2 p170 q170
                                obtain rfl : ad153 = ad170 := (by injection e170)
                                replace hx170_0 := (HB.out.cell (World.block_lt_of_cell? w _ hx170_0)).trans hx170_0
                                replace hx170_1 := (HB.out.cell (World.block_lt_of_cell? w _ hx170_1)).trans hx170_1
                                replace p170 := eq_true p170
                                replace q170 := eq_true q170
                                have p171 : 0 ≤ (x6_2 : Int) := of_decide_eq_true (by first | (with_reducible assumption) | assumption)
                                have q171 : x6_2 < (l0.length : Int) := of_decide_eq_true (by first | (with_reducible assumption) | assumption)
                                obtain ⟨ad171, e171, hx171_0, hx171_1⟩ := at_T67 HR0.out x6_2 p171 q171
                                obtain rfl : ad153 = ad171 := (by injection e171)
                                replace hx171_0 := (HB.out.cell (World.block_lt_of_cell? w _ hx171_0)).trans hx171_0
                                replace hx171_1 := (HB.out.cell (World.block_lt_of_cell? w _ hx171_1)).trans hx171_1
                                replace p171 := eq_true p171
                                replace q171 := eq_true q171
                                go_wp2_with (first | ((with_reducible refine gate_callee (f := 49) rfl ?_); refine goesL_ (some 60) rfl rfl Try.func49 (by kernel_rfl) rfl #[.int .u64 ((rd_T67 l0 x6_2).f1)] rfl (by (try simp only [List.map_toArray, List.map_cons, List.map_nil]); first | done | rfl | (simp only [List.length_drop, List.length_take]; rfl)) ?_; (with_reducible refine (varveref04_Put.calls ((rd_T67 l0 x6_2).f1) t172 _ A26.out).mono ?_); rintro e w28 ⟨v173, rfl, ho0, hb⟩; refine ⟨_, rfl, ?_⟩; have n0_ := Aside0.mk (Kd.R_elder' (by (with_reducible repeat (first | apply Kd.R_alloc | apply Kd.R_drewN | apply Kd.R_drew)); exact HO_5.out) (Kd.R_base ho0) hb); have n1_ := Aside0.mk (Kd.R_lower (Kd.R_new' ho0 (Kd.R_lt (by (with_reducible repeat (first | apply Kd.R_alloc | apply Kd.R_drewN | apply Kd.R_drew)); exact HO_5.out))) (below_size (by repeat (first | (with_reducible first | exact HB.out | apply below_alloc | apply pw_below_drewN | apply below_drew1) | exact HB.out)))); have n2_ := Aside0.mk (below_step (by repeat (first | (with_reducible first | exact HB.out | apply below_alloc | apply pw_below_drewN | apply below_drew1) | exact HB.out)) hb); clear HO_5; clear HB; have HO_5 := n0_; have HO174 := n1_; have HB := n2_; clear n0_ n1_ n2_; (try clear hb); (try clear hb2); (try clear hk); (try clear hi); (try clear ho0); obtain ⟨Ao30, co30, eo30⟩ := Kd.R_slice HO174.out; subst eo30) | ((with_reducible refine gate_builtin (b := .append) (xs := #[.tmp 54, .tmp 60]) rfl ?_); at_builtin; refine Kd.R_append_rows (Kd.int .u8) (w0 := w) w.heap.size rfl (.tmp 54) (.tmp 60) 22 5 (.int .u8 0) 1 rfl Try.underlying22 info5 rfl (by decide) (by omega) u5 x5_2 t172 _ _ _ (fun k_ => some k_ ≠ (.slice Ao30 t172.length co30 : Value).ownBlock) (fun _ => False) rfl rfl ?aO ?aR (fun _ _ h => h) (fun _ h => h.elim) ?aF ?aB ?aS ?aL ?_; (case aR => repeat (first | exact (Kd.R_reads' HO174.out).2.2 | (with_reducible refine Kd.C_alloc ?_ _) | (with_reducible refine Kd.C_drewN ?_ _) | (with_reducible refine Kd.C_drew ?_))); (case aB => exact (by repeat (first | (with_reducible first | exact HB.out | apply below_alloc | apply pw_below_drewN | apply below_drew1) | exact HB.out))); (case aF => exact (fun k_ hk => Kd.fresh' (Kd.R_lt (by (with_reducible repeat (first | apply Kd.R_alloc | apply Kd.R_drewN | apply Kd.R_drew)); exact HO174.out)) k_ hk)); (case aO => exact (by (with_reducible repeat (first | apply Kd.R_alloc | apply Kd.R_drewN | apply Kd.R_drew)); exact Kd.R_mono HO_5.out (fun _ hk => hk.2))); (case aS => exact (below_size (by repeat (first | (with_reducible first | exact HB.out | apply below_alloc | apply pw_below_drewN | apply below_drew1) | exact HB.out)))); (case aL => have := LMc27.out; omega); intro v176 w29 ho hb hg hat; rw [← Ny175.out] at ho; have n0_ := Aside0.mk (Kd.R_after (ok := (fun _ => True)) (by (with_reducible repeat (first | apply Kd.R_alloc | apply Kd.R_drewN | apply Kd.R_drew)); exact HO174.out) hg hat); have n1_ := Aside0.mk (hb); have n2_ := Aside0.mk (ho); clear HO174; clear HB; clear HO_5; have HO174 := n0_; have HB := n1_; have HO177 := n2_; clear n0_ n1_ n2_; clear ho hb hg hat))
                                go_roundg k2
                                case measure => have := HJ1.out; have := HK2.out; omega
                                case rel => exact ⟨(y175), (wrap64 (x6_2 + 1)), (wrap64 (x7_2 + 1)), (by first | rfl | (simp; done) | (simp [*]; done)), (by first | rfl | (simp; done) | (simp [*]; done)), H', ⟨by have := HJ1.out; have := HK2.out; omega⟩, ⟨by (with_reducible repeat (first | apply Kd.R_alloc | apply Kd.R_drewN | apply Kd.R_drew)); exact Kd.R_mono HO177.out (fun _ hk => trivial)⟩, ⟨by repeat (first | (with_reducible first | exact HB.out | apply below_alloc | apply pw_below_drewN | apply below_drew1) | exact HB.out)⟩⟩
                              · rw [if_neg c27] at H
                                exact absurd H (by simp)
                            · rw [if_neg c25] at H
                              have c25b0 : (((rd_T67 l0 x6_2).f0) == (wrap64 (((rd_T67 l0 0).f0) + x7_2))) = false := beq_eq_false_iff_ne.mpr c25
                              have c25b1 : (((rd_T67 l0 x6_2).f0) != (wrap64 (((rd_T67 l0 0).f0) + x7_2))) = true := bne_iff_ne.mpr c25
                              by_cases c31 : x5_2.length < 140737488355328
                              · rw [if_pos c31] at H
                                have LMc31 := Aside0.mk c31
                                clear c31
                                obtain ⟨y178, hy178⟩ : ∃ y_ : List Int, y_ = (x5_2 ++ [0]) := ⟨_, rfl⟩
                                replace H : (varveref07_dense.l0 k2 l0 ((rd_T67 l0 0).f0) (wrap64 ((wrap64 (((rd_T67 l0 (ji7)).f0) - ((rd_T67 l0 0).f0))) + 1)) y178 x6_2 (wrap64 (x7_2 + 1))) = some r := by first | (rw [hy178]; with_reducible exact H) | (have H2_ := (Option.bind_some _ _).symm.trans H; rw [hy178]; with_reducible exact H2_) | (have H2_ := (Option.bind_some _ _).symm.trans H; with_reducible exact H2_) | with_reducible exact H | (rw [hy178]; exact H) | exact H
                                have Ny178 := Aside0.mk hy178
                                clear hy178
                                have H' := Aside0.mk H
                                clear H
                                have p170 : 0 ≤ (x6_2 : Int) := of_decide_eq_true (by first | (with_reducible assumption) | assumption)
                                have q170 : x6_2 < (l0.length : Int) := of_decide_eq_true (by first | (with_reducible assumption) | assumption)
                                obtain ⟨ad170, e170, hx170_0, hx170_1⟩ := at_T67 HR0.out x6_2 p170 q170
                                obtain rfl : ad153 = ad170 := (by injection e170)
                                replace hx170_0 := (HB.out.cell (World.block_lt_of_cell? w _ hx170_0)).trans hx170_0
                                replace hx170_1 := (HB.out.cell (World.block_lt_of_cell? w _ hx170_1)).trans hx170_1
                                replace p170 := eq_true p170
                                replace q170 := eq_true q170
                                go_wp2_with (first | ((with_reducible refine gate_builtin (b := .append) (xs := #[.tmp 64, .tmp 65]) rfl ?_); at_builtin; refine Kd.R_append (Kd.int .u8) (w0 := w) w.heap.size rfl (.tmp 64) (.tmp 65) 22 5 (.int .u8 0) 1 rfl Try.underlying22 info5 rfl (by decide) (by omega) u5 x5_2 0 [.int .u8 0] (fun _ => True) (fun _ => False) rfl rfl ?aP (fun _ hk => hk.elim) ?aF ?aO ?aB ?aS ?aL ?_; (case aP => exact rfl); (case aB => exact (by repeat (first | (with_reducible first | exact HB.out | apply below_alloc | apply pw_below_drewN | apply below_drew1) | exact HB.out))); (case aF => exact (fun _ _ => trivial)); (case aO => exact (by (with_reducible repeat (first | apply Kd.R_alloc | apply Kd.R_drewN | apply Kd.R_drew)); exact HO_5.out)); (case aS => exact (below_size (by repeat (first | (with_reducible first | exact HB.out | apply below_alloc | apply pw_below_drewN | apply below_drew1) | exact HB.out)))); (case aL => have := LMc31.out; omega); intro v179 w32 ho hb hg hat; rw [← Ny178.out] at ho; have n0_ := Aside0.mk (hb); have n1_ := Aside0.mk (ho); clear HB; clear HO_5; have HB := n0_; have HO180 := n1_; clear n0_ n1_; clear ho hb hg hat))
                                go_roundg k2
                                case measure => have := HJ1.out; have := HK2.out; omega
                                case rel => exact ⟨(y178), (x6_2), (wrap64 (x7_2 + 1)), (by first | rfl | (simp; done) | (simp [*]; done)), (by first | rfl | (simp; done) | (simp [*]; done)), H', ⟨by have := HJ1.out; have := HK2.out; omega⟩, ⟨by (with_reducible repeat (first | apply Kd.R_alloc | apply Kd.R_drewN | apply Kd.R_drew)); exact HO180.out⟩, ⟨by repeat (first | (with_reducible first | exact HB.out | apply below_alloc | apply pw_below_drewN | apply below_drew1) | exact HB.out)⟩⟩
                              · rw [if_neg c31] at H
                                exact absurd H (by simp)
                          · rw [if_neg c24] at H
                            exact absurd H (by simp)
                        · rw [if_neg c23] at H
                          exact absurd H (by simp)
                      · rw [if_neg c22] at H
                        have c22b0 : decide (x7_2 < (wrap64 ((wrap64 (((rd_T67 l0 (ji7)).f0) - ((rd_T67 l0 0).f0))) + 1))) = false := decide_eq_false c22
                        clear c22
                        obtain rfl := Option.some.inj H
                        go_wp2
                        go_ret
                        exact ⟨_, by first | rfl | (simp [errW_none, errW_some] <;> rfl) | (simp only [← hji7]; first | rfl | (simp [errW_none, errW_some] <;> rfl)) | (simp [*, errW_none, errW_some] <;> rfl), by (with_reducible repeat (first | apply Kd.R_alloc | apply Kd.R_drewN | apply Kd.R_drew)); exact HO_5.out, by repeat (first | (with_reducible first | exact HB.out | apply below_alloc | apply pw_below_drewN | apply below_drew1) | exact HB.out)⟩
                · rw [if_neg c13] at H
                  exact absurd H (by simp)
              · rw [if_neg c11] at H
                exact absurd H (by simp)
            · rw [if_neg c9] at H
              exact absurd H (by simp)
          · rw [if_neg c8] at H
            exact absurd H (by simp)
        · rw [if_neg c6] at H
          exact absurd H (by simp)
def varveref07_Put.f (k : Nat) (l0 : List (S67)) : Option (List Int) := (varveref07_sparse.f k l0).bind fun t181 => ((varveref07_dense.f k l0).bind fun t184 => (if (t184.length : Int) > 0 then (if (t184.length : Int) < (t181.length : Int) then (some t184) else (some t181)) else (some t181)))
set_option maxHeartbeats 8000000 in
set_option maxRecDepth 100000 in
theorem varveref07_Put.calls (k : Nat) (A0 : Option Addr) (c0 : Nat) (l0 : List (S67)) (r : List Int) (w : World) (hr0 : Kd.C k67 w A0 l0.length l0) (hc0 : l0.length ≤ c0) (h : varveref07_Put.f k l0 = some r) :
    Calls Try.prog 16 #[.slice A0 l0.length c0] w fun e w' => ∃ v0_ : Value, e = .returned (v0_) ∧ Kd.R (Kd.int .u8) 5 w' w.heap.size (fun _ => True) v0_ r ∧ Below w.heap.size w w' := by
  have HR0 := Aside0.mk hr0
  have HC0 := Aside0.mk hc0
  clear hr0 hc0
  have HB := Aside0.mk (Below.refl w.heap.size w)
  have H : ((varveref07_sparse.f k l0).bind fun t181 => ((varveref07_dense.f k l0).bind fun t184 => (if (t184.length : Int) > 0 then (if (t184.length : Int) < (t181.length : Int) then (some t184) else (some t181)) else (some t181)))) = some r := h
  clear h
  replace H := Option.bind_eq_some_iff.mp H
  obtain ⟨t181, A20, H⟩ := H
  replace H : ((varveref07_dense.f k l0).bind fun t184 => (if (t184.length : Int) > 0 then (if (t184.length : Int) < (t181.length : Int) then (some t184) else (some t181)) else (some t181))) = some r := H
  have A2 := Aside0.mk A20
  clear A20
  replace H := Option.bind_eq_some_iff.mp H
  obtain ⟨t184, A30, H⟩ := H
  replace H : (if (t184.length : Int) > 0 then (if (t184.length : Int) < (t181.length : Int) then (some t184) else (some t181)) else (some t181)) = some r := H
  have A3 := Aside0.mk A30
  clear A30
  by_cases c4 : (t184.length : Int) > 0
  · rw [if_pos c4] at H
    have c4b0 : decide (0 < (t184.length : Int)) = true := decide_eq_true c4
    have c4b1 : decide (0 < t184.length) = true := decide_eq_true (by omega)
    clear c4
    by_cases c5 : (t184.length : Int) < (t181.length : Int)
    · rw [if_pos c5] at H
      have c5b0 : decide ((t184.length : Int) < (t181.length : Int)) = true := decide_eq_true c5
      have c5b1 : decide (t184.length < t181.length) = true := decide_eq_true (Int.ofNat_lt.mp c5)
      clear c5
      obtain rfl := Option.some.inj H
      go_enter Try.func16, Try.ntmps16
      go_wp2_with (first | ((with_reducible refine gate_callee (f := 45) rfl ?_); refine goesL_ (some 6) rfl rfl Try.func45 (by kernel_rfl) rfl #[.slice A0 l0.length c0] rfl (by (try simp only [List.map_toArray, List.map_cons, List.map_nil]); first | done | rfl | (simp only [List.length_drop, List.length_take]; rfl)) ?_; (with_reducible refine (varveref07_sparse.calls k _ _ l0 t181 _ ?side1 ?side2 A2.out).mono ?_); (case side1 => repeat (first | exact HR0.out | (with_reducible refine Kd.C_alloc ?_ _) | (with_reducible refine Kd.C_drewN ?_ _) | (with_reducible refine Kd.C_drew ?_))); (case side2 => exact HC0.out); rintro e w6 ⟨v182, rfl, ho0, hb⟩; refine ⟨_, rfl, ?_⟩; have n0_ := Aside0.mk (Kd.R_lower ho0 (below_size (by repeat (first | (with_reducible first | exact HB.out | apply below_alloc | apply pw_below_drewN | apply below_drew1) | exact HB.out)))); have n1_ := Aside0.mk (below_step (by repeat (first | (with_reducible first | exact HB.out | apply below_alloc | apply pw_below_drewN | apply below_drew1) | exact HB.out)) hb); clear HB; have HO183 := n0_; have HB := n1_; clear n0_ n1_; (try clear hb); (try clear hb2); (try clear hk); (try clear hi); (try clear ho0)) | ((with_reducible refine gate_callee (f := 46) rfl ?_); refine goesL_ (some 8) rfl rfl Try.func46 (by kernel_rfl) rfl #[.slice A0 l0.length c0] rfl (by (try simp only [List.map_toArray, List.map_cons, List.map_nil]); first | done | rfl | (simp only [List.length_drop, List.length_take]; rfl)) ?_; (with_reducible refine (varveref07_dense.calls k _ _ l0 t184 _ ?side1 ?side2 A3.out).mono ?_); (case side1 => repeat (first | exact (Kd.C_below HR0.out HB.out) | (with_reducible refine Kd.C_alloc ?_ _) | (with_reducible refine Kd.C_drewN ?_ _) | (with_reducible refine Kd.C_drew ?_))); (case side2 => exact HC0.out); rintro e w7 ⟨v185, rfl, ho0, hb⟩; refine ⟨_, rfl, ?_⟩; have n0_ := Aside0.mk (Kd.R_elder' (by (with_reducible repeat (first | apply Kd.R_alloc | apply Kd.R_drewN | apply Kd.R_drew)); exact HO183.out) (Kd.R_base ho0) hb); have n1_ := Aside0.mk (Kd.R_lower (Kd.R_new' ho0 (Kd.R_lt (by (with_reducible repeat (first | apply Kd.R_alloc | apply Kd.R_drewN | apply Kd.R_drew)); exact HO183.out))) (below_size (by repeat (first | (with_reducible first | exact HB.out | apply below_alloc | apply pw_below_drewN | apply below_drew1) | exact HB.out)))); have n2_ := Aside0.mk (below_step (by repeat (first | (with_reducible first | exact HB.out | apply below_alloc | apply pw_below_drewN | apply below_drew1) | exact HB.out)) hb); clear HO183; clear HB; have HO183 := n0_; have HO186 := n1_; have HB := n2_; clear n0_ n1_ n2_; (try clear hb); (try clear hb2); (try clear hk); (try clear hi); (try clear ho0); obtain ⟨Ao8, co8, eo8⟩ := Kd.R_slice HO186.out; subst eo8; obtain ⟨Ao9, co9, eo9⟩ := Kd.R_slice HO183.out; subst eo9))
      go_ret
      exact ⟨_, by first | rfl | (simp [errW_none, errW_some] <;> rfl) | (simp [*, errW_none, errW_some] <;> rfl), by (with_reducible repeat (first | apply Kd.R_alloc | apply Kd.R_drewN | apply Kd.R_drew)); exact Kd.R_mono HO186.out (fun _ hk => trivial), by repeat (first | (with_reducible first | exact HB.out | apply below_alloc | apply pw_below_drewN | apply below_drew1) | exact HB.out)⟩
    · rw [if_neg c5] at H
      have c5b0 : decide ((t184.length : Int) < (t181.length : Int)) = false := decide_eq_false c5
      have c5b1 : decide (t184.length < t181.length) = false := decide_eq_false (fun h => c5 (Int.ofNat_lt.mpr h))
      clear c5
      obtain rfl := Option.some.inj H
      go_enter Try.func16, Try.ntmps16
      go_wp2_with (first | ((with_reducible refine gate_callee (f := 45) rfl ?_); refine goesL_ (some 6) rfl rfl Try.func45 (by kernel_rfl) rfl #[.slice A0 l0.length c0] rfl (by (try simp only [List.map_toArray, List.map_cons, List.map_nil]); first | done | rfl | (simp only [List.length_drop, List.length_take]; rfl)) ?_; (with_reducible refine (varveref07_sparse.calls k _ _ l0 t181 _ ?side1 ?side2 A2.out).mono ?_); (case side1 => repeat (first | exact HR0.out | (with_reducible refine Kd.C_alloc ?_ _) | (with_reducible refine Kd.C_drewN ?_ _) | (with_reducible refine Kd.C_drew ?_))); (case side2 => exact HC0.out); rintro e w10 ⟨v182, rfl, ho0, hb⟩; refine ⟨_, rfl, ?_⟩; have n0_ := Aside0.mk (Kd.R_lower ho0 (below_size (by repeat (first | (with_reducible first | exact HB.out | apply below_alloc | apply pw_below_drewN | apply below_drew1) | exact HB.out)))); have n1_ := Aside0.mk (below_step (by repeat (first | (with_reducible first | exact HB.out | apply below_alloc | apply pw_below_drewN | apply below_drew1) | exact HB.out)) hb); clear HB; have HO183 := n0_; have HB := n1_; clear n0_ n1_; (try clear hb); (try clear hb2); (try clear hk); (try clear hi); (try clear ho0)) | ((with_reducible refine gate_callee (f := 46) rfl ?_); refine goesL_ (some 8) rfl rfl Try.func46 (by kernel_rfl) rfl #[.slice A0 l0.length c0] rfl (by (try simp only [List.map_toArray, List.map_cons, List.map_nil]); first | done | rfl | (simp only [List.length_drop, List.length_take]; rfl)) ?_; (with_reducible refine (varveref07_dense.calls k _ _ l0 t184 _ ?side1 ?side2 A3.out).mono ?_); (case side1 => repeat (first | exact (Kd.C_below HR0.out HB.out) | (with_reducible refine Kd.C_alloc ?_ _) | (with_reducible refine Kd.C_drewN ?_ _) | (with_reducible refine Kd.C_drew ?_))); (case side2 => exact HC0.out); rintro e w11 ⟨v185, rfl, ho0, hb⟩; refine ⟨_, rfl, ?_⟩; have n0_ := Aside0.mk (Kd.R_elder' (by (with_reducible repeat (first | apply Kd.R_alloc | apply Kd.R_drewN | apply Kd.R_drew)); exact HO183.out) (Kd.R_base ho0) hb); have n1_ := Aside0.mk (Kd.R_lower (Kd.R_new' ho0 (Kd.R_lt (by (with_reducible repeat (first | apply Kd.R_alloc | apply Kd.R_drewN | apply Kd.R_drew)); exact HO183.out))) (below_size (by repeat (first | (with_reducible first | exact HB.out | apply below_alloc | apply pw_below_drewN | apply below_drew1) | exact HB.out)))); have n2_ := Aside0.mk (below_step (by repeat (first | (with_reducible first | exact HB.out | apply below_alloc | apply pw_below_drewN | apply below_drew1) | exact HB.out)) hb); clear HO183; clear HB; have HO183 := n0_; have HO186 := n1_; have HB := n2_; clear n0_ n1_ n2_; (try clear hb); (try clear hb2); (try clear hk); (try clear hi); (try clear ho0); obtain ⟨Ao12, co12, eo12⟩ := Kd.R_slice HO186.out; subst eo12; obtain ⟨Ao13, co13, eo13⟩ := Kd.R_slice HO183.out; subst eo13))
      go_ret
      exact ⟨_, by first | rfl | (simp [errW_none, errW_some] <;> rfl) | (simp [*, errW_none, errW_some] <;> rfl), by (with_reducible repeat (first | apply Kd.R_alloc | apply Kd.R_drewN | apply Kd.R_drew)); exact Kd.R_mono HO183.out (fun _ hk => trivial), by repeat (first | (with_reducible first | exact HB.out | apply below_alloc | apply pw_below_drewN | apply below_drew1) | exact HB.out)⟩
  · rw [if_neg c4] at H
    have c4b0 : decide (0 < (t184.length : Int)) = false := decide_eq_false c4
    have c4b1 : decide (0 < t184.length) = false := decide_eq_false (by omega)
    clear c4
    obtain rfl := Option.some.inj H
    go_enter Try.func16, Try.ntmps16
    go_wp2_with (first | ((with_reducible refine gate_callee (f := 45) rfl ?_); refine goesL_ (some 6) rfl rfl Try.func45 (by kernel_rfl) rfl #[.slice A0 l0.length c0] rfl (by (try simp only [List.map_toArray, List.map_cons, List.map_nil]); first | done | rfl | (simp only [List.length_drop, List.length_take]; rfl)) ?_; (with_reducible refine (varveref07_sparse.calls k _ _ l0 t181 _ ?side1 ?side2 A2.out).mono ?_); (case side1 => repeat (first | exact HR0.out | (with_reducible refine Kd.C_alloc ?_ _) | (with_reducible refine Kd.C_drewN ?_ _) | (with_reducible refine Kd.C_drew ?_))); (case side2 => exact HC0.out); rintro e w14 ⟨v182, rfl, ho0, hb⟩; refine ⟨_, rfl, ?_⟩; have n0_ := Aside0.mk (Kd.R_lower ho0 (below_size (by repeat (first | (with_reducible first | exact HB.out | apply below_alloc | apply pw_below_drewN | apply below_drew1) | exact HB.out)))); have n1_ := Aside0.mk (below_step (by repeat (first | (with_reducible first | exact HB.out | apply below_alloc | apply pw_below_drewN | apply below_drew1) | exact HB.out)) hb); clear HB; have HO183 := n0_; have HB := n1_; clear n0_ n1_; (try clear hb); (try clear hb2); (try clear hk); (try clear hi); (try clear ho0)) | ((with_reducible refine gate_callee (f := 46) rfl ?_); refine goesL_ (some 8) rfl rfl Try.func46 (by kernel_rfl) rfl #[.slice A0 l0.length c0] rfl (by (try simp only [List.map_toArray, List.map_cons, List.map_nil]); first | done | rfl | (simp only [List.length_drop, List.length_take]; rfl)) ?_; (with_reducible refine (varveref07_dense.calls k _ _ l0 t184 _ ?side1 ?side2 A3.out).mono ?_); (case side1 => repeat (first | exact (Kd.C_below HR0.out HB.out) | (with_reducible refine Kd.C_alloc ?_ _) | (with_reducible refine Kd.C_drewN ?_ _) | (with_reducible refine Kd.C_drew ?_))); (case side2 => exact HC0.out); rintro e w15 ⟨v185, rfl, ho0, hb⟩; refine ⟨_, rfl, ?_⟩; have n0_ := Aside0.mk (Kd.R_elder' (by (with_reducible repeat (first | apply Kd.R_alloc | apply Kd.R_drewN | apply Kd.R_drew)); exact HO183.out) (Kd.R_base ho0) hb); have n1_ := Aside0.mk (Kd.R_lower (Kd.R_new' ho0 (Kd.R_lt (by (with_reducible repeat (first | apply Kd.R_alloc | apply Kd.R_drewN | apply Kd.R_drew)); exact HO183.out))) (below_size (by repeat (first | (with_reducible first | exact HB.out | apply below_alloc | apply pw_below_drewN | apply below_drew1) | exact HB.out)))); have n2_ := Aside0.mk (below_step (by repeat (first | (with_reducible first | exact HB.out | apply below_alloc | apply pw_below_drewN | apply below_drew1) | exact HB.out)) hb); clear HO183; clear HB; have HO183 := n0_; have HO186 := n1_; have HB := n2_; clear n0_ n1_ n2_; (try clear hb); (try clear hb2); (try clear hk); (try clear hi); (try clear ho0); obtain ⟨Ao16, co16, eo16⟩ := Kd.R_slice HO186.out; subst eo16))
    go_ret
    exact ⟨_, by first | rfl | (simp [errW_none, errW_some] <;> rfl) | (simp [*, errW_none, errW_some] <;> rfl), by (with_reducible repeat (first | apply Kd.R_alloc | apply Kd.R_drewN | apply Kd.R_drew)); exact Kd.R_mono HO183.out (fun _ hk => trivial), by repeat (first | (with_reducible first | exact HB.out | apply below_alloc | apply pw_below_drewN | apply below_drew1) | exact HB.out)⟩
end Go.Proofs.Ytofgcacahfdjdaa.Vt
namespace Go.Proofs.Ytofgcacahfdjdaa.Vt
open Go.RowKit Go.Proofs.YtofgcacahfdjdaaW.PrintWords Go.Proofs.YtofgcacahfdjdaaW.PrintLast Go.Proofs.YtofgcacahfdjdaaW.PrintMore Go.Proofs.Ytofgcacahfdjdaa.Hi Go.Proofs.Ytofgcacahfdjdaa.Q
attribute [local go_sem] max2_int min2_int max_two min_two max_three min_three max_four min_four   -- for this text's walks alone
set_option linter.unusedVariables false
set_option linter.unusedSimpArgs false
/-- A state of type 29 at block g of W; what its slices lead to came in by w0. -/
def IsS29 (w0 W : World) (g : Nat) (f0 : List Int) (f1 : Int) (f2 : Bool) : Prop := ∃ A0 c0, W.heap[g]? = some (.cells #[.slice A0 f0.length c0, .int .i64 f1, .bool f2] 29 (0, 0)) ∧ (w0.heap.size ≤ g ∧ f0.length ≤ c0) ∧ Kd.C (Kd.int .u8) w0 A0 f0.length f0
theorem IsS29.grown {w0 W : World} {g : Nat} {f0 : List Int} {f1 : Int} {f2 : Bool} {W1 : World} {row : Option Nat} (h : IsS29 w0 W g f0 f1 f2) (hw : W.grownBy W1 row) (hne : some g ≠ row) : IsS29 w0 W1 g f0 f1 f2 := by
  obtain ⟨A0, c0, hb, hg, hr0⟩ := h
  exact ⟨A0, c0, blk_grown hb hw hne, hg, hr0⟩
theorem IsS29.kept {w0 W : World} {g : Nat} {f0 : List Int} {f1 : Int} {f2 : Bool} {W1 : World} {S : Nat → Prop} (h : IsS29 w0 W g f0 f1 f2) (hk : Kept W W1 S) (hne : ¬ S g) : IsS29 w0 W1 g f0 f1 f2 := by
  obtain ⟨A0, c0, hb, hg, hr0⟩ := h
  exact ⟨A0, c0, blk_kept hb hk hne, hg, hr0⟩
theorem IsS29.below {w0 W : World} {g : Nat} {f0 : List Int} {f1 : Int} {f2 : Bool} {W1 : World} (h : IsS29 w0 W g f0 f1 f2) (hw : Below W.heap.size W W1) : IsS29 w0 W1 g f0 f1 f2 := h.grown (grown_of_below hw none) (by simp)
theorem IsS29.alloc {w0 W : World} {g : Nat} {f0 : List Int} {f1 : Int} {f2 : Bool} (h : IsS29 w0 W g f0 f1 f2) (o : Obj) : IsS29 w0 (W.alloc o) g f0 f1 f2 := h.below (below_alloc (Below.refl _ _) o)
theorem IsS29.drewN {w0 W : World} {g : Nat} {f0 : List Int} {f1 : Int} {f2 : Bool} (h : IsS29 w0 W g f0 f1 f2) (m : Nat) : IsS29 w0 (W.drewN m) g f0 f1 f2 := h
theorem IsS29.drew {w0 W : World} {g : Nat} {f0 : List Int} {f1 : Int} {f2 : Bool} (h : IsS29 w0 W g f0 f1 f2) : IsS29 w0 W.drew g f0 f1 f2 := h
theorem IsS29.at_ {w0 W : World} {g : Nat} {f0 : List Int} {f1 : Int} {f2 : Bool} {w' : World} {m : Nat} (hq : W.drewN m = w') (h : IsS29 w0 W g f0 f1 f2) : IsS29 w0 w' g f0 f1 f2 := by subst hq; exact IsS29.drewN h m
theorem IsS29.apart {w0 W : World} {g : Nat} {f0 : List Int} {f1 : Int} {f2 : Bool} {α : Type} {d : Kd α} {e : Nat} {base : Nat} {ok : Nat → Prop} {v : Value} {xs : List α} (h : IsS29 w0 W g f0 f1 f2) (ho : d.R e W base ok v xs) (ht : ∀ q, q ∈ e :: d.E → q ≠ 29) : d.R e W base (fun k => ok k ∧ k ≠ g) v xs := by
  obtain ⟨A0, c0, hb, hg, hr0⟩ := h
  exact Kd.R_types ho hb ht
theorem IsS29.own_ne {w0 W : World} {g : Nat} {f0 : List Int} {f1 : Int} {f2 : Bool} {α : Type} {d : Kd α} {e : Nat} {base : Nat} {ok : Nat → Prop} {v : Value} {xs : List α} (h : IsS29 w0 W g f0 f1 f2) (ho : d.R e W base ok v xs) (ht : e ≠ 29) : some g ≠ v.ownBlock := by
  obtain ⟨A0, c0, hb, hg, hr0⟩ := h
  exact Kd.R_ne ho hb ht
theorem IsS29.lt {w0 W : World} {g : Nat} {f0 : List Int} {f1 : Int} {f2 : Bool} (h : IsS29 w0 W g f0 f1 f2) : g < W.heap.size := by
  obtain ⟨A0, c0, hb, hg, hr0⟩ := h
  exact blk_lt hb
theorem IsS29.ge {w0 W : World} {g : Nat} {f0 : List Int} {f1 : Int} {f2 : Bool} (h : IsS29 w0 W g f0 f1 f2) : w0.heap.size ≤ g := by
  obtain ⟨A0, c0, hb, hg, hr0⟩ := h
  exact hg.1
theorem cellS29_0 {W : World} {g : Nat} {A0 : Option Addr} {c0 : Nat} {f0 : List Int} {f1 : Int} {f2 : Bool} (h : W.heap[g]? = some (.cells #[.slice A0 f0.length c0, .int .i64 f1, .bool f2] 29 (0, 0))) : W.cell? ⟨g, 0, none⟩ = some (.slice A0 f0.length c0) := (blk_cell h 0).trans rfl
theorem cellS29_1 {W : World} {g : Nat} {A0 : Option Addr} {c0 : Nat} {f0 : List Int} {f1 : Int} {f2 : Bool} (h : W.heap[g]? = some (.cells #[.slice A0 f0.length c0, .int .i64 f1, .bool f2] 29 (0, 0))) : W.cell? ⟨g, 1, none⟩ = some (.int .i64 f1) := (blk_cell h 1).trans rfl
theorem IsS29.set_1 {w0 W : World} {g : Nat} {f0 : List Int} {f1 : Int} {f2 : Bool} (h : IsS29 w0 W g f0 f1 f2) (x : Int) : IsS29 w0 (W.setCell ⟨g, 1, none⟩ (.int .i64 x)) g f0 x f2 := by
  obtain ⟨A0, c0, hb, hg, hr0⟩ := h
  exact ⟨A0, c0, by simpa using blk_set hb 1 (.int .i64 x), hg, hr0⟩
theorem cellS29_2 {W : World} {g : Nat} {A0 : Option Addr} {c0 : Nat} {f0 : List Int} {f1 : Int} {f2 : Bool} (h : W.heap[g]? = some (.cells #[.slice A0 f0.length c0, .int .i64 f1, .bool f2] 29 (0, 0))) : W.cell? ⟨g, 2, none⟩ = some (.bool f2) := (blk_cell h 2).trans rfl
theorem IsS29.set_2 {w0 W : World} {g : Nat} {f0 : List Int} {f1 : Int} {f2 : Bool} (h : IsS29 w0 W g f0 f1 f2) (x : Bool) : IsS29 w0 (W.setCell ⟨g, 2, none⟩ (.bool x)) g f0 f1 x := by
  obtain ⟨A0, c0, hb, hg, hr0⟩ := h
  exact ⟨A0, c0, by simpa using blk_set hb 2 (.bool x), hg, hr0⟩
mutual
def varveref04_R_Num.l0 : Nat → Int → Int → List Int → Int → Bool → Option (Int × Int × Bool)
  | 0, _, _, _, _, _ => none
  | k + 1, x3, x4, x1000, x1001, x1002 => if x4 < 10 then (if x1002 = true then (varveref04_R_Num.j1 k x3 x4 true x1000 x1001 x1002) else (if x1001 < 0 then (varveref04_R_Num.j1 k x3 x4 true x1000 x1001 x1002) else (varveref04_R_Num.j1 k x3 x4 (decide (x1001 ≥ (x1000.length : Int))) x1000 x1001 x1002))) else (some (0, x1001, true))
def varveref04_R_Num.j1 : Nat → Int → Int → Bool → List Int → Int → Bool → Option (Int × Int × Bool)
  | 0, _, _, _, _, _, _ => none
  | k + 1, x3, x4, x32, x1000, x1001, x1002 => if x32 = true then (some (0, x1001, true)) else (if 0 ≤ x1001 then (if x1001 < (x1000.length : Int) then (if x4 = 9 then (varveref04_R_Num.j2 k x3 x4 (rd x1000 x1001) (decide ((rd x1000 x1001) > 1)) x1000 (wrap64 (x1001 + 1)) x1002) else (varveref04_R_Num.j2 k x3 x4 (rd x1000 x1001) false x1000 (wrap64 (x1001 + 1)) x1002)) else (none)) else (none))
def varveref04_R_Num.j2 : Nat → Int → Int → Int → Bool → List Int → Int → Bool → Option (Int × Int × Bool)
  | 0, _, _, _, _, _, _, _ => none
  | k + 1, x3, x4, x5, x58, x1000, x1001, x1002 => if x58 = true then (some (0, x1001, true)) else (if 0 ≤ (IntKind.u64.wrap (wrap64 (7 * x4))) then (if x5 < 128 then (if x5 = 0 then (if x4 > 0 then (some (0, x1001, true)) else (some (IntKind.u64.wrap (x3 + (shl .u64 (IntKind.u64.wrap (Int.tmod x5 128)) (IntKind.u64.wrap (wrap64 (7 * x4))))), x1001, x1002))) else (some (IntKind.u64.wrap (x3 + (shl .u64 (IntKind.u64.wrap (Int.tmod x5 128)) (IntKind.u64.wrap (wrap64 (7 * x4))))), x1001, x1002))) else (varveref04_R_Num.l0 k (IntKind.u64.wrap (x3 + (shl .u64 (IntKind.u64.wrap (Int.tmod x5 128)) (IntKind.u64.wrap (wrap64 (7 * x4)))))) (wrap64 (x4 + 1)) x1000 x1001 x1002)) else (none))
end
def varveref04_R_Num.f (k : Nat) (s0_0 : List Int) (s0_1 : Int) (s0_2 : Bool) : Option (Int × Int × Bool) := varveref04_R_Num.l0 k 0 0 s0_0 s0_1 s0_2
set_option maxHeartbeats 8000000 in
set_option maxRecDepth 100000 in
theorem varveref04_R_Num.calls (k : Nat) (g : Nat) (s0_0 : List Int) (s0_1 : Int) (s0_2 : Bool) (r1 : Int) (r2 : Int) (r3 : Bool) (w0 w : World) (hI : IsS29 w0 w g s0_0 s0_1 s0_2) (hB : Below w0.heap.size w0 w) (h : varveref04_R_Num.f k s0_0 s0_1 s0_2 = some (r1, r2, r3)) :
    Calls Try.prog 37 #[.pointer (some ⟨g, 0, none⟩)] w fun e w' => e = .returned (.int .u64 r1) ∧ IsS29 w0 w' g s0_0 r2 r3 ∧ Below w0.heap.size w0 w' ∧ KeepBut w w' g none := by
  have HI0 := Aside0.mk hI
  have HK := Aside0.mk (KeepBut.refl w g none)
  have HL := Aside0.mk hB.size
  clear hI
  have HW0 := Aside0.mk hB.size
  have HB := Aside0.mk hB
  clear hB
  have H : (varveref04_R_Num.l0 k 0 0 s0_0 s0_1 s0_2) = some (r1, r2, r3) := h
  clear h
  have H' := Aside0.mk H
  clear H
  go_enter Try.func37, Try.ntmps37
  go_wp2
  repeat (go_quiet (fail); try go_wp2)
  go_loopg [3, 4] k (fun kq v3 v4 w' => ∃ (x3_1 : Int) (x4_1 : Int) (x1001_1 : Int) (x1002_1 : Bool), v3 = .int .u64 x3_1 ∧ v4 = .int .i64 x4_1 ∧ Aside0 (varveref04_R_Num.l0 kq x3_1 x4_1 s0_0 x1001_1 x1002_1 = some (r1, r2, r3)) ∧ Aside0 (kq ≤ k) ∧ Aside0 (IsS29 w0 w' g s0_0 x1001_1 x1002_1) ∧ Aside0 (KeepBut w w' g none) ∧ Aside0 (Below w0.heap.size w0 w'))
  case atStart => exact ⟨(0), (0), (s0_1), (s0_2), (by first | rfl | (simp; done) | (simp [*]; done)), (by first | rfl | (simp; done) | (simp [*]; done)), H', ⟨Nat.le_refl _⟩, ⟨by repeat (first | (with_reducible first | exact HI0.out | apply IsS29.alloc | apply IsS29.drewN | apply IsS29.drew | apply IsS29.set_1 | apply IsS29.set_2) | exact HI0.out)⟩, ⟨by repeat (first | (with_reducible first | exact HK.out | apply KeepBut.set_ | apply keep_drewN | apply keep_drew | apply keep_alloc) | exact HK.out)⟩, ⟨by repeat (first | (with_reducible first | exact HB.out | apply below_alloc | apply pw_below_drewN | apply below_drew1 | refine below_set ?_ (IsS29.ge HI0.out)) | exact HB.out)⟩⟩
  case round =>
    clear H'
    obtain ⟨x3_1, x4_1, x1001_1, x1002_1, rfl, rfl, HA, HK1, HI0, HK, HB⟩ := hrel
    cases gk with
    | zero => exact absurd HA.out (by simp [varveref04_R_Num.l0])
    | succ k1 =>
      have H := HA.out
      clear HA
      simp only [varveref04_R_Num.l0] at H
      by_cases c2 : x4_1 < 10
      · rw [if_pos c2] at H
        have c2b0 : decide (x4_1 < 10) = true := decide_eq_true c2
        clear c2
        have HC3 := Aside0.mk H
        clear H
        go_upto_region 5 with (fail)
        repeat (go_quiet (fail); go_upto_region 5 with (fail))
        go_cut [32] (fun v32 wc => ∃ (kq : Nat) (x32_2 : Bool), v32 = .bool x32_2 ∧ Aside0 (varveref04_R_Num.j1 kq x3_1 x4_1 x32_2 s0_0 x1001_1 x1002_1 = some (r1, r2, r3)) ∧ Aside0 (kq ≤ k1) ∧ Aside0 (IsS29 w0 wc g s0_0 x1001_1 x1002_1) ∧ Aside0 (KeepBut w wc g none) ∧ Aside0 (Below w0.heap.size w0 wc))
        case first =>
          have H := HC3.out
          clear HC3
          by_cases c4 : x1002_1 = true
          · subst c4
            have H1 : (varveref04_R_Num.j1 k1 x3_1 x4_1 true s0_0 x1001_1 true) = some (r1, r2, r3) := by rw [if_pos rfl] at H; exact H
            clear H
            have H := H1
            clear H1
            have H' := Aside0.mk H
            clear H
            obtain ⟨ASz5_0, cSz5_0, HGz5, hgz5, HSz5_0⟩ := HI0.out
            have hcz5_0 := cellS29_0 HGz5
            have hcz5_1 := cellS29_1 HGz5
            have hcz5_2 := cellS29_2 HGz5
            have hfz5_1 := blk_frozen HGz5 1
            have hfz5_2 := blk_frozen HGz5 2
            clear HGz5 hgz5
            go_wp2
            repeat (go_quiet (fail); try go_wp2)
            go_meet
            case rel => exact ⟨_, (true), (by first | rfl | (simp; done) | (simp [*]; done)), H', ⟨by have := HK1.out; first | omega | exact Nat.le_refl _⟩, ⟨by repeat (first | (with_reducible first | exact HI0.out | apply IsS29.alloc | apply IsS29.drewN | apply IsS29.drew | apply IsS29.set_1 | apply IsS29.set_2) | exact HI0.out)⟩, ⟨by repeat (first | (with_reducible first | exact HK.out | apply KeepBut.set_ | apply keep_drewN | apply keep_drew | apply keep_alloc) | exact HK.out)⟩, ⟨by repeat (first | (with_reducible first | exact HB.out | apply below_alloc | apply pw_below_drewN | apply below_drew1 | refine below_set ?_ (IsS29.ge HI0.out)) | exact HB.out)⟩⟩
          · replace c4 := Bool.eq_false_iff.mpr c4
            subst c4
            have H1 : (if x1001_1 < 0 then (varveref04_R_Num.j1 k1 x3_1 x4_1 true s0_0 x1001_1 false) else (varveref04_R_Num.j1 k1 x3_1 x4_1 (decide (x1001_1 ≥ (s0_0.length : Int))) s0_0 x1001_1 false)) = some (r1, r2, r3) := by rw [if_neg (show ¬ (false = true) by decide)] at H; exact H
            clear H
            have H := H1
            clear H1
            by_cases c6 : x1001_1 < 0
            · rw [if_pos c6] at H
              have c6b0 : decide (x1001_1 < 0) = true := decide_eq_true c6
              clear c6
              (first | rw [c6b0] | (simp only [i64_w, i32_w]; rw [c6b0]) | skip)
              have H' := Aside0.mk H
              clear H
              obtain ⟨ASz7_0, cSz7_0, HGz7, hgz7, HSz7_0⟩ := HI0.out
              have hcz7_0 := cellS29_0 HGz7
              have hcz7_1 := cellS29_1 HGz7
              have hcz7_2 := cellS29_2 HGz7
              have hfz7_1 := blk_frozen HGz7 1
              have hfz7_2 := blk_frozen HGz7 2
              clear HGz7 hgz7
              go_wp2
              repeat (go_quiet (fail); try go_wp2)
              go_meet
              case rel => exact ⟨_, (true), (by first | rfl | (simp; done) | (simp [*]; done)), H', ⟨by have := HK1.out; first | omega | exact Nat.le_refl _⟩, ⟨by repeat (first | (with_reducible first | exact HI0.out | apply IsS29.alloc | apply IsS29.drewN | apply IsS29.drew | apply IsS29.set_1 | apply IsS29.set_2) | exact HI0.out)⟩, ⟨by repeat (first | (with_reducible first | exact HK.out | apply KeepBut.set_ | apply keep_drewN | apply keep_drew | apply keep_alloc) | exact HK.out)⟩, ⟨by repeat (first | (with_reducible first | exact HB.out | apply below_alloc | apply pw_below_drewN | apply below_drew1 | refine below_set ?_ (IsS29.ge HI0.out)) | exact HB.out)⟩⟩
            · rw [if_neg c6] at H
              have c6b0 : decide (x1001_1 < 0) = false := decide_eq_false c6
              clear c6
              (first | rw [c6b0] | (simp only [i64_w, i32_w]; rw [c6b0]) | skip)
              have H' := Aside0.mk H
              clear H
              obtain ⟨ASz8_0, cSz8_0, HGz8, hgz8, HSz8_0⟩ := HI0.out
              have hcz8_0 := cellS29_0 HGz8
              have hcz8_1 := cellS29_1 HGz8
              have hcz8_2 := cellS29_2 HGz8
              have hfz8_1 := blk_frozen HGz8 1
              have hfz8_2 := blk_frozen HGz8 2
              clear HGz8 hgz8
              go_wp2
              repeat (go_quiet (fail); try go_wp2)
              go_meet
              case rel => exact ⟨_, (decide (x1001_1 ≥ (s0_0.length : Int))), (by first | rfl | (simp; done) | (simp [*]; done)), H', ⟨by have := HK1.out; first | omega | exact Nat.le_refl _⟩, ⟨by repeat (first | (with_reducible first | exact HI0.out | apply IsS29.alloc | apply IsS29.drewN | apply IsS29.drew | apply IsS29.set_1 | apply IsS29.set_2) | exact HI0.out)⟩, ⟨by repeat (first | (with_reducible first | exact HK.out | apply KeepBut.set_ | apply keep_drewN | apply keep_drew | apply keep_alloc) | exact HK.out)⟩, ⟨by repeat (first | (with_reducible first | exact HB.out | apply below_alloc | apply pw_below_drewN | apply below_drew1 | refine below_set ?_ (IsS29.ge HI0.out)) | exact HB.out)⟩⟩
        case rest =>
          clear HC3
          try clear c2
          try clear c2b0
          try clear p2
          try clear c3
          try clear c4
          try clear c6
          try clear c6b0
          try clear hcz5_0
          try clear hcz5_1
          try clear hcz5_2
          try clear hcz7_0
          try clear hcz7_1
          try clear hcz7_2
          try clear hcz8_0
          try clear hcz8_1
          try clear hcz8_2
          try clear hfz5_1
          try clear hfz5_2
          try clear hfz7_1
          try clear hfz7_2
          try clear hfz8_1
          try clear hfz8_2
          obtain ⟨kq, x32_2, rfl, HA, HJ2, HI0, HK, HB⟩ := hcut
          cases kq with
          | zero => exact absurd HA.out (by simp [varveref04_R_Num.j1])
          | succ kj2 =>
            have H := HA.out
            clear HA
            simp only [varveref04_R_Num.j1] at H
            by_cases c9 : x32_2 = true
            · subst c9
              have H1 : (some (0, x1001_1, true)) = some (r1, r2, r3) := by rw [if_pos rfl] at H; exact H
              clear H
              have H := H1
              clear H1
              simp only [Option.some.injEq, Prod.mk.injEq] at H
              obtain ⟨rfl, rfl, rfl⟩ := H
              obtain ⟨ASz10_0, cSz10_0, HGz10, hgz10, HSz10_0⟩ := HI0.out
              have hcz10_0 := cellS29_0 HGz10
              have hcz10_1 := cellS29_1 HGz10
              have hcz10_2 := cellS29_2 HGz10
              have hfz10_1 := blk_frozen HGz10 1
              have hfz10_2 := blk_frozen HGz10 2
              clear HGz10 hgz10
              go_wp2
              repeat (go_quiet (fail); try go_wp2)
              go_ret
              exact ⟨by first | rfl | (simp [errW_none, errW_some] <;> rfl) | (simp [*, errW_none, errW_some] <;> rfl), by repeat (first | (with_reducible first | exact HI0.out | apply IsS29.alloc | apply IsS29.drewN | apply IsS29.drew | apply IsS29.set_1 | apply IsS29.set_2) | exact HI0.out), by repeat (first | (with_reducible first | exact HB.out | apply below_alloc | apply pw_below_drewN | apply below_drew1 | refine below_set ?_ (IsS29.ge HI0.out)) | exact HB.out), by repeat (first | (with_reducible first | exact HK.out | apply KeepBut.set_ | apply keep_drewN | apply keep_drew | apply keep_alloc) | exact HK.out)⟩
            · replace c9 := Bool.eq_false_iff.mpr c9
              subst c9
              have H1 : (if 0 ≤ x1001_1 then (if x1001_1 < (s0_0.length : Int) then (if x4_1 = 9 then (varveref04_R_Num.j2 kj2 x3_1 x4_1 (rd s0_0 x1001_1) (decide ((rd s0_0 x1001_1) > 1)) s0_0 (wrap64 (x1001_1 + 1)) x1002_1) else (varveref04_R_Num.j2 kj2 x3_1 x4_1 (rd s0_0 x1001_1) false s0_0 (wrap64 (x1001_1 + 1)) x1002_1)) else (none)) else (none)) = some (r1, r2, r3) := by rw [if_neg (show ¬ (false = true) by decide)] at H; exact H
              clear H
              have H := H1
              clear H1
              by_cases c11 : 0 ≤ x1001_1
              · rw [if_pos c11] at H
                have c11b0 : decide (0 ≤ x1001_1) = true := decide_eq_true c11
                clear c11
                by_cases c12 : x1001_1 < (s0_0.length : Int)
                · rw [if_pos c12] at H
                  have c12b0 : decide (x1001_1 < (s0_0.length : Int)) = true := decide_eq_true c12
                  clear c12
                  have HC13 := Aside0.mk H
                  clear H
                  obtain ⟨ASz14_0, cSz14_0, HGz14, hgz14, HSz14_0⟩ := HI0.out
                  have hcz14_0 := cellS29_0 HGz14
                  have hcz14_1 := cellS29_1 HGz14
                  have hcz14_2 := cellS29_2 HGz14
                  have hfz14_1 := blk_frozen HGz14 1
                  have hfz14_2 := blk_frozen HGz14 2
                  clear HGz14 hgz14
                  have p187 : 0 ≤ (x1001_1 : Int) := of_decide_eq_true (by first | (with_reducible assumption) | assumption)
                  have q187 : x1001_1 < (s0_0.length : Int) := of_decide_eq_true (by first | (with_reducible assumption) | assumption)
                  obtain ⟨ad187, e187, hx187_0⟩ := Kd.at_int HSz14_0 x1001_1 p187 q187
                  cases e187
                  replace hx187_0 := pw_cell_below HB.out hx187_0
                  replace p187 := eq_true p187
                  replace q187 := eq_true q187
                  go_upto_region 10 with (fail)
                  repeat (go_quiet (fail); go_upto_region 10 with (fail))
                  go_cut [58] (fun v58 wc => ∃ (kq : Nat) (x58_12 : Bool), v58 = .bool x58_12 ∧ Aside0 (varveref04_R_Num.j2 kq x3_1 x4_1 (rd s0_0 x1001_1) x58_12 s0_0 (wrap64 (x1001_1 + 1)) x1002_1 = some (r1, r2, r3)) ∧ Aside0 (kq ≤ kj2) ∧ Aside0 (IsS29 w0 wc g s0_0 (wrap64 (x1001_1 + 1)) x1002_1) ∧ Aside0 (KeepBut w wc g none) ∧ Aside0 (Below w0.heap.size w0 wc))
                  case first =>
                    have H := HC13.out
                    clear HC13
                    by_cases c15 : x4_1 = 9
                    · rw [if_pos c15] at H
                      have c15b0 : (x4_1 == 9) = true := beq_iff_eq.mpr c15
                      have c15b1 : (x4_1 != 9) = false := bne_eq_false_iff_eq.mpr c15
                      clear c15
                      (first | rw [c15b0] | (simp only [i64_w, i32_w]; rw [c15b0]) | skip)
                      have H' := Aside0.mk H
                      clear H
                      go_wp2
                      repeat (go_quiet (fail); try go_wp2)
                      go_meet
                      case rel => exact ⟨_, (decide ((rd s0_0 x1001_1) > 1)), (by first | rfl | (simp; done) | (simp [*]; done)), H', ⟨by have := HK1.out; have := HJ2.out; first | omega | exact Nat.le_refl _⟩, ⟨by repeat (first | (with_reducible first | exact HI0.out | apply IsS29.alloc | apply IsS29.drewN | apply IsS29.drew | apply IsS29.set_1 | apply IsS29.set_2) | exact HI0.out)⟩, ⟨by repeat (first | (with_reducible first | exact HK.out | apply KeepBut.set_ | apply keep_drewN | apply keep_drew | apply keep_alloc) | exact HK.out)⟩, ⟨by repeat (first | (with_reducible first | exact HB.out | apply below_alloc | apply pw_below_drewN | apply below_drew1 | refine below_set ?_ (IsS29.ge HI0.out)) | exact HB.out)⟩⟩
                    · rw [if_neg c15] at H
                      have c15b0 : (x4_1 == 9) = false := beq_eq_false_iff_ne.mpr c15
                      have c15b1 : (x4_1 != 9) = true := bne_iff_ne.mpr c15
                      (first | rw [c15b0] | (simp only [i64_w, i32_w]; rw [c15b0]) | skip)
                      have H' := Aside0.mk H
                      clear H
                      go_wp2
                      repeat (go_quiet (fail); try go_wp2)
                      go_meet
                      case rel => exact ⟨_, (false), (by first | rfl | (simp; done) | (simp [*]; done)), H', ⟨by have := HK1.out; have := HJ2.out; first | omega | exact Nat.le_refl _⟩, ⟨by repeat (first | (with_reducible first | exact HI0.out | apply IsS29.alloc | apply IsS29.drewN | apply IsS29.drew | apply IsS29.set_1 | apply IsS29.set_2) | exact HI0.out)⟩, ⟨by repeat (first | (with_reducible first | exact HK.out | apply KeepBut.set_ | apply keep_drewN | apply keep_drew | apply keep_alloc) | exact HK.out)⟩, ⟨by repeat (first | (with_reducible first | exact HB.out | apply below_alloc | apply pw_below_drewN | apply below_drew1 | refine below_set ?_ (IsS29.ge HI0.out)) | exact HB.out)⟩⟩
                  case rest =>
                    clear HC13
                    try clear c1
                    try clear p1
                    try clear q1
                    try clear hx1
                    try clear c2
                    try clear c2b0
                    try clear p2
                    try clear c3
                    try clear c4
                    try clear c6
                    try clear c6b0
                    try clear p6
                    try clear c9
                    try clear c11
                    try clear c11b0
                    try clear c12
                    try clear c12b0
                    try clear c15
                    try clear c15b0
                    try clear c15b1
                    try clear hcz10_0
                    try clear hcz10_1
                    try clear hcz10_2
                    try clear hcz14_0
                    try clear hcz14_1
                    try clear hcz14_2
                    try clear hcz5_0
                    try clear hcz5_1
                    try clear hcz5_2
                    try clear hcz7_0
                    try clear hcz7_1
                    try clear hcz7_2
                    try clear hcz8_0
                    try clear hcz8_1
                    try clear hcz8_2
                    try clear hfz10_1
                    try clear hfz10_2
                    try clear hfz14_1
                    try clear hfz14_2
                    try clear hfz5_1
                    try clear hfz5_2
                    try clear hfz7_1
                    try clear hfz7_2
                    try clear hfz8_1
                    try clear hfz8_2
                    try clear hx187_0
                    try clear p187
                    try clear p2
                    try clear q187
                    obtain ⟨kq, x58_12, rfl, HA, HJ12, HI0, HK, HB⟩ := hcut
                    cases kq with
                    | zero => exact absurd HA.out (by simp [varveref04_R_Num.j2])
                    | succ kj12 =>
                      have H := HA.out
                      clear HA
                      simp only [varveref04_R_Num.j2] at H
                      by_cases c16 : x58_12 = true
                      · subst c16
                        have H1 : (some (0, (wrap64 (x1001_1 + 1)), true)) = some (r1, r2, r3) := by rw [if_pos rfl] at H; exact H
                        clear H
                        have H := H1
                        clear H1
                        simp only [Option.some.injEq, Prod.mk.injEq] at H
                        obtain ⟨rfl, rfl, rfl⟩ := H
                        obtain ⟨ASz17_0, cSz17_0, HGz17, hgz17, HSz17_0⟩ := HI0.out
                        have hcz17_0 := cellS29_0 HGz17
                        have hcz17_1 := cellS29_1 HGz17
                        have hcz17_2 := cellS29_2 HGz17
                        have hfz17_1 := blk_frozen HGz17 1
                        have hfz17_2 := blk_frozen HGz17 2
                        clear HGz17 hgz17
                        go_wp2
                        repeat (go_quiet (fail); try go_wp2)
                        go_ret
                        exact ⟨by first | rfl | (simp [errW_none, errW_some] <;> rfl) | (simp [*, errW_none, errW_some] <;> rfl), by repeat (first | (with_reducible first | exact HI0.out | apply IsS29.alloc | apply IsS29.drewN | apply IsS29.drew | apply IsS29.set_1 | apply IsS29.set_2) | exact HI0.out), by repeat (first | (with_reducible first | exact HB.out | apply below_alloc | apply pw_below_drewN | apply below_drew1 | refine below_set ?_ (IsS29.ge HI0.out)) | exact HB.out), by repeat (first | (with_reducible first | exact HK.out | apply KeepBut.set_ | apply keep_drewN | apply keep_drew | apply keep_alloc) | exact HK.out)⟩
                      · replace c16 := Bool.eq_false_iff.mpr c16
                        subst c16
                        have H1 : (if 0 ≤ (IntKind.u64.wrap (wrap64 (7 * x4_1))) then (if (rd s0_0 x1001_1) < 128 then (if (rd s0_0 x1001_1) = 0 then (if x4_1 > 0 then (some (0, (wrap64 (x1001_1 + 1)), true)) else (some (IntKind.u64.wrap (x3_1 + (shl .u64 (IntKind.u64.wrap (Int.tmod (rd s0_0 x1001_1) 128)) (IntKind.u64.wrap (wrap64 (7 * x4_1))))), (wrap64 (x1001_1 + 1)), x1002_1))) else (some (IntKind.u64.wrap (x3_1 + (shl .u64 (IntKind.u64.wrap (Int.tmod (rd s0_0 x1001_1) 128)) (IntKind.u64.wrap (wrap64 (7 * x4_1))))), (wrap64 (x1001_1 + 1)), x1002_1))) else (varveref04_R_Num.l0 kj12 (IntKind.u64.wrap (x3_1 + (shl .u64 (IntKind.u64.wrap (Int.tmod (rd s0_0 x1001_1) 128)) (IntKind.u64.wrap (wrap64 (7 * x4_1)))))) (wrap64 (x4_1 + 1)) s0_0 (wrap64 (x1001_1 + 1)) x1002_1)) else (none)) = some (r1, r2, r3) := by rw [if_neg (show ¬ (false = true) by decide)] at H; exact H
                        clear H
                        have H := H1
                        clear H1
                        obtain ⟨ji18, hji18⟩ : ∃ j_ : Int, (IntKind.u64.wrap (wrap64 (7 * x4_1))) = j_ := ⟨_, rfl⟩
                        replace H : (if 0 ≤ (ji18) then (if (rd s0_0 x1001_1) < 128 then (if (rd s0_0 x1001_1) = 0 then (if x4_1 > 0 then (some (0, (wrap64 (x1001_1 + 1)), true)) else (some (IntKind.u64.wrap (x3_1 + (shl .u64 (IntKind.u64.wrap (Int.tmod (rd s0_0 x1001_1) 128)) (ji18))), (wrap64 (x1001_1 + 1)), x1002_1))) else (some (IntKind.u64.wrap (x3_1 + (shl .u64 (IntKind.u64.wrap (Int.tmod (rd s0_0 x1001_1) 128)) (ji18))), (wrap64 (x1001_1 + 1)), x1002_1))) else (varveref04_R_Num.l0 kj12 (IntKind.u64.wrap (x3_1 + (shl .u64 (IntKind.u64.wrap (Int.tmod (rd s0_0 x1001_1) 128)) (ji18)))) (wrap64 (x4_1 + 1)) s0_0 (wrap64 (x1001_1 + 1)) x1002_1)) else (none)) = some (r1, r2, r3) := by first | (rw [hji18] at H; exact H) | (simp only [hji18] at H ⊢; exact H)
                        by_cases c19 : 0 ≤ (ji18)
                        · rw [if_pos c19] at H
                          have c19b0 := eq_true c19
                          have c19b1 : decide (0 ≤ (ji18)) = true := decide_eq_true c19
                          clear c19
                          obtain ⟨ji20, hji20⟩ : ∃ j_ : Int, (shl .u64 (IntKind.u64.wrap (Int.tmod (rd s0_0 x1001_1) 128)) (ji18)) = j_ := ⟨_, rfl⟩
                          replace H : (if (rd s0_0 x1001_1) < 128 then (if (rd s0_0 x1001_1) = 0 then (if x4_1 > 0 then (some (0, (wrap64 (x1001_1 + 1)), true)) else (some (IntKind.u64.wrap (x3_1 + (ji20)), (wrap64 (x1001_1 + 1)), x1002_1))) else (some (IntKind.u64.wrap (x3_1 + (ji20)), (wrap64 (x1001_1 + 1)), x1002_1))) else (varveref04_R_Num.l0 kj12 (IntKind.u64.wrap (x3_1 + (ji20))) (wrap64 (x4_1 + 1)) s0_0 (wrap64 (x1001_1 + 1)) x1002_1)) = some (r1, r2, r3) := by first | (rw [hji20] at H; exact H) | (simp only [hji20] at H ⊢; exact H)
                          have hji20_ : (IntKind.u64.wrap ((IntKind.u64.wrap (Int.tmod (rd s0_0 x1001_1) 128)) * 2 ^ min (ji18).toNat 64)) = ji20 := hji20
                          have hji20z : (ji18) ≤ 64 → (IntKind.u64.wrap ((IntKind.u64.wrap (Int.tmod (rd s0_0 x1001_1) 128)) * 2 ^ (ji18).toNat)) = ji20 := shl_small hji20
                          by_cases c21 : (rd s0_0 x1001_1) < 128
                          · rw [if_pos c21] at H
                            have c21b0 : decide ((rd s0_0 x1001_1) < 128) = true := decide_eq_true c21
                            clear c21
                            by_cases c22 : (rd s0_0 x1001_1) = 0
                            · rw [if_pos c22] at H
                              have c22b0 : ((rd s0_0 x1001_1) == 0) = true := beq_iff_eq.mpr c22
                              have c22b1 : ((rd s0_0 x1001_1) != 0) = false := bne_eq_false_iff_eq.mpr c22
                              clear c22
                              by_cases c23 : x4_1 > 0
                              · rw [if_pos c23] at H
                                have c23b0 : decide (0 < x4_1) = true := decide_eq_true c23
                                clear c23
                                simp only [Option.some.injEq, Prod.mk.injEq] at H
                                obtain ⟨rfl, rfl, rfl⟩ := H
                                obtain ⟨ASz24_0, cSz24_0, HGz24, hgz24, HSz24_0⟩ := HI0.out
                                have hcz24_0 := cellS29_0 HGz24
                                have hcz24_1 := cellS29_1 HGz24
                                have hcz24_2 := cellS29_2 HGz24
                                have hfz24_1 := blk_frozen HGz24 1
                                have hfz24_2 := blk_frozen HGz24 2
                                clear HGz24 hgz24
                                go_wp2
                                repeat (go_quiet (fail); try go_wp2)
                                go_ret
                                exact ⟨by first | rfl | (simp [errW_none, errW_some] <;> rfl) | (simp only [← hji18, ← hji20]; first | rfl | (simp [errW_none, errW_some] <;> rfl)) | (simp [*, errW_none, errW_some] <;> rfl), by repeat (first | (with_reducible first | exact HI0.out | apply IsS29.alloc | apply IsS29.drewN | apply IsS29.drew | apply IsS29.set_1 | apply IsS29.set_2) | exact HI0.out), by repeat (first | (with_reducible first | exact HB.out | apply below_alloc | apply pw_below_drewN | apply below_drew1 | refine below_set ?_ (IsS29.ge HI0.out)) | exact HB.out), by repeat (first | (with_reducible first | exact HK.out | apply KeepBut.set_ | apply keep_drewN | apply keep_drew | apply keep_alloc) | exact HK.out)⟩
                              · rw [if_neg c23] at H
                                have c23b0 : decide (0 < x4_1) = false := decide_eq_false c23
                                clear c23
                                simp only [Option.some.injEq, Prod.mk.injEq] at H
                                obtain ⟨rfl, rfl, rfl⟩ := H
                                go_wp2
                                repeat (go_quiet (fail); try go_wp2)
                                go_ret
                                exact ⟨by first | rfl | (simp [errW_none, errW_some] <;> rfl) | (simp only [← hji18, ← hji20]; first | rfl | (simp [errW_none, errW_some] <;> rfl)) | (simp [*, errW_none, errW_some] <;> rfl), by repeat (first | (with_reducible first | exact HI0.out | apply IsS29.alloc | apply IsS29.drewN | apply IsS29.drew | apply IsS29.set_1 | apply IsS29.set_2) | exact HI0.out), by repeat (first | (with_reducible first | exact HB.out | apply below_alloc | apply pw_below_drewN | apply below_drew1 | refine below_set ?_ (IsS29.ge HI0.out)) | exact HB.out), by repeat (first | (with_reducible first | exact HK.out | apply KeepBut.set_ | apply keep_drewN | apply keep_drew | apply keep_alloc) | exact HK.out)⟩
                            · rw [if_neg c22] at H
                              have c22b0 : ((rd s0_0 x1001_1) == 0) = false := beq_eq_false_iff_ne.mpr c22
                              have c22b1 : ((rd s0_0 x1001_1) != 0) = true := bne_iff_ne.mpr c22
                              simp only [Option.some.injEq, Prod.mk.injEq] at H
                              obtain ⟨rfl, rfl, rfl⟩ := H
                              go_wp2
                              repeat (go_quiet (fail); try go_wp2)
                              go_ret
                              exact ⟨by first | rfl | (simp [errW_none, errW_some] <;> rfl) | (simp only [← hji18, ← hji20]; first | rfl | (simp [errW_none, errW_some] <;> rfl)) | (simp [*, errW_none, errW_some] <;> rfl), by repeat (first | (with_reducible first | exact HI0.out | apply IsS29.alloc | apply IsS29.drewN | apply IsS29.drew | apply IsS29.set_1 | apply IsS29.set_2) | exact HI0.out), by repeat (first | (with_reducible first | exact HB.out | apply below_alloc | apply pw_below_drewN | apply below_drew1 | refine below_set ?_ (IsS29.ge HI0.out)) | exact HB.out), by repeat (first | (with_reducible first | exact HK.out | apply KeepBut.set_ | apply keep_drewN | apply keep_drew | apply keep_alloc) | exact HK.out)⟩
                          · rw [if_neg c21] at H
                            have c21b0 : decide ((rd s0_0 x1001_1) < 128) = false := decide_eq_false c21
                            clear c21
                            have H' := Aside0.mk H
                            clear H
                            go_wp2
                            repeat (go_quiet (fail); try go_wp2)
                            go_roundg kj12
                            case measure => have := HK1.out; have := HJ2.out; have := HJ12.out; omega
                            case rel => exact ⟨(IntKind.u64.wrap (x3_1 + (ji20))), (wrap64 (x4_1 + 1)), ((wrap64 (x1001_1 + 1))), (x1002_1), (by first | rfl | (simp; done) | (simp only [← hji20] <;> (first | rfl | simp)) | (simp [*]; done)), (by first | rfl | (simp; done) | (simp [*]; done)), H', ⟨by have := HK1.out; have := HJ2.out; have := HJ12.out; omega⟩, ⟨by repeat (first | (with_reducible first | exact HI0.out | apply IsS29.alloc | apply IsS29.drewN | apply IsS29.drew | apply IsS29.set_1 | apply IsS29.set_2) | exact HI0.out)⟩, ⟨by repeat (first | (with_reducible first | exact HK.out | apply KeepBut.set_ | apply keep_drewN | apply keep_drew | apply keep_alloc) | exact HK.out)⟩, ⟨by repeat (first | (with_reducible first | exact HB.out | apply below_alloc | apply pw_below_drewN | apply below_drew1 | refine below_set ?_ (IsS29.ge HI0.out)) | exact HB.out)⟩⟩
                        · rw [if_neg c19] at H
                          exact absurd H (by simp)
                · rw [if_neg c12] at H
                  exact absurd H (by simp)
              · rw [if_neg c11] at H
                exact absurd H (by simp)
      · rw [if_neg c2] at H
        have c2b0 : decide (x4_1 < 10) = false := decide_eq_false c2
        clear c2
        simp only [Option.some.injEq, Prod.mk.injEq] at H
        obtain ⟨rfl, rfl, rfl⟩ := H
        obtain ⟨ASz25_0, cSz25_0, HGz25, hgz25, HSz25_0⟩ := HI0.out
        have hcz25_0 := cellS29_0 HGz25
        have hcz25_1 := cellS29_1 HGz25
        have hcz25_2 := cellS29_2 HGz25
        have hfz25_1 := blk_frozen HGz25 1
        have hfz25_2 := blk_frozen HGz25 2
        clear HGz25 hgz25
        go_wp2
        repeat (go_quiet (fail); try go_wp2)
        go_ret
        exact ⟨by first | rfl | (simp [errW_none, errW_some] <;> rfl) | (simp [*, errW_none, errW_some] <;> rfl), by repeat (first | (with_reducible first | exact HI0.out | apply IsS29.alloc | apply IsS29.drewN | apply IsS29.drew | apply IsS29.set_1 | apply IsS29.set_2) | exact HI0.out), by repeat (first | (with_reducible first | exact HB.out | apply below_alloc | apply pw_below_drewN | apply below_drew1 | refine below_set ?_ (IsS29.ge HI0.out)) | exact HB.out), by repeat (first | (with_reducible first | exact HK.out | apply KeepBut.set_ | apply keep_drewN | apply keep_drew | apply keep_alloc) | exact HK.out)⟩
def varveref04_R_Count.f (k : Nat) (s0_0 : List Int) (s0_1 : Int) (s0_2 : Bool) (a1 : Int) : Option (Int × Int × Bool) := (varveref04_R_Num.f k s0_0 s0_1 s0_2).bind fun bt188 => (if bt188.2.2 = true then (some (0, bt188.2.1, true)) else (if a1 < 0 then (some (0, bt188.2.1, true)) else (if bt188.1 > (IntKind.u64.wrap (a1)) then (some (0, bt188.2.1, true)) else (if bt188.1 > (IntKind.u64.wrap (wrap64 ((s0_0.length : Int) - bt188.2.1))) then (some (0, bt188.2.1, true)) else (some (wrap64 (bt188.1), bt188.2.1, bt188.2.2))))))
set_option maxHeartbeats 8000000 in
set_option maxRecDepth 100000 in
theorem varveref04_R_Count.calls (k : Nat) (g : Nat) (s0_0 : List Int) (s0_1 : Int) (s0_2 : Bool) (a1 : Int) (r1 : Int) (r2 : Int) (r3 : Bool) (w0 w : World) (hI : IsS29 w0 w g s0_0 s0_1 s0_2) (hB : Below w0.heap.size w0 w) (h : varveref04_R_Count.f k s0_0 s0_1 s0_2 a1 = some (r1, r2, r3)) :
    Calls Try.prog 38 #[.pointer (some ⟨g, 0, none⟩), .int .i64 a1] w fun e w' => e = .returned (.int .i64 r1) ∧ IsS29 w0 w' g s0_0 r2 r3 ∧ Below w0.heap.size w0 w' ∧ KeepBut w w' g none := by
  have HI0 := Aside0.mk hI
  have HK := Aside0.mk (KeepBut.refl w g none)
  have HL := Aside0.mk hB.size
  clear hI
  have HW0 := Aside0.mk hB.size
  have HB := Aside0.mk hB
  clear hB
  have H : ((varveref04_R_Num.f k s0_0 s0_1 s0_2).bind fun bt188 => (if bt188.2.2 = true then (some (0, bt188.2.1, true)) else (if a1 < 0 then (some (0, bt188.2.1, true)) else (if bt188.1 > (IntKind.u64.wrap (a1)) then (some (0, bt188.2.1, true)) else (if bt188.1 > (IntKind.u64.wrap (wrap64 ((s0_0.length : Int) - bt188.2.1))) then (some (0, bt188.2.1, true)) else (some (wrap64 (bt188.1), bt188.2.1, bt188.2.2))))))) = some (r1, r2, r3) := h
  clear h
  replace H := Option.bind_eq_some_iff.mp H
  obtain ⟨⟨t188, t189, t190⟩, A30, H⟩ := H
  replace H : (if t190 = true then (some (0, t189, true)) else (if a1 < 0 then (some (0, t189, true)) else (if t188 > (IntKind.u64.wrap (a1)) then (some (0, t189, true)) else (if t188 > (IntKind.u64.wrap (wrap64 ((s0_0.length : Int) - t189))) then (some (0, t189, true)) else (some (wrap64 (t188), t189, t190)))))) = some (r1, r2, r3) := H
  have A3 := Aside0.mk A30
  clear A30
  by_cases c4 : t190 = true
  · subst c4
    have H1 : (some (0, t189, true)) = some (r1, r2, r3) := by rw [if_pos rfl] at H; exact H
    clear H
    have H := H1
    clear H1
    simp only [Option.some.injEq, Prod.mk.injEq] at H
    obtain ⟨rfl, rfl, rfl⟩ := H
    go_enter Try.func38, Try.ntmps38
    go_wp2_with (first | (go_at_call 37; (with_reducible refine (varveref04_R_Num.calls k g s0_0 s0_1 s0_2 t188 t189 true w0 _ ?side1 ?side2 A3.out).mono ?_); (case side1 => repeat (first | (with_reducible first | exact HI0.out | apply IsS29.alloc | apply IsS29.drewN | apply IsS29.drew | apply IsS29.set_1 | apply IsS29.set_2) | exact HI0.out)); (case side2 => repeat (first | (with_reducible first | exact HB.out | apply below_alloc | apply pw_below_drewN | apply below_drew1 | refine below_set ?_ (IsS29.ge HI0.out)) | exact HB.out)); rintro e w5 ⟨rfl, hi, hb, hk⟩; have n0_ := Aside0.mk (KeepBut.trans (by repeat (first | (with_reducible first | exact HK.out | apply KeepBut.set_ | apply keep_drewN | apply keep_drew | apply keep_alloc) | exact HK.out)) hk (.inl rfl)); have n1_ := Aside0.mk (hb); have n2_ := Aside0.mk (hi); clear HK; clear HB; clear HI0; have HK := n0_; have HB := n1_; have HI0 := n2_; clear n0_ n1_ n2_; (try clear hb); (try clear hb2); (try clear hk); (try clear hi); obtain ⟨ASz6_0, cSz6_0, HGz6, hgz6, HSz6_0⟩ := HI0.out; have hcz6_0 := cellS29_0 HGz6; have hcz6_1 := cellS29_1 HGz6; have hcz6_2 := cellS29_2 HGz6; have hfz6_1 := blk_frozen HGz6 1; have hfz6_2 := blk_frozen HGz6 2; clear HGz6 hgz6))
    repeat (go_quiet (first | (go_at_call 37; (with_reducible refine (varveref04_R_Num.calls k g s0_0 s0_1 s0_2 t188 t189 true w0 _ ?side1 ?side2 A3.out).mono ?_); (case side1 => repeat (first | (with_reducible first | exact HI0.out | apply IsS29.alloc | apply IsS29.drewN | apply IsS29.drew | apply IsS29.set_1 | apply IsS29.set_2) | exact HI0.out)); (case side2 => repeat (first | (with_reducible first | exact HB.out | apply below_alloc | apply pw_below_drewN | apply below_drew1 | refine below_set ?_ (IsS29.ge HI0.out)) | exact HB.out)); rintro e w5 ⟨rfl, hi, hb, hk⟩; have n0_ := Aside0.mk (KeepBut.trans (by repeat (first | (with_reducible first | exact HK.out | apply KeepBut.set_ | apply keep_drewN | apply keep_drew | apply keep_alloc) | exact HK.out)) hk (.inl rfl)); have n1_ := Aside0.mk (hb); have n2_ := Aside0.mk (hi); clear HK; clear HB; clear HI0; have HK := n0_; have HB := n1_; have HI0 := n2_; clear n0_ n1_ n2_; (try clear hb); (try clear hb2); (try clear hk); (try clear hi); obtain ⟨ASz6_0, cSz6_0, HGz6, hgz6, HSz6_0⟩ := HI0.out; have hcz6_0 := cellS29_0 HGz6; have hcz6_1 := cellS29_1 HGz6; have hcz6_2 := cellS29_2 HGz6; have hfz6_1 := blk_frozen HGz6 1; have hfz6_2 := blk_frozen HGz6 2; clear HGz6 hgz6)); try go_wp2_with (first | (go_at_call 37; (with_reducible refine (varveref04_R_Num.calls k g s0_0 s0_1 s0_2 t188 t189 true w0 _ ?side1 ?side2 A3.out).mono ?_); (case side1 => repeat (first | (with_reducible first | exact HI0.out | apply IsS29.alloc | apply IsS29.drewN | apply IsS29.drew | apply IsS29.set_1 | apply IsS29.set_2) | exact HI0.out)); (case side2 => repeat (first | (with_reducible first | exact HB.out | apply below_alloc | apply pw_below_drewN | apply below_drew1 | refine below_set ?_ (IsS29.ge HI0.out)) | exact HB.out)); rintro e w5 ⟨rfl, hi, hb, hk⟩; have n0_ := Aside0.mk (KeepBut.trans (by repeat (first | (with_reducible first | exact HK.out | apply KeepBut.set_ | apply keep_drewN | apply keep_drew | apply keep_alloc) | exact HK.out)) hk (.inl rfl)); have n1_ := Aside0.mk (hb); have n2_ := Aside0.mk (hi); clear HK; clear HB; clear HI0; have HK := n0_; have HB := n1_; have HI0 := n2_; clear n0_ n1_ n2_; (try clear hb); (try clear hb2); (try clear hk); (try clear hi); obtain ⟨ASz6_0, cSz6_0, HGz6, hgz6, HSz6_0⟩ := HI0.out; have hcz6_0 := cellS29_0 HGz6; have hcz6_1 := cellS29_1 HGz6; have hcz6_2 := cellS29_2 HGz6; have hfz6_1 := blk_frozen HGz6 1; have hfz6_2 := blk_frozen HGz6 2; clear HGz6 hgz6)))
    go_ret
    exact ⟨by first | rfl | (simp [errW_none, errW_some] <;> rfl) | (simp [*, errW_none, errW_some] <;> rfl), by repeat (first | (with_reducible first | exact HI0.out | apply IsS29.alloc | apply IsS29.drewN | apply IsS29.drew | apply IsS29.set_1 | apply IsS29.set_2) | exact HI0.out), by repeat (first | (with_reducible first | exact HB.out | apply below_alloc | apply pw_below_drewN | apply below_drew1 | refine below_set ?_ (IsS29.ge HI0.out)) | exact HB.out), by repeat (first | (with_reducible first | exact HK.out | apply KeepBut.set_ | apply keep_drewN | apply keep_drew | apply keep_alloc) | exact HK.out)⟩
  · replace c4 := Bool.eq_false_iff.mpr c4
    subst c4
    have H1 : (if a1 < 0 then (some (0, t189, true)) else (if t188 > (IntKind.u64.wrap (a1)) then (some (0, t189, true)) else (if t188 > (IntKind.u64.wrap (wrap64 ((s0_0.length : Int) - t189))) then (some (0, t189, true)) else (some (wrap64 (t188), t189, false))))) = some (r1, r2, r3) := by rw [if_neg (show ¬ (false = true) by decide)] at H; exact H
    clear H
    have H := H1
    clear H1
    by_cases c7 : a1 < 0
    · rw [if_pos c7] at H
      have c7b0 : decide (a1 < 0) = true := decide_eq_true c7
      clear c7
      simp only [Option.some.injEq, Prod.mk.injEq] at H
      obtain ⟨rfl, rfl, rfl⟩ := H
      go_enter Try.func38, Try.ntmps38
      go_wp2_with (first | (go_at_call 37; (with_reducible refine (varveref04_R_Num.calls k g s0_0 s0_1 s0_2 t188 t189 false w0 _ ?side1 ?side2 A3.out).mono ?_); (case side1 => repeat (first | (with_reducible first | exact HI0.out | apply IsS29.alloc | apply IsS29.drewN | apply IsS29.drew | apply IsS29.set_1 | apply IsS29.set_2) | exact HI0.out)); (case side2 => repeat (first | (with_reducible first | exact HB.out | apply below_alloc | apply pw_below_drewN | apply below_drew1 | refine below_set ?_ (IsS29.ge HI0.out)) | exact HB.out)); rintro e w8 ⟨rfl, hi, hb, hk⟩; have n0_ := Aside0.mk (KeepBut.trans (by repeat (first | (with_reducible first | exact HK.out | apply KeepBut.set_ | apply keep_drewN | apply keep_drew | apply keep_alloc) | exact HK.out)) hk (.inl rfl)); have n1_ := Aside0.mk (hb); have n2_ := Aside0.mk (hi); clear HK; clear HB; clear HI0; have HK := n0_; have HB := n1_; have HI0 := n2_; clear n0_ n1_ n2_; (try clear hb); (try clear hb2); (try clear hk); (try clear hi); obtain ⟨ASz9_0, cSz9_0, HGz9, hgz9, HSz9_0⟩ := HI0.out; have hcz9_0 := cellS29_0 HGz9; have hcz9_1 := cellS29_1 HGz9; have hcz9_2 := cellS29_2 HGz9; have hfz9_1 := blk_frozen HGz9 1; have hfz9_2 := blk_frozen HGz9 2; clear HGz9 hgz9))
      repeat (go_quiet (first | (go_at_call 37; (with_reducible refine (varveref04_R_Num.calls k g s0_0 s0_1 s0_2 t188 t189 false w0 _ ?side1 ?side2 A3.out).mono ?_); (case side1 => repeat (first | (with_reducible first | exact HI0.out | apply IsS29.alloc | apply IsS29.drewN | apply IsS29.drew | apply IsS29.set_1 | apply IsS29.set_2) | exact HI0.out)); (case side2 => repeat (first | (with_reducible first | exact HB.out | apply below_alloc | apply pw_below_drewN | apply below_drew1 | refine below_set ?_ (IsS29.ge HI0.out)) | exact HB.out)); rintro e w8 ⟨rfl, hi, hb, hk⟩; have n0_ := Aside0.mk (KeepBut.trans (by repeat (first | (with_reducible first | exact HK.out | apply KeepBut.set_ | apply keep_drewN | apply keep_drew | apply keep_alloc) | exact HK.out)) hk (.inl rfl)); have n1_ := Aside0.mk (hb); have n2_ := Aside0.mk (hi); clear HK; clear HB; clear HI0; have HK := n0_; have HB := n1_; have HI0 := n2_; clear n0_ n1_ n2_; (try clear hb); (try clear hb2); (try clear hk); (try clear hi); obtain ⟨ASz9_0, cSz9_0, HGz9, hgz9, HSz9_0⟩ := HI0.out; have hcz9_0 := cellS29_0 HGz9; have hcz9_1 := cellS29_1 HGz9; have hcz9_2 := cellS29_2 HGz9; have hfz9_1 := blk_frozen HGz9 1; have hfz9_2 := blk_frozen HGz9 2; clear HGz9 hgz9)); try go_wp2_with (first | (go_at_call 37; (with_reducible refine (varveref04_R_Num.calls k g s0_0 s0_1 s0_2 t188 t189 false w0 _ ?side1 ?side2 A3.out).mono ?_); (case side1 => repeat (first | (with_reducible first | exact HI0.out | apply IsS29.alloc | apply IsS29.drewN | apply IsS29.drew | apply IsS29.set_1 | apply IsS29.set_2) | exact HI0.out)); (case side2 => repeat (first | (with_reducible first | exact HB.out | apply below_alloc | apply pw_below_drewN | apply below_drew1 | refine below_set ?_ (IsS29.ge HI0.out)) | exact HB.out)); rintro e w8 ⟨rfl, hi, hb, hk⟩; have n0_ := Aside0.mk (KeepBut.trans (by repeat (first | (with_reducible first | exact HK.out | apply KeepBut.set_ | apply keep_drewN | apply keep_drew | apply keep_alloc) | exact HK.out)) hk (.inl rfl)); have n1_ := Aside0.mk (hb); have n2_ := Aside0.mk (hi); clear HK; clear HB; clear HI0; have HK := n0_; have HB := n1_; have HI0 := n2_; clear n0_ n1_ n2_; (try clear hb); (try clear hb2); (try clear hk); (try clear hi); obtain ⟨ASz9_0, cSz9_0, HGz9, hgz9, HSz9_0⟩ := HI0.out; have hcz9_0 := cellS29_0 HGz9; have hcz9_1 := cellS29_1 HGz9; have hcz9_2 := cellS29_2 HGz9; have hfz9_1 := blk_frozen HGz9 1; have hfz9_2 := blk_frozen HGz9 2; clear HGz9 hgz9)))
      go_ret
      exact ⟨by first | rfl | (simp [errW_none, errW_some] <;> rfl) | (simp [*, errW_none, errW_some] <;> rfl), by repeat (first | (with_reducible first | exact HI0.out | apply IsS29.alloc | apply IsS29.drewN | apply IsS29.drew | apply IsS29.set_1 | apply IsS29.set_2) | exact HI0.out), by repeat (first | (with_reducible first | exact HB.out | apply below_alloc | apply pw_below_drewN | apply below_drew1 | refine below_set ?_ (IsS29.ge HI0.out)) | exact HB.out), by repeat (first | (with_reducible first | exact HK.out | apply KeepBut.set_ | apply keep_drewN | apply keep_drew | apply keep_alloc) | exact HK.out)⟩
    · rw [if_neg c7] at H
      have c7b0 : decide (a1 < 0) = false := decide_eq_false c7
      clear c7
      by_cases c10 : t188 > (IntKind.u64.wrap (a1))
      · rw [if_pos c10] at H
        have c10b0 : decide ((IntKind.u64.wrap (a1)) < t188) = true := decide_eq_true c10
        clear c10
        simp only [Option.some.injEq, Prod.mk.injEq] at H
        obtain ⟨rfl, rfl, rfl⟩ := H
        go_enter Try.func38, Try.ntmps38
        go_wp2_with (first | (go_at_call 37; (with_reducible refine (varveref04_R_Num.calls k g s0_0 s0_1 s0_2 t188 t189 false w0 _ ?side1 ?side2 A3.out).mono ?_); (case side1 => repeat (first | (with_reducible first | exact HI0.out | apply IsS29.alloc | apply IsS29.drewN | apply IsS29.drew | apply IsS29.set_1 | apply IsS29.set_2) | exact HI0.out)); (case side2 => repeat (first | (with_reducible first | exact HB.out | apply below_alloc | apply pw_below_drewN | apply below_drew1 | refine below_set ?_ (IsS29.ge HI0.out)) | exact HB.out)); rintro e w11 ⟨rfl, hi, hb, hk⟩; have n0_ := Aside0.mk (KeepBut.trans (by repeat (first | (with_reducible first | exact HK.out | apply KeepBut.set_ | apply keep_drewN | apply keep_drew | apply keep_alloc) | exact HK.out)) hk (.inl rfl)); have n1_ := Aside0.mk (hb); have n2_ := Aside0.mk (hi); clear HK; clear HB; clear HI0; have HK := n0_; have HB := n1_; have HI0 := n2_; clear n0_ n1_ n2_; (try clear hb); (try clear hb2); (try clear hk); (try clear hi); obtain ⟨ASz12_0, cSz12_0, HGz12, hgz12, HSz12_0⟩ := HI0.out; have hcz12_0 := cellS29_0 HGz12; have hcz12_1 := cellS29_1 HGz12; have hcz12_2 := cellS29_2 HGz12; have hfz12_1 := blk_frozen HGz12 1; have hfz12_2 := blk_frozen HGz12 2; clear HGz12 hgz12))
        repeat (go_quiet (first | (go_at_call 37; (with_reducible refine (varveref04_R_Num.calls k g s0_0 s0_1 s0_2 t188 t189 false w0 _ ?side1 ?side2 A3.out).mono ?_); (case side1 => repeat (first | (with_reducible first | exact HI0.out | apply IsS29.alloc | apply IsS29.drewN | apply IsS29.drew | apply IsS29.set_1 | apply IsS29.set_2) | exact HI0.out)); (case side2 => repeat (first | (with_reducible first | exact HB.out | apply below_alloc | apply pw_below_drewN | apply below_drew1 | refine below_set ?_ (IsS29.ge HI0.out)) | exact HB.out)); rintro e w11 ⟨rfl, hi, hb, hk⟩; have n0_ := Aside0.mk (KeepBut.trans (by repeat (first | (with_reducible first | exact HK.out | apply KeepBut.set_ | apply keep_drewN | apply keep_drew | apply keep_alloc) | exact HK.out)) hk (.inl rfl)); have n1_ := Aside0.mk (hb); have n2_ := Aside0.mk (hi); clear HK; clear HB; clear HI0; have HK := n0_; have HB := n1_; have HI0 := n2_; clear n0_ n1_ n2_; (try clear hb); (try clear hb2); (try clear hk); (try clear hi); obtain ⟨ASz12_0, cSz12_0, HGz12, hgz12, HSz12_0⟩ := HI0.out; have hcz12_0 := cellS29_0 HGz12; have hcz12_1 := cellS29_1 HGz12; have hcz12_2 := cellS29_2 HGz12; have hfz12_1 := blk_frozen HGz12 1; have hfz12_2 := blk_frozen HGz12 2; clear HGz12 hgz12)); try go_wp2_with (first | (go_at_call 37; (with_reducible refine (varveref04_R_Num.calls k g s0_0 s0_1 s0_2 t188 t189 false w0 _ ?side1 ?side2 A3.out).mono ?_); (case side1 => repeat (first | (with_reducible first | exact HI0.out | apply IsS29.alloc | apply IsS29.drewN | apply IsS29.drew | apply IsS29.set_1 | apply IsS29.set_2) | exact HI0.out)); (case side2 => repeat (first | (with_reducible first | exact HB.out | apply below_alloc | apply pw_below_drewN | apply below_drew1 | refine below_set ?_ (IsS29.ge HI0.out)) | exact HB.out)); rintro e w11 ⟨rfl, hi, hb, hk⟩; have n0_ := Aside0.mk (KeepBut.trans (by repeat (first | (with_reducible first | exact HK.out | apply KeepBut.set_ | apply keep_drewN | apply keep_drew | apply keep_alloc) | exact HK.out)) hk (.inl rfl)); have n1_ := Aside0.mk (hb); have n2_ := Aside0.mk (hi); clear HK; clear HB; clear HI0; have HK := n0_; have HB := n1_; have HI0 := n2_; clear n0_ n1_ n2_; (try clear hb); (try clear hb2); (try clear hk); (try clear hi); obtain ⟨ASz12_0, cSz12_0, HGz12, hgz12, HSz12_0⟩ := HI0.out; have hcz12_0 := cellS29_0 HGz12; have hcz12_1 := cellS29_1 HGz12; have hcz12_2 := cellS29_2 HGz12; have hfz12_1 := blk_frozen HGz12 1; have hfz12_2 := blk_frozen HGz12 2; clear HGz12 hgz12)))
        go_ret
        exact ⟨by first | rfl | (simp [errW_none, errW_some] <;> rfl) | (simp [*, errW_none, errW_some] <;> rfl), by repeat (first | (with_reducible first | exact HI0.out | apply IsS29.alloc | apply IsS29.drewN | apply IsS29.drew | apply IsS29.set_1 | apply IsS29.set_2) | exact HI0.out), by repeat (first | (with_reducible first | exact HB.out | apply below_alloc | apply pw_below_drewN | apply below_drew1 | refine below_set ?_ (IsS29.ge HI0.out)) | exact HB.out), by repeat (first | (with_reducible first | exact HK.out | apply KeepBut.set_ | apply keep_drewN | apply keep_drew | apply keep_alloc) | exact HK.out)⟩
      · rw [if_neg c10] at H
        have c10b0 : decide ((IntKind.u64.wrap (a1)) < t188) = false := decide_eq_false c10
        clear c10
        by_cases c13 : t188 > (IntKind.u64.wrap (wrap64 ((s0_0.length : Int) - t189)))
        · rw [if_pos c13] at H
          have c13b0 : decide ((IntKind.u64.wrap (wrap64 ((s0_0.length : Int) - t189))) < t188) = true := decide_eq_true c13
          clear c13
          simp only [Option.some.injEq, Prod.mk.injEq] at H
          obtain ⟨rfl, rfl, rfl⟩ := H
          go_enter Try.func38, Try.ntmps38
          go_wp2_with (first | (go_at_call 37; (with_reducible refine (varveref04_R_Num.calls k g s0_0 s0_1 s0_2 t188 t189 false w0 _ ?side1 ?side2 A3.out).mono ?_); (case side1 => repeat (first | (with_reducible first | exact HI0.out | apply IsS29.alloc | apply IsS29.drewN | apply IsS29.drew | apply IsS29.set_1 | apply IsS29.set_2) | exact HI0.out)); (case side2 => repeat (first | (with_reducible first | exact HB.out | apply below_alloc | apply pw_below_drewN | apply below_drew1 | refine below_set ?_ (IsS29.ge HI0.out)) | exact HB.out)); rintro e w14 ⟨rfl, hi, hb, hk⟩; have n0_ := Aside0.mk (KeepBut.trans (by repeat (first | (with_reducible first | exact HK.out | apply KeepBut.set_ | apply keep_drewN | apply keep_drew | apply keep_alloc) | exact HK.out)) hk (.inl rfl)); have n1_ := Aside0.mk (hb); have n2_ := Aside0.mk (hi); clear HK; clear HB; clear HI0; have HK := n0_; have HB := n1_; have HI0 := n2_; clear n0_ n1_ n2_; (try clear hb); (try clear hb2); (try clear hk); (try clear hi); obtain ⟨ASz15_0, cSz15_0, HGz15, hgz15, HSz15_0⟩ := HI0.out; have hcz15_0 := cellS29_0 HGz15; have hcz15_1 := cellS29_1 HGz15; have hcz15_2 := cellS29_2 HGz15; have hfz15_1 := blk_frozen HGz15 1; have hfz15_2 := blk_frozen HGz15 2; clear HGz15 hgz15))
          repeat (go_quiet (first | (go_at_call 37; (with_reducible refine (varveref04_R_Num.calls k g s0_0 s0_1 s0_2 t188 t189 false w0 _ ?side1 ?side2 A3.out).mono ?_); (case side1 => repeat (first | (with_reducible first | exact HI0.out | apply IsS29.alloc | apply IsS29.drewN | apply IsS29.drew | apply IsS29.set_1 | apply IsS29.set_2) | exact HI0.out)); (case side2 => repeat (first | (with_reducible first | exact HB.out | apply below_alloc | apply pw_below_drewN | apply below_drew1 | refine below_set ?_ (IsS29.ge HI0.out)) | exact HB.out)); rintro e w14 ⟨rfl, hi, hb, hk⟩; have n0_ := Aside0.mk (KeepBut.trans (by repeat (first | (with_reducible first | exact HK.out | apply KeepBut.set_ | apply keep_drewN | apply keep_drew | apply keep_alloc) | exact HK.out)) hk (.inl rfl)); have n1_ := Aside0.mk (hb); have n2_ := Aside0.mk (hi); clear HK; clear HB; clear HI0; have HK := n0_; have HB := n1_; have HI0 := n2_; clear n0_ n1_ n2_; (try clear hb); (try clear hb2); (try clear hk); (try clear hi); obtain ⟨ASz15_0, cSz15_0, HGz15, hgz15, HSz15_0⟩ := HI0.out; have hcz15_0 := cellS29_0 HGz15; have hcz15_1 := cellS29_1 HGz15; have hcz15_2 := cellS29_2 HGz15; have hfz15_1 := blk_frozen HGz15 1; have hfz15_2 := blk_frozen HGz15 2; clear HGz15 hgz15)); try go_wp2_with (first | (go_at_call 37; (with_reducible refine (varveref04_R_Num.calls k g s0_0 s0_1 s0_2 t188 t189 false w0 _ ?side1 ?side2 A3.out).mono ?_); (case side1 => repeat (first | (with_reducible first | exact HI0.out | apply IsS29.alloc | apply IsS29.drewN | apply IsS29.drew | apply IsS29.set_1 | apply IsS29.set_2) | exact HI0.out)); (case side2 => repeat (first | (with_reducible first | exact HB.out | apply below_alloc | apply pw_below_drewN | apply below_drew1 | refine below_set ?_ (IsS29.ge HI0.out)) | exact HB.out)); rintro e w14 ⟨rfl, hi, hb, hk⟩; have n0_ := Aside0.mk (KeepBut.trans (by repeat (first | (with_reducible first | exact HK.out | apply KeepBut.set_ | apply keep_drewN | apply keep_drew | apply keep_alloc) | exact HK.out)) hk (.inl rfl)); have n1_ := Aside0.mk (hb); have n2_ := Aside0.mk (hi); clear HK; clear HB; clear HI0; have HK := n0_; have HB := n1_; have HI0 := n2_; clear n0_ n1_ n2_; (try clear hb); (try clear hb2); (try clear hk); (try clear hi); obtain ⟨ASz15_0, cSz15_0, HGz15, hgz15, HSz15_0⟩ := HI0.out; have hcz15_0 := cellS29_0 HGz15; have hcz15_1 := cellS29_1 HGz15; have hcz15_2 := cellS29_2 HGz15; have hfz15_1 := blk_frozen HGz15 1; have hfz15_2 := blk_frozen HGz15 2; clear HGz15 hgz15)))
          go_ret
          exact ⟨by first | rfl | (simp [errW_none, errW_some] <;> rfl) | (simp [*, errW_none, errW_some] <;> rfl), by repeat (first | (with_reducible first | exact HI0.out | apply IsS29.alloc | apply IsS29.drewN | apply IsS29.drew | apply IsS29.set_1 | apply IsS29.set_2) | exact HI0.out), by repeat (first | (with_reducible first | exact HB.out | apply below_alloc | apply pw_below_drewN | apply below_drew1 | refine below_set ?_ (IsS29.ge HI0.out)) | exact HB.out), by repeat (first | (with_reducible first | exact HK.out | apply KeepBut.set_ | apply keep_drewN | apply keep_drew | apply keep_alloc) | exact HK.out)⟩
        · rw [if_neg c13] at H
          have c13b0 : decide ((IntKind.u64.wrap (wrap64 ((s0_0.length : Int) - t189))) < t188) = false := decide_eq_false c13
          clear c13
          simp only [Option.some.injEq, Prod.mk.injEq] at H
          obtain ⟨rfl, rfl, rfl⟩ := H
          go_enter Try.func38, Try.ntmps38
          go_wp2_with (first | (go_at_call 37; (with_reducible refine (varveref04_R_Num.calls k g s0_0 s0_1 s0_2 t188 t189 false w0 _ ?side1 ?side2 A3.out).mono ?_); (case side1 => repeat (first | (with_reducible first | exact HI0.out | apply IsS29.alloc | apply IsS29.drewN | apply IsS29.drew | apply IsS29.set_1 | apply IsS29.set_2) | exact HI0.out)); (case side2 => repeat (first | (with_reducible first | exact HB.out | apply below_alloc | apply pw_below_drewN | apply below_drew1 | refine below_set ?_ (IsS29.ge HI0.out)) | exact HB.out)); rintro e w16 ⟨rfl, hi, hb, hk⟩; have n0_ := Aside0.mk (KeepBut.trans (by repeat (first | (with_reducible first | exact HK.out | apply KeepBut.set_ | apply keep_drewN | apply keep_drew | apply keep_alloc) | exact HK.out)) hk (.inl rfl)); have n1_ := Aside0.mk (hb); have n2_ := Aside0.mk (hi); clear HK; clear HB; clear HI0; have HK := n0_; have HB := n1_; have HI0 := n2_; clear n0_ n1_ n2_; (try clear hb); (try clear hb2); (try clear hk); (try clear hi); obtain ⟨ASz17_0, cSz17_0, HGz17, hgz17, HSz17_0⟩ := HI0.out; have hcz17_0 := cellS29_0 HGz17; have hcz17_1 := cellS29_1 HGz17; have hcz17_2 := cellS29_2 HGz17; have hfz17_1 := blk_frozen HGz17 1; have hfz17_2 := blk_frozen HGz17 2; clear HGz17 hgz17))
          repeat (go_quiet (first | (go_at_call 37; (with_reducible refine (varveref04_R_Num.calls k g s0_0 s0_1 s0_2 t188 t189 false w0 _ ?side1 ?side2 A3.out).mono ?_); (case side1 => repeat (first | (with_reducible first | exact HI0.out | apply IsS29.alloc | apply IsS29.drewN | apply IsS29.drew | apply IsS29.set_1 | apply IsS29.set_2) | exact HI0.out)); (case side2 => repeat (first | (with_reducible first | exact HB.out | apply below_alloc | apply pw_below_drewN | apply below_drew1 | refine below_set ?_ (IsS29.ge HI0.out)) | exact HB.out)); rintro e w16 ⟨rfl, hi, hb, hk⟩; have n0_ := Aside0.mk (KeepBut.trans (by repeat (first | (with_reducible first | exact HK.out | apply KeepBut.set_ | apply keep_drewN | apply keep_drew | apply keep_alloc) | exact HK.out)) hk (.inl rfl)); have n1_ := Aside0.mk (hb); have n2_ := Aside0.mk (hi); clear HK; clear HB; clear HI0; have HK := n0_; have HB := n1_; have HI0 := n2_; clear n0_ n1_ n2_; (try clear hb); (try clear hb2); (try clear hk); (try clear hi); obtain ⟨ASz17_0, cSz17_0, HGz17, hgz17, HSz17_0⟩ := HI0.out; have hcz17_0 := cellS29_0 HGz17; have hcz17_1 := cellS29_1 HGz17; have hcz17_2 := cellS29_2 HGz17; have hfz17_1 := blk_frozen HGz17 1; have hfz17_2 := blk_frozen HGz17 2; clear HGz17 hgz17)); try go_wp2_with (first | (go_at_call 37; (with_reducible refine (varveref04_R_Num.calls k g s0_0 s0_1 s0_2 t188 t189 false w0 _ ?side1 ?side2 A3.out).mono ?_); (case side1 => repeat (first | (with_reducible first | exact HI0.out | apply IsS29.alloc | apply IsS29.drewN | apply IsS29.drew | apply IsS29.set_1 | apply IsS29.set_2) | exact HI0.out)); (case side2 => repeat (first | (with_reducible first | exact HB.out | apply below_alloc | apply pw_below_drewN | apply below_drew1 | refine below_set ?_ (IsS29.ge HI0.out)) | exact HB.out)); rintro e w16 ⟨rfl, hi, hb, hk⟩; have n0_ := Aside0.mk (KeepBut.trans (by repeat (first | (with_reducible first | exact HK.out | apply KeepBut.set_ | apply keep_drewN | apply keep_drew | apply keep_alloc) | exact HK.out)) hk (.inl rfl)); have n1_ := Aside0.mk (hb); have n2_ := Aside0.mk (hi); clear HK; clear HB; clear HI0; have HK := n0_; have HB := n1_; have HI0 := n2_; clear n0_ n1_ n2_; (try clear hb); (try clear hb2); (try clear hk); (try clear hi); obtain ⟨ASz17_0, cSz17_0, HGz17, hgz17, HSz17_0⟩ := HI0.out; have hcz17_0 := cellS29_0 HGz17; have hcz17_1 := cellS29_1 HGz17; have hcz17_2 := cellS29_2 HGz17; have hfz17_1 := blk_frozen HGz17 1; have hfz17_2 := blk_frozen HGz17 2; clear HGz17 hgz17)))
          go_ret
          exact ⟨by first | rfl | (simp [errW_none, errW_some] <;> rfl) | (simp [*, errW_none, errW_some] <;> rfl), by repeat (first | (with_reducible first | exact HI0.out | apply IsS29.alloc | apply IsS29.drewN | apply IsS29.drew | apply IsS29.set_1 | apply IsS29.set_2) | exact HI0.out), by repeat (first | (with_reducible first | exact HB.out | apply below_alloc | apply pw_below_drewN | apply below_drew1 | refine below_set ?_ (IsS29.ge HI0.out)) | exact HB.out), by repeat (first | (with_reducible first | exact HK.out | apply KeepBut.set_ | apply keep_drewN | apply keep_drew | apply keep_alloc) | exact HK.out)⟩
end Go.Proofs.Ytofgcacahfdjdaa.Vt
namespace Go.Proofs.Ytofgcacahfdjdaa.Vt
open Go.RowKit Go.Proofs.YtofgcacahfdjdaaW.PrintWords Go.Proofs.YtofgcacahfdjdaaW.PrintLast Go.Proofs.YtofgcacahfdjdaaW.PrintMore Go.Proofs.Ytofgcacahfdjdaa.Hi Go.Proofs.Ytofgcacahfdjdaa.Q
attribute [local go_sem] max2_int min2_int max_two min_two max_three min_three max_four min_four   -- for this text's walks alone
set_option linter.unusedVariables false
set_option linter.unusedSimpArgs false
def varveref04_Rise.l0 : Nat → List Int → List Int → Int → Option (List Int)
  | 0, _, _, _ => none
  | k + 1, x0, x3, x4 => if x4 < (x0.length : Int) then (if x4 = 0 then (if 0 < (x0.length : Int) then ((varveref04_Put.f (rd x0 0)).bind fun t195 => (if x3.length + t195.length < 140737488355328 then (varveref04_Rise.l0 k x0 (x3 ++ t195) (wrap64 (x4 + 1))) else (none))) else (none)) else (if 0 ≤ x4 then (if 0 ≤ (wrap64 (x4 - 1)) then (if (wrap64 (x4 - 1)) < (x0.length : Int) then ((varveref04_Put.f (IntKind.u64.wrap ((IntKind.u64.wrap ((rd x0 x4) - (rd x0 (wrap64 (x4 - 1))))) - 1))).bind fun t203 => (if x3.length + t203.length < 140737488355328 then (varveref04_Rise.l0 k x0 (x3 ++ t203) (wrap64 (x4 + 1))) else (none))) else (none)) else (none)) else (none))) else (some x3)
def varveref04_Rise.f (k : Nat) (l0 : List Int) : Option (List Int) := (varveref04_Put.f (IntKind.u64.wrap ((l0.length : Int)))).bind fun t191 => (varveref04_Rise.l0 k l0 t191 0)
theorem varveref04_Rise.mono_l : ∀ k, (∀ y0 y1 y2, LeO (varveref04_Rise.l0 k y0 y1 y2) (varveref04_Rise.l0 (k + 1) y0 y1 y2))
  | 0 => fun _ _ _ r h => by simp [varveref04_Rise.l0] at h
  | k + 1 => by
    have ih0 := varveref04_Rise.mono_l k
    · intro y0 y1 y2
      unfold varveref04_Rise.l0
      repeat' first
      | (with_reducible exact ih0 _ _ _)
      | (with_reducible exact LeO.refl _)
      | (with_reducible exact LeO.none _)
      | (with_reducible refine LeO.ite ?_ ?_)
      | (with_reducible refine LeO.bind ?_ (fun _ => ?_))
      | exact ih0 _ _ _
      | exact LeO.none _
      | refine LeO.ite ?_ ?_
      | refine LeO.bind ?_ (fun _ => ?_)
theorem varveref04_Rise.mono : ∀ a0 k, LeO (varveref04_Rise.f k a0) (varveref04_Rise.f (k + 1) a0) := by
  intro a0 k
  have ih0 := varveref04_Rise.mono_l k
  unfold varveref04_Rise.f
  repeat' first
      | (with_reducible exact ih0 _ _ _)
      | (with_reducible exact LeO.refl _)
      | (with_reducible exact LeO.none _)
      | (with_reducible refine LeO.ite ?_ ?_)
      | (with_reducible refine LeO.bind ?_ (fun _ => ?_))
      | exact ih0 _ _ _
      | exact LeO.none _
      | refine LeO.ite ?_ ?_
      | refine LeO.bind ?_ (fun _ => ?_)
mutual
def varveref04_R_Rise.l0 : Nat → Int → List Int → Int → List Int → Int → Bool → Option (List Int × Int × Bool)
  | 0, _, _, _, _, _, _ => none
  | k + 1, x5, x6, x7, x1000, x1001, x1002 => if x7 < x5 then (varveref04_R_Rise.j1 k x5 x6 x7 (!x1002) x1000 x1001 x1002) else (varveref04_R_Rise.j1 k x5 x6 x7 false x1000 x1001 x1002)
def varveref04_R_Rise.j1 : Nat → Int → List Int → Int → Bool → List Int → Int → Bool → Option (List Int × Int × Bool)
  | 0, _, _, _, _, _, _, _ => none
  | k + 1, x5, x6, x7, x22, x1000, x1001, x1002 => if x22 = true then ((varveref04_R_Num.f k x1000 x1001 x1002).bind fun bt212 => (if x7 = 0 then (if x6.length < 17592186044416 then (varveref04_R_Rise.l0 k x5 (x6 ++ [bt212.1]) (wrap64 (x7 + 1)) x1000 bt212.2.1 bt212.2.2) else (none)) else (if 0 ≤ (wrap64 (x7 - 1)) then (if (wrap64 (x7 - 1)) < (x6.length : Int) then (if bt212.1 ≥ (IntKind.u64.wrap (18446744073709551615 - (rd x6 (wrap64 (x7 - 1))))) then (some (([] : List Int), bt212.2.1, true)) else (if x6.length < 17592186044416 then (varveref04_R_Rise.l0 k x5 (x6 ++ [IntKind.u64.wrap ((IntKind.u64.wrap ((rd x6 (wrap64 (x7 - 1))) + bt212.1)) + 1)]) (wrap64 (x7 + 1)) x1000 bt212.2.1 bt212.2.2) else (none))) else (none)) else (none)))) else (if x1002 = true then (some (([] : List Int), x1001, x1002)) else (some (x6, x1001, x1002)))
end
def varveref04_R_Rise.f (k : Nat) (s0_0 : List Int) (s0_1 : Int) (s0_2 : Bool) (a1 : Int) : Option (List Int × Int × Bool) := (varveref04_R_Count.f k s0_0 s0_1 s0_2 a1).bind fun bt209 => (varveref04_R_Rise.l0 k bt209.1 ([] : List Int) 0 s0_0 bt209.2.1 bt209.2.2)
end Go.Proofs.Ytofgcacahfdjdaa.Vt
namespace Go.Proofs.Ytofgcacahfdjdaa.Pure
set_option linter.unusedVariables false
set_option linter.unusedSimpArgs false
open Go.RowKit Go.Proofs.YtofgcacahfdjdaaW.PrintWords Go.Proofs.YtofgcacahfdjdaaW.PrintLast Go.Proofs.YtofgcacahfdjdaaW.PrintMore Go.Proofs.Ytofgcacahfdjdaa.Hi Go.Proofs.Ytofgcacahfdjdaa.Vt
/-- Bytes. -/
def WBy (b : List Int) : Prop := b.length ≤ 140737488355328 ∧ ∀ x ∈ b, 0 ≤ x ∧ x < 256
/-- A number from place p on, of at most r more bytes; acc is what was read: the number, and the place behind it. -/
def numGo (b : List Int) : Nat → Nat → Nat → Option (Nat × Nat)
  | 0, _, _ => none
  | r + 1, p, acc =>
    if p < b.length then
      (if r = 0 ∧ (rd b (p : Int)).toNat > 1 then none
       else if (rd b (p : Int)).toNat < 128 then (if r ≠ 9 ∧ (rd b (p : Int)).toNat = 0 then none else some (acc + (rd b (p : Int)).toNat * 2 ^ (7 * (9 - r)), p + 1))
       else numGo b r (p + 1) (acc + (rd b (p : Int)).toNat % 128 * 2 ^ (7 * (9 - r))))
    else none
theorem and127 (x : Nat) (h : x < 256) : Go.bits .and .u8 (x : Int) 127 = ((x % 128 : Nat) : Int) := by
  have k : ∀ x : Fin 256, Go.bits .and .u8 ((x.val : Nat) : Int) 127 = ((x.val % 128 : Nat) : Int) := by decide +kernel
  exact k ⟨x, h⟩
theorem pow7 (i : Nat) (hi : i ≤ 9) : 2 ^ (7 * i) ≤ 9223372036854775808 := Nat.le_trans (Nat.pow_le_pow_right (by decide) (show 7 * i ≤ 63 by omega)) (by decide)
theorem next_small (acc x i : Nat) (ha : acc < 2 ^ (7 * i)) (hi : i ≤ 9) (h9 : i = 9 → x ≤ 1) : acc + x % 128 * 2 ^ (7 * i) < 2 ^ (7 * (i + 1)) ∧ acc + x % 128 * 2 ^ (7 * i) < 18446744073709551616 := by
  have e : 2 ^ (7 * (i + 1)) = 128 * 2 ^ (7 * i) := by rw [show 7 * (i + 1) = 7 + 7 * i by omega, Nat.pow_add]
  have hx : x % 128 ≤ 127 := by omega
  have h1 : x % 128 * 2 ^ (7 * i) ≤ 127 * 2 ^ (7 * i) := Nat.mul_le_mul_right _ hx
  refine ⟨by rw [e]; omega, ?_⟩
  rcases Nat.lt_or_ge i 9 with c | c
  · have : 2 ^ (7 * (i + 1)) ≤ 9223372036854775808 := pow7 (i + 1) (by omega)
    omega
  · obtain rfl : i = 9 := by omega
    have := h9 rfl
    have : x % 128 * 2 ^ (7 * 9) ≤ 1 * 2 ^ (7 * 9) := Nat.mul_le_mul_right _ (by omega)
    have e2 : (2 : Nat) ^ (7 * 9) = 9223372036854775808 := by decide
    omega
theorem shl7 (x i : Nat) (hi : i ≤ 9) (hx : x % 128 * 2 ^ (7 * i) < 18446744073709551616) : shl .u64 ((x % 128 : Nat) : Int) ((7 * i : Nat) : Int) = ((x % 128 * 2 ^ (7 * i) : Nat) : Int) := by
  unfold shl
  have hb : (IntKind.bits .u64) = 64 := rfl
  rw [hb, Int.toNat_natCast, Nat.min_eq_left (by omega), show (((x % 128 : Nat) : Int) * 2 ^ (7 * i)) = ((x % 128 * 2 ^ (7 * i) : Nat) : Int) by push_cast; rfl]
  exact wu_in (by omega) (by omega)
theorem upd (acc x i : Nat) (ha : acc < 2 ^ (7 * i)) (hx : x < 256) (hi : i ≤ 9) (h9 : i = 9 → x ≤ 1) :
    Go.bits .or .u64 (acc : Int) (shl .u64 (IntKind.u64.wrap (Go.bits .and .u8 (x : Int) 127)) (wrap64 (7 * (i : Int)))) = ((acc + x % 128 * 2 ^ (7 * i) : Nat) : Int) := by
  have hs := next_small acc x i ha hi h9
  rw [and127 x hx, wu_in (by omega) (by omega), show wrap64 (7 * (i : Int)) = ((7 * i : Nat) : Int) by unfold wrap64; omega, shl7 x i hi (by omega), bits_or_u64_nat _ _ (by have := pow7 i hi; omega) (by omega)]
  have := Nat.two_pow_add_eq_or_of_lt ha (x % 128)
  rw [Nat.or_comm, Nat.mul_comm (x % 128), ← this, Nat.add_comm]
theorem updR (acc x i : Nat) (ha : acc < 2 ^ (7 * i)) (hx : x < 256) (hi : i ≤ 9) (h9 : i = 9 → x ≤ 1) :
    IntKind.u64.wrap ((acc : Int) + shl .u64 (IntKind.u64.wrap (Int.tmod (x : Int) 128)) (IntKind.u64.wrap (wrap64 (7 * (i : Int))))) = ((acc + x % 128 * 2 ^ (7 * i) : Nat) : Int) := by
  have hs := next_small acc x i ha hi h9
  rw [show Int.tmod (x : Int) 128 = ((x % 128 : Nat) : Int) from rfl, wu_in (n := ((x % 128 : Nat) : Int)) (by omega) (by omega), show wrap64 (7 * (i : Int)) = ((7 * i : Nat) : Int) by unfold wrap64; omega, wu_in (n := ((7 * i : Nat) : Int)) (by omega) (by omega), shl7 x i hi (by omega), wu_in (by omega) (by omega)]
  omega
theorem rd_byte {b : List Int} (hb : WBy b) {p : Nat} (hp : p < b.length) : ∃ x : Nat, rd b (p : Int) = (x : Int) ∧ x < 256 := by
  have e : rd b (p : Int) = b[p] := by simp [rd, List.getD, List.getElem?_eq_getElem hp]
  have := hb.2 b[p] (List.getElem_mem hp)
  exact ⟨(rd b (p : Int)).toNat, by rw [e]; omega, by rw [e]; omega⟩
def getR : Option (Nat × Nat) → Int × Int × Bool
  | some (v, n) => ((v : Int), (n : Int), true)
  | none => (0, 0, false)
set_option maxHeartbeats 1000000 in
theorem vget_go {b : List Int} (hb : WBy b) : ∀ (r i p acc k : Nat), r + i = 10 → acc < 2 ^ (7 * i) → 3 * r + 2 ≤ k → vint_Get.l0 k b (p : Int) (acc : Int) (i : Int) = some (getR (numGo b r p acc)) := by
  intro r
  induction r with
  | zero =>
    intro i p acc k hi ha hk
    obtain ⟨k, rfl⟩ : ∃ m, k = m + 2 := ⟨k - 2, by omega⟩
    rw [vint_Get.l0, if_neg (by omega), vint_Get.j1, if_neg (by simp)]
    rfl
  | succ r ih =>
    intro i p acc k hi ha hk
    obtain ⟨k, rfl⟩ : ∃ m, k = m + 3 := ⟨k - 3, by omega⟩
    rw [vint_Get.l0, if_pos (by omega), vint_Get.j1]
    by_cases hp : p < b.length
    · obtain ⟨x, hx, hx2⟩ := rd_byte hb hp
      have hw : wrap64 ((p : Int) + 1) = ((p + 1 : Nat) : Int) := by have := hb.1; unfold wrap64; omega
      have hw7 : 0 ≤ wrap64 (7 * (i : Int)) := by
        rw [show wrap64 (7 * (i : Int)) = ((7 * i : Nat) : Int) by unfold wrap64; omega]; omega
      have h9r : 9 - r = i := by omega
      rw [if_pos (decide_eq_true (by omega)), if_pos (by omega), if_pos (by omega), hx, hw]
      rw [numGo, if_pos hp, hx, Int.toNat_natCast, h9r]
      -- the tenth byte
      have tail : (i = 9 → x ≤ 1) → vint_Get.j2 (k + 1) b ((p + 1 : Nat) : Int) (acc : Int) (i : Int) (x : Int) false = some (getR (if x < 128 then (if r ≠ 9 ∧ x = 0 then none else some (acc + x * 2 ^ (7 * i), p + 1)) else numGo b r (p + 1) (acc + x % 128 * 2 ^ (7 * i)))) := by
        intro h9
        rw [vint_Get.j2, if_neg (by simp), if_pos hw7, upd acc x i ha hx2 (by omega) h9]
        by_cases c : x < 128
        · rw [if_pos (by omega), if_pos c]
          by_cases z : r ≠ 9 ∧ x = 0
          · rw [if_pos (by omega), if_pos (by omega), if_pos z]; rfl
          · rw [if_neg z, show x % 128 = x by omega]
            by_cases q : (i : Int) > 0
            · rw [if_pos q, if_neg (by omega)]; rfl
            · rw [if_neg q]; rfl
        · rw [if_neg (by omega), if_neg c, show wrap64 ((i : Int) + 1) = ((i + 1 : Nat) : Int) by unfold wrap64; omega]
          rcases Nat.lt_or_ge i 9 with d | d
          · exact ih (i + 1) (p + 1) _ k (by omega) (next_small acc x i ha (by omega) h9).1 (by omega)
          · have := h9 (by omega); omega
      by_cases h9 : (i : Int) = 9
      · rw [if_pos h9]
        by_cases g : x > 1
        · rw [decide_eq_true (by omega), vint_Get.j2, if_pos rfl, if_pos ⟨by omega, g⟩]; rfl
        · rw [decide_eq_false (by omega), if_neg (fun h => g h.2)]
          exact tail (by omega)
      · rw [if_neg h9, if_neg (fun h => h9 (by omega))]
        exact tail (by omega)
    · rw [if_neg (by rw [decide_eq_false (by omega)]; simp), numGo, if_neg hp]; rfl
/-- What Get tells at a place. -/
def numAt (b : List Int) (a : Int) : Option (Nat × Nat) := if a < 0 then none else numGo b 10 a.toNat 0
theorem vget_eq {b : List Int} (hb : WBy b) (a : Int) : vint_Get.f 40 b a = some (getR (numAt b a)) := by
  unfold vint_Get.f numAt
  by_cases c : a < 0
  · rw [if_pos c, if_pos c]; rfl
  · rw [if_neg c, if_neg c]
    have h := vget_go hb 10 0 a.toNat 0 40 (by omega) (by decide) (by omega)
    rw [show ((a.toNat : Nat) : Int) = a by omega] at h
    exact h
set_option maxHeartbeats 1000000 in
theorem rnum_go {b : List Int} (hb : WBy b) : ∀ (r i p acc k : Nat), r + i = 10 → acc < 2 ^ (7 * i) → 3 * r + 2 ≤ k →
    (∀ v n, numGo b r p acc = some (v, n) → varveref04_R_Num.l0 k (acc : Int) (i : Int) b (p : Int) false = some ((v : Int), (n : Int), false)) ∧ (numGo b r p acc = none → ∃ q : Int, varveref04_R_Num.l0 k (acc : Int) (i : Int) b (p : Int) false = some (0, q, true)) := by
  intro r
  induction r with
  | zero =>
    intro i p acc k hi ha hk
    obtain ⟨k, rfl⟩ : ∃ m, k = m + 1 := ⟨k - 1, by omega⟩
    refine ⟨fun v n h => by simp [numGo] at h, fun _ => ⟨(p : Int), ?_⟩⟩
    rw [varveref04_R_Num.l0, if_neg (by omega)]
  | succ r ih =>
    intro i p acc k hi ha hk
    obtain ⟨k, rfl⟩ : ∃ m, k = m + 3 := ⟨k - 3, by omega⟩
    rw [varveref04_R_Num.l0, if_pos (by omega), if_neg (by simp), if_neg (by omega), varveref04_R_Num.j1]
    by_cases hp : p < b.length
    · obtain ⟨x, hx, hx2⟩ := rd_byte hb hp
      have hw : wrap64 ((p : Int) + 1) = ((p + 1 : Nat) : Int) := by have := hb.1; unfold wrap64; omega
      have hw7 : 0 ≤ IntKind.u64.wrap (wrap64 (7 * (i : Int))) := by rw [wu]; exact Int.emod_nonneg _ (by decide)
      have h9r : 9 - r = i := by omega
      rw [if_neg (by rw [decide_eq_false (by omega)]; simp), if_pos (by omega), if_pos (by omega), hx, hw]
      rw [numGo, if_pos hp, hx, Int.toNat_natCast, h9r]
      have tail : (i = 9 → x ≤ 1) → (∀ v n, (if x < 128 then (if r ≠ 9 ∧ x = 0 then none else some (acc + x * 2 ^ (7 * i), p + 1)) else numGo b r (p + 1) (acc + x % 128 * 2 ^ (7 * i))) = some (v, n) → varveref04_R_Num.j2 (k + 1) (acc : Int) (i : Int) (x : Int) false b ((p + 1 : Nat) : Int) false = some ((v : Int), (n : Int), false)) ∧
          ((if x < 128 then (if r ≠ 9 ∧ x = 0 then none else some (acc + x * 2 ^ (7 * i), p + 1)) else numGo b r (p + 1) (acc + x % 128 * 2 ^ (7 * i))) = none → ∃ q : Int, varveref04_R_Num.j2 (k + 1) (acc : Int) (i : Int) (x : Int) false b ((p + 1 : Nat) : Int) false = some (0, q, true)) := by
        intro h9
        have ej : varveref04_R_Num.j2 (k + 1) (acc : Int) (i : Int) (x : Int) false b ((p + 1 : Nat) : Int) false = (if (x : Int) < 128 then (if (x : Int) = 0 then (if (i : Int) > 0 then some (0, ((p + 1 : Nat) : Int), true) else some (((acc + x % 128 * 2 ^ (7 * i) : Nat) : Int), ((p + 1 : Nat) : Int), false)) else some (((acc + x % 128 * 2 ^ (7 * i) : Nat) : Int), ((p + 1 : Nat) : Int), false)) else varveref04_R_Num.l0 k ((acc + x % 128 * 2 ^ (7 * i) : Nat) : Int) (wrap64 ((i : Int) + 1)) b ((p + 1 : Nat) : Int) false) := by
          rw [varveref04_R_Num.j2, if_neg (by simp), if_pos hw7, updR acc x i ha hx2 (by omega) h9]
        rw [ej]
        by_cases c : x < 128
        · rw [if_pos (show (x : Int) < 128 by omega), if_pos c]
          by_cases z : r ≠ 9 ∧ x = 0
          · rw [if_pos (show (x : Int) = 0 by omega), if_pos (show (i : Int) > 0 by omega), if_pos z]
            exact ⟨fun v n h => (by cases h), fun _ => ⟨_, rfl⟩⟩
          · rw [if_neg z, show x % 128 = x by omega]
            refine ⟨fun v n h => ?_, fun h => (by cases h)⟩
            injection h with h
            injection h with h1 h2
            subst h1; subst h2
            by_cases q : (x : Int) = 0
            · rw [if_pos q, if_neg (show ¬ (i : Int) > 0 by omega)]
            · rw [if_neg q]
        · rw [if_neg (show ¬ (x : Int) < 128 by omega), if_neg c, show wrap64 ((i : Int) + 1) = ((i + 1 : Nat) : Int) by unfold wrap64; omega]
          rcases Nat.lt_or_ge i 9 with d | d
          · exact ih (i + 1) (p + 1) _ k (by omega) (next_small acc x i ha (by omega) h9).1 (by omega)
          · have := h9 (by omega); omega
      by_cases h9 : (i : Int) = 9
      · rw [if_pos h9]
        by_cases g : x > 1
        · rw [decide_eq_true (show (x : Int) > 1 by omega), varveref04_R_Num.j2, if_pos rfl, if_pos (show r = 0 ∧ x > 1 from ⟨by omega, g⟩)]
          exact ⟨fun v n h => (by cases h), fun _ => ⟨_, rfl⟩⟩
        · rw [decide_eq_false (show ¬ (x : Int) > 1 by omega), if_neg (show ¬ (r = 0 ∧ x > 1) from fun h => g h.2)]
          exact tail (by omega)
      · rw [if_neg h9, if_neg (show ¬ (r = 0 ∧ x > 1) from fun h => h9 (by omega))]
        exact tail (by omega)
    · rw [if_pos (show decide ((p : Int) ≥ (b.length : Int)) = true from decide_eq_true (by omega)), numGo, if_neg hp]
      exact ⟨fun v n h => (by cases h), fun _ => ⟨_, rfl⟩⟩
theorem rnum_eq {b : List Int} (hb : WBy b) (a : Int) (k : Nat) (hk : 40 ≤ k) : (∀ v n, numAt b a = some (v, n) → varveref04_R_Num.f k b a false = some ((v : Int), (n : Int), false)) ∧ (numAt b a = none → ∃ q : Int, varveref04_R_Num.f k b a false = some (0, q, true)) := by
  unfold varveref04_R_Num.f numAt
  by_cases c : a < 0
  · rw [if_pos c]
    obtain ⟨k, rfl⟩ : ∃ m, k = m + 2 := ⟨k - 2, by omega⟩
    refine ⟨fun v n h => (by cases h), fun _ => ⟨a, ?_⟩⟩
    rw [varveref04_R_Num.l0, if_pos (by decide), if_neg (by simp), if_pos c, varveref04_R_Num.j1, if_pos rfl]
  · rw [if_neg c]
    have h := rnum_go hb 10 0 a.toNat 0 k (by omega) (by decide) (by omega)
    rw [show ((a.toNat : Nat) : Int) = a by omega] at h
    exact h
/-- A reader that is bad stays bad. -/
theorem rnum_bad (b : List Int) (a : Int) (k : Nat) (hk : 2 ≤ k) : varveref04_R_Num.f k b a true = some (0, a, true) := by
  obtain ⟨k, rfl⟩ : ∃ m, k = m + 2 := ⟨k - 2, by omega⟩
  unfold varveref04_R_Num.f
  rw [varveref04_R_Num.l0, if_pos (by decide), if_pos rfl, varveref04_R_Num.j1, if_pos rfl]
end Go.Proofs.Ytofgcacahfdjdaa.Pure
namespace Go.Proofs.Ytofgcacahfdjdaa
set_option linter.unusedVariables false
set_option linter.unusedSimpArgs false
open Go.RowKit Go.Proofs.YtofgcacahfdjdaaW.PrintWords Go.Proofs.YtofgcacahfdjdaaW.PrintLast Go.Proofs.YtofgcacahfdjdaaW.PrintMore
def encI (l : List Int) : List Int := encL (l.map Int.toNat)
theorem encI_snoc (l : List Int) (n : Int) : encI (l ++ [n]) = encI l ++ encN n.toNat := by unfold encI; rw [List.map_append]; exact encL_snoc _ _
theorem encI_len (l : List Int) (h : ∀ n ∈ l, 0 ≤ n ∧ n < 18446744073709551616) : (encI l).length ≤ 10 * l.length := by
  have := encL_len (l.map Int.toNat) (fun n hn => by obtain ⟨x, hx, rfl⟩ := List.mem_map.1 hn; have := h x hx; omega)
  rwa [List.length_map] at this
theorem App.now {W : World} {base : Nat} {v : Value} {xs : List Int} (h : Kd.R (Kd.int .u8) 5 W base (fun _ => True) v xs) : App W base v xs := .inl h
theorem Put_nil (n : Nat) (hn : n < 18446744073709551616) (W : World) : Calls Try.prog 69 #[.slice none 0 0, .int .u64 (n : Int)] W fun e w' => ∃ r, e = .returned r ∧ Kd.R (Kd.int .u8) 5 w' W.heap.size (fun _ => True) r (encN n) ∧ Below W.heap.size W w' :=
  Put_any (A := none) (c := 0) (xs := []) (w := W) n hn ⟨rfl, by decide, fun h => absurd h (by decide)⟩ (Nat.le_refl _) (by decide)
set_option maxHeartbeats 4000000 in
set_option maxRecDepth 100000 in
theorem plainPut_any {A : Option Addr} {c : Nat} {xs : List Int} {B : Option Addr} {d : Nat} {ls : List Int} {w : World} (hC : Kd.C (Kd.int .u8) w A xs.length xs) (hc : xs.length ≤ c) (hL : Kd.C (Kd.int .u64) w B ls.length ls) (hn : ∀ n ∈ ls, 0 ≤ n ∧ n < 18446744073709551616) (hl : xs.length + 10 * ls.length + 20 ≤ 140737488355328) :
    Calls Try.prog 77 #[.slice A xs.length c, .slice B ls.length d] w fun e w' => ∃ r, e = .returned r ∧ App w' w.heap.size r (xs ++ encI ls) ∧ (ls ≠ [] → Kd.R (Kd.int .u8) 5 w' w.heap.size (fun _ => True) r (xs ++ encI ls)) ∧ Below w.heap.size w w' := by
  have hcut := cut_own (A := A) hc
  have HA := Lib.hid (App.cap (base := w.heap.size) hC); have HLL := Lib.hid hL; have HN := Lib.hid hn; have HB := Lib.hid hl
  have hll : ls.length ≤ 9223372036854775807 := hL.2.1
  clear hC hc hL hn hl
  go_enter Try.func77, Try.ntmps77
  go_wp2
  go_loopw [0, 15] (fun v0 v1 wr => ∃ i : Nat, v1 = .int .i64 i ∧ i ≤ ls.length ∧ App wr w.heap.size v0 (xs ++ encI (ls.take i)) ∧ (0 < i → Kd.R (Kd.int .u8) 5 wr w.heap.size (fun _ => True) v0 (xs ++ encI (ls.take i))) ∧ Below w.heap.size w wr) (fun _ v1 _ => ls.length - (intOf v1).toNat)
  case atStart => exact ⟨0, rfl, Nat.zero_le _, by rw [List.take_zero, show encI [] = [] from rfl, List.append_nil]; exact HA.out, fun h => absurd h (by decide), Below.refl _ _⟩
  case round =>
    obtain ⟨i, rfl, hi, hA, hR, hB⟩ := hrel
    have HAP := Lib.hid hA; have HRR := Lib.hid hR; have HBW := Lib.hid hB
    clear hA hR hB HA
    by_cases hil : i < ls.length
    · have e1 : decide ((i : Int) < (ls.length : Int)) = true := decide_eq_true (by omega)
      have e1b : decide (i < ls.length) = true := decide_eq_true hil
      obtain ⟨ad, hax, q0⟩ := Kd.at_int HLL.out (i : Int) (by omega) (by omega)
      rw [Int.toNat_natCast] at q0
      have hrd : rd ls (i : Int) = ls[i] := by simp [rd, List.getD, List.getElem?_eq_getElem hil]
      rw [hrd] at q0
      have hu := HN.out ls[i] (List.getElem_mem _)
      obtain ⟨n, hne⟩ : ∃ n : Nat, ls[i] = (n : Int) := ⟨ls[i].toNat, by omega⟩
      rw [hne] at q0 hu
      have et : encI (ls.take (i + 1)) = encI (ls.take i) ++ encN n := by rw [List.take_succ_eq_append_getElem hil, encI_snoc, hne, Int.toNat_natCast]
      have p0 := (HBW.out.cell (World.block_lt_of_cell? w _ q0)).trans q0
      have hlen := encI_len (ls.take i) (fun x hx => HN.out x (List.mem_of_mem_take hx))
      rw [List.length_take] at hlen
      have HET := Lib.hid et; have HI := Lib.hid hil
      have HP := Lib.hid (Put_nil n (by omega))
      have hel := encN_len n (by omega)
      have HY := Lib.hid (show (xs ++ encI (ls.take i)).length + (encN n).length ≤ 140737488355328 by have := HB.out; rw [List.length_append]; omega)
      have HPN := Lib.hid (encN_pos n)
      clear q0 hrd hu hne et hlen hel
      subst hax
      go_wp2_with (first
        | (go_at_call 69; (with_reducible refine (HP.out _).mono ?_); rintro e w1 ⟨r, rfl, hR1, hB1⟩; obtain ⟨A1, c1, rfl, hc1, hC1⟩ := Kd.R_reads hR1; have HC1 := Lib.hid hC1; have HA1 := Lib.hid (HAP.out.below hB1); have n_ := HBW.out.trans (hB1.mono HBW.out.size); clear HBW; have HBW := Lib.hid n_; clear n_ hR1 hB1 hc1 hC1)
        | ((with_reducible refine gate_builtin (b := .append) (xs := #[.tmp 19, .tmp 21]) rfl ?_); at_builtin; refine App.append (w0 := w) w.heap.size rfl (.tmp 19) (.tmp 21) rfl u0 (xs ++ encI (ls.take i)) (encN n) A1 (encN n).length c1 rfl rfl ?aA ?aR ?aP ?aB ?aS ?aL ?_; (case aA => exact HA1.out); (case aR => exact HC1.out); (case aP => exact HPN.out); (case aB => exact HBW.out); (case aS => exact HBW.out.size); (case aL => exact HY.out); intro v_ w_ ho hb hs; rw [List.append_assoc, ← HET.out] at ho; have HO := Lib.hid ho; have HB2 := Lib.hid hb; clear ho hb hs))
      go_roundw
      case rel => exact ⟨i + 1, by go_num, by have := HI.out; omega, .inl HO.out, fun _ => HO.out, HB2.out⟩
      case measure => have := HI.out; simp [intOf]; omega
    · have e1 : decide ((i : Int) < (ls.length : Int)) = false := decide_eq_false (by omega)
      have e1b : decide (i < ls.length) = false := decide_eq_false hil
      obtain rfl : i = ls.length := by omega
      rw [List.take_length] at HAP HRR
      clear hil
      go_wp2
      go_ret
      exact ⟨_, rfl, HAP.out, fun h => HRR.out (List.length_pos_iff.2 h), HBW.out⟩
end Go.Proofs.Ytofgcacahfdjdaa
namespace Go.Proofs.Ytofgcacahfdjdaa.Pure
set_option linter.unusedVariables false
set_option linter.unusedSimpArgs false
open Go.RowKit Go.Proofs.YtofgcacahfdjdaaW.PrintWords Go.Proofs.YtofgcacahfdjdaaW.PrintLast Go.Proofs.YtofgcacahfdjdaaW.PrintMore Go.Proofs.Ytofgcacahfdjdaa.Hi Go.Proofs.Ytofgcacahfdjdaa.Vt
theorem rd_mid (xs : List Int) (x : Int) (ys : List Int) : rd (xs ++ x :: ys) (xs.length : Int) = x := by
  simp [rd, List.getD]
theorem numGo_enc : ∀ (n i r acc : Nat) (xs ys : List Int), r + i = 10 → (0 < n ∨ i = 0) → n * 2 ^ (7 * i) < 18446744073709551616 →
    numGo (xs ++ encN n ++ ys) r xs.length acc = some (acc + n * 2 ^ (7 * i), xs.length + (encN n).length) := by
  intro n
  induction n using Nat.strongRecOn with
  | _ n ih =>
    intro i r acc xs ys hr hp hlt
    have hi : i ≤ 9 := by
      rcases Nat.lt_or_ge i 10 with c | c
      · omega
      · have hn : 0 < n := by omega
        have : 2 ^ 70 ≤ 2 ^ (7 * i) := Nat.pow_le_pow_right (by decide) (by omega)
        have h2 : 1 * 2 ^ (7 * i) ≤ n * 2 ^ (7 * i) := Nat.mul_le_mul_right _ hn
        have : (2 : Nat) ^ 70 = 1180591620717411303424 := by decide
        omega
    have h9 : i = 9 → n ≤ 1 := by
      rintro rfl
      have : (2 : Nat) ^ (7 * 9) = 9223372036854775808 := by decide
      rw [this] at hlt
      omega
    obtain ⟨r, rfl⟩ : ∃ m, r = m + 1 := ⟨r - 1, by omega⟩
    have e9 : 9 - r = i := by omega
    by_cases c : n < 128
    · rw [encN_low c, numGo, List.append_assoc, List.singleton_append, rd_mid, if_pos (by simp), Int.toNat_natCast, if_neg (by omega), if_pos c, if_neg (by omega), e9]
      rfl
    · have e7 : 2 ^ (7 * (i + 1)) = 128 * 2 ^ (7 * i) := by rw [show 7 * (i + 1) = 7 + 7 * i by omega, Nat.pow_add]
      have hd : n / 128 * (128 * 2 ^ (7 * i)) + n % 128 * 2 ^ (7 * i) = n * 2 ^ (7 * i) := by
        rw [← Nat.mul_assoc, ← Nat.add_mul]; congr 1; omega
      have hq := ih (n / 128) (by omega) (i + 1) r (acc + n % 128 * 2 ^ (7 * i)) (xs ++ [((n % 128 + 128 : Nat) : Int)]) ys (by omega) (by omega) (by rw [e7]; omega)
      rw [encN_high c, numGo, List.append_assoc, List.cons_append, rd_mid, if_pos (by simp), Int.toNat_natCast, if_neg (by omega), if_neg (by omega), e9, show (n % 128 + 128) % 128 = n % 128 by omega]
      rw [List.length_append, List.length_singleton, e7, Nat.add_assoc, Nat.add_comm (n % 128 * 2 ^ (7 * i)), hd] at hq
      rw [show xs ++ ((n % 128 + 128 : Nat) : Int) :: (encN (n / 128) ++ ys) = xs ++ [((n % 128 + 128 : Nat) : Int)] ++ encN (n / 128) ++ ys by simp, hq, List.length_cons]
      congr 2
      omega
/-- A number that was put is read again. -/
theorem numAt_enc (n : Nat) (hn : n < 18446744073709551616) (xs ys : List Int) : numAt (xs ++ encN n ++ ys) (xs.length : Int) = some (n, xs.length + (encN n).length) := by
  have h := numGo_enc n 0 10 0 xs ys rfl (.inr rfl) (by simpa using hn)
  have hp := encN_pos n
  unfold numAt
  rw [if_neg (by omega), Int.toNat_natCast, h]
  simp
end Go.Proofs.Ytofgcacahfdjdaa.Pure
namespace Go.Proofs.Ytofgcacahfdjdaa
set_option linter.unusedVariables false
set_option linter.unusedSimpArgs false
open Go.RowKit Go.Proofs.YtofgcacahfdjdaaW.PrintWords Go.Proofs.YtofgcacahfdjdaaW.PrintLast Go.Proofs.YtofgcacahfdjdaaW.PrintMore Go.Proofs.Ytofgcacahfdjdaa.Pure Go.Proofs.Ytofgcacahfdjdaa.Hi Go.Proofs.Ytofgcacahfdjdaa.Vt
theorem numGo_at (b : List Int) : ∀ (r p acc v q : Nat), numGo b r p acc = some (v, q) → p < q ∧ q ≤ b.length := by
  intro r
  induction r with
  | zero => intro p acc v q h; simp [numGo] at h
  | succ r ih =>
    intro p acc v q h
    rw [numGo] at h
    split at h
    case isTrue hp =>
      split at h
      · cases h
      · split at h
        · split at h
          · cases h
          · injection h with h; injection h with _ h; omega
        · have := ih _ _ _ _ h; omega
    case isFalse => cases h
theorem numGo_small {b : List Int} (hb : WBy b) : ∀ (r i p acc v q : Nat), r + i = 10 → acc < 2 ^ (7 * i) → numGo b r p acc = some (v, q) → v < 18446744073709551616 := by
  intro r
  induction r with
  | zero => intro i p acc v q _ _ h; simp [numGo] at h
  | succ r ih =>
    intro i p acc v q hi ha h
    rw [numGo] at h
    split at h
    case isTrue hp =>
      obtain ⟨x, hx, hx2⟩ := rd_byte hb hp
      rw [hx, Int.toNat_natCast, show 9 - r = i by omega] at h
      split at h
      · cases h
      case isFalse h1 =>
        have h9 : i = 9 → x ≤ 1 := fun e => by
          rcases Nat.lt_or_ge 1 x with c | c
          · exact absurd ⟨by omega, c⟩ h1
          · exact c
        have ns := next_small acc x i ha (by omega) h9
        split at h
        case isTrue hlt =>
          split at h
          · cases h
          · injection h with h
            injection h with h _
            rw [show x % 128 = x by omega] at ns
            omega
        case isFalse hge =>
          rcases Nat.lt_or_ge i 9 with d | d
          · exact ih (i + 1) _ _ _ _ (by omega) ns.1 h
          · have := h9 (by omega); omega
    case isFalse => cases h
theorem numAt_at {b : List Int} (hb : WBy b) {a : Int} {v q : Nat} (h : numAt b a = some (v, q)) : 0 ≤ a ∧ a < q ∧ q ≤ b.length ∧ v < 18446744073709551616 := by
  unfold numAt at h
  split at h
  · cases h
  · have := numGo_at b _ _ _ _ _ h
    have := numGo_small hb 10 0 _ _ _ _ (by omega) (by decide) h
    omega
def RisePost (o : Option (List Int × Nat)) (w : World) (e : Ending) (w' : World) : Prop :=
  Below w.heap.size w w' ∧ (∀ l q, o = some (l, q) → ∃ r, e = .returned (.tuple #[r, .int .i64 (q : Int), .bool true]) ∧ Kd.R (Kd.int .u64) 49 w' w.heap.size (fun _ => True) r l) ∧ (o = none → e = .returned (.tuple #[.slice none 0 0, .int .i64 0, .bool false]))
theorem RisePost.no {o : Option (List Int × Nat)} {w w' : World} (h : o = none) (hb : Below w.heap.size w w') : RisePost o w (.returned (.tuple #[.slice none 0 0, .int .i64 0, .bool false])) w' :=
  ⟨hb, (fun l q e => by rw [h] at e; cases e), fun _ => rfl⟩
theorem vget_any {A : Option Addr} {c : Nat} {b : List Int} (hb : WBy b) (a : Int) {W : World} (hC : Kd.C (Kd.int .u8) W A b.length b) (hc : b.length ≤ c) {v n : Int} {ok : Bool} (h : getR (numAt b a) = (v, n, ok)) :
    Calls Try.prog 61 #[.slice A b.length c, .int .i64 a] W fun e w' => e = .returned (.tuple #[.int .u64 v, .int .i64 n, .bool ok]) ∧ Below W.heap.size W w' :=
  (vint_Get.calls 40 A c b a v n ok W hC hc (by rw [vget_eq hb a, h])).mono fun _ _ h => ⟨h.1, h.2.below⟩
end Go.Proofs.Ytofgcacahfdjdaa
namespace Go.Proofs.Ytofgcacahfdjdaa.Pure
set_option linter.unusedVariables false
set_option linter.unusedSimpArgs false
open Go.RowKit Go.Proofs.YtofgcacahfdjdaaW.PrintWords Go.Proofs.YtofgcacahfdjdaaW.PrintLast Go.Proofs.YtofgcacahfdjdaaW.PrintMore Go.Proofs.Ytofgcacahfdjdaa.Hi Go.Proofs.Ytofgcacahfdjdaa.Vt
theorem wrapU_in {x : Int} (h0 : 0 ≤ x) (h1 : x < 18446744073709551616) : IntKind.u64.wrap x = x := by
  have h : IntKind.u64.wrap x = x % 18446744073709551616 := by first | rfl | simp [IntKind.wrap]
  rw [h]; omega
theorem rd_get (l : List Int) {i : Nat} (h : i < l.length) : rd l (i : Int) = l[i] := by simp [rd, List.getD, List.getElem?_eq_getElem h]
end Go.Proofs.Ytofgcacahfdjdaa.Pure
namespace Go.Proofs.Ytofgcacahfdjdaa.Pure
set_option linter.unusedVariables false
set_option linter.unusedSimpArgs false
open Go.RowKit Go.Proofs.YtofgcacahfdjdaaW.PrintWords Go.Proofs.YtofgcacahfdjdaaW.PrintLast Go.Proofs.YtofgcacahfdjdaaW.PrintMore Go.Proofs.Ytofgcacahfdjdaa.Hi Go.Proofs.Ytofgcacahfdjdaa.Vt
/-- Buckets from number next on: how many are passed over, and how often it was seen. -/
def gaps (next : Int) : List S67 → List Int
  | [] => []
  | x :: l => encN (x.f0 - next).toNat ++ encN x.f1.toNat ++ gaps (x.f0 + 1) l
def sparseB (l : List S67) : List Int := encN 0 ++ encN l.length ++ gaps 0 l
/-- How often each of m numbers from next on was seen. -/
def spots : Nat → Int → List S67 → List Int
  | 0, _, _ => []
  | m + 1, next, [] => 0 :: spots m (next + 1) []
  | m + 1, next, x :: r => if x.f0 = next then encN x.f1.toNat ++ spots m (next + 1) r else 0 :: spots m (next + 1) (x :: r)
/-- How many numbers there are from next to the last bucket. -/
def cnt (next : Int) : List S67 → Nat
  | [] => 0
  | x :: r => (x.f0 - next).toNat + 1 + cnt (x.f0 + 1) r
def denseB (l : List S67) : List Int := encN 1 ++ encN (rd_T67 l 0).f0.toNat ++ encN (cnt (rd_T67 l 0).f0 l) ++ spots (cnt (rd_T67 l 0).f0 l) (rd_T67 l 0).f0 l
def formB (l : List S67) : List Int := if l.length = 0 then sparseB l else if (denseB l).length < (sparseB l).length then denseB l else sparseB l
/-- A list that may be, of counts that may be. -/
def Bnum (l : List S67) : Prop := ∀ x ∈ l, 0 ≤ x.f1 ∧ x.f1 < 18446744073709551616
theorem Bnum.tail {x : S67} {l : List S67} (h : Bnum (x :: l)) : Bnum l := fun y hy => h y (List.mem_cons_of_mem _ hy)
theorem chk_head {last : Int} {x : S67} {l : List S67} (h : chkFrom last (x :: l) = true) : last < x.f0 ∧ x.f0 < 7424 ∧ x.f1 ≠ 0 ∧ chkFrom x.f0 l = true := by
  simp only [chkFrom, Bool.and_eq_true, decide_eq_true_eq, Bool.not_eq_true', beq_eq_false_iff_ne] at h
  exact ⟨h.1, h.2.1, h.2.2.1, h.2.2.2⟩
theorem chk_cnt : ∀ (l : List S67) (next : Int), chkFrom (next - 1) l = true → next ≤ 7424 → next + cnt next l ≤ 7424 ∧ ∀ x ∈ l, next ≤ x.f0 ∧ x.f0 < next + cnt next l
  | [], next, _, h => ⟨by simp [cnt, h], fun x hx => by cases hx⟩
  | x :: r, next, h, _ => by
    obtain ⟨h1, h2, _, h4⟩ := chk_head h
    have ih := chk_cnt r (x.f0 + 1) (by rw [show x.f0 + 1 - 1 = x.f0 by omega]; exact h4) (by omega)
    refine ⟨by rw [cnt]; have := ih.1; omega, fun y hy => ?_⟩
    rw [cnt]
    rcases List.mem_cons.1 hy with rfl | hy
    · omega
    · have := ih.2 y hy; omega
theorem cnt_len : ∀ (l : List S67) (next : Int), l.length ≤ cnt next l
  | [], _ => Nat.zero_le _
  | x :: r, next => by have := cnt_len r (x.f0 + 1); rw [cnt, List.length_cons]; omega
theorem chk_len {l : List S67} (h : chk l = true) : l.length ≤ 7424 := by
  have h1 := (chk_cnt l 0 h (by omega)).1
  have := cnt_len l 0
  omega
/-- A list that may be, from its first bucket on. -/
theorem chk_first {x : S67} {r : List S67} (h : chk (x :: r) = true) : 0 ≤ x.f0 ∧ x.f0 < 7424 ∧ chkFrom (x.f0 - 1) (x :: r) = true ∧ cnt x.f0 (x :: r) ≤ 7424 := by
  obtain ⟨h1, h2, h3, h4⟩ := chk_head h
  have e : chkFrom (x.f0 - 1) (x :: r) = true := by
    simp only [chkFrom, Bool.and_eq_true, decide_eq_true_eq, Bool.not_eq_true', beq_eq_false_iff_ne]
    exact ⟨by omega, h2, h3, h4⟩
  have := (chk_cnt _ _ e (by omega)).1
  exact ⟨by omega, h2, e, by omega⟩
theorem rd_first (x : S67) (r : List S67) : rd_T67 (x :: r) 0 = x := by simp [rd_T67]
/-- The last bucket. -/
theorem rd_last : ∀ (l : List S67) (next : Int), chkFrom (next - 1) l = true → l ≠ [] → (rd_T67 l ((l.length : Int) - 1)).f0 + 1 = next + cnt next l
  | [], _, _, h => absurd rfl h
  | [x], next, h, _ => by
    obtain ⟨h1, _, _, _⟩ := chk_head h
    simp [rd_T67, cnt]; omega
  | x :: y :: r, next, h, _ => by
    obtain ⟨h1, _, _, h4⟩ := chk_head h
    have ih := rd_last (y :: r) (x.f0 + 1) (by rw [show x.f0 + 1 - 1 = x.f0 by omega]; exact h4) (by simp)
    have e : rd_T67 (x :: y :: r) (((x :: y :: r).length : Int) - 1) = rd_T67 (y :: r) (((y :: r).length : Int) - 1) := by
      simp only [rd_T67, List.length_cons]
      rw [show (((r.length + 1 + 1 : Nat) : Int) - 1).toNat = r.length + 1 by omega, show (((r.length + 1 : Nat) : Int) - 1).toNat = r.length by omega, List.getD_cons_succ]
    rw [e, ih]
    show _ = next + (((x.f0 - next).toNat + 1 + cnt (x.f0 + 1) (y :: r) : Nat) : Int)
    omega
def readGo (b : List Int) (sp : Bool) : Nat → Nat → Nat → List S67 → Option (List S67 × Nat)
  | 0, _, p, acc => some (acc, p)
  | m + 1, next, p, acc =>
    match (if sp = true then numAt b (p : Int) else some (0, p)) with
    | none => none
    | some (st, p1) => match numAt b (p1 : Int) with
      | none => none
      | some (n, p2) => if 7424 ≤ st ∨ 7424 ≤ next + st then none else readGo b sp m (next + st + 1) p2 (if 0 < n ∨ sp = true then acc ++ [⟨((next + st : Nat) : Int), (n : Int)⟩] else acc)
def readH (b : List Int) (a : Int) : Option (List S67 × Nat) :=
  match numAt b a with
  | none => none
  | some (h0, p0) => match numAt b (p0 : Int) with
    | none => none
    | some (h1, p1) =>
      if h0 = 1 then (match numAt b (p1 : Int) with
        | none => none
        | some (m, p2) => if 7424 < m ∨ 7424 ≤ h1 then none else readGo b false m h1 p2 [])
      else if 1 < h0 ∨ 7424 < h1 then none else readGo b true h1 0 p1 []
theorem readGo_ok {b : List Int} (hb : WBy b) (sp : Bool) : ∀ (m next p : Nat) (acc l : List S67) (q : Nat), (∀ x ∈ acc, (0 ≤ x.f0 ∧ x.f0 < 7424) ∧ 0 ≤ x.f1 ∧ x.f1 < 18446744073709551616) → p ≤ b.length → readGo b sp m next p acc = some (l, q) →
    p ≤ q ∧ q ≤ b.length ∧ l.length ≤ acc.length + m ∧ ∀ x ∈ l, (0 ≤ x.f0 ∧ x.f0 < 7424) ∧ 0 ≤ x.f1 ∧ x.f1 < 18446744073709551616 := by
  intro m
  induction m with
  | zero => intro next p acc l q ha hp h; rw [readGo] at h; cases h; exact ⟨Nat.le_refl _, hp, Nat.le_refl _, ha⟩
  | succ m ih =>
    intro next p acc l q ha hp h
    rw [readGo] at h
    split at h
    · cases h
    case h_2 st p1 e1 =>
      split at h
      · cases h
      case h_2 n p2 e2 =>
        split at h
        · cases h
        case isFalse hc =>
          have hp1 : p ≤ p1 ∧ p1 ≤ b.length := by
            split at e1
            · have := numAt_at hb e1; omega
            · cases e1; omega
          have h2 := numAt_at hb e2
          have := ih _ _ _ _ _ (fun x hx => by
            split at hx
            · rcases List.mem_append.1 hx with hx | hx
              · exact ha x hx
              · rw [List.mem_singleton] at hx; subst hx; simp only; omega
            · exact ha x hx) (by omega) h
          refine ⟨by omega, this.2.1, ?_, this.2.2.2⟩
          have h3 := this.2.2.1
          split at h3
          · rw [List.length_append, List.length_singleton] at h3; omega
          · omega
theorem readH_ok {b : List Int} (hb : WBy b) {a : Int} {l : List S67} {q : Nat} (h : readH b a = some (l, q)) :
    0 ≤ a ∧ a ≤ q ∧ q ≤ b.length ∧ l.length ≤ 7424 ∧ ∀ x ∈ l, (0 ≤ x.f0 ∧ x.f0 < 7424) ∧ 0 ≤ x.f1 ∧ x.f1 < 18446744073709551616 := by
  unfold readH at h
  split at h
  · cases h
  case h_2 h0 p0 e0 =>
    have g0 := numAt_at hb e0
    split at h
    · cases h
    case h_2 h1 p1 e1 =>
      have g1 := numAt_at hb e1
      split at h
      · split at h
        · cases h
        case h_2 m p2 e2 =>
          have g2 := numAt_at hb e2
          split at h
          · cases h
          case isFalse hc =>
            have := readGo_ok hb _ _ _ _ _ _ _ (fun x hx => by cases hx) (by omega) h
            exact ⟨g0.1, by omega, this.2.1, by have := this.2.2.1; simp at this; omega, this.2.2.2⟩
      · split at h
        · cases h
        case isFalse hc =>
          have := readGo_ok hb _ _ _ _ _ _ _ (fun x hx => by cases hx) (by omega) h
          exact ⟨g0.1, by omega, this.2.1, by have := this.2.2.1; simp at this; omega, this.2.2.2⟩
theorem numAt_here (n : Nat) (hn : n < 18446744073709551616) (xs ys b : List Int) (h : b = xs ++ encN n ++ ys) : numAt b (xs.length : Int) = some (n, (xs ++ encN n).length) := by
  rw [h, numAt_enc n hn, List.length_append]
theorem readGo_sp : ∀ (l : List S67) (next : Nat) (pre ys b : List Int) (acc : List S67), chkFrom ((next : Int) - 1) l = true → Bnum l → b = pre ++ gaps next l ++ ys →
    readGo b true l.length next pre.length acc = some (acc ++ l, (pre ++ gaps next l).length) := by
  intro l
  induction l with
  | nil => intro next pre ys b acc _ _ _; simp [readGo, gaps]
  | cons x r ih =>
    intro next pre ys b acc hc hn hb
    obtain ⟨h1, h2, h3, h4⟩ := chk_head hc
    obtain ⟨n1, n2⟩ := hn x (List.mem_cons_self ..)
    rw [gaps] at hb
    obtain ⟨d, hd⟩ : ∃ d, (x.f0 - (next : Int)).toNat = d := ⟨_, rfl⟩
    obtain ⟨c, hcn⟩ : ∃ c : Nat, x.f1 = (c : Int) := ⟨x.f1.toNat, by omega⟩
    have e1 := numAt_here d (by omega) pre (encN x.f1.toNat ++ gaps (x.f0 + 1) r ++ ys) b (by rw [hb, hd]; simp)
    have e2 := numAt_here x.f1.toNat (by omega) (pre ++ encN d) (gaps (x.f0 + 1) r ++ ys) b (by rw [hb, hd]; simp)
    have hf : x.f0 = ((next + d : Nat) : Int) := by omega
    have e3 := ih (next + d + 1) (pre ++ encN d ++ encN x.f1.toNat) ys b (acc ++ [x]) (by rw [show ((next + d + 1 : Nat) : Int) - 1 = x.f0 by omega]; exact h4) hn.tail (by rw [hb, hd, show ((next + d + 1 : Nat) : Int) = x.f0 + 1 by omega]; simp)
    rw [List.length_cons, readGo, if_pos rfl, e1]
    simp only
    rw [e2]
    simp only
    rw [if_neg (by omega), if_pos (.inr trivial)]
    have ex : (⟨((next + d : Nat) : Int), (x.f1.toNat : Int)⟩ : S67) = x := by
      rw [← hf, Int.toNat_of_nonneg n1]
    rw [ex, e3, gaps, hd, show ((next + d + 1 : Nat) : Int) = x.f0 + 1 by omega]
    simp
theorem readGo_dn : ∀ (m next : Nat) (l : List S67) (pre ys b : List Int) (acc : List S67), chkFrom ((next : Int) - 1) l = true → Bnum l → (∀ x ∈ l, x.f0 < next + m) → next + m ≤ 7424 → b = pre ++ spots m next l ++ ys →
    readGo b false m next pre.length acc = some (acc ++ l, (pre ++ spots m next l).length) := by
  intro m
  induction m with
  | zero =>
    intro next l pre ys b acc hc _ hl _ _
    cases l with
    | nil => simp [readGo, spots]
    | cons x r => have := (chk_head hc).1; have := hl x (List.mem_cons_self ..); omega
  | succ m ih =>
    intro next l pre ys b acc hc hn hl hm hb
    have z0 : encN 0 = [0] := by rw [encN_low (by omega)]; rfl
    rw [readGo, if_neg (by simp)]
    simp only
    have skip : ∀ (l' : List S67), l' = l → spots (m + 1) next l = 0 :: spots m (next + 1) l' → chkFrom ((next : Int) + 1 - 1) l' = true →
        (match numAt b (pre.length : Int) with
          | none => none
          | some (n, p2) => if 7424 ≤ 0 ∨ 7424 ≤ next + 0 then none else readGo b false m (next + 0 + 1) p2 (if 0 < n ∨ false = true then acc ++ [⟨((next + 0 : Nat) : Int), (n : Int)⟩] else acc)) = some (acc ++ l, (pre ++ spots (m + 1) next l).length) := by
      rintro l' rfl es hc'
      rw [es] at hb
      have e1 := numAt_here 0 (by omega) pre (spots m (next + 1) l' ++ ys) b (by rw [hb, z0]; simp)
      rw [e1]
      simp only
      rw [if_neg (by omega), if_neg (by simp), es]
      have e3 := ih (next + 1) l' (pre ++ encN 0) ys b acc (by rw [show ((next + 1 : Nat) : Int) - 1 = (next : Int) + 1 - 1 by omega]; exact hc') hn (fun x hx => by have := hl x hx; omega) (by omega) (by rw [hb, z0, show ((next + 1 : Nat) : Int) = (next : Int) + 1 by omega]; simp)
      rw [Nat.add_zero, e3, z0, show ((next + 1 : Nat) : Int) = (next : Int) + 1 by omega]
      simp
    cases l with
    | nil => exact skip [] rfl (by rw [spots]) rfl
    | cons x r =>
      obtain ⟨h1, h2, h3, h4⟩ := chk_head hc
      obtain ⟨n1, n2⟩ := hn x (List.mem_cons_self ..)
      by_cases hx : x.f0 = (next : Int)
      · have es : spots (m + 1) next (x :: r) = encN x.f1.toNat ++ spots m (next + 1) r := by rw [spots, if_pos hx]
        rw [es] at hb
        have e1 := numAt_here x.f1.toNat (by omega) pre (spots m (next + 1) r ++ ys) b (by rw [hb]; simp)
        rw [e1]
        simp only
        rw [if_neg (by omega), if_pos (.inl (by omega)), es]
        have ex : (⟨((next + 0 : Nat) : Int), (x.f1.toNat : Int)⟩ : S67) = x := by
          rw [Nat.add_zero, ← hx, Int.toNat_of_nonneg n1]
        have e3 := ih (next + 1) r (pre ++ encN x.f1.toNat) ys b (acc ++ [x]) (by rw [show ((next + 1 : Nat) : Int) - 1 = x.f0 by omega]; exact h4) hn.tail (fun y hy => by have := hl y (List.mem_cons_of_mem _ hy); omega) (by omega) (by rw [hb, show ((next + 1 : Nat) : Int) = (next : Int) + 1 by omega]; simp)
        rw [ex, Nat.add_zero, e3, show ((next + 1 : Nat) : Int) = (next : Int) + 1 by omega]
        simp
      · refine skip (x :: r) rfl (by rw [spots, if_neg hx]) ?_
        simp only [chkFrom, Bool.and_eq_true, decide_eq_true_eq, Bool.not_eq_true', beq_eq_false_iff_ne]
        exact ⟨by omega, h2, h3, h4⟩
/-- A list that was put is read again. -/
theorem read_enc (l : List S67) (hc : chk l = true) (hn : Bnum l) (pre ys b : List Int) (hb : b = pre ++ formB l ++ ys) : readH b (pre.length : Int) = some (l, (pre ++ formB l).length) := by
  have hs : ∀ b : List Int, b = pre ++ sparseB l ++ ys → readH b (pre.length : Int) = some (l, (pre ++ sparseB l).length) := by
    intro b hb
    have hl := chk_len hc
    rw [sparseB] at hb
    have e0 := numAt_here 0 (by omega) pre (encN l.length ++ gaps 0 l ++ ys) b (by rw [hb]; simp)
    have e1 := numAt_here l.length (by omega) (pre ++ encN 0) (gaps 0 l ++ ys) b (by rw [hb]; simp)
    have e2 := readGo_sp l 0 (pre ++ encN 0 ++ encN l.length) ys b [] hc hn (by rw [hb]; simp)
    rw [readH, e0]
    simp only
    rw [e1]
    simp only
    rw [if_neg (by omega), if_neg (by omega), e2, sparseB]
    simp
  unfold formB at hb ⊢
  split at hb
  case isTrue h => rw [if_pos h]; exact hs b hb
  case isFalse h =>
    rw [if_neg h]
    split at hb
    case isFalse h' => rw [if_neg h']; exact hs b hb
    case isTrue h' =>
      rw [if_pos h']
      cases l with
      | nil => simp at h
      | cons x r =>
        obtain ⟨f0, f1, f2, f3⟩ := chk_first hc
        rw [denseB, rd_first] at hb ⊢
        obtain ⟨m, hm⟩ : ∃ m, cnt x.f0 (x :: r) = m := ⟨_, rfl⟩
        rw [hm] at hb f3 ⊢
        obtain ⟨a, ha⟩ : ∃ a : Nat, x.f0 = (a : Int) := ⟨x.f0.toNat, by omega⟩
        have hcn := chk_cnt _ _ f2 (by omega)
        rw [hm] at hcn
        have e0 := numAt_here 1 (by omega) pre (encN x.f0.toNat ++ encN m ++ spots m x.f0 (x :: r) ++ ys) b (by rw [hb]; simp)
        have e1 := numAt_here x.f0.toNat (by omega) (pre ++ encN 1) (encN m ++ spots m x.f0 (x :: r) ++ ys) b (by rw [hb]; simp)
        have e2 := numAt_here m (by omega) (pre ++ encN 1 ++ encN x.f0.toNat) (spots m x.f0 (x :: r) ++ ys) b (by rw [hb]; simp)
        have e3 := readGo_dn m a (x :: r) (pre ++ encN 1 ++ encN x.f0.toNat ++ encN m) ys b [] (by rw [← ha]; exact f2) hn (fun y hy => by have := hcn.2 y hy; omega) (by omega) (by rw [hb, ha]; simp)
        rw [readH, e0]
        simp only
        rw [e1]
        simp only
        rw [if_pos trivial, e2]
        simp only
        have ea : x.f0.toNat = a := by omega
        rw [if_neg (by omega), ea]
        rw [ea] at e3
        rw [e3, ha]
        simp
end Go.Proofs.Ytofgcacahfdjdaa.Pure
namespace Go.Proofs.Ytofgcacahfdjdaa
set_option linter.unusedVariables false
set_option linter.unusedSimpArgs false
open Go.RowKit Go.Maps Go.Deep Go.Proofs.YtofgcacahfdjdaaW.PrintWords Go.Proofs.YtofgcacahfdjdaaW.PrintLast Go.Proofs.YtofgcacahfdjdaaW.PrintMore Go.Proofs.Ytofgcacahfdjdaa.Hi Go.Proofs.Ytofgcacahfdjdaa.Vt Go.Proofs.Ytofgcacahfdjdaa.Pure
def ReadPost (o : Option (List S67 × Nat)) (w : World) (e : Ending) (w' : World) : Prop :=
  Below w.heap.size w w' ∧ (∀ l q, o = some (l, q) → ∃ r, e = .returned (.tuple #[r, .int .i64 (q : Int), .bool true]) ∧ Kd.R k67 67 w' w.heap.size (fun _ => True) r l) ∧ (o = none → e = .returned (.tuple #[.slice none 0 0, .int .i64 0, .bool false]))
theorem ReadPost.no {o : Option (List S67 × Nat)} {w w' : World} (h : o = none) (hb : Below w.heap.size w w') : ReadPost o w (.returned (.tuple #[.slice none 0 0, .int .i64 0, .bool false])) w' :=
  ⟨hb, (fun l q e => by rw [h] at e; cases e), fun _ => rfl⟩
def HeadAt (b : List Int) (a : Int) (j : Nat) (p x y : Int) : Prop :=
  (j = 0 ∧ p = a) ∨ (j = 1 ∧ ∃ h0 p0 : Nat, numAt b a = some (h0, p0) ∧ x = (h0 : Int) ∧ p = (p0 : Int)) ∨
  (j = 2 ∧ ∃ h0 p0 h1 p1 : Nat, numAt b a = some (h0, p0) ∧ numAt b (p0 : Int) = some (h1, p1) ∧ x = (h0 : Int) ∧ y = (h1 : Int) ∧ p = (p1 : Int))
theorem readH_1 {b : List Int} {a : Int} (h : numAt b a = none) : readH b a = none := by rw [readH, h]
theorem readH_2 {b : List Int} {a : Int} {h0 p0 : Nat} (h : numAt b a = some (h0, p0)) (h' : numAt b (p0 : Int) = none) : readH b a = none := by rw [readH, h]; simp only; rw [h']
theorem readH_3 {b : List Int} {a : Int} {h0 p0 h1 p1 : Nat} (h : numAt b a = some (h0, p0)) (h' : numAt b (p0 : Int) = some (h1, p1)) : readH b a =
    if h0 = 1 then (match numAt b (p1 : Int) with
        | none => none
        | some (m, p2) => if 7424 < m ∨ 7424 ≤ h1 then none else readGo b false m h1 p2 [])
      else if 1 < h0 ∨ 7424 < h1 then none else readGo b true h1 0 p1 [] := by rw [readH, h]; simp only; (rw [h'] <;> first | done | rfl)
set_option maxHeartbeats 8000000 in
set_option maxRecDepth 100000 in
theorem read_any {A : Option Addr} {c : Nat} {b : List Int} (hb : WBy b) (a : Int) {w : World} (hC : Kd.C (Kd.int .u8) w A b.length b) (hc : b.length ≤ c) :
    Calls Try.prog 33 #[.slice A b.length c, .int .i64 a] w (ReadPost (readH b a) w) := by
  have HB := Lib.hid hb; have HC := Lib.hid hC; have HCL := Lib.hid hc
  clear hb hC hc
  go_enter Try.func33, Try.ntmps33
  go_wp2
  go_loopw [1, 16] (fun v1 v16 wr => ∃ (j : Nat) (p x y : Int), v16 = .int .i64 (j : Int) ∧ v1 = .int .i64 p ∧ wr.heap[w.heap.size]? = some (.cells #[.int .u64 x, .int .u64 y] 93 (0, 0)) ∧ Below w.heap.size w wr ∧ HeadAt b a j p x y) (fun _ v16 _ => 2 - (intOf v16).toNat)
  case atStart => exact ⟨0, a, 0, 0, rfl, rfl, blk_new _ _, below_alloc (Below.refl _ _) _, .inl ⟨rfl, rfl⟩⟩
  case round =>
    obtain ⟨j, p, x, y, rfl, rfl, hcs, hbw, hh⟩ := hrel
    have HBW := Lib.hid hbw; have HCS := Lib.hid hcs
    clear hbw hcs
    rcases hh with ⟨rfl, hpa⟩ | ⟨rfl, h0, p0, hh0, rfl, rfl⟩ | ⟨rfl, h0, p0, h1, p1, hh0, hh1, rfl, rfl, rfl⟩
    · skip
      obtain rfl : a = p := hpa.symm
      have hCr := Kd.C_below HC.out HBW.out
      cases hq : numAt b a with
      | none =>
        have HQ := Lib.hid (vget_any HB.out a hCr HCL.out (v := 0) (n := 0) (ok := false) (by simp [hq, getR]))
        have HN := Lib.hid (show readH b a = none from readH_1 hq)
        clear hCr hq
        go_wp2_with (go_at_call 61; (with_reducible refine HQ.out.mono ?_); rintro e w3 ⟨rfl, hb3⟩; have HB3 := Lib.hid hb3; have HCS3 := blk_below HCS.out hb3; have pc := blk_cell HCS3 0; have pf := blk_frozen HCS3 0; clear hb3 HQ)
        go_ret3
        exact ReadPost.no HN.out (below_set (below_then HBW.out HBW.out.size HB3.out) (Nat.le_refl _))
      | some z =>
        obtain ⟨v, q⟩ := z
        have HQ := Lib.hid (vget_any HB.out a hCr HCL.out (v := v) (n := q) (ok := true) (by simp [hq, getR]))
        have HE := Lib.hid hq
        clear hCr hq
        go_wp2_with (go_at_call 61; (with_reducible refine HQ.out.mono ?_); rintro e w3 ⟨rfl, hb3⟩; have HB3 := Lib.hid hb3; have HCS3 := blk_below HCS.out hb3; have pc := blk_cell HCS3 0; have pf := blk_frozen HCS3 0; clear hb3 HQ)
        go_roundw
        case rel => exact ⟨1, (q : Int), (v : Int), y, by go_num, rfl, blk_put HCS3 0 _ rfl, below_set (below_then HBW.out HBW.out.size HB3.out) (Nat.le_refl _), .inr (.inl ⟨rfl, v, q, HE.out, rfl, rfl⟩)⟩
        case measure => simp [intOf]
    · have HH := Lib.hid hh0; clear hh0
      skip
      have hCr := Kd.C_below HC.out HBW.out
      cases hq : numAt b (p0 : Int) with
      | none =>
        have HQ := Lib.hid (vget_any HB.out (p0 : Int) hCr HCL.out (v := 0) (n := 0) (ok := false) (by simp [hq, getR]))
        have HN := Lib.hid (show readH b a = none from readH_2 HH.out hq)
        clear hCr hq
        go_wp2_with (go_at_call 61; (with_reducible refine HQ.out.mono ?_); rintro e w3 ⟨rfl, hb3⟩; have HB3 := Lib.hid hb3; have HCS3 := blk_below HCS.out hb3; have pc := blk_cell HCS3 1; have pf := blk_frozen HCS3 1; clear hb3 HQ)
        go_ret3
        exact ReadPost.no HN.out (below_set (below_then HBW.out HBW.out.size HB3.out) (Nat.le_refl _))
      | some z =>
        obtain ⟨v, q⟩ := z
        have HQ := Lib.hid (vget_any HB.out (p0 : Int) hCr HCL.out (v := v) (n := q) (ok := true) (by simp [hq, getR]))
        have HE := Lib.hid hq
        clear hCr hq
        go_wp2_with (go_at_call 61; (with_reducible refine HQ.out.mono ?_); rintro e w3 ⟨rfl, hb3⟩; have HB3 := Lib.hid hb3; have HCS3 := blk_below HCS.out hb3; have pc := blk_cell HCS3 1; have pf := blk_frozen HCS3 1; clear hb3 HQ)
        go_roundw
        case rel => exact ⟨2, (q : Int), (h0 : Int), (v : Int), by go_num, rfl, blk_put HCS3 1 _ rfl, below_set (below_then HBW.out HBW.out.size HB3.out) (Nat.le_refl _), .inr (.inr ⟨rfl, h0, p0, v, q, HH.out, HE.out, rfl, rfl, rfl⟩)⟩
        case measure => simp [intOf]
    · have he := readH_3 hh0 hh1
      have hp1 := numAt_at HB.out hh1
      have hv0 := numAt_at HB.out hh0
      clear hh0 hh1
      simp only [show ((2 : Nat) : Int) = 2 from rfl]
      rcases Nat.lt_trichotomy h0 1 with c0 | rfl | c0
      · obtain rfl : h0 = 0 := by omega
        have pc0 := blk_cell HCS.out 0; have pc1 := blk_cell HCS.out 1
        rw [if_neg (by omega)] at he
        by_cases hm : 7424 < h1
        · have em : decide ((7424 : Int) < (h1 : Int)) = true := decide_eq_true (by omega)
          have emb : decide (7424 < h1) = true := decide_eq_true hm
          have HN := Lib.hid (show readH b a = none by rw [he, if_pos (.inr hm)])
          clear he
          go_wp2
          go_ret3
          exact ReadPost.no HN.out HBW.out
        · have em : decide ((7424 : Int) < (h1 : Int)) = false := decide_eq_false (by omega)
          have emb : decide (7424 < h1) = false := decide_eq_false hm
          have HE := Lib.hid (show readH b a = readGo b true h1 0 p1 [] by rw [he, if_neg (by omega)])
          have HM := Lib.hid (show h1 ≤ 7424 by omega)
          clear he
          have HB0 := Lib.hid HBW.out; have HCS0 := Lib.hid HCS.out; clear HBW HCS
          rename World => wl
          go_wp2
          go_loopw [1, 11, 12, 59] (fun v1 v11 v12 v59 wq => ∃ (i nn p' : Nat) (acc : List S67), v59 = .int .u64 (i : Int) ∧ v1 = .int .i64 (p' : Int) ∧ v11 = .int .u64 (nn : Int) ∧ i ≤ h1 ∧ nn ≤ 7424 ∧ acc.length ≤ i ∧ Kd.R k67 67 wq (w.heap.size + 1) (fun _ => True) v12 acc ∧ readGo b true h1 0 p1 [] = readGo b true (h1 - i) nn p' acc ∧ Below (w.heap.size + 1) wl wq) (fun _ _ _ v59 _ => h1 - (intOf v59).toNat)
          case atStart => exact ⟨0, 0, p1, [], rfl, rfl, rfl, Nat.zero_le _, by have := HM.out; omega, Nat.le_refl _, Kd.R_nil _ _ _ _ _, rfl, Below.refl _ _⟩
          case round =>
            clear pc0 pc1
            obtain ⟨i, nn, p', acc, rfl, rfl, rfl, hi, hnn, hla, hR, heq, hbw⟩ := hrel
            have HCQ := Lib.hid ((hbw.block _ (Nat.lt_succ_self _)).trans HCS0.out); have HSZ := Lib.hid (Nat.le_trans (blk_lt HCS0.out) hbw.size); have HR := Lib.hid hR; have HEQ := Lib.hid heq; have HBW := Lib.hid hbw
            clear hR heq hbw
            by_cases hin : i < h1
            · have e5 : decide ((i : Int) < (h1 : Int)) = true := decide_eq_true (by omega)
              have e5b : decide (i < h1) = true := decide_eq_true hin
              obtain ⟨m', hm2⟩ : ∃ m', h1 - i = m' + 1 := ⟨h1 - i - 1, by omega⟩
              have hgo := HEQ.out
              rw [hm2, readGo] at hgo
              have HI := Lib.hid (show acc.length ≤ i ∧ i < h1 ∧ h1 ≤ 7424 ∧ nn ≤ 7424 by have := HM.out; omega)
              have hCr := Kd.C_below HC.out (HB0.out.trans (HBW.out.mono (Nat.le_succ _)))
              have pc0 := blk_cell HCQ.out 0
              clear HEQ
              rw [if_pos rfl] at hgo
              cases hq : numAt b (p' : Int) with
              | none =>
                have HQ1 := Lib.hid (vget_any HB.out (p' : Int) hCr HCL.out (v := 0) (n := 0) (ok := false) (by simp [hq, getR]))
                have HN := Lib.hid (show readH b a = none by rw [HE.out, hgo, hq])
                clear hgo hCr hq
                go_wp2_with (go_at_call 61; (with_reducible refine HQ1.out.mono ?_); rintro e w3 ⟨rfl, hb3⟩; have HB3 := Lib.hid hb3; clear hb3 HQ1)
                go_ret3
                exact ReadPost.no HN.out (HB0.out.trans ((below_then HBW.out HSZ.out HB3.out).mono (Nat.le_succ _)))
              | some z =>
                obtain ⟨st, q⟩ := z
                have hv1 := numAt_at HB.out hq
                have HQ1 := Lib.hid (vget_any HB.out (p' : Int) hCr HCL.out (v := st) (n := q) (ok := true) (by simp [hq, getR]))
                rw [hq] at hgo
                simp only at hgo
                clear hq
                cases hq2 : numAt b (q : Int) with
                | none =>
                  have HQ := Lib.hid (fun W (hb : Below wr.heap.size wr W) => vget_any HB.out (q : Int) (Kd.C_below hCr hb) HCL.out (v := 0) (n := 0) (ok := false) (by simp [hq2, getR]))
                  have HN := Lib.hid (show readH b a = none by rw [HE.out, hgo]; rw [hq2])
                  clear hgo hCr hq2
                  go_wp2_with (first | (go_at_call 61; (with_reducible refine HQ1.out.mono ?_); rintro e w3 ⟨rfl, hb3⟩; have HB2 := Lib.hid hb3; clear hb3 HQ1) | (go_at_call 61; (with_reducible refine (HQ.out _ HB2.out).mono ?_); rintro e w4 ⟨rfl, hb3⟩; have HB3 := Lib.hid ((HB2.out).trans (hb3.mono HB2.out.size)); have p0 := pw_cell_below HB3.out pc0; clear hb3 HQ))
                  go_ret3
                  exact ReadPost.no HN.out (HB0.out.trans ((below_then HBW.out HSZ.out HB3.out).mono (Nat.le_succ _)))
                | some z2 =>
                  obtain ⟨n, q2⟩ := z2
                  have hv2 := numAt_at HB.out hq2
                  have HQ := Lib.hid (fun W (hb : Below wr.heap.size wr W) => vget_any HB.out (q : Int) (Kd.C_below hCr hb) HCL.out (v := n) (n := q2) (ok := true) (by simp [hq2, getR]))
                  rw [hq2] at hgo
                  simp only at hgo
                  by_cases hs : 7424 ≤ st
                  · have es : decide ((7424 : Int) ≤ (st : Int)) = true := decide_eq_true (by omega)
                    have esb : decide (7424 ≤ st) = true := decide_eq_true hs
                    have HN := Lib.hid (show readH b a = none by rw [HE.out, hgo, if_pos (.inl hs)])
                    clear hgo hCr hq2
                    go_wp2_with (first | (go_at_call 61; (with_reducible refine HQ1.out.mono ?_); rintro e w3 ⟨rfl, hb3⟩; have HB2 := Lib.hid hb3; clear hb3 HQ1) | (go_at_call 61; (with_reducible refine (HQ.out _ HB2.out).mono ?_); rintro e w4 ⟨rfl, hb3⟩; have HB3 := Lib.hid ((HB2.out).trans (hb3.mono HB2.out.size)); have p0 := pw_cell_below HB3.out pc0; clear hb3 HQ))
                    go_ret3
                    exact ReadPost.no HN.out (HB0.out.trans ((below_then HBW.out HSZ.out HB3.out).mono (Nat.le_succ _)))
                  have es : decide ((7424 : Int) ≤ (st : Int)) = false := decide_eq_false (by omega)
                  have esb : decide (7424 ≤ st) = false := decide_eq_false hs
                  have ew : IntKind.u64.wrap ((nn : Int) + (st : Int)) = ((nn + st : Nat) : Int) := by rw [IntKind.wrap_u64]; omega
                  by_cases ht : 7424 ≤ nn + st
                  · have et : decide ((7424 : Int) ≤ ((nn + st : Nat) : Int)) = true := decide_eq_true (by omega)
                    have etb : decide (7424 ≤ nn + st) = true := decide_eq_true ht
                    have HN := Lib.hid (show readH b a = none by rw [HE.out, hgo, if_pos (.inr (by omega))])
                    clear hgo hCr hq2
                    go_wp2_with (first | (go_at_call 61; (with_reducible refine HQ1.out.mono ?_); rintro e w3 ⟨rfl, hb3⟩; have HB2 := Lib.hid hb3; clear hb3 HQ1) | (go_at_call 61; (with_reducible refine (HQ.out _ HB2.out).mono ?_); rintro e w4 ⟨rfl, hb3⟩; have HB3 := Lib.hid ((HB2.out).trans (hb3.mono HB2.out.size)); have p0 := pw_cell_below HB3.out pc0; clear hb3 HQ))
                    go_ret3
                    exact ReadPost.no HN.out (HB0.out.trans ((below_then HBW.out HSZ.out HB3.out).mono (Nat.le_succ _)))
                  have et : decide ((7424 : Int) ≤ ((nn + st : Nat) : Int)) = false := decide_eq_false (by omega)
                  have etb : decide (7424 ≤ nn + st) = false := decide_eq_false ht
                  have ex : IntKind.u64.wrap (((nn + st : Nat) : Int) + 1) = ((nn + st + 1 : Nat) : Int) := by rw [IntKind.wrap_u64]; omega
                  have ey : IntKind.i64.wrap ((nn + st : Nat) : Int) = ((nn + st : Nat) : Int) := by rw [IntKind.wrap_i64]; omega
                  have ez : IntKind.u64.wrap ((i : Int) + 1) = ((i + 1 : Nat) : Int) := by rw [IntKind.wrap_u64]; omega
                  by_cases hn : 0 < n
                  · have en : decide ((0 : Int) < (n : Int)) = true := decide_eq_true (by omega)
                    have enb : decide (0 < n) = true := decide_eq_true hn
                    have HN := Lib.hid (show readGo b true h1 0 p1 [] = readGo b true (h1 - (i + 1)) (nn + st + 1) q2 (acc ++ [⟨((nn + st : Nat) : Int), (n : Int)⟩]) by rw [hgo, if_neg (by omega), if_pos (.inl hn)]; rw [show h1 - (i + 1) = m' by omega])
                    clear hgo hCr hq2
                    go_wp2_with (first | (go_at_call 61; (with_reducible refine HQ1.out.mono ?_); rintro e w3 ⟨rfl, hb3⟩; have HB2 := Lib.hid hb3; clear hb3 HQ1) | (go_at_call 61; (with_reducible refine (HQ.out _ HB2.out).mono ?_); rintro e w4 ⟨rfl, hb3⟩; have HB3 := Lib.hid ((HB2.out).trans (hb3.mono HB2.out.size)); have p0 := pw_cell_below HB3.out pc0; clear hb3 HQ) | ((with_reducible refine gate_builtin (b := .append) (xs := #[.tmp 102, .tmp 107]) rfl ?_); at_builtin; go_must (refine Kd.R_append k67 (w0 := wl) (w.heap.size + 1) rfl (.tmp 102) (.tmp 107) 23 67 (.agg #[(.int .i64 0), (.int .u64 0)]) 16 rfl Try.underlying23 info67 rfl (by decide) (by omega) u12 acc (⟨(nn : Int) + (st : Int), (n : Int)⟩ : S67) [.int .i64 ((nn : Int) + (st : Int)), .int .u64 (n : Int)] (fun _ => True) (fun _ => False) rfl rfl ?aP (fun _ hk => hk.elim) ?aF ?aO ?aB ?aS ?aL ?_; (case aP => exact k67_mkM _ _ _ (⟨(nn : Int) + (st : Int), (n : Int)⟩ : S67)); (case aF => exact (fun _ _ => trivial)); (case aO => exact (by (with_reducible repeat (first | apply Kd.R_alloc | apply Kd.R_drewN | apply Kd.R_drew)); exact Kd.R_below HR.out HB3.out)); (case aB => exact (by first | exact below_then HBW.out HSZ.out HB3.out | exact (below_then HBW.out HSZ.out HB3.out).alloc (Nat.le_trans HSZ.out HB3.out.size) _)); (case aS => exact (by first | exact Nat.le_trans HSZ.out HB3.out.size | exact Nat.le_trans HSZ.out (Nat.le_trans HB3.out.size (by simp)))); (case aL => have := HI.out; omega); intro v5 w5 ho5 hb5 hg5 hat5; have HO5 := Lib.hid ho5; have HB5 := Lib.hid hb5; clear ho5 hb5 hg5 hat5)))
                    go_roundw
                    case rel => exact ⟨i + 1, nn + st + 1, q2, acc ++ [⟨((nn + st : Nat) : Int), (n : Int)⟩], by first | rfl | go_num, rfl, by first | rfl | go_num, by have := HI.out; omega, by omega, by have := HI.out; simp; omega, HO5.out, HN.out, HB5.out⟩
                    case measure => have := HI.out; simp [intOf]; omega
                  · obtain rfl : n = 0 := by omega
                    have HN := Lib.hid (show readGo b true h1 0 p1 [] = readGo b true (h1 - (i + 1)) (nn + st + 1) q2 (acc ++ [⟨((nn + st : Nat) : Int), ((0 : Nat) : Int)⟩]) by rw [hgo, if_neg (by omega), if_pos (.inr trivial)]; rw [show h1 - (i + 1) = m' by omega])
                    clear hgo hCr hq2
                    go_wp2_with (first | (go_at_call 61; (with_reducible refine HQ1.out.mono ?_); rintro e w3 ⟨rfl, hb3⟩; have HB2 := Lib.hid hb3; clear hb3 HQ1) | (go_at_call 61; (with_reducible refine (HQ.out _ HB2.out).mono ?_); rintro e w4 ⟨rfl, hb3⟩; have HB3 := Lib.hid ((HB2.out).trans (hb3.mono HB2.out.size)); have p0 := pw_cell_below HB3.out pc0; clear hb3 HQ) | ((with_reducible refine gate_builtin (b := .append) (xs := #[.tmp 102, .tmp 107]) rfl ?_); at_builtin; go_must (refine Kd.R_append k67 (w0 := wl) (w.heap.size + 1) rfl (.tmp 102) (.tmp 107) 23 67 (.agg #[(.int .i64 0), (.int .u64 0)]) 16 rfl Try.underlying23 info67 rfl (by decide) (by omega) u12 acc (⟨(nn : Int) + (st : Int), 0⟩ : S67) [.int .i64 ((nn : Int) + (st : Int)), .int .u64 0] (fun _ => True) (fun _ => False) rfl rfl ?aP (fun _ hk => hk.elim) ?aF ?aO ?aB ?aS ?aL ?_; (case aP => exact k67_mkM _ _ _ (⟨(nn : Int) + (st : Int), 0⟩ : S67)); (case aF => exact (fun _ _ => trivial)); (case aO => exact (by (with_reducible repeat (first | apply Kd.R_alloc | apply Kd.R_drewN | apply Kd.R_drew)); exact Kd.R_below HR.out HB3.out)); (case aB => exact (by first | exact below_then HBW.out HSZ.out HB3.out | exact (below_then HBW.out HSZ.out HB3.out).alloc (Nat.le_trans HSZ.out HB3.out.size) _)); (case aS => exact (by first | exact Nat.le_trans HSZ.out HB3.out.size | exact Nat.le_trans HSZ.out (Nat.le_trans HB3.out.size (by simp)))); (case aL => have := HI.out; omega); intro v5 w5 ho5 hb5 hg5 hat5; have HO5 := Lib.hid ho5; have HB5 := Lib.hid hb5; clear ho5 hb5 hg5 hat5)))
                    go_roundw
                    case rel => exact ⟨i + 1, nn + st + 1, q2, acc ++ [⟨((nn + st : Nat) : Int), ((0 : Nat) : Int)⟩], by first | rfl | go_num, rfl, by first | rfl | go_num, by have := HI.out; omega, by omega, by have := HI.out; simp; omega, HO5.out, HN.out, HB5.out⟩
                    case measure => have := HI.out; simp [intOf]; omega
            · have e5 : decide ((i : Int) < (h1 : Int)) = false := decide_eq_false (by omega)
              have e5b : decide (i < h1) = false := decide_eq_false hin
              obtain rfl : i = h1 := by omega
              have HN := Lib.hid (show readH b a = some (acc, p') by rw [HE.out, HEQ.out, Nat.sub_self]; rfl)
              go_wp2
              go_ret3
              exact ⟨HB0.out.trans (HBW.out.mono (Nat.le_succ _)), (fun l r e => by rw [HN.out] at e; cases e; exact ⟨_, rfl, Kd.R_lower HR.out (Nat.le_succ _)⟩), fun e => by rw [HN.out] at e; cases e⟩
      · skip
        have pc0 := blk_cell HCS.out 0; have pc1 := blk_cell HCS.out 1
        rw [if_pos rfl] at he
        have hCr := Kd.C_below HC.out HBW.out
        cases hq : numAt b (p1 : Int) with
        | none =>
          have HQ := Lib.hid (vget_any HB.out (p1 : Int) hCr HCL.out (v := 0) (n := 0) (ok := false) (by simp [hq, getR]))
          have HN := Lib.hid (show readH b a = none by rw [he, hq])
          clear hCr hq he
          go_wp2_with (go_at_call 61; (with_reducible refine HQ.out.mono ?_); rintro e w3 ⟨rfl, hb3⟩; have HB3 := Lib.hid hb3; clear hb3 HQ)
          go_ret3
          exact ReadPost.no HN.out (below_then HBW.out HBW.out.size HB3.out)
        | some z =>
          obtain ⟨m, p2⟩ := z
          have hv := numAt_at HB.out hq
          have HQ := Lib.hid (vget_any HB.out (p1 : Int) hCr HCL.out (v := m) (n := p2) (ok := true) (by simp [hq, getR]))
          rw [hq] at he
          simp only at he
          clear hCr hq
          by_cases hm : 7424 < m
          · have em : decide ((7424 : Int) < (m : Int)) = true := decide_eq_true (by omega)
            have emb : decide (7424 < m) = true := decide_eq_true hm
            have HN := Lib.hid (show readH b a = none by rw [he, if_pos (.inl hm)])
            clear he
            go_wp2_with (go_at_call 61; (with_reducible refine HQ.out.mono ?_); rintro e w3 ⟨rfl, hb3⟩; have HB3 := Lib.hid hb3; have HCS1 := Lib.hid (blk_below HCS.out hb3); have p0 := pw_cell_below hb3 pc0; have p1_ := pw_cell_below hb3 pc1; clear hb3 HQ)
            go_ret3
            exact ReadPost.no HN.out (below_then HBW.out HBW.out.size HB3.out)
          have em : decide ((7424 : Int) < (m : Int)) = false := decide_eq_false (by omega)
          have emb : decide (7424 < m) = false := decide_eq_false hm
          by_cases hx : 7424 ≤ h1
          · have ex : decide ((7424 : Int) ≤ (h1 : Int)) = true := decide_eq_true (by omega)
            have exb : decide (7424 ≤ h1) = true := decide_eq_true hx
            have HN := Lib.hid (show readH b a = none by rw [he, if_pos (.inr hx)])
            clear he
            go_wp2_with (go_at_call 61; (with_reducible refine HQ.out.mono ?_); rintro e w3 ⟨rfl, hb3⟩; have HB3 := Lib.hid hb3; have HCS1 := Lib.hid (blk_below HCS.out hb3); have p0 := pw_cell_below hb3 pc0; have p1_ := pw_cell_below hb3 pc1; clear hb3 HQ)
            go_ret3
            exact ReadPost.no HN.out (below_then HBW.out HBW.out.size HB3.out)
          have ex : decide ((7424 : Int) ≤ (h1 : Int)) = false := decide_eq_false (by omega)
          have exb : decide (7424 ≤ h1) = false := decide_eq_false hx
          have HE := Lib.hid (show readH b a = readGo b false m h1 p2 [] by rw [he, if_neg (by omega)])
          have HM := Lib.hid (show m ≤ 7424 ∧ h1 ≤ 7424 by omega)
          clear he
          go_wp2_with (go_at_call 61; (with_reducible refine HQ.out.mono ?_); rintro e w3 ⟨rfl, hb3⟩; have HB3 := Lib.hid hb3; have HCS1 := Lib.hid (blk_below HCS.out hb3); have p0 := pw_cell_below hb3 pc0; have p1_ := pw_cell_below hb3 pc1; clear hb3 HQ)
          have HB0 := Lib.hid (below_then HBW.out HBW.out.size HB3.out); have HCS0 := Lib.hid HCS1.out; clear HBW HCS HCS1 HB3
          go_loopw [1, 11, 12, 59] (fun v1 v11 v12 v59 wq => ∃ (i nn p' : Nat) (acc : List S67), v59 = .int .u64 (i : Int) ∧ v1 = .int .i64 (p' : Int) ∧ v11 = .int .u64 (nn : Int) ∧ i ≤ m ∧ nn ≤ 7424 ∧ acc.length ≤ i ∧ Kd.R k67 67 wq (w.heap.size + 1) (fun _ => True) v12 acc ∧ readGo b false m h1 p2 [] = readGo b false (m - i) nn p' acc ∧ Below (w.heap.size + 1) w3 wq) (fun _ _ _ v59 _ => m - (intOf v59).toNat)
          case atStart => exact ⟨0, h1, p2, [], rfl, rfl, rfl, Nat.zero_le _, by have := HM.out; omega, Nat.le_refl _, Kd.R_nil _ _ _ _ _, rfl, Below.refl _ _⟩
          case round =>
            clear pc0 pc1 p0 p1_
            obtain ⟨i, nn, p', acc, rfl, rfl, rfl, hi, hnn, hla, hR, heq, hbw⟩ := hrel
            have HCQ := Lib.hid ((hbw.block _ (Nat.lt_succ_self _)).trans HCS0.out); have HSZ := Lib.hid (Nat.le_trans (blk_lt HCS0.out) hbw.size); have HR := Lib.hid hR; have HEQ := Lib.hid heq; have HBW := Lib.hid hbw
            clear hR heq hbw
            by_cases hin : i < m
            · have e5 : decide ((i : Int) < (m : Int)) = true := decide_eq_true (by omega)
              have e5b : decide (i < m) = true := decide_eq_true hin
              obtain ⟨m', hm2⟩ : ∃ m', m - i = m' + 1 := ⟨m - i - 1, by omega⟩
              have hgo := HEQ.out
              rw [hm2, readGo] at hgo
              have HI := Lib.hid (show acc.length ≤ i ∧ i < m ∧ m ≤ 7424 ∧ nn ≤ 7424 by have := HM.out; omega)
              have hCr := Kd.C_below HC.out (HB0.out.trans (HBW.out.mono (Nat.le_succ _)))
              have pc0 := blk_cell HCQ.out 0
              clear HEQ
              rw [if_neg (by simp)] at hgo
              simp only [Nat.add_zero] at hgo
              cases hq2 : numAt b (p' : Int) with
              | none =>
                have HQ := Lib.hid (vget_any HB.out (p' : Int) hCr HCL.out (v := 0) (n := 0) (ok := false) (by simp [hq2, getR]))
                have HN := Lib.hid (show readH b a = none by rw [HE.out, hgo]; rw [hq2])
                clear hgo hCr hq2
                go_wp2_with (go_at_call 61; (with_reducible refine HQ.out.mono ?_); rintro e w4 ⟨rfl, hb3⟩; have HB3 := Lib.hid hb3; have p0 := pw_cell_below hb3 pc0; clear hb3 HQ)
                go_ret3
                exact ReadPost.no HN.out (HB0.out.trans ((below_then HBW.out HSZ.out HB3.out).mono (Nat.le_succ _)))
              | some z2 =>
                obtain ⟨n, q2⟩ := z2
                have hv2 := numAt_at HB.out hq2
                have HQ := Lib.hid (vget_any HB.out (p' : Int) hCr HCL.out (v := n) (n := q2) (ok := true) (by simp [hq2, getR]))
                rw [hq2] at hgo
                simp only at hgo
                by_cases ht : 7424 ≤ nn
                · have et : decide ((7424 : Int) ≤ ((nn : Nat) : Int)) = true := decide_eq_true (by omega)
                  have etb : decide (7424 ≤ nn) = true := decide_eq_true ht
                  have HN := Lib.hid (show readH b a = none by rw [HE.out, hgo, if_pos (.inr (by omega))])
                  clear hgo hCr hq2
                  go_wp2_with (go_at_call 61; (with_reducible refine HQ.out.mono ?_); rintro e w4 ⟨rfl, hb3⟩; have HB3 := Lib.hid hb3; have p0 := pw_cell_below hb3 pc0; clear hb3 HQ)
                  go_ret3
                  exact ReadPost.no HN.out (HB0.out.trans ((below_then HBW.out HSZ.out HB3.out).mono (Nat.le_succ _)))
                have et : decide ((7424 : Int) ≤ ((nn : Nat) : Int)) = false := decide_eq_false (by omega)
                have etb : decide (7424 ≤ nn) = false := decide_eq_false ht
                have ex : IntKind.u64.wrap (((nn : Nat) : Int) + 1) = ((nn + 1 : Nat) : Int) := by rw [IntKind.wrap_u64]; omega
                have ey : IntKind.i64.wrap ((nn : Nat) : Int) = ((nn : Nat) : Int) := by rw [IntKind.wrap_i64]; omega
                have ez : IntKind.u64.wrap ((i : Int) + 1) = ((i + 1 : Nat) : Int) := by rw [IntKind.wrap_u64]; omega
                by_cases hn : 0 < n
                · have en : decide ((0 : Int) < (n : Int)) = true := decide_eq_true (by omega)
                  have enb : decide (0 < n) = true := decide_eq_true hn
                  have HN := Lib.hid (show readGo b false m h1 p2 [] = readGo b false (m - (i + 1)) (nn + 1) q2 (acc ++ [⟨((nn : Nat) : Int), (n : Int)⟩]) by rw [hgo, if_neg (by omega), if_pos (.inl hn)]; rw [show m - (i + 1) = m' by omega])
                  clear hgo hCr hq2
                  go_wp2_with (first | (go_at_call 61; (with_reducible refine HQ.out.mono ?_); rintro e w4 ⟨rfl, hb3⟩; have HB3 := Lib.hid hb3; have p0 := pw_cell_below hb3 pc0; clear hb3 HQ) | ((with_reducible refine gate_builtin (b := .append) (xs := #[.tmp 102, .tmp 107]) rfl ?_); at_builtin; go_must (refine Kd.R_append k67 (w0 := w3) (w.heap.size + 1) rfl (.tmp 102) (.tmp 107) 23 67 (.agg #[(.int .i64 0), (.int .u64 0)]) 16 rfl Try.underlying23 info67 rfl (by decide) (by omega) u12 acc (⟨(nn : Int), (n : Int)⟩ : S67) [.int .i64 ((nn : Int)), .int .u64 (n : Int)] (fun _ => True) (fun _ => False) rfl rfl ?aP (fun _ hk => hk.elim) ?aF ?aO ?aB ?aS ?aL ?_; (case aP => exact k67_mkM _ _ _ (⟨(nn : Int), (n : Int)⟩ : S67)); (case aF => exact (fun _ _ => trivial)); (case aO => exact (by (with_reducible repeat (first | apply Kd.R_alloc | apply Kd.R_drewN | apply Kd.R_drew)); exact Kd.R_below HR.out HB3.out)); (case aB => exact (by first | exact below_then HBW.out HSZ.out HB3.out | exact (below_then HBW.out HSZ.out HB3.out).alloc (Nat.le_trans HSZ.out HB3.out.size) _)); (case aS => exact (by first | exact Nat.le_trans HSZ.out HB3.out.size | exact Nat.le_trans HSZ.out (Nat.le_trans HB3.out.size (by simp)))); (case aL => have := HI.out; omega); intro v5 w5 ho5 hb5 hg5 hat5; have HO5 := Lib.hid ho5; have HB5 := Lib.hid hb5; clear ho5 hb5 hg5 hat5)))
                  go_roundw
                  case rel => exact ⟨i + 1, nn + 1, q2, acc ++ [⟨((nn : Nat) : Int), (n : Int)⟩], by first | rfl | go_num, rfl, by first | rfl | go_num, by have := HI.out; omega, by omega, by have := HI.out; simp; omega, HO5.out, HN.out, HB5.out⟩
                  case measure => have := HI.out; simp [intOf]; omega
                · obtain rfl : n = 0 := by omega
                  have HN := Lib.hid (show readGo b false m h1 p2 [] = readGo b false (m - (i + 1)) (nn + 1) q2 acc by rw [hgo, if_neg (by omega), if_neg (by simp)]; rw [show m - (i + 1) = m' by omega])
                  clear hgo hCr hq2
                  go_wp2_with (go_at_call 61; (with_reducible refine HQ.out.mono ?_); rintro e w4 ⟨rfl, hb3⟩; have HB3 := Lib.hid hb3; have p0 := pw_cell_below hb3 pc0; clear hb3 HQ)
                  go_roundw
                  case rel => exact ⟨i + 1, nn + 1, q2, acc, by first | rfl | go_num, rfl, by first | rfl | go_num, by have := HI.out; omega, by omega, by have := HI.out; omega, Kd.R_below HR.out HB3.out, HN.out, below_then HBW.out HSZ.out HB3.out⟩
                  case measure => have := HI.out; simp [intOf]; omega
            · have e5 : decide ((i : Int) < (m : Int)) = false := decide_eq_false (by omega)
              have e5b : decide (i < m) = false := decide_eq_false hin
              obtain rfl : i = m := by omega
              have HN := Lib.hid (show readH b a = some (acc, p') by rw [HE.out, HEQ.out, Nat.sub_self]; rfl)
              go_wp2
              go_ret3
              exact ⟨HB0.out.trans (HBW.out.mono (Nat.le_succ _)), (fun l r e => by rw [HN.out] at e; cases e; exact ⟨_, rfl, Kd.R_lower HR.out (Nat.le_succ _)⟩), fun e => by rw [HN.out] at e; cases e⟩
      · have HN := Lib.hid (show readH b a = none by rw [he, if_neg (by omega), if_pos (.inl c0)])
        have e0 : decide ((1 : Int) < (h0 : Int)) = true := decide_eq_true (by omega)
        have e0b : decide (1 < h0) = true := decide_eq_true c0
        have e1 : decide ((h0 : Int) = 1) = false := decide_eq_false (by omega)
        have e1b : decide (h0 = 1) = false := decide_eq_false (by omega)
        have pc0 := blk_cell HCS.out 0; have pc1 := blk_cell HCS.out 1
        clear he
        go_wp2
        go_ret3
        exact ReadPost.no HN.out HBW.out
end Go.Proofs.Ytofgcacahfdjdaa
namespace Go.Proofs.Ytofgcacahfdjdaa.Pure
set_option linter.unusedVariables false
set_option linter.unusedSimpArgs false
open Go.RowKit Go.Proofs.YtofgcacahfdjdaaW.PrintWords Go.Proofs.YtofgcacahfdjdaaW.PrintLast Go.Proofs.YtofgcacahfdjdaaW.PrintMore Go.Proofs.Ytofgcacahfdjdaa.Hi Go.Proofs.Ytofgcacahfdjdaa.Vt
theorem dropB {l m : List Int} {i : Nat} (h : i < l.length) (h' : i < m.length) : l.drop i = m.drop i ↔ l[i] = m[i] ∧ l.drop (i + 1) = m.drop (i + 1) := by
  rw [List.drop_eq_getElem_cons h, List.drop_eq_getElem_cons h', List.cons.injEq]
theorem eqBy_go (l m : List Int) (hl : l.length = m.length) (hL : l.length < 9223372036854775807) : ∀ (n i : Nat), l.length - i = n → i ≤ l.length →
    slices_Equal_byte_byte.l0 (n + 1) l m (l.length : Int) (i : Int) = some (decide (l.drop i = m.drop i)) := by
  intro n
  induction n with
  | zero =>
    intro i h1 h2
    rw [slices_Equal_byte_byte.l0, if_neg (by omega), List.drop_eq_nil_of_le (by omega), List.drop_eq_nil_of_le (by omega)]; rfl
  | succ n ih =>
    intro i h1 h2
    have hw : wrap64 ((i : Int) + 1) = ((i + 1 : Nat) : Int) := by unfold wrap64; omega
    have hi : i < l.length := by omega
    have hm : i < m.length := by omega
    rw [slices_Equal_byte_byte.l0, if_pos (by omega), if_pos (by omega), if_pos (by omega), if_pos (by omega), rd_get l hi, rd_get m hm, hw]
    by_cases c : l[i] = m[i]
    · rw [if_pos c, ih (i + 1) (by omega) (by omega)]
      congr 1
      exact decide_eq_decide.2 ⟨fun h => (dropB hi hm).2 ⟨c, h⟩, fun h => ((dropB hi hm).1 h).2⟩
    · rw [if_neg c, decide_eq_false (fun h => c ((dropB hi hm).1 h).1)]
theorem eqBy (l m : List Int) (hL : l.length < 9223372036854775807) : slices_Equal_byte_byte.f (l.length + 1) l m = some (decide (l = m)) := by
  unfold slices_Equal_byte_byte.f
  by_cases c : (l.length : Int) = (m.length : Int)
  · rw [if_pos c]
    exact eqBy_go l m (by omega) hL l.length 0 (by omega) (by omega)
  · rw [if_neg c, decide_eq_false (fun h => c (by rw [h]))]
end Go.Proofs.Ytofgcacahfdjdaa.Pure
namespace Go.Proofs.Ytofgcacahfdjdaa.Hb
open Go.RowKit Go.Proofs.YtofgcacahfdjdaaW.PrintWords Go.Proofs.YtofgcacahfdjdaaW.PrintLast Go.Proofs.YtofgcacahfdjdaaW.PrintMore Go.Proofs.Ytofgcacahfdjdaa.Hi Go.Proofs.Ytofgcacahfdjdaa.Q Go.Proofs.Ytofgcacahfdjdaa.Vt
attribute [local go_sem] max2_int min2_int max_two min_two max_three min_three max_four min_four   -- for this text's walks alone
set_option linter.unusedVariables false
set_option linter.unusedSimpArgs false
def errW : Option Int → Value
  | none => .nilIface
  | some c => .iface 0 (.int .i64 c)
theorem errW_none : errW none = .nilIface := rfl
theorem errW_some (c : Int) : errW (some c) = .iface 0 (.int .i64 c) := rfl
theorem info5 : (Try.prog.info? 5).map (fun i => (i.zero, i.size, i.bytes)) = some (some (.int .u8 0), 1, 1) := by kernel_rfl
end Go.Proofs.Ytofgcacahfdjdaa.Hb
