/- What the laws of this folder share, part 2: walks of functions over their Go text, and plain lemmas. Conditions: as each lemma says. -/
import Derived.Test.YtplgffbfepnihaaPzM1
set_option linter.unusedVariables false
set_option linter.unusedSimpArgs false
namespace Go.Proofs.Ytplgffbfepnihaa.Vt
open Go.RowKit Go.Proofs.YtplgffbfepnihaaW.PrintWords Go.Proofs.YtplgffbfepnihaaW.PrintLast Go.Proofs.YtplgffbfepnihaaW.PrintMore Go.Proofs.Ytplgffbfepnihaa.Hi Go.Proofs.Ytplgffbfepnihaa.Q
mutual
def vint_Get.l0 : Nat → List Int → Int → Int → Int → Option (Int × Int × Bool)
 | 0, _, _, _, _ => none
 | k + 1, x0, x1, x7, x8 => if x8 < 10 then (vint_Get.j1 k x0 x1 x7 x8 (decide (x1 < (x0.length : Int)))) else (vint_Get.j1 k x0 x1 x7 x8 false)
def vint_Get.j1 : Nat → List Int → Int → Int → Int → Bool → Option (Int × Int × Bool)
 | 0, _, _, _, _, _ => none
 | k + 1, x0, x1, x7, x8, x19 => if x19 = true then (if 0 ≤ x1 then (if x1 < (x0.length : Int) then (if x8 = 9 then (vint_Get.j2 k x0 (wrap64 (x1 + 1)) x7 x8 (rd x0 x1) (decide ((rd x0 x1) > 1))) else (vint_Get.j2 k x0 (wrap64 (x1 + 1)) x7 x8 (rd x0 x1) false)) else (none)) else (none)) else (some (0, 0, false))
def vint_Get.j2 : Nat → List Int → Int → Int → Int → Int → Bool → Option (Int × Int × Bool)
 | 0, _, _, _, _, _, _ => none
 | k + 1, x0, x1, x7, x8, x9, x33 => if x33 = true then (some (0, 0, false)) else (if 0 ≤ (wrap64 (7 * x8)) then (if x9 < 128 then (if x8 > 0 then (if x9 = 0 then (some (0, 0, false)) else (some (Go.bits .or .u64 x7 (shl .u64 (IntKind.u64.wrap (Go.bits .and .u8 x9 127)) (wrap64 (7 * x8))), x1, true))) else (some (Go.bits .or .u64 x7 (shl .u64 (IntKind.u64.wrap (Go.bits .and .u8 x9 127)) (wrap64 (7 * x8))), x1, true))) else (vint_Get.l0 k x0 x1 (Go.bits .or .u64 x7 (shl .u64 (IntKind.u64.wrap (Go.bits .and .u8 x9 127)) (wrap64 (7 * x8)))) (wrap64 (x8 + 1)))) else (none))
end
def vint_Get.f (k : Nat) (l0 : List Int) (a1 : Int) : Option (Int × Int × Bool) := if a1 < 0 then (some (0, 0, false)) else (vint_Get.l0 k l0 a1 0 0)
set_option maxHeartbeats 8000000 in
set_option maxRecDepth 100000 in
theorem vint_Get.calls (k : Nat) (A0 : Option Addr) (c0 : Nat) (l0 : List Int) (a1 : Int) (r1 : Int) (r2 : Int) (r3 : Bool) (w : World) (hr0 : Kd.C (Kd.int .u8) w A0 l0.length l0) (hc0 : l0.length ≤ c0) (h : vint_Get.f k l0 a1 = some (r1, r2, r3)) :
  Calls Try.prog 72 #[.slice A0 l0.length c0, .int .i64 a1] w fun e w' => e = .returned (.tuple #[.int .u64 r1, .int .i64 r2, .bool r3]) ∧ Drawn0 w w' := by
 have HR0 := mkA hr0; have HC0 := mkA hc0; clear hr0 hc0; have H : (if a1 < 0 then (some (0, 0, false)) else (vint_Get.l0 k l0 a1 0 0)) = some (r1, r2, r3) := h; clear h; by_cases c3 : a1 < 0
 ·rw [if_pos c3] at H
  have c3b0 : decide (a1 < 0) = true := decide_eq_true c3; clear c3; simp only [Option.some.injEq, Prod.mk.injEq] at H; obtain ⟨rfl, rfl, rfl⟩ := H; go_enter Try.func72, Try.ntmps72; go_wp2; go_ret3
  exact zk242
 ·rw [if_neg c3] at H
  have c3b0 : decide (a1 < 0) = false := decide_eq_false c3; clear c3; have H' := mkA H; clear H; go_enter Try.func72, Try.ntmps72; go_wp2; go_loopg [1, 7, 8] k (fun kq v1 v7 v8 w' => ∃ (x1_1 : Int) (x7_1 : Int) (x8_1 : Int), v1 = .int .i64 x1_1 ∧ v7 = .int .u64 x7_1 ∧ v8 = .int .i64 x8_1 ∧ Aside0 (vint_Get.l0 kq l0 x1_1 x7_1 x8_1 = some (r1, r2, r3)) ∧ Aside0 (kq ≤ k) ∧ Drawn0 w w')
  case atStart => exact ⟨(a1), (0), (0), zk14, zk14, zk14, H', ⟨Nat.le_refl _⟩, zk21⟩
  case round =>
   clear H'; (try clear p2); (try clear c3); (try clear c3b0); obtain ⟨x1_1, x7_1, x8_1, rfl, rfl, rfl, HA, HK1, ⟨m1, rfl⟩⟩ := hrel
   cases gk with
   | zero => exact absurd HA.out (by simp [vint_Get.l0])
   | succ k1 =>
    have H := HA.out; clear HA; simp only [vint_Get.l0] at H; have HC4 := mkA H; clear H; go_upto_region 5 with (fail)
    go_cut [19] (fun v19 wc => ∃ (kq : Nat) (x19_3 : Bool), v19 = .bool x19_3 ∧ Aside0 (vint_Get.j1 kq l0 x1_1 x7_1 x8_1 x19_3 = some (r1, r2, r3)) ∧ Aside0 (kq ≤ k1) ∧ Drawn0 w wc)
    case first =>
     have H := HC4.out; clear HC4; by_cases c5 : x8_1 < 10
     ·rw [if_pos c5] at H
      have c5b0 : decide (x8_1 < 10) = true := decide_eq_true c5; clear c5; (first | rw [c5b0] | (simp only [i64_w, i32_w]; rw [c5b0]) | skip); have H' := mkA H; clear H; go_wp2; go_meet
      case rel => exact ⟨_, (decide (x1_1 < (l0.length : Int))), zk14, H', ⟨zk126⟩, zk21⟩
     ·rw [if_neg c5] at H
      have c5b0 : decide (x8_1 < 10) = false := decide_eq_false c5; clear c5; (first | rw [c5b0] | (simp only [i64_w, i32_w]; rw [c5b0]) | skip); have H' := mkA H; clear H; go_wp2; go_meet
      case rel => exact ⟨_, (false), zk14, H', ⟨zk126⟩, zk21⟩
    case rest =>
     clear HC4; (try clear p2); (try clear c3); (try clear c3b0); (try clear c5); (try clear c5b0); (try clear p2); obtain ⟨kq, x19_3, rfl, HA, HJ3, ⟨mc3, rfl⟩⟩ := hcut
     cases kq with
     | zero => exact absurd HA.out (by simp [vint_Get.j1])
     | succ kj3 =>
      have H := HA.out; clear HA; simp only [vint_Get.j1] at H; by_cases c6 : x19_3 = true
      ·subst c6
       have H1 : (if 0 ≤ x1_1 then (if x1_1 < (l0.length : Int) then (if x8_1 = 9 then (vint_Get.j2 kj3 l0 (wrap64 (x1_1 + 1)) x7_1 x8_1 (rd l0 x1_1) (decide ((rd l0 x1_1) > 1))) else (vint_Get.j2 kj3 l0 (wrap64 (x1_1 + 1)) x7_1 x8_1 (rd l0 x1_1) false)) else (none)) else (none)) = some (r1, r2, r3) := zk76
       clear H; have H := H1; clear H1; by_cases c7 : 0 ≤ x1_1
       ·rw [if_pos c7] at H
        have c7b0 : decide (0 ≤ x1_1) = true := decide_eq_true c7; clear c7; by_cases c8 : x1_1 < (l0.length : Int)
        ·rw [if_pos c8] at H
         have c8b0 : decide (x1_1 < (l0.length : Int)) = true := decide_eq_true c8; clear c8; have HC9 := mkA H; clear H; have p101 : 0 ≤ (x1_1 : Int) := of_decide_eq_true zk8; have q101 : x1_1 < (l0.length : Int) := of_decide_eq_true zk8; obtain ⟨ad101, e101, hx101_0⟩ := Kd.at_int HR0.out x1_1 p101 q101; cases e101; replace p101 := eq_true p101; replace q101 := eq_true q101; go_upto_region 9 with (fail)
         go_cut [33] (fun v33 wc => ∃ (kq : Nat) (x33_8 : Bool), v33 = .bool x33_8 ∧ Aside0 (vint_Get.j2 kq l0 (wrap64 (x1_1 + 1)) x7_1 x8_1 (rd l0 x1_1) x33_8 = some (r1, r2, r3)) ∧ Aside0 (kq ≤ kj3) ∧ Drawn0 w wc)
         case first =>
          have H := HC9.out; clear HC9; by_cases c10 : x8_1 = 9
          ·rw [if_pos c10] at H
           have c10b0 : (x8_1 == 9) = true := beq_iff_eq.mpr c10; have c10b1 : (x8_1 != 9) = false := bne_eq_false_iff_eq.mpr c10; clear c10; (first | rw [c10b0] | (simp only [i64_w, i32_w]; rw [c10b0]) | skip); have H' := mkA H; clear H; go_wp2; go_meet
           case rel => exact ⟨_, (decide ((rd l0 x1_1) > 1)), zk14, H', ⟨by have := HK1.out; have := HJ3.out; first | omega | exact Nat.le_refl _⟩, zk21⟩
          ·rw [if_neg c10] at H
           have c10b0 : (x8_1 == 9) = false := beq_eq_false_iff_ne.mpr c10; have c10b1 : (x8_1 != 9) = true := bne_iff_ne.mpr c10; (first | rw [c10b0] | (simp only [i64_w, i32_w]; rw [c10b0]) | skip); have H' := mkA H; clear H; go_wp2; go_meet
           case rel => exact ⟨_, (false), zk14, H', ⟨by have := HK1.out; have := HJ3.out; first | omega | exact Nat.le_refl _⟩, zk21⟩
         case rest =>
          clear HC9; (try clear c1); (try clear p1); (try clear q1); (try clear hx1); (try clear p2); (try clear c3); (try clear c3b0); (try clear c5); (try clear c5b0); (try clear c6); (try clear p6); (try clear c7); (try clear c7b0); (try clear c8); (try clear c8b0); (try clear c10); (try clear c10b0); (try clear c10b1); (try clear p10); (try clear q10); (try clear hx10); (try clear hx101_0); (try clear p101); (try clear p2); (try clear q101); obtain ⟨kq, x33_8, rfl, HA, HJ8, ⟨mc8, rfl⟩⟩ := hcut
          cases kq with
          | zero => exact absurd HA.out (by simp [vint_Get.j2])
          | succ kj8 =>
           have H := HA.out; clear HA; simp only [vint_Get.j2] at H; by_cases c11 : x33_8 = true
           ·subst c11
            have H1 : (some (0, 0, false)) = some (r1, r2, r3) := zk76
            clear H; have H := H1; clear H1; simp only [Option.some.injEq, Prod.mk.injEq] at H; obtain ⟨rfl, rfl, rfl⟩ := H; go_wp2; go_ret3
            exact zk242
           ·replace c11 := Bool.eq_false_iff.mpr c11
            subst c11; have H1 : (if 0 ≤ (wrap64 (7 * x8_1)) then (if (rd l0 x1_1) < 128 then (if x8_1 > 0 then (if (rd l0 x1_1) = 0 then (some (0, 0, false)) else (some (Go.bits .or .u64 x7_1 (shl .u64 (IntKind.u64.wrap (Go.bits .and .u8 (rd l0 x1_1) 127)) (wrap64 (7 * x8_1))), (wrap64 (x1_1 + 1)), true))) else (some (Go.bits .or .u64 x7_1 (shl .u64 (IntKind.u64.wrap (Go.bits .and .u8 (rd l0 x1_1) 127)) (wrap64 (7 * x8_1))), (wrap64 (x1_1 + 1)), true))) else (vint_Get.l0 kj8 l0 (wrap64 (x1_1 + 1)) (Go.bits .or .u64 x7_1 (shl .u64 (IntKind.u64.wrap (Go.bits .and .u8 (rd l0 x1_1) 127)) (wrap64 (7 * x8_1)))) (wrap64 (x8_1 + 1)))) else (none)) = some (r1, r2, r3) := zk41
            clear H; have H := H1; clear H1; obtain ⟨ji12, hji12⟩ : ∃ j_ : Int, (wrap64 (7 * x8_1)) = j_ := ⟨_, rfl⟩
            replace H : (if 0 ≤ (ji12) then (if (rd l0 x1_1) < 128 then (if x8_1 > 0 then (if (rd l0 x1_1) = 0 then (some (0, 0, false)) else (some (Go.bits .or .u64 x7_1 (shl .u64 (IntKind.u64.wrap (Go.bits .and .u8 (rd l0 x1_1) 127)) (ji12)), (wrap64 (x1_1 + 1)), true))) else (some (Go.bits .or .u64 x7_1 (shl .u64 (IntKind.u64.wrap (Go.bits .and .u8 (rd l0 x1_1) 127)) (ji12)), (wrap64 (x1_1 + 1)), true))) else (vint_Get.l0 kj8 l0 (wrap64 (x1_1 + 1)) (Go.bits .or .u64 x7_1 (shl .u64 (IntKind.u64.wrap (Go.bits .and .u8 (rd l0 x1_1) 127)) (ji12))) (wrap64 (x8_1 + 1)))) else (none)) = some (r1, r2, r3) := zk163
            have hji12w : (IntKind.i64.wrap (7 * x8_1)) = ji12 := (i64_w _).trans hji12; by_cases c13 : 0 ≤ (ji12)
            ·rw [if_pos c13] at H
             have c13b0 := eq_true c13; have c13b1 : decide (0 ≤ (ji12)) = true := decide_eq_true c13; clear c13; obtain ⟨ji14, hji14⟩ : ∃ j_ : Int, (shl .u64 (IntKind.u64.wrap (Go.bits .and .u8 (rd l0 x1_1) 127)) (ji12)) = j_ := ⟨_, rfl⟩
             replace H : (if (rd l0 x1_1) < 128 then (if x8_1 > 0 then (if (rd l0 x1_1) = 0 then (some (0, 0, false)) else (some (Go.bits .or .u64 x7_1 (ji14), (wrap64 (x1_1 + 1)), true))) else (some (Go.bits .or .u64 x7_1 (ji14), (wrap64 (x1_1 + 1)), true))) else (vint_Get.l0 kj8 l0 (wrap64 (x1_1 + 1)) (Go.bits .or .u64 x7_1 (ji14)) (wrap64 (x8_1 + 1)))) = some (r1, r2, r3) := zk148
             have hji14_ : (IntKind.u64.wrap ((IntKind.u64.wrap (Go.bits .and .u8 (rd l0 x1_1) 127)) * 2 ^ min (ji12).toNat 64)) = ji14 := hji14; have hji14z : (ji12) ≤ 64 → (IntKind.u64.wrap ((IntKind.u64.wrap (Go.bits .and .u8 (rd l0 x1_1) 127)) * 2 ^ (ji12).toNat)) = ji14 := shl_small hji14; by_cases c15 : (rd l0 x1_1) < 128
             ·rw [if_pos c15] at H
              have c15b0 : decide ((rd l0 x1_1) < 128) = true := decide_eq_true c15; clear c15; by_cases c16 : x8_1 > 0
              ·rw [if_pos c16] at H
               have c16b0 : decide (0 < x8_1) = true := decide_eq_true c16; clear c16; by_cases c17 : (rd l0 x1_1) = 0
               ·rw [if_pos c17] at H
                have c17b0 : ((rd l0 x1_1) == 0) = true := beq_iff_eq.mpr c17; have c17b1 : ((rd l0 x1_1) != 0) = false := bne_eq_false_iff_eq.mpr c17; clear c17; simp only [Option.some.injEq, Prod.mk.injEq] at H; obtain ⟨rfl, rfl, rfl⟩ := H; go_wp2; go_ret3
                exact ⟨zk142, zk21⟩
               ·rw [if_neg c17] at H
                have c17b0 : ((rd l0 x1_1) == 0) = false := beq_eq_false_iff_ne.mpr c17; have c17b1 : ((rd l0 x1_1) != 0) = true := bne_iff_ne.mpr c17; simp only [Option.some.injEq, Prod.mk.injEq] at H; obtain ⟨rfl, rfl, rfl⟩ := H; go_wp2; go_ret3
                exact ⟨zk142, zk21⟩
              ·rw [if_neg c16] at H
               have c16b0 : decide (0 < x8_1) = false := decide_eq_false c16; clear c16; simp only [Option.some.injEq, Prod.mk.injEq] at H; obtain ⟨rfl, rfl, rfl⟩ := H; go_wp2; go_ret3
               exact ⟨zk142, zk21⟩
             ·rw [if_neg c15] at H
              have c15b0 : decide ((rd l0 x1_1) < 128) = false := decide_eq_false c15; clear c15; have H' := mkA H; clear H; go_wp2; go_roundg kj8
              case measure => have := HK1.out; have := HJ3.out; have := HJ8.out; omega
              case rel => exact ⟨((wrap64 (x1_1 + 1))), (Go.bits .or .u64 x7_1 (ji14)), (wrap64 (x8_1 + 1)), zk14, zk175, zk14, H', ⟨by have := HK1.out; have := HJ3.out; have := HJ8.out; omega⟩, zk21⟩
            ·exact zk229
        ·exact zk239
       ·rw [if_neg c7] at H; exact absurd H zk56
      ·replace c6 := Bool.eq_false_iff.mpr c6
       subst c6; have H1 : (some (0, 0, false)) = some (r1, r2, r3) := zk41
       clear H; have H := H1; clear H1; simp only [Option.some.injEq, Prod.mk.injEq] at H; obtain ⟨rfl, rfl, rfl⟩ := H; go_wp2; go_ret3
       exact zk242
def slices_Equal_byte_byte.l0 : Nat → List Int → List Int → Int → Int → Option (Bool)
 | 0, _, _, _, _ => none
 | k + 1, x0, x1, x12, x13 => if x13 < x12 then (if 0 ≤ x13 then (if x13 < (x0.length : Int) then (if x13 < (x1.length : Int) then (if (rd x0 x13) = (rd x1 x13) then (slices_Equal_byte_byte.l0 k x0 x1 x12 (wrap64 (x13 + 1))) else (some false)) else (none)) else (none)) else (none)) else (some true)
def slices_Equal_byte_byte.f (k : Nat) (l0 : List Int) (l1 : List Int) : Option (Bool) := if (l0.length : Int) = (l1.length : Int) then (slices_Equal_byte_byte.l0 k l0 l1 (l0.length : Int) 0) else (some false)
set_option maxHeartbeats 8000000 in
set_option maxRecDepth 100000 in
theorem slices_Equal_byte_byte.calls (k : Nat) (A0 : Option Addr) (c0 : Nat) (l0 : List Int) (A1 : Option Addr) (c1 : Nat) (l1 : List Int) (r : Bool) (w : World) (hr0 : Kd.C (Kd.int .u8) w A0 l0.length l0) (hc0 : l0.length ≤ c0) (hr1 : Kd.C (Kd.int .u8) w A1 l1.length l1) (hc1 : l1.length ≤ c1) (h : slices_Equal_byte_byte.f k l0 l1 = some r) :
  Calls Try.prog 40 #[.slice A0 l0.length c0, .slice A1 l1.length c1] w fun e w' => e = .returned (.bool r) ∧ Drawn0 w w' := by
 have HR0 := mkA hr0; have HC0 := mkA hc0; clear hr0 hc0; have HR1 := mkA hr1; have HC1 := mkA hc1; clear hr1 hc1; have H : (if (l0.length : Int) = (l1.length : Int) then (slices_Equal_byte_byte.l0 k l0 l1 (l0.length : Int) 0) else (some false)) = some r := h; clear h; by_cases c3 : (l0.length : Int) = (l1.length : Int)
 ·rw [if_pos c3] at H
  have c3b0 : ((l0.length : Int) == (l1.length : Int)) = true := beq_iff_eq.mpr c3; have c3b1 : ((l0.length : Int) != (l1.length : Int)) = false := bne_eq_false_iff_eq.mpr c3; have c3b2 : (l0.length == l1.length) = true := by first | simpa using c3 | (simp at c3 ⊢; omega)
  clear c3; have H' := mkA H; clear H; go_enter Try.func40, Try.ntmps40; go_wp2; (repeat (go_quiet (fail); try go_wp2)); go_loopg [13] k (fun kq v13 w' => ∃ (x13_1 : Int), v13 = .int .i64 x13_1 ∧ Aside0 (slices_Equal_byte_byte.l0 kq l0 l1 (l0.length : Int) x13_1 = some r) ∧ Aside0 (kq ≤ k) ∧ Drawn0 w w')
  case atStart => exact ⟨(0), zk14, H', ⟨Nat.le_refl _⟩, zk21⟩
  case round =>
   clear H'; (try clear c1); (try clear p2); (try clear c3); (try clear c3b0); (try clear c3b1); (try clear c3b2); obtain ⟨x13_1, rfl, HA, HK1, ⟨m1, rfl⟩⟩ := hrel
   cases gk with
   | zero => exact absurd HA.out (by simp [slices_Equal_byte_byte.l0])
   | succ k1 =>
    have H := HA.out; clear HA; simp only [slices_Equal_byte_byte.l0] at H; by_cases c4 : x13_1 < (l0.length : Int)
    ·rw [if_pos c4] at H
     have c4b0 : decide (x13_1 < (l0.length : Int)) = true := decide_eq_true c4; clear c4; by_cases c5 : 0 ≤ x13_1
     ·rw [if_pos c5] at H
      have c5b0 : decide (0 ≤ x13_1) = true := decide_eq_true c5; clear c5; by_cases c6 : x13_1 < (l0.length : Int)
      ·rw [if_pos c6] at H
       have c6b0 : decide (x13_1 < (l0.length : Int)) = true := decide_eq_true c6; clear c6; by_cases c7 : x13_1 < (l1.length : Int)
       ·rw [if_pos c7] at H
        have c7b0 : decide (x13_1 < (l1.length : Int)) = true := decide_eq_true c7; clear c7; by_cases c8 : (rd l0 x13_1) = (rd l1 x13_1)
        ·rw [if_pos c8] at H
         have c8b0 : ((rd l0 x13_1) == (rd l1 x13_1)) = true := beq_iff_eq.mpr c8; have c8b1 : ((rd l0 x13_1) != (rd l1 x13_1)) = false := bne_eq_false_iff_eq.mpr c8; clear c8; have H' := mkA H; clear H; have p102 : 0 ≤ (x13_1 : Int) := of_decide_eq_true zk8; have q102 : x13_1 < (l0.length : Int) := of_decide_eq_true zk8; obtain ⟨ad102, e102, hx102_0⟩ := Kd.at_int HR0.out x13_1 p102 q102; cases e102; replace p102 := eq_true p102; replace q102 := eq_true q102; have p103 : 0 ≤ (x13_1 : Int) := of_decide_eq_true zk8; have q103 : x13_1 < (l1.length : Int) := of_decide_eq_true zk8; obtain ⟨ad103, e103, hx103_0⟩ := Kd.at_int HR1.out x13_1 p103 q103; cases e103; replace p103 := eq_true p103; replace q103 := eq_true q103; go_wp2; (repeat (go_quiet (fail); try go_wp2)); go_roundg k1
         case measure => have := HK1.out; omega
         case rel => exact ⟨(wrap64 (x13_1 + 1)), zk14, H', ⟨zk150⟩, zk21⟩
        ·rw [if_neg c8] at H
         have c8b0 : ((rd l0 x13_1) == (rd l1 x13_1)) = false := beq_eq_false_iff_ne.mpr c8; have c8b1 : ((rd l0 x13_1) != (rd l1 x13_1)) = true := bne_iff_ne.mpr c8; obtain rfl := Option.some.inj H; have p102 : 0 ≤ (x13_1 : Int) := of_decide_eq_true zk8; have q102 : x13_1 < (l0.length : Int) := of_decide_eq_true zk8; obtain ⟨ad102, e102, hx102_0⟩ := Kd.at_int HR0.out x13_1 p102 q102; cases e102; replace p102 := eq_true p102; replace q102 := eq_true q102; have p103 : 0 ≤ (x13_1 : Int) := of_decide_eq_true zk8; have q103 : x13_1 < (l1.length : Int) := of_decide_eq_true zk8; obtain ⟨ad103, e103, hx103_0⟩ := Kd.at_int HR1.out x13_1 p103 q103; cases e103; replace p103 := eq_true p103; replace q103 := eq_true q103; go_wp2; (repeat (go_quiet (fail); try go_wp2)); go_ret
         exact zk242
       ·rw [if_neg c7] at H; exact absurd H zk56
      ·exact zk227
     ·exact zk235
    ·rw [if_neg c4] at H
     have c4b0 : decide (x13_1 < (l0.length : Int)) = false := decide_eq_false c4; clear c4; obtain rfl := Option.some.inj H; go_wp2; (repeat (go_quiet (fail); try go_wp2)); go_ret
     exact zk242
 ·rw [if_neg c3] at H
  have c3b0 : ((l0.length : Int) == (l1.length : Int)) = false := beq_eq_false_iff_ne.mpr c3; have c3b1 : ((l0.length : Int) != (l1.length : Int)) = true := bne_iff_ne.mpr c3; have c3b2 : (l0.length == l1.length) = false := by first | simpa using c3 | (simp at c3 ⊢; omega)
  obtain rfl := Option.some.inj H; go_enter Try.func40, Try.ntmps40; go_wp2; (repeat (go_quiet (fail); try go_wp2)); go_ret
  exact zk242
def slices_Equal_byte_byte.Pure : Prop := ∀ (l0 : List Int) (l1 : List Int), l0.length ≤ maxLen → l0.length * 1 ≤ 140737488351232 → (∀ x ∈ l0, (Lit.int .u8 x).wf = true) → l1.length ≤ maxLen → l1.length * 1 ≤ 140737488351232 → (∀ x ∈ l1, (Lit.int .u8 x).wf = true) → ∃ k, slices_Equal_byte_byte.f k l0 l1 = some true
def varvelaw00_Bytes.f (l0 : List Int) : Option (List Int) := if ([] : List Int).length + l0.length < 140737488355328 then (some (([] : List Int) ++ l0)) else (none)
set_option maxHeartbeats 8000000 in
set_option maxRecDepth 100000 in
theorem varvelaw00_Bytes.calls (A0 : Option Addr) (c0 : Nat) (l0 : List Int) (r : List Int) (w : World) (hr0 : Kd.C (Kd.int .u8) w A0 l0.length l0) (hc0 : l0.length ≤ c0) (h : varvelaw00_Bytes.f l0 = some r) :
  Calls Try.prog 10 #[.slice A0 l0.length c0] w fun e w' => ∃ v0_ : Value, e = .returned (v0_) ∧ Kd.R (Kd.int .u8) 5 w' w.heap.size (fun _ => True) v0_ r ∧ Below w.heap.size w w' := by
 have HR0 := mkA hr0; have HC0 := mkA hc0; clear hr0 hc0; have HB := mkA (Below.refl w.heap.size w); have H : (if ([] : List Int).length + l0.length < 140737488355328 then (some (([] : List Int) ++ l0)) else (none)) = some r := h; clear h; by_cases c2 : ([] : List Int).length + l0.length < 140737488355328
 ·rw [if_pos c2] at H
  have LMc2 := mkA c2; clear c2; obtain ⟨y104, hy104⟩ : ∃ y_ : List Int, y_ = (([] : List Int) ++ l0) := ⟨_, rfl⟩
  replace H : (some y104) = some r := by first | (rw [hy104]; with_reducible exact H) | (have H2_ := (Option.bind_some _ _).symm.trans H; rw [hy104]; with_reducible exact H2_) | (have H2_ := (Option.bind_some _ _).symm.trans H; with_reducible exact H2_) | with_reducible exact H | (rw [hy104]; exact H) | exact H
  have Ny104 := mkA hy104; clear hy104; obtain rfl := Option.some.inj H; go_enter Try.func10, Try.ntmps10; (go_wp2_with (first | ((with_reducible refine gate_builtin (b := .append) (xs := #[.const (.slice none 0 0), .tmp 3]) rfl ?_); at_builtin; refine Kd.R_append_rows (Kd.int .u8) (w0 := w) w.heap.size rfl (.const (.slice none 0 0)) (.tmp 3) 22 5 (.int .u8 0) 1 rfl Try.underlying22 info5 rfl zk47 zk6 (.slice none 0 0) ([] : List Int) l0 _ _ _ (fun _ => True) (fun _ => False) rfl rfl ?aO ?aR (fun _ _ h => h) (fun _ h => h.elim) ?aF ?aB ?aS ?aL ?_; (case aR => exact zk46); (case aB => exact zk27); (case aF => exact zk125); (case aO => exact zk189); (case aS => exact zk25); (case aL => have := LMc2.out; omega); intro v105 w3 ho hb hg hat; rw [← Ny104.out] at ho; have n0_ := mkA (hb); have n1_ := mkA (ho); clear HB; have HB := n0_; have HO106 := n1_; clear n0_ n1_; clear ho hb hg hat))); go_ret
  exact ⟨_, zk7, by (with_reducible repeat (first | apply Kd.R_alloc | apply Kd.R_drewN | apply Kd.R_drew)); exact HO106.out, zk1⟩
 ·exact zk238
def varveref04_Put.f (a0 : Int) : Option (List Int) := if 0 ≤ a0 ∧ a0 < 18446744073709551616 then some (encN a0.toNat) else none
theorem varveref04_Put.calls (a0 : Int) (r : List Int) (w : World) (h : varveref04_Put.f a0 = some r) :
  Calls Try.prog 65 #[.int .u64 a0] w fun e w' => ∃ v0_ : Value, e = .returned (v0_) ∧ Kd.R (Kd.int .u8) 5 w' w.heap.size (fun _ => True) v0_ r ∧ Below w.heap.size w w' := by
 unfold varveref04_Put.f at h; split at h
 case isTrue hr => obtain rfl := Option.some.inj h; obtain ⟨n, rfl⟩ := Int.eq_ofNat_of_zero_le hr.1; rw [Int.toNat_natCast]; exact rput_any n zk6 w
 case isFalse => cases h
def varveref07_sparse.l0 : Nat → List (S70) → List Int → Int → Option (List Int)
 | 0, _, _, _ => none
 | k + 1, x0, x3, x4 => if x4 < (x0.length : Int) then (if 0 ≤ x4 then (if x4 > 0 then (if 0 ≤ (wrap64 (x4 - 1)) then (if (wrap64 (x4 - 1)) < (x0.length : Int) then ((varveref04_Put.f (IntKind.u64.wrap (wrap64 ((wrap64 (((rd_T70 x0 x4).f0) - ((rd_T70 x0 (wrap64 (x4 - 1))).f0))) - 1)))).bind fun t121 => (if x3.length + t121.length < 140737488355328 then ((some (x3 ++ t121 : List Int)).bind fun y124 => ((varveref04_Put.f ((rd_T70 x0 x4).f1)).bind fun t128 => (if y124.length + t128.length < 140737488355328 then (varveref07_sparse.l0 k x0 (y124 ++ t128) (wrap64 (x4 + 1))) else (none)))) else (none))) else (none)) else (none)) else ((varveref04_Put.f (IntKind.u64.wrap ((rd_T70 x0 x4).f0))).bind fun t134 => (if x3.length + t134.length < 140737488355328 then ((some (x3 ++ t134 : List Int)).bind fun y137 => ((varveref04_Put.f ((rd_T70 x0 x4).f1)).bind fun t141 => (if y137.length + t141.length < 140737488355328 then (varveref07_sparse.l0 k x0 (y137 ++ t141) (wrap64 (x4 + 1))) else (none)))) else (none)))) else (none)) else (some x3)
def varveref07_sparse.f (k : Nat) (l0 : List (S70)) : Option (List Int) := (some (([0] : List Int) : List Int)).bind fun y110 => ((varveref04_Put.f (IntKind.u64.wrap ((l0.length : Int)))).bind fun t113 => (if y110.length + t113.length < 140737488355328 then (varveref07_sparse.l0 k l0 (y110 ++ t113) 0) else (none)))
set_option maxHeartbeats 8000000 in
set_option maxRecDepth 100000 in
theorem varveref07_sparse.calls (k : Nat) (A0 : Option Addr) (c0 : Nat) (l0 : List (S70)) (r : List Int) (w : World) (hr0 : Kd.C k70 w A0 l0.length l0) (hc0 : l0.length ≤ c0) (h : varveref07_sparse.f k l0 = some r) :
  Calls Try.prog 50 #[.slice A0 l0.length c0] w fun e w' => ∃ v0_ : Value, e = .returned (v0_) ∧ Kd.R (Kd.int .u8) 5 w' w.heap.size (fun _ => True) v0_ r ∧ Below w.heap.size w w' := by
 have HR0 := mkA hr0; have HC0 := mkA hc0; clear hr0 hc0; have HB := mkA (Below.refl w.heap.size w); have H : ((some (([0] : List Int) : List Int)).bind fun y110 => ((varveref04_Put.f (IntKind.u64.wrap ((l0.length : Int)))).bind fun t113 => (if y110.length + t113.length < 140737488355328 then (varveref07_sparse.l0 k l0 (y110 ++ t113) 0) else (none)))) = some r := h; clear h; obtain ⟨y110, hy110⟩ : ∃ y_ : List Int, y_ = (([0] : List Int)) := ⟨_, rfl⟩
 replace H : ((varveref04_Put.f (IntKind.u64.wrap ((l0.length : Int)))).bind fun t113 => (if y110.length + t113.length < 140737488355328 then (varveref07_sparse.l0 k l0 (y110 ++ t113) 0) else (none))) = some r := zk92
 have Ny110 := mkA hy110; clear hy110; replace H := Option.bind_eq_some_iff.mp H; obtain ⟨t113, A20, H⟩ := H; replace H : (if y110.length + t113.length < 140737488355328 then (varveref07_sparse.l0 k l0 (y110 ++ t113) 0) else (none)) = some r := H; have A2 := mkA A20; clear A20; by_cases c3 : y110.length + t113.length < 140737488355328
 ·rw [if_pos c3] at H
  have LMc3 := mkA c3; clear c3; obtain ⟨y116, hy116⟩ : ∃ y_ : List Int, y_ = (y110 ++ t113) := ⟨_, rfl⟩
  replace H : (varveref07_sparse.l0 k l0 y116 0) = some r := by first | (rw [hy116]; with_reducible exact H) | (have H2_ := (Option.bind_some _ _).symm.trans H; rw [hy116]; with_reducible exact H2_) | (have H2_ := (Option.bind_some _ _).symm.trans H; with_reducible exact H2_) | with_reducible exact H | (rw [hy116]; exact H) | exact H
  have Ny116 := mkA hy116; clear hy116; have H' := mkA H; clear H; go_enter Try.func50, Try.ntmps50; (go_wp2_with (first | ((with_reducible refine gate_dst (N := 6) rfl ?_); refine Kd.R_lit (Kd.int .u8) _ 5 ?hg (N := 6) ?hd (xs := ([0] : List Int)) (inner := [.int .u8 0]) (ok := fun _ => True) (okp := fun _ => True) ?hr ?hp (fun _ hk => hk) trivial (Below.refl _ _) (Nat.le_refl _) zk56 ?_; (case hd => exact zk50); (case hg => exact zk50); (case hr => exact zk26); (case hp => exact (Reps.one (show Kd.M (Kd.int .u8) _ _ _ 0 [.int .u8 0] from rfl) (Reps.none _ _))); intro v111 w4 ho5 hb hg_ hnew_; clear hg_ hnew_; (first | rw [← Ny110.out] at ho5 | (simp only [Int.reduceToNat] at ho5; rw [← Ny110.out] at ho5)); have n0_ := mkA (Kd.R_lower ho5 (below_size zk1)); have n1_ := mkA (below_step zk1 hb); clear HB; have HO112 := n0_; have HB := n1_; clear n0_ n1_; clear hb ho5) | ((with_reducible refine gate_callee (f := 65) rfl ?_); refine goesL_ (some 10) rfl rfl Try.func65 zk11 rfl #[.int .u64 (IntKind.u64.wrap ((l0.length : Int)))] rfl zk2 ?_; (with_reducible refine (varveref04_Put.calls (IntKind.u64.wrap ((l0.length : Int))) t113 _ A2.out).mono ?_); rintro e w6 ⟨v114, rfl, ho0, hb⟩; refine ⟨_, rfl, ?_⟩; have n0_ := mkA (Kd.R_elder' zk133 (Kd.R_base ho0) hb); have n1_ := mkA (Kd.R_lower (Kd.R_new' ho0 (Kd.R_lt zk133)) (below_size zk1)); have n2_ := mkA (below_step zk1 hb); clear HO112; clear HB; have HO112 := n0_; have HO115 := n1_; have HB := n2_; clear n0_ n1_ n2_; (try clear hb); (try clear hb2); (try clear hk); (try clear hi); (try clear ho0); obtain ⟨Ao8, co8, eo8⟩ := Kd.R_slice HO115.out; subst eo8) | ((with_reducible refine gate_builtin (b := .append) (xs := #[.tmp 6, .tmp 10]) rfl ?_); at_builtin; refine Kd.R_append_rows (Kd.int .u8) (w0 := w) w.heap.size rfl (.tmp 6) (.tmp 10) 22 5 (.int .u8 0) 1 rfl Try.underlying22 info5 rfl zk47 zk6 v111 y110 t113 _ _ _ (fun k_ => some k_ ≠ (.slice Ao8 t113.length co8 : Value).ownBlock) (fun _ => False) rfl rfl ?aO ?aR (fun _ _ h => h) (fun _ h => h.elim) ?aF ?aB ?aS ?aL ?_; (case aR => repeat (first | exact (Kd.R_reads' HO115.out).2.2 | (with_reducible refine Kd.C_alloc ?_ _) | (with_reducible refine Kd.C_drewN ?_ _) | (with_reducible refine Kd.C_drew ?_))); (case aB => exact zk27); (case aF => exact (fun k_ hk => Kd.fresh' (Kd.R_lt zk134) k_ hk)); (case aO => exact (by (with_reducible repeat (first | apply Kd.R_alloc | apply Kd.R_drewN | apply Kd.R_drew)); exact Kd.R_mono HO112.out (fun _ hk => hk.2))); (case aS => exact zk25); (case aL => have := LMc3.out; omega); intro v117 w7 ho hb hg hat; rw [← Ny116.out] at ho; have n0_ := mkA (Kd.R_after (ok := (fun _ => True)) zk134 hg hat); have n1_ := mkA (hb); have n2_ := mkA (ho); clear HO115; clear HB; clear HO112; have HO115 := n0_; have HB := n1_; have HO118 := n2_; clear n0_ n1_ n2_; clear ho hb hg hat))); go_loopg [3, 4] k (fun kq v3 v4 w' => ∃ (x3_1 : List Int) (x4_1 : Int), v4 = .int .i64 x4_1 ∧ Aside0 (varveref07_sparse.l0 kq l0 x3_1 x4_1 = some r) ∧ Aside0 (kq ≤ k) ∧ Aside0 (Kd.R (Kd.int .u8) 5 w' w.heap.size (fun _ => True) v3 x3_1) ∧ Aside0 (Below w.heap.size w w'))
  case atStart => exact ⟨(y116), (0), zk14, H', ⟨Nat.le_refl _⟩, ⟨by (with_reducible repeat (first | apply Kd.R_alloc | apply Kd.R_drewN | apply Kd.R_drew)); exact Kd.R_mono HO118.out (fun _ hk => trivial)⟩, ⟨zk1⟩⟩
  case round =>
   clear H'; (try clear p2); (try clear c3); (try clear c5); (try clear c6); obtain ⟨x3_1, x4_1, rfl, HA, HK1, HO_3, HB⟩ := hrel
   cases gk with
   | zero => exact absurd HA.out (by simp [varveref07_sparse.l0])
   | succ k1 =>
    have H := HA.out; clear HA; simp only [varveref07_sparse.l0] at H; by_cases c9 : x4_1 < (l0.length : Int)
    ·rw [if_pos c9] at H
     have c9b0 : decide (x4_1 < (l0.length : Int)) = true := decide_eq_true c9; clear c9; by_cases c10 : 0 ≤ x4_1
     ·rw [if_pos c10] at H
      have c10b0 : decide (0 ≤ x4_1) = true := decide_eq_true c10; clear c10; by_cases c11 : x4_1 > 0
      ·rw [if_pos c11] at H
       have c11b0 : decide (0 < x4_1) = true := decide_eq_true c11; clear c11; obtain ⟨ji12, hji12⟩ : ∃ j_ : Int, (wrap64 (x4_1 - 1)) = j_ := ⟨_, rfl⟩
       replace H : (if 0 ≤ (ji12) then (if (ji12) < (l0.length : Int) then ((varveref04_Put.f (IntKind.u64.wrap (wrap64 ((wrap64 (((rd_T70 l0 x4_1).f0) - ((rd_T70 l0 (ji12)).f0))) - 1)))).bind fun t121 => (if x3_1.length + t121.length < 140737488355328 then ((some (x3_1 ++ t121 : List Int)).bind fun y124 => ((varveref04_Put.f ((rd_T70 l0 x4_1).f1)).bind fun t128 => (if y124.length + t128.length < 140737488355328 then (varveref07_sparse.l0 k1 l0 (y124 ++ t128) (wrap64 (x4_1 + 1))) else (none)))) else (none))) else (none)) else (none)) = some r := zk163
       have hji12w : (IntKind.i64.wrap (x4_1 - 1)) = ji12 := (i64_w _).trans hji12; by_cases c13 : 0 ≤ (ji12)
       ·rw [if_pos c13] at H
        have c13b0 : decide (0 ≤ (ji12)) = true := decide_eq_true c13; clear c13; by_cases c14 : (ji12) < (l0.length : Int)
        ·rw [if_pos c14] at H
         have c14b0 : decide ((ji12) < (l0.length : Int)) = true := decide_eq_true c14; clear c14; replace H := Option.bind_eq_some_iff.mp H; obtain ⟨t121, A150, H⟩ := H; replace H : (if x3_1.length + t121.length < 140737488355328 then ((some (x3_1 ++ t121 : List Int)).bind fun y124 => ((varveref04_Put.f ((rd_T70 l0 x4_1).f1)).bind fun t128 => (if y124.length + t128.length < 140737488355328 then (varveref07_sparse.l0 k1 l0 (y124 ++ t128) (wrap64 (x4_1 + 1))) else (none)))) else (none)) = some r := H; have A15 := mkA A150; clear A150; by_cases c16 : x3_1.length + t121.length < 140737488355328
         ·rw [if_pos c16] at H
          have LMc16 := mkA c16; clear c16; obtain ⟨y124, hy124⟩ : ∃ y_ : List Int, y_ = (x3_1 ++ t121) := ⟨_, rfl⟩
          replace H : ((varveref04_Put.f ((rd_T70 l0 x4_1).f1)).bind fun t128 => (if y124.length + t128.length < 140737488355328 then (varveref07_sparse.l0 k1 l0 (y124 ++ t128) (wrap64 (x4_1 + 1))) else (none))) = some r := zk93
          have Ny124 := mkA hy124; clear hy124; replace H := Option.bind_eq_some_iff.mp H; obtain ⟨t128, A170, H⟩ := H; replace H : (if y124.length + t128.length < 140737488355328 then (varveref07_sparse.l0 k1 l0 (y124 ++ t128) (wrap64 (x4_1 + 1))) else (none)) = some r := H; have A17 := mkA A170; clear A170; by_cases c18 : y124.length + t128.length < 140737488355328
          ·rw [if_pos c18] at H
           have LMc18 := mkA c18; clear c18; obtain ⟨y131, hy131⟩ : ∃ y_ : List Int, y_ = (y124 ++ t128) := ⟨_, rfl⟩
           replace H : (varveref07_sparse.l0 k1 l0 y131 (wrap64 (x4_1 + 1))) = some r := by first | (rw [hy131]; with_reducible exact H) | (have H2_ := (Option.bind_some _ _).symm.trans H; rw [hy131]; with_reducible exact H2_) | (have H2_ := (Option.bind_some _ _).symm.trans H; with_reducible exact H2_) | with_reducible exact H | (rw [hy131]; exact H) | exact H
           have Ny131 := mkA hy131; clear hy131; have H' := mkA H; clear H; have p119 : 0 ≤ (x4_1 : Int) := of_decide_eq_true zk8; have q119 : x4_1 < (l0.length : Int) := of_decide_eq_true zk8; obtain ⟨ad119, e119, hx119_0, hx119_1⟩ := at_T70 HR0.out x4_1 p119 q119; cases e119; replace hx119_0 := (HB.out.cell (World.block_lt_of_cell? w _ hx119_0)).trans hx119_0; replace hx119_1 := (HB.out.cell (World.block_lt_of_cell? w _ hx119_1)).trans hx119_1; replace p119 := eq_true p119; replace q119 := eq_true q119; have p120 : 0 ≤ ((ji12) : Int) := of_decide_eq_true zk8; have q120 : (ji12) < (l0.length : Int) := of_decide_eq_true zk8; obtain ⟨ad120, e120, hx120_0, hx120_1⟩ := at_T70 HR0.out (ji12) p120 q120; obtain rfl : ad119 = ad120 := (by injection e120)
           replace hx120_0 := (HB.out.cell (World.block_lt_of_cell? w _ hx120_0)).trans hx120_0; replace hx120_1 := (HB.out.cell (World.block_lt_of_cell? w _ hx120_1)).trans hx120_1; replace p120 := eq_true p120; replace q120 := eq_true q120; (go_wp2_with (first | ((with_reducible refine gate_callee (f := 65) rfl ?_); refine goesL_ (some 37) rfl rfl Try.func65 zk11 rfl #[.int .u64 (IntKind.u64.wrap (wrap64 ((wrap64 (((rd_T70 l0 x4_1).f0) - ((rd_T70 l0 (ji12)).f0))) - 1)))] rfl (by (try simp only [List.map_toArray, List.map_cons, List.map_nil]); first | done | (simp only [hji12]; rfl) | rfl | (simp only [List.length_drop, List.length_take]; rfl)) ?_; (with_reducible refine (varveref04_Put.calls (IntKind.u64.wrap (wrap64 ((wrap64 (((rd_T70 l0 x4_1).f0) - ((rd_T70 l0 (ji12)).f0))) - 1))) t121 _ A15.out).mono ?_); rintro e w19 ⟨v122, rfl, ho0, hb⟩; refine ⟨_, rfl, ?_⟩; have n0_ := mkA (Kd.R_elder' zk38 (Kd.R_base ho0) hb); have n1_ := mkA (Kd.R_lower (Kd.R_new' ho0 (Kd.R_lt zk38)) (below_size zk1)); have n2_ := mkA (below_step zk1 hb); clear HO_3; clear HB; have HO_3 := n0_; have HO123 := n1_; have HB := n2_; clear n0_ n1_ n2_; (try clear hb); (try clear hb2); (try clear hk); (try clear hi); (try clear ho0); obtain ⟨Ao21, co21, eo21⟩ := Kd.R_slice HO123.out; subst eo21) | ((with_reducible refine gate_builtin (b := .append) (xs := #[.tmp 34, .tmp 37]) rfl ?_); at_builtin; refine Kd.R_append_rows (Kd.int .u8) (w0 := w) w.heap.size rfl (.tmp 34) (.tmp 37) 22 5 (.int .u8 0) 1 rfl Try.underlying22 info5 rfl zk47 zk6 u3 x3_1 t121 _ _ _ (fun k_ => some k_ ≠ (.slice Ao21 t121.length co21 : Value).ownBlock) (fun _ => False) rfl rfl ?aO ?aR (fun _ _ h => h) (fun _ h => h.elim) ?aF ?aB ?aS ?aL ?_; (case aR => exact zk130); (case aB => exact zk27); (case aF => exact zk135); (case aO => exact zk79); (case aS => exact zk25); (case aL => exact zk202); intro v125 w20 ho hb hg hat; rw [← Ny124.out] at ho; have n0_ := mkA (Kd.R_after (ok := (fun _ => True)) zk78 hg hat); have n1_ := mkA (hb); have n2_ := mkA (ho); clear HO123; clear HB; clear HO_3; have HO123 := n0_; have HB := n1_; have HO126 := n2_; clear n0_ n1_ n2_; clear ho hb hg hat; have p127 : 0 ≤ (x4_1 : Int) := of_decide_eq_true zk8; have q127 : x4_1 < (l0.length : Int) := of_decide_eq_true zk8; obtain ⟨ad127, e127, hx127_0, hx127_1⟩ := at_T70 HR0.out x4_1 p127 q127; obtain rfl : ad119 = ad127 := (by injection e127); replace hx127_0 := (HB.out.cell (World.block_lt_of_cell? w _ hx127_0)).trans hx127_0; replace hx127_1 := (HB.out.cell (World.block_lt_of_cell? w _ hx127_1)).trans hx127_1; replace p127 := eq_true p127; replace q127 := eq_true q127) | ((with_reducible refine gate_callee (f := 65) rfl ?_); refine goesL_ (some 45) rfl rfl Try.func65 zk11 rfl #[.int .u64 ((rd_T70 l0 x4_1).f1)] rfl zk2 ?_; (with_reducible refine (varveref04_Put.calls ((rd_T70 l0 x4_1).f1) t128 _ A17.out).mono ?_); rintro e w22 ⟨v129, rfl, ho0, hb⟩; refine ⟨_, rfl, ?_⟩; have n0_ := mkA (Kd.R_elder' zk78 (Kd.R_base ho0) hb); have n1_ := mkA (Kd.R_elder' zk136 (Kd.R_base ho0) hb); have n2_ := mkA (Kd.R_lower (Kd.R_new' (Kd.R_new' ho0 (Kd.R_lt zk78)) (Kd.R_lt zk136)) (below_size zk1)); have n3_ := mkA (below_step zk1 hb); clear HO123; clear HO126; clear HB; have HO123 := n0_; have HO126 := n1_; have HO130 := n2_; have HB := n3_; clear n0_ n1_ n2_ n3_; (try clear hb); (try clear hb2); (try clear hk); (try clear hi); (try clear ho0); obtain ⟨Ao24, co24, eo24⟩ := Kd.R_slice HO130.out; subst eo24) | ((with_reducible refine gate_builtin (b := .append) (xs := #[.tmp 39, .tmp 45]) rfl ?_); at_builtin; refine Kd.R_append_rows (Kd.int .u8) (w0 := w) w.heap.size rfl (.tmp 39) (.tmp 45) 22 5 (.int .u8 0) 1 rfl Try.underlying22 info5 rfl zk47 zk6 v125 y124 t128 _ _ _ (fun k_ => some k_ ≠ (.slice Ao21 t121.length co21 : Value).ownBlock ∧ some k_ ≠ (.slice Ao24 t128.length co24 : Value).ownBlock) (fun _ => False) rfl rfl ?aO ?aR (fun _ _ h => h) (fun _ h => h.elim) ?aF ?aB ?aS ?aL ?_; (case aR => repeat (first | exact (Kd.R_reads' HO130.out).2.2 | (with_reducible refine Kd.C_alloc ?_ _) | (with_reducible refine Kd.C_drewN ?_ _) | (with_reducible refine Kd.C_drew ?_))); (case aB => exact zk27); (case aF => exact (fun k_ hk => ⟨Kd.fresh' (Kd.R_lt zk78) k_ hk, Kd.fresh' (Kd.R_lt (by (with_reducible repeat (first | apply Kd.R_alloc | apply Kd.R_drewN | apply Kd.R_drew)); exact HO130.out)) k_ hk⟩)); (case aO => exact zk136); (case aS => exact zk25); (case aL => exact zk203); intro v132 w23 ho hb hg hat; rw [← Ny131.out] at ho; have n0_ := mkA (Kd.R_after (ok := (fun k_ => some k_ ≠ (.slice Ao24 t128.length co24 : Value).ownBlock)) (by (with_reducible repeat (first | apply Kd.R_alloc | apply Kd.R_drewN | apply Kd.R_drew)); exact Kd.R_mono HO123.out (fun _ hk => ⟨hk.2, hk.1.2⟩)) hg hat); have n1_ := mkA (Kd.R_after (ok := (fun k_ => some k_ ≠ (.slice Ao21 t121.length co21 : Value).ownBlock)) (by (with_reducible repeat (first | apply Kd.R_alloc | apply Kd.R_drewN | apply Kd.R_drew)); exact Kd.R_mono HO130.out (fun _ hk => ⟨hk.1.2, hk.2⟩)) hg hat); have n2_ := mkA (hb); have n3_ := mkA (ho); clear HO123; clear HO130; clear HB; clear HO126; have HO123 := n0_; have HO130 := n1_; have HB := n2_; have HO133 := n3_; clear n0_ n1_ n2_ n3_; clear ho hb hg hat))); go_roundg k1
           case measure => have := HK1.out; omega
           case rel => exact ⟨(y131), (wrap64 (x4_1 + 1)), zk14, H', ⟨zk150⟩, ⟨by (with_reducible repeat (first | apply Kd.R_alloc | apply Kd.R_drewN | apply Kd.R_drew)); exact Kd.R_mono HO133.out (fun _ hk => trivial)⟩, ⟨zk1⟩⟩
          ·rw [if_neg c18] at H; exact absurd H zk56
         ·rw [if_neg c16] at H; exact absurd H zk56
        ·rw [if_neg c14] at H; exact absurd H zk56
       ·exact zk229
      ·rw [if_neg c11] at H
       have c11b0 : decide (0 < x4_1) = false := decide_eq_false c11; clear c11; replace H := Option.bind_eq_some_iff.mp H; obtain ⟨t134, A250, H⟩ := H; replace H : (if x3_1.length + t134.length < 140737488355328 then ((some (x3_1 ++ t134 : List Int)).bind fun y137 => ((varveref04_Put.f ((rd_T70 l0 x4_1).f1)).bind fun t141 => (if y137.length + t141.length < 140737488355328 then (varveref07_sparse.l0 k1 l0 (y137 ++ t141) (wrap64 (x4_1 + 1))) else (none)))) else (none)) = some r := H; have A25 := mkA A250; clear A250; by_cases c26 : x3_1.length + t134.length < 140737488355328
       ·rw [if_pos c26] at H
        have LMc26 := mkA c26; clear c26; obtain ⟨y137, hy137⟩ : ∃ y_ : List Int, y_ = (x3_1 ++ t134) := ⟨_, rfl⟩
        replace H : ((varveref04_Put.f ((rd_T70 l0 x4_1).f1)).bind fun t141 => (if y137.length + t141.length < 140737488355328 then (varveref07_sparse.l0 k1 l0 (y137 ++ t141) (wrap64 (x4_1 + 1))) else (none))) = some r := zk94
        have Ny137 := mkA hy137; clear hy137; replace H := Option.bind_eq_some_iff.mp H; obtain ⟨t141, A270, H⟩ := H; replace H : (if y137.length + t141.length < 140737488355328 then (varveref07_sparse.l0 k1 l0 (y137 ++ t141) (wrap64 (x4_1 + 1))) else (none)) = some r := H; have A27 := mkA A270; clear A270; by_cases c28 : y137.length + t141.length < 140737488355328
        ·rw [if_pos c28] at H
         have LMc28 := mkA c28; clear c28; obtain ⟨y144, hy144⟩ : ∃ y_ : List Int, y_ = (y137 ++ t141) := ⟨_, rfl⟩
         replace H : (varveref07_sparse.l0 k1 l0 y144 (wrap64 (x4_1 + 1))) = some r := by first | (rw [hy144]; with_reducible exact H) | (have H2_ := (Option.bind_some _ _).symm.trans H; rw [hy144]; with_reducible exact H2_) | (have H2_ := (Option.bind_some _ _).symm.trans H; with_reducible exact H2_) | with_reducible exact H | (rw [hy144]; exact H) | exact H
         have Ny144 := mkA hy144; clear hy144; have H' := mkA H; clear H; have p119 : 0 ≤ (x4_1 : Int) := of_decide_eq_true zk8; have q119 : x4_1 < (l0.length : Int) := of_decide_eq_true zk8; obtain ⟨ad119, e119, hx119_0, hx119_1⟩ := at_T70 HR0.out x4_1 p119 q119; cases e119; replace hx119_0 := (HB.out.cell (World.block_lt_of_cell? w _ hx119_0)).trans hx119_0; replace hx119_1 := (HB.out.cell (World.block_lt_of_cell? w _ hx119_1)).trans hx119_1; replace p119 := eq_true p119; replace q119 := eq_true q119; (go_wp2_with (first | ((with_reducible refine gate_callee (f := 65) rfl ?_); refine goesL_ (some 37) rfl rfl Try.func65 zk11 rfl #[.int .u64 (IntKind.u64.wrap ((rd_T70 l0 x4_1).f0))] rfl zk2 ?_; (with_reducible refine (varveref04_Put.calls (IntKind.u64.wrap ((rd_T70 l0 x4_1).f0)) t134 _ A25.out).mono ?_); rintro e w29 ⟨v135, rfl, ho0, hb⟩; refine ⟨_, rfl, ?_⟩; have n0_ := mkA (Kd.R_elder' zk38 (Kd.R_base ho0) hb); have n1_ := mkA (Kd.R_lower (Kd.R_new' ho0 (Kd.R_lt zk38)) (below_size zk1)); have n2_ := mkA (below_step zk1 hb); clear HO_3; clear HB; have HO_3 := n0_; have HO136 := n1_; have HB := n2_; clear n0_ n1_ n2_; (try clear hb); (try clear hb2); (try clear hk); (try clear hi); (try clear ho0); obtain ⟨Ao31, co31, eo31⟩ := Kd.R_slice HO136.out; subst eo31) | ((with_reducible refine gate_builtin (b := .append) (xs := #[.tmp 34, .tmp 37]) rfl ?_); at_builtin; refine Kd.R_append_rows (Kd.int .u8) (w0 := w) w.heap.size rfl (.tmp 34) (.tmp 37) 22 5 (.int .u8 0) 1 rfl Try.underlying22 info5 rfl zk47 zk6 u3 x3_1 t134 _ _ _ (fun k_ => some k_ ≠ (.slice Ao31 t134.length co31 : Value).ownBlock) (fun _ => False) rfl rfl ?aO ?aR (fun _ _ h => h) (fun _ h => h.elim) ?aF ?aB ?aS ?aL ?_; (case aR => repeat (first | exact (Kd.R_reads' HO136.out).2.2 | (with_reducible refine Kd.C_alloc ?_ _) | (with_reducible refine Kd.C_drewN ?_ _) | (with_reducible refine Kd.C_drew ?_))); (case aB => exact zk27); (case aF => exact (fun k_ hk => Kd.fresh' (Kd.R_lt zk98) k_ hk)); (case aO => exact zk79); (case aS => exact zk25); (case aL => have := LMc26.out; omega); intro v138 w30 ho hb hg hat; rw [← Ny137.out] at ho; have n0_ := mkA (Kd.R_after (ok := (fun _ => True)) zk98 hg hat); have n1_ := mkA (hb); have n2_ := mkA (ho); clear HO136; clear HB; clear HO_3; have HO136 := n0_; have HB := n1_; have HO139 := n2_; clear n0_ n1_ n2_; clear ho hb hg hat; have p140 : 0 ≤ (x4_1 : Int) := of_decide_eq_true zk8; have q140 : x4_1 < (l0.length : Int) := of_decide_eq_true zk8; obtain ⟨ad140, e140, hx140_0, hx140_1⟩ := at_T70 HR0.out x4_1 p140 q140; obtain rfl : ad119 = ad140 := (by injection e140); replace hx140_0 := (HB.out.cell (World.block_lt_of_cell? w _ hx140_0)).trans hx140_0; replace hx140_1 := (HB.out.cell (World.block_lt_of_cell? w _ hx140_1)).trans hx140_1; replace p140 := eq_true p140; replace q140 := eq_true q140) | ((with_reducible refine gate_callee (f := 65) rfl ?_); refine goesL_ (some 45) rfl rfl Try.func65 zk11 rfl #[.int .u64 ((rd_T70 l0 x4_1).f1)] rfl zk2 ?_; (with_reducible refine (varveref04_Put.calls ((rd_T70 l0 x4_1).f1) t141 _ A27.out).mono ?_); rintro e w32 ⟨v142, rfl, ho0, hb⟩; refine ⟨_, rfl, ?_⟩; have n0_ := mkA (Kd.R_elder' zk98 (Kd.R_base ho0) hb); have n1_ := mkA (Kd.R_elder' zk40 (Kd.R_base ho0) hb); have n2_ := mkA (Kd.R_lower (Kd.R_new' (Kd.R_new' ho0 (Kd.R_lt zk98)) (Kd.R_lt zk40)) (below_size zk1)); have n3_ := mkA (below_step zk1 hb); clear HO136; clear HO139; clear HB; have HO136 := n0_; have HO139 := n1_; have HO143 := n2_; have HB := n3_; clear n0_ n1_ n2_ n3_; (try clear hb); (try clear hb2); (try clear hk); (try clear hi); (try clear ho0); obtain ⟨Ao34, co34, eo34⟩ := Kd.R_slice HO143.out; subst eo34) | ((with_reducible refine gate_builtin (b := .append) (xs := #[.tmp 39, .tmp 45]) rfl ?_); at_builtin; refine Kd.R_append_rows (Kd.int .u8) (w0 := w) w.heap.size rfl (.tmp 39) (.tmp 45) 22 5 (.int .u8 0) 1 rfl Try.underlying22 info5 rfl zk47 zk6 v138 y137 t141 _ _ _ (fun k_ => some k_ ≠ (.slice Ao31 t134.length co31 : Value).ownBlock ∧ some k_ ≠ (.slice Ao34 t141.length co34 : Value).ownBlock) (fun _ => False) rfl rfl ?aO ?aR (fun _ _ h => h) (fun _ h => h.elim) ?aF ?aB ?aS ?aL ?_; (case aR => repeat (first | exact (Kd.R_reads' HO143.out).2.2 | (with_reducible refine Kd.C_alloc ?_ _) | (with_reducible refine Kd.C_drewN ?_ _) | (with_reducible refine Kd.C_drew ?_))); (case aB => exact zk27); (case aF => exact (fun k_ hk => ⟨Kd.fresh' (Kd.R_lt zk98) k_ hk, Kd.fresh' (Kd.R_lt (by (with_reducible repeat (first | apply Kd.R_alloc | apply Kd.R_drewN | apply Kd.R_drew)); exact HO143.out)) k_ hk⟩)); (case aO => exact zk40); (case aS => exact zk25); (case aL => have := LMc28.out; omega); intro v145 w33 ho hb hg hat; rw [← Ny144.out] at ho; have n0_ := mkA (Kd.R_after (ok := (fun k_ => some k_ ≠ (.slice Ao34 t141.length co34 : Value).ownBlock)) (by (with_reducible repeat (first | apply Kd.R_alloc | apply Kd.R_drewN | apply Kd.R_drew)); exact Kd.R_mono HO136.out (fun _ hk => ⟨hk.2, hk.1.2⟩)) hg hat); have n1_ := mkA (Kd.R_after (ok := (fun k_ => some k_ ≠ (.slice Ao31 t134.length co31 : Value).ownBlock)) (by (with_reducible repeat (first | apply Kd.R_alloc | apply Kd.R_drewN | apply Kd.R_drew)); exact Kd.R_mono HO143.out (fun _ hk => ⟨hk.1.2, hk.2⟩)) hg hat); have n2_ := mkA (hb); have n3_ := mkA (ho); clear HO136; clear HO143; clear HB; clear HO139; have HO136 := n0_; have HO143 := n1_; have HB := n2_; have HO146 := n3_; clear n0_ n1_ n2_ n3_; clear ho hb hg hat))); go_roundg k1
         case measure => have := HK1.out; omega
         case rel => exact ⟨(y144), (wrap64 (x4_1 + 1)), zk14, H', ⟨zk150⟩, ⟨by (with_reducible repeat (first | apply Kd.R_alloc | apply Kd.R_drewN | apply Kd.R_drew)); exact Kd.R_mono HO146.out (fun _ hk => trivial)⟩, ⟨zk1⟩⟩
        ·rw [if_neg c28] at H; exact absurd H zk56
       ·rw [if_neg c26] at H; exact absurd H zk56
     ·rw [if_neg c10] at H; exact absurd H zk56
    ·rw [if_neg c9] at H
     have c9b0 : decide (x4_1 < (l0.length : Int)) = false := decide_eq_false c9; clear c9; obtain rfl := Option.some.inj H; go_wp2; go_ret
     exact ⟨_, zk7, zk38, zk1⟩
 ·exact zk236
end Go.Proofs.Ytplgffbfepnihaa.Vt
namespace Go.Proofs.Ytplgffbfepnihaa.Vt
open Go.RowKit Go.Proofs.YtplgffbfepnihaaW.PrintWords Go.Proofs.YtplgffbfepnihaaW.PrintLast Go.Proofs.YtplgffbfepnihaaW.PrintMore Go.Proofs.Ytplgffbfepnihaa.Hi Go.Proofs.Ytplgffbfepnihaa.Q
mutual
def varveref07_dense.j0 : Nat → List (S70) → Bool → Option (List Int)
 | 0, _, _ => none
 | k + 1, x0, x15 => if x15 = true then (some ([] : List Int)) else (if 0 < (x0.length : Int) then (if 0 ≤ (wrap64 ((x0.length : Int) - 1)) then (if (wrap64 ((x0.length : Int) - 1)) < (x0.length : Int) then ((some (([1] : List Int) : List Int)).bind fun y155 => ((varveref04_Put.f (IntKind.u64.wrap ((rd_T70 x0 0).f0))).bind fun t158 => (if y155.length + t158.length < 140737488355328 then ((some (y155 ++ t158 : List Int)).bind fun y161 => ((varveref04_Put.f (IntKind.u64.wrap (wrap64 ((wrap64 (((rd_T70 x0 (wrap64 ((x0.length : Int) - 1))).f0) - ((rd_T70 x0 0).f0))) + 1)))).bind fun t164 => (if y161.length + t164.length < 140737488355328 then (varveref07_dense.l0 k x0 ((rd_T70 x0 0).f0) (wrap64 ((wrap64 (((rd_T70 x0 (wrap64 ((x0.length : Int) - 1))).f0) - ((rd_T70 x0 0).f0))) + 1)) (y161 ++ t164) 0 0) else (none)))) else (none)))) else (none)) else (none)) else (none))
def varveref07_dense.l0 : Nat → List (S70) → Int → Int → List Int → Int → Int → Option (List Int)
 | 0, _, _, _, _, _, _ => none
 | k + 1, x0, x3, x4, x5, x6, x7 => if x7 < x4 then (if 0 ≤ x6 then (if x6 < (x0.length : Int) then (if ((rd_T70 x0 x6).f0) = (wrap64 (x3 + x7)) then ((varveref04_Put.f ((rd_T70 x0 x6).f1)).bind fun t172 => (if x5.length + t172.length < 140737488355328 then (varveref07_dense.l0 k x0 x3 x4 (x5 ++ t172) (wrap64 (x6 + 1)) (wrap64 (x7 + 1))) else (none))) else (if x5.length < 140737488355328 then (varveref07_dense.l0 k x0 x3 x4 (x5 ++ [0]) x6 (wrap64 (x7 + 1))) else (none))) else (none)) else (none)) else (some x5)
end
def varveref07_dense.f (k : Nat) (l0 : List (S70)) : Option (List Int) := if (l0.length : Int) = 0 then (varveref07_dense.j0 k l0 true) else ((varveref07_Check.f k l0).bind fun t152 => (varveref07_dense.j0 k l0 (!t152)))
set_option maxHeartbeats 8000000 in
set_option maxRecDepth 100000 in
theorem varveref07_dense.calls (k : Nat) (A0 : Option Addr) (c0 : Nat) (l0 : List (S70)) (r : List Int) (w : World) (hr0 : Kd.C k70 w A0 l0.length l0) (hc0 : l0.length ≤ c0) (h : varveref07_dense.f k l0 = some r) :
  Calls Try.prog 51 #[.slice A0 l0.length c0] w fun e w' => ∃ v0_ : Value, e = .returned (v0_) ∧ Kd.R (Kd.int .u8) 5 w' w.heap.size (fun _ => True) v0_ r ∧ Below w.heap.size w w' := by
 have HR0 := mkA hr0; have HC0 := mkA hc0; clear hr0 hc0; have HB := mkA (Below.refl w.heap.size w); have H : (if (l0.length : Int) = 0 then (varveref07_dense.j0 k l0 true) else ((varveref07_Check.f k l0).bind fun t152 => (varveref07_dense.j0 k l0 (!t152)))) = some r := h; clear h; have HC2 := mkA H; clear H; go_enter Try.func51, Try.ntmps51; go_upto_region 1 with (fail)
 go_cut [15] (fun v15 wc => ∃ (kq : Nat) (x15_1 : Bool), v15 = .bool x15_1 ∧ Aside0 (varveref07_dense.j0 kq l0 x15_1 = some r) ∧ Aside0 (kq ≤ k) ∧ Aside0 (Below w.heap.size w wc))
 case first =>
  have H := HC2.out; clear HC2; by_cases c3 : (l0.length : Int) = 0
  ·rw [if_pos c3] at H
   have c3b0 : ((l0.length : Int) == 0) = true := beq_iff_eq.mpr c3; have c3b1 : ((l0.length : Int) != 0) = false := bne_eq_false_iff_eq.mpr c3; clear c3; (first | rw [c3b0] | (simp only [i64_w, i32_w]; rw [c3b0]) | skip); have H' := mkA H; clear H; go_wp2; go_meet
   case rel => exact ⟨_, (true), zk14, H', ⟨zk122⟩, ⟨zk1⟩⟩
  ·rw [if_neg c3] at H
   have c3b0 : ((l0.length : Int) == 0) = false := beq_eq_false_iff_ne.mpr c3; have c3b1 : ((l0.length : Int) != 0) = true := bne_iff_ne.mpr c3; have c3b2 : ¬ (l0 = []) := fun h_ => c3 (by rw [h_]; rfl); (first | rw [c3b0] | (simp only [i64_w, i32_w]; rw [c3b0]) | skip); replace H := Option.bind_eq_some_iff.mp H; obtain ⟨t152, A40, H⟩ := H; replace H : (varveref07_dense.j0 k l0 (!t152)) = some r := H; have A4 := mkA A40; clear A40; have H' := mkA H; clear H; (go_wp2_with (first | (go_at_call 16; (with_reducible refine (varveref07_Check.calls k _ _ l0 t152 _ ?side1 ?side2 A4.out).mono ?_); (case side1 => exact zk49); (case side2 => exact HC0.out); rintro e w' ⟨rfl, ⟨nd, rfl⟩⟩))); go_meet
   case rel => exact ⟨_, (!t152), zk14, H', ⟨zk122⟩, ⟨zk1⟩⟩
 case rest =>
  clear HC2; (try clear p2); (try clear c3); (try clear c3b0); (try clear c3b1); (try clear c3b2); obtain ⟨kq, x15_1, rfl, HA, HJ1, HB⟩ := hcut
  cases kq with
  | zero => exact absurd HA.out (by simp [varveref07_dense.j0])
  | succ kj1 =>
   have H := HA.out; clear HA; simp only [varveref07_dense.j0] at H; by_cases c5 : x15_1 = true
   ·subst c5
    have H1 : (some ([] : List Int)) = some r := zk76
    clear H; have H := H1; clear H1; obtain rfl := Option.some.inj H; go_wp2; go_ret
    exact ⟨_, zk7, zk35, zk1⟩
   ·replace c5 := Bool.eq_false_iff.mpr c5
    subst c5; have H1 : (if 0 < (l0.length : Int) then (if 0 ≤ (wrap64 ((l0.length : Int) - 1)) then (if (wrap64 ((l0.length : Int) - 1)) < (l0.length : Int) then ((some (([1] : List Int) : List Int)).bind fun y155 => ((varveref04_Put.f (IntKind.u64.wrap ((rd_T70 l0 0).f0))).bind fun t158 => (if y155.length + t158.length < 140737488355328 then ((some (y155 ++ t158 : List Int)).bind fun y161 => ((varveref04_Put.f (IntKind.u64.wrap (wrap64 ((wrap64 (((rd_T70 l0 (wrap64 ((l0.length : Int) - 1))).f0) - ((rd_T70 l0 0).f0))) + 1)))).bind fun t164 => (if y161.length + t164.length < 140737488355328 then (varveref07_dense.l0 kj1 l0 ((rd_T70 l0 0).f0) (wrap64 ((wrap64 (((rd_T70 l0 (wrap64 ((l0.length : Int) - 1))).f0) - ((rd_T70 l0 0).f0))) + 1)) (y161 ++ t164) 0 0) else (none)))) else (none)))) else (none)) else (none)) else (none)) = some r := zk41
    clear H; have H := H1; clear H1; by_cases c6 : 0 < (l0.length : Int)
    ·rw [if_pos c6] at H
     have c6b0 : decide (0 < (l0.length : Int)) = true := decide_eq_true c6; have c6b1 : decide (0 < l0.length) = true := decide_eq_true zk6; clear c6; obtain ⟨ji7, hji7⟩ : ∃ j_ : Int, (wrap64 ((l0.length : Int) - 1)) = j_ := ⟨_, rfl⟩
     replace H : (if 0 ≤ (ji7) then (if (ji7) < (l0.length : Int) then ((some (([1] : List Int) : List Int)).bind fun y155 => ((varveref04_Put.f (IntKind.u64.wrap ((rd_T70 l0 0).f0))).bind fun t158 => (if y155.length + t158.length < 140737488355328 then ((some (y155 ++ t158 : List Int)).bind fun y161 => ((varveref04_Put.f (IntKind.u64.wrap (wrap64 ((wrap64 (((rd_T70 l0 (ji7)).f0) - ((rd_T70 l0 0).f0))) + 1)))).bind fun t164 => (if y161.length + t164.length < 140737488355328 then (varveref07_dense.l0 kj1 l0 ((rd_T70 l0 0).f0) (wrap64 ((wrap64 (((rd_T70 l0 (ji7)).f0) - ((rd_T70 l0 0).f0))) + 1)) (y161 ++ t164) 0 0) else (none)))) else (none)))) else (none)) else (none)) = some r := by first | (rw [hji7] at H; exact H) | (simp only [hji7] at H ⊢; exact H)
     have hji7w : (IntKind.i64.wrap ((l0.length : Int) - 1)) = ji7 := (i64_w _).trans hji7; by_cases c8 : 0 ≤ (ji7)
     ·rw [if_pos c8] at H
      have c8b0 : decide (0 ≤ (ji7)) = true := decide_eq_true c8; clear c8; by_cases c9 : (ji7) < (l0.length : Int)
      ·rw [if_pos c9] at H
       have c9b0 : decide ((ji7) < (l0.length : Int)) = true := decide_eq_true c9; clear c9; obtain ⟨y155, hy155⟩ : ∃ y_ : List Int, y_ = (([1] : List Int)) := ⟨_, rfl⟩
       replace H : ((varveref04_Put.f (IntKind.u64.wrap ((rd_T70 l0 0).f0))).bind fun t158 => (if y155.length + t158.length < 140737488355328 then ((some (y155 ++ t158 : List Int)).bind fun y161 => ((varveref04_Put.f (IntKind.u64.wrap (wrap64 ((wrap64 (((rd_T70 l0 (ji7)).f0) - ((rd_T70 l0 0).f0))) + 1)))).bind fun t164 => (if y161.length + t164.length < 140737488355328 then (varveref07_dense.l0 kj1 l0 ((rd_T70 l0 0).f0) (wrap64 ((wrap64 (((rd_T70 l0 (ji7)).f0) - ((rd_T70 l0 0).f0))) + 1)) (y161 ++ t164) 0 0) else (none)))) else (none))) = some r := by first | (rw [hy155]; with_reducible exact H) | (have H2_ := (Option.bind_some _ _).symm.trans H; rw [hy155]; with_reducible exact H2_) | (have H2_ := (Option.bind_some _ _).symm.trans H; with_reducible exact H2_) | with_reducible exact H | (rw [hy155]; exact H) | exact H
       have Ny155 := mkA hy155; clear hy155; replace H := Option.bind_eq_some_iff.mp H; obtain ⟨t158, A100, H⟩ := H; replace H : (if y155.length + t158.length < 140737488355328 then ((some (y155 ++ t158 : List Int)).bind fun y161 => ((varveref04_Put.f (IntKind.u64.wrap (wrap64 ((wrap64 (((rd_T70 l0 (ji7)).f0) - ((rd_T70 l0 0).f0))) + 1)))).bind fun t164 => (if y161.length + t164.length < 140737488355328 then (varveref07_dense.l0 kj1 l0 ((rd_T70 l0 0).f0) (wrap64 ((wrap64 (((rd_T70 l0 (ji7)).f0) - ((rd_T70 l0 0).f0))) + 1)) (y161 ++ t164) 0 0) else (none)))) else (none)) = some r := H; have A10 := mkA A100; clear A100; by_cases c11 : y155.length + t158.length < 140737488355328
       ·rw [if_pos c11] at H
        have LMc11 := mkA c11; clear c11; obtain ⟨y161, hy161⟩ : ∃ y_ : List Int, y_ = (y155 ++ t158) := ⟨_, rfl⟩
        replace H : ((varveref04_Put.f (IntKind.u64.wrap (wrap64 ((wrap64 (((rd_T70 l0 (ji7)).f0) - ((rd_T70 l0 0).f0))) + 1)))).bind fun t164 => (if y161.length + t164.length < 140737488355328 then (varveref07_dense.l0 kj1 l0 ((rd_T70 l0 0).f0) (wrap64 ((wrap64 (((rd_T70 l0 (ji7)).f0) - ((rd_T70 l0 0).f0))) + 1)) (y161 ++ t164) 0 0) else (none))) = some r := by first | (rw [hy161]; with_reducible exact H) | (have H2_ := (Option.bind_some _ _).symm.trans H; rw [hy161]; with_reducible exact H2_) | (have H2_ := (Option.bind_some _ _).symm.trans H; with_reducible exact H2_) | with_reducible exact H | (rw [hy161]; exact H) | exact H
        have Ny161 := mkA hy161; clear hy161; replace H := Option.bind_eq_some_iff.mp H; obtain ⟨t164, A120, H⟩ := H; replace H : (if y161.length + t164.length < 140737488355328 then (varveref07_dense.l0 kj1 l0 ((rd_T70 l0 0).f0) (wrap64 ((wrap64 (((rd_T70 l0 (ji7)).f0) - ((rd_T70 l0 0).f0))) + 1)) (y161 ++ t164) 0 0) else (none)) = some r := H; have A12 := mkA A120; clear A120; by_cases c13 : y161.length + t164.length < 140737488355328
        ·rw [if_pos c13] at H
         have LMc13 := mkA c13; clear c13; obtain ⟨y167, hy167⟩ : ∃ y_ : List Int, y_ = (y161 ++ t164) := ⟨_, rfl⟩
         replace H : (varveref07_dense.l0 kj1 l0 ((rd_T70 l0 0).f0) (wrap64 ((wrap64 (((rd_T70 l0 (ji7)).f0) - ((rd_T70 l0 0).f0))) + 1)) y167 0 0) = some r := by first | (rw [hy167]; with_reducible exact H) | (have H2_ := (Option.bind_some _ _).symm.trans H; rw [hy167]; with_reducible exact H2_) | (have H2_ := (Option.bind_some _ _).symm.trans H; with_reducible exact H2_) | with_reducible exact H | (rw [hy167]; exact H) | exact H
         have Ny167 := mkA hy167; clear hy167; have H' := mkA H; clear H; have p153 : 0 ≤ (0 : Int) := zk6
         have q153 : 0 < (l0.length : Int) := of_decide_eq_true zk8; obtain ⟨ad153, e153, hx153_0, hx153_1⟩ := at_T70 HR0.out 0 p153 q153; cases e153; have qi153 : (0 < l0.length) = True := eq_true zk6; (try rw [show ((0 : Int)).toNat = 0 from rfl] at hx153_0); (try rw [show 0 * 2 = 0 from rfl] at hx153_0); (try rw [Addr.add_zero'] at hx153_0); (try rw [show ((0 : Int)).toNat = 0 from rfl] at hx153_1); (try rw [show 0 * 2 = 0 from rfl] at hx153_1); (try rw [Addr.add_zero'] at hx153_1); replace hx153_0 := (HB.out.cell (World.block_lt_of_cell? w _ hx153_0)).trans hx153_0; replace hx153_1 := (HB.out.cell (World.block_lt_of_cell? w _ hx153_1)).trans hx153_1; replace p153 := eq_true p153; replace q153 := eq_true q153; have p154 : 0 ≤ ((ji7) : Int) := of_decide_eq_true zk8; have q154 : (ji7) < (l0.length : Int) := of_decide_eq_true zk8; obtain ⟨ad154, e154, hx154_0, hx154_1⟩ := at_T70 HR0.out (ji7) p154 q154; obtain rfl : ad153 = ad154 := (by injection e154)
         replace hx154_0 := (HB.out.cell (World.block_lt_of_cell? w _ hx154_0)).trans hx154_0; replace hx154_1 := (HB.out.cell (World.block_lt_of_cell? w _ hx154_1)).trans hx154_1; replace p154 := eq_true p154; replace q154 := eq_true q154; (go_wp2_with (first | ((with_reducible refine gate_dst (N := 30) rfl ?_); refine Kd.R_lit (Kd.int .u8) _ 5 ?hg (N := 30) ?hd (xs := ([1] : List Int)) (inner := [.int .u8 1]) (ok := fun _ => True) (okp := fun _ => True) ?hr ?hp (fun _ hk => hk) trivial (Below.refl _ _) (Nat.le_refl _) zk56 ?_; (case hd => exact zk50); (case hg => exact zk50); (case hr => exact zk26); (case hp => exact (Reps.one (show Kd.M (Kd.int .u8) _ _ _ 1 [.int .u8 1] from rfl) (Reps.none _ _))); intro v156 w14 ho15 hb hg_ hnew_; clear hg_ hnew_; (first | rw [← Ny155.out] at ho15 | (simp only [Int.reduceToNat] at ho15; rw [← Ny155.out] at ho15)); have n0_ := mkA (Kd.R_lower ho15 (below_size zk1)); have n1_ := mkA (below_step zk1 hb); clear HB; have HO157 := n0_; have HB := n1_; clear n0_ n1_; clear hb ho15) | ((with_reducible refine gate_callee (f := 65) rfl ?_); refine goesL_ (some 33) rfl rfl Try.func65 zk11 rfl #[.int .u64 (IntKind.u64.wrap ((rd_T70 l0 0).f0))] rfl zk2 ?_; (with_reducible refine (varveref04_Put.calls (IntKind.u64.wrap ((rd_T70 l0 0).f0)) t158 _ A10.out).mono ?_); rintro e w16 ⟨v159, rfl, ho0, hb⟩; refine ⟨_, rfl, ?_⟩; have n0_ := mkA (Kd.R_elder' zk165 (Kd.R_base ho0) hb); have n1_ := mkA (Kd.R_lower (Kd.R_new' ho0 (Kd.R_lt zk165)) (below_size zk1)); have n2_ := mkA (below_step zk1 hb); clear HO157; clear HB; have HO157 := n0_; have HO160 := n1_; have HB := n2_; clear n0_ n1_ n2_; (try clear hb); (try clear hb2); (try clear hk); (try clear hi); (try clear ho0); obtain ⟨Ao18, co18, eo18⟩ := Kd.R_slice HO160.out; subst eo18) | ((with_reducible refine gate_builtin (b := .append) (xs := #[.tmp 30, .tmp 33]) rfl ?_); at_builtin; refine Kd.R_append_rows (Kd.int .u8) (w0 := w) w.heap.size rfl (.tmp 30) (.tmp 33) 22 5 (.int .u8 0) 1 rfl Try.underlying22 info5 rfl zk47 zk6 v156 y155 t158 _ _ _ (fun k_ => some k_ ≠ (.slice Ao18 t158.length co18 : Value).ownBlock) (fun _ => False) rfl rfl ?aO ?aR (fun _ _ h => h) (fun _ h => h.elim) ?aF ?aB ?aS ?aL ?_; (case aR => repeat (first | exact (Kd.R_reads' HO160.out).2.2 | (with_reducible refine Kd.C_alloc ?_ _) | (with_reducible refine Kd.C_drewN ?_ _) | (with_reducible refine Kd.C_drew ?_))); (case aB => exact zk27); (case aF => exact (fun k_ hk => Kd.fresh' (Kd.R_lt zk99) k_ hk)); (case aO => exact (by (with_reducible repeat (first | apply Kd.R_alloc | apply Kd.R_drewN | apply Kd.R_drew)); exact Kd.R_mono HO157.out (fun _ hk => hk.2))); (case aS => exact zk25); (case aL => have := LMc11.out; omega); intro v162 w17 ho hb hg hat; rw [← Ny161.out] at ho; have n0_ := mkA (Kd.R_after (ok := (fun _ => True)) zk99 hg hat); have n1_ := mkA (hb); have n2_ := mkA (ho); clear HO160; clear HB; clear HO157; have HO160 := n0_; have HB := n1_; have HO163 := n2_; clear n0_ n1_ n2_; clear ho hb hg hat) | ((with_reducible refine gate_callee (f := 65) rfl ?_); refine goesL_ (some 38) rfl rfl Try.func65 zk11 rfl #[.int .u64 (IntKind.u64.wrap (wrap64 ((wrap64 (((rd_T70 l0 (ji7)).f0) - ((rd_T70 l0 0).f0))) + 1)))] rfl (by (try simp only [List.map_toArray, List.map_cons, List.map_nil]); first | done | (simp only [hji7]; rfl) | rfl | (simp only [List.length_drop, List.length_take]; rfl)) ?_; (with_reducible refine (varveref04_Put.calls (IntKind.u64.wrap (wrap64 ((wrap64 (((rd_T70 l0 (ji7)).f0) - ((rd_T70 l0 0).f0))) + 1))) t164 _ A12.out).mono ?_); rintro e w19 ⟨v165, rfl, ho0, hb⟩; refine ⟨_, rfl, ?_⟩; have n0_ := mkA (Kd.R_elder' zk99 (Kd.R_base ho0) hb); have n1_ := mkA (Kd.R_elder' zk137 (Kd.R_base ho0) hb); have n2_ := mkA (Kd.R_lower (Kd.R_new' (Kd.R_new' ho0 (Kd.R_lt zk99)) (Kd.R_lt zk137)) (below_size zk1)); have n3_ := mkA (below_step zk1 hb); clear HO160; clear HO163; clear HB; have HO160 := n0_; have HO163 := n1_; have HO166 := n2_; have HB := n3_; clear n0_ n1_ n2_ n3_; (try clear hb); (try clear hb2); (try clear hk); (try clear hi); (try clear ho0); obtain ⟨Ao21, co21, eo21⟩ := Kd.R_slice HO166.out; subst eo21) | ((with_reducible refine gate_builtin (b := .append) (xs := #[.tmp 35, .tmp 38]) rfl ?_); at_builtin; refine Kd.R_append_rows (Kd.int .u8) (w0 := w) w.heap.size rfl (.tmp 35) (.tmp 38) 22 5 (.int .u8 0) 1 rfl Try.underlying22 info5 rfl zk47 zk6 v162 y161 t164 _ _ _ (fun k_ => some k_ ≠ (.slice Ao18 t158.length co18 : Value).ownBlock ∧ some k_ ≠ (.slice Ao21 t164.length co21 : Value).ownBlock) (fun _ => False) rfl rfl ?aO ?aR (fun _ _ h => h) (fun _ h => h.elim) ?aF ?aB ?aS ?aL ?_; (case aR => repeat (first | exact (Kd.R_reads' HO166.out).2.2 | (with_reducible refine Kd.C_alloc ?_ _) | (with_reducible refine Kd.C_drewN ?_ _) | (with_reducible refine Kd.C_drew ?_))); (case aB => exact zk27); (case aF => exact (fun k_ hk => ⟨Kd.fresh' (Kd.R_lt zk99) k_ hk, Kd.fresh' (Kd.R_lt (by (with_reducible repeat (first | apply Kd.R_alloc | apply Kd.R_drewN | apply Kd.R_drew)); exact HO166.out)) k_ hk⟩)); (case aO => exact zk137); (case aS => exact zk25); (case aL => have := LMc13.out; omega); intro v168 w20 ho hb hg hat; rw [← Ny167.out] at ho; have n0_ := mkA (Kd.R_after (ok := (fun k_ => some k_ ≠ (.slice Ao21 t164.length co21 : Value).ownBlock)) (by (with_reducible repeat (first | apply Kd.R_alloc | apply Kd.R_drewN | apply Kd.R_drew)); exact Kd.R_mono HO160.out (fun _ hk => ⟨hk.2, hk.1.2⟩)) hg hat); have n1_ := mkA (Kd.R_after (ok := (fun k_ => some k_ ≠ (.slice Ao18 t158.length co18 : Value).ownBlock)) (by (with_reducible repeat (first | apply Kd.R_alloc | apply Kd.R_drewN | apply Kd.R_drew)); exact Kd.R_mono HO166.out (fun _ hk => ⟨hk.1.2, hk.2⟩)) hg hat); have n2_ := mkA (hb); have n3_ := mkA (ho); clear HO160; clear HO166; clear HB; clear HO163; have HO160 := n0_; have HO166 := n1_; have HB := n2_; have HO169 := n3_; clear n0_ n1_ n2_ n3_; clear ho hb hg hat))); go_loopg [5, 6, 7] kj1 (fun kq v5 v6 v7 w' => ∃ (x5_2 : List Int) (x6_2 : Int) (x7_2 : Int), v6 = .int .i64 x6_2 ∧ v7 = .int .i64 x7_2 ∧ Aside0 (varveref07_dense.l0 kq l0 ((rd_T70 l0 0).f0) (wrap64 ((wrap64 (((rd_T70 l0 (ji7)).f0) - ((rd_T70 l0 0).f0))) + 1)) x5_2 x6_2 x7_2 = some r) ∧ Aside0 (kq ≤ kj1) ∧ Aside0 (Kd.R (Kd.int .u8) 5 w' w.heap.size (fun _ => True) v5 x5_2) ∧ Aside0 (Below w.heap.size w w'))
         case atStart => exact ⟨(y167), (0), (0), zk14, zk14, H', ⟨Nat.le_refl _⟩, ⟨by (with_reducible repeat (first | apply Kd.R_alloc | apply Kd.R_drewN | apply Kd.R_drew)); exact Kd.R_mono HO169.out (fun _ hk => trivial)⟩, ⟨zk1⟩⟩
         case round =>
          clear H'; (try clear c1); (try clear p1); (try clear q1); (try clear hx1); (try clear qi1); (try clear p2); (try clear c3); (try clear c3b0); (try clear c3b1); (try clear c3b2); (try clear c5); (try clear c6); (try clear c6b0); (try clear c6b1); (try clear p6); (try clear c8); (try clear c8b0); (try clear c9); (try clear c9b0); (try clear c11); (try clear c13); (try clear p15); (try clear q15); (try clear hx15); (try clear qi15); (try clear hx153_0); (try clear hx153_1); (try clear hx154_0); (try clear hx154_1); (try clear p153); (try clear p154); (try clear p2); (try clear q153); (try clear q154); obtain ⟨x5_2, x6_2, x7_2, rfl, rfl, HA, HK2, HO_5, HB⟩ := hrel
          cases gk with
          | zero => exact absurd HA.out (by simp [varveref07_dense.l0])
          | succ k2 =>
           have H := HA.out; clear HA; simp only [varveref07_dense.l0] at H; by_cases c22 : x7_2 < (wrap64 ((wrap64 (((rd_T70 l0 (ji7)).f0) - ((rd_T70 l0 0).f0))) + 1))
           ·rw [if_pos c22] at H
            have c22b0 : decide (x7_2 < (wrap64 ((wrap64 (((rd_T70 l0 (ji7)).f0) - ((rd_T70 l0 0).f0))) + 1))) = true := decide_eq_true c22; clear c22; by_cases c23 : 0 ≤ x6_2
            ·rw [if_pos c23] at H
             have c23b0 : decide (0 ≤ x6_2) = true := decide_eq_true c23; clear c23; by_cases c24 : x6_2 < (l0.length : Int)
             ·rw [if_pos c24] at H
              have c24b0 : decide (x6_2 < (l0.length : Int)) = true := decide_eq_true c24; clear c24; by_cases c25 : ((rd_T70 l0 x6_2).f0) = (wrap64 (((rd_T70 l0 0).f0) + x7_2))
              ·rw [if_pos c25] at H
               have c25b0 : (((rd_T70 l0 x6_2).f0) == (wrap64 (((rd_T70 l0 0).f0) + x7_2))) = true := beq_iff_eq.mpr c25; have c25b1 : (((rd_T70 l0 x6_2).f0) != (wrap64 (((rd_T70 l0 0).f0) + x7_2))) = false := bne_eq_false_iff_eq.mpr c25; clear c25; replace H := Option.bind_eq_some_iff.mp H; obtain ⟨t172, A260, H⟩ := H; replace H : (if x5_2.length + t172.length < 140737488355328 then (varveref07_dense.l0 k2 l0 ((rd_T70 l0 0).f0) (wrap64 ((wrap64 (((rd_T70 l0 (ji7)).f0) - ((rd_T70 l0 0).f0))) + 1)) (x5_2 ++ t172) (wrap64 (x6_2 + 1)) (wrap64 (x7_2 + 1))) else (none)) = some r := H; have A26 := mkA A260; clear A260; by_cases c27 : x5_2.length + t172.length < 140737488355328
               ·rw [if_pos c27] at H
                have LMc27 := mkA c27; clear c27; obtain ⟨y175, hy175⟩ : ∃ y_ : List Int, y_ = (x5_2 ++ t172) := ⟨_, rfl⟩
                replace H : (varveref07_dense.l0 k2 l0 ((rd_T70 l0 0).f0) (wrap64 ((wrap64 (((rd_T70 l0 (ji7)).f0) - ((rd_T70 l0 0).f0))) + 1)) y175 (wrap64 (x6_2 + 1)) (wrap64 (x7_2 + 1))) = some r := by first | (rw [hy175]; with_reducible exact H) | (have H2_ := (Option.bind_some _ _).symm.trans H; rw [hy175]; with_reducible exact H2_) | (have H2_ := (Option.bind_some _ _).symm.trans H; with_reducible exact H2_) | with_reducible exact H | (rw [hy175]; exact H) | exact H
                have Ny175 := mkA hy175; clear hy175; have H' := mkA H; clear H; have p170 : 0 ≤ (x6_2 : Int) := of_decide_eq_true zk8; have q170 : x6_2 < (l0.length : Int) := of_decide_eq_true zk8; obtain ⟨ad170, e170, hx170_0, hx170_1⟩ := at_T70 HR0.out x6_2 p170 q170; obtain rfl : ad153 = ad170 := (by injection e170)
                replace hx170_0 := (HB.out.cell (World.block_lt_of_cell? w _ hx170_0)).trans hx170_0; replace hx170_1 := (HB.out.cell (World.block_lt_of_cell? w _ hx170_1)).trans hx170_1; replace p170 := eq_true p170; replace q170 := eq_true q170; have p171 : 0 ≤ (x6_2 : Int) := of_decide_eq_true zk8; have q171 : x6_2 < (l0.length : Int) := of_decide_eq_true zk8; obtain ⟨ad171, e171, hx171_0, hx171_1⟩ := at_T70 HR0.out x6_2 p171 q171; obtain rfl : ad153 = ad171 := (by injection e171)
                replace hx171_0 := (HB.out.cell (World.block_lt_of_cell? w _ hx171_0)).trans hx171_0; replace hx171_1 := (HB.out.cell (World.block_lt_of_cell? w _ hx171_1)).trans hx171_1; replace p171 := eq_true p171; replace q171 := eq_true q171; (go_wp2_with (first | ((with_reducible refine gate_callee (f := 65) rfl ?_); refine goesL_ (some 60) rfl rfl Try.func65 zk11 rfl #[.int .u64 ((rd_T70 l0 x6_2).f1)] rfl zk2 ?_; (with_reducible refine (varveref04_Put.calls ((rd_T70 l0 x6_2).f1) t172 _ A26.out).mono ?_); rintro e w28 ⟨v173, rfl, ho0, hb⟩; refine ⟨_, rfl, ?_⟩; have n0_ := mkA (Kd.R_elder' zk72 (Kd.R_base ho0) hb); have n1_ := mkA (Kd.R_lower (Kd.R_new' ho0 (Kd.R_lt zk72)) (below_size zk1)); have n2_ := mkA (below_step zk1 hb); clear HO_5; clear HB; have HO_5 := n0_; have HO174 := n1_; have HB := n2_; clear n0_ n1_ n2_; (try clear hb); (try clear hb2); (try clear hk); (try clear hi); (try clear ho0); obtain ⟨Ao30, co30, eo30⟩ := Kd.R_slice HO174.out; subst eo30) | ((with_reducible refine gate_builtin (b := .append) (xs := #[.tmp 54, .tmp 60]) rfl ?_); at_builtin; refine Kd.R_append_rows (Kd.int .u8) (w0 := w) w.heap.size rfl (.tmp 54) (.tmp 60) 22 5 (.int .u8 0) 1 rfl Try.underlying22 info5 rfl zk47 zk6 u5 x5_2 t172 _ _ _ (fun k_ => some k_ ≠ (.slice Ao30 t172.length co30 : Value).ownBlock) (fun _ => False) rfl rfl ?aO ?aR (fun _ _ h => h) (fun _ h => h.elim) ?aF ?aB ?aS ?aL ?_; (case aR => repeat (first | exact (Kd.R_reads' HO174.out).2.2 | (with_reducible refine Kd.C_alloc ?_ _) | (with_reducible refine Kd.C_drewN ?_ _) | (with_reducible refine Kd.C_drew ?_))); (case aB => exact zk27); (case aF => exact (fun k_ hk => Kd.fresh' (Kd.R_lt zk166) k_ hk)); (case aO => exact (by (with_reducible repeat (first | apply Kd.R_alloc | apply Kd.R_drewN | apply Kd.R_drew)); exact Kd.R_mono HO_5.out (fun _ hk => hk.2))); (case aS => exact zk25); (case aL => have := LMc27.out; omega); intro v176 w29 ho hb hg hat; rw [← Ny175.out] at ho; have n0_ := mkA (Kd.R_after (ok := (fun _ => True)) zk166 hg hat); have n1_ := mkA (hb); have n2_ := mkA (ho); clear HO174; clear HB; clear HO_5; have HO174 := n0_; have HB := n1_; have HO177 := n2_; clear n0_ n1_ n2_; clear ho hb hg hat))); go_roundg k2
                case measure => have := HJ1.out; have := HK2.out; omega
                case rel => exact ⟨(y175), (wrap64 (x6_2 + 1)), (wrap64 (x7_2 + 1)), zk14, zk14, H', ⟨zk193⟩, ⟨by (with_reducible repeat (first | apply Kd.R_alloc | apply Kd.R_drewN | apply Kd.R_drew)); exact Kd.R_mono HO177.out (fun _ hk => trivial)⟩, ⟨zk1⟩⟩
               ·rw [if_neg c27] at H; exact absurd H zk56
              ·rw [if_neg c25] at H
               have c25b0 : (((rd_T70 l0 x6_2).f0) == (wrap64 (((rd_T70 l0 0).f0) + x7_2))) = false := beq_eq_false_iff_ne.mpr c25; have c25b1 : (((rd_T70 l0 x6_2).f0) != (wrap64 (((rd_T70 l0 0).f0) + x7_2))) = true := bne_iff_ne.mpr c25; by_cases c31 : x5_2.length < 140737488355328
               ·rw [if_pos c31] at H
                have LMc31 := mkA c31; clear c31; obtain ⟨y178, hy178⟩ : ∃ y_ : List Int, y_ = (x5_2 ++ [0]) := ⟨_, rfl⟩
                replace H : (varveref07_dense.l0 k2 l0 ((rd_T70 l0 0).f0) (wrap64 ((wrap64 (((rd_T70 l0 (ji7)).f0) - ((rd_T70 l0 0).f0))) + 1)) y178 x6_2 (wrap64 (x7_2 + 1))) = some r := by first | (rw [hy178]; with_reducible exact H) | (have H2_ := (Option.bind_some _ _).symm.trans H; rw [hy178]; with_reducible exact H2_) | (have H2_ := (Option.bind_some _ _).symm.trans H; with_reducible exact H2_) | with_reducible exact H | (rw [hy178]; exact H) | exact H
                have Ny178 := mkA hy178; clear hy178; have H' := mkA H; clear H; have p170 : 0 ≤ (x6_2 : Int) := of_decide_eq_true zk8; have q170 : x6_2 < (l0.length : Int) := of_decide_eq_true zk8; obtain ⟨ad170, e170, hx170_0, hx170_1⟩ := at_T70 HR0.out x6_2 p170 q170; obtain rfl : ad153 = ad170 := (by injection e170)
                replace hx170_0 := (HB.out.cell (World.block_lt_of_cell? w _ hx170_0)).trans hx170_0; replace hx170_1 := (HB.out.cell (World.block_lt_of_cell? w _ hx170_1)).trans hx170_1; replace p170 := eq_true p170; replace q170 := eq_true q170; (go_wp2_with (first | ((with_reducible refine gate_builtin (b := .append) (xs := #[.tmp 64, .tmp 65]) rfl ?_); at_builtin; refine Kd.R_append (Kd.int .u8) (w0 := w) w.heap.size rfl (.tmp 64) (.tmp 65) 22 5 (.int .u8 0) 1 rfl Try.underlying22 info5 rfl zk47 zk6 u5 x5_2 0 [.int .u8 0] (fun _ => True) (fun _ => False) rfl rfl ?aP (fun _ hk => hk.elim) ?aF ?aO ?aB ?aS ?aL ?_; (case aP => exact rfl); (case aB => exact zk27); (case aF => exact zk125); (case aO => exact zk72); (case aS => exact zk25); (case aL => have := LMc31.out; omega); intro v179 w32 ho hb hg hat; rw [← Ny178.out] at ho; have n0_ := mkA (hb); have n1_ := mkA (ho); clear HB; clear HO_5; have HB := n0_; have HO180 := n1_; clear n0_ n1_; clear ho hb hg hat))); go_roundg k2
                case measure => have := HJ1.out; have := HK2.out; omega
                case rel => exact ⟨(y178), (x6_2), (wrap64 (x7_2 + 1)), zk14, zk14, H', ⟨zk193⟩, ⟨by (with_reducible repeat (first | apply Kd.R_alloc | apply Kd.R_drewN | apply Kd.R_drew)); exact HO180.out⟩, ⟨zk1⟩⟩
               ·rw [if_neg c31] at H; exact absurd H zk56
             ·rw [if_neg c24] at H; exact absurd H zk56
            ·rw [if_neg c23] at H; exact absurd H zk56
           ·rw [if_neg c22] at H
            have c22b0 : decide (x7_2 < (wrap64 ((wrap64 (((rd_T70 l0 (ji7)).f0) - ((rd_T70 l0 0).f0))) + 1))) = false := decide_eq_false c22; clear c22; obtain rfl := Option.some.inj H; go_wp2; go_ret
            exact ⟨_, by first | rfl | (simp [errW_none, errW_some] <;> rfl) | (simp only [← hji7]; first | rfl | (simp [errW_none, errW_some] <;> rfl)) | (simp [*, errW_none, errW_some] <;> rfl), zk72, zk1⟩
        ·exact zk229
       ·exact zk230
      ·exact zk237
     ·exact zk239
    ·exact zk227
def varveref07_Put.f (k : Nat) (l0 : List (S70)) : Option (List Int) := (varveref07_sparse.f k l0).bind fun t181 => ((varveref07_dense.f k l0).bind fun t184 => (if (t184.length : Int) > 0 then (if (t184.length : Int) < (t181.length : Int) then (some t184) else (some t181)) else (some t181)))
set_option maxHeartbeats 8000000 in
set_option maxRecDepth 100000 in
theorem varveref07_Put.calls (k : Nat) (A0 : Option Addr) (c0 : Nat) (l0 : List (S70)) (r : List Int) (w : World) (hr0 : Kd.C k70 w A0 l0.length l0) (hc0 : l0.length ≤ c0) (h : varveref07_Put.f k l0 = some r) :
  Calls Try.prog 17 #[.slice A0 l0.length c0] w fun e w' => ∃ v0_ : Value, e = .returned (v0_) ∧ Kd.R (Kd.int .u8) 5 w' w.heap.size (fun _ => True) v0_ r ∧ Below w.heap.size w w' := by
 have HR0 := mkA hr0; have HC0 := mkA hc0; clear hr0 hc0; have HB := mkA (Below.refl w.heap.size w); have H : ((varveref07_sparse.f k l0).bind fun t181 => ((varveref07_dense.f k l0).bind fun t184 => (if (t184.length : Int) > 0 then (if (t184.length : Int) < (t181.length : Int) then (some t184) else (some t181)) else (some t181)))) = some r := h; clear h; replace H := Option.bind_eq_some_iff.mp H; obtain ⟨t181, A20, H⟩ := H; replace H : ((varveref07_dense.f k l0).bind fun t184 => (if (t184.length : Int) > 0 then (if (t184.length : Int) < (t181.length : Int) then (some t184) else (some t181)) else (some t181))) = some r := H; have A2 := mkA A20; clear A20; replace H := Option.bind_eq_some_iff.mp H; obtain ⟨t184, A30, H⟩ := H; replace H : (if (t184.length : Int) > 0 then (if (t184.length : Int) < (t181.length : Int) then (some t184) else (some t181)) else (some t181)) = some r := H; have A3 := mkA A30; clear A30; by_cases c4 : (t184.length : Int) > 0
 ·rw [if_pos c4] at H
  have c4b0 : decide (0 < (t184.length : Int)) = true := decide_eq_true c4; have c4b1 : decide (0 < t184.length) = true := decide_eq_true zk6; clear c4; by_cases c5 : (t184.length : Int) < (t181.length : Int)
  ·rw [if_pos c5] at H
   have c5b0 : decide ((t184.length : Int) < (t181.length : Int)) = true := decide_eq_true c5; have c5b1 : decide (t184.length < t181.length) = true := decide_eq_true (Int.ofNat_lt.mp c5); clear c5; obtain rfl := Option.some.inj H; go_enter Try.func17, Try.ntmps17; (go_wp2_with (first | ((with_reducible refine gate_callee (f := 50) rfl ?_); refine goesL_ (some 6) rfl rfl Try.func50 zk11 rfl #[.slice A0 l0.length c0] rfl zk2 ?_; (with_reducible refine (varveref07_sparse.calls k _ _ l0 t181 _ ?side1 ?side2 A2.out).mono ?_); (case side1 => exact zk46); (case side2 => exact HC0.out); rintro e w6 ⟨v182, rfl, ho0, hb⟩; refine ⟨_, rfl, ?_⟩; have n0_ := mkA (Kd.R_lower ho0 (below_size zk1)); have n1_ := mkA (below_step zk1 hb); clear HB; have HO183 := n0_; have HB := n1_; clear n0_ n1_; (try clear hb); (try clear hb2); (try clear hk); (try clear hi); (try clear ho0)) | ((with_reducible refine gate_callee (f := 51) rfl ?_); refine goesL_ (some 8) rfl rfl Try.func51 zk11 rfl #[.slice A0 l0.length c0] rfl zk2 ?_; (with_reducible refine (varveref07_dense.calls k _ _ l0 t184 _ ?side1 ?side2 A3.out).mono ?_); (case side1 => exact zk49); (case side2 => exact HC0.out); rintro e w7 ⟨v185, rfl, ho0, hb⟩; refine ⟨_, rfl, ?_⟩; have n0_ := mkA (Kd.R_elder' zk87 (Kd.R_base ho0) hb); have n1_ := mkA (Kd.R_lower (Kd.R_new' ho0 (Kd.R_lt zk87)) (below_size zk1)); have n2_ := mkA (below_step zk1 hb); clear HO183; clear HB; have HO183 := n0_; have HO186 := n1_; have HB := n2_; clear n0_ n1_ n2_; (try clear hb); (try clear hb2); (try clear hk); (try clear hi); (try clear ho0); obtain ⟨Ao8, co8, eo8⟩ := Kd.R_slice HO186.out; subst eo8; obtain ⟨Ao9, co9, eo9⟩ := Kd.R_slice HO183.out; subst eo9))); go_ret
   exact ⟨_, zk7, by (with_reducible repeat (first | apply Kd.R_alloc | apply Kd.R_drewN | apply Kd.R_drew)); exact Kd.R_mono HO186.out (fun _ hk => trivial), zk1⟩
  ·rw [if_neg c5] at H
   have c5b0 : decide ((t184.length : Int) < (t181.length : Int)) = false := decide_eq_false c5; have c5b1 : decide (t184.length < t181.length) = false := decide_eq_false (fun h => c5 (Int.ofNat_lt.mpr h)); clear c5; obtain rfl := Option.some.inj H; go_enter Try.func17, Try.ntmps17; (go_wp2_with (first | ((with_reducible refine gate_callee (f := 50) rfl ?_); refine goesL_ (some 6) rfl rfl Try.func50 zk11 rfl #[.slice A0 l0.length c0] rfl zk2 ?_; (with_reducible refine (varveref07_sparse.calls k _ _ l0 t181 _ ?side1 ?side2 A2.out).mono ?_); (case side1 => exact zk46); (case side2 => exact HC0.out); rintro e w10 ⟨v182, rfl, ho0, hb⟩; refine ⟨_, rfl, ?_⟩; have n0_ := mkA (Kd.R_lower ho0 (below_size zk1)); have n1_ := mkA (below_step zk1 hb); clear HB; have HO183 := n0_; have HB := n1_; clear n0_ n1_; (try clear hb); (try clear hb2); (try clear hk); (try clear hi); (try clear ho0)) | ((with_reducible refine gate_callee (f := 51) rfl ?_); refine goesL_ (some 8) rfl rfl Try.func51 zk11 rfl #[.slice A0 l0.length c0] rfl zk2 ?_; (with_reducible refine (varveref07_dense.calls k _ _ l0 t184 _ ?side1 ?side2 A3.out).mono ?_); (case side1 => exact zk49); (case side2 => exact HC0.out); rintro e w11 ⟨v185, rfl, ho0, hb⟩; refine ⟨_, rfl, ?_⟩; have n0_ := mkA (Kd.R_elder' zk87 (Kd.R_base ho0) hb); have n1_ := mkA (Kd.R_lower (Kd.R_new' ho0 (Kd.R_lt zk87)) (below_size zk1)); have n2_ := mkA (below_step zk1 hb); clear HO183; clear HB; have HO183 := n0_; have HO186 := n1_; have HB := n2_; clear n0_ n1_ n2_; (try clear hb); (try clear hb2); (try clear hk); (try clear hi); (try clear ho0); obtain ⟨Ao12, co12, eo12⟩ := Kd.R_slice HO186.out; subst eo12; obtain ⟨Ao13, co13, eo13⟩ := Kd.R_slice HO183.out; subst eo13))); go_ret
   exact ⟨_, zk7, zk151, zk1⟩
 ·rw [if_neg c4] at H
  have c4b0 : decide (0 < (t184.length : Int)) = false := decide_eq_false c4; have c4b1 : decide (0 < t184.length) = false := decide_eq_false zk6; clear c4; obtain rfl := Option.some.inj H; go_enter Try.func17, Try.ntmps17; (go_wp2_with (first | ((with_reducible refine gate_callee (f := 50) rfl ?_); refine goesL_ (some 6) rfl rfl Try.func50 zk11 rfl #[.slice A0 l0.length c0] rfl zk2 ?_; (with_reducible refine (varveref07_sparse.calls k _ _ l0 t181 _ ?side1 ?side2 A2.out).mono ?_); (case side1 => exact zk46); (case side2 => exact HC0.out); rintro e w14 ⟨v182, rfl, ho0, hb⟩; refine ⟨_, rfl, ?_⟩; have n0_ := mkA (Kd.R_lower ho0 (below_size zk1)); have n1_ := mkA (below_step zk1 hb); clear HB; have HO183 := n0_; have HB := n1_; clear n0_ n1_; (try clear hb); (try clear hb2); (try clear hk); (try clear hi); (try clear ho0)) | ((with_reducible refine gate_callee (f := 51) rfl ?_); refine goesL_ (some 8) rfl rfl Try.func51 zk11 rfl #[.slice A0 l0.length c0] rfl zk2 ?_; (with_reducible refine (varveref07_dense.calls k _ _ l0 t184 _ ?side1 ?side2 A3.out).mono ?_); (case side1 => exact zk49); (case side2 => exact HC0.out); rintro e w15 ⟨v185, rfl, ho0, hb⟩; refine ⟨_, rfl, ?_⟩; have n0_ := mkA (Kd.R_elder' zk87 (Kd.R_base ho0) hb); have n1_ := mkA (Kd.R_lower (Kd.R_new' ho0 (Kd.R_lt zk87)) (below_size zk1)); have n2_ := mkA (below_step zk1 hb); clear HO183; clear HB; have HO183 := n0_; have HO186 := n1_; have HB := n2_; clear n0_ n1_ n2_; (try clear hb); (try clear hb2); (try clear hk); (try clear hi); (try clear ho0); obtain ⟨Ao16, co16, eo16⟩ := Kd.R_slice HO186.out; subst eo16))); go_ret
  exact ⟨_, zk7, zk151, zk1⟩
end Go.Proofs.Ytplgffbfepnihaa.Vt
namespace Go.Proofs.Ytplgffbfepnihaa.Vt
open Go.RowKit Go.Proofs.YtplgffbfepnihaaW.PrintWords Go.Proofs.YtplgffbfepnihaaW.PrintLast Go.Proofs.YtplgffbfepnihaaW.PrintMore Go.Proofs.Ytplgffbfepnihaa.Hi Go.Proofs.Ytplgffbfepnihaa.Q
def IsS29 (w0 W : World) (g : Nat) (f0 : List Int) (f1 : Int) (f2 : Bool) : Prop := ∃ A0 c0, W.heap[g]? = some (.cells #[.slice A0 f0.length c0, .int .i64 f1, .bool f2] 29 (0, 0)) ∧ (w0.heap.size ≤ g ∧ f0.length ≤ c0) ∧ Kd.C (Kd.int .u8) w0 A0 f0.length f0
theorem IsS29.grown {w0 W : World} {g : Nat} {f0 : List Int} {f1 : Int} {f2 : Bool} {W1 : World} {row : Option Nat} (h : IsS29 w0 W g f0 f1 f2) (hw : W.grownBy W1 row) (hne : some g ≠ row) : IsS29 w0 W1 g f0 f1 f2 := by
 obtain ⟨A0, c0, hb, hg, hr0⟩ := h; exact ⟨A0, c0, blk_grown hb hw hne, hg, hr0⟩
theorem IsS29.below {w0 W : World} {g : Nat} {f0 : List Int} {f1 : Int} {f2 : Bool} {W1 : World} (h : IsS29 w0 W g f0 f1 f2) (hw : Below W.heap.size W W1) : IsS29 w0 W1 g f0 f1 f2 := h.grown (grown_of_below hw none) (by simp)
theorem IsS29.drewN {w0 W : World} {g : Nat} {f0 : List Int} {f1 : Int} {f2 : Bool} (h : IsS29 w0 W g f0 f1 f2) (m : Nat) : IsS29 w0 (W.drewN m) g f0 f1 f2 := h
theorem IsS29.apart {w0 W : World} {g : Nat} {f0 : List Int} {f1 : Int} {f2 : Bool} {α : Type} {d : Kd α} {e : Nat} {base : Nat} {ok : Nat → Prop} {v : Value} {xs : List α} (h : IsS29 w0 W g f0 f1 f2) (ho : d.R e W base ok v xs) (ht : ∀ q, q ∈ e :: d.E → q ≠ 29) : d.R e W base (fun k => ok k ∧ k ≠ g) v xs := by
 obtain ⟨A0, c0, hb, hg, hr0⟩ := h; exact Kd.R_types ho hb ht
theorem IsS29.own_ne {w0 W : World} {g : Nat} {f0 : List Int} {f1 : Int} {f2 : Bool} {α : Type} {d : Kd α} {e : Nat} {base : Nat} {ok : Nat → Prop} {v : Value} {xs : List α} (h : IsS29 w0 W g f0 f1 f2) (ho : d.R e W base ok v xs) (ht : e ≠ 29) : some g ≠ v.ownBlock := by
 obtain ⟨A0, c0, hb, hg, hr0⟩ := h; exact Kd.R_ne ho hb ht
theorem IsS29.lt {w0 W : World} {g : Nat} {f0 : List Int} {f1 : Int} {f2 : Bool} (h : IsS29 w0 W g f0 f1 f2) : g < W.heap.size := by
 obtain ⟨A0, c0, hb, hg, hr0⟩ := h; exact blk_lt hb
theorem IsS29.ge {w0 W : World} {g : Nat} {f0 : List Int} {f1 : Int} {f2 : Bool} (h : IsS29 w0 W g f0 f1 f2) : w0.heap.size ≤ g := by
 obtain ⟨A0, c0, hb, hg, hr0⟩ := h; exact hg.1
theorem IsS29.far {w0 W : World} {g : Nat} {f0 : List Int} {f1 : Int} {f2 : Bool} {p : Addr} (h : IsS29 w0 W g f0 f1 f2) (hne : g ≠ p.block) (u : Value) : IsS29 w0 (W.setCell p u) g f0 f1 f2 := by
 obtain ⟨A0, c0, hb, hg, hr0⟩ := h; exact ⟨A0, c0, blk_far hb hne u, hg, hr0⟩
theorem cellS29_0 {W : World} {g : Nat} {A0 : Option Addr} {c0 : Nat} {f0 : List Int} {f1 : Int} {f2 : Bool} (h : W.heap[g]? = some (.cells #[.slice A0 f0.length c0, .int .i64 f1, .bool f2] 29 (0, 0))) : W.cell? ⟨g, 0, none⟩ = some (.slice A0 f0.length c0) := (blk_cell h 0).trans rfl
theorem cellS29_1 {W : World} {g : Nat} {A0 : Option Addr} {c0 : Nat} {f0 : List Int} {f1 : Int} {f2 : Bool} (h : W.heap[g]? = some (.cells #[.slice A0 f0.length c0, .int .i64 f1, .bool f2] 29 (0, 0))) : W.cell? ⟨g, 1, none⟩ = some (.int .i64 f1) := (blk_cell h 1).trans rfl
theorem IsS29.set_1 {w0 W : World} {g : Nat} {f0 : List Int} {f1 : Int} {f2 : Bool} (h : IsS29 w0 W g f0 f1 f2) (x : Int) : IsS29 w0 (W.setCell ⟨g, 1, none⟩ (.int .i64 x)) g f0 x f2 := by
 obtain ⟨A0, c0, hb, hg, hr0⟩ := h; exact ⟨A0, c0, by simpa using blk_set hb 1 (.int .i64 x), hg, hr0⟩
theorem cellS29_2 {W : World} {g : Nat} {A0 : Option Addr} {c0 : Nat} {f0 : List Int} {f1 : Int} {f2 : Bool} (h : W.heap[g]? = some (.cells #[.slice A0 f0.length c0, .int .i64 f1, .bool f2] 29 (0, 0))) : W.cell? ⟨g, 2, none⟩ = some (.bool f2) := (blk_cell h 2).trans rfl
theorem IsS29.set_2 {w0 W : World} {g : Nat} {f0 : List Int} {f1 : Int} {f2 : Bool} (h : IsS29 w0 W g f0 f1 f2) (x : Bool) : IsS29 w0 (W.setCell ⟨g, 2, none⟩ (.bool x)) g f0 f1 x := by
 obtain ⟨A0, c0, hb, hg, hr0⟩ := h; exact ⟨A0, c0, by simpa using blk_set hb 2 (.bool x), hg, hr0⟩
mutual
def varveref04_R_Num.l0 : Nat → Int → Int → List Int → Int → Bool → Option (Int × Int × Bool)
 | 0, _, _, _, _, _ => none
 | k + 1, x3, x4, x1000, x1001, x1002 => if x4 < 10 then (if x1002 = true then (varveref04_R_Num.j1 k x3 x4 true x1000 x1001 x1002) else (if x1001 < 0 then (varveref04_R_Num.j1 k x3 x4 true x1000 x1001 x1002) else (varveref04_R_Num.j1 k x3 x4 (decide (x1001 ≥ (x1000.length : Int))) x1000 x1001 x1002))) else (some (0, x1001, true))
def varveref04_R_Num.j1 : Nat → Int → Int → Bool → List Int → Int → Bool → Option (Int × Int × Bool)
 | 0, _, _, _, _, _, _ => none
 | k + 1, x3, x4, x32, x1000, x1001, x1002 => if x32 = true then (some (0, x1001, true)) else (if 0 ≤ x1001 then (if x1001 < (x1000.length : Int) then (if x4 = 9 then (varveref04_R_Num.j2 k x3 x4 (rd x1000 x1001) (decide ((rd x1000 x1001) > 1)) x1000 (wrap64 (x1001 + 1)) x1002) else (varveref04_R_Num.j2 k x3 x4 (rd x1000 x1001) false x1000 (wrap64 (x1001 + 1)) x1002)) else (none)) else (none))
def varveref04_R_Num.j2 : Nat → Int → Int → Int → Bool → List Int → Int → Bool → Option (Int × Int × Bool)
 | 0, _, _, _, _, _, _, _ => none
 | k + 1, x3, x4, x5, x58, x1000, x1001, x1002 => if x58 = true then (some (0, x1001, true)) else (if 0 ≤ (IntKind.u64.wrap (wrap64 (7 * x4))) then (if x5 < 128 then (if x5 = 0 then (if x4 > 0 then (some (0, x1001, true)) else (some (IntKind.u64.wrap (x3 + (shl .u64 (IntKind.u64.wrap (Int.tmod x5 128)) (IntKind.u64.wrap (wrap64 (7 * x4))))), x1001, x1002))) else (some (IntKind.u64.wrap (x3 + (shl .u64 (IntKind.u64.wrap (Int.tmod x5 128)) (IntKind.u64.wrap (wrap64 (7 * x4))))), x1001, x1002))) else (varveref04_R_Num.l0 k (IntKind.u64.wrap (x3 + (shl .u64 (IntKind.u64.wrap (Int.tmod x5 128)) (IntKind.u64.wrap (wrap64 (7 * x4)))))) (wrap64 (x4 + 1)) x1000 x1001 x1002)) else (none))
end
def varveref04_R_Num.f (k : Nat) (s0_0 : List Int) (s0_1 : Int) (s0_2 : Bool) : Option (Int × Int × Bool) := varveref04_R_Num.l0 k 0 0 s0_0 s0_1 s0_2
set_option maxHeartbeats 8000000 in
set_option maxRecDepth 100000 in
theorem varveref04_R_Num.calls (k : Nat) (g : Nat) (s0_0 : List Int) (s0_1 : Int) (s0_2 : Bool) (r1 : Int) (r2 : Int) (r3 : Bool) (w0 w : World) (hI : IsS29 w0 w g s0_0 s0_1 s0_2) (hB : Below w0.heap.size w0 w) (h : varveref04_R_Num.f k s0_0 s0_1 s0_2 = some (r1, r2, r3)) :
  Calls Try.prog 42 #[.pointer (some ⟨g, 0, none⟩)] w fun e w' => e = .returned (.int .u64 r1) ∧ IsS29 w0 w' g s0_0 r2 r3 ∧ Below w0.heap.size w0 w' ∧ KeepBut w w' g none := by
 have HI0 := mkA hI; have HK := mkA (KeepBut.refl w g none); have HL := mkA hB.size; clear hI; have HW0 := mkA hB.size; have HB := mkA hB; clear hB; have H : (varveref04_R_Num.l0 k 0 0 s0_0 s0_1 s0_2) = some (r1, r2, r3) := h; clear h; have H' := mkA H; clear H; go_enter Try.func42, Try.ntmps42; go_wp2; (repeat (go_quiet (fail); try go_wp2)); go_loopg [3, 4] k (fun kq v3 v4 w' => ∃ (x3_1 : Int) (x4_1 : Int) (x1001_1 : Int) (x1002_1 : Bool), v3 = .int .u64 x3_1 ∧ v4 = .int .i64 x4_1 ∧ Aside0 (varveref04_R_Num.l0 kq x3_1 x4_1 s0_0 x1001_1 x1002_1 = some (r1, r2, r3)) ∧ Aside0 (kq ≤ k) ∧ Aside0 (IsS29 w0 w' g s0_0 x1001_1 x1002_1) ∧ Aside0 (KeepBut w w' g none) ∧ Aside0 (Below w0.heap.size w0 w'))
 case atStart => exact ⟨(0), (0), (s0_1), (s0_2), zk14, zk14, H', ⟨Nat.le_refl _⟩, ⟨zk4⟩, ⟨zk5⟩, ⟨zk3⟩⟩
 case round =>
  clear H'; obtain ⟨x3_1, x4_1, x1001_1, x1002_1, rfl, rfl, HA, HK1, HI0, HK, HB⟩ := hrel
  cases gk with
  | zero => exact absurd HA.out (by simp [varveref04_R_Num.l0])
  | succ k1 =>
   have H := HA.out; clear HA; simp only [varveref04_R_Num.l0] at H; by_cases c2 : x4_1 < 10
   ·rw [if_pos c2] at H
    have c2b0 : decide (x4_1 < 10) = true := decide_eq_true c2; clear c2; have HC3 := mkA H; clear H; go_upto_region 5 with (fail)
    repeat (go_quiet (fail); go_upto_region 5 with (fail))
    go_cut [32] (fun v32 wc => ∃ (kq : Nat) (x32_2 : Bool), v32 = .bool x32_2 ∧ Aside0 (varveref04_R_Num.j1 kq x3_1 x4_1 x32_2 s0_0 x1001_1 x1002_1 = some (r1, r2, r3)) ∧ Aside0 (kq ≤ k1) ∧ Aside0 (IsS29 w0 wc g s0_0 x1001_1 x1002_1) ∧ Aside0 (KeepBut w wc g none) ∧ Aside0 (Below w0.heap.size w0 wc))
    case first =>
     have H := HC3.out; clear HC3; by_cases c4 : x1002_1 = true
     ·subst c4
      have H1 : (varveref04_R_Num.j1 k1 x3_1 x4_1 true s0_0 x1001_1 true) = some (r1, r2, r3) := zk76
      clear H; have H := H1; clear H1; have H' := mkA H; clear H; obtain ⟨ASz5_0, cSz5_0, HGz5, hgz5, HSz5_0⟩ := HI0.out; have hcz5_0 := cellS29_0 HGz5; have hcz5_1 := cellS29_1 HGz5; have hcz5_2 := cellS29_2 HGz5; have hfz5_1 := blk_frozen HGz5 1; have hfz5_2 := blk_frozen HGz5 2; clear HGz5 hgz5; go_wp2; (repeat (go_quiet (fail); try go_wp2)); go_meet
      case rel => exact ⟨_, (true), zk14, H', ⟨zk126⟩, ⟨zk4⟩, ⟨zk5⟩, ⟨zk3⟩⟩
     ·replace c4 := Bool.eq_false_iff.mpr c4
      subst c4; have H1 : (if x1001_1 < 0 then (varveref04_R_Num.j1 k1 x3_1 x4_1 true s0_0 x1001_1 false) else (varveref04_R_Num.j1 k1 x3_1 x4_1 (decide (x1001_1 ≥ (s0_0.length : Int))) s0_0 x1001_1 false)) = some (r1, r2, r3) := zk41
      clear H; have H := H1; clear H1; by_cases c6 : x1001_1 < 0
      ·rw [if_pos c6] at H
       have c6b0 : decide (x1001_1 < 0) = true := decide_eq_true c6; clear c6; (first | rw [c6b0] | (simp only [i64_w, i32_w]; rw [c6b0]) | skip); have H' := mkA H; clear H; obtain ⟨ASz7_0, cSz7_0, HGz7, hgz7, HSz7_0⟩ := HI0.out; have hcz7_0 := cellS29_0 HGz7; have hcz7_1 := cellS29_1 HGz7; have hcz7_2 := cellS29_2 HGz7; have hfz7_1 := blk_frozen HGz7 1; have hfz7_2 := blk_frozen HGz7 2; clear HGz7 hgz7; go_wp2; (repeat (go_quiet (fail); try go_wp2)); go_meet
       case rel => exact ⟨_, (true), zk14, H', ⟨zk126⟩, ⟨zk4⟩, ⟨zk5⟩, ⟨zk3⟩⟩
      ·rw [if_neg c6] at H
       have c6b0 : decide (x1001_1 < 0) = false := decide_eq_false c6; clear c6; (first | rw [c6b0] | (simp only [i64_w, i32_w]; rw [c6b0]) | skip); have H' := mkA H; clear H; obtain ⟨ASz8_0, cSz8_0, HGz8, hgz8, HSz8_0⟩ := HI0.out; have hcz8_0 := cellS29_0 HGz8; have hcz8_1 := cellS29_1 HGz8; have hcz8_2 := cellS29_2 HGz8; have hfz8_1 := blk_frozen HGz8 1; have hfz8_2 := blk_frozen HGz8 2; clear HGz8 hgz8; go_wp2; (repeat (go_quiet (fail); try go_wp2)); go_meet
       case rel => exact ⟨_, (decide (x1001_1 ≥ (s0_0.length : Int))), zk14, H', ⟨zk126⟩, ⟨zk4⟩, ⟨zk5⟩, ⟨zk3⟩⟩
    case rest =>
     clear HC3; (try clear c2); (try clear c2b0); (try clear p2); (try clear c4); (try clear c6); (try clear c6b0); (try clear hcz5_0); (try clear hcz5_1); (try clear hcz5_2); (try clear hcz7_0); (try clear hcz7_1); (try clear hcz7_2); (try clear hcz8_0); (try clear hcz8_1); (try clear hcz8_2); (try clear hfz5_1); (try clear hfz5_2); (try clear hfz7_1); (try clear hfz7_2); (try clear hfz8_1); (try clear hfz8_2); obtain ⟨kq, x32_2, rfl, HA, HJ2, HI0, HK, HB⟩ := hcut
     cases kq with
     | zero => exact absurd HA.out (by simp [varveref04_R_Num.j1])
     | succ kj2 =>
      have H := HA.out; clear HA; simp only [varveref04_R_Num.j1] at H; by_cases c9 : x32_2 = true
      ·subst c9
       have H1 : (some (0, x1001_1, true)) = some (r1, r2, r3) := zk76
       clear H; have H := H1; clear H1; simp only [Option.some.injEq, Prod.mk.injEq] at H; obtain ⟨rfl, rfl, rfl⟩ := H; obtain ⟨ASz10_0, cSz10_0, HGz10, hgz10, HSz10_0⟩ := HI0.out; have hcz10_0 := cellS29_0 HGz10; have hcz10_1 := cellS29_1 HGz10; have hcz10_2 := cellS29_2 HGz10; have hfz10_1 := blk_frozen HGz10 1; have hfz10_2 := blk_frozen HGz10 2; clear HGz10 hgz10; go_wp2; (repeat (go_quiet (fail); try go_wp2)); go_ret
       exact zk246
      ·replace c9 := Bool.eq_false_iff.mpr c9
       subst c9; have H1 : (if 0 ≤ x1001_1 then (if x1001_1 < (s0_0.length : Int) then (if x4_1 = 9 then (varveref04_R_Num.j2 kj2 x3_1 x4_1 (rd s0_0 x1001_1) (decide ((rd s0_0 x1001_1) > 1)) s0_0 (wrap64 (x1001_1 + 1)) x1002_1) else (varveref04_R_Num.j2 kj2 x3_1 x4_1 (rd s0_0 x1001_1) false s0_0 (wrap64 (x1001_1 + 1)) x1002_1)) else (none)) else (none)) = some (r1, r2, r3) := zk41
       clear H; have H := H1; clear H1; by_cases c11 : 0 ≤ x1001_1
       ·rw [if_pos c11] at H
        have c11b0 : decide (0 ≤ x1001_1) = true := decide_eq_true c11; clear c11; by_cases c12 : x1001_1 < (s0_0.length : Int)
        ·rw [if_pos c12] at H
         have c12b0 : decide (x1001_1 < (s0_0.length : Int)) = true := decide_eq_true c12; clear c12; have HC13 := mkA H; clear H; obtain ⟨ASz14_0, cSz14_0, HGz14, hgz14, HSz14_0⟩ := HI0.out; have hcz14_0 := cellS29_0 HGz14; have hcz14_1 := cellS29_1 HGz14; have hcz14_2 := cellS29_2 HGz14; have hfz14_1 := blk_frozen HGz14 1; have hfz14_2 := blk_frozen HGz14 2; clear HGz14 hgz14; have p187 : 0 ≤ (x1001_1 : Int) := of_decide_eq_true zk8; have q187 : x1001_1 < (s0_0.length : Int) := of_decide_eq_true zk8; obtain ⟨ad187, e187, hx187_0⟩ := Kd.at_int HSz14_0 x1001_1 p187 q187; cases e187; replace hx187_0 := pw_cell_below HB.out hx187_0; replace p187 := eq_true p187; replace q187 := eq_true q187; go_upto_region 10 with (fail)
         repeat (go_quiet (fail); go_upto_region 10 with (fail))
         go_cut [58] (fun v58 wc => ∃ (kq : Nat) (x58_12 : Bool), v58 = .bool x58_12 ∧ Aside0 (varveref04_R_Num.j2 kq x3_1 x4_1 (rd s0_0 x1001_1) x58_12 s0_0 (wrap64 (x1001_1 + 1)) x1002_1 = some (r1, r2, r3)) ∧ Aside0 (kq ≤ kj2) ∧ Aside0 (IsS29 w0 wc g s0_0 (wrap64 (x1001_1 + 1)) x1002_1) ∧ Aside0 (KeepBut w wc g none) ∧ Aside0 (Below w0.heap.size w0 wc))
         case first =>
          have H := HC13.out; clear HC13; by_cases c15 : x4_1 = 9
          ·rw [if_pos c15] at H
           have c15b0 : (x4_1 == 9) = true := beq_iff_eq.mpr c15; have c15b1 : (x4_1 != 9) = false := bne_eq_false_iff_eq.mpr c15; clear c15; (first | rw [c15b0] | (simp only [i64_w, i32_w]; rw [c15b0]) | skip); have H' := mkA H; clear H; go_wp2; (repeat (go_quiet (fail); try go_wp2)); go_meet
           case rel => exact ⟨_, (decide ((rd s0_0 x1001_1) > 1)), zk14, H', ⟨by have := HK1.out; have := HJ2.out; first | omega | exact Nat.le_refl _⟩, ⟨zk4⟩, ⟨zk5⟩, ⟨zk3⟩⟩
          ·rw [if_neg c15] at H
           have c15b0 : (x4_1 == 9) = false := beq_eq_false_iff_ne.mpr c15; have c15b1 : (x4_1 != 9) = true := bne_iff_ne.mpr c15; (first | rw [c15b0] | (simp only [i64_w, i32_w]; rw [c15b0]) | skip); have H' := mkA H; clear H; go_wp2; (repeat (go_quiet (fail); try go_wp2)); go_meet
           case rel => exact ⟨_, (false), zk14, H', ⟨by have := HK1.out; have := HJ2.out; first | omega | exact Nat.le_refl _⟩, ⟨zk4⟩, ⟨zk5⟩, ⟨zk3⟩⟩
         case rest =>
          clear HC13; (try clear c1); (try clear p1); (try clear q1); (try clear hx1); (try clear c2); (try clear c2b0); (try clear p2); (try clear c4); (try clear c6); (try clear c6b0); (try clear p6); (try clear c9); (try clear c11); (try clear c11b0); (try clear c12); (try clear c12b0); (try clear c15); (try clear c15b0); (try clear c15b1); (try clear hcz10_0); (try clear hcz10_1); (try clear hcz10_2); (try clear hcz14_0); (try clear hcz14_1); (try clear hcz14_2); (try clear hcz5_0); (try clear hcz5_1); (try clear hcz5_2); (try clear hcz7_0); (try clear hcz7_1); (try clear hcz7_2); (try clear hcz8_0); (try clear hcz8_1); (try clear hcz8_2); (try clear hfz10_1); (try clear hfz10_2); (try clear hfz14_1); (try clear hfz14_2); (try clear hfz5_1); (try clear hfz5_2); (try clear hfz7_1); (try clear hfz7_2); (try clear hfz8_1); (try clear hfz8_2); (try clear hx187_0); (try clear p187); (try clear p2); (try clear q187); obtain ⟨kq, x58_12, rfl, HA, HJ12, HI0, HK, HB⟩ := hcut
          cases kq with
          | zero => exact absurd HA.out (by simp [varveref04_R_Num.j2])
          | succ kj12 =>
           have H := HA.out; clear HA; simp only [varveref04_R_Num.j2] at H; by_cases c16 : x58_12 = true
           ·subst c16
            have H1 : (some (0, (wrap64 (x1001_1 + 1)), true)) = some (r1, r2, r3) := zk76
            clear H; have H := H1; clear H1; simp only [Option.some.injEq, Prod.mk.injEq] at H; obtain ⟨rfl, rfl, rfl⟩ := H; obtain ⟨ASz17_0, cSz17_0, HGz17, hgz17, HSz17_0⟩ := HI0.out; have hcz17_0 := cellS29_0 HGz17; have hcz17_1 := cellS29_1 HGz17; have hcz17_2 := cellS29_2 HGz17; have hfz17_1 := blk_frozen HGz17 1; have hfz17_2 := blk_frozen HGz17 2; clear HGz17 hgz17; go_wp2; (repeat (go_quiet (fail); try go_wp2)); go_ret
            exact zk246
           ·replace c16 := Bool.eq_false_iff.mpr c16
            subst c16; have H1 : (if 0 ≤ (IntKind.u64.wrap (wrap64 (7 * x4_1))) then (if (rd s0_0 x1001_1) < 128 then (if (rd s0_0 x1001_1) = 0 then (if x4_1 > 0 then (some (0, (wrap64 (x1001_1 + 1)), true)) else (some (IntKind.u64.wrap (x3_1 + (shl .u64 (IntKind.u64.wrap (Int.tmod (rd s0_0 x1001_1) 128)) (IntKind.u64.wrap (wrap64 (7 * x4_1))))), (wrap64 (x1001_1 + 1)), x1002_1))) else (some (IntKind.u64.wrap (x3_1 + (shl .u64 (IntKind.u64.wrap (Int.tmod (rd s0_0 x1001_1) 128)) (IntKind.u64.wrap (wrap64 (7 * x4_1))))), (wrap64 (x1001_1 + 1)), x1002_1))) else (varveref04_R_Num.l0 kj12 (IntKind.u64.wrap (x3_1 + (shl .u64 (IntKind.u64.wrap (Int.tmod (rd s0_0 x1001_1) 128)) (IntKind.u64.wrap (wrap64 (7 * x4_1)))))) (wrap64 (x4_1 + 1)) s0_0 (wrap64 (x1001_1 + 1)) x1002_1)) else (none)) = some (r1, r2, r3) := zk41
            clear H; have H := H1; clear H1; obtain ⟨ji18, hji18⟩ : ∃ j_ : Int, (IntKind.u64.wrap (wrap64 (7 * x4_1))) = j_ := ⟨_, rfl⟩
            replace H : (if 0 ≤ (ji18) then (if (rd s0_0 x1001_1) < 128 then (if (rd s0_0 x1001_1) = 0 then (if x4_1 > 0 then (some (0, (wrap64 (x1001_1 + 1)), true)) else (some (IntKind.u64.wrap (x3_1 + (shl .u64 (IntKind.u64.wrap (Int.tmod (rd s0_0 x1001_1) 128)) (ji18))), (wrap64 (x1001_1 + 1)), x1002_1))) else (some (IntKind.u64.wrap (x3_1 + (shl .u64 (IntKind.u64.wrap (Int.tmod (rd s0_0 x1001_1) 128)) (ji18))), (wrap64 (x1001_1 + 1)), x1002_1))) else (varveref04_R_Num.l0 kj12 (IntKind.u64.wrap (x3_1 + (shl .u64 (IntKind.u64.wrap (Int.tmod (rd s0_0 x1001_1) 128)) (ji18)))) (wrap64 (x4_1 + 1)) s0_0 (wrap64 (x1001_1 + 1)) x1002_1)) else (none)) = some (r1, r2, r3) := by first | (rw [hji18] at H; exact H) | (simp only [hji18] at H ⊢; exact H)
            by_cases c19 : 0 ≤ (ji18)
            ·rw [if_pos c19] at H
             have c19b0 := eq_true c19; have c19b1 : decide (0 ≤ (ji18)) = true := decide_eq_true c19; clear c19; obtain ⟨ji20, hji20⟩ : ∃ j_ : Int, (shl .u64 (IntKind.u64.wrap (Int.tmod (rd s0_0 x1001_1) 128)) (ji18)) = j_ := ⟨_, rfl⟩
             replace H : (if (rd s0_0 x1001_1) < 128 then (if (rd s0_0 x1001_1) = 0 then (if x4_1 > 0 then (some (0, (wrap64 (x1001_1 + 1)), true)) else (some (IntKind.u64.wrap (x3_1 + (ji20)), (wrap64 (x1001_1 + 1)), x1002_1))) else (some (IntKind.u64.wrap (x3_1 + (ji20)), (wrap64 (x1001_1 + 1)), x1002_1))) else (varveref04_R_Num.l0 kj12 (IntKind.u64.wrap (x3_1 + (ji20))) (wrap64 (x4_1 + 1)) s0_0 (wrap64 (x1001_1 + 1)) x1002_1)) = some (r1, r2, r3) := by first | (rw [hji20] at H; exact H) | (simp only [hji20] at H ⊢; exact H)
             have hji20_ : (IntKind.u64.wrap ((IntKind.u64.wrap (Int.tmod (rd s0_0 x1001_1) 128)) * 2 ^ min (ji18).toNat 64)) = ji20 := hji20; have hji20z : (ji18) ≤ 64 → (IntKind.u64.wrap ((IntKind.u64.wrap (Int.tmod (rd s0_0 x1001_1) 128)) * 2 ^ (ji18).toNat)) = ji20 := shl_small hji20; by_cases c21 : (rd s0_0 x1001_1) < 128
             ·rw [if_pos c21] at H
              have c21b0 : decide ((rd s0_0 x1001_1) < 128) = true := decide_eq_true c21; clear c21; by_cases c22 : (rd s0_0 x1001_1) = 0
              ·rw [if_pos c22] at H
               have c22b0 : ((rd s0_0 x1001_1) == 0) = true := beq_iff_eq.mpr c22; have c22b1 : ((rd s0_0 x1001_1) != 0) = false := bne_eq_false_iff_eq.mpr c22; clear c22; by_cases c23 : x4_1 > 0
               ·rw [if_pos c23] at H
                have c23b0 : decide (0 < x4_1) = true := decide_eq_true c23; clear c23; simp only [Option.some.injEq, Prod.mk.injEq] at H; obtain ⟨rfl, rfl, rfl⟩ := H; obtain ⟨ASz24_0, cSz24_0, HGz24, hgz24, HSz24_0⟩ := HI0.out; have hcz24_0 := cellS29_0 HGz24; have hcz24_1 := cellS29_1 HGz24; have hcz24_2 := cellS29_2 HGz24; have hfz24_1 := blk_frozen HGz24 1; have hfz24_2 := blk_frozen HGz24 2; clear HGz24 hgz24; go_wp2; (repeat (go_quiet (fail); try go_wp2)); go_ret
                exact ⟨zk95, zk4, zk3, zk5⟩
               ·rw [if_neg c23] at H
                have c23b0 : decide (0 < x4_1) = false := decide_eq_false c23; clear c23; simp only [Option.some.injEq, Prod.mk.injEq] at H; obtain ⟨rfl, rfl, rfl⟩ := H; go_wp2; (repeat (go_quiet (fail); try go_wp2)); go_ret
                exact ⟨zk95, zk4, zk3, zk5⟩
              ·rw [if_neg c22] at H
               have c22b0 : ((rd s0_0 x1001_1) == 0) = false := beq_eq_false_iff_ne.mpr c22; have c22b1 : ((rd s0_0 x1001_1) != 0) = true := bne_iff_ne.mpr c22; simp only [Option.some.injEq, Prod.mk.injEq] at H; obtain ⟨rfl, rfl, rfl⟩ := H; go_wp2; (repeat (go_quiet (fail); try go_wp2)); go_ret
               exact ⟨zk95, zk4, zk3, zk5⟩
             ·rw [if_neg c21] at H
              have c21b0 : decide ((rd s0_0 x1001_1) < 128) = false := decide_eq_false c21; clear c21; have H' := mkA H; clear H; go_wp2; (repeat (go_quiet (fail); try go_wp2)); go_roundg kj12
              case measure => have := HK1.out; have := HJ2.out; have := HJ12.out; omega
              case rel => exact ⟨(IntKind.u64.wrap (x3_1 + (ji20))), (wrap64 (x4_1 + 1)), ((wrap64 (x1001_1 + 1))), (x1002_1), (by first | rfl | (simp; done) | (simp only [← hji20] <;> (first | rfl | simp)) | (simp [*]; done)), zk14, H', ⟨by have := HK1.out; have := HJ2.out; have := HJ12.out; omega⟩, ⟨zk4⟩, ⟨zk5⟩, ⟨zk3⟩⟩
            ·rw [if_neg c19] at H; exact absurd H zk56
        ·rw [if_neg c12] at H; exact absurd H zk56
       ·exact zk230
   ·rw [if_neg c2] at H
    have c2b0 : decide (x4_1 < 10) = false := decide_eq_false c2; clear c2; simp only [Option.some.injEq, Prod.mk.injEq] at H; obtain ⟨rfl, rfl, rfl⟩ := H; obtain ⟨ASz25_0, cSz25_0, HGz25, hgz25, HSz25_0⟩ := HI0.out; have hcz25_0 := cellS29_0 HGz25; have hcz25_1 := cellS29_1 HGz25; have hcz25_2 := cellS29_2 HGz25; have hfz25_1 := blk_frozen HGz25 1; have hfz25_2 := blk_frozen HGz25 2; clear HGz25 hgz25; go_wp2; (repeat (go_quiet (fail); try go_wp2)); go_ret
    exact zk246
def varveref04_R_Count.f (k : Nat) (s0_0 : List Int) (s0_1 : Int) (s0_2 : Bool) (a1 : Int) : Option (Int × Int × Bool) := (varveref04_R_Num.f k s0_0 s0_1 s0_2).bind fun bt188 => (if bt188.2.2 = true then (some (0, bt188.2.1, true)) else (if a1 < 0 then (some (0, bt188.2.1, true)) else (if bt188.1 > (IntKind.u64.wrap (a1)) then (some (0, bt188.2.1, true)) else (if bt188.1 > (IntKind.u64.wrap (wrap64 ((s0_0.length : Int) - bt188.2.1))) then (some (0, bt188.2.1, true)) else (some (wrap64 (bt188.1), bt188.2.1, bt188.2.2))))))
set_option maxHeartbeats 8000000 in
set_option maxRecDepth 100000 in
theorem varveref04_R_Count.calls (k : Nat) (g : Nat) (s0_0 : List Int) (s0_1 : Int) (s0_2 : Bool) (a1 : Int) (r1 : Int) (r2 : Int) (r3 : Bool) (w0 w : World) (hI : IsS29 w0 w g s0_0 s0_1 s0_2) (hB : Below w0.heap.size w0 w) (h : varveref04_R_Count.f k s0_0 s0_1 s0_2 a1 = some (r1, r2, r3)) :
  Calls Try.prog 43 #[.pointer (some ⟨g, 0, none⟩), .int .i64 a1] w fun e w' => e = .returned (.int .i64 r1) ∧ IsS29 w0 w' g s0_0 r2 r3 ∧ Below w0.heap.size w0 w' ∧ KeepBut w w' g none := by
 have HI0 := mkA hI; have HK := mkA (KeepBut.refl w g none); have HL := mkA hB.size; clear hI; have HW0 := mkA hB.size; have HB := mkA hB; clear hB; have H : ((varveref04_R_Num.f k s0_0 s0_1 s0_2).bind fun bt188 => (if bt188.2.2 = true then (some (0, bt188.2.1, true)) else (if a1 < 0 then (some (0, bt188.2.1, true)) else (if bt188.1 > (IntKind.u64.wrap (a1)) then (some (0, bt188.2.1, true)) else (if bt188.1 > (IntKind.u64.wrap (wrap64 ((s0_0.length : Int) - bt188.2.1))) then (some (0, bt188.2.1, true)) else (some (wrap64 (bt188.1), bt188.2.1, bt188.2.2))))))) = some (r1, r2, r3) := h; clear h; replace H := Option.bind_eq_some_iff.mp H; obtain ⟨⟨t188, t189, t190⟩, A30, H⟩ := H; replace H : (if t190 = true then (some (0, t189, true)) else (if a1 < 0 then (some (0, t189, true)) else (if t188 > (IntKind.u64.wrap (a1)) then (some (0, t189, true)) else (if t188 > (IntKind.u64.wrap (wrap64 ((s0_0.length : Int) - t189))) then (some (0, t189, true)) else (some (wrap64 (t188), t189, t190)))))) = some (r1, r2, r3) := H; have A3 := mkA A30; clear A30; by_cases c4 : t190 = true
 ·subst c4
  have H1 : (some (0, t189, true)) = some (r1, r2, r3) := zk76
  clear H; have H := H1; clear H1; simp only [Option.some.injEq, Prod.mk.injEq] at H; obtain ⟨rfl, rfl, rfl⟩ := H; go_enter Try.func43, Try.ntmps43; (go_wp2_with (first | (go_at_call 42; (with_reducible refine (varveref04_R_Num.calls k g s0_0 s0_1 s0_2 t188 t189 true w0 _ ?side1 ?side2 A3.out).mono ?_); (case side1 => exact zk4); (case side2 => exact zk3); rintro e w5 ⟨rfl, hi, hb, hk⟩; have n0_ := mkA (KeepBut.trans zk5 hk (.inl rfl)); have n1_ := mkA (hb); have n2_ := mkA (hi); clear HK; clear HB; clear HI0; have HK := n0_; have HB := n1_; have HI0 := n2_; clear n0_ n1_ n2_; (try clear hb); (try clear hb2); (try clear hk); (try clear hi); obtain ⟨ASz6_0, cSz6_0, HGz6, hgz6, HSz6_0⟩ := HI0.out; have hcz6_0 := cellS29_0 HGz6; have hcz6_1 := cellS29_1 HGz6; have hcz6_2 := cellS29_2 HGz6; have hfz6_1 := blk_frozen HGz6 1; have hfz6_2 := blk_frozen HGz6 2; clear HGz6 hgz6))); (repeat (go_quiet (first | (go_at_call 42; (with_reducible refine (varveref04_R_Num.calls k g s0_0 s0_1 s0_2 t188 t189 true w0 _ ?side1 ?side2 A3.out).mono ?_); (case side1 => exact zk4); (case side2 => exact zk3); rintro e w5 ⟨rfl, hi, hb, hk⟩; have n0_ := mkA (KeepBut.trans zk5 hk (.inl rfl)); have n1_ := mkA (hb); have n2_ := mkA (hi); clear HK; clear HB; clear HI0; have HK := n0_; have HB := n1_; have HI0 := n2_; clear n0_ n1_ n2_; (try clear hb); (try clear hb2); (try clear hk); (try clear hi); obtain ⟨ASz6_0, cSz6_0, HGz6, hgz6, HSz6_0⟩ := HI0.out; have hcz6_0 := cellS29_0 HGz6; have hcz6_1 := cellS29_1 HGz6; have hcz6_2 := cellS29_2 HGz6; have hfz6_1 := blk_frozen HGz6 1; have hfz6_2 := blk_frozen HGz6 2; clear HGz6 hgz6)); try go_wp2_with (first | (go_at_call 42; (with_reducible refine (varveref04_R_Num.calls k g s0_0 s0_1 s0_2 t188 t189 true w0 _ ?side1 ?side2 A3.out).mono ?_); (case side1 => exact zk4); (case side2 => exact zk3); rintro e w5 ⟨rfl, hi, hb, hk⟩; have n0_ := mkA (KeepBut.trans zk5 hk (.inl rfl)); have n1_ := mkA (hb); have n2_ := mkA (hi); clear HK; clear HB; clear HI0; have HK := n0_; have HB := n1_; have HI0 := n2_; clear n0_ n1_ n2_; (try clear hb); (try clear hb2); (try clear hk); (try clear hi); obtain ⟨ASz6_0, cSz6_0, HGz6, hgz6, HSz6_0⟩ := HI0.out; have hcz6_0 := cellS29_0 HGz6; have hcz6_1 := cellS29_1 HGz6; have hcz6_2 := cellS29_2 HGz6; have hfz6_1 := blk_frozen HGz6 1; have hfz6_2 := blk_frozen HGz6 2; clear HGz6 hgz6)))); go_ret
  exact zk246
 ·replace c4 := Bool.eq_false_iff.mpr c4
  subst c4; have H1 : (if a1 < 0 then (some (0, t189, true)) else (if t188 > (IntKind.u64.wrap (a1)) then (some (0, t189, true)) else (if t188 > (IntKind.u64.wrap (wrap64 ((s0_0.length : Int) - t189))) then (some (0, t189, true)) else (some (wrap64 (t188), t189, false))))) = some (r1, r2, r3) := zk41
  clear H; have H := H1; clear H1; by_cases c7 : a1 < 0
  ·rw [if_pos c7] at H
   have c7b0 : decide (a1 < 0) = true := decide_eq_true c7; clear c7; simp only [Option.some.injEq, Prod.mk.injEq] at H; obtain ⟨rfl, rfl, rfl⟩ := H; go_enter Try.func43, Try.ntmps43; (go_wp2_with (first | (go_at_call 42; (with_reducible refine (varveref04_R_Num.calls k g s0_0 s0_1 s0_2 t188 t189 false w0 _ ?side1 ?side2 A3.out).mono ?_); (case side1 => exact zk4); (case side2 => exact zk3); rintro e w8 ⟨rfl, hi, hb, hk⟩; have n0_ := mkA (KeepBut.trans zk5 hk (.inl rfl)); have n1_ := mkA (hb); have n2_ := mkA (hi); clear HK; clear HB; clear HI0; have HK := n0_; have HB := n1_; have HI0 := n2_; clear n0_ n1_ n2_; (try clear hb); (try clear hb2); (try clear hk); (try clear hi); obtain ⟨ASz9_0, cSz9_0, HGz9, hgz9, HSz9_0⟩ := HI0.out; have hcz9_0 := cellS29_0 HGz9; have hcz9_1 := cellS29_1 HGz9; have hcz9_2 := cellS29_2 HGz9; have hfz9_1 := blk_frozen HGz9 1; have hfz9_2 := blk_frozen HGz9 2; clear HGz9 hgz9))); (repeat (go_quiet (first | (go_at_call 42; (with_reducible refine (varveref04_R_Num.calls k g s0_0 s0_1 s0_2 t188 t189 false w0 _ ?side1 ?side2 A3.out).mono ?_); (case side1 => exact zk4); (case side2 => exact zk3); rintro e w8 ⟨rfl, hi, hb, hk⟩; have n0_ := mkA (KeepBut.trans zk5 hk (.inl rfl)); have n1_ := mkA (hb); have n2_ := mkA (hi); clear HK; clear HB; clear HI0; have HK := n0_; have HB := n1_; have HI0 := n2_; clear n0_ n1_ n2_; (try clear hb); (try clear hb2); (try clear hk); (try clear hi); obtain ⟨ASz9_0, cSz9_0, HGz9, hgz9, HSz9_0⟩ := HI0.out; have hcz9_0 := cellS29_0 HGz9; have hcz9_1 := cellS29_1 HGz9; have hcz9_2 := cellS29_2 HGz9; have hfz9_1 := blk_frozen HGz9 1; have hfz9_2 := blk_frozen HGz9 2; clear HGz9 hgz9)); try go_wp2_with (first | (go_at_call 42; (with_reducible refine (varveref04_R_Num.calls k g s0_0 s0_1 s0_2 t188 t189 false w0 _ ?side1 ?side2 A3.out).mono ?_); (case side1 => exact zk4); (case side2 => exact zk3); rintro e w8 ⟨rfl, hi, hb, hk⟩; have n0_ := mkA (KeepBut.trans zk5 hk (.inl rfl)); have n1_ := mkA (hb); have n2_ := mkA (hi); clear HK; clear HB; clear HI0; have HK := n0_; have HB := n1_; have HI0 := n2_; clear n0_ n1_ n2_; (try clear hb); (try clear hb2); (try clear hk); (try clear hi); obtain ⟨ASz9_0, cSz9_0, HGz9, hgz9, HSz9_0⟩ := HI0.out; have hcz9_0 := cellS29_0 HGz9; have hcz9_1 := cellS29_1 HGz9; have hcz9_2 := cellS29_2 HGz9; have hfz9_1 := blk_frozen HGz9 1; have hfz9_2 := blk_frozen HGz9 2; clear HGz9 hgz9)))); go_ret
   exact zk246
  ·rw [if_neg c7] at H
   have c7b0 : decide (a1 < 0) = false := decide_eq_false c7; clear c7; by_cases c10 : t188 > (IntKind.u64.wrap (a1))
   ·rw [if_pos c10] at H
    have c10b0 : decide ((IntKind.u64.wrap (a1)) < t188) = true := decide_eq_true c10; clear c10; simp only [Option.some.injEq, Prod.mk.injEq] at H; obtain ⟨rfl, rfl, rfl⟩ := H; go_enter Try.func43, Try.ntmps43; (go_wp2_with (first | (go_at_call 42; (with_reducible refine (varveref04_R_Num.calls k g s0_0 s0_1 s0_2 t188 t189 false w0 _ ?side1 ?side2 A3.out).mono ?_); (case side1 => exact zk4); (case side2 => exact zk3); rintro e w11 ⟨rfl, hi, hb, hk⟩; have n0_ := mkA (KeepBut.trans zk5 hk (.inl rfl)); have n1_ := mkA (hb); have n2_ := mkA (hi); clear HK; clear HB; clear HI0; have HK := n0_; have HB := n1_; have HI0 := n2_; clear n0_ n1_ n2_; (try clear hb); (try clear hb2); (try clear hk); (try clear hi); obtain ⟨ASz12_0, cSz12_0, HGz12, hgz12, HSz12_0⟩ := HI0.out; have hcz12_0 := cellS29_0 HGz12; have hcz12_1 := cellS29_1 HGz12; have hcz12_2 := cellS29_2 HGz12; have hfz12_1 := blk_frozen HGz12 1; have hfz12_2 := blk_frozen HGz12 2; clear HGz12 hgz12))); (repeat (go_quiet (first | (go_at_call 42; (with_reducible refine (varveref04_R_Num.calls k g s0_0 s0_1 s0_2 t188 t189 false w0 _ ?side1 ?side2 A3.out).mono ?_); (case side1 => exact zk4); (case side2 => exact zk3); rintro e w11 ⟨rfl, hi, hb, hk⟩; have n0_ := mkA (KeepBut.trans zk5 hk (.inl rfl)); have n1_ := mkA (hb); have n2_ := mkA (hi); clear HK; clear HB; clear HI0; have HK := n0_; have HB := n1_; have HI0 := n2_; clear n0_ n1_ n2_; (try clear hb); (try clear hb2); (try clear hk); (try clear hi); obtain ⟨ASz12_0, cSz12_0, HGz12, hgz12, HSz12_0⟩ := HI0.out; have hcz12_0 := cellS29_0 HGz12; have hcz12_1 := cellS29_1 HGz12; have hcz12_2 := cellS29_2 HGz12; have hfz12_1 := blk_frozen HGz12 1; have hfz12_2 := blk_frozen HGz12 2; clear HGz12 hgz12)); try go_wp2_with (first | (go_at_call 42; (with_reducible refine (varveref04_R_Num.calls k g s0_0 s0_1 s0_2 t188 t189 false w0 _ ?side1 ?side2 A3.out).mono ?_); (case side1 => exact zk4); (case side2 => exact zk3); rintro e w11 ⟨rfl, hi, hb, hk⟩; have n0_ := mkA (KeepBut.trans zk5 hk (.inl rfl)); have n1_ := mkA (hb); have n2_ := mkA (hi); clear HK; clear HB; clear HI0; have HK := n0_; have HB := n1_; have HI0 := n2_; clear n0_ n1_ n2_; (try clear hb); (try clear hb2); (try clear hk); (try clear hi); obtain ⟨ASz12_0, cSz12_0, HGz12, hgz12, HSz12_0⟩ := HI0.out; have hcz12_0 := cellS29_0 HGz12; have hcz12_1 := cellS29_1 HGz12; have hcz12_2 := cellS29_2 HGz12; have hfz12_1 := blk_frozen HGz12 1; have hfz12_2 := blk_frozen HGz12 2; clear HGz12 hgz12)))); go_ret
    exact zk246
   ·rw [if_neg c10] at H
    have c10b0 : decide ((IntKind.u64.wrap (a1)) < t188) = false := decide_eq_false c10; clear c10; by_cases c13 : t188 > (IntKind.u64.wrap (wrap64 ((s0_0.length : Int) - t189)))
    ·rw [if_pos c13] at H
     have c13b0 : decide ((IntKind.u64.wrap (wrap64 ((s0_0.length : Int) - t189))) < t188) = true := decide_eq_true c13; clear c13; simp only [Option.some.injEq, Prod.mk.injEq] at H; obtain ⟨rfl, rfl, rfl⟩ := H; go_enter Try.func43, Try.ntmps43; (go_wp2_with (first | (go_at_call 42; (with_reducible refine (varveref04_R_Num.calls k g s0_0 s0_1 s0_2 t188 t189 false w0 _ ?side1 ?side2 A3.out).mono ?_); (case side1 => exact zk4); (case side2 => exact zk3); rintro e w14 ⟨rfl, hi, hb, hk⟩; have n0_ := mkA (KeepBut.trans zk5 hk (.inl rfl)); have n1_ := mkA (hb); have n2_ := mkA (hi); clear HK; clear HB; clear HI0; have HK := n0_; have HB := n1_; have HI0 := n2_; clear n0_ n1_ n2_; (try clear hb); (try clear hb2); (try clear hk); (try clear hi); obtain ⟨ASz15_0, cSz15_0, HGz15, hgz15, HSz15_0⟩ := HI0.out; have hcz15_0 := cellS29_0 HGz15; have hcz15_1 := cellS29_1 HGz15; have hcz15_2 := cellS29_2 HGz15; have hfz15_1 := blk_frozen HGz15 1; have hfz15_2 := blk_frozen HGz15 2; clear HGz15 hgz15))); (repeat (go_quiet (first | (go_at_call 42; (with_reducible refine (varveref04_R_Num.calls k g s0_0 s0_1 s0_2 t188 t189 false w0 _ ?side1 ?side2 A3.out).mono ?_); (case side1 => exact zk4); (case side2 => exact zk3); rintro e w14 ⟨rfl, hi, hb, hk⟩; have n0_ := mkA (KeepBut.trans zk5 hk (.inl rfl)); have n1_ := mkA (hb); have n2_ := mkA (hi); clear HK; clear HB; clear HI0; have HK := n0_; have HB := n1_; have HI0 := n2_; clear n0_ n1_ n2_; (try clear hb); (try clear hb2); (try clear hk); (try clear hi); obtain ⟨ASz15_0, cSz15_0, HGz15, hgz15, HSz15_0⟩ := HI0.out; have hcz15_0 := cellS29_0 HGz15; have hcz15_1 := cellS29_1 HGz15; have hcz15_2 := cellS29_2 HGz15; have hfz15_1 := blk_frozen HGz15 1; have hfz15_2 := blk_frozen HGz15 2; clear HGz15 hgz15)); try go_wp2_with (first | (go_at_call 42; (with_reducible refine (varveref04_R_Num.calls k g s0_0 s0_1 s0_2 t188 t189 false w0 _ ?side1 ?side2 A3.out).mono ?_); (case side1 => exact zk4); (case side2 => exact zk3); rintro e w14 ⟨rfl, hi, hb, hk⟩; have n0_ := mkA (KeepBut.trans zk5 hk (.inl rfl)); have n1_ := mkA (hb); have n2_ := mkA (hi); clear HK; clear HB; clear HI0; have HK := n0_; have HB := n1_; have HI0 := n2_; clear n0_ n1_ n2_; (try clear hb); (try clear hb2); (try clear hk); (try clear hi); obtain ⟨ASz15_0, cSz15_0, HGz15, hgz15, HSz15_0⟩ := HI0.out; have hcz15_0 := cellS29_0 HGz15; have hcz15_1 := cellS29_1 HGz15; have hcz15_2 := cellS29_2 HGz15; have hfz15_1 := blk_frozen HGz15 1; have hfz15_2 := blk_frozen HGz15 2; clear HGz15 hgz15)))); go_ret
     exact zk246
    ·rw [if_neg c13] at H
     have c13b0 : decide ((IntKind.u64.wrap (wrap64 ((s0_0.length : Int) - t189))) < t188) = false := decide_eq_false c13; clear c13; simp only [Option.some.injEq, Prod.mk.injEq] at H; obtain ⟨rfl, rfl, rfl⟩ := H; go_enter Try.func43, Try.ntmps43; (go_wp2_with (first | (go_at_call 42; (with_reducible refine (varveref04_R_Num.calls k g s0_0 s0_1 s0_2 t188 t189 false w0 _ ?side1 ?side2 A3.out).mono ?_); (case side1 => exact zk4); (case side2 => exact zk3); rintro e w16 ⟨rfl, hi, hb, hk⟩; have n0_ := mkA (KeepBut.trans zk5 hk (.inl rfl)); have n1_ := mkA (hb); have n2_ := mkA (hi); clear HK; clear HB; clear HI0; have HK := n0_; have HB := n1_; have HI0 := n2_; clear n0_ n1_ n2_; (try clear hb); (try clear hb2); (try clear hk); (try clear hi); obtain ⟨ASz17_0, cSz17_0, HGz17, hgz17, HSz17_0⟩ := HI0.out; have hcz17_0 := cellS29_0 HGz17; have hcz17_1 := cellS29_1 HGz17; have hcz17_2 := cellS29_2 HGz17; have hfz17_1 := blk_frozen HGz17 1; have hfz17_2 := blk_frozen HGz17 2; clear HGz17 hgz17))); (repeat (go_quiet (first | (go_at_call 42; (with_reducible refine (varveref04_R_Num.calls k g s0_0 s0_1 s0_2 t188 t189 false w0 _ ?side1 ?side2 A3.out).mono ?_); (case side1 => exact zk4); (case side2 => exact zk3); rintro e w16 ⟨rfl, hi, hb, hk⟩; have n0_ := mkA (KeepBut.trans zk5 hk (.inl rfl)); have n1_ := mkA (hb); have n2_ := mkA (hi); clear HK; clear HB; clear HI0; have HK := n0_; have HB := n1_; have HI0 := n2_; clear n0_ n1_ n2_; (try clear hb); (try clear hb2); (try clear hk); (try clear hi); obtain ⟨ASz17_0, cSz17_0, HGz17, hgz17, HSz17_0⟩ := HI0.out; have hcz17_0 := cellS29_0 HGz17; have hcz17_1 := cellS29_1 HGz17; have hcz17_2 := cellS29_2 HGz17; have hfz17_1 := blk_frozen HGz17 1; have hfz17_2 := blk_frozen HGz17 2; clear HGz17 hgz17)); try go_wp2_with (first | (go_at_call 42; (with_reducible refine (varveref04_R_Num.calls k g s0_0 s0_1 s0_2 t188 t189 false w0 _ ?side1 ?side2 A3.out).mono ?_); (case side1 => exact zk4); (case side2 => exact zk3); rintro e w16 ⟨rfl, hi, hb, hk⟩; have n0_ := mkA (KeepBut.trans zk5 hk (.inl rfl)); have n1_ := mkA (hb); have n2_ := mkA (hi); clear HK; clear HB; clear HI0; have HK := n0_; have HB := n1_; have HI0 := n2_; clear n0_ n1_ n2_; (try clear hb); (try clear hb2); (try clear hk); (try clear hi); obtain ⟨ASz17_0, cSz17_0, HGz17, hgz17, HSz17_0⟩ := HI0.out; have hcz17_0 := cellS29_0 HGz17; have hcz17_1 := cellS29_1 HGz17; have hcz17_2 := cellS29_2 HGz17; have hfz17_1 := blk_frozen HGz17 1; have hfz17_2 := blk_frozen HGz17 2; clear HGz17 hgz17)))); go_ret
     exact zk246
end Go.Proofs.Ytplgffbfepnihaa.Vt
namespace Go.Proofs.Ytplgffbfepnihaa.Vt
open Go.RowKit Go.Proofs.YtplgffbfepnihaaW.PrintWords Go.Proofs.YtplgffbfepnihaaW.PrintLast Go.Proofs.YtplgffbfepnihaaW.PrintMore Go.Proofs.Ytplgffbfepnihaa.Hi Go.Proofs.Ytplgffbfepnihaa.Q
def varveref04_Rise.l0 : Nat → List Int → List Int → Int → Option (List Int)
 | 0, _, _, _ => none
 | k + 1, x0, x3, x4 => if x4 < (x0.length : Int) then (if x4 = 0 then (if 0 < (x0.length : Int) then ((varveref04_Put.f (rd x0 0)).bind fun t195 => (if x3.length + t195.length < 140737488355328 then (varveref04_Rise.l0 k x0 (x3 ++ t195) (wrap64 (x4 + 1))) else (none))) else (none)) else (if 0 ≤ x4 then (if 0 ≤ (wrap64 (x4 - 1)) then (if (wrap64 (x4 - 1)) < (x0.length : Int) then ((varveref04_Put.f (IntKind.u64.wrap ((IntKind.u64.wrap ((rd x0 x4) - (rd x0 (wrap64 (x4 - 1))))) - 1))).bind fun t203 => (if x3.length + t203.length < 140737488355328 then (varveref04_Rise.l0 k x0 (x3 ++ t203) (wrap64 (x4 + 1))) else (none))) else (none)) else (none)) else (none))) else (some x3)
def varveref04_Rise.f (k : Nat) (l0 : List Int) : Option (List Int) := (varveref04_Put.f (IntKind.u64.wrap ((l0.length : Int)))).bind fun t191 => (varveref04_Rise.l0 k l0 t191 0)
theorem varveref04_Rise.mono_l : ∀ k, (∀ y0 y1 y2, LeO (varveref04_Rise.l0 k y0 y1 y2) (varveref04_Rise.l0 (k + 1) y0 y1 y2))
 | 0 => fun _ _ _ r h => by simp [varveref04_Rise.l0] at h
 | k + 1 => by
  have ih0 := varveref04_Rise.mono_l k
  ·intro y0 y1 y2
   unfold varveref04_Rise.l0
   repeat' first
   | (with_reducible exact ih0 _ _ _)
   | (with_reducible exact LeO.refl _)
   | (with_reducible exact LeO.none _)
   | (with_reducible refine LeO.ite ?_ ?_)
   | (with_reducible refine LeO.bind ?_ (fun _ => ?_))
   | exact ih0 _ _ _
   | exact LeO.none _
   | refine LeO.ite ?_ ?_
   | refine LeO.bind ?_ (fun _ => ?_)
theorem varveref04_Rise.mono : ∀ a0 k, LeO (varveref04_Rise.f k a0) (varveref04_Rise.f (k + 1) a0) := by
 intro a0 k; have ih0 := varveref04_Rise.mono_l k; unfold varveref04_Rise.f
 repeat' first
   | (with_reducible exact ih0 _ _ _)
   | (with_reducible exact LeO.refl _)
   | (with_reducible exact LeO.none _)
   | (with_reducible refine LeO.ite ?_ ?_)
   | (with_reducible refine LeO.bind ?_ (fun _ => ?_))
   | exact ih0 _ _ _
   | exact LeO.none _
   | refine LeO.ite ?_ ?_
   | refine LeO.bind ?_ (fun _ => ?_)
def varveref04_Rise.T7 : Bool × List (List Nat × List Nat) := (true, [([], []), ([], []), ([], []), ([1, 2], [1, 2]), ([3], [3]), ([], []), ([], []), ([6], [6]), ([5, 7], [5, 7]), ([8], [8]), ([4, 9], [4, 9]), ([10], [10]), ([11], [11]), ([0, 12, 12], [0, 12]), ([13, 13, 0, 1, 2, 3, 4, 5, 6, 7, 8, 9, 10, 11, 12, 13], [0, 13])])
def varveref04_Rise.B7 : List Nat := [0, 0, 0, 6, 14, 0, 0, 64, 224, 480, 1022, 2046, 4094, 8191, 16383]
theorem varveref04_Rise.tab7 : rtab .any (opsOf Try.f28 7) = varveref04_Rise.T7 := by kernel_rfl
theorem varveref04_Rise.bits7 : waitsOk varveref04_Rise.T7.2 varveref04_Rise.B7 = true := by kernel_rfl
set_option maxHeartbeats 8000000 in
set_option maxRecDepth 100000 in
theorem varveref04_Rise.calls (k : Nat) (A0 : Option Addr) (c0 : Nat) (l0 : List Int) (r : List Int) (w : World) (hr0 : Kd.C (Kd.int .u64) w A0 l0.length l0) (hc0 : l0.length ≤ c0) (h : varveref04_Rise.f k l0 = some r) :
  Calls Try.prog 28 #[.slice A0 l0.length c0] w fun e w' => ∃ v0_ : Value, e = .returned (v0_) ∧ Kd.R (Kd.int .u8) 5 w' w.heap.size (fun _ => True) v0_ r ∧ Below w.heap.size w w' := by
 have HR0 := mkA hr0; have HC0 := mkA hc0; clear hr0 hc0; have HB := mkA (Below.refl w.heap.size w); have H : ((varveref04_Put.f (IntKind.u64.wrap ((l0.length : Int)))).bind fun t191 => (varveref04_Rise.l0 k l0 t191 0)) = some r := h; clear h; replace H := Option.bind_eq_some_iff.mp H; obtain ⟨t191, A20, H⟩ := H; replace H : (varveref04_Rise.l0 k l0 t191 0) = some r := H; have A2 := mkA A20; clear A20; have H' := mkA H; clear H; go_enter Try.func28, Try.ntmps28; (go_wp2_with (first | ((with_reducible refine gate_callee (f := 65) rfl ?_); refine goesL_ (some 8) rfl rfl Try.func65 zk11 rfl #[.int .u64 (IntKind.u64.wrap ((l0.length : Int)))] rfl zk2 ?_; (with_reducible refine (varveref04_Put.calls (IntKind.u64.wrap ((l0.length : Int))) t191 _ A2.out).mono ?_); rintro e w3 ⟨v192, rfl, ho0, hb⟩; refine ⟨_, rfl, ?_⟩; have n0_ := mkA (Kd.R_lower ho0 (below_size zk1)); have n1_ := mkA (below_step zk1 hb); clear HB; have HO193 := n0_; have HB := n1_; clear n0_ n1_; (try clear hb); (try clear hb2); (try clear hk); (try clear hi); (try clear ho0)))); go_loopg [3, 4] k (fun kq v3 v4 w' => ∃ (x3_1 : List Int) (x4_1 : Int), v4 = .int .i64 x4_1 ∧ Aside0 (varveref04_Rise.l0 kq l0 x3_1 x4_1 = some r) ∧ Aside0 (kq ≤ k) ∧ Aside0 (Kd.R (Kd.int .u8) 5 w' w.heap.size (fun _ => True) v3 x3_1) ∧ Aside0 (Below w.heap.size w w'))
 case atStart => exact ⟨(t191), (0), zk14, H', ⟨Nat.le_refl _⟩, ⟨by (with_reducible repeat (first | apply Kd.R_alloc | apply Kd.R_drewN | apply Kd.R_drew)); exact HO193.out⟩, ⟨zk1⟩⟩
 case round =>
  clear H'; (try clear c2); (try clear p2); obtain ⟨x3_1, x4_1, rfl, HA, HK1, HO_3, HB⟩ := hrel
  cases gk with
  | zero => exact absurd HA.out (by simp [varveref04_Rise.l0])
  | succ k1 =>
   have H := HA.out; clear HA; simp only [varveref04_Rise.l0] at H; by_cases c4 : x4_1 < (l0.length : Int)
   ·rw [if_pos c4] at H
    have c4b0 : decide (x4_1 < (l0.length : Int)) = true := decide_eq_true c4; clear c4; by_cases c5 : x4_1 = 0
    ·rw [if_pos c5] at H
     have c5b0 : (x4_1 == 0) = true := beq_iff_eq.mpr c5; have c5b1 : (x4_1 != 0) = false := bne_eq_false_iff_eq.mpr c5; clear c5; by_cases c6 : 0 < (l0.length : Int)
     ·rw [if_pos c6] at H
      have c6b0 : decide (0 < (l0.length : Int)) = true := decide_eq_true c6; have c6b1 : decide (0 < l0.length) = true := decide_eq_true zk6; clear c6; replace H := Option.bind_eq_some_iff.mp H; obtain ⟨t195, A70, H⟩ := H; replace H : (if x3_1.length + t195.length < 140737488355328 then (varveref04_Rise.l0 k1 l0 (x3_1 ++ t195) (wrap64 (x4_1 + 1))) else (none)) = some r := H; have A7 := mkA A70; clear A70; by_cases c8 : x3_1.length + t195.length < 140737488355328
      ·rw [if_pos c8] at H
       have LMc8 := mkA c8; clear c8; obtain ⟨y198, hy198⟩ : ∃ y_ : List Int, y_ = (x3_1 ++ t195) := ⟨_, rfl⟩
       replace H : (varveref04_Rise.l0 k1 l0 y198 (wrap64 (x4_1 + 1))) = some r := by first | (rw [hy198]; with_reducible exact H) | (have H2_ := (Option.bind_some _ _).symm.trans H; rw [hy198]; with_reducible exact H2_) | (have H2_ := (Option.bind_some _ _).symm.trans H; with_reducible exact H2_) | with_reducible exact H | (rw [hy198]; exact H) | exact H
       have Ny198 := mkA hy198; clear hy198; have H' := mkA H; clear H; have p194 : 0 ≤ (0 : Int) := zk6
       have q194 : 0 < (l0.length : Int) := of_decide_eq_true zk8; obtain ⟨ad194, e194, hx194_0⟩ := Kd.at_int HR0.out 0 p194 q194; cases e194; have qi194 : (0 < l0.length) = True := eq_true zk6; (try rw [show ((0 : Int)).toNat = 0 from rfl] at hx194_0); (try rw [Addr.add_zero'] at hx194_0); replace hx194_0 := (HB.out.cell (World.block_lt_of_cell? w _ hx194_0)).trans hx194_0; replace p194 := eq_true p194; replace q194 := eq_true q194; (go_wp2_with (first | ((with_reducible refine gate_callee (f := 65) rfl ?_); refine goesL_ (some 21) rfl rfl Try.func65 zk11 rfl #[.int .u64 (rd l0 0)] rfl zk2 ?_; (with_reducible refine (varveref04_Put.calls (rd l0 0) t195 _ A7.out).mono ?_); rintro e w9 ⟨v196, rfl, ho0, hb⟩; refine ⟨_, rfl, ?_⟩; have n0_ := mkA (Kd.R_elder' zk38 (Kd.R_base ho0) hb); have n1_ := mkA (Kd.R_lower (Kd.R_new' ho0 (Kd.R_lt zk38)) (below_size zk1)); have n2_ := mkA (below_step zk1 hb); clear HO_3; clear HB; have HO_3 := n0_; have HO197 := n1_; have HB := n2_; clear n0_ n1_ n2_; (try clear hb); (try clear hb2); (try clear hk); (try clear hi); (try clear ho0); obtain ⟨Ao11, co11, eo11⟩ := Kd.R_slice HO197.out; subst eo11) | ((with_reducible refine gate_builtin (b := .append) (xs := #[.tmp 17, .tmp 21]) rfl ?_); at_builtin; refine Kd.R_append_rows (Kd.int .u8) (w0 := w) w.heap.size rfl (.tmp 17) (.tmp 21) 22 5 (.int .u8 0) 1 rfl Try.underlying22 info5 rfl zk47 zk6 u3 x3_1 t195 _ _ _ (fun k_ => some k_ ≠ (.slice Ao11 t195.length co11 : Value).ownBlock) (fun _ => False) rfl rfl ?aO ?aR (fun _ _ h => h) (fun _ h => h.elim) ?aF ?aB ?aS ?aL ?_; (case aR => repeat (first | exact (Kd.R_reads' HO197.out).2.2 | (with_reducible refine Kd.C_alloc ?_ _) | (with_reducible refine Kd.C_drewN ?_ _) | (with_reducible refine Kd.C_drew ?_))); (case aB => exact zk27); (case aF => exact (fun k_ hk => Kd.fresh' (Kd.R_lt zk167) k_ hk)); (case aO => exact zk79); (case aS => exact zk25); (case aL => have := LMc8.out; omega); intro v199 w10 ho hb hg hat; rw [← Ny198.out] at ho; have n0_ := mkA (Kd.R_after (ok := (fun _ => True)) zk167 hg hat); have n1_ := mkA (hb); have n2_ := mkA (ho); clear HO197; clear HB; clear HO_3; have HO197 := n0_; have HB := n1_; have HO200 := n2_; clear n0_ n1_ n2_; clear ho hb hg hat))); go_roundg k1
       case measure => have := HK1.out; omega
       case rel => exact ⟨(y198), (wrap64 (x4_1 + 1)), zk14, H', ⟨zk150⟩, ⟨by (with_reducible repeat (first | apply Kd.R_alloc | apply Kd.R_drewN | apply Kd.R_drew)); exact Kd.R_mono HO200.out (fun _ hk => trivial)⟩, ⟨zk1⟩⟩
      ·exact zk239
     ·exact zk227
    ·rw [if_neg c5] at H
     have c5b0 : (x4_1 == 0) = false := beq_eq_false_iff_ne.mpr c5; have c5b1 : (x4_1 != 0) = true := bne_iff_ne.mpr c5; by_cases c12 : 0 ≤ x4_1
     ·rw [if_pos c12] at H
      have c12b0 : decide (0 ≤ x4_1) = true := decide_eq_true c12; clear c12; obtain ⟨ji13, hji13⟩ : ∃ j_ : Int, (wrap64 (x4_1 - 1)) = j_ := ⟨_, rfl⟩
      replace H : (if 0 ≤ (ji13) then (if (ji13) < (l0.length : Int) then ((varveref04_Put.f (IntKind.u64.wrap ((IntKind.u64.wrap ((rd l0 x4_1) - (rd l0 (ji13)))) - 1))).bind fun t203 => (if x3_1.length + t203.length < 140737488355328 then (varveref04_Rise.l0 k1 l0 (x3_1 ++ t203) (wrap64 (x4_1 + 1))) else (none))) else (none)) else (none)) = some r := by first | (rw [hji13] at H; exact H) | (simp only [hji13] at H ⊢; exact H)
      have hji13w : (IntKind.i64.wrap (x4_1 - 1)) = ji13 := (i64_w _).trans hji13; by_cases c14 : 0 ≤ (ji13)
      ·rw [if_pos c14] at H
       have c14b0 : decide (0 ≤ (ji13)) = true := decide_eq_true c14; clear c14; by_cases c15 : (ji13) < (l0.length : Int)
       ·rw [if_pos c15] at H
        have c15b0 : decide ((ji13) < (l0.length : Int)) = true := decide_eq_true c15; clear c15; replace H := Option.bind_eq_some_iff.mp H; obtain ⟨t203, A160, H⟩ := H; replace H : (if x3_1.length + t203.length < 140737488355328 then (varveref04_Rise.l0 k1 l0 (x3_1 ++ t203) (wrap64 (x4_1 + 1))) else (none)) = some r := H; have A16 := mkA A160; clear A160; by_cases c17 : x3_1.length + t203.length < 140737488355328
        ·rw [if_pos c17] at H
         have LMc17 := mkA c17; clear c17; obtain ⟨y206, hy206⟩ : ∃ y_ : List Int, y_ = (x3_1 ++ t203) := ⟨_, rfl⟩
         replace H : (varveref04_Rise.l0 k1 l0 y206 (wrap64 (x4_1 + 1))) = some r := by first | (rw [hy206]; with_reducible exact H) | (have H2_ := (Option.bind_some _ _).symm.trans H; rw [hy206]; with_reducible exact H2_) | (have H2_ := (Option.bind_some _ _).symm.trans H; with_reducible exact H2_) | with_reducible exact H | (rw [hy206]; exact H) | exact H
         have Ny206 := mkA hy206; clear hy206; have H' := mkA H; clear H; (try go_wp2); have n0_ := mkA (Kd.R_drew HO_3.out); have n1_ := mkA (below_drew1 HB.out); clear HO_3; clear HB; have HO_3 := n0_; have HB := n1_; clear n0_ n1_; have p201 : 0 ≤ (x4_1 : Int) := of_decide_eq_true zk8; have q201 : x4_1 < (l0.length : Int) := of_decide_eq_true zk8; obtain ⟨ad201, e201, hx201_0⟩ := Kd.at_int HR0.out x4_1 p201 q201; have hw201_0 := hx201_0; cases e201; replace hx201_0 := (HB.out.cell (World.block_lt_of_cell? w _ hx201_0)).trans hx201_0; replace p201 := eq_true p201; replace q201 := eq_true q201; have p202 : 0 ≤ ((ji13) : Int) := of_decide_eq_true zk8; have q202 : (ji13) < (l0.length : Int) := of_decide_eq_true zk8; obtain ⟨ad202, e202, hx202_0⟩ := Kd.at_int HR0.out (ji13) p202 q202; have hw202_0 := hx202_0; obtain rfl : ad201 = ad202 := (by injection e202)
         replace hx202_0 := (HB.out.cell (World.block_lt_of_cell? w _ hx202_0)).trans hx202_0; replace p202 := eq_true p202; replace q202 := eq_true q202; refine start_ (n := 15) (S := fun w' => w'.cell? (ad201.add (x4_1).toNat) = some (.int .u64 (rd l0 x4_1)) ∧ w'.cell? (ad201.add ((ji13)).toNat) = some (.int .u64 (rd l0 (ji13)))) (ds := []) #[false, false, false, false, false, false, false, false, false, false, false, false, false, false, false] zk11 rfl rfl ⟨((HB.out.cell (World.block_lt_of_cell? w _ hw201_0)).trans hw201_0), ((HB.out.cell (World.block_lt_of_cell? w _ hw202_0)).trans hw202_0)⟩ (fun hHeld => ?_); refine with_tabW varveref04_Rise.tab7 varveref04_Rise.bits7 (fun HT_ HW_ => ?_); generalize wr.drew = w18 at HO_3 HB hx201_0 hx202_0 hHeld ⊢; refine pure_ (i := 0) (N := some 23) (v := ?_) (a' := ?_) #[true, false, false, false, false, false, false, false, false, false, false, false, false, false, false] rfl rfl (any_of HT_.out zk11) (fun _ _ _ h => h) (Or.inl ⟨zk50, ?_⟩) ?_ ?_; rotate_left
         ·exact zk207
         rotate_left
         ·exact zk206
         refine pure_ (i := 1) (N := some 24) (v := ?_) (a' := ?_) #[true, true, false, false, false, false, false, false, false, false, false, false, false, false, false] rfl rfl (any_of HT_.out zk11) (fun _ _ _ h => h) (Or.inl ⟨zk50, ?_⟩) ?_ ?_; rotate_left
         ·exact zk207
         rotate_left
         ·exact zk206
         refine pure_ (i := 2) (N := some 25) (v := ?_) (a' := ?_) #[true, true, true, false, false, false, false, false, false, false, false, false, false, false, false] rfl rfl (any_of HT_.out zk11) (fun _ _ _ h => h) (Or.inl ⟨zk50, ?_⟩) ?_ ?_; rotate_left
         ·exact zk207
         rotate_left
         ·exact zk206
         refine pure_ (i := 3) (N := some 26) (v := ?_) (a' := ?_) #[true, true, true, true, false, false, false, false, false, false, false, false, false, false, false] rfl rfl (any_of HT_.out zk11) (fun _ _ _ h => h) (Or.inl ⟨zk50, ?_⟩) ?_ ?_; rotate_left
         ·exact zk207
         rotate_left
         ·exact zk206
         refine pure_ (i := 5) (N := some 28) (v := ?_) (a' := ?_) #[true, true, true, true, false, true, false, false, false, false, false, false, false, false, false] rfl rfl (any_of HT_.out zk11) (fun _ _ _ h => h) (Or.inl ⟨zk50, ?_⟩) ?_ ?_; rotate_left
         ·exact zk207
         rotate_left
         ·exact zk206
         refine pure_ (i := 6) (N := some 29) (v := ?_) (a' := ?_) #[true, true, true, true, false, true, true, false, false, false, false, false, false, false, false] rfl rfl (any_of HT_.out zk11) (fun _ _ _ h => h) (Or.inl ⟨zk50, ?_⟩) ?_ ?_; rotate_left
         ·exact zk207
         rotate_left
         ·exact zk206
         refine pure_ (i := 7) (N := some 30) (v := ?_) (a' := ?_) #[true, true, true, true, false, true, true, true, false, false, false, false, false, false, false] rfl rfl (any_of HT_.out zk11) (fun _ _ _ h => h) (Or.inl ⟨zk50, ?_⟩) ?_ ?_; rotate_left
         ·exact zk207
         rotate_left
         ·exact zk206
         refine pure_ (i := 8) (N := some 31) (v := ?_) (a' := ?_) #[true, true, true, true, false, true, true, true, true, false, false, false, false, false, false] rfl rfl (any_of HT_.out zk11) (fun _ _ _ h => h) (Or.inl ⟨zk50, ?_⟩) ?_ ?_; rotate_left
         ·exact zk207
         rotate_left
         ·exact zk206
         refine take_ (i := 4) (N := some 27) (v := ?_) (a' := ?_) #[true, true, true, true, true, true, true, true, true, false, false, false, false, false, false] rfl rfl (take_ofW HT_.out HW_.out zk11) (fun _ _ _ h => h) (Or.inl ⟨zk50, ?_⟩) hHeld ?_ ?_; rotate_left
         ·rintro w' ⟨s0, s1⟩; go_simp; (with_reducible rfl)
         rotate_left
         ·exact zk206
         refine take_ (i := 9) (N := some 32) (v := ?_) (a' := ?_) #[true, true, true, true, true, true, true, true, true, true, false, false, false, false, false] rfl rfl (take_ofW HT_.out HW_.out zk11) (fun _ _ _ h => h) (Or.inl ⟨zk50, ?_⟩) hHeld ?_ ?_; rotate_left
         ·rintro w' ⟨s0, s1⟩; go_simp; (with_reducible rfl)
         rotate_left
         ·exact zk206
         refine pure_ (i := 10) (N := some 33) (v := ?_) (a' := ?_) #[true, true, true, true, true, true, true, true, true, true, true, false, false, false, false] rfl rfl (any_of HT_.out zk11) (fun _ _ _ h => h) (Or.inl ⟨zk50, ?_⟩) ?_ ?_; rotate_left
         ·exact zk207
         rotate_left
         ·exact zk206
         refine pure_ (i := 11) (N := some 34) (v := ?_) (a' := ?_) #[true, true, true, true, true, true, true, true, true, true, true, true, false, false, false] rfl rfl (any_of HT_.out zk11) (fun _ _ _ h => h) (Or.inl ⟨zk50, ?_⟩) ?_ ?_; rotate_left
         ·exact zk207
         rotate_left
         ·exact zk206
         refine one_ (i := 12) (N := some 35) #[true, true, true, true, true, true, true, true, true, true, true, true, true, false, false] rfl rfl (one_of HT_.out zk11) zk47 (fun K hK => ?_); refine goes_ Try.func65 zk11 rfl #[.int .u64 (IntKind.u64.wrap ((IntKind.u64.wrap ((rd l0 x4_1) - (rd l0 (ji13)))) - 1))] zk50 rfl rfl (by (try simp only [List.map_toArray, List.map_cons, List.map_nil]); first | done | (simp only [hji13]; rfl) | rfl | (simp only [List.length_drop, List.length_take]; rfl)) ?_; (with_reducible refine (varveref04_Put.calls (IntKind.u64.wrap ((IntKind.u64.wrap ((rd l0 x4_1) - (rd l0 (ji13)))) - 1)) t203 _ A16.out).mono ?_); rintro e w19 ⟨v204, rfl, ho0, hb⟩; refine ⟨_, rfl, ?_⟩; have n0_ := mkA (Kd.R_elder' zk38 (Kd.R_base ho0) hb); have n1_ := mkA (Kd.R_lower (Kd.R_new' ho0 (Kd.R_lt zk38)) (below_size zk1)); have n2_ := mkA (below_step zk1 hb); clear HO_3; clear HB; have HO_3 := n0_; have HO205 := n1_; have HB := n2_; clear n0_ n1_ n2_; (try clear hb); (try clear hb2); (try clear hk); (try clear hi); (try clear ho0); obtain ⟨Ao21, co21, eo21⟩ := Kd.R_slice HO205.out; (first | subst eo21 | (injection eo21 with f1_ f2_ f3_; have f4_ := f1_.symm; have f5_ := f3_.symm; clear f1_ f2_ f3_; subst f4_; subst f5_)); refine hK.out _ _ ⟨((HB.out.cell (World.block_lt_of_cell? w _ hw201_0)).trans hw201_0), ((HB.out.cell (World.block_lt_of_cell? w _ hw202_0)).trans hw202_0)⟩ (fun hHeld => ?_); clear hK K; refine norm_ (a' := ?_) ?_ ?_; rotate_left
         ·show Act.put _ (some 35) _ = _; simp only [Act.put, List.setIfInBounds_toArray, List.set_cons_zero, List.set_cons_succ, i64_w, i32_w]; rfl
         refine one_ (i := 13) (N := some 36) #[true, true, true, true, true, true, true, true, true, true, true, true, true, true, false] rfl rfl (one_of HT_.out zk11) zk47 (fun K hK => ?_); refine Kd.R_append_rows_step (Kd.int .u8) (w0 := w) w.heap.size zk50 (.tmp 23) (.tmp 35) 22 5 (.int .u8 0) 1 rfl Try.underlying22 info5 rfl zk47 zk6 u3 x3_1 t203 _ _ _ (fun k_ => some k_ ≠ (.slice Ao21 t203.length co21 : Value).ownBlock) (fun _ => False) rfl rfl ?aO ?aR (fun _ _ h => h) (fun _ h => h.elim) ?aF ?aB ?aS ?aL ?_; (case aR => repeat (first | exact (Kd.R_reads' HO205.out).2.2 | (with_reducible refine Kd.C_alloc ?_ _) | (with_reducible refine Kd.C_drewN ?_ _) | (with_reducible refine Kd.C_drew ?_))); (case aB => exact zk27); (case aF => exact (fun k_ hk => Kd.fresh' (Kd.R_lt zk168) k_ hk)); (case aO => exact zk79); (case aS => exact zk25); (case aL => have := LMc17.out; omega); intro v207 w20 ho hb hg hat; rw [← Ny206.out] at ho; have n0_ := mkA (Kd.R_after (ok := (fun _ => True)) zk168 hg hat); have n1_ := mkA (hb); have n2_ := mkA (ho); clear HO205; clear HB; clear HO_3; have HO205 := n0_; have HB := n1_; have HO208 := n2_; clear n0_ n1_ n2_; clear ho hb hg hat; refine hK.out _ _ ⟨((HB.out.cell (World.block_lt_of_cell? w _ hw201_0)).trans hw201_0), ((HB.out.cell (World.block_lt_of_cell? w _ hw202_0)).trans hw202_0)⟩ (fun hHeld => ?_); clear hK K; refine norm_ (a' := ?_) ?_ ?_; rotate_left
         ·exact zk214
         refine pure_ (i := 14) (N := some 3) (v := ?_) (a' := ?_) #[true, true, true, true, true, true, true, true, true, true, true, true, true, true, true] rfl rfl (any_of HT_.out zk11) (fun _ _ _ h => h) (Or.inl ⟨zk50, ?_⟩) ?_ ?_; rotate_left
         ·exact zk207
         rotate_left
         ·exact zk206
         refine done_ (done_of HT_.out zk11) ?_; (try go_wp2); go_roundg k1
         case measure => have := HK1.out; omega
         case rel => exact ⟨(y206), (wrap64 (x4_1 + 1)), zk14, H', ⟨zk150⟩, ⟨by (with_reducible repeat (first | apply Kd.R_alloc | apply Kd.R_drewN | apply Kd.R_drew)); exact Kd.R_mono HO208.out (fun _ hk => trivial)⟩, ⟨zk1⟩⟩
        ·rw [if_neg c17] at H; exact absurd H zk56
       ·rw [if_neg c15] at H; exact absurd H zk56
      ·rw [if_neg c14] at H; exact absurd H zk56
     ·rw [if_neg c12] at H; exact absurd H zk56
   ·rw [if_neg c4] at H
    have c4b0 : decide (x4_1 < (l0.length : Int)) = false := decide_eq_false c4; clear c4; obtain rfl := Option.some.inj H; go_wp2; go_ret
    exact ⟨_, zk7, zk38, zk1⟩
mutual
def varveref04_R_Rise.l0 : Nat → Int → List Int → Int → List Int → Int → Bool → Option (List Int × Int × Bool)
 | 0, _, _, _, _, _, _ => none
 | k + 1, x5, x6, x7, x1000, x1001, x1002 => if x7 < x5 then (varveref04_R_Rise.j1 k x5 x6 x7 (!x1002) x1000 x1001 x1002) else (varveref04_R_Rise.j1 k x5 x6 x7 false x1000 x1001 x1002)
def varveref04_R_Rise.j1 : Nat → Int → List Int → Int → Bool → List Int → Int → Bool → Option (List Int × Int × Bool)
 | 0, _, _, _, _, _, _, _ => none
 | k + 1, x5, x6, x7, x22, x1000, x1001, x1002 => if x22 = true then ((varveref04_R_Num.f k x1000 x1001 x1002).bind fun bt212 => (if x7 = 0 then (if x6.length < 17592186044416 then (varveref04_R_Rise.l0 k x5 (x6 ++ [bt212.1]) (wrap64 (x7 + 1)) x1000 bt212.2.1 bt212.2.2) else (none)) else (if 0 ≤ (wrap64 (x7 - 1)) then (if (wrap64 (x7 - 1)) < (x6.length : Int) then (if bt212.1 ≥ (IntKind.u64.wrap (18446744073709551615 - (rd x6 (wrap64 (x7 - 1))))) then (some (([] : List Int), bt212.2.1, true)) else (if x6.length < 17592186044416 then (varveref04_R_Rise.l0 k x5 (x6 ++ [IntKind.u64.wrap ((IntKind.u64.wrap ((rd x6 (wrap64 (x7 - 1))) + bt212.1)) + 1)]) (wrap64 (x7 + 1)) x1000 bt212.2.1 bt212.2.2) else (none))) else (none)) else (none)))) else (if x1002 = true then (some (([] : List Int), x1001, x1002)) else (some (x6, x1001, x1002)))
end
def varveref04_R_Rise.f (k : Nat) (s0_0 : List Int) (s0_1 : Int) (s0_2 : Bool) (a1 : Int) : Option (List Int × Int × Bool) := (varveref04_R_Count.f k s0_0 s0_1 s0_2 a1).bind fun bt209 => (varveref04_R_Rise.l0 k bt209.1 ([] : List Int) 0 s0_0 bt209.2.1 bt209.2.2)
set_option maxHeartbeats 8000000 in
set_option maxRecDepth 100000 in
theorem varveref04_R_Rise.calls (k : Nat) (g : Nat) (s0_0 : List Int) (s0_1 : Int) (s0_2 : Bool) (a1 : Int) (r1 : List Int) (r2 : Int) (r3 : Bool) (w0 w : World) (hI : IsS29 w0 w g s0_0 s0_1 s0_2) (hB : Below w0.heap.size w0 w) (h : varveref04_R_Rise.f k s0_0 s0_1 s0_2 a1 = some (r1, r2, r3)) :
  Calls Try.prog 30 #[.pointer (some ⟨g, 0, none⟩), .int .i64 a1] w fun e w' => ∃ v0_ : Value, e = .returned (v0_) ∧ Kd.R (Kd.int .u64) 41 w' w.heap.size (fun _ => True) v0_ r1 ∧ IsS29 w0 w' g s0_0 r2 r3 ∧ Below w0.heap.size w0 w' ∧ KeepBut w w' g none := by
 have HI0 := mkA hI; have HK := mkA (KeepBut.refl w g none); have HL := mkA hB.size; clear hI; have HW0 := mkA hB.size; have HB := mkA hB; clear hB; have H : ((varveref04_R_Count.f k s0_0 s0_1 s0_2 a1).bind fun bt209 => (varveref04_R_Rise.l0 k bt209.1 ([] : List Int) 0 s0_0 bt209.2.1 bt209.2.2)) = some (r1, r2, r3) := h; clear h; replace H := Option.bind_eq_some_iff.mp H; obtain ⟨⟨t209, t210, t211⟩, A30, H⟩ := H; replace H : (varveref04_R_Rise.l0 k t209 ([] : List Int) 0 s0_0 t210 t211) = some (r1, r2, r3) := H; have A3 := mkA A30; clear A30; have H' := mkA H; clear H; go_enter Try.func30, Try.ntmps30; (go_wp2_with (first | ((with_reducible refine gate_callee (f := 43) rfl ?_); refine goesL_ (some 12) rfl rfl Try.func43 zk11 rfl #[.pointer (some ⟨g, 0, none⟩), .int .i64 a1] rfl zk2 ?_; (with_reducible refine (varveref04_R_Count.calls k g s0_0 s0_1 s0_2 a1 t209 t210 t211 w0 _ ?side1 ?side2 A3.out).mono ?_); (case side1 => exact zk4); (case side2 => exact zk3); rintro e w4 ⟨rfl, hi, hb, hk⟩; refine ⟨_, rfl, ?_⟩; have n0_ := mkA (KeepBut.trans zk5 hk (.inl rfl)); have n1_ := mkA (hb); have n2_ := mkA (hi); clear HK; clear HB; clear HI0; have HK := n0_; have HB := n1_; have HI0 := n2_; clear n0_ n1_ n2_; (try clear hb); (try clear hb2); (try clear hk); (try clear hi)))); go_loopg [6, 7] k (fun kq v6 v7 w' => ∃ (x6_1 : List Int) (x7_1 : Int) (x1001_1 : Int) (x1002_1 : Bool), v7 = .int .i64 x7_1 ∧ Aside0 (varveref04_R_Rise.l0 kq t209 x6_1 x7_1 s0_0 x1001_1 x1002_1 = some (r1, r2, r3)) ∧ Aside0 (kq ≤ k) ∧ Aside0 (Kd.R (Kd.int .u64) 41 w' w.heap.size (fun _ => True) v6 x6_1) ∧ Aside0 (IsS29 w0 w' g s0_0 x1001_1 x1002_1) ∧ Aside0 (KeepBut w w' g none) ∧ Aside0 (Below w0.heap.size w0 w'))
 case atStart => exact ⟨(([] : List Int)), (0), (t210), (t211), zk14, H', ⟨Nat.le_refl _⟩, ⟨zk35⟩, ⟨zk4⟩, ⟨zk5⟩, ⟨zk3⟩⟩
 case round =>
  clear H'; (try clear p2); (try clear c3); (try clear c4); obtain ⟨x6_1, x7_1, x1001_1, x1002_1, rfl, HA, HK1, HO_6, HI0, HK, HB⟩ := hrel
  cases gk with
  | zero => exact absurd HA.out (by simp [varveref04_R_Rise.l0])
  | succ k1 =>
   have H := HA.out; clear HA; simp only [varveref04_R_Rise.l0] at H; have HC5 := mkA H; clear H; go_upto_region 4 with (fail)
   go_cut [22] (fun v22 wc => ∃ (kq : Nat) (x22_4 : Bool), v22 = .bool x22_4 ∧ Aside0 (varveref04_R_Rise.j1 kq t209 x6_1 x7_1 x22_4 s0_0 x1001_1 x1002_1 = some (r1, r2, r3)) ∧ Aside0 (kq ≤ k1) ∧ Aside0 (Kd.R (Kd.int .u64) 41 wc w.heap.size (fun _ => True) u6 x6_1) ∧ Aside0 (IsS29 w0 wc g s0_0 x1001_1 x1002_1) ∧ Aside0 (KeepBut w wc g none) ∧ Aside0 (Below w0.heap.size w0 wc))
   case first =>
    have H := HC5.out; clear HC5; by_cases c6 : x7_1 < t209
    ·rw [if_pos c6] at H
     have c6b0 : decide (x7_1 < t209) = true := decide_eq_true c6; clear c6; (first | rw [c6b0] | (simp only [i64_w, i32_w]; rw [c6b0]) | skip); have H' := mkA H; clear H; obtain ⟨ASz7_0, cSz7_0, HGz7, hgz7, HSz7_0⟩ := HI0.out; have hcz7_0 := cellS29_0 HGz7; have hcz7_1 := cellS29_1 HGz7; have hcz7_2 := cellS29_2 HGz7; have hfz7_1 := blk_frozen HGz7 1; have hfz7_2 := blk_frozen HGz7 2; clear HGz7 hgz7; go_wp2; go_meet
     case rel => exact ⟨_, (!x1002_1), zk14, H', ⟨zk126⟩, ⟨zk73⟩, ⟨zk4⟩, ⟨zk5⟩, ⟨zk3⟩⟩
    ·rw [if_neg c6] at H
     have c6b0 : decide (x7_1 < t209) = false := decide_eq_false c6; clear c6; (first | rw [c6b0] | (simp only [i64_w, i32_w]; rw [c6b0]) | skip); have H' := mkA H; clear H; go_wp2; go_meet
     case rel => exact ⟨_, (false), zk14, H', ⟨zk126⟩, ⟨zk73⟩, ⟨zk4⟩, ⟨zk5⟩, ⟨zk3⟩⟩
   case rest =>
    clear HC5; (try clear p2); (try clear c3); (try clear c4); (try clear c6); (try clear c6b0); (try clear hcz7_0); (try clear hcz7_1); (try clear hcz7_2); (try clear hfz7_1); (try clear hfz7_2); (try clear p2); obtain ⟨kq, x22_4, rfl, HA, HJ4, HO_6, HI0, HK, HB⟩ := hcut
    cases kq with
    | zero => exact absurd HA.out (by simp [varveref04_R_Rise.j1])
    | succ kj4 =>
     have H := HA.out; clear HA; simp only [varveref04_R_Rise.j1] at H; by_cases c8 : x22_4 = true
     ·subst c8
      have H1 : ((varveref04_R_Num.f kj4 s0_0 x1001_1 x1002_1).bind fun bt212 => (if x7_1 = 0 then (if x6_1.length < 17592186044416 then (varveref04_R_Rise.l0 kj4 t209 (x6_1 ++ [bt212.1]) (wrap64 (x7_1 + 1)) s0_0 bt212.2.1 bt212.2.2) else (none)) else (if 0 ≤ (wrap64 (x7_1 - 1)) then (if (wrap64 (x7_1 - 1)) < (x6_1.length : Int) then (if bt212.1 ≥ (IntKind.u64.wrap (18446744073709551615 - (rd x6_1 (wrap64 (x7_1 - 1))))) then (some (([] : List Int), bt212.2.1, true)) else (if x6_1.length < 17592186044416 then (varveref04_R_Rise.l0 kj4 t209 (x6_1 ++ [IntKind.u64.wrap ((IntKind.u64.wrap ((rd x6_1 (wrap64 (x7_1 - 1))) + bt212.1)) + 1)]) (wrap64 (x7_1 + 1)) s0_0 bt212.2.1 bt212.2.2) else (none))) else (none)) else (none)))) = some (r1, r2, r3) := zk76
      clear H; have H := H1; clear H1; replace H := Option.bind_eq_some_iff.mp H; obtain ⟨⟨t212, t213, t214⟩, A90, H⟩ := H; replace H : (if x7_1 = 0 then (if x6_1.length < 17592186044416 then (varveref04_R_Rise.l0 kj4 t209 (x6_1 ++ [t212]) (wrap64 (x7_1 + 1)) s0_0 t213 t214) else (none)) else (if 0 ≤ (wrap64 (x7_1 - 1)) then (if (wrap64 (x7_1 - 1)) < (x6_1.length : Int) then (if t212 ≥ (IntKind.u64.wrap (18446744073709551615 - (rd x6_1 (wrap64 (x7_1 - 1))))) then (some (([] : List Int), t213, true)) else (if x6_1.length < 17592186044416 then (varveref04_R_Rise.l0 kj4 t209 (x6_1 ++ [IntKind.u64.wrap ((IntKind.u64.wrap ((rd x6_1 (wrap64 (x7_1 - 1))) + t212)) + 1)]) (wrap64 (x7_1 + 1)) s0_0 t213 t214) else (none))) else (none)) else (none))) = some (r1, r2, r3) := H; have A9 := mkA A90; clear A90; by_cases c10 : x7_1 = 0
      ·rw [if_pos c10] at H
       have c10b0 : (x7_1 == 0) = true := beq_iff_eq.mpr c10; have c10b1 : (x7_1 != 0) = false := bne_eq_false_iff_eq.mpr c10; clear c10; by_cases c11 : x6_1.length < 17592186044416
       ·rw [if_pos c11] at H
        have LMc11 := mkA c11; clear c11; obtain ⟨y215, hy215⟩ : ∃ y_ : List Int, y_ = (x6_1 ++ [t212]) := ⟨_, rfl⟩
        replace H : (varveref04_R_Rise.l0 kj4 t209 y215 (wrap64 (x7_1 + 1)) s0_0 t213 t214) = some (r1, r2, r3) := by first | (rw [hy215]; with_reducible exact H) | (have H2_ := (Option.bind_some _ _).symm.trans H; rw [hy215]; with_reducible exact H2_) | (have H2_ := (Option.bind_some _ _).symm.trans H; with_reducible exact H2_) | with_reducible exact H | (rw [hy215]; exact H) | exact H
        have Ny215 := mkA hy215; clear hy215; have H' := mkA H; clear H; (go_wp2_with (first | ((with_reducible refine gate_callee (f := 42) rfl ?_); refine goesL_ (some 26) rfl rfl Try.func42 zk11 rfl #[.pointer (some ⟨g, 0, none⟩)] rfl zk2 ?_; (with_reducible refine (varveref04_R_Num.calls kj4 g s0_0 x1001_1 x1002_1 t212 t213 t214 w0 _ ?side1 ?side2 A9.out).mono ?_); (case side1 => exact zk4); (case side2 => exact zk3); rintro e w12 ⟨rfl, hi, hb, hk⟩; refine ⟨_, rfl, ?_⟩; have n0_ := mkA (Kd.R_mono (Kd.R_keep (IsS29.apart (show IsS29 w0 _ g s0_0 x1001_1 x1002_1 from by repeat (first | (with_reducible first | exact HI0.out | apply IsS29.alloc | apply IsS29.drewN | apply IsS29.drew | apply IsS29.set_1 | apply IsS29.set_2) | exact HI0.out)) zk73 zk47) hk (fun _ h => h.2)) (fun _ h => h.1)); have n1_ := mkA (KeepBut.trans zk5 hk (.inl rfl)); have n2_ := mkA (hb); have n3_ := mkA (hi); clear HO_6; clear HK; clear HB; clear HI0; have HO_6 := n0_; have HK := n1_; have HB := n2_; have HI0 := n3_; clear n0_ n1_ n2_ n3_; (try clear hb); (try clear hb2); (try clear hk); (try clear hi)) | ((with_reducible refine gate_builtin (b := .append) (xs := #[.tmp 29, .tmp 31]) rfl ?_); at_builtin; refine Kd.R_append (Kd.int .u64) w.heap.size rfl (.tmp 29) (.tmp 31) 40 41 (.int .u64 0) 8 rfl Try.underlying40 info41 rfl zk47 zk6 u6 x6_1 t212 [.int .u64 t212] (fun _ => True) (fun _ => False) rfl rfl ?aP (fun _ hk => hk.elim) ?aF ?aO (Below.refl _ _) ?aS ?aL ?_; (case aP => exact rfl); (case aF => exact zk125); (case aO => exact zk160); (case aS => exact zk118); (case aL => have := LMc11.out; omega); intro v216 w13 ho hb hg hat; rw [← Ny215.out] at ho; have n0_ := mkA (IsS29.grown zk4 hg (IsS29.own_ne HI0.out HO_6.out zk47)); have n1_ := mkA (below_weaken zk3 HL.out hb); have n2_ := mkA (KeepBut.trans zk5 (KeepBut.of_grown hg g) (Kd.R_base2 HO_6.out)); have n3_ := mkA (ho); clear HI0; clear HB; clear HK; clear HO_6; have HI0 := n0_; have HB := n1_; have HK := n2_; have HO217 := n3_; clear n0_ n1_ n2_ n3_; clear ho hb hg hat))); go_roundg kj4
        case measure => have := HK1.out; have := HJ4.out; omega
        case rel => exact ⟨(y215), (wrap64 (x7_1 + 1)), (t213), (t214), zk14, H', ⟨by have := HK1.out; have := HJ4.out; omega⟩, ⟨by (with_reducible repeat (first | apply Kd.R_alloc | apply Kd.R_drewN | apply Kd.R_drew)); exact HO217.out⟩, ⟨zk4⟩, ⟨zk5⟩, ⟨zk3⟩⟩
       ·exact zk230
      ·rw [if_neg c10] at H
       have c10b0 : (x7_1 == 0) = false := beq_eq_false_iff_ne.mpr c10; have c10b1 : (x7_1 != 0) = true := bne_iff_ne.mpr c10; obtain ⟨ji14, hji14⟩ : ∃ j_ : Int, (wrap64 (x7_1 - 1)) = j_ := ⟨_, rfl⟩
       replace H : (if 0 ≤ (ji14) then (if (ji14) < (x6_1.length : Int) then (if t212 ≥ (IntKind.u64.wrap (18446744073709551615 - (rd x6_1 (ji14)))) then (some (([] : List Int), t213, true)) else (if x6_1.length < 17592186044416 then (varveref04_R_Rise.l0 kj4 t209 (x6_1 ++ [IntKind.u64.wrap ((IntKind.u64.wrap ((rd x6_1 (ji14)) + t212)) + 1)]) (wrap64 (x7_1 + 1)) s0_0 t213 t214) else (none))) else (none)) else (none)) = some (r1, r2, r3) := zk148
       (try rw [hji14] at A9); have hji14w : (IntKind.i64.wrap (x7_1 - 1)) = ji14 := (i64_w _).trans hji14; by_cases c15 : 0 ≤ (ji14)
       ·rw [if_pos c15] at H
        have c15b0 : decide (0 ≤ (ji14)) = true := decide_eq_true c15; clear c15; by_cases c16 : (ji14) < (x6_1.length : Int)
        ·rw [if_pos c16] at H
         have c16b0 : decide ((ji14) < (x6_1.length : Int)) = true := decide_eq_true c16; clear c16; by_cases c17 : t212 ≥ (IntKind.u64.wrap (18446744073709551615 - (rd x6_1 (ji14))))
         ·rw [if_pos c17] at H
          have c17b0 : decide ((IntKind.u64.wrap (18446744073709551615 - (rd x6_1 (ji14)))) ≤ t212) = true := decide_eq_true c17; clear c17; simp only [Option.some.injEq, Prod.mk.injEq] at H; obtain ⟨rfl, rfl, rfl⟩ := H; (go_wp2_with (first | ((with_reducible refine gate_callee (f := 42) rfl ?_); refine goesL_ (some 26) rfl rfl Try.func42 zk11 rfl #[.pointer (some ⟨g, 0, none⟩)] rfl zk2 ?_; (with_reducible refine (varveref04_R_Num.calls kj4 g s0_0 x1001_1 x1002_1 t212 t213 t214 w0 _ ?side1 ?side2 A9.out).mono ?_); (case side1 => exact zk4); (case side2 => exact zk3); rintro e w18 ⟨rfl, hi, hb, hk⟩; refine ⟨_, rfl, ?_⟩; have n0_ := mkA (Kd.R_mono (Kd.R_keep (IsS29.apart (show IsS29 w0 _ g s0_0 x1001_1 x1002_1 from by repeat (first | (with_reducible first | exact HI0.out | apply IsS29.alloc | apply IsS29.drewN | apply IsS29.drew | apply IsS29.set_1 | apply IsS29.set_2) | exact HI0.out)) zk73 zk47) hk (fun _ h => h.2)) (fun _ h => h.1)); have n1_ := mkA (KeepBut.trans zk5 hk (.inl rfl)); have n2_ := mkA (hb); have n3_ := mkA (hi); clear HO_6; clear HK; clear HB; clear HI0; have HO_6 := n0_; have HK := n1_; have HB := n2_; have HI0 := n3_; clear n0_ n1_ n2_ n3_; (try clear hb); (try clear hb2); (try clear hk); (try clear hi); obtain ⟨Ao19, co19, eo19⟩ := Kd.R_slice HO_6.out; subst eo19; have p218 : 0 ≤ ((ji14) : Int) := of_decide_eq_true zk8; have q218 : (ji14) < (x6_1.length : Int) := of_decide_eq_true zk8; obtain ⟨ad218, e218, hx218_0⟩ := Kd.at_int (Kd.R_reads' HO_6.out).2.2 (ji14) p218 q218; cases e218; replace p218 := eq_true p218; replace q218 := eq_true q218; obtain ⟨ASz20_0, cSz20_0, HGz20, hgz20, HSz20_0⟩ := HI0.out; have hcz20_0 := cellS29_0 HGz20; have hcz20_1 := cellS29_1 HGz20; have hcz20_2 := cellS29_2 HGz20; have hfz20_1 := blk_frozen HGz20 1; have hfz20_2 := blk_frozen HGz20 2; clear HGz20 hgz20))); go_ret
          exact ⟨_, by first | rfl | (simp [errW_none, errW_some] <;> rfl) | (simp only [← hji14]; first | rfl | (simp [errW_none, errW_some] <;> rfl)) | (simp [*, errW_none, errW_some] <;> rfl), zk35, zk4, zk3, zk5⟩
         ·rw [if_neg c17] at H
          have c17b0 : decide ((IntKind.u64.wrap (18446744073709551615 - (rd x6_1 (ji14)))) ≤ t212) = false := decide_eq_false c17; clear c17; by_cases c21 : x6_1.length < 17592186044416
          ·rw [if_pos c21] at H
           have LMc21 := mkA c21; clear c21; obtain ⟨y219, hy219⟩ : ∃ y_ : List Int, y_ = (x6_1 ++ [IntKind.u64.wrap ((IntKind.u64.wrap ((rd x6_1 (ji14)) + t212)) + 1)]) := ⟨_, rfl⟩
           replace H : (varveref04_R_Rise.l0 kj4 t209 y219 (wrap64 (x7_1 + 1)) s0_0 t213 t214) = some (r1, r2, r3) := by first | (rw [hy219]; with_reducible exact H) | (have H2_ := (Option.bind_some _ _).symm.trans H; rw [hy219]; with_reducible exact H2_) | (have H2_ := (Option.bind_some _ _).symm.trans H; with_reducible exact H2_) | with_reducible exact H | (rw [hy219]; exact H) | exact H
           have Ny219 := mkA hy219; clear hy219; have H' := mkA H; clear H; (go_wp2_with (first | ((with_reducible refine gate_callee (f := 42) rfl ?_); refine goesL_ (some 26) rfl rfl Try.func42 zk11 rfl #[.pointer (some ⟨g, 0, none⟩)] rfl zk2 ?_; (with_reducible refine (varveref04_R_Num.calls kj4 g s0_0 x1001_1 x1002_1 t212 t213 t214 w0 _ ?side1 ?side2 A9.out).mono ?_); (case side1 => exact zk4); (case side2 => exact zk3); rintro e w22 ⟨rfl, hi, hb, hk⟩; refine ⟨_, rfl, ?_⟩; have n0_ := mkA (Kd.R_mono (Kd.R_keep (IsS29.apart (show IsS29 w0 _ g s0_0 x1001_1 x1002_1 from by repeat (first | (with_reducible first | exact HI0.out | apply IsS29.alloc | apply IsS29.drewN | apply IsS29.drew | apply IsS29.set_1 | apply IsS29.set_2) | exact HI0.out)) zk73 zk47) hk (fun _ h => h.2)) (fun _ h => h.1)); have n1_ := mkA (KeepBut.trans zk5 hk (.inl rfl)); have n2_ := mkA (hb); have n3_ := mkA (hi); clear HO_6; clear HK; clear HB; clear HI0; have HO_6 := n0_; have HK := n1_; have HB := n2_; have HI0 := n3_; clear n0_ n1_ n2_ n3_; (try clear hb); (try clear hb2); (try clear hk); (try clear hi); obtain ⟨Ao23, co23, eo23⟩ := Kd.R_slice HO_6.out; subst eo23; have p218 : 0 ≤ ((ji14) : Int) := of_decide_eq_true zk8; have q218 : (ji14) < (x6_1.length : Int) := of_decide_eq_true zk8; obtain ⟨ad218, e218, hx218_0⟩ := Kd.at_int (Kd.R_reads' HO_6.out).2.2 (ji14) p218 q218; cases e218; replace p218 := eq_true p218; replace q218 := eq_true q218) | ((with_reducible refine gate_builtin (b := .append) (xs := #[.tmp 45, .tmp 50]) rfl ?_); at_builtin; refine Kd.R_append (Kd.int .u64) w.heap.size rfl (.tmp 45) (.tmp 50) 40 41 (.int .u64 0) 8 rfl Try.underlying40 info41 rfl zk47 zk6 (.slice (some ad218) x6_1.length co23) x6_1 (IntKind.u64.wrap ((IntKind.u64.wrap ((rd x6_1 (ji14)) + t212)) + 1)) [.int .u64 (IntKind.u64.wrap ((IntKind.u64.wrap ((rd x6_1 (ji14)) + t212)) + 1))] (fun _ => True) (fun _ => False) rfl rfl ?aP (fun _ hk => hk.elim) ?aF ?aO (Below.refl _ _) ?aS ?aL ?_; (case aP => exact rfl); (case aF => exact zk125); (case aO => exact zk160); (case aS => exact zk118); (case aL => have := LMc21.out; omega); intro v220 w24 ho hb hg hat; rw [← Ny219.out] at ho; have n0_ := mkA (IsS29.grown zk4 hg (IsS29.own_ne HI0.out HO_6.out zk47)); have n1_ := mkA (below_weaken zk3 HL.out hb); have n2_ := mkA (KeepBut.trans zk5 (KeepBut.of_grown hg g) (Kd.R_base2 HO_6.out)); have n3_ := mkA (ho); clear HI0; clear HB; clear HK; clear HO_6; have HI0 := n0_; have HB := n1_; have HK := n2_; have HO221 := n3_; clear n0_ n1_ n2_ n3_; clear ho hb hg hat))); go_roundg kj4
           case measure => have := HK1.out; have := HJ4.out; omega
           case rel => exact ⟨(y219), (wrap64 (x7_1 + 1)), (t213), (t214), zk14, H', ⟨by have := HK1.out; have := HJ4.out; omega⟩, ⟨by (with_reducible repeat (first | apply Kd.R_alloc | apply Kd.R_drewN | apply Kd.R_drew)); exact HO221.out⟩, ⟨zk4⟩, ⟨zk5⟩, ⟨zk3⟩⟩
          ·rw [if_neg c21] at H; exact absurd H zk56
        ·rw [if_neg c16] at H; exact absurd H zk56
       ·rw [if_neg c15] at H; exact absurd H zk56
     ·replace c8 := Bool.eq_false_iff.mpr c8
      subst c8; have H1 : (if x1002_1 = true then (some (([] : List Int), x1001_1, x1002_1)) else (some (x6_1, x1001_1, x1002_1))) = some (r1, r2, r3) := zk41
      clear H; have H := H1; clear H1; by_cases c25 : x1002_1 = true
      ·subst c25
       have H1 : (some (([] : List Int), x1001_1, true)) = some (r1, r2, r3) := zk76
       clear H; have H := H1; clear H1; simp only [Option.some.injEq, Prod.mk.injEq] at H; obtain ⟨rfl, rfl, rfl⟩ := H; obtain ⟨ASz26_0, cSz26_0, HGz26, hgz26, HSz26_0⟩ := HI0.out; have hcz26_0 := cellS29_0 HGz26; have hcz26_1 := cellS29_1 HGz26; have hcz26_2 := cellS29_2 HGz26; have hfz26_1 := blk_frozen HGz26 1; have hfz26_2 := blk_frozen HGz26 2; clear HGz26 hgz26; go_wp2; go_ret
       exact ⟨_, zk7, zk35, zk4, zk3, zk5⟩
      ·replace c25 := Bool.eq_false_iff.mpr c25
       subst c25; have H1 : (some (x6_1, x1001_1, false)) = some (r1, r2, r3) := zk41
       clear H; have H := H1; clear H1; simp only [Option.some.injEq, Prod.mk.injEq] at H; obtain ⟨rfl, rfl, rfl⟩ := H; obtain ⟨ASz27_0, cSz27_0, HGz27, hgz27, HSz27_0⟩ := HI0.out; have hcz27_0 := cellS29_0 HGz27; have hcz27_1 := cellS29_1 HGz27; have hcz27_2 := cellS29_2 HGz27; have hfz27_1 := blk_frozen HGz27 1; have hfz27_2 := blk_frozen HGz27 2; clear HGz27 hgz27; go_wp2; go_ret
       exact ⟨_, zk7, zk73, zk4, zk3, zk5⟩
end Go.Proofs.Ytplgffbfepnihaa.Vt
namespace Go.Proofs.Ytplgffbfepnihaa.Pure
open Go.RowKit Go.Proofs.YtplgffbfepnihaaW.PrintWords Go.Proofs.YtplgffbfepnihaaW.PrintLast Go.Proofs.YtplgffbfepnihaaW.PrintMore Go.Proofs.Ytplgffbfepnihaa.Hi Go.Proofs.Ytplgffbfepnihaa.Vt
def WBy (b : List Int) : Prop := b.length ≤ 140737488355328 ∧ ∀ x ∈ b, 0 ≤ x ∧ x < 256
def numGo (b : List Int) : Nat → Nat → Nat → Option (Nat × Nat)
 | 0, _, _ => none
 | r + 1, p, acc =>
  if p < b.length then
   (if r = 0 ∧ (rd b (p : Int)).toNat > 1 then none
    else if (rd b (p : Int)).toNat < 128 then (if r ≠ 9 ∧ (rd b (p : Int)).toNat = 0 then none else some (acc + (rd b (p : Int)).toNat * 2 ^ (7 * (9 - r)), p + 1))
    else numGo b r (p + 1) (acc + (rd b (p : Int)).toNat % 128 * 2 ^ (7 * (9 - r))))
  else none
theorem and127 (x : Nat) (h : x < 256) : Go.bits .and .u8 (x : Int) 127 = ((x % 128 : Nat) : Int) := by
 have k : ∀ x : Fin 256, Go.bits .and .u8 ((x.val : Nat) : Int) 127 = ((x.val % 128 : Nat) : Int) := by decide +kernel
 exact k ⟨x, h⟩
theorem pow7 (i : Nat) (hi : i ≤ 9) : 2 ^ (7 * i) ≤ 9223372036854775808 := Nat.le_trans (Nat.pow_le_pow_right (by decide) (show 7 * i ≤ 63 by omega)) (by decide)
theorem next_small (acc x i : Nat) (ha : acc < 2 ^ (7 * i)) (hi : i ≤ 9) (h9 : i = 9 → x ≤ 1) : acc + x % 128 * 2 ^ (7 * i) < 2 ^ (7 * (i + 1)) ∧ acc + x % 128 * 2 ^ (7 * i) < 18446744073709551616 := by
 have e : 2 ^ (7 * (i + 1)) = 128 * 2 ^ (7 * i) := by rw [show 7 * (i + 1) = 7 + 7 * i by omega, Nat.pow_add]
 have hx : x % 128 ≤ 127 := zk6
 have h1 : x % 128 * 2 ^ (7 * i) ≤ 127 * 2 ^ (7 * i) := Nat.mul_le_mul_right _ hx; refine ⟨by rw [e]; omega, ?_⟩
 rcases Nat.lt_or_ge i 9 with c | c
 ·have : 2 ^ (7 * (i + 1)) ≤ 9223372036854775808 := pow7 (i + 1) zk6; omega
 ·obtain rfl : i = 9 := by omega
  have := h9 rfl; have : x % 128 * 2 ^ (7 * 9) ≤ 1 * 2 ^ (7 * 9) := Nat.mul_le_mul_right _ zk6; have e2 : (2 : Nat) ^ (7 * 9) = 9223372036854775808 := zk47
  omega
theorem shl7 (x i : Nat) (hi : i ≤ 9) (hx : x % 128 * 2 ^ (7 * i) < 18446744073709551616) : shl .u64 ((x % 128 : Nat) : Int) ((7 * i : Nat) : Int) = ((x % 128 * 2 ^ (7 * i) : Nat) : Int) := by
 unfold shl; have hb : (IntKind.bits .u64) = 64 := rfl; rw [hb, Int.toNat_natCast, Nat.min_eq_left zk6, show (((x % 128 : Nat) : Int) * 2 ^ (7 * i)) = ((x % 128 * 2 ^ (7 * i) : Nat) : Int) by push_cast; rfl]; exact wu_in zk6 zk6
theorem upd (acc x i : Nat) (ha : acc < 2 ^ (7 * i)) (hx : x < 256) (hi : i ≤ 9) (h9 : i = 9 → x ≤ 1) :
  Go.bits .or .u64 (acc : Int) (shl .u64 (IntKind.u64.wrap (Go.bits .and .u8 (x : Int) 127)) (wrap64 (7 * (i : Int)))) = ((acc + x % 128 * 2 ^ (7 * i) : Nat) : Int) := by
 have hs := next_small acc x i ha hi h9; rw [and127 x hx, wu_in zk6 zk6, show wrap64 (7 * (i : Int)) = ((7 * i : Nat) : Int) by unfold wrap64; omega, shl7 x i hi zk6, bits_or_u64_nat _ _ (by have := pow7 i hi; omega) zk6]; have := Nat.two_pow_add_eq_or_of_lt ha (x % 128); rw [Nat.or_comm, Nat.mul_comm (x % 128), ← this, Nat.add_comm]
theorem updR (acc x i : Nat) (ha : acc < 2 ^ (7 * i)) (hx : x < 256) (hi : i ≤ 9) (h9 : i = 9 → x ≤ 1) :
  IntKind.u64.wrap ((acc : Int) + shl .u64 (IntKind.u64.wrap (Int.tmod (x : Int) 128)) (IntKind.u64.wrap (wrap64 (7 * (i : Int))))) = ((acc + x % 128 * 2 ^ (7 * i) : Nat) : Int) := by
 have hs := next_small acc x i ha hi h9; rw [show Int.tmod (x : Int) 128 = ((x % 128 : Nat) : Int) from rfl, wu_in (n := ((x % 128 : Nat) : Int)) zk6 zk6, show wrap64 (7 * (i : Int)) = ((7 * i : Nat) : Int) by unfold wrap64; omega, wu_in (n := ((7 * i : Nat) : Int)) zk6 zk6, shl7 x i hi zk6, wu_in zk6 zk6]; omega
theorem rd_byte {b : List Int} (hb : WBy b) {p : Nat} (hp : p < b.length) : ∃ x : Nat, rd b (p : Int) = (x : Int) ∧ x < 256 := by
 have e : rd b (p : Int) = b[p] := by simp [rd, List.getD, List.getElem?_eq_getElem hp]
 have := hb.2 b[p] (List.getElem_mem hp); exact ⟨(rd b (p : Int)).toNat, by rw [e]; omega, by rw [e]; omega⟩
def getR : Option (Nat × Nat) → Int × Int × Bool
 | some (v, n) => ((v : Int), (n : Int), true)
 | none => (0, 0, false)
set_option maxHeartbeats 1000000 in
theorem vget_go {b : List Int} (hb : WBy b) : ∀ (r i p acc k : Nat), r + i = 10 → acc < 2 ^ (7 * i) → 3 * r + 2 ≤ k → vint_Get.l0 k b (p : Int) (acc : Int) (i : Int) = some (getR (numGo b r p acc)) := by
 intro r
 induction r with
 | zero =>
  intro i p acc k hi ha hk; obtain ⟨k, rfl⟩ : ∃ m, k = m + 2 := ⟨k - 2, zk6⟩
  rw [vint_Get.l0, if_neg zk6, vint_Get.j1, if_neg zk56]; rfl
 | succ r ih =>
  intro i p acc k hi ha hk; obtain ⟨k, rfl⟩ : ∃ m, k = m + 3 := ⟨k - 3, zk6⟩
  rw [vint_Get.l0, if_pos zk6, vint_Get.j1]; by_cases hp : p < b.length
  ·obtain ⟨x, hx, hx2⟩ := rd_byte hb hp
   have hw : wrap64 ((p : Int) + 1) = ((p + 1 : Nat) : Int) := by have := hb.1; unfold wrap64; omega
   have hw7 : 0 ≤ wrap64 (7 * (i : Int)) := by
    rw [show wrap64 (7 * (i : Int)) = ((7 * i : Nat) : Int) by unfold wrap64; omega]; omega
   have h9r : 9 - r = i := zk6
   rw [if_pos (decide_eq_true zk6), if_pos zk6, if_pos zk6, hx, hw]; rw [numGo, if_pos hp, hx, Int.toNat_natCast, h9r]
   have tail : (i = 9 → x ≤ 1) → vint_Get.j2 (k + 1) b ((p + 1 : Nat) : Int) (acc : Int) (i : Int) (x : Int) false = some (getR (if x < 128 then (if r ≠ 9 ∧ x = 0 then none else some (acc + x * 2 ^ (7 * i), p + 1)) else numGo b r (p + 1) (acc + x % 128 * 2 ^ (7 * i)))) := by
    intro h9; rw [vint_Get.j2, if_neg zk56, if_pos hw7, upd acc x i ha hx2 zk6 h9]; by_cases c : x < 128
    ·rw [if_pos zk6, if_pos c]
     by_cases z : r ≠ 9 ∧ x = 0
     ·rw [if_pos zk6, if_pos zk6, if_pos z]; rfl
     ·rw [if_neg z, show x % 128 = x by omega]
      by_cases q : (i : Int) > 0
      ·rw [if_pos q, if_neg zk6]; rfl
      ·rw [if_neg q]; rfl
    ·rw [if_neg zk6, if_neg c, show wrap64 ((i : Int) + 1) = ((i + 1 : Nat) : Int) by unfold wrap64; omega]
     rcases Nat.lt_or_ge i 9 with d | d
     ·exact ih (i + 1) (p + 1) _ k zk6 (next_small acc x i ha zk6 h9).1 zk6
     ·have := h9 zk6; omega
   by_cases h9 : (i : Int) = 9
   ·rw [if_pos h9]
    by_cases g : x > 1
    ·rw [decide_eq_true zk6, vint_Get.j2, if_pos rfl, if_pos ⟨zk6, g⟩]; rfl
    ·rw [decide_eq_false zk6, if_neg (fun h => g h.2)]; exact tail zk6
   ·rw [if_neg h9, if_neg (fun h => h9 zk6)]; exact tail zk6
  ·rw [if_neg zk198, numGo, if_neg hp]; rfl
def numAt (b : List Int) (a : Int) : Option (Nat × Nat) := if a < 0 then none else numGo b 10 a.toNat 0
theorem vget_eq {b : List Int} (hb : WBy b) (a : Int) : vint_Get.f 40 b a = some (getR (numAt b a)) := by
 unfold vint_Get.f numAt; by_cases c : a < 0
 ·rw [if_pos c, if_pos c]; rfl
 ·rw [if_neg c, if_neg c]; have h := vget_go hb 10 0 a.toNat 0 40 zk6 zk47 zk6; rw [show ((a.toNat : Nat) : Int) = a by omega] at h; exact h
set_option maxHeartbeats 1000000 in
theorem rnum_go {b : List Int} (hb : WBy b) : ∀ (r i p acc k : Nat), r + i = 10 → acc < 2 ^ (7 * i) → 3 * r + 2 ≤ k →
  (∀ v n, numGo b r p acc = some (v, n) → varveref04_R_Num.l0 k (acc : Int) (i : Int) b (p : Int) false = some ((v : Int), (n : Int), false)) ∧ (numGo b r p acc = none → ∃ q : Int, varveref04_R_Num.l0 k (acc : Int) (i : Int) b (p : Int) false = some (0, q, true)) := by
 intro r
 induction r with
 | zero =>
  intro i p acc k hi ha hk; obtain ⟨k, rfl⟩ : ∃ m, k = m + 1 := ⟨k - 1, zk6⟩
  refine ⟨fun v n h => by simp [numGo] at h, fun _ => ⟨(p : Int), ?_⟩⟩; rw [varveref04_R_Num.l0, if_neg zk6]
 | succ r ih =>
  intro i p acc k hi ha hk; obtain ⟨k, rfl⟩ : ∃ m, k = m + 3 := ⟨k - 3, zk6⟩
  rw [varveref04_R_Num.l0, if_pos zk6, if_neg zk56, if_neg zk6, varveref04_R_Num.j1]; by_cases hp : p < b.length
  ·obtain ⟨x, hx, hx2⟩ := rd_byte hb hp
   have hw : wrap64 ((p : Int) + 1) = ((p + 1 : Nat) : Int) := by have := hb.1; unfold wrap64; omega
   have hw7 : 0 ≤ IntKind.u64.wrap (wrap64 (7 * (i : Int))) := by rw [wu]; exact Int.emod_nonneg _ zk47
   have h9r : 9 - r = i := zk6
   rw [if_neg zk198, if_pos zk6, if_pos zk6, hx, hw]; rw [numGo, if_pos hp, hx, Int.toNat_natCast, h9r]
   have tail : (i = 9 → x ≤ 1) → (∀ v n, (if x < 128 then (if r ≠ 9 ∧ x = 0 then none else some (acc + x * 2 ^ (7 * i), p + 1)) else numGo b r (p + 1) (acc + x % 128 * 2 ^ (7 * i))) = some (v, n) → varveref04_R_Num.j2 (k + 1) (acc : Int) (i : Int) (x : Int) false b ((p + 1 : Nat) : Int) false = some ((v : Int), (n : Int), false)) ∧
     ((if x < 128 then (if r ≠ 9 ∧ x = 0 then none else some (acc + x * 2 ^ (7 * i), p + 1)) else numGo b r (p + 1) (acc + x % 128 * 2 ^ (7 * i))) = none → ∃ q : Int, varveref04_R_Num.j2 (k + 1) (acc : Int) (i : Int) (x : Int) false b ((p + 1 : Nat) : Int) false = some (0, q, true)) := by
    intro h9
    have ej : varveref04_R_Num.j2 (k + 1) (acc : Int) (i : Int) (x : Int) false b ((p + 1 : Nat) : Int) false = (if (x : Int) < 128 then (if (x : Int) = 0 then (if (i : Int) > 0 then some (0, ((p + 1 : Nat) : Int), true) else some (((acc + x % 128 * 2 ^ (7 * i) : Nat) : Int), ((p + 1 : Nat) : Int), false)) else some (((acc + x % 128 * 2 ^ (7 * i) : Nat) : Int), ((p + 1 : Nat) : Int), false)) else varveref04_R_Num.l0 k ((acc + x % 128 * 2 ^ (7 * i) : Nat) : Int) (wrap64 ((i : Int) + 1)) b ((p + 1 : Nat) : Int) false) := by
     rw [varveref04_R_Num.j2, if_neg zk56, if_pos hw7, updR acc x i ha hx2 zk6 h9]
    rw [ej]; by_cases c : x < 128
    ·rw [if_pos (show (x : Int) < 128 by omega), if_pos c]
     by_cases z : r ≠ 9 ∧ x = 0
     ·rw [if_pos (show (x : Int) = 0 by omega), if_pos (show (i : Int) > 0 by omega), if_pos z]; exact ⟨fun v n h => (by cases h), fun _ => ⟨_, rfl⟩⟩
     ·rw [if_neg z, show x % 128 = x by omega]
      refine ⟨fun v n h => ?_, fun h => (by cases h)⟩
      injection h with h
      injection h with h1 h2
      subst h1; subst h2; by_cases q : (x : Int) = 0
      ·rw [if_pos q, if_neg (show ¬ (i : Int) > 0 by omega)]
      ·rw [if_neg q]
    ·rw [if_neg (show ¬ (x : Int) < 128 by omega), if_neg c, show wrap64 ((i : Int) + 1) = ((i + 1 : Nat) : Int) by unfold wrap64; omega]
     rcases Nat.lt_or_ge i 9 with d | d
     ·exact ih (i + 1) (p + 1) _ k zk6 (next_small acc x i ha zk6 h9).1 zk6
     ·have := h9 zk6; omega
   by_cases h9 : (i : Int) = 9
   ·rw [if_pos h9]
    by_cases g : x > 1
    ·rw [decide_eq_true (show (x : Int) > 1 by omega), varveref04_R_Num.j2, if_pos rfl, if_pos (show r = 0 ∧ x > 1 from ⟨zk6, g⟩)]; exact ⟨fun v n h => (by cases h), fun _ => ⟨_, rfl⟩⟩
    ·rw [decide_eq_false (show ¬ (x : Int) > 1 by omega), if_neg (show ¬ (r = 0 ∧ x > 1) from fun h => g h.2)]; exact tail zk6
   ·rw [if_neg h9, if_neg (show ¬ (r = 0 ∧ x > 1) from fun h => h9 zk6)]; exact tail zk6
  ·rw [if_pos (show decide ((p : Int) ≥ (b.length : Int)) = true from decide_eq_true zk6), numGo, if_neg hp]; exact ⟨fun v n h => (by cases h), fun _ => ⟨_, rfl⟩⟩
theorem rnum_eq {b : List Int} (hb : WBy b) (a : Int) (k : Nat) (hk : 40 ≤ k) : (∀ v n, numAt b a = some (v, n) → varveref04_R_Num.f k b a false = some ((v : Int), (n : Int), false)) ∧ (numAt b a = none → ∃ q : Int, varveref04_R_Num.f k b a false = some (0, q, true)) := by
 unfold varveref04_R_Num.f numAt; by_cases c : a < 0
 ·rw [if_pos c]
  obtain ⟨k, rfl⟩ : ∃ m, k = m + 2 := ⟨k - 2, zk6⟩
  refine ⟨fun v n h => (by cases h), fun _ => ⟨a, ?_⟩⟩; rw [varveref04_R_Num.l0, if_pos zk47, if_neg zk56, if_pos c, varveref04_R_Num.j1, if_pos rfl]
 ·rw [if_neg c]; have h := rnum_go hb 10 0 a.toNat 0 k zk6 zk47 zk6; rw [show ((a.toNat : Nat) : Int) = a by omega] at h; exact h
theorem rnum_bad (b : List Int) (a : Int) (k : Nat) (hk : 2 ≤ k) : varveref04_R_Num.f k b a true = some (0, a, true) := by
 obtain ⟨k, rfl⟩ : ∃ m, k = m + 2 := ⟨k - 2, zk6⟩
 unfold varveref04_R_Num.f; rw [varveref04_R_Num.l0, if_pos zk47, if_pos rfl, varveref04_R_Num.j1, if_pos rfl]
end Go.Proofs.Ytplgffbfepnihaa.Pure
namespace Go.Proofs.Ytplgffbfepnihaa
open Go.RowKit Go.Proofs.YtplgffbfepnihaaW.PrintWords Go.Proofs.YtplgffbfepnihaaW.PrintLast Go.Proofs.YtplgffbfepnihaaW.PrintMore
def encI (l : List Int) : List Int := encL (l.map Int.toNat)
theorem encI_snoc (l : List Int) (n : Int) : encI (l ++ [n]) = encI l ++ encN n.toNat := by unfold encI; rw [List.map_append]; exact encL_snoc _ _
theorem encI_len (l : List Int) (h : ∀ n ∈ l, 0 ≤ n ∧ n < 18446744073709551616) : (encI l).length ≤ 10 * l.length := by
 have := encL_len (l.map Int.toNat) (fun n hn => by obtain ⟨x, hx, rfl⟩ := List.mem_map.1 hn; have := h x hx; omega)
 rwa [List.length_map] at this
theorem Put_nil (n : Nat) (hn : n < 18446744073709551616) (W : World) : Calls Try.prog 91 #[.slice none 0 0, .int .u64 (n : Int)] W fun e w' => ∃ r, e = .returned r ∧ Kd.R (Kd.int .u8) 5 w' W.heap.size (fun _ => True) r (encN n) ∧ Below W.heap.size W w' :=
 Put_any (A := none) (c := 0) (xs := []) (w := W) n hn ⟨rfl, zk47, fun h => absurd h zk47⟩ (Nat.le_refl _) zk47
set_option maxHeartbeats 4000000 in
set_option maxRecDepth 100000 in
theorem plainPut_any {A : Option Addr} {c : Nat} {xs : List Int} {B : Option Addr} {d : Nat} {ls : List Int} {w : World} (hC : Kd.C (Kd.int .u8) w A xs.length xs) (hc : xs.length ≤ c) (hL : Kd.C (Kd.int .u64) w B ls.length ls) (hn : ∀ n ∈ ls, 0 ≤ n ∧ n < 18446744073709551616) (hl : xs.length + 10 * ls.length + 20 ≤ 140737488355328) :
  Calls Try.prog 95 #[.slice A xs.length c, .slice B ls.length d] w fun e w' => ∃ r, e = .returned r ∧ App w' w.heap.size r (xs ++ encI ls) ∧ (ls ≠ [] → Kd.R (Kd.int .u8) 5 w' w.heap.size (fun _ => True) r (xs ++ encI ls)) ∧ Below w.heap.size w w' := by
 have hcut := cut_own (A := A) hc; have HA := Lib.hid (App.cap (base := w.heap.size) hC); have HLL := Lib.hid hL; have HN := Lib.hid hn; have HB := Lib.hid hl; have hll : ls.length ≤ 9223372036854775807 := hL.2.1; clear hC hc hL hn hl; go_enter Try.func95, Try.ntmps95; go_wp2; go_loopw [0, 15] (fun v0 v1 wr => ∃ i : Nat, v1 = .int .i64 i ∧ i ≤ ls.length ∧ App wr w.heap.size v0 (xs ++ encI (ls.take i)) ∧ (0 < i → Kd.R (Kd.int .u8) 5 wr w.heap.size (fun _ => True) v0 (xs ++ encI (ls.take i))) ∧ Below w.heap.size w wr) (fun _ v1 _ => ls.length - (intOf v1).toNat)
 case atStart => exact ⟨0, rfl, Nat.zero_le _, by rw [List.take_zero, show encI [] = [] from rfl, List.append_nil]; exact HA.out, fun h => absurd h zk47, Below.refl _ _⟩
 case round =>
  obtain ⟨i, rfl, hi, hA, hR, hB⟩ := hrel; have HAP := Lib.hid hA; have HRR := Lib.hid hR; have HBW := Lib.hid hB; clear hA hR hB HA; by_cases hil : i < ls.length
  ·have e1 : decide ((i : Int) < (ls.length : Int)) = true := decide_eq_true zk6
   have e1b : decide (i < ls.length) = true := decide_eq_true hil; obtain ⟨ad, hax, q0⟩ := Kd.at_int HLL.out (i : Int) zk6 zk6; rw [Int.toNat_natCast] at q0; have hrd : rd ls (i : Int) = ls[i] := by simp [rd, List.getD, List.getElem?_eq_getElem hil]
   rw [hrd] at q0; have hu := HN.out ls[i] (List.getElem_mem _); obtain ⟨n, hne⟩ : ∃ n : Nat, ls[i] = (n : Int) := ⟨ls[i].toNat, zk6⟩
   rw [hne] at q0 hu; have et : encI (ls.take (i + 1)) = encI (ls.take i) ++ encN n := by rw [List.take_succ_eq_append_getElem hil, encI_snoc, hne, Int.toNat_natCast]
   have p0 := (HBW.out.cell (World.block_lt_of_cell? w _ q0)).trans q0; have hlen := encI_len (ls.take i) (fun x hx => HN.out x (List.mem_of_mem_take hx)); rw [List.length_take] at hlen; have HET := Lib.hid et; have HI := Lib.hid hil; have HP := Lib.hid (Put_nil n zk6); have hel := encN_len n zk6; have HY := Lib.hid (show (xs ++ encI (ls.take i)).length + (encN n).length ≤ 140737488355328 by have := HB.out; rw [List.length_append]; omega); have HPN := Lib.hid (encN_pos n); clear q0 hrd hu hne et hlen hel; subst hax
   go_wp2_with (first
    | (go_at_call 91; (with_reducible refine (HP.out _).mono ?_); rintro e w1 ⟨r, rfl, hR1, hB1⟩; obtain ⟨A1, c1, rfl, hc1, hC1⟩ := Kd.R_reads hR1; have HC1 := Lib.hid hC1; have HA1 := Lib.hid (HAP.out.below hB1); have n_ := HBW.out.trans (hB1.mono HBW.out.size); clear HBW; have HBW := Lib.hid n_; clear n_ hR1 hB1 hc1 hC1)
    | ((with_reducible refine gate_builtin (b := .append) (xs := #[.tmp 19, .tmp 21]) rfl ?_); at_builtin; refine App.append (w0 := w) w.heap.size rfl (.tmp 19) (.tmp 21) rfl u0 (xs ++ encI (ls.take i)) (encN n) A1 (encN n).length c1 rfl rfl ?aA ?aR ?aP ?aB ?aS ?aL ?_; (case aA => exact HA1.out); (case aR => exact HC1.out); (case aP => exact HPN.out); (case aB => exact HBW.out); (case aS => exact HBW.out.size); (case aL => exact HY.out); intro v_ w_ ho hb hs; rw [List.append_assoc, ← HET.out] at ho; have HO := Lib.hid ho; have HB2 := Lib.hid hb; clear ho hb hs))
   go_roundw
   case rel => exact ⟨i + 1, zk176, zk97, .inl HO.out, fun _ => HO.out, HB2.out⟩
   case measure => have := HI.out; simp [intOf]; omega
  ·have e1 : decide ((i : Int) < (ls.length : Int)) = false := decide_eq_false zk6
   have e1b : decide (i < ls.length) = false := decide_eq_false hil; obtain rfl : i = ls.length := zk6
   rw [List.take_length] at HAP HRR; clear hil; go_wp2; go_ret
   exact ⟨_, rfl, HAP.out, fun h => HRR.out (List.length_pos_iff.2 h), HBW.out⟩
def prevN (l : List Int) : Nat → Int
 | 0 => 0
 | i + 1 => IntKind.u64.wrap (rd l (i : Int) + 1)
def diffs (l : List Int) (n : Nat) : List Nat := (List.range n).map (fun i : Nat => (IntKind.u64.wrap (rd l (i : Int) - prevN l i)).toNat)
theorem diffs_succ (l : List Int) (n : Nat) : diffs l (n + 1) = diffs l n ++ [(IntKind.u64.wrap (rd l (n : Int) - prevN l n)).toNat] := by simp [diffs, List.range_succ]
theorem wrapU (x : Int) : 0 ≤ IntKind.u64.wrap x ∧ IntKind.u64.wrap x < 18446744073709551616 := by
 have h : IntKind.u64.wrap x = x % 18446744073709551616 := by first | rfl | simp [IntKind.wrap]
 rw [h]; omega
theorem diffs_small (l : List Int) (n : Nat) : ∀ m ∈ diffs l n, m < 18446744073709551616 := fun m hm => by
 obtain ⟨i, _, rfl⟩ := List.mem_map.1 hm; have := wrapU (rd l (i : Int) - prevN l i); omega
theorem diffs_len (l : List Int) (n : Nat) : (diffs l n).length = n := by simp [diffs]
set_option maxHeartbeats 4000000 in
set_option maxRecDepth 100000 in
theorem putRise_any {A : Option Addr} {c : Nat} {xs : List Int} {B : Option Addr} {d : Nat} {ls : List Int} {w : World} (hC : Kd.C (Kd.int .u8) w A xs.length xs) (hc : xs.length ≤ c) (hL : Kd.C (Kd.int .u64) w B ls.length ls) (hn : ∀ n ∈ ls, 0 ≤ n ∧ n < 18446744073709551616) (hl : xs.length + 10 * ls.length + 60 ≤ 140737488355328) :
  Calls Try.prog 63 #[.slice A xs.length c, .slice B ls.length d] w fun e w' => ∃ r, e = .returned r ∧ Kd.R (Kd.int .u8) 5 w' w.heap.size (fun _ => True) r (xs ++ encN ls.length ++ encL (diffs ls ls.length)) ∧ Below w.heap.size w w' := by
 have HP := Lib.hid (Put_any (w := w) (A := A) (c := c) (xs := xs) ls.length zk6 hC hc zk6); have HLL := Lib.hid hL; have HN := Lib.hid hn; have HB := Lib.hid hl; have hll : ls.length ≤ 14073748835532 := zk6
 have HE0 := Lib.hid (encN_len ls.length zk6); clear hC hc hL hn hl; go_enter Try.func63, Try.ntmps63; (go_wp2_with (go_at_call 91; (with_reducible refine HP.out.mono ?_); rintro e w1 ⟨r, rfl, hR, hB⟩; have HR := Lib.hid hR; have HBW := Lib.hid hB; clear hR hB HP)); go_loopw [0, 5, 15] (fun v0 v5 v1 wr => ∃ i : Nat, v1 = .int .i64 i ∧ i ≤ ls.length ∧ v5 = .int .u64 (prevN ls i) ∧ Kd.R (Kd.int .u8) 5 wr w.heap.size (fun _ => True) v0 (xs ++ encN ls.length ++ encL (diffs ls i)) ∧ Below w.heap.size w wr) (fun _ _ v1 _ => ls.length - (intOf v1).toNat)
 case atStart => exact ⟨0, rfl, Nat.zero_le _, rfl, by rw [show diffs ls 0 = [] from rfl, show encL [] = [] from rfl, List.append_nil]; exact HR.out, HBW.out⟩
 case round =>
  obtain ⟨i, rfl, hi, rfl, hR, hB⟩ := hrel; have HRR := Lib.hid hR; have HBW2 := Lib.hid hB; clear hR hB HR HBW; by_cases hil : i < ls.length
  ·have e1 : decide ((i : Int) < (ls.length : Int)) = true := decide_eq_true zk6
   have e1b : decide (i < ls.length) = true := decide_eq_true hil; obtain ⟨ad, hax, q0⟩ := Kd.at_int HLL.out (i : Int) zk6 zk6; rw [Int.toNat_natCast] at q0; have hrd : rd ls (i : Int) = ls[i] := by simp [rd, List.getD, List.getElem?_eq_getElem hil]
   have hu := HN.out ls[i] (List.getElem_mem _); rw [← hrd] at hu; have p0 := (HBW2.out.cell (World.block_lt_of_cell? w _ q0)).trans q0; have ed := diffs_succ ls i; obtain ⟨z, hz⟩ : ∃ z, IntKind.u64.wrap (rd ls (i : Int) - prevN ls i) = z := ⟨_, rfl⟩
   have hzb := wrapU (rd ls (i : Int) - prevN ls i); rw [hz] at hzb ed; obtain ⟨m, rfl⟩ : ∃ m : Nat, z = (m : Int) := ⟨z.toNat, zk6⟩
   rw [Int.toNat_natCast] at ed; have hlen := encL_len (diffs ls i) (diffs_small ls i); rw [diffs_len] at hlen; have HED := Lib.hid ed; have HI := Lib.hid hil; have hnx : prevN ls (i + 1) = IntKind.u64.wrap (rd ls (i : Int) + 1) := rfl; have HNX := Lib.hid hnx; have HQ := Lib.hid (put_any (w0 := w) (w := wr) (base := w.heap.size) (b := u0) m zk6 (.inl HRR.out) HBW2.out HBW2.out.size (by have := HB.out; have := HE0.out; rw [List.length_append, List.length_append]; omega)); have HZ := Lib.hid hz; clear q0 hrd ed hzb hlen hnx hz; subst hax; (go_wp2_with (go_at_call 92; rw [HZ.out]; (with_reducible refine HQ.out.mono ?_); rintro e w2 ⟨r2, rfl, hR2, hB2, hs2⟩; rw [List.append_assoc (xs ++ encN ls.length), ← encL_snoc, ← HED.out] at hR2; have HR2 := Lib.hid hR2; have HB2 := Lib.hid hB2; clear hR2 hB2 hs2)); go_roundw
   case rel => exact ⟨i + 1, zk176, zk97, by rw [HNX.out], HR2.out, HB2.out⟩
   case measure => have := HI.out; simp [intOf]; omega
  ·have e1 : decide ((i : Int) < (ls.length : Int)) = false := decide_eq_false zk6
   have e1b : decide (i < ls.length) = false := decide_eq_false hil; obtain rfl : i = ls.length := zk6
   clear hil; go_wp2; go_ret
   exact ⟨_, rfl, HRR.out, HBW2.out⟩
end Go.Proofs.Ytplgffbfepnihaa
namespace Go.Proofs.Ytplgffbfepnihaa.Pure
open Go.RowKit Go.Proofs.YtplgffbfepnihaaW.PrintWords Go.Proofs.YtplgffbfepnihaaW.PrintLast Go.Proofs.YtplgffbfepnihaaW.PrintMore Go.Proofs.Ytplgffbfepnihaa.Hi Go.Proofs.Ytplgffbfepnihaa.Vt
theorem rd_mid (xs : List Int) (x : Int) (ys : List Int) : rd (xs ++ x :: ys) (xs.length : Int) = x := by
 simp [rd, List.getD]
theorem numGo_enc : ∀ (n i r acc : Nat) (xs ys : List Int), r + i = 10 → (0 < n ∨ i = 0) → n * 2 ^ (7 * i) < 18446744073709551616 →
  numGo (xs ++ encN n ++ ys) r xs.length acc = some (acc + n * 2 ^ (7 * i), xs.length + (encN n).length) := by
 intro n
 induction n using Nat.strongRecOn with
 | _ n ih =>
  intro i r acc xs ys hr hp hlt
  have hi : i ≤ 9 := by
   rcases Nat.lt_or_ge i 10 with c | c
   ·omega
   ·have hn : 0 < n := by omega
    have : 2 ^ 70 ≤ 2 ^ (7 * i) := Nat.pow_le_pow_right zk47 zk6; have h2 : 1 * 2 ^ (7 * i) ≤ n * 2 ^ (7 * i) := Nat.mul_le_mul_right _ hn; have : (2 : Nat) ^ 70 = 1180591620717411303424 := zk47
    omega
  have h9 : i = 9 → n ≤ 1 := by
   rintro rfl; have : (2 : Nat) ^ (7 * 9) = 9223372036854775808 := zk47
   rw [this] at hlt; omega
  obtain ⟨r, rfl⟩ : ∃ m, r = m + 1 := ⟨r - 1, zk6⟩
  have e9 : 9 - r = i := zk6
  by_cases c : n < 128
  ·rw [encN_low c, numGo, List.append_assoc, List.singleton_append, rd_mid, if_pos zk56, Int.toNat_natCast, if_neg zk6, if_pos c, if_neg zk6, e9]; rfl
  ·have e7 : 2 ^ (7 * (i + 1)) = 128 * 2 ^ (7 * i) := by rw [show 7 * (i + 1) = 7 + 7 * i by omega, Nat.pow_add]
   have hd : n / 128 * (128 * 2 ^ (7 * i)) + n % 128 * 2 ^ (7 * i) = n * 2 ^ (7 * i) := by
    rw [← Nat.mul_assoc, ← Nat.add_mul]; congr 1; omega
   have hq := ih (n / 128) zk6 (i + 1) r (acc + n % 128 * 2 ^ (7 * i)) (xs ++ [((n % 128 + 128 : Nat) : Int)]) ys zk6 zk6 (by rw [e7]; omega); rw [encN_high c, numGo, List.append_assoc, List.cons_append, rd_mid, if_pos zk56, Int.toNat_natCast, if_neg zk6, if_neg zk6, e9, show (n % 128 + 128) % 128 = n % 128 by omega]; rw [List.length_append, List.length_singleton, e7, Nat.add_assoc, Nat.add_comm (n % 128 * 2 ^ (7 * i)), hd] at hq; rw [show xs ++ ((n % 128 + 128 : Nat) : Int) :: (encN (n / 128) ++ ys) = xs ++ [((n % 128 + 128 : Nat) : Int)] ++ encN (n / 128) ++ ys by simp, hq, List.length_cons]; congr 2; omega
theorem numAt_enc (n : Nat) (hn : n < 18446744073709551616) (xs ys : List Int) : numAt (xs ++ encN n ++ ys) (xs.length : Int) = some (n, xs.length + (encN n).length) := by
 have h := numGo_enc n 0 10 0 xs ys rfl (.inr rfl) (by simpa using hn); have hp := encN_pos n; unfold numAt; rw [if_neg zk6, Int.toNat_natCast, h]; simp
end Go.Proofs.Ytplgffbfepnihaa.Pure
