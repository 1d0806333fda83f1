/- What the laws of this folder share, part 3: walks of functions over their Go text, and plain lemmas. Conditions: as each lemma says. -/
import Derived.Test.YtlkhdbfhnpbbhaaProg
import Derived.Test.YtlkhdbfhnpbbhaaRows
import Derived.Below
import Derived.Deep.Draws
import Derived.Deep.AppendLies
import Derived.Maps.AppendAt
import Derived.OwnWalk
import Derived.Laws.BytesArg
import Derived.Laws.MakeOwn
import Derived.Laws.OwnMore
import Derived.Deep.OwnRows
import Derived.Tactics
import Derived.Lib.ConvBytes
import Derived.Laws.Slices
import Derived.WalkKit
import Derived.KernelRfl
import Derived.RowKit3
import Derived.Deep.LoopGhost
import Derived.Deep.QuietTactic
import Derived.BigQuiet
import Derived.WideLaws
import Derived.Deep.DeepCutAuto
import Derived.Deep.CutBlock
import Derived.Deep.RegionHeld3
import Derived.Laws.Rows
import Derived.Lib.AppendStr
import Derived.ArgAppend
import Derived.Laws.IdiomCopy
import Derived.OrdersHeld
import Derived.Laws.BitsLemmas
import Derived.RowKit
import Derived.Test.YtlkhdbfhnpbbhaaJnM2
set_option linter.unusedVariables false
set_option linter.unusedSimpArgs false
namespace Go.Proofs.Ytlkhdbfhnpbbhaa.Ix
open Go.RowKit Go.Proofs.YtlkhdbfhnpbbhaaW.PrintWords Go.Proofs.YtlkhdbfhnpbbhaaW.PrintLast Go.Proofs.YtlkhdbfhnpbbhaaW.PrintMore
attribute [local go_sem high] eqA41
def varveref11_Value.l0 : Nat → List (S41) → ByteArray → Int → Option (ByteArray)
 | 0, _, _, _ => none
 | k + 1, x0, x1, x5 => if x5 < (x0.length : Int) then (if 0 ≤ x5 then (if ((rd_T41 x0 x5).f0).toList = x1.toList then (some ((rd_T41 x0 x5).f1)) else (varveref11_Value.l0 k x0 x1 (wrap64 (x5 + 1)))) else (none)) else (some (⟨#[]⟩ : ByteArray))
def varveref11_Value.f (k : Nat) (l0 : List (S41)) (a1 : ByteArray) : Option (ByteArray) := varveref11_Value.l0 k l0 a1 0
set_option maxHeartbeats 8000000 in
set_option maxRecDepth 100000 in
theorem varveref11_Value.calls (k : Nat) (A0 : Option Addr) (c0 : Nat) (l0 : List (S41)) (a1 : ByteArray) (r : ByteArray) (w : World) (hr0 : Kd.C k41 w A0 l0.length l0) (hc0 : l0.length ≤ c0) (h : varveref11_Value.f k l0 a1 = some r) :
  Calls Try.prog 43 #[.slice A0 l0.length c0, .string a1] w fun e w' => e = .returned (.string r) ∧ Drawn0 w w' := by
 have HR0 := mkA hr0; have HC0 := mkA hc0; clear hr0 hc0; have H : (varveref11_Value.l0 k l0 a1 0) = some r := h; clear h; have H' := mkA H; clear H; go_enter Try.func43, Try.ntmps43; go_wp2; go_loopg [5] k (fun kq v5 w' => ∃ (x5_1 : Int), v5 = .int .i64 x5_1 ∧ Aside0 (varveref11_Value.l0 kq l0 a1 x5_1 = some r) ∧ Aside0 (kq ≤ k) ∧ Drawn0 w w')
 case atStart => exact ⟨(0), zk6, H', ⟨Nat.le_refl _⟩, zk7⟩
 case round =>
  clear H'; (try clear p2); obtain ⟨x5_1, rfl, HA, HK1, ⟨m1, rfl⟩⟩ := hrel
  cases gk with
  | zero => exact absurd HA.out (by simp [varveref11_Value.l0])
  | succ k1 =>
   have H := HA.out; clear HA; simp only [varveref11_Value.l0] at H; by_cases c3 : x5_1 < (l0.length : Int)
   ·rw [if_pos c3] at H
    have c3b0 : decide (x5_1 < (l0.length : Int)) = true := decide_eq_true c3; clear c3; by_cases c4 : 0 ≤ x5_1
    ·rw [if_pos c4] at H
     have c4b0 : decide (0 ≤ x5_1) = true := decide_eq_true c4; clear c4; by_cases c5 : ((rd_T41 l0 x5_1).f0).toList = a1.toList
     ·rw [if_pos c5] at H
      have c5b0 : (((rd_T41 l0 x5_1).f0).toList == a1.toList) = true := beq_iff_eq.mpr c5; have c5b1 : (((rd_T41 l0 x5_1).f0).toList != a1.toList) = false := bne_eq_false_iff_eq.mpr c5; clear c5; obtain rfl := Option.some.inj H; have p146 : 0 ≤ (x5_1 : Int) := of_decide_eq_true zk2; have q146 : x5_1 < (l0.length : Int) := of_decide_eq_true zk2; obtain ⟨ad146, e146, hx146_0, hx146_1⟩ := at_T41 HR0.out x5_1 p146 q146; cases e146; replace p146 := eq_true p146; replace q146 := eq_true q146; have p147 : 0 ≤ (x5_1 : Int) := of_decide_eq_true zk2; have q147 : x5_1 < (l0.length : Int) := of_decide_eq_true zk2; obtain ⟨ad147, e147, hx147_0, hx147_1⟩ := at_T41 HR0.out x5_1 p147 q147; obtain rfl : ad146 = ad147 := (by injection e147)
      replace p147 := eq_true p147; replace q147 := eq_true q147; go_wp2; go_ret
      exact zk128
     ·rw [if_neg c5] at H
      have c5b0 : (((rd_T41 l0 x5_1).f0).toList == a1.toList) = false := beq_eq_false_iff_ne.mpr c5; have c5b1 : (((rd_T41 l0 x5_1).f0).toList != a1.toList) = true := bne_iff_ne.mpr c5; have H' := mkA H; clear H; have p146 : 0 ≤ (x5_1 : Int) := of_decide_eq_true zk2; have q146 : x5_1 < (l0.length : Int) := of_decide_eq_true zk2; obtain ⟨ad146, e146, hx146_0, hx146_1⟩ := at_T41 HR0.out x5_1 p146 q146; cases e146; replace p146 := eq_true p146; replace q146 := eq_true q146; go_wp2; go_roundg k1
      case measure => have := HK1.out; omega
      case rel => exact ⟨(wrap64 (x5_1 + 1)), zk6, H', ⟨zk42⟩, zk7⟩
    ·exact zk126
   ·rw [if_neg c3] at H
    have c3b0 : decide (x5_1 < (l0.length : Int)) = false := decide_eq_false c3; clear c3; obtain rfl := Option.some.inj H; go_wp2; go_ret
    exact zk128
def varvelaw00_SameInts.l0 : Nat → List Int → List Int → Int → Option (Bool)
 | 0, _, _, _ => none
 | k + 1, x0, x1, x5 => if x5 < (x0.length : Int) then (if 0 ≤ x5 then (if x5 < (x1.length : Int) then (if (rd x0 x5) = (rd x1 x5) then (varvelaw00_SameInts.l0 k x0 x1 (wrap64 (x5 + 1))) else (some false)) else (none)) else (none)) else (some true)
def varvelaw00_SameInts.f (k : Nat) (l0 : List Int) (l1 : List Int) : Option (Bool) := if (l0.length : Int) = (l1.length : Int) then (varvelaw00_SameInts.l0 k l0 l1 0) else (some false)
set_option maxHeartbeats 8000000 in
set_option maxRecDepth 100000 in
theorem varvelaw00_SameInts.calls (k : Nat) (A0 : Option Addr) (c0 : Nat) (l0 : List Int) (A1 : Option Addr) (c1 : Nat) (l1 : List Int) (r : Bool) (w : World) (hr0 : Kd.C (Kd.int .i64) w A0 l0.length l0) (hc0 : l0.length ≤ c0) (hr1 : Kd.C (Kd.int .i64) w A1 l1.length l1) (hc1 : l1.length ≤ c1) (h : varvelaw00_SameInts.f k l0 l1 = some r) :
  Calls Try.prog 17 #[.slice A0 l0.length c0, .slice A1 l1.length c1] w fun e w' => e = .returned (.bool r) ∧ Drawn0 w w' := by
 have HR0 := mkA hr0; have HC0 := mkA hc0; clear hr0 hc0; have HR1 := mkA hr1; have HC1 := mkA hc1; clear hr1 hc1; have H : (if (l0.length : Int) = (l1.length : Int) then (varvelaw00_SameInts.l0 k l0 l1 0) else (some false)) = some r := h; clear h; by_cases c3 : (l0.length : Int) = (l1.length : Int)
 ·rw [if_pos c3] at H
  have c3b0 : ((l0.length : Int) == (l1.length : Int)) = true := beq_iff_eq.mpr c3; have c3b1 : ((l0.length : Int) != (l1.length : Int)) = false := bne_eq_false_iff_eq.mpr c3; have c3b2 : (l0.length == l1.length) = true := zk71
  clear c3; have H' := mkA H; clear H; go_enter Try.func17, Try.ntmps17; go_wp2; (repeat (go_quiet (fail); try go_wp2)); go_loopg [5] k (fun kq v5 w' => ∃ (x5_1 : Int), v5 = .int .i64 x5_1 ∧ Aside0 (varvelaw00_SameInts.l0 kq l0 l1 x5_1 = some r) ∧ Aside0 (kq ≤ k) ∧ Drawn0 w w')
  case atStart => exact ⟨(0), zk6, H', ⟨Nat.le_refl _⟩, zk7⟩
  case round =>
   clear H'; (try clear c1); (try clear p2); (try clear c3); (try clear c3b0); (try clear c3b1); (try clear c3b2); obtain ⟨x5_1, rfl, HA, HK1, ⟨m1, rfl⟩⟩ := hrel
   cases gk with
   | zero => exact absurd HA.out (by simp [varvelaw00_SameInts.l0])
   | succ k1 =>
    have H := HA.out; clear HA; simp only [varvelaw00_SameInts.l0] at H; by_cases c4 : x5_1 < (l0.length : Int)
    ·rw [if_pos c4] at H
     have c4b0 : decide (x5_1 < (l0.length : Int)) = true := decide_eq_true c4; clear c4; by_cases c5 : 0 ≤ x5_1
     ·rw [if_pos c5] at H
      have c5b0 : decide (0 ≤ x5_1) = true := decide_eq_true c5; clear c5; by_cases c6 : x5_1 < (l1.length : Int)
      ·rw [if_pos c6] at H
       have c6b0 : decide (x5_1 < (l1.length : Int)) = true := decide_eq_true c6; clear c6; by_cases c7 : (rd l0 x5_1) = (rd l1 x5_1)
       ·rw [if_pos c7] at H
        have c7b0 : ((rd l0 x5_1) == (rd l1 x5_1)) = true := beq_iff_eq.mpr c7; have c7b1 : ((rd l0 x5_1) != (rd l1 x5_1)) = false := bne_eq_false_iff_eq.mpr c7; clear c7; have H' := mkA H; clear H; have p148 : 0 ≤ (x5_1 : Int) := of_decide_eq_true zk2; have q148 : x5_1 < (l0.length : Int) := of_decide_eq_true zk2; obtain ⟨ad148, e148, hx148_0⟩ := Kd.at_int HR0.out x5_1 p148 q148; cases e148; replace p148 := eq_true p148; replace q148 := eq_true q148; have p149 : 0 ≤ (x5_1 : Int) := of_decide_eq_true zk2; have q149 : x5_1 < (l1.length : Int) := of_decide_eq_true zk2; obtain ⟨ad149, e149, hx149_0⟩ := Kd.at_int HR1.out x5_1 p149 q149; cases e149; replace p149 := eq_true p149; replace q149 := eq_true q149; go_wp2; (repeat (go_quiet (fail); try go_wp2)); go_roundg k1
        case measure => have := HK1.out; omega
        case rel => exact ⟨(wrap64 (x5_1 + 1)), zk6, H', ⟨zk42⟩, zk7⟩
       ·rw [if_neg c7] at H
        have c7b0 : ((rd l0 x5_1) == (rd l1 x5_1)) = false := beq_eq_false_iff_ne.mpr c7; have c7b1 : ((rd l0 x5_1) != (rd l1 x5_1)) = true := bne_iff_ne.mpr c7; obtain rfl := Option.some.inj H; have p148 : 0 ≤ (x5_1 : Int) := of_decide_eq_true zk2; have q148 : x5_1 < (l0.length : Int) := of_decide_eq_true zk2; obtain ⟨ad148, e148, hx148_0⟩ := Kd.at_int HR0.out x5_1 p148 q148; cases e148; replace p148 := eq_true p148; replace q148 := eq_true q148; have p149 : 0 ≤ (x5_1 : Int) := of_decide_eq_true zk2; have q149 : x5_1 < (l1.length : Int) := of_decide_eq_true zk2; obtain ⟨ad149, e149, hx149_0⟩ := Kd.at_int HR1.out x5_1 p149 q149; cases e149; replace p149 := eq_true p149; replace q149 := eq_true q149; go_wp2; (repeat (go_quiet (fail); try go_wp2)); go_ret
        exact zk128
      ·exact zk108
     ·exact zk107
    ·rw [if_neg c4] at H
     have c4b0 : decide (x5_1 < (l0.length : Int)) = false := decide_eq_false c4; clear c4; obtain rfl := Option.some.inj H; go_wp2; (repeat (go_quiet (fail); try go_wp2)); go_ret
     exact zk128
 ·rw [if_neg c3] at H
  have c3b0 : ((l0.length : Int) == (l1.length : Int)) = false := beq_eq_false_iff_ne.mpr c3; have c3b1 : ((l0.length : Int) != (l1.length : Int)) = true := bne_iff_ne.mpr c3; have c3b2 : (l0.length == l1.length) = false := zk71
  obtain rfl := Option.some.inj H; go_enter Try.func17, Try.ntmps17; go_wp2; (repeat (go_quiet (fail); try go_wp2)); go_ret
  exact zk128
def varvelaw00_SameLabels.l0 : Nat → List (S41) → List (S41) → Int → Option (Bool)
 | 0, _, _, _ => none
 | k + 1, x0, x1, x5 => if x5 < (x0.length : Int) then (if 0 ≤ x5 then (if x5 < (x1.length : Int) then (if (!((((rd_T41 x0 x5).f0).toList) == (((rd_T41 x1 x5).f0).toList)) || (!((((rd_T41 x0 x5).f1).toList) == (((rd_T41 x1 x5).f1).toList)))) = true then (some false) else (varvelaw00_SameLabels.l0 k x0 x1 (wrap64 (x5 + 1)))) else (none)) else (none)) else (some true)
def varvelaw00_SameLabels.f (k : Nat) (l0 : List (S41)) (l1 : List (S41)) : Option (Bool) := if (l0.length : Int) = (l1.length : Int) then (varvelaw00_SameLabels.l0 k l0 l1 0) else (some false)
set_option maxHeartbeats 8000000 in
set_option maxRecDepth 100000 in
theorem varvelaw00_SameLabels.calls (k : Nat) (A0 : Option Addr) (c0 : Nat) (l0 : List (S41)) (A1 : Option Addr) (c1 : Nat) (l1 : List (S41)) (r : Bool) (w : World) (hr0 : Kd.C k41 w A0 l0.length l0) (hc0 : l0.length ≤ c0) (hr1 : Kd.C k41 w A1 l1.length l1) (hc1 : l1.length ≤ c1) (h : varvelaw00_SameLabels.f k l0 l1 = some r) :
  Calls Try.prog 16 #[.slice A0 l0.length c0, .slice A1 l1.length c1] w fun e w' => e = .returned (.bool r) ∧ Drawn0 w w' := by
 have hu41 := Try.underlying41; have HR0 := mkA hr0; have HC0 := mkA hc0; clear hr0 hc0; have HR1 := mkA hr1; have HC1 := mkA hc1; clear hr1 hc1; have H : (if (l0.length : Int) = (l1.length : Int) then (varvelaw00_SameLabels.l0 k l0 l1 0) else (some false)) = some r := h; clear h; by_cases c3 : (l0.length : Int) = (l1.length : Int)
 ·rw [if_pos c3] at H
  have c3b0 : ((l0.length : Int) == (l1.length : Int)) = true := beq_iff_eq.mpr c3; have c3b1 : ((l0.length : Int) != (l1.length : Int)) = false := bne_eq_false_iff_eq.mpr c3; have c3b2 : (l0.length == l1.length) = true := zk71
  clear c3; have H' := mkA H; clear H; go_enter Try.func16, Try.ntmps16; go_wp2; (repeat (go_quiet (fail); try go_wp2)); go_loopg [5] k (fun kq v5 w' => ∃ (x5_1 : Int), v5 = .int .i64 x5_1 ∧ Aside0 (varvelaw00_SameLabels.l0 kq l0 l1 x5_1 = some r) ∧ Aside0 (kq ≤ k) ∧ Drawn0 w w')
  case atStart => exact ⟨(0), zk6, H', ⟨Nat.le_refl _⟩, zk7⟩
  case round =>
   clear H'; (try clear c1); (try clear p2); (try clear c3); (try clear c3b0); (try clear c3b1); (try clear c3b2); obtain ⟨x5_1, rfl, HA, HK1, ⟨m1, rfl⟩⟩ := hrel
   cases gk with
   | zero => exact absurd HA.out (by simp [varvelaw00_SameLabels.l0])
   | succ k1 =>
    have H := HA.out; clear HA; simp only [varvelaw00_SameLabels.l0] at H; by_cases c4 : x5_1 < (l0.length : Int)
    ·rw [if_pos c4] at H
     have c4b0 : decide (x5_1 < (l0.length : Int)) = true := decide_eq_true c4; clear c4; by_cases c5 : 0 ≤ x5_1
     ·rw [if_pos c5] at H
      have c5b0 : decide (0 ≤ x5_1) = true := decide_eq_true c5; clear c5; by_cases c6 : x5_1 < (l1.length : Int)
      ·rw [if_pos c6] at H
       have c6b0 : decide (x5_1 < (l1.length : Int)) = true := decide_eq_true c6; clear c6; by_cases c7 : (!((((rd_T41 l0 x5_1).f0).toList) == (((rd_T41 l1 x5_1).f0).toList)) || (!((((rd_T41 l0 x5_1).f1).toList) == (((rd_T41 l1 x5_1).f1).toList)))) = true
       ·rw [if_pos c7] at H
        have c7b0 : (!((((rd_T41 l0 x5_1).f0).toList) == (((rd_T41 l1 x5_1).f0).toList)) || (!((((rd_T41 l0 x5_1).f1).toList) == (((rd_T41 l1 x5_1).f1).toList)))) = true := c7; clear c7; obtain rfl := Option.some.inj H; have p150 : 0 ≤ (x5_1 : Int) := of_decide_eq_true zk2; have q150 : x5_1 < (l0.length : Int) := of_decide_eq_true zk2; obtain ⟨ad150, e150, hx150_0, hx150_1⟩ := at_T41 HR0.out x5_1 p150 q150; cases e150; replace p150 := eq_true p150; replace q150 := eq_true q150; have p151 : 0 ≤ (x5_1 : Int) := of_decide_eq_true zk2; have q151 : x5_1 < (l1.length : Int) := of_decide_eq_true zk2; obtain ⟨ad151, e151, hx151_0, hx151_1⟩ := at_T41 HR1.out x5_1 p151 q151; cases e151; replace p151 := eq_true p151; replace q151 := eq_true q151; go_wp2; (repeat (go_quiet (fail); try go_wp2)); go_ret
        exact zk128
       ·rw [if_neg c7] at H
        have c7b0 : (!((((rd_T41 l0 x5_1).f0).toList) == (((rd_T41 l1 x5_1).f0).toList)) || (!((((rd_T41 l0 x5_1).f1).toList) == (((rd_T41 l1 x5_1).f1).toList)))) = false := by simpa using c7
        clear c7; have H' := mkA H; clear H; have p150 : 0 ≤ (x5_1 : Int) := of_decide_eq_true zk2; have q150 : x5_1 < (l0.length : Int) := of_decide_eq_true zk2; obtain ⟨ad150, e150, hx150_0, hx150_1⟩ := at_T41 HR0.out x5_1 p150 q150; cases e150; replace p150 := eq_true p150; replace q150 := eq_true q150; have p151 : 0 ≤ (x5_1 : Int) := of_decide_eq_true zk2; have q151 : x5_1 < (l1.length : Int) := of_decide_eq_true zk2; obtain ⟨ad151, e151, hx151_0, hx151_1⟩ := at_T41 HR1.out x5_1 p151 q151; cases e151; replace p151 := eq_true p151; replace q151 := eq_true q151; go_wp2; (repeat (go_quiet (fail); try go_wp2)); go_roundg k1
        case measure => have := HK1.out; omega
        case rel => exact ⟨(wrap64 (x5_1 + 1)), zk6, H', ⟨zk42⟩, zk7⟩
      ·exact zk108
     ·exact zk107
    ·rw [if_neg c4] at H
     have c4b0 : decide (x5_1 < (l0.length : Int)) = false := decide_eq_false c4; clear c4; obtain rfl := Option.some.inj H; go_wp2; (repeat (go_quiet (fail); try go_wp2)); go_ret
     exact zk128
 ·rw [if_neg c3] at H
  have c3b0 : ((l0.length : Int) == (l1.length : Int)) = false := beq_eq_false_iff_ne.mpr c3; have c3b1 : ((l0.length : Int) != (l1.length : Int)) = true := bne_iff_ne.mpr c3; have c3b2 : (l0.length == l1.length) = false := zk71
  obtain rfl := Option.some.inj H; go_enter Try.func16, Try.ntmps16; go_wp2; (repeat (go_quiet (fail); try go_wp2)); go_ret
  exact zk128
def varvelaw00_Place.f (a0 : Int) (a1 : Int) : Option (Int) := if a1 = 0 then (none) else (if (Int.tmod a0 a1) < 0 then (some (wrap64 ((Int.tmod a0 a1) + a1))) else (some (Int.tmod a0 a1)))
def varvelaw00_Labels.f (l0 : List (S41)) : Option ((List (S41))) := if ([] : List (S41)).length + l0.length < 4398046511104 then (some (([] : List (S41)) ++ l0)) else (none)
set_option maxHeartbeats 8000000 in
set_option maxRecDepth 100000 in
theorem varvelaw00_Labels.calls (A0 : Option Addr) (c0 : Nat) (l0 : List (S41)) (r : List (S41)) (w : World) (hr0 : Kd.C k41 w A0 l0.length l0) (hc0 : l0.length ≤ c0) (h : varvelaw00_Labels.f l0 = some r) :
  Calls Try.prog 12 #[.slice A0 l0.length c0] w fun e w' => ∃ v0_ : Value, e = .returned (v0_) ∧ Kd.R k41 41 w' w.heap.size (fun _ => True) v0_ r ∧ Below w.heap.size w w' := by
 have HR0 := mkA hr0; have HC0 := mkA hc0; clear hr0 hc0; have HB := mkA (Below.refl w.heap.size w); have H : (if ([] : List (S41)).length + l0.length < 4398046511104 then (some (([] : List (S41)) ++ l0)) else (none)) = some r := h; clear h; by_cases c2 : ([] : List (S41)).length + l0.length < 4398046511104
 ·rw [if_pos c2] at H
  have LMc2 := mkA c2; clear c2; obtain ⟨y152, hy152⟩ : ∃ y_ : List (S41), y_ = (([] : List (S41)) ++ l0) := ⟨_, rfl⟩
  replace H : (some y152) = some r := by first | (rw [hy152]; with_reducible exact H) | (have H2_ := (Option.bind_some _ _).symm.trans H; rw [hy152]; with_reducible exact H2_) | (have H2_ := (Option.bind_some _ _).symm.trans H; with_reducible exact H2_) | with_reducible exact H | (rw [hy152]; exact H) | exact H
  have Ny152 := mkA hy152; clear hy152; obtain rfl := Option.some.inj H; go_enter Try.func12, Try.ntmps12; (go_wp2_with (first | ((with_reducible refine gate_builtin (b := .append) (xs := #[.const (.slice none 0 0), .tmp 3]) rfl ?_); at_builtin; refine Kd.R_append_rows k41 (w0 := w) w.heap.size rfl (.const (.slice none 0 0)) (.tmp 3) 23 41 (.agg #[(.string ⟨#[]⟩), (.string ⟨#[]⟩)]) 32 rfl Try.underlying23 info41 rfl zk40 zk12 (.slice none 0 0) ([] : List (S41)) l0 _ _ _ (fun _ => True) (fun _ => False) rfl rfl ?aO ?aR (fun _ _ h => h) (fun _ h => h.elim) ?aF ?aB ?aS ?aL ?_; (case aR => exact zk35); (case aB => exact zk27); (case aF => exact zk79); (case aO => exact zk85); (case aS => exact zk26); (case aL => have := LMc2.out; omega); intro v153 w3 ho hb hg hat; rw [← Ny152.out] at ho; have n0_ := mkA (hb); have n1_ := mkA (ho); clear HB; have HB := n0_; have HO154 := n1_; clear n0_ n1_; clear ho hb hg hat))); go_ret
  exact ⟨_, zk4, by (with_reducible repeat (first | apply Kd.R_alloc | apply Kd.R_drewN | apply Kd.R_drew)); exact HO154.out, zk1⟩
 ·rw [if_neg c2] at H; exact absurd H zk30
def api_Label.f (l0 : List (S41)) : Option ((List (S41))) := if ([] : List (S41)).length + l0.length < 4398046511104 then (some (([] : List (S41)) ++ l0)) else (none)
set_option maxHeartbeats 8000000 in
set_option maxRecDepth 100000 in
theorem api_Label.calls (A0 : Option Addr) (c0 : Nat) (l0 : List (S41)) (r : List (S41)) (w : World) (hr0 : Kd.C k41 w A0 l0.length l0) (hc0 : l0.length ≤ c0) (h : api_Label.f l0 = some r) :
  Calls Try.prog 39 #[.slice A0 l0.length c0] w fun e w' => ∃ v0_ : Value, e = .returned (v0_) ∧ Kd.R k41 41 w' w.heap.size (fun _ => True) v0_ r ∧ Below w.heap.size w w' := by
 have HR0 := mkA hr0; have HC0 := mkA hc0; clear hr0 hc0; have HB := mkA (Below.refl w.heap.size w); have H : (if ([] : List (S41)).length + l0.length < 4398046511104 then (some (([] : List (S41)) ++ l0)) else (none)) = some r := h; clear h; by_cases c2 : ([] : List (S41)).length + l0.length < 4398046511104
 ·rw [if_pos c2] at H
  have LMc2 := mkA c2; clear c2; obtain ⟨y155, hy155⟩ : ∃ y_ : List (S41), y_ = (([] : List (S41)) ++ l0) := ⟨_, rfl⟩
  replace H : (some y155) = some r := by first | (rw [hy155]; with_reducible exact H) | (have H2_ := (Option.bind_some _ _).symm.trans H; rw [hy155]; with_reducible exact H2_) | (have H2_ := (Option.bind_some _ _).symm.trans H; with_reducible exact H2_) | with_reducible exact H | (rw [hy155]; exact H) | exact H
  have Ny155 := mkA hy155; clear hy155; obtain rfl := Option.some.inj H; go_enter Try.func39, Try.ntmps39; (go_wp2_with (first | ((with_reducible refine gate_builtin (b := .append) (xs := #[.const (.slice none 0 0), .tmp 3]) rfl ?_); at_builtin; refine Kd.R_append_rows k41 (w0 := w) w.heap.size rfl (.const (.slice none 0 0)) (.tmp 3) 23 41 (.agg #[(.string ⟨#[]⟩), (.string ⟨#[]⟩)]) 32 rfl Try.underlying23 info41 rfl zk40 zk12 (.slice none 0 0) ([] : List (S41)) l0 _ _ _ (fun _ => True) (fun _ => False) rfl rfl ?aO ?aR (fun _ _ h => h) (fun _ h => h.elim) ?aF ?aB ?aS ?aL ?_; (case aR => exact zk35); (case aB => exact zk27); (case aF => exact zk79); (case aO => exact zk85); (case aS => exact zk26); (case aL => have := LMc2.out; omega); intro v156 w3 ho hb hg hat; rw [← Ny155.out] at ho; have n0_ := mkA (hb); have n1_ := mkA (ho); clear HB; have HB := n0_; have HO157 := n1_; clear n0_ n1_; clear ho hb hg hat))); go_ret
  exact ⟨_, zk4, by (with_reducible repeat (first | apply Kd.R_alloc | apply Kd.R_drewN | apply Kd.R_drew)); exact HO157.out, zk1⟩
 ·rw [if_neg c2] at H; exact absurd H zk30
def plain_List_int.f (l0 : List Int) : Option (List Int) := if ([] : List Int).length + l0.length < 17592186044416 then (some (([] : List Int) ++ l0)) else (none)
set_option maxHeartbeats 8000000 in
set_option maxRecDepth 100000 in
theorem plain_List_int.calls (A0 : Option Addr) (c0 : Nat) (l0 : List Int) (r : List Int) (w : World) (hr0 : Kd.C (Kd.int .i64) w A0 l0.length l0) (hc0 : l0.length ≤ c0) (h : plain_List_int.f l0 = some r) :
  Calls Try.prog 88 #[.slice A0 l0.length c0] w fun e w' => ∃ v0_ : Value, e = .returned (v0_) ∧ Kd.R (Kd.int .i64) 3 w' w.heap.size (fun _ => True) v0_ r ∧ Below w.heap.size w w' := by
 have HR0 := mkA hr0; have HC0 := mkA hc0; clear hr0 hc0; have HB := mkA (Below.refl w.heap.size w); have H : (if ([] : List Int).length + l0.length < 17592186044416 then (some (([] : List Int) ++ l0)) else (none)) = some r := h; clear h; by_cases c2 : ([] : List Int).length + l0.length < 17592186044416
 ·rw [if_pos c2] at H
  have LMc2 := mkA c2; clear c2; obtain ⟨y158, hy158⟩ : ∃ y_ : List Int, y_ = (([] : List Int) ++ l0) := ⟨_, rfl⟩
  replace H : (some y158) = some r := by first | (rw [hy158]; with_reducible exact H) | (have H2_ := (Option.bind_some _ _).symm.trans H; rw [hy158]; with_reducible exact H2_) | (have H2_ := (Option.bind_some _ _).symm.trans H; with_reducible exact H2_) | with_reducible exact H | (rw [hy158]; exact H) | exact H
  have Ny158 := mkA hy158; clear hy158; obtain rfl := Option.some.inj H; go_enter Try.func88, Try.ntmps88; (go_wp2_with (first | ((with_reducible refine gate_builtin (b := .append) (xs := #[.const (.slice none 0 0), .tmp 3]) rfl ?_); at_builtin; refine Kd.R_append_rows (Kd.int .i64) (w0 := w) w.heap.size rfl (.const (.slice none 0 0)) (.tmp 3) 38 3 (.int .i64 0) 8 rfl Try.underlying38 info3 rfl zk40 zk12 (.slice none 0 0) ([] : List Int) l0 _ _ _ (fun _ => True) (fun _ => False) rfl rfl ?aO ?aR (fun _ _ h => h) (fun _ h => h.elim) ?aF ?aB ?aS ?aL ?_; (case aR => exact zk35); (case aB => exact zk27); (case aF => exact zk79); (case aO => exact zk85); (case aS => exact zk26); (case aL => have := LMc2.out; omega); intro v159 w3 ho hb hg hat; rw [← Ny158.out] at ho; have n0_ := mkA (hb); have n1_ := mkA (ho); clear HB; have HB := n0_; have HO160 := n1_; clear n0_ n1_; clear ho hb hg hat))); go_ret
  exact ⟨_, zk4, by (with_reducible repeat (first | apply Kd.R_alloc | apply Kd.R_drewN | apply Kd.R_drew)); exact HO160.out, zk1⟩
 ·rw [if_neg c2] at H; exact absurd H zk30
def post_Rises.l0 : Nat → List Int → Int → Option (Bool)
 | 0, _, _ => none
 | k + 1, x0, x3 => if x3 < (x0.length : Int) then (if 0 ≤ x3 then (if 0 ≤ (wrap64 (x3 - 1)) then (if (wrap64 (x3 - 1)) < (x0.length : Int) then (if (rd x0 x3) ≤ (rd x0 (wrap64 (x3 - 1))) then (some false) else (post_Rises.l0 k x0 (wrap64 (x3 + 1)))) else (none)) else (none)) else (none)) else (some true)
def post_Rises.f (k : Nat) (l0 : List Int) : Option (Bool) := post_Rises.l0 k l0 1
set_option maxHeartbeats 8000000 in
set_option maxRecDepth 100000 in
theorem post_Rises.calls (k : Nat) (A0 : Option Addr) (c0 : Nat) (l0 : List Int) (r : Bool) (w : World) (hr0 : Kd.C (Kd.int .i64) w A0 l0.length l0) (hc0 : l0.length ≤ c0) (h : post_Rises.f k l0 = some r) :
  Calls Try.prog 86 #[.slice A0 l0.length c0] w fun e w' => e = .returned (.bool r) ∧ Drawn0 w w' := by
 have HR0 := mkA hr0; have HC0 := mkA hc0; clear hr0 hc0; have H : (post_Rises.l0 k l0 1) = some r := h; clear h; have H' := mkA H; clear H; go_enter Try.func86, Try.ntmps86; go_wp2; (repeat (go_quiet (fail); try go_wp2)); go_loopg [3] k (fun kq v3 w' => ∃ (x3_1 : Int), v3 = .int .i64 x3_1 ∧ Aside0 (post_Rises.l0 kq l0 x3_1 = some r) ∧ Aside0 (kq ≤ k) ∧ Drawn0 w w')
 case atStart => exact ⟨(1), zk6, H', ⟨Nat.le_refl _⟩, zk7⟩
 case round =>
  clear H'; obtain ⟨x3_1, rfl, HA, HK1, ⟨m1, rfl⟩⟩ := hrel
  cases gk with
  | zero => exact absurd HA.out (by simp [post_Rises.l0])
  | succ k1 =>
   have H := HA.out; clear HA; simp only [post_Rises.l0] at H; by_cases c2 : x3_1 < (l0.length : Int)
   ·rw [if_pos c2] at H
    have c2b0 : decide (x3_1 < (l0.length : Int)) = true := decide_eq_true c2; clear c2; by_cases c3 : 0 ≤ x3_1
    ·rw [if_pos c3] at H
     have c3b0 : decide (0 ≤ x3_1) = true := decide_eq_true c3; clear c3; obtain ⟨ji4, hji4⟩ : ∃ j_ : Int, (wrap64 (x3_1 - 1)) = j_ := ⟨_, rfl⟩
     replace H : (if 0 ≤ (ji4) then (if (ji4) < (l0.length : Int) then (if (rd l0 x3_1) ≤ (rd l0 (ji4)) then (some false) else (post_Rises.l0 k1 l0 (wrap64 (x3_1 + 1)))) else (none)) else (none)) = some r := by first | (rw [hji4] at H; exact H) | (simp only [hji4] at H ⊢; exact H)
     have hji4w : (IntKind.i64.wrap (x3_1 - 1)) = ji4 := (i64_w _).trans hji4; by_cases c5 : 0 ≤ (ji4)
     ·rw [if_pos c5] at H
      have c5b0 : decide (0 ≤ (ji4)) = true := decide_eq_true c5; clear c5; by_cases c6 : (ji4) < (l0.length : Int)
      ·rw [if_pos c6] at H
       have c6b0 : decide ((ji4) < (l0.length : Int)) = true := decide_eq_true c6; clear c6; by_cases c7 : (rd l0 x3_1) ≤ (rd l0 (ji4))
       ·rw [if_pos c7] at H
        have c7b0 : decide ((rd l0 x3_1) ≤ (rd l0 (ji4))) = true := decide_eq_true c7; clear c7; obtain rfl := Option.some.inj H; have p161 : 0 ≤ (x3_1 : Int) := of_decide_eq_true zk2; have q161 : x3_1 < (l0.length : Int) := of_decide_eq_true zk2; obtain ⟨ad161, e161, hx161_0⟩ := Kd.at_int HR0.out x3_1 p161 q161; cases e161; replace p161 := eq_true p161; replace q161 := eq_true q161; have p162 : 0 ≤ ((ji4) : Int) := of_decide_eq_true zk2; have q162 : (ji4) < (l0.length : Int) := of_decide_eq_true zk2; obtain ⟨ad162, e162, hx162_0⟩ := Kd.at_int HR0.out (ji4) p162 q162; obtain rfl : ad161 = ad162 := (by injection e162)
        replace p162 := eq_true p162; replace q162 := eq_true q162; go_wp2; (repeat (go_quiet (fail); try go_wp2)); go_ret
        exact ⟨by first | rfl | (simp; done) | (simp only [← hji4] <;> (first | rfl | simp)) | (simp [*]; done), zk7⟩
       ·rw [if_neg c7] at H
        have c7b0 : decide ((rd l0 x3_1) ≤ (rd l0 (ji4))) = false := decide_eq_false c7; clear c7; have H' := mkA H; clear H; have p161 : 0 ≤ (x3_1 : Int) := of_decide_eq_true zk2; have q161 : x3_1 < (l0.length : Int) := of_decide_eq_true zk2; obtain ⟨ad161, e161, hx161_0⟩ := Kd.at_int HR0.out x3_1 p161 q161; cases e161; replace p161 := eq_true p161; replace q161 := eq_true q161; have p162 : 0 ≤ ((ji4) : Int) := of_decide_eq_true zk2; have q162 : (ji4) < (l0.length : Int) := of_decide_eq_true zk2; obtain ⟨ad162, e162, hx162_0⟩ := Kd.at_int HR0.out (ji4) p162 q162; obtain rfl : ad161 = ad162 := (by injection e162)
        replace p162 := eq_true p162; replace q162 := eq_true q162; go_wp2; (repeat (go_quiet (fail); try go_wp2)); go_roundg k1
        case measure => have := HK1.out; omega
        case rel => exact ⟨(wrap64 (x3_1 + 1)), zk6, H', ⟨zk42⟩, zk7⟩
      ·exact zk108
     ·exact zk107
    ·exact zk127
   ·rw [if_neg c2] at H
    have c2b0 : decide (x3_1 < (l0.length : Int)) = false := decide_eq_false c2; clear c2; obtain rfl := Option.some.inj H; go_wp2; (repeat (go_quiet (fail); try go_wp2)); go_ret
    exact zk128
end Go.Proofs.Ytlkhdbfhnpbbhaa.Ix
namespace Go.Proofs.Ytlkhdbfhnpbbhaa.Mx
open Go.RowKit Go.Proofs.YtlkhdbfhnpbbhaaW.PrintWords Go.Proofs.YtlkhdbfhnpbbhaaW.PrintLast Go.Proofs.YtlkhdbfhnpbbhaaW.PrintMore Go.Proofs.Ytlkhdbfhnpbbhaa.Ix
structure S54 where
 f0 : Int
 f1 : ByteArray
 f2 : ByteArray
 f3 : (List ByteArray)
 f4 : (List S54)
def z54 : S54 := ⟨(0 : Int), (⟨#[]⟩ : ByteArray), (⟨#[]⟩ : ByteArray), ([] : List ByteArray), ([] : List S54)⟩
def F54 (d : Kd S54) : Kd S54 := Kd.iso (Kd.pair (Kd.int .i64) (Kd.pair Kd.string (Kd.pair Kd.string (Kd.pair (Kd.slice 9 Kd.string) (Kd.slice 54 d))))) (fun x : S54 => (x.f0, x.f1, x.f2, x.f3, x.f4))
theorem mono54 : Kd.Mono F54 := Kd.mono_iso _ (Kd.mono_pair (Kd.mono_const _) (Kd.mono_pair (Kd.mono_const _) (Kd.mono_pair (Kd.mono_const _) (Kd.mono_pair (Kd.mono_const _) (Kd.mono_slice 54 Kd.mono_id)))))
theorem sub54 : Kd.Sub F54 [9, 54] := Kd.sub_iso _ (Kd.sub_pair (Kd.sub_const _ (by decide)) (Kd.sub_pair (Kd.sub_const _ (by decide)) (Kd.sub_pair (Kd.sub_const _ (by decide)) (Kd.sub_pair (Kd.sub_const _ (by decide)) (Kd.sub_slice 54 (by decide) Kd.sub_id)))))
theorem sz54 : ∀ n, (Kd.upto F54 5 [9, 54] n).sz = 5 := Kd.upto_sz (fun _ => rfl)
def k54 : Kd S54 := Kd.fix F54 5 [9, 54] sz54 (Kd.upto_E sub54)
theorem k54_open {w : World} {x : S54} {cs : List Value} (h : k54.K w x cs) : ∃ A3 c3 A4 c4, cs = [.int .i64 x.f0, .string x.f1, .string x.f2, .slice A3 x.f3.length c3, .slice A4 x.f4.length c4] ∧ x.f3.length ≤ c3 ∧ Kd.string.C w A3 x.f3.length x.f3 ∧ x.f4.length ≤ c4 ∧ k54.C w A4 x.f4.length x.f4 := by
 obtain ⟨n, h⟩ := h
 cases n with
 | zero => exact h.elim
 | succ n =>
  obtain ⟨_, _, rfl, rfl, ⟨_, _, rfl, rfl, ⟨_, _, rfl, rfl, ⟨_, _, rfl, ⟨A3, c3, rfl, l3, g3⟩, ⟨A4, c4, rfl, l4, g4⟩⟩⟩⟩⟩ := h; exact ⟨A3, c3, A4, c4, rfl, l3, g3, l4, Kd.fix_C g4⟩
theorem k54_mk (w : World) (x : S54) {A3 : Option Addr} {c3 : Nat} (l3 : x.f3.length ≤ c3) (g3 : Kd.string.C w A3 x.f3.length x.f3) {A4 : Option Addr} {c4 : Nat} (l4 : x.f4.length ≤ c4) (g4 : k54.C w A4 x.f4.length x.f4) : k54.K w x [.int .i64 x.f0, .string x.f1, .string x.f2, .slice A3 x.f3.length c3, .slice A4 x.f4.length c4] := by
 obtain ⟨n4, q4⟩ := Kd.fix_C_back mono54 g4; have r4 := Kd.upto_C_le mono54 sz54 (show n4 ≤ n4 by omega) q4; exact ⟨n4 + 1, ⟨[.int .i64 x.f0], [.string x.f1, .string x.f2, .slice A3 x.f3.length c3, .slice A4 x.f4.length c4], rfl, rfl, ⟨[.string x.f1], [.string x.f2, .slice A3 x.f3.length c3, .slice A4 x.f4.length c4], rfl, rfl, ⟨[.string x.f2], [.slice A3 x.f3.length c3, .slice A4 x.f4.length c4], rfl, rfl, ⟨[.slice A3 x.f3.length c3], [.slice A4 x.f4.length c4], rfl, ⟨A3, c3, rfl, l3, g3⟩, ⟨A4, c4, rfl, l4, r4⟩⟩⟩⟩⟩⟩
theorem k54_mkM (w : World) (base : Nat) (ok : Nat → Prop) (x : S54) {v3 : Value} (g3 : Kd.string.R 9 w base ok v3 x.f3) {v4 : Value} (g4 : k54.R 54 w base ok v4 x.f4) : k54.M w base ok x [.int .i64 x.f0, .string x.f1, .string x.f2, v3, v4] := by
 obtain ⟨n4, q4⟩ := Kd.fix_R_back mono54 g4; have r4 := Kd.upto_R_le mono54 sz54 (show n4 ≤ n4 by omega) q4; exact ⟨n4 + 1, ⟨[.int .i64 x.f0], [.string x.f1, .string x.f2, v3, v4], rfl, rfl, ⟨[.string x.f1], [.string x.f2, v3, v4], rfl, rfl, ⟨[.string x.f2], [v3, v4], rfl, rfl, ⟨[v3], [v4], rfl, ⟨v3, rfl, g3⟩, ⟨v4, rfl, r4⟩⟩⟩⟩⟩⟩
def rd_T54 (xs : List S54) (i : Int) : S54 := xs.getD i.toNat z54
theorem at_T54 {w : World} {A : Option Addr} {n : Nat} {xs : List S54} (h : Kd.C k54 w A n xs) (i : Int) (h0 : 0 ≤ i) (h1 : i < n) : ∃ ad A3 c3 A4 c4, A = some ad ∧ w.cell? (ad.add (i.toNat * 5)) = some (.int .i64 (rd_T54 xs i).f0) ∧ w.cell? ⟨(ad.add (i.toNat * 5)).block, (ad.add (i.toNat * 5)).off + 1, none⟩ = some (.string (rd_T54 xs i).f1) ∧ w.cell? ⟨(ad.add (i.toNat * 5)).block, (ad.add (i.toNat * 5)).off + 2, none⟩ = some (.string (rd_T54 xs i).f2) ∧ w.cell? ⟨(ad.add (i.toNat * 5)).block, (ad.add (i.toNat * 5)).off + 3, none⟩ = some (.slice A3 (rd_T54 xs i).f3.length c3) ∧ w.cell? ⟨(ad.add (i.toNat * 5)).block, (ad.add (i.toNat * 5)).off + 4, none⟩ = some (.slice A4 (rd_T54 xs i).f4.length c4) ∧ (rd_T54 xs i).f3.length ≤ c3 ∧ Kd.string.C w A3 (rd_T54 xs i).f3.length (rd_T54 xs i).f3 ∧ (rd_T54 xs i).f4.length ≤ c4 ∧ k54.C w A4 (rd_T54 xs i).f4.length (rd_T54 xs i).f4 := by
 obtain ⟨ad, c, e, _, hK, hc0⟩ := Kd.C_get h z54 i h0 h1; have hc : ∀ j u, c[j]? = some u → w.cell? (ad.add (i.toNat * 5 + j)) = some u := hc0; obtain ⟨A3, c3, A4, c4, rfl, l3, g3, l4, g4⟩ := k54_open hK; exact ⟨ad, A3, c3, A4, c4, e, hc 0 _ rfl, by rw [← add_field _ _ 1 zk12]; exact hc 1 _ rfl, by rw [← add_field _ _ 2 zk12]; exact hc 2 _ rfl, by rw [← add_field _ _ 3 zk12]; exact hc 3 _ rfl, by rw [← add_field _ _ 4 zk12]; exact hc 4 _ rfl, l3, g3, l4, g4⟩
end Go.Proofs.Ytlkhdbfhnpbbhaa.Mx
namespace Go.Proofs.Ytlkhdbfhnpbbhaa.Mx
open Go.RowKit Go.Proofs.YtlkhdbfhnpbbhaaW.PrintWords Go.Proofs.YtlkhdbfhnpbbhaaW.PrintLast Go.Proofs.YtlkhdbfhnpbbhaaW.PrintMore Go.Proofs.Ytlkhdbfhnpbbhaa.Ix
attribute [local go_sem] gtr_swap leq_swap
mutual
def match_values.j0 : Nat → List ByteArray → Bool → Option (Bool)
 | 0, _, _ => none
 | k + 1, x0, x12 => if x12 = true then (some false) else (match_values.l0 k x0 x0 (x0.length : Int) 0)
def match_values.l0 : Nat → List ByteArray → List ByteArray → Int → Int → Option (Bool)
 | 0, _, _, _, _ => none
 | k + 1, x0, x13, x14, x15 => if x15 < x14 then (if 0 ≤ x15 then (if x15 < (x13.length : Int) then (if ((rdOf ByteArray.empty x13 x15).size : Int) > 64 then (some false) else (if x15 > 0 then (if 0 ≤ (wrap64 (x15 - 1)) then (if (wrap64 (x15 - 1)) < (x0.length : Int) then (if ((Op.bytesLess ((rdOf ByteArray.empty x0 (wrap64 (x15 - 1))).toList) ((rdOf ByteArray.empty x13 x15).toList)) = true) then (match_values.l0 k x0 x13 x14 (wrap64 (x15 + 1))) else (some false)) else (none)) else (none)) else (match_values.l0 k x0 x13 x14 (wrap64 (x15 + 1))))) else (none)) else (none)) else (some true)
end
def match_values.f (k : Nat) (l0 : List ByteArray) : Option (Bool) := if (l0.length : Int) < 1 then (match_values.j0 k l0 true) else (match_values.j0 k l0 (decide ((l0.length : Int) > 16)))
set_option maxHeartbeats 8000000 in
set_option maxRecDepth 100000 in
theorem match_values.calls (k : Nat) (A0 : Option Addr) (c0 : Nat) (l0 : List ByteArray) (r : Bool) (w : World) (hr0 : Kd.C Kd.string w A0 l0.length l0) (hc0 : l0.length ≤ c0) (h : match_values.f k l0 = some r) :
  Calls Try.prog 90 #[.slice A0 l0.length c0] w fun e w' => e = .returned (.bool r) ∧ Drawn0 w w' := by
 have HR0 := mkA hr0; have HC0 := mkA hc0; clear hr0 hc0; have H : (if (l0.length : Int) < 1 then (match_values.j0 k l0 true) else (match_values.j0 k l0 (decide ((l0.length : Int) > 16)))) = some r := h; clear h; have HC2 := mkA H; clear H; go_enter Try.func90, Try.ntmps90; go_upto_region 1 with (fail)
 go_cut [12] (fun v12 wc => ∃ (kq : Nat) (x12_1 : Bool), v12 = .bool x12_1 ∧ Aside0 (match_values.j0 kq l0 x12_1 = some r) ∧ Aside0 (kq ≤ k) ∧ Drawn0 w wc)
 case first =>
  have H := HC2.out; clear HC2; by_cases c3 : (l0.length : Int) < 1
  ·rw [if_pos c3] at H
   have c3b0 : decide ((l0.length : Int) < 1) = true := decide_eq_true c3; have c3b1 : decide (l0.length < 1) = true := decide_eq_true zk12; clear c3; (first | rw [c3b0] | (simp only [i64_w, i32_w]; rw [c3b0]) | skip); have H' := mkA H; clear H; go_wp2; go_meet
   case rel => exact ⟨_, (true), zk6, H', ⟨zk31⟩, zk7⟩
  ·rw [if_neg c3] at H
   have c3b0 : decide ((l0.length : Int) < 1) = false := decide_eq_false c3; have c3b1 : decide (l0.length < 1) = false := decide_eq_false zk12; clear c3; (first | rw [c3b0] | (simp only [i64_w, i32_w]; rw [c3b0]) | skip); have H' := mkA H; clear H; go_wp2; go_meet
   case rel => exact ⟨_, (decide ((l0.length : Int) > 16)), zk6, H', ⟨zk31⟩, zk7⟩
 case rest =>
  clear HC2; (try clear p2); (try clear c3); (try clear c3b0); (try clear c3b1); obtain ⟨kq, x12_1, rfl, HA, HJ1, ⟨mc1, rfl⟩⟩ := hcut
  cases kq with
  | zero => exact absurd HA.out (by simp [match_values.j0])
  | succ kj1 =>
   have H := HA.out; clear HA; simp only [match_values.j0] at H; by_cases c4 : x12_1 = true
   ·subst c4
    have H1 : (some false) = some r := zk29
    clear H; have H := H1; clear H1; obtain rfl := Option.some.inj H; go_wp2; go_ret
    exact zk128
   ·replace c4 := Bool.eq_false_iff.mpr c4
    subst c4; have H1 : (match_values.l0 kj1 l0 l0 (l0.length : Int) 0) = some r := zk23
    clear H; have H := H1; clear H1; have H' := mkA H; clear H; go_wp2; go_loopg [15] kj1 (fun kq v15 w' => ∃ (x15_2 : Int), v15 = .int .i64 x15_2 ∧ Aside0 (match_values.l0 kq l0 l0 (l0.length : Int) x15_2 = some r) ∧ Aside0 (kq ≤ kj1) ∧ Drawn0 w w')
    case atStart => exact ⟨(0), zk6, H', ⟨Nat.le_refl _⟩, zk7⟩
    case round =>
     clear H'; (try clear c1); (try clear p2); (try clear c3); (try clear c3b0); (try clear c3b1); (try clear c4); (try clear p2); obtain ⟨x15_2, rfl, HA, HK2, ⟨m2, rfl⟩⟩ := hrel
     cases gk with
     | zero => exact absurd HA.out (by simp [match_values.l0])
     | succ k2 =>
      have H := HA.out; clear HA; simp only [match_values.l0] at H; by_cases c5 : x15_2 < (l0.length : Int)
      ·rw [if_pos c5] at H
       have c5b0 : decide (x15_2 < (l0.length : Int)) = true := decide_eq_true c5; clear c5; by_cases c6 : 0 ≤ x15_2
       ·rw [if_pos c6] at H
        have c6b0 : decide (0 ≤ x15_2) = true := decide_eq_true c6; clear c6; by_cases c7 : x15_2 < (l0.length : Int)
        ·rw [if_pos c7] at H
         have c7b0 : decide (x15_2 < (l0.length : Int)) = true := decide_eq_true c7; clear c7; by_cases c8 : ((rdOf ByteArray.empty l0 x15_2).size : Int) > 64
         ·rw [if_pos c8] at H
          have c8b0 : decide (64 < ((rdOf ByteArray.empty l0 x15_2).size : Int)) = true := decide_eq_true c8; have c8b1 : decide (64 < (rdOf ByteArray.empty l0 x15_2).size) = true := decide_eq_true zk12; clear c8; obtain rfl := Option.some.inj H; have p101 : 0 ≤ (x15_2 : Int) := of_decide_eq_true zk2; have q101 : x15_2 < (l0.length : Int) := of_decide_eq_true zk2; obtain ⟨ad101, e101, hx101_0⟩ := Kd.at_string HR0.out x15_2 p101 q101; cases e101; replace p101 := eq_true p101; replace q101 := eq_true q101; go_wp2; go_ret
          exact zk128
         ·rw [if_neg c8] at H
          have c8b0 : decide (64 < ((rdOf ByteArray.empty l0 x15_2).size : Int)) = false := decide_eq_false c8; have c8b1 : decide (64 < (rdOf ByteArray.empty l0 x15_2).size) = false := decide_eq_false zk12; clear c8; by_cases c9 : x15_2 > 0
          ·rw [if_pos c9] at H
           have c9b0 : decide (0 < x15_2) = true := decide_eq_true c9; clear c9; obtain ⟨ji10, hji10⟩ : ∃ j_ : Int, (wrap64 (x15_2 - 1)) = j_ := ⟨_, rfl⟩
           replace H : (if 0 ≤ (ji10) then (if (ji10) < (l0.length : Int) then (if ((Op.bytesLess ((rdOf ByteArray.empty l0 (ji10)).toList) ((rdOf ByteArray.empty l0 x15_2).toList)) = true) then (match_values.l0 k2 l0 l0 (l0.length : Int) (wrap64 (x15_2 + 1))) else (some false)) else (none)) else (none)) = some r := by first | (rw [hji10] at H; exact H) | (simp only [hji10] at H ⊢; exact H)
           have hji10w : (IntKind.i64.wrap (x15_2 - 1)) = ji10 := (i64_w _).trans hji10; by_cases c11 : 0 ≤ (ji10)
           ·rw [if_pos c11] at H
            have c11b0 : decide (0 ≤ (ji10)) = true := decide_eq_true c11; clear c11; by_cases c12 : (ji10) < (l0.length : Int)
            ·rw [if_pos c12] at H
             have c12b0 : decide ((ji10) < (l0.length : Int)) = true := decide_eq_true c12; clear c12; by_cases c13 : ((Op.bytesLess ((rdOf ByteArray.empty l0 (ji10)).toList) ((rdOf ByteArray.empty l0 x15_2).toList)) = true)
             ·rw [if_pos c13] at H
              have c13b0 : (Op.bytesLess ((rdOf ByteArray.empty l0 (ji10)).toList) ((rdOf ByteArray.empty l0 x15_2).toList)) = true := c13; clear c13; have H' := mkA H; clear H; have p101 : 0 ≤ (x15_2 : Int) := of_decide_eq_true zk2; have q101 : x15_2 < (l0.length : Int) := of_decide_eq_true zk2; obtain ⟨ad101, e101, hx101_0⟩ := Kd.at_string HR0.out x15_2 p101 q101; cases e101; replace p101 := eq_true p101; replace q101 := eq_true q101; have p102 : 0 ≤ ((ji10) : Int) := of_decide_eq_true zk2; have q102 : (ji10) < (l0.length : Int) := of_decide_eq_true zk2; obtain ⟨ad102, e102, hx102_0⟩ := Kd.at_string HR0.out (ji10) p102 q102; obtain rfl : ad101 = ad102 := (by injection e102)
              replace p102 := eq_true p102; replace q102 := eq_true q102; go_wp2; go_roundg k2
              case measure => have := HJ1.out; have := HK2.out; omega
              case rel => exact ⟨(wrap64 (x15_2 + 1)), zk6, H', ⟨zk32⟩, zk7⟩
             ·rw [if_neg c13] at H
              have c13b0 : (Op.bytesLess ((rdOf ByteArray.empty l0 (ji10)).toList) ((rdOf ByteArray.empty l0 x15_2).toList)) = false := by simpa using c13
              clear c13; obtain rfl := Option.some.inj H; have p101 : 0 ≤ (x15_2 : Int) := of_decide_eq_true zk2; have q101 : x15_2 < (l0.length : Int) := of_decide_eq_true zk2; obtain ⟨ad101, e101, hx101_0⟩ := Kd.at_string HR0.out x15_2 p101 q101; cases e101; replace p101 := eq_true p101; replace q101 := eq_true q101; have p102 : 0 ≤ ((ji10) : Int) := of_decide_eq_true zk2; have q102 : (ji10) < (l0.length : Int) := of_decide_eq_true zk2; obtain ⟨ad102, e102, hx102_0⟩ := Kd.at_string HR0.out (ji10) p102 q102; obtain rfl : ad101 = ad102 := (by injection e102)
              replace p102 := eq_true p102; replace q102 := eq_true q102; go_wp2; go_ret
              exact ⟨by first | rfl | (simp; done) | (simp only [← hji10] <;> (first | rfl | simp)) | (simp [*]; done), zk7⟩
            ·rw [if_neg c12] at H; exact absurd H zk30
           ·exact zk123
          ·rw [if_neg c9] at H
           have c9b0 : decide (0 < x15_2) = false := decide_eq_false c9; clear c9; have H' := mkA H; clear H; have p101 : 0 ≤ (x15_2 : Int) := of_decide_eq_true zk2; have q101 : x15_2 < (l0.length : Int) := of_decide_eq_true zk2; obtain ⟨ad101, e101, hx101_0⟩ := Kd.at_string HR0.out x15_2 p101 q101; cases e101; replace p101 := eq_true p101; replace q101 := eq_true q101; go_wp2; go_roundg k2
           case measure => have := HJ1.out; have := HK2.out; omega
           case rel => exact ⟨(wrap64 (x15_2 + 1)), zk6, H', ⟨zk32⟩, zk7⟩
        ·exact zk125
       ·exact zk108
      ·rw [if_neg c5] at H
       have c5b0 : decide (x15_2 < (l0.length : Int)) = false := decide_eq_false c5; clear c5; obtain rfl := Option.some.inj H; go_wp2; go_ret
       exact zk128
end Go.Proofs.Ytlkhdbfhnpbbhaa.Mx
namespace Go.Proofs.Ytlkhdbfhnpbbhaa.Mx
open Go.RowKit Go.Proofs.YtlkhdbfhnpbbhaaW.PrintWords Go.Proofs.YtlkhdbfhnpbbhaaW.PrintLast Go.Proofs.YtlkhdbfhnpbbhaaW.PrintMore Go.Proofs.Ytlkhdbfhnpbbhaa.Ix
mutual
def match_alone.j0 : Nat → Bool → Int → ByteArray → ByteArray → List ByteArray → List (S54) → Option (Bool)
 | 0, _, _, _, _, _, _ => none
 | k + 1, x3, x104000, x104001, x104002, x104003, x104004 => if x104001.toList = ([] : List UInt8) then (if x104002.toList = ([] : List UInt8) then (match_alone.j1 k x3 ((x104003.length : Int) == 0) x104000 x104001 x104002 x104003 x104004) else (match_alone.j1 k x3 false x104000 x104001 x104002 x104003 x104004)) else (match_alone.j1 k x3 false x104000 x104001 x104002 x104003 x104004)
def match_alone.j1 : Nat → Bool → Bool → Int → ByteArray → ByteArray → List ByteArray → List (S54) → Option (Bool)
 | 0, _, _, _, _, _, _, _ => none
 | k + 1, x3, x4, x104000, x104001, x104002, x104003, x104004 => if x104000 = 0 then (if x4 = true then (some ((x104004.length : Int) == 0)) else (some false)) else (if x104000 = 1 then (match_alone.j2 k x3 x4 x104000 (x104000 == 1) x104000 x104001 x104002 x104003 x104004) else (if x104000 = 2 then (match_alone.j2 k x3 x4 x104000 (x104000 == 2) x104000 x104001 x104002 x104003 x104004) else (match_alone.j2 k x3 x4 x104000 (x104000 == 3) x104000 x104001 x104002 x104003 x104004)))
def match_alone.j2 : Nat → Bool → Bool → Int → Bool → Int → ByteArray → ByteArray → List ByteArray → List (S54) → Option (Bool)
 | 0, _, _, _, _, _, _, _, _, _ => none
 | k + 1, x3, x4, x35, x45, x104000, x104001, x104002, x104003, x104004 => if x45 = true then (if x3 = true then (some ((x104003.length : Int) == 0)) else (some false)) else (if x35 = 4 then (if x3 = true then (if x104002.toList = ([] : List UInt8) then ((match_values.f k x104003).bind fun t105 => (some t105)) else (some false)) else (some false)) else (if x35 = 5 then (match_alone.j3 k x4 x35 (x35 == 5) x104000 x104001 x104002 x104003 x104004) else (match_alone.j3 k x4 x35 (x35 == 6) x104000 x104001 x104002 x104003 x104004)))
def match_alone.j3 : Nat → Bool → Int → Bool → Int → ByteArray → ByteArray → List ByteArray → List (S54) → Option (Bool)
 | 0, _, _, _, _, _, _, _, _ => none
 | k + 1, x4, x35, x69, x104000, x104001, x104002, x104003, x104004 => if x69 = true then (some x4) else (if x35 = 7 then (if x4 = true then (some ((x104004.length : Int) == 1)) else (some false)) else (some false))
end
def match_alone.f (k : Nat) (a0_0 : Int) (a0_1 : ByteArray) (a0_2 : ByteArray) (l0_3 : List ByteArray) (l0_4 : List (S54)) : Option (Bool) := (label_Name.f k a0_1).bind fun t104 => (if t104 = true then (if (a0_2.size : Int) ≤ 64 then (match_alone.j0 k ((l0_4.length : Int) == 0) a0_0 a0_1 a0_2 l0_3 l0_4) else (match_alone.j0 k false a0_0 a0_1 a0_2 l0_3 l0_4)) else (match_alone.j0 k false a0_0 a0_1 a0_2 l0_3 l0_4))
set_option maxHeartbeats 8000000 in
set_option maxRecDepth 100000 in
theorem match_alone.calls (k : Nat) (a0_0 : Int) (a0_1 : ByteArray) (a0_2 : ByteArray) (A0_3 : Option Addr) (c0_3 : Nat) (l0_3 : List ByteArray) (A0_4 : Option Addr) (c0_4 : Nat) (l0_4 : List (S54)) (r : Bool) (w : World) (hr0_3 : Kd.C Kd.string w A0_3 l0_3.length l0_3) (hc0_3 : l0_3.length ≤ c0_3) (hr0_4 : Kd.C k54 w A0_4 l0_4.length l0_4) (hc0_4 : l0_4.length ≤ c0_4) (h : match_alone.f k a0_0 a0_1 a0_2 l0_3 l0_4 = some r) :
  Calls Try.prog 71 #[.agg #[.int .i64 a0_0, .string a0_1, .string a0_2, .slice A0_3 l0_3.length c0_3, .slice A0_4 l0_4.length c0_4]] w fun e w' => e = .returned (.bool r) ∧ Below w.heap.size w w' := by
 have hu54 := Try.underlying54; have HR0_3 := mkA hr0_3; have HC0_3 := mkA hc0_3; clear hr0_3 hc0_3; have HR0_4 := mkA hr0_4; have HC0_4 := mkA hc0_4; clear hr0_4 hc0_4; have HB := mkA (Below.refl w.heap.size w); have H : ((label_Name.f k a0_1).bind fun t104 => (if t104 = true then (if (a0_2.size : Int) ≤ 64 then (match_alone.j0 k ((l0_4.length : Int) == 0) a0_0 a0_1 a0_2 l0_3 l0_4) else (match_alone.j0 k false a0_0 a0_1 a0_2 l0_3 l0_4)) else (match_alone.j0 k false a0_0 a0_1 a0_2 l0_3 l0_4))) = some r := h; clear h; have HC2 := mkA H; clear H; go_enter Try.func71, Try.ntmps71; go_upto_region 1 with (first | ((with_reducible refine gate_dst (N := 1) rfl ?_); (try (refine gate_guard zk16 ?_; dsimp only)); refine box_event ?hg (N := 1) ?hd (cs := #[.int .i64 a0_0, .string a0_1, .string a0_2, .slice A0_3 l0_3.length c0_3, .slice A0_4 l0_4.length c0_4]) (t := 54) ?hr ?_; (case hd => exact zk16); (case hg => exact zk16); (case hr => exact zk9); intro gb103 hg w3 hbox hb; have n0_ := mkA (below_step zk1 hb); have n1_ := mkA (hbox); have n2_ := mkA ((by rw [hg]; exact (below_size zk1) : w.heap.size ≤ gb103)); have n3_ := mkA ((by rw [hg]; exact (below_size zk1) : w.heap.size ≤ gb103)); clear HB; have HB := n0_; have BK103 := n1_; have GW103 := n2_; have GE103 := n3_; clear n0_ n1_ n2_ n3_; clear hb hbox hg))
 (try simp only [Act.put, List.setIfInBounds_toArray, List.set_cons_zero, List.set_cons_succ]); go_cut [3] (fun v3 wc => ∃ (kq : Nat) (x3_1 : Bool), v3 = .bool x3_1 ∧ Aside0 (match_alone.j0 kq x3_1 a0_0 a0_1 a0_2 l0_3 l0_4 = some r) ∧ Aside0 (kq ≤ k) ∧ Aside0 (wc.heap[gb103]? = some (.cells #[.int .i64 a0_0, .string a0_1, .string a0_2, (.slice A0_3 l0_3.length c0_3), (.slice A0_4 l0_4.length c0_4)] 54 (0, 0))) ∧ Aside0 (Below w.heap.size w wc))
 case first =>
  have H := HC2.out; clear HC2; replace H := Option.bind_eq_some_iff.mp H; obtain ⟨t104, A40, H⟩ := H; replace H : (if t104 = true then (if (a0_2.size : Int) ≤ 64 then (match_alone.j0 k ((l0_4.length : Int) == 0) a0_0 a0_1 a0_2 l0_3 l0_4) else (match_alone.j0 k false a0_0 a0_1 a0_2 l0_3 l0_4)) else (match_alone.j0 k false a0_0 a0_1 a0_2 l0_3 l0_4)) = some r := H; have A4 := mkA A40; clear A40; by_cases c5 : t104 = true
  ·subst c5
   have H1 : (if (a0_2.size : Int) ≤ 64 then (match_alone.j0 k ((l0_4.length : Int) == 0) a0_0 a0_1 a0_2 l0_3 l0_4) else (match_alone.j0 k false a0_0 a0_1 a0_2 l0_3 l0_4)) = some r := zk29
   clear H; have H := H1; clear H1; by_cases c6 : (a0_2.size : Int) ≤ 64
   ·rw [if_pos c6] at H
    have c6b0 : decide ((a0_2.size : Int) ≤ 64) = true := decide_eq_true c6; have c6b1 : decide (a0_2.size ≤ 64) = true := decide_eq_true zk12; clear c6; (first | rw [c6b0] | (simp only [i64_w, i32_w]; rw [c6b0]) | skip); have H' := mkA H; clear H; obtain ⟨hcz7_0, hcz7_1, hcz7_2, hcz7_3, hcz7_4, hfz7_0, hfz7_1, hfz7_2, hfz7_3, hfz7_4⟩ := cf5 BK103.out; (go_wp2_with (first | ((with_reducible refine gate_callee (f := 54) rfl ?_); refine goesL_ (some 7) rfl rfl Try.func54 zk3 rfl #[.string a0_1] rfl zk5 ?_; (with_reducible refine (label_Name.calls k a0_1 true _ A4.out).mono ?_); rintro e w' ⟨rfl, ⟨nd, rfl⟩⟩; refine ⟨_, rfl, ?_⟩))); go_meet
    case rel => exact ⟨_, (((l0_4.length : Int) == 0)), zk6, H', ⟨zk31⟩, ⟨zk24⟩, ⟨zk10⟩⟩
   ·rw [if_neg c6] at H
    have c6b0 : decide ((a0_2.size : Int) ≤ 64) = false := decide_eq_false c6; have c6b1 : decide (a0_2.size ≤ 64) = false := decide_eq_false zk12; clear c6; (first | rw [c6b0] | (simp only [i64_w, i32_w]; rw [c6b0]) | skip); have H' := mkA H; clear H; obtain ⟨hcz8_0, hcz8_1, hcz8_2, hcz8_3, hcz8_4, hfz8_0, hfz8_1, hfz8_2, hfz8_3, hfz8_4⟩ := cf5 BK103.out; (go_wp2_with (first | ((with_reducible refine gate_callee (f := 54) rfl ?_); refine goesL_ (some 7) rfl rfl Try.func54 zk3 rfl #[.string a0_1] rfl zk5 ?_; (with_reducible refine (label_Name.calls k a0_1 true _ A4.out).mono ?_); rintro e w' ⟨rfl, ⟨nd, rfl⟩⟩; refine ⟨_, rfl, ?_⟩))); go_meet
    case rel => exact ⟨_, (false), zk6, H', ⟨zk31⟩, ⟨zk24⟩, ⟨zk10⟩⟩
  ·replace c5 := Bool.eq_false_iff.mpr c5
   subst c5; have H1 : (match_alone.j0 k false a0_0 a0_1 a0_2 l0_3 l0_4) = some r := zk23
   clear H; have H := H1; clear H1; have H' := mkA H; clear H; obtain ⟨hcz9_0, hcz9_1, hcz9_2, hcz9_3, hcz9_4, hfz9_0, hfz9_1, hfz9_2, hfz9_3, hfz9_4⟩ := cf5 BK103.out; (go_wp2_with (first | ((with_reducible refine gate_callee (f := 54) rfl ?_); refine goesL_ (some 7) rfl rfl Try.func54 zk3 rfl #[.string a0_1] rfl zk5 ?_; (with_reducible refine (label_Name.calls k a0_1 false _ A4.out).mono ?_); rintro e w' ⟨rfl, ⟨nd, rfl⟩⟩; refine ⟨_, rfl, ?_⟩))); go_meet
   case rel => exact ⟨_, (false), zk6, H', ⟨zk31⟩, ⟨zk24⟩, ⟨zk10⟩⟩
 case rest =>
  clear HC2; (try clear p2); (try clear c5); (try clear c6); (try clear c6b0); (try clear c6b1); (try clear c7); (try clear hcz7_0); (try clear hcz7_1); (try clear hcz7_2); (try clear hcz7_3); (try clear hcz7_4); (try clear hcz8_0); (try clear hcz8_1); (try clear hcz8_2); (try clear hcz8_3); (try clear hcz8_4); (try clear hcz9_0); (try clear hcz9_1); (try clear hcz9_2); (try clear hcz9_3); (try clear hcz9_4); (try clear hfz7_0); (try clear hfz7_1); (try clear hfz7_2); (try clear hfz7_3); (try clear hfz7_4); (try clear hfz8_0); (try clear hfz8_1); (try clear hfz8_2); (try clear hfz8_3); (try clear hfz8_4); (try clear hfz9_0); (try clear hfz9_1); (try clear hfz9_2); (try clear hfz9_3); (try clear hfz9_4); obtain ⟨kq, x3_1, rfl, HA, HJ1, BK103, HB⟩ := hcut
  cases kq with
  | zero => exact absurd HA.out (by simp [match_alone.j0])
  | succ kj1 =>
   have H := HA.out; clear HA; simp only [match_alone.j0] at H; have HC10 := mkA H; clear H; go_upto_region 2 with (fail)
   go_cut [4] (fun v4 wc => ∃ (kq : Nat) (x4_9 : Bool), v4 = .bool x4_9 ∧ Aside0 (match_alone.j1 kq x3_1 x4_9 a0_0 a0_1 a0_2 l0_3 l0_4 = some r) ∧ Aside0 (kq ≤ kj1) ∧ Aside0 (wc.heap[gb103]? = some (.cells #[.int .i64 a0_0, .string a0_1, .string a0_2, (.slice A0_3 l0_3.length c0_3), (.slice A0_4 l0_4.length c0_4)] 54 (0, 0))) ∧ Aside0 (Below w.heap.size w wc))
   case first =>
    have H := HC10.out; clear HC10; by_cases c11 : a0_1.toList = ([] : List UInt8)
    ·rw [if_pos c11] at H
     have c11b0 : (a0_1.toList == ([] : List UInt8)) = true := beq_iff_eq.mpr c11; have c11b1 : (a0_1.toList != ([] : List UInt8)) = false := bne_eq_false_iff_eq.mpr c11; clear c11; (first | rw [c11b0] | (simp only [i64_w, i32_w]; rw [c11b0]) | skip); by_cases c12 : a0_2.toList = ([] : List UInt8)
     ·rw [if_pos c12] at H
      have c12b0 : (a0_2.toList == ([] : List UInt8)) = true := beq_iff_eq.mpr c12; have c12b1 : (a0_2.toList != ([] : List UInt8)) = false := bne_eq_false_iff_eq.mpr c12; clear c12; have H' := mkA H; clear H; obtain ⟨hcz13_0, hcz13_1, hcz13_2, hcz13_3, hcz13_4, hfz13_0, hfz13_1, hfz13_2, hfz13_3, hfz13_4⟩ := cf5 BK103.out; go_wp2; go_meet
      case rel => exact ⟨_, (((l0_3.length : Int) == 0)), zk6, H', ⟨zk80⟩, ⟨zk24⟩, ⟨zk10⟩⟩
     ·rw [if_neg c12] at H
      have c12b0 : (a0_2.toList == ([] : List UInt8)) = false := beq_eq_false_iff_ne.mpr c12; have c12b1 : (a0_2.toList != ([] : List UInt8)) = true := bne_iff_ne.mpr c12; have H' := mkA H; clear H; obtain ⟨hcz14_0, hcz14_1, hcz14_2, hcz14_3, hcz14_4, hfz14_0, hfz14_1, hfz14_2, hfz14_3, hfz14_4⟩ := cf5 BK103.out; go_wp2; go_meet
      case rel => exact ⟨_, (false), zk6, H', ⟨zk80⟩, ⟨zk24⟩, ⟨zk10⟩⟩
    ·rw [if_neg c11] at H
     have c11b0 : (a0_1.toList == ([] : List UInt8)) = false := beq_eq_false_iff_ne.mpr c11; have c11b1 : (a0_1.toList != ([] : List UInt8)) = true := bne_iff_ne.mpr c11; (first | rw [c11b0] | (simp only [i64_w, i32_w]; rw [c11b0]) | skip); have H' := mkA H; clear H; obtain ⟨hcz15_0, hcz15_1, hcz15_2, hcz15_3, hcz15_4, hfz15_0, hfz15_1, hfz15_2, hfz15_3, hfz15_4⟩ := cf5 BK103.out; go_wp2; go_meet
     case rel => exact ⟨_, (false), zk6, H', ⟨zk80⟩, ⟨zk24⟩, ⟨zk10⟩⟩
   case rest =>
    clear HC10; (try clear c1); (try clear p2); (try clear c5); (try clear c6); (try clear c6b0); (try clear c6b1); (try clear c7); (try clear c11); (try clear c11b0); (try clear c11b1); (try clear c12); (try clear c12b0); (try clear c12b1); (try clear hcz13_0); (try clear hcz13_1); (try clear hcz13_2); (try clear hcz13_3); (try clear hcz13_4); (try clear hcz14_0); (try clear hcz14_1); (try clear hcz14_2); (try clear hcz14_3); (try clear hcz14_4); (try clear hcz15_0); (try clear hcz15_1); (try clear hcz15_2); (try clear hcz15_3); (try clear hcz15_4); (try clear hcz7_0); (try clear hcz7_1); (try clear hcz7_2); (try clear hcz7_3); (try clear hcz7_4); (try clear hcz8_0); (try clear hcz8_1); (try clear hcz8_2); (try clear hcz8_3); (try clear hcz8_4); (try clear hcz9_0); (try clear hcz9_1); (try clear hcz9_2); (try clear hcz9_3); (try clear hcz9_4); (try clear hfz13_0); (try clear hfz13_1); (try clear hfz13_2); (try clear hfz13_3); (try clear hfz13_4); (try clear hfz14_0); (try clear hfz14_1); (try clear hfz14_2); (try clear hfz14_3); (try clear hfz14_4); (try clear hfz15_0); (try clear hfz15_1); (try clear hfz15_2); (try clear hfz15_3); (try clear hfz15_4); (try clear hfz7_0); (try clear hfz7_1); (try clear hfz7_2); (try clear hfz7_3); (try clear hfz7_4); (try clear hfz8_0); (try clear hfz8_1); (try clear hfz8_2); (try clear hfz8_3); (try clear hfz8_4); (try clear hfz9_0); (try clear hfz9_1); (try clear hfz9_2); (try clear hfz9_3); (try clear hfz9_4); (try clear p2); obtain ⟨kq, x4_9, rfl, HA, HJ9, BK103, HB⟩ := hcut
    cases kq with
    | zero => exact absurd HA.out (by simp [match_alone.j1])
    | succ kj9 =>
     have H := HA.out; clear HA; simp only [match_alone.j1] at H; by_cases c16 : a0_0 = 0
     ·rw [if_pos c16] at H
      have c16b0 : (a0_0 == 0) = true := beq_iff_eq.mpr c16; have c16b1 : (a0_0 != 0) = false := bne_eq_false_iff_eq.mpr c16; clear c16; by_cases c17 : x4_9 = true
      ·subst c17
       have H1 : (some ((l0_4.length : Int) == 0)) = some r := zk29
       clear H; have H := H1; clear H1; obtain rfl := Option.some.inj H; obtain ⟨hcz18_0, hcz18_1, hcz18_2, hcz18_3, hcz18_4, hfz18_0, hfz18_1, hfz18_2, hfz18_3, hfz18_4⟩ := cf5 BK103.out; go_wp2; go_ret
       exact ⟨zk4, zk10⟩
      ·replace c17 := Bool.eq_false_iff.mpr c17
       subst c17; have H1 : (some false) = some r := zk23
       clear H; have H := H1; clear H1; obtain rfl := Option.some.inj H; obtain ⟨hcz19_0, hcz19_1, hcz19_2, hcz19_3, hcz19_4, hfz19_0, hfz19_1, hfz19_2, hfz19_3, hfz19_4⟩ := cf5 BK103.out; go_wp2; go_ret
       exact ⟨zk4, zk10⟩
     ·rw [if_neg c16] at H
      have c16b0 : (a0_0 == 0) = false := beq_eq_false_iff_ne.mpr c16; have c16b1 : (a0_0 != 0) = true := bne_iff_ne.mpr c16; have HC20 := mkA H; clear H; obtain ⟨hcz21_0, hcz21_1, hcz21_2, hcz21_3, hcz21_4, hfz21_0, hfz21_1, hfz21_2, hfz21_3, hfz21_4⟩ := cf5 BK103.out; go_upto_if 45 with (fail)
      go_cut [45] (fun v45 wc => ∃ (kq : Nat) (x45_19 : Bool), v45 = .bool x45_19 ∧ Aside0 (match_alone.j2 kq x3_1 x4_9 a0_0 x45_19 a0_0 a0_1 a0_2 l0_3 l0_4 = some r) ∧ Aside0 (kq ≤ kj9) ∧ Aside0 (wc.heap[gb103]? = some (.cells #[.int .i64 a0_0, .string a0_1, .string a0_2, (.slice A0_3 l0_3.length c0_3), (.slice A0_4 l0_4.length c0_4)] 54 (0, 0))) ∧ Aside0 (Below w.heap.size w wc))
      case first =>
       have H := HC20.out; clear HC20; by_cases c22 : a0_0 = 1
       ·rw [if_pos c22] at H
        have c22b0 : (a0_0 == 1) = true := beq_iff_eq.mpr c22; have c22b1 : (a0_0 != 1) = false := bne_eq_false_iff_eq.mpr c22; clear c22; (first | rw [c22b0] | (simp only [i64_w, i32_w]; rw [c22b0]) | skip); have H' := mkA H; clear H; go_wp2; go_meet
        case rel => exact ⟨_, ((a0_0 == 1)), zk6, H', ⟨zk66⟩, ⟨zk24⟩, ⟨zk10⟩⟩
       ·rw [if_neg c22] at H
        have c22b0 : (a0_0 == 1) = false := beq_eq_false_iff_ne.mpr c22; have c22b1 : (a0_0 != 1) = true := bne_iff_ne.mpr c22; (first | rw [c22b0] | (simp only [i64_w, i32_w]; rw [c22b0]) | skip); by_cases c23 : a0_0 = 2
        ·rw [if_pos c23] at H
         have c23b0 : (a0_0 == 2) = true := beq_iff_eq.mpr c23; have c23b1 : (a0_0 != 2) = false := bne_eq_false_iff_eq.mpr c23; clear c23; have H' := mkA H; clear H; go_wp2; go_meet
         case rel => exact ⟨_, ((a0_0 == 2)), zk6, H', ⟨zk66⟩, ⟨zk24⟩, ⟨zk10⟩⟩
        ·rw [if_neg c23] at H
         have c23b0 : (a0_0 == 2) = false := beq_eq_false_iff_ne.mpr c23; have c23b1 : (a0_0 != 2) = true := bne_iff_ne.mpr c23; have H' := mkA H; clear H; go_wp2; go_meet
         case rel => exact ⟨_, ((a0_0 == 3)), zk6, H', ⟨zk66⟩, ⟨zk24⟩, ⟨zk10⟩⟩
      case rest =>
       clear HC20; (try clear c1); (try clear c2); (try clear p2); (try clear c5); (try clear c6); (try clear c6b0); (try clear c6b1); (try clear c7); (try clear c11); (try clear c11b0); (try clear c11b1); (try clear c12); (try clear c12b0); (try clear c12b1); (try clear c16); (try clear c16b0); (try clear c16b1); (try clear c17); (try clear c22); (try clear c22b0); (try clear c22b1); (try clear c23); (try clear c23b0); (try clear c23b1); (try clear hcz13_0); (try clear hcz13_1); (try clear hcz13_2); (try clear hcz13_3); (try clear hcz13_4); (try clear hcz14_0); (try clear hcz14_1); (try clear hcz14_2); (try clear hcz14_3); (try clear hcz14_4); (try clear hcz15_0); (try clear hcz15_1); (try clear hcz15_2); (try clear hcz15_3); (try clear hcz15_4); (try clear hcz18_0); (try clear hcz18_1); (try clear hcz18_2); (try clear hcz18_3); (try clear hcz18_4); (try clear hcz19_0); (try clear hcz19_1); (try clear hcz19_2); (try clear hcz19_3); (try clear hcz19_4); (try clear hcz21_0); (try clear hcz21_1); (try clear hcz21_2); (try clear hcz21_3); (try clear hcz21_4); (try clear hcz7_0); (try clear hcz7_1); (try clear hcz7_2); (try clear hcz7_3); (try clear hcz7_4); (try clear hcz8_0); (try clear hcz8_1); (try clear hcz8_2); (try clear hcz8_3); (try clear hcz8_4); (try clear hcz9_0); (try clear hcz9_1); (try clear hcz9_2); (try clear hcz9_3); (try clear hcz9_4); (try clear hfz13_0); (try clear hfz13_1); (try clear hfz13_2); (try clear hfz13_3); (try clear hfz13_4); (try clear hfz14_0); (try clear hfz14_1); (try clear hfz14_2); (try clear hfz14_3); (try clear hfz14_4); (try clear hfz15_0); (try clear hfz15_1); (try clear hfz15_2); (try clear hfz15_3); (try clear hfz15_4); (try clear hfz18_0); (try clear hfz18_1); (try clear hfz18_2); (try clear hfz18_3); (try clear hfz18_4); (try clear hfz19_0); (try clear hfz19_1); (try clear hfz19_2); (try clear hfz19_3); (try clear hfz19_4); (try clear hfz21_0); (try clear hfz21_1); (try clear hfz21_2); (try clear hfz21_3); (try clear hfz21_4); (try clear hfz7_0); (try clear hfz7_1); (try clear hfz7_2); (try clear hfz7_3); (try clear hfz7_4); (try clear hfz8_0); (try clear hfz8_1); (try clear hfz8_2); (try clear hfz8_3); (try clear hfz8_4); (try clear hfz9_0); (try clear hfz9_1); (try clear hfz9_2); (try clear hfz9_3); (try clear hfz9_4); (try clear p2); obtain ⟨kq, x45_19, rfl, HA, HJ19, BK103, HB⟩ := hcut
       cases kq with
       | zero => exact absurd HA.out (by simp [match_alone.j2])
       | succ kj19 =>
        have H := HA.out; clear HA; simp only [match_alone.j2] at H; by_cases c24 : x45_19 = true
        ·subst c24
         have H1 : (if x3_1 = true then (some ((l0_3.length : Int) == 0)) else (some false)) = some r := zk29
         clear H; have H := H1; clear H1; by_cases c25 : x3_1 = true
         ·subst c25
          have H1 : (some ((l0_3.length : Int) == 0)) = some r := zk29
          clear H; have H := H1; clear H1; obtain rfl := Option.some.inj H; obtain ⟨hcz26_0, hcz26_1, hcz26_2, hcz26_3, hcz26_4, hfz26_0, hfz26_1, hfz26_2, hfz26_3, hfz26_4⟩ := cf5 BK103.out; go_wp2; go_ret
          exact ⟨zk4, zk10⟩
         ·replace c25 := Bool.eq_false_iff.mpr c25
          subst c25; have H1 : (some false) = some r := zk23
          clear H; have H := H1; clear H1; obtain rfl := Option.some.inj H; go_wp2; go_ret
          exact ⟨zk4, zk10⟩
        ·replace c24 := Bool.eq_false_iff.mpr c24
         subst c24; have H1 : (if a0_0 = 4 then (if x3_1 = true then (if a0_2.toList = ([] : List UInt8) then ((match_values.f kj19 l0_3).bind fun t105 => (some t105)) else (some false)) else (some false)) else (if a0_0 = 5 then (match_alone.j3 kj19 x4_9 a0_0 (a0_0 == 5) a0_0 a0_1 a0_2 l0_3 l0_4) else (match_alone.j3 kj19 x4_9 a0_0 (a0_0 == 6) a0_0 a0_1 a0_2 l0_3 l0_4))) = some r := zk23
         clear H; have H := H1; clear H1; by_cases c27 : a0_0 = 4
         ·rw [if_pos c27] at H
          have c27b0 : (a0_0 == 4) = true := beq_iff_eq.mpr c27; have c27b1 : (a0_0 != 4) = false := bne_eq_false_iff_eq.mpr c27; clear c27; by_cases c28 : x3_1 = true
          ·subst c28
           have H1 : (if a0_2.toList = ([] : List UInt8) then ((match_values.f kj19 l0_3).bind fun t105 => (some t105)) else (some false)) = some r := zk29
           clear H; have H := H1; clear H1; by_cases c29 : a0_2.toList = ([] : List UInt8)
           ·rw [if_pos c29] at H
            have c29b0 : (a0_2.toList == ([] : List UInt8)) = true := beq_iff_eq.mpr c29; have c29b1 : (a0_2.toList != ([] : List UInt8)) = false := bne_eq_false_iff_eq.mpr c29; clear c29; replace H := Option.bind_eq_some_iff.mp H; obtain ⟨t105, A300, H⟩ := H; replace H : (some t105) = some r := H; have A30 := mkA A300; clear A300; obtain rfl := Option.some.inj H; obtain ⟨hcz31_0, hcz31_1, hcz31_2, hcz31_3, hcz31_4, hfz31_0, hfz31_1, hfz31_2, hfz31_3, hfz31_4⟩ := cf5 BK103.out; (go_wp2_with (first | (go_at_call 90; (with_reducible refine (match_values.calls kj19 _ _ l0_3 t105 _ ?side1 ?side2 A30.out).mono ?_); (case side1 => repeat (first | exact (Kd.C_below HR0_3.out HB.out) | (with_reducible refine Kd.C_alloc ?_ _) | (with_reducible refine Kd.C_drewN ?_ _) | (with_reducible refine Kd.C_drew ?_))); (case side2 => exact HC0_3.out); rintro e w' ⟨rfl, ⟨nd, rfl⟩⟩))); go_ret
            exact ⟨zk4, zk10⟩
           ·rw [if_neg c29] at H
            have c29b0 : (a0_2.toList == ([] : List UInt8)) = false := beq_eq_false_iff_ne.mpr c29; have c29b1 : (a0_2.toList != ([] : List UInt8)) = true := bne_iff_ne.mpr c29; obtain rfl := Option.some.inj H; obtain ⟨hcz32_0, hcz32_1, hcz32_2, hcz32_3, hcz32_4, hfz32_0, hfz32_1, hfz32_2, hfz32_3, hfz32_4⟩ := cf5 BK103.out; go_wp2; go_ret
            exact ⟨zk4, zk10⟩
          ·replace c28 := Bool.eq_false_iff.mpr c28
           subst c28; have H1 : (some false) = some r := zk23
           clear H; have H := H1; clear H1; obtain rfl := Option.some.inj H; go_wp2; go_ret
           exact ⟨zk4, zk10⟩
         ·rw [if_neg c27] at H
          have c27b0 : (a0_0 == 4) = false := beq_eq_false_iff_ne.mpr c27; have c27b1 : (a0_0 != 4) = true := bne_iff_ne.mpr c27; have HC33 := mkA H; clear H; go_upto_if 69 with (fail)
          go_cut [69] (fun v69 wc => ∃ (kq : Nat) (x69_32 : Bool), v69 = .bool x69_32 ∧ Aside0 (match_alone.j3 kq x4_9 a0_0 x69_32 a0_0 a0_1 a0_2 l0_3 l0_4 = some r) ∧ Aside0 (kq ≤ kj19) ∧ Aside0 (wc.heap[gb103]? = some (.cells #[.int .i64 a0_0, .string a0_1, .string a0_2, (.slice A0_3 l0_3.length c0_3), (.slice A0_4 l0_4.length c0_4)] 54 (0, 0))) ∧ Aside0 (Below w.heap.size w wc))
          case first =>
           have H := HC33.out; clear HC33; by_cases c34 : a0_0 = 5
           ·rw [if_pos c34] at H
            have c34b0 : (a0_0 == 5) = true := beq_iff_eq.mpr c34; have c34b1 : (a0_0 != 5) = false := bne_eq_false_iff_eq.mpr c34; clear c34; (first | rw [c34b0] | (simp only [i64_w, i32_w]; rw [c34b0]) | skip); have H' := mkA H; clear H; go_wp2; go_meet
            case rel => exact ⟨_, ((a0_0 == 5)), zk6, H', ⟨zk73⟩, ⟨zk24⟩, ⟨zk10⟩⟩
           ·rw [if_neg c34] at H
            have c34b0 : (a0_0 == 5) = false := beq_eq_false_iff_ne.mpr c34; have c34b1 : (a0_0 != 5) = true := bne_iff_ne.mpr c34; (first | rw [c34b0] | (simp only [i64_w, i32_w]; rw [c34b0]) | skip); have H' := mkA H; clear H; go_wp2; go_meet
            case rel => exact ⟨_, ((a0_0 == 6)), zk6, H', ⟨zk73⟩, ⟨zk24⟩, ⟨zk10⟩⟩
          case rest =>
           clear HC33; (try clear c1); (try clear c2); (try clear p2); (try clear c3); (try clear c5); (try clear c6); (try clear c6b0); (try clear c6b1); (try clear c7); (try clear c11); (try clear c11b0); (try clear c11b1); (try clear c12); (try clear c12b0); (try clear c12b1); (try clear c16); (try clear c16b0); (try clear c16b1); (try clear c17); (try clear c22); (try clear c22b0); (try clear c22b1); (try clear c23); (try clear c23b0); (try clear c23b1); (try clear c24); (try clear c25); (try clear c27); (try clear c27b0); (try clear c27b1); (try clear c28); (try clear c29); (try clear c29b0); (try clear c29b1); (try clear c34); (try clear c34b0); (try clear c34b1); (try clear hcz13_0); (try clear hcz13_1); (try clear hcz13_2); (try clear hcz13_3); (try clear hcz13_4); (try clear hcz14_0); (try clear hcz14_1); (try clear hcz14_2); (try clear hcz14_3); (try clear hcz14_4); (try clear hcz15_0); (try clear hcz15_1); (try clear hcz15_2); (try clear hcz15_3); (try clear hcz15_4); (try clear hcz18_0); (try clear hcz18_1); (try clear hcz18_2); (try clear hcz18_3); (try clear hcz18_4); (try clear hcz19_0); (try clear hcz19_1); (try clear hcz19_2); (try clear hcz19_3); (try clear hcz19_4); (try clear hcz21_0); (try clear hcz21_1); (try clear hcz21_2); (try clear hcz21_3); (try clear hcz21_4); (try clear hcz26_0); (try clear hcz26_1); (try clear hcz26_2); (try clear hcz26_3); (try clear hcz26_4); (try clear hcz31_0); (try clear hcz31_1); (try clear hcz31_2); (try clear hcz31_3); (try clear hcz31_4); (try clear hcz32_0); (try clear hcz32_1); (try clear hcz32_2); (try clear hcz32_3); (try clear hcz32_4); (try clear hcz7_0); (try clear hcz7_1); (try clear hcz7_2); (try clear hcz7_3); (try clear hcz7_4); (try clear hcz8_0); (try clear hcz8_1); (try clear hcz8_2); (try clear hcz8_3); (try clear hcz8_4); (try clear hcz9_0); (try clear hcz9_1); (try clear hcz9_2); (try clear hcz9_3); (try clear hcz9_4); (try clear hfz13_0); (try clear hfz13_1); (try clear hfz13_2); (try clear hfz13_3); (try clear hfz13_4); (try clear hfz14_0); (try clear hfz14_1); (try clear hfz14_2); (try clear hfz14_3); (try clear hfz14_4); (try clear hfz15_0); (try clear hfz15_1); (try clear hfz15_2); (try clear hfz15_3); (try clear hfz15_4); (try clear hfz18_0); (try clear hfz18_1); (try clear hfz18_2); (try clear hfz18_3); (try clear hfz18_4); (try clear hfz19_0); (try clear hfz19_1); (try clear hfz19_2); (try clear hfz19_3); (try clear hfz19_4); (try clear hfz21_0); (try clear hfz21_1); (try clear hfz21_2); (try clear hfz21_3); (try clear hfz21_4); (try clear hfz26_0); (try clear hfz26_1); (try clear hfz26_2); (try clear hfz26_3); (try clear hfz26_4); (try clear hfz31_0); (try clear hfz31_1); (try clear hfz31_2); (try clear hfz31_3); (try clear hfz31_4); (try clear hfz32_0); (try clear hfz32_1); (try clear hfz32_2); (try clear hfz32_3); (try clear hfz32_4); (try clear hfz7_0); (try clear hfz7_1); (try clear hfz7_2); (try clear hfz7_3); (try clear hfz7_4); (try clear hfz8_0); (try clear hfz8_1); (try clear hfz8_2); (try clear hfz8_3); (try clear hfz8_4); (try clear hfz9_0); (try clear hfz9_1); (try clear hfz9_2); (try clear hfz9_3); (try clear hfz9_4); (try clear p2); obtain ⟨kq, x69_32, rfl, HA, HJ32, BK103, HB⟩ := hcut
           cases kq with
           | zero => exact absurd HA.out (by simp [match_alone.j3])
           | succ kj32 =>
            have H := HA.out; clear HA; simp only [match_alone.j3] at H; by_cases c35 : x69_32 = true
            ·subst c35
             have H1 : (some x4_9) = some r := zk29
             clear H; have H := H1; clear H1; obtain rfl := Option.some.inj H; go_wp2; go_ret
             exact ⟨zk4, zk10⟩
            ·replace c35 := Bool.eq_false_iff.mpr c35
             subst c35; have H1 : (if a0_0 = 7 then (if x4_9 = true then (some ((l0_4.length : Int) == 1)) else (some false)) else (some false)) = some r := zk23
             clear H; have H := H1; clear H1; by_cases c36 : a0_0 = 7
             ·rw [if_pos c36] at H
              have c36b0 : (a0_0 == 7) = true := beq_iff_eq.mpr c36; have c36b1 : (a0_0 != 7) = false := bne_eq_false_iff_eq.mpr c36; clear c36; by_cases c37 : x4_9 = true
              ·subst c37
               have H1 : (some ((l0_4.length : Int) == 1)) = some r := zk29
               clear H; have H := H1; clear H1; obtain rfl := Option.some.inj H; obtain ⟨hcz38_0, hcz38_1, hcz38_2, hcz38_3, hcz38_4, hfz38_0, hfz38_1, hfz38_2, hfz38_3, hfz38_4⟩ := cf5 BK103.out; go_wp2; go_ret
               exact ⟨zk4, zk10⟩
              ·replace c37 := Bool.eq_false_iff.mpr c37
               subst c37; have H1 : (some false) = some r := zk23
               clear H; have H := H1; clear H1; obtain rfl := Option.some.inj H; go_wp2; go_ret
               exact ⟨zk4, zk10⟩
             ·rw [if_neg c36] at H
              have c36b0 : (a0_0 == 7) = false := beq_eq_false_iff_ne.mpr c36; have c36b1 : (a0_0 != 7) = true := bne_iff_ne.mpr c36; obtain rfl := Option.some.inj H; go_wp2; go_ret
              exact ⟨zk4, zk10⟩
end Go.Proofs.Ytlkhdbfhnpbbhaa.Mx
namespace Go.Proofs.Ytlkhdbfhnpbbhaa.Mx
open Go.RowKit Go.Proofs.YtlkhdbfhnpbbhaaW.PrintWords Go.Proofs.YtlkhdbfhnpbbhaaW.PrintLast Go.Proofs.YtlkhdbfhnpbbhaaW.PrintMore Go.Proofs.Ytlkhdbfhnpbbhaa.Ix
def stringslite_HasPrefix.f (a0 : ByteArray) (a1 : ByteArray) : Option (Bool) := if (a0.size : Int) ≥ (a1.size : Int) then (if 0 ≤ (a1.size : Int) then (if (a1.size : Int) ≤ (a0.size : Int) then (some ((a0.extract 0 ((a1.size : Int) : Int).toNat).toList == a1.toList)) else (none)) else (none)) else (some false)
set_option maxHeartbeats 8000000 in
set_option maxRecDepth 100000 in
theorem stringslite_HasPrefix.calls (a0 : ByteArray) (a1 : ByteArray) (r : Bool) (w : World) (h : stringslite_HasPrefix.f a0 a1 = some r) :
  Calls Try.prog 72 #[.string a0, .string a1] w fun e w' => e = .returned (.bool r) ∧ Drawn0 w w' := by
 have H : (if (a0.size : Int) ≥ (a1.size : Int) then (if 0 ≤ (a1.size : Int) then (if (a1.size : Int) ≤ (a0.size : Int) then (some ((a0.extract 0 ((a1.size : Int) : Int).toNat).toList == a1.toList)) else (none)) else (none)) else (some false)) = some r := h; clear h; by_cases c3 : (a0.size : Int) ≥ (a1.size : Int)
 ·rw [if_pos c3] at H
  have c3b0 : decide ((a1.size : Int) ≤ (a0.size : Int)) = true := decide_eq_true c3; have c3b1 : decide (a1.size ≤ a0.size) = true := decide_eq_true (Int.ofNat_le.mp c3); clear c3; by_cases c4 : 0 ≤ (a1.size : Int)
  ·rw [if_pos c4] at H
   have c4b0 := eq_true c4; have c4b1 : decide (0 ≤ (a1.size : Int)) = true := decide_eq_true c4; clear c4; by_cases c5 : (a1.size : Int) ≤ (a0.size : Int)
   ·rw [if_pos c5] at H
    have c5b0 := eq_true c5; have c5b1 : decide ((a1.size : Int) ≤ (a0.size : Int)) = true := decide_eq_true c5; clear c5; obtain rfl := Option.some.inj H; go_enter Try.func72, Try.ntmps72; go_wp2; go_ret
    exact zk128
   ·exact zk107
  ·exact zk126
 ·rw [if_neg c3] at H
  have c3b0 : decide ((a1.size : Int) ≤ (a0.size : Int)) = false := decide_eq_false c3; have c3b1 : decide (a1.size ≤ a0.size) = false := decide_eq_false (fun h => c3 (Int.ofNat_le.mpr h)); clear c3; obtain rfl := Option.some.inj H; go_enter Try.func72, Try.ntmps72; go_wp2; go_ret
  exact zk128
def strings_HasPrefix.f (a0 : ByteArray) (a1 : ByteArray) : Option (Bool) := (stringslite_HasPrefix.f a0 a1).bind fun t108 => (some t108)
set_option maxHeartbeats 8000000 in
set_option maxRecDepth 100000 in
theorem strings_HasPrefix.calls (a0 : ByteArray) (a1 : ByteArray) (r : Bool) (w : World) (h : strings_HasPrefix.f a0 a1 = some r) :
  Calls Try.prog 64 #[.string a0, .string a1] w fun e w' => e = .returned (.bool r) ∧ Drawn0 w w' := by
 have H : ((stringslite_HasPrefix.f a0 a1).bind fun t108 => (some t108)) = some r := h; clear h; replace H := Option.bind_eq_some_iff.mp H; obtain ⟨t108, A30, H⟩ := H; replace H : (some t108) = some r := H; have A3 := mkA A30; clear A30; obtain rfl := Option.some.inj H; go_enter Try.func64, Try.ntmps64; (go_wp2_with (first | ((with_reducible refine gate_callee (f := 72) rfl ?_); refine goesL_ (some 7) rfl rfl Try.func72 zk3 rfl #[.string a0, .string a1] rfl zk5 ?_; (with_reducible refine (stringslite_HasPrefix.calls a0 a1 t108 _ A3.out).mono ?_); rintro e w' ⟨rfl, ⟨nd, rfl⟩⟩; refine ⟨_, rfl, ?_⟩))); go_ret
 exact zk128
mutual
def match_eval.l0 : Nat → ByteArray → List ByteArray → Int → Int → Option (Bool)
 | 0, _, _, _, _ => none
 | k + 1, x5, x40, x41, x42 => if x42 < x41 then (if 0 ≤ x42 then (if x42 < (x40.length : Int) then (if (rdOf ByteArray.empty x40 x42).toList = x5.toList then (some true) else (match_eval.l0 k x5 x40 x41 (wrap64 (x42 + 1)))) else (none)) else (none)) else (some false)
def match_eval.l1 : Nat → List (S41) → Bool → List (S54) → Int → Int → Option (Bool)
 | 0, _, _, _, _, _ => none
 | k + 1, x1, x8, x63, x64, x65 => if x65 < x64 then (if 0 ≤ x65 then (if x65 < (x63.length : Int) then ((match_eval.f k ((rd_T54 x63 x65).f0) ((rd_T54 x63 x65).f1) ((rd_T54 x63 x65).f2) ((rd_T54 x63 x65).f3) ((rd_T54 x63 x65).f4) x1).bind fun t117 => (if (t117 == x8) = true then (some x8) else (match_eval.l1 k x1 x8 x63 x64 (wrap64 (x65 + 1))))) else (none)) else (none)) else (some (!x8))
def match_eval.f : Nat → Int → ByteArray → ByteArray → List ByteArray → List (S54) → List (S41) → Option (Bool)
 | 0, _, _, _, _, _, _ => none
 | k + 1, a0_0, a0_1, a0_2, l0_3, l0_4, l1 => (label_Value.f k l1 a0_1).bind fun t110 => (if a0_0 = 0 then (some true) else (if a0_0 = 1 then (some (t110.toList == a0_2.toList)) else (if a0_0 = 2 then (some (t110.toList != a0_2.toList)) else (if a0_0 = 3 then ((strings_HasPrefix.f t110 a0_2).bind fun t111 => (some t111)) else (if a0_0 = 4 then (match_eval.l0 k t110 l0_3 (l0_3.length : Int) 0) else (if a0_0 = 7 then (if 0 < (l0_4.length : Int) then ((match_eval.f k ((rd_T54 l0_4 0).f0) ((rd_T54 l0_4 0).f1) ((rd_T54 l0_4 0).f2) ((rd_T54 l0_4 0).f3) ((rd_T54 l0_4 0).f4) l1).bind fun t114 => (some (!t114))) else (none)) else (match_eval.l1 k l1 (a0_0 == 6) l0_4 (l0_4.length : Int) 0)))))))
end
set_option maxHeartbeats 8000000 in
set_option maxRecDepth 100000 in
theorem match_eval.calls (k : Nat) : ∀ (a0_0 : Int) (a0_1 : ByteArray) (a0_2 : ByteArray) (A0_3 : Option Addr) (c0_3 : Nat) (l0_3 : List ByteArray) (A0_4 : Option Addr) (c0_4 : Nat) (l0_4 : List (S54)) (A1 : Option Addr) (c1 : Nat) (l1 : List (S41)) (r : Bool) (w : World) (hr0_3 : Kd.C Kd.string w A0_3 l0_3.length l0_3) (hc0_3 : l0_3.length ≤ c0_3) (hr0_4 : Kd.C k54 w A0_4 l0_4.length l0_4) (hc0_4 : l0_4.length ≤ c0_4) (hr1 : Kd.C k41 w A1 l1.length l1) (hc1 : l1.length ≤ c1) (h : match_eval.f k a0_0 a0_1 a0_2 l0_3 l0_4 l1 = some r),
  Calls Try.prog 50 #[.agg #[.int .i64 a0_0, .string a0_1, .string a0_2, .slice A0_3 l0_3.length c0_3, .slice A0_4 l0_4.length c0_4], .slice A1 l1.length c1] w fun e w' => e = .returned (.bool r) ∧ Below w.heap.size w w' := by
 induction k using Nat.strongRecOn with
 | _ k ih =>
 intro a0_0 a0_1 a0_2 A0_3 c0_3 l0_3 A0_4 c0_4 l0_4 A1 c1 l1 r w hr0_3 hc0_3 hr0_4 hc0_4 hr1 hc1 h
 cases k with
 | zero => exact absurd h (by simp [match_eval.f])
 | succ k =>
 simp only [match_eval.f] at h; have hu54 := Try.underlying54; have HR0_3 := mkA hr0_3; have HC0_3 := mkA hc0_3; clear hr0_3 hc0_3; have HR0_4 := mkA hr0_4; have HC0_4 := mkA hc0_4; clear hr0_4 hc0_4; have HR1 := mkA hr1; have HC1 := mkA hc1; clear hr1 hc1; have HB := mkA (Below.refl w.heap.size w); have H : ((label_Value.f k l1 a0_1).bind fun t110 => (if a0_0 = 0 then (some true) else (if a0_0 = 1 then (some (t110.toList == a0_2.toList)) else (if a0_0 = 2 then (some (t110.toList != a0_2.toList)) else (if a0_0 = 3 then ((strings_HasPrefix.f t110 a0_2).bind fun t111 => (some t111)) else (if a0_0 = 4 then (match_eval.l0 k t110 l0_3 (l0_3.length : Int) 0) else (if a0_0 = 7 then (if 0 < (l0_4.length : Int) then ((match_eval.f k ((rd_T54 l0_4 0).f0) ((rd_T54 l0_4 0).f1) ((rd_T54 l0_4 0).f2) ((rd_T54 l0_4 0).f3) ((rd_T54 l0_4 0).f4) l1).bind fun t114 => (some (!t114))) else (none)) else (match_eval.l1 k l1 (a0_0 == 6) l0_4 (l0_4.length : Int) 0)))))))) = some r := h; clear h; replace H := Option.bind_eq_some_iff.mp H; obtain ⟨t110, A30, H⟩ := H; replace H : (if a0_0 = 0 then (some true) else (if a0_0 = 1 then (some (t110.toList == a0_2.toList)) else (if a0_0 = 2 then (some (t110.toList != a0_2.toList)) else (if a0_0 = 3 then ((strings_HasPrefix.f t110 a0_2).bind fun t111 => (some t111)) else (if a0_0 = 4 then (match_eval.l0 k t110 l0_3 (l0_3.length : Int) 0) else (if a0_0 = 7 then (if 0 < (l0_4.length : Int) then ((match_eval.f k ((rd_T54 l0_4 0).f0) ((rd_T54 l0_4 0).f1) ((rd_T54 l0_4 0).f2) ((rd_T54 l0_4 0).f3) ((rd_T54 l0_4 0).f4) l1).bind fun t114 => (some (!t114))) else (none)) else (match_eval.l1 k l1 (a0_0 == 6) l0_4 (l0_4.length : Int) 0))))))) = some r := H; have A3 := mkA A30; clear A30; by_cases c4 : a0_0 = 0
 ·rw [if_pos c4] at H
  have c4b0 : (a0_0 == 0) = true := beq_iff_eq.mpr c4; have c4b1 : (a0_0 != 0) = false := bne_eq_false_iff_eq.mpr c4; clear c4; obtain rfl := Option.some.inj H; go_enter Try.func50, Try.ntmps50; (go_wp2_with (first | ((with_reducible refine gate_dst (N := 2) rfl ?_); refine box_event ?hg (N := 2) ?hd (cs := #[.int .i64 a0_0, .string a0_1, .string a0_2, .slice A0_3 l0_3.length c0_3, .slice A0_4 l0_4.length c0_4]) (t := 54) ?hr ?_; (case hd => exact zk16); (case hg => exact zk16); (case hr => exact zk9); intro gb109 hg w5 hbox hb; have n0_ := mkA (below_step zk1 hb); have n1_ := mkA (hbox); have n2_ := mkA ((by rw [hg]; exact (below_size zk1) : w.heap.size ≤ gb109)); have n3_ := mkA ((by rw [hg]; exact (below_size zk1) : w.heap.size ≤ gb109)); clear HB; have HB := n0_; have BK109 := n1_; have GW109 := n2_; have GE109 := n3_; clear n0_ n1_ n2_ n3_; clear hb hbox hg; obtain ⟨hcz6_0, hcz6_1, hcz6_2, hcz6_3, hcz6_4, hfz6_0, hfz6_1, hfz6_2, hfz6_3, hfz6_4⟩ := cf5 BK109.out) | ((with_reducible refine gate_callee (f := 42) rfl ?_); refine goesL_ (some 14) rfl rfl Try.func42 zk3 rfl #[.slice A1 l1.length c1, .string a0_1] rfl zk5 ?_; (with_reducible refine (label_Value.calls k _ _ l1 a0_1 t110 _ ?side1 ?side2 A3.out).mono ?_); (case side1 => exact zk13); (case side2 => exact HC1.out); rintro e w7 ⟨rfl, hb⟩; refine ⟨_, rfl, ?_⟩; have n0_ := mkA (blk_below (g := gb109) (o := .cells #[.int .i64 a0_0, .string a0_1, .string a0_2, .slice A0_3 l0_3.length c0_3, .slice A0_4 l0_4.length c0_4] 54 (0, 0)) zk17 hb); have n1_ := mkA (below_step zk8 hb); clear BK109; clear HB; have BK109 := n0_; have HB := n1_; clear n0_ n1_; (try clear hb); (try clear hb2); (try clear hk); (try clear hi); obtain ⟨hcz8_0, hcz8_1, hcz8_2, hcz8_3, hcz8_4, hfz8_0, hfz8_1, hfz8_2, hfz8_3, hfz8_4⟩ := cf5 BK109.out))); go_ret
  exact ⟨zk4, zk8⟩
 ·rw [if_neg c4] at H
  have c4b0 : (a0_0 == 0) = false := beq_eq_false_iff_ne.mpr c4; have c4b1 : (a0_0 != 0) = true := bne_iff_ne.mpr c4; by_cases c9 : a0_0 = 1
  ·rw [if_pos c9] at H
   have c9b0 : (a0_0 == 1) = true := beq_iff_eq.mpr c9; have c9b1 : (a0_0 != 1) = false := bne_eq_false_iff_eq.mpr c9; clear c9; obtain rfl := Option.some.inj H; go_enter Try.func50, Try.ntmps50; (go_wp2_with (first | ((with_reducible refine gate_dst (N := 2) rfl ?_); refine box_event ?hg (N := 2) ?hd (cs := #[.int .i64 a0_0, .string a0_1, .string a0_2, .slice A0_3 l0_3.length c0_3, .slice A0_4 l0_4.length c0_4]) (t := 54) ?hr ?_; (case hd => exact zk16); (case hg => exact zk16); (case hr => exact zk9); intro gb109 hg w10 hbox hb; have n0_ := mkA (below_step zk1 hb); have n1_ := mkA (hbox); have n2_ := mkA ((by rw [hg]; exact (below_size zk1) : w.heap.size ≤ gb109)); have n3_ := mkA ((by rw [hg]; exact (below_size zk1) : w.heap.size ≤ gb109)); clear HB; have HB := n0_; have BK109 := n1_; have GW109 := n2_; have GE109 := n3_; clear n0_ n1_ n2_ n3_; clear hb hbox hg; obtain ⟨hcz11_0, hcz11_1, hcz11_2, hcz11_3, hcz11_4, hfz11_0, hfz11_1, hfz11_2, hfz11_3, hfz11_4⟩ := cf5 BK109.out) | ((with_reducible refine gate_callee (f := 42) rfl ?_); refine goesL_ (some 14) rfl rfl Try.func42 zk3 rfl #[.slice A1 l1.length c1, .string a0_1] rfl zk5 ?_; (with_reducible refine (label_Value.calls k _ _ l1 a0_1 t110 _ ?side1 ?side2 A3.out).mono ?_); (case side1 => exact zk13); (case side2 => exact HC1.out); rintro e w12 ⟨rfl, hb⟩; refine ⟨_, rfl, ?_⟩; have n0_ := mkA (blk_below (g := gb109) (o := .cells #[.int .i64 a0_0, .string a0_1, .string a0_2, .slice A0_3 l0_3.length c0_3, .slice A0_4 l0_4.length c0_4] 54 (0, 0)) zk17 hb); have n1_ := mkA (below_step zk8 hb); clear BK109; clear HB; have BK109 := n0_; have HB := n1_; clear n0_ n1_; (try clear hb); (try clear hb2); (try clear hk); (try clear hi); obtain ⟨hcz13_0, hcz13_1, hcz13_2, hcz13_3, hcz13_4, hfz13_0, hfz13_1, hfz13_2, hfz13_3, hfz13_4⟩ := cf5 BK109.out))); go_ret
   exact ⟨zk4, zk8⟩
  ·rw [if_neg c9] at H
   have c9b0 : (a0_0 == 1) = false := beq_eq_false_iff_ne.mpr c9; have c9b1 : (a0_0 != 1) = true := bne_iff_ne.mpr c9; by_cases c14 : a0_0 = 2
   ·rw [if_pos c14] at H
    have c14b0 : (a0_0 == 2) = true := beq_iff_eq.mpr c14; have c14b1 : (a0_0 != 2) = false := bne_eq_false_iff_eq.mpr c14; clear c14; obtain rfl := Option.some.inj H; go_enter Try.func50, Try.ntmps50; (go_wp2_with (first | ((with_reducible refine gate_dst (N := 2) rfl ?_); refine box_event ?hg (N := 2) ?hd (cs := #[.int .i64 a0_0, .string a0_1, .string a0_2, .slice A0_3 l0_3.length c0_3, .slice A0_4 l0_4.length c0_4]) (t := 54) ?hr ?_; (case hd => exact zk16); (case hg => exact zk16); (case hr => exact zk9); intro gb109 hg w15 hbox hb; have n0_ := mkA (below_step zk1 hb); have n1_ := mkA (hbox); have n2_ := mkA ((by rw [hg]; exact (below_size zk1) : w.heap.size ≤ gb109)); have n3_ := mkA ((by rw [hg]; exact (below_size zk1) : w.heap.size ≤ gb109)); clear HB; have HB := n0_; have BK109 := n1_; have GW109 := n2_; have GE109 := n3_; clear n0_ n1_ n2_ n3_; clear hb hbox hg; obtain ⟨hcz16_0, hcz16_1, hcz16_2, hcz16_3, hcz16_4, hfz16_0, hfz16_1, hfz16_2, hfz16_3, hfz16_4⟩ := cf5 BK109.out) | ((with_reducible refine gate_callee (f := 42) rfl ?_); refine goesL_ (some 14) rfl rfl Try.func42 zk3 rfl #[.slice A1 l1.length c1, .string a0_1] rfl zk5 ?_; (with_reducible refine (label_Value.calls k _ _ l1 a0_1 t110 _ ?side1 ?side2 A3.out).mono ?_); (case side1 => exact zk13); (case side2 => exact HC1.out); rintro e w17 ⟨rfl, hb⟩; refine ⟨_, rfl, ?_⟩; have n0_ := mkA (blk_below (g := gb109) (o := .cells #[.int .i64 a0_0, .string a0_1, .string a0_2, .slice A0_3 l0_3.length c0_3, .slice A0_4 l0_4.length c0_4] 54 (0, 0)) zk17 hb); have n1_ := mkA (below_step zk8 hb); clear BK109; clear HB; have BK109 := n0_; have HB := n1_; clear n0_ n1_; (try clear hb); (try clear hb2); (try clear hk); (try clear hi); obtain ⟨hcz18_0, hcz18_1, hcz18_2, hcz18_3, hcz18_4, hfz18_0, hfz18_1, hfz18_2, hfz18_3, hfz18_4⟩ := cf5 BK109.out))); go_ret
    exact ⟨zk4, zk8⟩
   ·rw [if_neg c14] at H
    have c14b0 : (a0_0 == 2) = false := beq_eq_false_iff_ne.mpr c14; have c14b1 : (a0_0 != 2) = true := bne_iff_ne.mpr c14; by_cases c19 : a0_0 = 3
    ·rw [if_pos c19] at H
     have c19b0 : (a0_0 == 3) = true := beq_iff_eq.mpr c19; have c19b1 : (a0_0 != 3) = false := bne_eq_false_iff_eq.mpr c19; clear c19; replace H := Option.bind_eq_some_iff.mp H; obtain ⟨t111, A200, H⟩ := H; replace H : (some t111) = some r := H; have A20 := mkA A200; clear A200; obtain rfl := Option.some.inj H; go_enter Try.func50, Try.ntmps50; (go_wp2_with (first | ((with_reducible refine gate_dst (N := 2) rfl ?_); refine box_event ?hg (N := 2) ?hd (cs := #[.int .i64 a0_0, .string a0_1, .string a0_2, .slice A0_3 l0_3.length c0_3, .slice A0_4 l0_4.length c0_4]) (t := 54) ?hr ?_; (case hd => exact zk16); (case hg => exact zk16); (case hr => exact zk9); intro gb109 hg w21 hbox hb; have n0_ := mkA (below_step zk1 hb); have n1_ := mkA (hbox); have n2_ := mkA ((by rw [hg]; exact (below_size zk1) : w.heap.size ≤ gb109)); have n3_ := mkA ((by rw [hg]; exact (below_size zk1) : w.heap.size ≤ gb109)); clear HB; have HB := n0_; have BK109 := n1_; have GW109 := n2_; have GE109 := n3_; clear n0_ n1_ n2_ n3_; clear hb hbox hg; obtain ⟨hcz22_0, hcz22_1, hcz22_2, hcz22_3, hcz22_4, hfz22_0, hfz22_1, hfz22_2, hfz22_3, hfz22_4⟩ := cf5 BK109.out) | ((with_reducible refine gate_callee (f := 42) rfl ?_); refine goesL_ (some 14) rfl rfl Try.func42 zk3 rfl #[.slice A1 l1.length c1, .string a0_1] rfl zk5 ?_; (with_reducible refine (label_Value.calls k _ _ l1 a0_1 t110 _ ?side1 ?side2 A3.out).mono ?_); (case side1 => exact zk13); (case side2 => exact HC1.out); rintro e w23 ⟨rfl, hb⟩; refine ⟨_, rfl, ?_⟩; have n0_ := mkA (blk_below (g := gb109) (o := .cells #[.int .i64 a0_0, .string a0_1, .string a0_2, .slice A0_3 l0_3.length c0_3, .slice A0_4 l0_4.length c0_4] 54 (0, 0)) zk17 hb); have n1_ := mkA (below_step zk8 hb); clear BK109; clear HB; have BK109 := n0_; have HB := n1_; clear n0_ n1_; (try clear hb); (try clear hb2); (try clear hk); (try clear hi); obtain ⟨hcz24_0, hcz24_1, hcz24_2, hcz24_3, hcz24_4, hfz24_0, hfz24_1, hfz24_2, hfz24_3, hfz24_4⟩ := cf5 BK109.out) | ((with_reducible refine gate_callee (f := 64) rfl ?_); refine goesL_ (some 36) rfl rfl Try.func64 zk3 rfl #[.string t110, .string a0_2] rfl zk5 ?_; (with_reducible refine (strings_HasPrefix.calls t110 a0_2 t111 _ A20.out).mono ?_); rintro e w' ⟨rfl, ⟨nd, rfl⟩⟩; refine ⟨_, rfl, ?_⟩))); go_ret
     exact ⟨zk4, zk8⟩
    ·rw [if_neg c19] at H
     have c19b0 : (a0_0 == 3) = false := beq_eq_false_iff_ne.mpr c19; have c19b1 : (a0_0 != 3) = true := bne_iff_ne.mpr c19; by_cases c25 : a0_0 = 4
     ·rw [if_pos c25] at H
      have c25b0 : (a0_0 == 4) = true := beq_iff_eq.mpr c25; have c25b1 : (a0_0 != 4) = false := bne_eq_false_iff_eq.mpr c25; clear c25; have H' := mkA H; clear H; go_enter Try.func50, Try.ntmps50; (go_wp2_with (first | ((with_reducible refine gate_dst (N := 2) rfl ?_); refine box_event ?hg (N := 2) ?hd (cs := #[.int .i64 a0_0, .string a0_1, .string a0_2, .slice A0_3 l0_3.length c0_3, .slice A0_4 l0_4.length c0_4]) (t := 54) ?hr ?_; (case hd => exact zk16); (case hg => exact zk16); (case hr => exact zk9); intro gb109 hg w26 hbox hb; have n0_ := mkA (below_step zk1 hb); have n1_ := mkA (hbox); have n2_ := mkA ((by rw [hg]; exact (below_size zk1) : w.heap.size ≤ gb109)); have n3_ := mkA ((by rw [hg]; exact (below_size zk1) : w.heap.size ≤ gb109)); clear HB; have HB := n0_; have BK109 := n1_; have GW109 := n2_; have GE109 := n3_; clear n0_ n1_ n2_ n3_; clear hb hbox hg; obtain ⟨hcz27_0, hcz27_1, hcz27_2, hcz27_3, hcz27_4, hfz27_0, hfz27_1, hfz27_2, hfz27_3, hfz27_4⟩ := cf5 BK109.out) | ((with_reducible refine gate_callee (f := 42) rfl ?_); refine goesL_ (some 14) rfl rfl Try.func42 zk3 rfl #[.slice A1 l1.length c1, .string a0_1] rfl zk5 ?_; (with_reducible refine (label_Value.calls k _ _ l1 a0_1 t110 _ ?side1 ?side2 A3.out).mono ?_); (case side1 => exact zk13); (case side2 => exact HC1.out); rintro e w28 ⟨rfl, hb⟩; refine ⟨_, rfl, ?_⟩; have n0_ := mkA (blk_below (g := gb109) (o := .cells #[.int .i64 a0_0, .string a0_1, .string a0_2, .slice A0_3 l0_3.length c0_3, .slice A0_4 l0_4.length c0_4] 54 (0, 0)) zk17 hb); have n1_ := mkA (below_step zk8 hb); clear BK109; clear HB; have BK109 := n0_; have HB := n1_; clear n0_ n1_; (try clear hb); (try clear hb2); (try clear hk); (try clear hi); obtain ⟨hcz29_0, hcz29_1, hcz29_2, hcz29_3, hcz29_4, hfz29_0, hfz29_1, hfz29_2, hfz29_3, hfz29_4⟩ := cf5 BK109.out))); go_loopg [42] k (fun kq v42 w' => ∃ (x42_1 : Int), v42 = .int .i64 x42_1 ∧ Aside0 (match_eval.l0 kq t110 l0_3 (l0_3.length : Int) x42_1 = some r) ∧ Aside0 (kq ≤ k) ∧ Aside0 (w'.heap[gb109]? = some (.cells #[.int .i64 a0_0, .string a0_1, .string a0_2, (.slice A0_3 l0_3.length c0_3), (.slice A0_4 l0_4.length c0_4)] 54 (0, 0))) ∧ Aside0 (Below w.heap.size w w'))
      case atStart => exact ⟨(0), zk6, H', ⟨Nat.le_refl _⟩, ⟨zk17⟩, ⟨zk8⟩⟩
      case round =>
       clear H'; (try clear c1); (try clear c2); (try clear p2); (try clear c4); (try clear c4b0); (try clear c4b1); (try clear c5); (try clear c6); (try clear c9); (try clear c9b0); (try clear c9b1); (try clear c14); (try clear c14b0); (try clear c14b1); (try clear c19); (try clear c19b0); (try clear c19b1); (try clear c25); (try clear c25b0); (try clear c25b1); (try clear hcz11_0); (try clear hcz11_1); (try clear hcz11_2); (try clear hcz11_3); (try clear hcz11_4); (try clear hcz13_0); (try clear hcz13_1); (try clear hcz13_2); (try clear hcz13_3); (try clear hcz13_4); (try clear hcz16_0); (try clear hcz16_1); (try clear hcz16_2); (try clear hcz16_3); (try clear hcz16_4); (try clear hcz18_0); (try clear hcz18_1); (try clear hcz18_2); (try clear hcz18_3); (try clear hcz18_4); (try clear hcz22_0); (try clear hcz22_1); (try clear hcz22_2); (try clear hcz22_3); (try clear hcz22_4); (try clear hcz24_0); (try clear hcz24_1); (try clear hcz24_2); (try clear hcz24_3); (try clear hcz24_4); (try clear hcz27_0); (try clear hcz27_1); (try clear hcz27_2); (try clear hcz27_3); (try clear hcz27_4); (try clear hcz29_0); (try clear hcz29_1); (try clear hcz29_2); (try clear hcz29_3); (try clear hcz29_4); (try clear hcz6_0); (try clear hcz6_1); (try clear hcz6_2); (try clear hcz6_3); (try clear hcz6_4); (try clear hcz8_0); (try clear hcz8_1); (try clear hcz8_2); (try clear hcz8_3); (try clear hcz8_4); (try clear hfz11_0); (try clear hfz11_1); (try clear hfz11_2); (try clear hfz11_3); (try clear hfz11_4); (try clear hfz13_0); (try clear hfz13_1); (try clear hfz13_2); (try clear hfz13_3); (try clear hfz13_4); (try clear hfz16_0); (try clear hfz16_1); (try clear hfz16_2); (try clear hfz16_3); (try clear hfz16_4); (try clear hfz18_0); (try clear hfz18_1); (try clear hfz18_2); (try clear hfz18_3); (try clear hfz18_4); (try clear hfz22_0); (try clear hfz22_1); (try clear hfz22_2); (try clear hfz22_3); (try clear hfz22_4); (try clear hfz24_0); (try clear hfz24_1); (try clear hfz24_2); (try clear hfz24_3); (try clear hfz24_4); (try clear hfz27_0); (try clear hfz27_1); (try clear hfz27_2); (try clear hfz27_3); (try clear hfz27_4); (try clear hfz29_0); (try clear hfz29_1); (try clear hfz29_2); (try clear hfz29_3); (try clear hfz29_4); (try clear hfz6_0); (try clear hfz6_1); (try clear hfz6_2); (try clear hfz6_3); (try clear hfz6_4); (try clear hfz8_0); (try clear hfz8_1); (try clear hfz8_2); (try clear hfz8_3); (try clear hfz8_4); obtain ⟨x42_1, rfl, HA, HK1, BK109, HB⟩ := hrel
       cases gk with
       | zero => exact absurd HA.out (by simp [match_eval.l0])
       | succ k1 =>
        have H := HA.out; clear HA; simp only [match_eval.l0] at H; by_cases c30 : x42_1 < (l0_3.length : Int)
        ·rw [if_pos c30] at H
         have c30b0 : decide (x42_1 < (l0_3.length : Int)) = true := decide_eq_true c30; clear c30; by_cases c31 : 0 ≤ x42_1
         ·rw [if_pos c31] at H
          have c31b0 : decide (0 ≤ x42_1) = true := decide_eq_true c31; clear c31; by_cases c32 : x42_1 < (l0_3.length : Int)
          ·rw [if_pos c32] at H
           have c32b0 : decide (x42_1 < (l0_3.length : Int)) = true := decide_eq_true c32; clear c32; by_cases c33 : (rdOf ByteArray.empty l0_3 x42_1).toList = t110.toList
           ·rw [if_pos c33] at H
            have c33b0 : ((rdOf ByteArray.empty l0_3 x42_1).toList == t110.toList) = true := beq_iff_eq.mpr c33; have c33b1 : ((rdOf ByteArray.empty l0_3 x42_1).toList != t110.toList) = false := bne_eq_false_iff_eq.mpr c33; clear c33; obtain rfl := Option.some.inj H; have p112 : 0 ≤ (x42_1 : Int) := of_decide_eq_true zk2; have q112 : x42_1 < (l0_3.length : Int) := of_decide_eq_true zk2; obtain ⟨ad112, e112, hx112_0⟩ := Kd.at_string HR0_3.out x42_1 p112 q112; cases e112; replace hx112_0 := (HB.out.cell (World.block_lt_of_cell? w _ hx112_0)).trans hx112_0; replace p112 := eq_true p112; replace q112 := eq_true q112; go_wp2; go_ret
            exact ⟨zk4, zk8⟩
           ·rw [if_neg c33] at H
            have c33b0 : ((rdOf ByteArray.empty l0_3 x42_1).toList == t110.toList) = false := beq_eq_false_iff_ne.mpr c33; have c33b1 : ((rdOf ByteArray.empty l0_3 x42_1).toList != t110.toList) = true := bne_iff_ne.mpr c33; have H' := mkA H; clear H; have p112 : 0 ≤ (x42_1 : Int) := of_decide_eq_true zk2; have q112 : x42_1 < (l0_3.length : Int) := of_decide_eq_true zk2; obtain ⟨ad112, e112, hx112_0⟩ := Kd.at_string HR0_3.out x42_1 p112 q112; cases e112; replace hx112_0 := (HB.out.cell (World.block_lt_of_cell? w _ hx112_0)).trans hx112_0; replace p112 := eq_true p112; replace q112 := eq_true q112; go_wp2; go_roundg k1
            case measure => have := HK1.out; omega
            case rel => exact ⟨(wrap64 (x42_1 + 1)), zk6, H', ⟨zk42⟩, ⟨zk17⟩, ⟨zk8⟩⟩
          ·rw [if_neg c32] at H; exact absurd H zk30
         ·rw [if_neg c31] at H; exact absurd H zk30
        ·rw [if_neg c30] at H
         have c30b0 : decide (x42_1 < (l0_3.length : Int)) = false := decide_eq_false c30; clear c30; obtain rfl := Option.some.inj H; go_wp2; go_ret
         exact ⟨zk4, zk8⟩
     ·rw [if_neg c25] at H
      have c25b0 : (a0_0 == 4) = false := beq_eq_false_iff_ne.mpr c25; have c25b1 : (a0_0 != 4) = true := bne_iff_ne.mpr c25; by_cases c34 : a0_0 = 7
      ·rw [if_pos c34] at H
       have c34b0 : (a0_0 == 7) = true := beq_iff_eq.mpr c34; have c34b1 : (a0_0 != 7) = false := bne_eq_false_iff_eq.mpr c34; clear c34; by_cases c35 : 0 < (l0_4.length : Int)
       ·rw [if_pos c35] at H
        have c35b0 : decide (0 < (l0_4.length : Int)) = true := decide_eq_true c35; have c35b1 : decide (0 < l0_4.length) = true := decide_eq_true zk12; clear c35; replace H := Option.bind_eq_some_iff.mp H; obtain ⟨t114, A360, H⟩ := H; replace H : (some (!t114)) = some r := H; have A36 := mkA A360; clear A360; obtain rfl := Option.some.inj H; go_enter Try.func50, Try.ntmps50; (go_wp2_with (first | ((with_reducible refine gate_dst (N := 2) rfl ?_); refine box_event ?hg (N := 2) ?hd (cs := #[.int .i64 a0_0, .string a0_1, .string a0_2, .slice A0_3 l0_3.length c0_3, .slice A0_4 l0_4.length c0_4]) (t := 54) ?hr ?_; (case hd => exact zk16); (case hg => exact zk16); (case hr => exact zk9); intro gb109 hg w37 hbox hb; have n0_ := mkA (below_step zk1 hb); have n1_ := mkA (hbox); have n2_ := mkA ((by rw [hg]; exact (below_size zk1) : w.heap.size ≤ gb109)); have n3_ := mkA ((by rw [hg]; exact (below_size zk1) : w.heap.size ≤ gb109)); clear HB; have HB := n0_; have BK109 := n1_; have GW109 := n2_; have GE109 := n3_; clear n0_ n1_ n2_ n3_; clear hb hbox hg; obtain ⟨hcz38_0, hcz38_1, hcz38_2, hcz38_3, hcz38_4, hfz38_0, hfz38_1, hfz38_2, hfz38_3, hfz38_4⟩ := cf5 BK109.out) | ((with_reducible refine gate_callee (f := 42) rfl ?_); refine goesL_ (some 14) rfl rfl Try.func42 zk3 rfl #[.slice A1 l1.length c1, .string a0_1] rfl zk5 ?_; (with_reducible refine (label_Value.calls k _ _ l1 a0_1 t110 _ ?side1 ?side2 A3.out).mono ?_); (case side1 => exact zk13); (case side2 => exact HC1.out); rintro e w39 ⟨rfl, hb⟩; refine ⟨_, rfl, ?_⟩; have n0_ := mkA (blk_below (g := gb109) (o := .cells #[.int .i64 a0_0, .string a0_1, .string a0_2, .slice A0_3 l0_3.length c0_3, .slice A0_4 l0_4.length c0_4] 54 (0, 0)) zk17 hb); have n1_ := mkA (below_step zk8 hb); clear BK109; clear HB; have BK109 := n0_; have HB := n1_; clear n0_ n1_; (try clear hb); (try clear hb2); (try clear hk); (try clear hi); obtain ⟨hcz40_0, hcz40_1, hcz40_2, hcz40_3, hcz40_4, hfz40_0, hfz40_1, hfz40_2, hfz40_3, hfz40_4⟩ := cf5 BK109.out; have p113 : 0 ≤ (0 : Int) := zk12; have q113 : 0 < (l0_4.length : Int) := of_decide_eq_true zk2; obtain ⟨ad113, A113_3, c113_3, A113_4, c113_4, e113, hx113_0, hx113_1, hx113_2, hx113_3, hx113_4, hl113_3, hi113_3, hl113_4, hi113_4⟩ := at_T54 HR0_4.out 0 p113 q113; cases e113; have qi113 : (0 < l0_4.length) = True := eq_true zk12; (try rw [show ((0 : Int)).toNat = 0 from rfl] at hx113_0); (try rw [show 0 * 5 = 0 from rfl] at hx113_0); (try rw [Addr.add_zero'] at hx113_0); (try rw [show ((0 : Int)).toNat = 0 from rfl] at hx113_1); (try rw [show 0 * 5 = 0 from rfl] at hx113_1); (try rw [Addr.add_zero'] at hx113_1); (try rw [show ((0 : Int)).toNat = 0 from rfl] at hx113_2); (try rw [show 0 * 5 = 0 from rfl] at hx113_2); (try rw [Addr.add_zero'] at hx113_2); (try rw [show ((0 : Int)).toNat = 0 from rfl] at hx113_3); (try rw [show 0 * 5 = 0 from rfl] at hx113_3); (try rw [Addr.add_zero'] at hx113_3); (try rw [show ((0 : Int)).toNat = 0 from rfl] at hx113_4); (try rw [show 0 * 5 = 0 from rfl] at hx113_4); (try rw [Addr.add_zero'] at hx113_4); replace hx113_0 := (HB.out.cell (World.block_lt_of_cell? w _ hx113_0)).trans hx113_0; replace hx113_1 := (HB.out.cell (World.block_lt_of_cell? w _ hx113_1)).trans hx113_1; replace hx113_2 := (HB.out.cell (World.block_lt_of_cell? w _ hx113_2)).trans hx113_2; replace hx113_3 := (HB.out.cell (World.block_lt_of_cell? w _ hx113_3)).trans hx113_3; replace hx113_4 := (HB.out.cell (World.block_lt_of_cell? w _ hx113_4)).trans hx113_4; have HR113_3 := mkA hi113_3; have HC113_3 := mkA hl113_3; clear hi113_3 hl113_3; have HR113_4 := mkA hi113_4; have HC113_4 := mkA hl113_4; clear hi113_4 hl113_4; replace p113 := eq_true p113; replace q113 := eq_true q113) | ((with_reducible refine gate_callee (f := 50) rfl ?_); refine goesL_ (some 57) rfl rfl Try.func50 zk3 rfl #[.agg #[.int .i64 ((rd_T54 l0_4 0).f0), .string ((rd_T54 l0_4 0).f1), .string ((rd_T54 l0_4 0).f2), .slice A113_3 ((rd_T54 l0_4 0).f3).length c113_3, .slice A113_4 ((rd_T54 l0_4 0).f4).length c113_4], .slice A1 l1.length c1] rfl zk5 ?_; (with_reducible refine (ih k zk12 ((rd_T54 l0_4 0).f0) ((rd_T54 l0_4 0).f1) ((rd_T54 l0_4 0).f2) _ _ ((rd_T54 l0_4 0).f3) _ _ ((rd_T54 l0_4 0).f4) _ _ l1 t114 _ ?side1 ?side2 ?side3 ?side4 ?side5 ?side6 A36.out).mono ?_); (case side1 => repeat (first | exact (Kd.C_below HR113_3.out HB.out) | (with_reducible refine Kd.C_alloc ?_ _) | (with_reducible refine Kd.C_drewN ?_ _) | (with_reducible refine Kd.C_drew ?_))); (case side2 => exact HC113_3.out); (case side3 => repeat (first | exact (Kd.C_below HR113_4.out HB.out) | (with_reducible refine Kd.C_alloc ?_ _) | (with_reducible refine Kd.C_drewN ?_ _) | (with_reducible refine Kd.C_drew ?_))); (case side4 => exact HC113_4.out); (case side5 => exact zk13); (case side6 => exact HC1.out); rintro e w41 ⟨rfl, hb⟩; refine ⟨_, rfl, ?_⟩; have n0_ := mkA (blk_below (g := gb109) (o := .cells #[.int .i64 a0_0, .string a0_1, .string a0_2, .slice A0_3 l0_3.length c0_3, .slice (some ad113) l0_4.length c0_4] 54 (0, 0)) zk17 hb); have n1_ := mkA (below_step zk8 hb); clear BK109; clear HB; have BK109 := n0_; have HB := n1_; clear n0_ n1_; (try clear hb); (try clear hb2); (try clear hk); (try clear hi)))); go_ret
        exact ⟨zk4, zk8⟩
       ·rw [if_neg c35] at H; exact absurd H zk30
      ·rw [if_neg c34] at H
       have c34b0 : (a0_0 == 7) = false := beq_eq_false_iff_ne.mpr c34; have c34b1 : (a0_0 != 7) = true := bne_iff_ne.mpr c34; have H' := mkA H; clear H; go_enter Try.func50, Try.ntmps50; (go_wp2_with (first | ((with_reducible refine gate_dst (N := 2) rfl ?_); refine box_event ?hg (N := 2) ?hd (cs := #[.int .i64 a0_0, .string a0_1, .string a0_2, .slice A0_3 l0_3.length c0_3, .slice A0_4 l0_4.length c0_4]) (t := 54) ?hr ?_; (case hd => exact zk16); (case hg => exact zk16); (case hr => exact zk9); intro gb109 hg w42 hbox hb; have n0_ := mkA (below_step zk1 hb); have n1_ := mkA (hbox); have n2_ := mkA ((by rw [hg]; exact (below_size zk1) : w.heap.size ≤ gb109)); have n3_ := mkA ((by rw [hg]; exact (below_size zk1) : w.heap.size ≤ gb109)); clear HB; have HB := n0_; have BK109 := n1_; have GW109 := n2_; have GE109 := n3_; clear n0_ n1_ n2_ n3_; clear hb hbox hg; obtain ⟨hcz43_0, hcz43_1, hcz43_2, hcz43_3, hcz43_4, hfz43_0, hfz43_1, hfz43_2, hfz43_3, hfz43_4⟩ := cf5 BK109.out) | ((with_reducible refine gate_callee (f := 42) rfl ?_); refine goesL_ (some 14) rfl rfl Try.func42 zk3 rfl #[.slice A1 l1.length c1, .string a0_1] rfl zk5 ?_; (with_reducible refine (label_Value.calls k _ _ l1 a0_1 t110 _ ?side1 ?side2 A3.out).mono ?_); (case side1 => exact zk13); (case side2 => exact HC1.out); rintro e w44 ⟨rfl, hb⟩; refine ⟨_, rfl, ?_⟩; have n0_ := mkA (blk_below (g := gb109) (o := .cells #[.int .i64 a0_0, .string a0_1, .string a0_2, .slice A0_3 l0_3.length c0_3, .slice A0_4 l0_4.length c0_4] 54 (0, 0)) zk17 hb); have n1_ := mkA (below_step zk8 hb); clear BK109; clear HB; have BK109 := n0_; have HB := n1_; clear n0_ n1_; (try clear hb); (try clear hb2); (try clear hk); (try clear hi); obtain ⟨hcz45_0, hcz45_1, hcz45_2, hcz45_3, hcz45_4, hfz45_0, hfz45_1, hfz45_2, hfz45_3, hfz45_4⟩ := cf5 BK109.out))); go_loopg [65] k (fun kq v65 w' => ∃ (x65_1 : Int), v65 = .int .i64 x65_1 ∧ Aside0 (match_eval.l1 kq l1 (a0_0 == 6) l0_4 (l0_4.length : Int) x65_1 = some r) ∧ Aside0 (kq ≤ k) ∧ Aside0 (w'.heap[gb109]? = some (.cells #[.int .i64 a0_0, .string a0_1, .string a0_2, (.slice A0_3 l0_3.length c0_3), (.slice A0_4 l0_4.length c0_4)] 54 (0, 0))) ∧ Aside0 (Below w.heap.size w w'))
       case atStart => exact ⟨(0), zk6, H', ⟨Nat.le_refl _⟩, ⟨zk17⟩, ⟨zk8⟩⟩
       case round =>
        clear H'; (try clear c1); (try clear p1); (try clear q1); (try clear hx1); (try clear qi1); (try clear c2); (try clear p2); (try clear c3); (try clear c4); (try clear c4b0); (try clear c4b1); (try clear c5); (try clear c6); (try clear p6); (try clear c9); (try clear c9b0); (try clear c9b1); (try clear c11); (try clear p11); (try clear q11); (try clear hx11); (try clear qi11); (try clear c14); (try clear c14b0); (try clear c14b1); (try clear c19); (try clear c19b0); (try clear c19b1); (try clear c25); (try clear c25b0); (try clear c25b1); (try clear c30); (try clear c30b0); (try clear c31); (try clear c31b0); (try clear c32); (try clear c32b0); (try clear c33); (try clear c33b0); (try clear c33b1); (try clear c34); (try clear c34b0); (try clear c34b1); (try clear c35); (try clear c35b0); (try clear c35b1); (try clear c42); (try clear hcz11_0); (try clear hcz11_1); (try clear hcz11_2); (try clear hcz11_3); (try clear hcz11_4); (try clear hcz13_0); (try clear hcz13_1); (try clear hcz13_2); (try clear hcz13_3); (try clear hcz13_4); (try clear hcz16_0); (try clear hcz16_1); (try clear hcz16_2); (try clear hcz16_3); (try clear hcz16_4); (try clear hcz18_0); (try clear hcz18_1); (try clear hcz18_2); (try clear hcz18_3); (try clear hcz18_4); (try clear hcz22_0); (try clear hcz22_1); (try clear hcz22_2); (try clear hcz22_3); (try clear hcz22_4); (try clear hcz24_0); (try clear hcz24_1); (try clear hcz24_2); (try clear hcz24_3); (try clear hcz24_4); (try clear hcz27_0); (try clear hcz27_1); (try clear hcz27_2); (try clear hcz27_3); (try clear hcz27_4); (try clear hcz29_0); (try clear hcz29_1); (try clear hcz29_2); (try clear hcz29_3); (try clear hcz29_4); (try clear hcz38_0); (try clear hcz38_1); (try clear hcz38_2); (try clear hcz38_3); (try clear hcz38_4); (try clear hcz40_0); (try clear hcz40_1); (try clear hcz40_2); (try clear hcz40_3); (try clear hcz40_4); (try clear hcz43_0); (try clear hcz43_1); (try clear hcz43_2); (try clear hcz43_3); (try clear hcz43_4); (try clear hcz45_0); (try clear hcz45_1); (try clear hcz45_2); (try clear hcz45_3); (try clear hcz45_4); (try clear hcz6_0); (try clear hcz6_1); (try clear hcz6_2); (try clear hcz6_3); (try clear hcz6_4); (try clear hcz8_0); (try clear hcz8_1); (try clear hcz8_2); (try clear hcz8_3); (try clear hcz8_4); (try clear hfz11_0); (try clear hfz11_1); (try clear hfz11_2); (try clear hfz11_3); (try clear hfz11_4); (try clear hfz13_0); (try clear hfz13_1); (try clear hfz13_2); (try clear hfz13_3); (try clear hfz13_4); (try clear hfz16_0); (try clear hfz16_1); (try clear hfz16_2); (try clear hfz16_3); (try clear hfz16_4); (try clear hfz18_0); (try clear hfz18_1); (try clear hfz18_2); (try clear hfz18_3); (try clear hfz18_4); (try clear hfz22_0); (try clear hfz22_1); (try clear hfz22_2); (try clear hfz22_3); (try clear hfz22_4); (try clear hfz24_0); (try clear hfz24_1); (try clear hfz24_2); (try clear hfz24_3); (try clear hfz24_4); (try clear hfz27_0); (try clear hfz27_1); (try clear hfz27_2); (try clear hfz27_3); (try clear hfz27_4); (try clear hfz29_0); (try clear hfz29_1); (try clear hfz29_2); (try clear hfz29_3); (try clear hfz29_4); (try clear hfz38_0); (try clear hfz38_1); (try clear hfz38_2); (try clear hfz38_3); (try clear hfz38_4); (try clear hfz40_0); (try clear hfz40_1); (try clear hfz40_2); (try clear hfz40_3); (try clear hfz40_4); (try clear hfz43_0); (try clear hfz43_1); (try clear hfz43_2); (try clear hfz43_3); (try clear hfz43_4); (try clear hfz45_0); (try clear hfz45_1); (try clear hfz45_2); (try clear hfz45_3); (try clear hfz45_4); (try clear hfz6_0); (try clear hfz6_1); (try clear hfz6_2); (try clear hfz6_3); (try clear hfz6_4); (try clear hfz8_0); (try clear hfz8_1); (try clear hfz8_2); (try clear hfz8_3); (try clear hfz8_4); (try clear hx112_0); (try clear hx113_0); (try clear hx113_1); (try clear hx113_2); (try clear hx113_3); (try clear hx113_4); (try clear p112); (try clear p113); (try clear p2); (try clear q112); (try clear q113); obtain ⟨x65_1, rfl, HA, HK1, BK109, HB⟩ := hrel
        cases gk with
        | zero => exact absurd HA.out (by simp [match_eval.l1])
        | succ k1 =>
         have H := HA.out; clear HA; simp only [match_eval.l1] at H; by_cases c46 : x65_1 < (l0_4.length : Int)
         ·rw [if_pos c46] at H
          have c46b0 : decide (x65_1 < (l0_4.length : Int)) = true := decide_eq_true c46; clear c46; by_cases c47 : 0 ≤ x65_1
          ·rw [if_pos c47] at H
           have c47b0 : decide (0 ≤ x65_1) = true := decide_eq_true c47; clear c47; by_cases c48 : x65_1 < (l0_4.length : Int)
           ·rw [if_pos c48] at H
            have c48b0 : decide (x65_1 < (l0_4.length : Int)) = true := decide_eq_true c48; clear c48; replace H := Option.bind_eq_some_iff.mp H; obtain ⟨t117, A490, H⟩ := H; replace H : (if (t117 == (a0_0 == 6)) = true then (some (a0_0 == 6)) else (match_eval.l1 k1 l1 (a0_0 == 6) l0_4 (l0_4.length : Int) (wrap64 (x65_1 + 1)))) = some r := H; have A49 := mkA A490; clear A490; by_cases c50 : (t117 == (a0_0 == 6)) = true
            ·rw [if_pos c50] at H
             have c50b0 : (t117 == (a0_0 == 6)) = true := c50; (try (have c50b1 : decide (t117 = (a0_0 == 6)) = true := zk90)); (try (have c50b2 : (t117 == (a0_0 == 6)) = true := zk90)); clear c50; obtain rfl := Option.some.inj H; have p115 : 0 ≤ (x65_1 : Int) := of_decide_eq_true zk2; have q115 : x65_1 < (l0_4.length : Int) := of_decide_eq_true zk2; obtain ⟨ad115, A115_3, c115_3, A115_4, c115_4, e115, hx115_0, hx115_1, hx115_2, hx115_3, hx115_4, hl115_3, hi115_3, hl115_4, hi115_4⟩ := at_T54 HR0_4.out x65_1 p115 q115; cases e115; replace hx115_0 := (HB.out.cell (World.block_lt_of_cell? w _ hx115_0)).trans hx115_0; replace hx115_1 := (HB.out.cell (World.block_lt_of_cell? w _ hx115_1)).trans hx115_1; replace hx115_2 := (HB.out.cell (World.block_lt_of_cell? w _ hx115_2)).trans hx115_2; replace hx115_3 := (HB.out.cell (World.block_lt_of_cell? w _ hx115_3)).trans hx115_3; replace hx115_4 := (HB.out.cell (World.block_lt_of_cell? w _ hx115_4)).trans hx115_4; have HR115_3 := mkA hi115_3; have HC115_3 := mkA hl115_3; clear hi115_3 hl115_3; have HR115_4 := mkA hi115_4; have HC115_4 := mkA hl115_4; clear hi115_4 hl115_4; replace p115 := eq_true p115; replace q115 := eq_true q115; (go_wp2_with (first | ((with_reducible refine gate_dst (N := 10) rfl ?_); refine box_event ?hg (N := 10) ?hd (cs := #[.int .i64 0, .string (⟨#[]⟩ : ByteArray), .string (⟨#[]⟩ : ByteArray), .slice none 0 0, .slice none 0 0]) (t := 54) ?hr ?_; (case hd => exact zk16); (case hg => exact zk16); (case hr => exact zk9); intro gb116 hg w51 hbox hb; have n0_ := mkA (blk_below (g := gb109) (o := .cells #[.int .i64 a0_0, .string a0_1, .string a0_2, .slice A0_3 l0_3.length c0_3, .slice (some ad115) l0_4.length c0_4] 54 (0, 0)) zk17 hb); have n1_ := mkA (below_step zk8 hb); have n2_ := mkA (hbox); have n3_ := mkA ((by rw [hg]; exact (below_size zk8) : w.heap.size ≤ gb116)); have n4_ := mkA ((by rw [hg]; exact (below_size zk8) : w.heap.size ≤ gb116)); have n5_ := mkA ((by rw [hg]; exact Nat.ne_of_lt (blk_lt (g := gb109) (o := .cells #[.int .i64 a0_0, .string a0_1, .string a0_2, .slice A0_3 l0_3.length c0_3, .slice (some ad115) l0_4.length c0_4] 54 (0, 0)) zk17) : gb109 ≠ gb116)); have n6_ := mkA ((by rw [hg]; exact Nat.ne_of_gt (blk_lt (g := gb109) (o := .cells #[.int .i64 a0_0, .string a0_1, .string a0_2, .slice A0_3 l0_3.length c0_3, .slice (some ad115) l0_4.length c0_4] 54 (0, 0)) zk17) : gb116 ≠ gb109)); clear BK109; clear HB; have BK109 := n0_; have HB := n1_; have BK116 := n2_; have GW116 := n3_; have GE116 := n4_; have NB109_116 := n5_; have NB116_109 := n6_; clear n0_ n1_ n2_ n3_ n4_ n5_ n6_; clear hb hbox hg; have hnb52 := NB116_109.out; have hnc52 := NB109_116.out; obtain ⟨hcz53_0, hcz53_1, hcz53_2, hcz53_3, hcz53_4, hfz53_0, hfz53_1, hfz53_2, hfz53_3, hfz53_4⟩ := cf5 BK116.out) | ((with_reducible refine gate_callee (f := 50) rfl ?_); refine goesL_ (some 71) rfl rfl Try.func50 zk3 rfl #[.agg #[.int .i64 ((rd_T54 l0_4 x65_1).f0), .string ((rd_T54 l0_4 x65_1).f1), .string ((rd_T54 l0_4 x65_1).f2), .slice A115_3 ((rd_T54 l0_4 x65_1).f3).length c115_3, .slice A115_4 ((rd_T54 l0_4 x65_1).f4).length c115_4], .slice A1 l1.length c1] rfl zk5 ?_; (with_reducible refine (ih k1 zk42 ((rd_T54 l0_4 x65_1).f0) ((rd_T54 l0_4 x65_1).f1) ((rd_T54 l0_4 x65_1).f2) _ _ ((rd_T54 l0_4 x65_1).f3) _ _ ((rd_T54 l0_4 x65_1).f4) _ _ l1 t117 _ ?side1 ?side2 ?side3 ?side4 ?side5 ?side6 A49.out).mono ?_); (case side1 => exact zk33); (case side2 => exact HC115_3.out); (case side3 => exact zk34); (case side4 => exact HC115_4.out); (case side5 => exact zk36); (case side6 => exact HC1.out); rintro e w54 ⟨rfl, hb⟩; refine ⟨_, rfl, ?_⟩; have n0_ := mkA (blk_below (g := gb109) (o := .cells #[.int .i64 a0_0, .string a0_1, .string a0_2, .slice A0_3 l0_3.length c0_3, .slice (some ad115) l0_4.length c0_4] 54 (0, 0)) zk21 hb); have n1_ := mkA (blk_below (g := gb116) (o := .cells #[.int .i64 ((rd_T54 l0_4 x65_1).f0), .string ((rd_T54 l0_4 x65_1).f1), .string ((rd_T54 l0_4 x65_1).f2), .slice A115_3 ((rd_T54 l0_4 x65_1).f3).length c115_3, .slice A115_4 ((rd_T54 l0_4 x65_1).f4).length c115_4] 54 (0, 0)) zk15 hb); have n2_ := mkA (below_step zk20 hb); clear BK109; clear BK116; clear HB; have BK109 := n0_; have BK116 := n1_; have HB := n2_; clear n0_ n1_ n2_; (try clear hb); (try clear hb2); (try clear hk); (try clear hi)))); go_ret
             exact ⟨zk4, zk20⟩
            ·rw [if_neg c50] at H
             have c50b0 : (t117 == (a0_0 == 6)) = false := zk90
             (try (have c50b1 : decide (t117 = (a0_0 == 6)) = false := zk90)); (try (have c50b2 : (t117 == (a0_0 == 6)) = false := zk90)); (try (have c50b3 : ¬ (t117 = (a0_0 == 6)) := zk90)); clear c50; have H' := mkA H; clear H; have p115 : 0 ≤ (x65_1 : Int) := of_decide_eq_true zk2; have q115 : x65_1 < (l0_4.length : Int) := of_decide_eq_true zk2; obtain ⟨ad115, A115_3, c115_3, A115_4, c115_4, e115, hx115_0, hx115_1, hx115_2, hx115_3, hx115_4, hl115_3, hi115_3, hl115_4, hi115_4⟩ := at_T54 HR0_4.out x65_1 p115 q115; cases e115; replace hx115_0 := (HB.out.cell (World.block_lt_of_cell? w _ hx115_0)).trans hx115_0; replace hx115_1 := (HB.out.cell (World.block_lt_of_cell? w _ hx115_1)).trans hx115_1; replace hx115_2 := (HB.out.cell (World.block_lt_of_cell? w _ hx115_2)).trans hx115_2; replace hx115_3 := (HB.out.cell (World.block_lt_of_cell? w _ hx115_3)).trans hx115_3; replace hx115_4 := (HB.out.cell (World.block_lt_of_cell? w _ hx115_4)).trans hx115_4; have HR115_3 := mkA hi115_3; have HC115_3 := mkA hl115_3; clear hi115_3 hl115_3; have HR115_4 := mkA hi115_4; have HC115_4 := mkA hl115_4; clear hi115_4 hl115_4; replace p115 := eq_true p115; replace q115 := eq_true q115; (go_wp2_with (first | ((with_reducible refine gate_dst (N := 10) rfl ?_); refine box_event ?hg (N := 10) ?hd (cs := #[.int .i64 0, .string (⟨#[]⟩ : ByteArray), .string (⟨#[]⟩ : ByteArray), .slice none 0 0, .slice none 0 0]) (t := 54) ?hr ?_; (case hd => exact zk16); (case hg => exact zk16); (case hr => exact zk9); intro gb116 hg w55 hbox hb; have n0_ := mkA (blk_below (g := gb109) (o := .cells #[.int .i64 a0_0, .string a0_1, .string a0_2, .slice A0_3 l0_3.length c0_3, .slice (some ad115) l0_4.length c0_4] 54 (0, 0)) zk17 hb); have n1_ := mkA (below_step zk8 hb); have n2_ := mkA (hbox); have n3_ := mkA ((by rw [hg]; exact (below_size zk8) : w.heap.size ≤ gb116)); have n4_ := mkA ((by rw [hg]; exact (below_size zk8) : w.heap.size ≤ gb116)); have n5_ := mkA ((by rw [hg]; exact Nat.ne_of_lt (blk_lt (g := gb109) (o := .cells #[.int .i64 a0_0, .string a0_1, .string a0_2, .slice A0_3 l0_3.length c0_3, .slice (some ad115) l0_4.length c0_4] 54 (0, 0)) zk17) : gb109 ≠ gb116)); have n6_ := mkA ((by rw [hg]; exact Nat.ne_of_gt (blk_lt (g := gb109) (o := .cells #[.int .i64 a0_0, .string a0_1, .string a0_2, .slice A0_3 l0_3.length c0_3, .slice (some ad115) l0_4.length c0_4] 54 (0, 0)) zk17) : gb116 ≠ gb109)); clear BK109; clear HB; have BK109 := n0_; have HB := n1_; have BK116 := n2_; have GW116 := n3_; have GE116 := n4_; have NB109_116 := n5_; have NB116_109 := n6_; clear n0_ n1_ n2_ n3_ n4_ n5_ n6_; clear hb hbox hg; have hnb56 := NB116_109.out; have hnc56 := NB109_116.out; obtain ⟨hcz57_0, hcz57_1, hcz57_2, hcz57_3, hcz57_4, hfz57_0, hfz57_1, hfz57_2, hfz57_3, hfz57_4⟩ := cf5 BK116.out) | ((with_reducible refine gate_callee (f := 50) rfl ?_); refine goesL_ (some 71) rfl rfl Try.func50 zk3 rfl #[.agg #[.int .i64 ((rd_T54 l0_4 x65_1).f0), .string ((rd_T54 l0_4 x65_1).f1), .string ((rd_T54 l0_4 x65_1).f2), .slice A115_3 ((rd_T54 l0_4 x65_1).f3).length c115_3, .slice A115_4 ((rd_T54 l0_4 x65_1).f4).length c115_4], .slice A1 l1.length c1] rfl zk5 ?_; (with_reducible refine (ih k1 zk42 ((rd_T54 l0_4 x65_1).f0) ((rd_T54 l0_4 x65_1).f1) ((rd_T54 l0_4 x65_1).f2) _ _ ((rd_T54 l0_4 x65_1).f3) _ _ ((rd_T54 l0_4 x65_1).f4) _ _ l1 t117 _ ?side1 ?side2 ?side3 ?side4 ?side5 ?side6 A49.out).mono ?_); (case side1 => exact zk33); (case side2 => exact HC115_3.out); (case side3 => exact zk34); (case side4 => exact HC115_4.out); (case side5 => exact zk36); (case side6 => exact HC1.out); rintro e w58 ⟨rfl, hb⟩; refine ⟨_, rfl, ?_⟩; have n0_ := mkA (blk_below (g := gb109) (o := .cells #[.int .i64 a0_0, .string a0_1, .string a0_2, .slice A0_3 l0_3.length c0_3, .slice (some ad115) l0_4.length c0_4] 54 (0, 0)) zk21 hb); have n1_ := mkA (blk_below (g := gb116) (o := .cells #[.int .i64 ((rd_T54 l0_4 x65_1).f0), .string ((rd_T54 l0_4 x65_1).f1), .string ((rd_T54 l0_4 x65_1).f2), .slice A115_3 ((rd_T54 l0_4 x65_1).f3).length c115_3, .slice A115_4 ((rd_T54 l0_4 x65_1).f4).length c115_4] 54 (0, 0)) zk15 hb); have n2_ := mkA (below_step zk20 hb); clear BK109; clear BK116; clear HB; have BK109 := n0_; have BK116 := n1_; have HB := n2_; clear n0_ n1_ n2_; (try clear hb); (try clear hb2); (try clear hk); (try clear hi)))); go_roundg k1
             case measure => have := HK1.out; omega
             case rel => exact ⟨(wrap64 (x65_1 + 1)), zk6, H', ⟨zk42⟩, ⟨zk17⟩, ⟨zk20⟩⟩
           ·rw [if_neg c48] at H; exact absurd H zk30
          ·rw [if_neg c47] at H; exact absurd H zk30
         ·rw [if_neg c46] at H
          have c46b0 : decide (x65_1 < (l0_4.length : Int)) = false := decide_eq_false c46; clear c46; obtain rfl := Option.some.inj H; go_wp2; go_ret
          exact ⟨zk4, zk8⟩
end Go.Proofs.Ytlkhdbfhnpbbhaa.Mx
