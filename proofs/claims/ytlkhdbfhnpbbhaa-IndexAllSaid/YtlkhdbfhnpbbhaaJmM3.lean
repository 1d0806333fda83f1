/- What the laws of this folder share, part 3: walks of functions over their Go text, and plain lemmas. Conditions: as each lemma says. -/
import Derived.WalkKit
import Derived.Test.YtlkhdbfhnpbbhaaProg
import Derived.Test.YtlkhdbfhnpbbhaaRows
import Derived.Below
import Derived.Deep.Draws
import Derived.Deep.AppendLies
import Derived.Maps.AppendAt
import Derived.OwnWalk
import Derived.Laws.BytesArg
import Derived.Laws.MakeOwn
import Derived.Laws.OwnMore
import Derived.Deep.OwnRows
import Derived.Tactics
import Derived.Lib.ConvBytes
import Derived.Laws.Slices
import Derived.KernelRfl
import Derived.RowKit3
import Derived.Deep.LoopGhost
import Derived.Deep.QuietTactic
import Derived.BigQuiet
import Derived.WideLaws
import Derived.Deep.DeepCutAuto
import Derived.Deep.CutBlock
import Derived.Deep.RegionHeld3
import Derived.Laws.Rows
import Derived.Lib.AppendStr
import Derived.ArgAppend
import Derived.Laws.IdiomCopy
import Derived.OrdersHeld
import Derived.Laws.BitsLemmas
import Derived.RowKit
import Derived.RangeFuncNested
import Derived.RangeFuncBound
import Derived.RangeFuncCalls
import Derived.RangeFuncLeaves
import Derived.LoopNIn
import Derived.Scope
import Derived.Shelf.Abstract
import Derived.Shelf.RegionOpen
import Derived.OwnWalkIn
import Derived.TacticsInMore
import Derived.LoopIn
import Derived.OneCell
import Derived.Lib.Hide
import Derived.RangeFuncBox
import Derived.Maps.OwnSet
import Derived.Maps.OwnOps
import Derived.Maps.Views
import Derived.StringKeys
import Derived.WalkMore
import Derived.Test.YtlkhdbfhnpbbhaaJmM2
namespace Go.Proofs.Ytlkhdbfhnpbbhaa.Ix
open Go.RowKit Go.Proofs.YtlkhdbfhnpbbhaaW.PrintWords Go.Proofs.YtlkhdbfhnpbbhaaW.PrintLast Go.Proofs.YtlkhdbfhnpbbhaaW.PrintMore
attribute [local go_sem] max2_int min2_int max_two min_two max_three min_three max_four min_four
set_option linter.unusedVariables false
set_option linter.unusedSimpArgs false
attribute [local go_sem high] eqA41
def varveref11_Value.l0 : Nat → List (S41) → ByteArray → Int → Option (ByteArray)
  | 0, _, _, _ => none
  | k + 1, x0, x1, x5 => if x5 < (x0.length : Int) then (if 0 ≤ x5 then (if ((rd_T41 x0 x5).f0).toList = x1.toList then (some ((rd_T41 x0 x5).f1)) else (varveref11_Value.l0 k x0 x1 (wrap64 (x5 + 1)))) else (none)) else (some (⟨#[]⟩ : ByteArray))
def varveref11_Value.f (k : Nat) (l0 : List (S41)) (a1 : ByteArray) : Option (ByteArray) := varveref11_Value.l0 k l0 a1 0
theorem varveref11_Value.mono_l : ∀ k, (∀ y0 y1 y2, LeO (varveref11_Value.l0 k y0 y1 y2) (varveref11_Value.l0 (k + 1) y0 y1 y2))
  | 0 => fun _ _ _ r h => by simp [varveref11_Value.l0] at h
  | k + 1 => by
    have ih0 := varveref11_Value.mono_l k
    · intro y0 y1 y2
      unfold varveref11_Value.l0
      repeat' first
      | (with_reducible exact ih0 _ _ _)
      | (with_reducible exact LeO.refl _)
      | (with_reducible exact LeO.none _)
      | (with_reducible refine LeO.ite ?_ ?_)
      | (with_reducible refine LeO.bind ?_ (fun _ => ?_))
      | exact ih0 _ _ _
      | exact LeO.none _
      | refine LeO.ite ?_ ?_
      | refine LeO.bind ?_ (fun _ => ?_)
theorem varveref11_Value.mono : ∀ a0 a1 k, LeO (varveref11_Value.f k a0 a1) (varveref11_Value.f (k + 1) a0 a1) := by
  intro a0 a1 k
  have ih0 := varveref11_Value.mono_l k
  unfold varveref11_Value.f
  repeat' first
      | (with_reducible exact ih0 _ _ _)
      | (with_reducible exact LeO.refl _)
      | (with_reducible exact LeO.none _)
      | (with_reducible refine LeO.ite ?_ ?_)
      | (with_reducible refine LeO.bind ?_ (fun _ => ?_))
      | exact ih0 _ _ _
      | exact LeO.none _
      | refine LeO.ite ?_ ?_
      | refine LeO.bind ?_ (fun _ => ?_)
def varvelaw00_SameInts.l0 : Nat → List Int → List Int → Int → Option (Bool)
  | 0, _, _, _ => none
  | k + 1, x0, x1, x5 => if x5 < (x0.length : Int) then (if 0 ≤ x5 then (if x5 < (x1.length : Int) then (if (rd x0 x5) = (rd x1 x5) then (varvelaw00_SameInts.l0 k x0 x1 (wrap64 (x5 + 1))) else (some false)) else (none)) else (none)) else (some true)
def varvelaw00_SameInts.f (k : Nat) (l0 : List Int) (l1 : List Int) : Option (Bool) := if (l0.length : Int) = (l1.length : Int) then (varvelaw00_SameInts.l0 k l0 l1 0) else (some false)
theorem varvelaw00_SameInts.mono_l : ∀ k, (∀ y0 y1 y2, LeO (varvelaw00_SameInts.l0 k y0 y1 y2) (varvelaw00_SameInts.l0 (k + 1) y0 y1 y2))
  | 0 => fun _ _ _ r h => by simp [varvelaw00_SameInts.l0] at h
  | k + 1 => by
    have ih0 := varvelaw00_SameInts.mono_l k
    · intro y0 y1 y2
      unfold varvelaw00_SameInts.l0
      repeat' first
      | (with_reducible exact ih0 _ _ _)
      | (with_reducible exact LeO.refl _)
      | (with_reducible exact LeO.none _)
      | (with_reducible refine LeO.ite ?_ ?_)
      | (with_reducible refine LeO.bind ?_ (fun _ => ?_))
      | exact ih0 _ _ _
      | exact LeO.none _
      | refine LeO.ite ?_ ?_
      | refine LeO.bind ?_ (fun _ => ?_)
theorem varvelaw00_SameInts.mono : ∀ a0 a1 k, LeO (varvelaw00_SameInts.f k a0 a1) (varvelaw00_SameInts.f (k + 1) a0 a1) := by
  intro a0 a1 k
  have ih0 := varvelaw00_SameInts.mono_l k
  unfold varvelaw00_SameInts.f
  repeat' first
      | (with_reducible exact ih0 _ _ _)
      | (with_reducible exact LeO.refl _)
      | (with_reducible exact LeO.none _)
      | (with_reducible refine LeO.ite ?_ ?_)
      | (with_reducible refine LeO.bind ?_ (fun _ => ?_))
      | exact ih0 _ _ _
      | exact LeO.none _
      | refine LeO.ite ?_ ?_
      | refine LeO.bind ?_ (fun _ => ?_)
set_option maxHeartbeats 8000000 in
set_option maxRecDepth 100000 in
theorem varvelaw00_SameInts.calls (k : Nat) (A0 : Option Addr) (c0 : Nat) (l0 : List Int) (A1 : Option Addr) (c1 : Nat) (l1 : List Int) (r : Bool) (w : World) (hr0 : Kd.C (Kd.int .i64) w A0 l0.length l0) (hc0 : l0.length ≤ c0) (hr1 : Kd.C (Kd.int .i64) w A1 l1.length l1) (hc1 : l1.length ≤ c1) (h : varvelaw00_SameInts.f k l0 l1 = some r) :
    Calls Try.prog 17 #[.slice A0 l0.length c0, .slice A1 l1.length c1] w fun e w' => e = .returned (.bool r) ∧ Drawn0 w w' := by
  have HR0 := Aside0.mk hr0
  have HC0 := Aside0.mk hc0
  clear hr0 hc0
  have HR1 := Aside0.mk hr1
  have HC1 := Aside0.mk hc1
  clear hr1 hc1
  have H : (if (l0.length : Int) = (l1.length : Int) then (varvelaw00_SameInts.l0 k l0 l1 0) else (some false)) = some r := h
  clear h
  by_cases c3 : (l0.length : Int) = (l1.length : Int)
  · rw [if_pos c3] at H
    have c3b0 : ((l0.length : Int) == (l1.length : Int)) = true := beq_iff_eq.mpr c3
    have c3b1 : ((l0.length : Int) != (l1.length : Int)) = false := bne_eq_false_iff_eq.mpr c3
    have c3b2 : (l0.length == l1.length) = true := by first | simpa using c3 | (simp at c3 ⊢; omega)
    clear c3
    have H' := Aside0.mk H
    clear H
    go_enter Try.func17, Try.ntmps17
    go_wp2
    repeat (go_quiet (fail); try go_wp2)
    go_loopg [5] k (fun kq v5 w' => ∃ (x5_1 : Int), v5 = .int .i64 x5_1 ∧ Aside0 (varvelaw00_SameInts.l0 kq l0 l1 x5_1 = some r) ∧ Aside0 (kq ≤ k) ∧ Drawn0 w w')
    case atStart => exact ⟨(0), (by first | rfl | (simp; done) | (simp [*]; done)), H', ⟨Nat.le_refl _⟩, by repeat (first | exact Drawn0.refl _ | apply Drawn0.step)⟩
    case round =>
      clear H'
      try clear c1
      try clear p2
      try clear c3
      try clear c3b0
      try clear c3b1
      try clear c3b2
      obtain ⟨x5_1, rfl, HA, HK1, ⟨m1, rfl⟩⟩ := hrel
      cases gk with
      | zero => exact absurd HA.out (by simp [varvelaw00_SameInts.l0])
      | succ k1 =>
        have H := HA.out
        clear HA
        simp only [varvelaw00_SameInts.l0] at H
        by_cases c4 : x5_1 < (l0.length : Int)
        · rw [if_pos c4] at H
          have c4b0 : decide (x5_1 < (l0.length : Int)) = true := decide_eq_true c4
          clear c4
          by_cases c5 : 0 ≤ x5_1
          · rw [if_pos c5] at H
            have c5b0 : decide (0 ≤ x5_1) = true := decide_eq_true c5
            clear c5
            by_cases c6 : x5_1 < (l1.length : Int)
            · rw [if_pos c6] at H
              have c6b0 : decide (x5_1 < (l1.length : Int)) = true := decide_eq_true c6
              clear c6
              by_cases c7 : (rd l0 x5_1) = (rd l1 x5_1)
              · rw [if_pos c7] at H
                have c7b0 : ((rd l0 x5_1) == (rd l1 x5_1)) = true := beq_iff_eq.mpr c7
                have c7b1 : ((rd l0 x5_1) != (rd l1 x5_1)) = false := bne_eq_false_iff_eq.mpr c7
                clear c7
                have H' := Aside0.mk H
                clear H
                have p148 : 0 ≤ (x5_1 : Int) := of_decide_eq_true (by first | (with_reducible assumption) | assumption)
                have q148 : x5_1 < (l0.length : Int) := of_decide_eq_true (by first | (with_reducible assumption) | assumption)
                obtain ⟨ad148, e148, hx148_0⟩ := Kd.at_int HR0.out x5_1 p148 q148
                cases e148
                replace p148 := eq_true p148
                replace q148 := eq_true q148
                have p149 : 0 ≤ (x5_1 : Int) := of_decide_eq_true (by first | (with_reducible assumption) | assumption)
                have q149 : x5_1 < (l1.length : Int) := of_decide_eq_true (by first | (with_reducible assumption) | assumption)
                obtain ⟨ad149, e149, hx149_0⟩ := Kd.at_int HR1.out x5_1 p149 q149
                cases e149
                replace p149 := eq_true p149
                replace q149 := eq_true q149
                go_wp2
                repeat (go_quiet (fail); try go_wp2)
                go_roundg k1
                case measure => have := HK1.out; omega
                case rel => exact ⟨(wrap64 (x5_1 + 1)), (by first | rfl | (simp; done) | (simp [*]; done)), H', ⟨by have := HK1.out; omega⟩, by repeat (first | exact Drawn0.refl _ | apply Drawn0.step)⟩
              · rw [if_neg c7] at H
                have c7b0 : ((rd l0 x5_1) == (rd l1 x5_1)) = false := beq_eq_false_iff_ne.mpr c7
                have c7b1 : ((rd l0 x5_1) != (rd l1 x5_1)) = true := bne_iff_ne.mpr c7
                obtain rfl := Option.some.inj H
                have p148 : 0 ≤ (x5_1 : Int) := of_decide_eq_true (by first | (with_reducible assumption) | assumption)
                have q148 : x5_1 < (l0.length : Int) := of_decide_eq_true (by first | (with_reducible assumption) | assumption)
                obtain ⟨ad148, e148, hx148_0⟩ := Kd.at_int HR0.out x5_1 p148 q148
                cases e148
                replace p148 := eq_true p148
                replace q148 := eq_true q148
                have p149 : 0 ≤ (x5_1 : Int) := of_decide_eq_true (by first | (with_reducible assumption) | assumption)
                have q149 : x5_1 < (l1.length : Int) := of_decide_eq_true (by first | (with_reducible assumption) | assumption)
                obtain ⟨ad149, e149, hx149_0⟩ := Kd.at_int HR1.out x5_1 p149 q149
                cases e149
                replace p149 := eq_true p149
                replace q149 := eq_true q149
                go_wp2
                repeat (go_quiet (fail); try go_wp2)
                go_ret
                exact ⟨by first | rfl | (simp; done) | (simp [*]; done), by repeat (first | exact Drawn0.refl _ | apply Drawn0.step)⟩
            · rw [if_neg c6] at H
              exact absurd H (by simp)
          · rw [if_neg c5] at H
            exact absurd H (by simp)
        · rw [if_neg c4] at H
          have c4b0 : decide (x5_1 < (l0.length : Int)) = false := decide_eq_false c4
          clear c4
          obtain rfl := Option.some.inj H
          go_wp2
          repeat (go_quiet (fail); try go_wp2)
          go_ret
          exact ⟨by first | rfl | (simp; done) | (simp [*]; done), by repeat (first | exact Drawn0.refl _ | apply Drawn0.step)⟩
  · rw [if_neg c3] at H
    have c3b0 : ((l0.length : Int) == (l1.length : Int)) = false := beq_eq_false_iff_ne.mpr c3
    have c3b1 : ((l0.length : Int) != (l1.length : Int)) = true := bne_iff_ne.mpr c3
    have c3b2 : (l0.length == l1.length) = false := by first | simpa using c3 | (simp at c3 ⊢; omega)
    obtain rfl := Option.some.inj H
    go_enter Try.func17, Try.ntmps17
    go_wp2
    repeat (go_quiet (fail); try go_wp2)
    go_ret
    exact ⟨by first | rfl | (simp; done) | (simp [*]; done), by repeat (first | exact Drawn0.refl _ | apply Drawn0.step)⟩
/-- THE ONE PURE STATEMENT of varvelaw00_SameInts: yours. -/
def varvelaw00_SameInts.Pure : Prop := ∀ (l0 : List Int) (l1 : List Int), l0.length ≤ maxLen → l0.length * 8 ≤ 140737488351232 → (∀ x ∈ l0, (Lit.int .i64 x).wf = true) → l1.length ≤ maxLen → l1.length * 8 ≤ 140737488351232 → (∀ x ∈ l1, (Lit.int .i64 x).wf = true) → ∃ k, varvelaw00_SameInts.f k l0 l1 = some true
theorem varvelaw00_SameInts.walk (P : varvelaw00_SameInts.Pure) (a0 : Option Addr) (len0 cap0 : Nat) (z0 : List Int) (a1 : Option Addr) (len1 cap1 : Nat) (z1 : List Int) (w : World) (w0 : (a0 = none ∧ len0 = 0 ∧ cap0 = 0 ∧ z0 = []) ∨ ∃ x, a0 = some x ∧ len0 ≤ cap0 ∧ cap0 ≤ maxLen ∧ z0.length = cap0 ∧ (∀ i, i < z0.length → w.cell? (x.add i) = some (.int .i64 (z0.getD i 0))) ∧ ∀ n ∈ z0, (Lit.int .i64 n).wf = true) (y0 : len0 * 8 ≤ 140737488351232) (w1 : (a1 = none ∧ len1 = 0 ∧ cap1 = 0 ∧ z1 = []) ∨ ∃ x, a1 = some x ∧ len1 ≤ cap1 ∧ cap1 ≤ maxLen ∧ z1.length = cap1 ∧ (∀ i, i < z1.length → w.cell? (x.add i) = some (.int .i64 (z1.getD i 0))) ∧ ∀ n ∈ z1, (Lit.int .i64 n).wf = true) (y1 : len1 * 8 ≤ 140737488351232) :
    Calls Try.prog 17 #[.slice a0 len0 cap0, .slice a1 len1 cap1] w fun e w' => e = .returned (.bool true) ∧ Below w.heap.size w w' := by
  obtain ⟨l0, rfl, hr0, hm0, hw0, hc0⟩ := ReadsInt.ofRowC w0
  obtain ⟨l1, rfl, hr1, hm1, hw1, hc1⟩ := ReadsInt.ofRowC w1
  obtain ⟨k, h⟩ := P l0 l1 hm0 y0 hw0 hm1 y1 hw1
  refine (varvelaw00_SameInts.calls k _ _ l0 _ _ l1 true w (Kd.C_of_reads (d := (0 : Int)) (h1 := fun _ => rfl) hr0) hc0 (Kd.C_of_reads (d := (0 : Int)) (h1 := fun _ => rfl) hr1) hc1 h).mono ?_
  rintro e w' ⟨rfl, hd⟩
  exact ⟨rfl, hd.below⟩
def varvelaw00_SameLabels.l0 : Nat → List (S41) → List (S41) → Int → Option (Bool)
  | 0, _, _, _ => none
  | k + 1, x0, x1, x5 => if x5 < (x0.length : Int) then (if 0 ≤ x5 then (if x5 < (x1.length : Int) then (if (!((((rd_T41 x0 x5).f0).toList) == (((rd_T41 x1 x5).f0).toList)) || (!((((rd_T41 x0 x5).f1).toList) == (((rd_T41 x1 x5).f1).toList)))) = true then (some false) else (varvelaw00_SameLabels.l0 k x0 x1 (wrap64 (x5 + 1)))) else (none)) else (none)) else (some true)
def varvelaw00_SameLabels.f (k : Nat) (l0 : List (S41)) (l1 : List (S41)) : Option (Bool) := if (l0.length : Int) = (l1.length : Int) then (varvelaw00_SameLabels.l0 k l0 l1 0) else (some false)
theorem varvelaw00_SameLabels.mono_l : ∀ k, (∀ y0 y1 y2, LeO (varvelaw00_SameLabels.l0 k y0 y1 y2) (varvelaw00_SameLabels.l0 (k + 1) y0 y1 y2))
  | 0 => fun _ _ _ r h => by simp [varvelaw00_SameLabels.l0] at h
  | k + 1 => by
    have ih0 := varvelaw00_SameLabels.mono_l k
    · intro y0 y1 y2
      unfold varvelaw00_SameLabels.l0
      repeat' first
      | (with_reducible exact ih0 _ _ _)
      | (with_reducible exact LeO.refl _)
      | (with_reducible exact LeO.none _)
      | (with_reducible refine LeO.ite ?_ ?_)
      | (with_reducible refine LeO.bind ?_ (fun _ => ?_))
      | exact ih0 _ _ _
      | exact LeO.none _
      | refine LeO.ite ?_ ?_
      | refine LeO.bind ?_ (fun _ => ?_)
theorem varvelaw00_SameLabels.mono : ∀ a0 a1 k, LeO (varvelaw00_SameLabels.f k a0 a1) (varvelaw00_SameLabels.f (k + 1) a0 a1) := by
  intro a0 a1 k
  have ih0 := varvelaw00_SameLabels.mono_l k
  unfold varvelaw00_SameLabels.f
  repeat' first
      | (with_reducible exact ih0 _ _ _)
      | (with_reducible exact LeO.refl _)
      | (with_reducible exact LeO.none _)
      | (with_reducible refine LeO.ite ?_ ?_)
      | (with_reducible refine LeO.bind ?_ (fun _ => ?_))
      | exact ih0 _ _ _
      | exact LeO.none _
      | refine LeO.ite ?_ ?_
      | refine LeO.bind ?_ (fun _ => ?_)
set_option maxHeartbeats 8000000 in
set_option maxRecDepth 100000 in
theorem varvelaw00_SameLabels.calls (k : Nat) (A0 : Option Addr) (c0 : Nat) (l0 : List (S41)) (A1 : Option Addr) (c1 : Nat) (l1 : List (S41)) (r : Bool) (w : World) (hr0 : Kd.C k41 w A0 l0.length l0) (hc0 : l0.length ≤ c0) (hr1 : Kd.C k41 w A1 l1.length l1) (hc1 : l1.length ≤ c1) (h : varvelaw00_SameLabels.f k l0 l1 = some r) :
    Calls Try.prog 16 #[.slice A0 l0.length c0, .slice A1 l1.length c1] w fun e w' => e = .returned (.bool r) ∧ Drawn0 w w' := by
  have hu41 := Try.underlying41
  have HR0 := Aside0.mk hr0
  have HC0 := Aside0.mk hc0
  clear hr0 hc0
  have HR1 := Aside0.mk hr1
  have HC1 := Aside0.mk hc1
  clear hr1 hc1
  have H : (if (l0.length : Int) = (l1.length : Int) then (varvelaw00_SameLabels.l0 k l0 l1 0) else (some false)) = some r := h
  clear h
  by_cases c3 : (l0.length : Int) = (l1.length : Int)
  · rw [if_pos c3] at H
    have c3b0 : ((l0.length : Int) == (l1.length : Int)) = true := beq_iff_eq.mpr c3
    have c3b1 : ((l0.length : Int) != (l1.length : Int)) = false := bne_eq_false_iff_eq.mpr c3
    have c3b2 : (l0.length == l1.length) = true := by first | simpa using c3 | (simp at c3 ⊢; omega)
    clear c3
    have H' := Aside0.mk H
    clear H
    go_enter Try.func16, Try.ntmps16
    go_wp2
    repeat (go_quiet (fail); try go_wp2)
    go_loopg [5] k (fun kq v5 w' => ∃ (x5_1 : Int), v5 = .int .i64 x5_1 ∧ Aside0 (varvelaw00_SameLabels.l0 kq l0 l1 x5_1 = some r) ∧ Aside0 (kq ≤ k) ∧ Drawn0 w w')
    case atStart => exact ⟨(0), (by first | rfl | (simp; done) | (simp [*]; done)), H', ⟨Nat.le_refl _⟩, by repeat (first | exact Drawn0.refl _ | apply Drawn0.step)⟩
    case round =>
      clear H'
      try clear c1
      try clear p2
      try clear c3
      try clear c3b0
      try clear c3b1
      try clear c3b2
      obtain ⟨x5_1, rfl, HA, HK1, ⟨m1, rfl⟩⟩ := hrel
      cases gk with
      | zero => exact absurd HA.out (by simp [varvelaw00_SameLabels.l0])
      | succ k1 =>
        have H := HA.out
        clear HA
        simp only [varvelaw00_SameLabels.l0] at H
        by_cases c4 : x5_1 < (l0.length : Int)
        · rw [if_pos c4] at H
          have c4b0 : decide (x5_1 < (l0.length : Int)) = true := decide_eq_true c4
          clear c4
          by_cases c5 : 0 ≤ x5_1
          · rw [if_pos c5] at H
            have c5b0 : decide (0 ≤ x5_1) = true := decide_eq_true c5
            clear c5
            by_cases c6 : x5_1 < (l1.length : Int)
            · rw [if_pos c6] at H
              have c6b0 : decide (x5_1 < (l1.length : Int)) = true := decide_eq_true c6
              clear c6
              by_cases c7 : (!((((rd_T41 l0 x5_1).f0).toList) == (((rd_T41 l1 x5_1).f0).toList)) || (!((((rd_T41 l0 x5_1).f1).toList) == (((rd_T41 l1 x5_1).f1).toList)))) = true
              · rw [if_pos c7] at H
                have c7b0 : (!((((rd_T41 l0 x5_1).f0).toList) == (((rd_T41 l1 x5_1).f0).toList)) || (!((((rd_T41 l0 x5_1).f1).toList) == (((rd_T41 l1 x5_1).f1).toList)))) = true := c7
                clear c7
                obtain rfl := Option.some.inj H
                have p150 : 0 ≤ (x5_1 : Int) := of_decide_eq_true (by first | (with_reducible assumption) | assumption)
                have q150 : x5_1 < (l0.length : Int) := of_decide_eq_true (by first | (with_reducible assumption) | assumption)
                obtain ⟨ad150, e150, hx150_0, hx150_1⟩ := at_T41 HR0.out x5_1 p150 q150
                cases e150
                replace p150 := eq_true p150
                replace q150 := eq_true q150
                have p151 : 0 ≤ (x5_1 : Int) := of_decide_eq_true (by first | (with_reducible assumption) | assumption)
                have q151 : x5_1 < (l1.length : Int) := of_decide_eq_true (by first | (with_reducible assumption) | assumption)
                obtain ⟨ad151, e151, hx151_0, hx151_1⟩ := at_T41 HR1.out x5_1 p151 q151
                cases e151
                replace p151 := eq_true p151
                replace q151 := eq_true q151
                go_wp2
                repeat (go_quiet (fail); try go_wp2)
                go_ret
                exact ⟨by first | rfl | (simp; done) | (simp [*]; done), by repeat (first | exact Drawn0.refl _ | apply Drawn0.step)⟩
              · rw [if_neg c7] at H
                have c7b0 : (!((((rd_T41 l0 x5_1).f0).toList) == (((rd_T41 l1 x5_1).f0).toList)) || (!((((rd_T41 l0 x5_1).f1).toList) == (((rd_T41 l1 x5_1).f1).toList)))) = false := by simpa using c7
                clear c7
                have H' := Aside0.mk H
                clear H
                have p150 : 0 ≤ (x5_1 : Int) := of_decide_eq_true (by first | (with_reducible assumption) | assumption)
                have q150 : x5_1 < (l0.length : Int) := of_decide_eq_true (by first | (with_reducible assumption) | assumption)
                obtain ⟨ad150, e150, hx150_0, hx150_1⟩ := at_T41 HR0.out x5_1 p150 q150
                cases e150
                replace p150 := eq_true p150
                replace q150 := eq_true q150
                have p151 : 0 ≤ (x5_1 : Int) := of_decide_eq_true (by first | (with_reducible assumption) | assumption)
                have q151 : x5_1 < (l1.length : Int) := of_decide_eq_true (by first | (with_reducible assumption) | assumption)
                obtain ⟨ad151, e151, hx151_0, hx151_1⟩ := at_T41 HR1.out x5_1 p151 q151
                cases e151
                replace p151 := eq_true p151
                replace q151 := eq_true q151
                go_wp2
                repeat (go_quiet (fail); try go_wp2)
                go_roundg k1
                case measure => have := HK1.out; omega
                case rel => exact ⟨(wrap64 (x5_1 + 1)), (by first | rfl | (simp; done) | (simp [*]; done)), H', ⟨by have := HK1.out; omega⟩, by repeat (first | exact Drawn0.refl _ | apply Drawn0.step)⟩
            · rw [if_neg c6] at H
              exact absurd H (by simp)
          · rw [if_neg c5] at H
            exact absurd H (by simp)
        · rw [if_neg c4] at H
          have c4b0 : decide (x5_1 < (l0.length : Int)) = false := decide_eq_false c4
          clear c4
          obtain rfl := Option.some.inj H
          go_wp2
          repeat (go_quiet (fail); try go_wp2)
          go_ret
          exact ⟨by first | rfl | (simp; done) | (simp [*]; done), by repeat (first | exact Drawn0.refl _ | apply Drawn0.step)⟩
  · rw [if_neg c3] at H
    have c3b0 : ((l0.length : Int) == (l1.length : Int)) = false := beq_eq_false_iff_ne.mpr c3
    have c3b1 : ((l0.length : Int) != (l1.length : Int)) = true := bne_iff_ne.mpr c3
    have c3b2 : (l0.length == l1.length) = false := by first | simpa using c3 | (simp at c3 ⊢; omega)
    obtain rfl := Option.some.inj H
    go_enter Try.func16, Try.ntmps16
    go_wp2
    repeat (go_quiet (fail); try go_wp2)
    go_ret
    exact ⟨by first | rfl | (simp; done) | (simp [*]; done), by repeat (first | exact Drawn0.refl _ | apply Drawn0.step)⟩
def varvelaw00_Place.f (a0 : Int) (a1 : Int) : Option (Int) := if a1 = 0 then (none) else (if (Int.tmod a0 a1) < 0 then (some (wrap64 ((Int.tmod a0 a1) + a1))) else (some (Int.tmod a0 a1)))
def varvelaw00_Labels.f (l0 : List (S41)) : Option ((List (S41))) := if ([] : List (S41)).length + l0.length < 4398046511104 then (some (([] : List (S41)) ++ l0)) else (none)
set_option maxHeartbeats 8000000 in
set_option maxRecDepth 100000 in
theorem varvelaw00_Labels.calls (A0 : Option Addr) (c0 : Nat) (l0 : List (S41)) (r : List (S41)) (w : World) (hr0 : Kd.C k41 w A0 l0.length l0) (hc0 : l0.length ≤ c0) (h : varvelaw00_Labels.f l0 = some r) :
    Calls Try.prog 12 #[.slice A0 l0.length c0] w fun e w' => ∃ v0_ : Value, e = .returned (v0_) ∧ Kd.R k41 41 w' w.heap.size (fun _ => True) v0_ r ∧ Below w.heap.size w w' := by
  have HR0 := Aside0.mk hr0
  have HC0 := Aside0.mk hc0
  clear hr0 hc0
  have HB := Aside0.mk (Below.refl w.heap.size w)
  have H : (if ([] : List (S41)).length + l0.length < 4398046511104 then (some (([] : List (S41)) ++ l0)) else (none)) = some r := h
  clear h
  by_cases c2 : ([] : List (S41)).length + l0.length < 4398046511104
  · rw [if_pos c2] at H
    have LMc2 := Aside0.mk c2
    clear c2
    obtain ⟨y152, hy152⟩ : ∃ y_ : List (S41), y_ = (([] : List (S41)) ++ l0) := ⟨_, rfl⟩
    replace H : (some y152) = some r := by first | (rw [hy152]; with_reducible exact H) | (have H2_ := (Option.bind_some _ _).symm.trans H; rw [hy152]; with_reducible exact H2_) | (have H2_ := (Option.bind_some _ _).symm.trans H; with_reducible exact H2_) | with_reducible exact H | (rw [hy152]; exact H) | exact H
    have Ny152 := Aside0.mk hy152
    clear hy152
    obtain rfl := Option.some.inj H
    go_enter Try.func12, Try.ntmps12
    go_wp2_with (first | ((with_reducible refine gate_builtin (b := .append) (xs := #[.const (.slice none 0 0), .tmp 3]) rfl ?_); at_builtin; refine Kd.R_append_rows k41 (w0 := w) w.heap.size rfl (.const (.slice none 0 0)) (.tmp 3) 23 41 (.agg #[(.string ⟨#[]⟩), (.string ⟨#[]⟩)]) 32 rfl Try.underlying23 info41 rfl (by decide) (by omega) (.slice none 0 0) ([] : List (S41)) l0 _ _ _ (fun _ => True) (fun _ => False) rfl rfl ?aO ?aR (fun _ _ h => h) (fun _ h => h.elim) ?aF ?aB ?aS ?aL ?_; (case aR => repeat (first | exact HR0.out | (with_reducible refine Kd.C_alloc ?_ _) | (with_reducible refine Kd.C_drewN ?_ _) | (with_reducible refine Kd.C_drew ?_))); (case aB => exact (by repeat (first | (with_reducible first | exact HB.out | apply below_alloc | apply pw_below_drewN | apply below_drew1) | exact HB.out))); (case aF => exact (fun _ _ => trivial)); (case aO => exact ((Kd.R_nil _ _ _ _ (fun _ => True)))); (case aS => exact (below_size (by repeat (first | (with_reducible first | exact HB.out | apply below_alloc | apply pw_below_drewN | apply below_drew1) | exact HB.out)))); (case aL => have := LMc2.out; omega); intro v153 w3 ho hb hg hat; rw [← Ny152.out] at ho; have n0_ := Aside0.mk (hb); have n1_ := Aside0.mk (ho); clear HB; have HB := n0_; have HO154 := n1_; clear n0_ n1_; clear ho hb hg hat))
    go_ret
    exact ⟨_, by first | rfl | (simp [errW_none, errW_some] <;> rfl) | (simp [*, errW_none, errW_some] <;> rfl), by (with_reducible repeat (first | apply Kd.R_alloc | apply Kd.R_drewN | apply Kd.R_drew)); exact HO154.out, by repeat (first | (with_reducible first | exact HB.out | apply below_alloc | apply pw_below_drewN | apply below_drew1) | exact HB.out)⟩
  · rw [if_neg c2] at H
    exact absurd H (by simp)
def api_Label.f (l0 : List (S41)) : Option ((List (S41))) := if ([] : List (S41)).length + l0.length < 4398046511104 then (some (([] : List (S41)) ++ l0)) else (none)
set_option maxHeartbeats 8000000 in
set_option maxRecDepth 100000 in
theorem api_Label.calls (A0 : Option Addr) (c0 : Nat) (l0 : List (S41)) (r : List (S41)) (w : World) (hr0 : Kd.C k41 w A0 l0.length l0) (hc0 : l0.length ≤ c0) (h : api_Label.f l0 = some r) :
    Calls Try.prog 39 #[.slice A0 l0.length c0] w fun e w' => ∃ v0_ : Value, e = .returned (v0_) ∧ Kd.R k41 41 w' w.heap.size (fun _ => True) v0_ r ∧ Below w.heap.size w w' := by
  have HR0 := Aside0.mk hr0
  have HC0 := Aside0.mk hc0
  clear hr0 hc0
  have HB := Aside0.mk (Below.refl w.heap.size w)
  have H : (if ([] : List (S41)).length + l0.length < 4398046511104 then (some (([] : List (S41)) ++ l0)) else (none)) = some r := h
  clear h
  by_cases c2 : ([] : List (S41)).length + l0.length < 4398046511104
  · rw [if_pos c2] at H
    have LMc2 := Aside0.mk c2
    clear c2
    obtain ⟨y155, hy155⟩ : ∃ y_ : List (S41), y_ = (([] : List (S41)) ++ l0) := ⟨_, rfl⟩
    replace H : (some y155) = some r := by first | (rw [hy155]; with_reducible exact H) | (have H2_ := (Option.bind_some _ _).symm.trans H; rw [hy155]; with_reducible exact H2_) | (have H2_ := (Option.bind_some _ _).symm.trans H; with_reducible exact H2_) | with_reducible exact H | (rw [hy155]; exact H) | exact H
    have Ny155 := Aside0.mk hy155
    clear hy155
    obtain rfl := Option.some.inj H
    go_enter Try.func39, Try.ntmps39
    go_wp2_with (first | ((with_reducible refine gate_builtin (b := .append) (xs := #[.const (.slice none 0 0), .tmp 3]) rfl ?_); at_builtin; refine Kd.R_append_rows k41 (w0 := w) w.heap.size rfl (.const (.slice none 0 0)) (.tmp 3) 23 41 (.agg #[(.string ⟨#[]⟩), (.string ⟨#[]⟩)]) 32 rfl Try.underlying23 info41 rfl (by decide) (by omega) (.slice none 0 0) ([] : List (S41)) l0 _ _ _ (fun _ => True) (fun _ => False) rfl rfl ?aO ?aR (fun _ _ h => h) (fun _ h => h.elim) ?aF ?aB ?aS ?aL ?_; (case aR => repeat (first | exact HR0.out | (with_reducible refine Kd.C_alloc ?_ _) | (with_reducible refine Kd.C_drewN ?_ _) | (with_reducible refine Kd.C_drew ?_))); (case aB => exact (by repeat (first | (with_reducible first | exact HB.out | apply below_alloc | apply pw_below_drewN | apply below_drew1) | exact HB.out))); (case aF => exact (fun _ _ => trivial)); (case aO => exact ((Kd.R_nil _ _ _ _ (fun _ => True)))); (case aS => exact (below_size (by repeat (first | (with_reducible first | exact HB.out | apply below_alloc | apply pw_below_drewN | apply below_drew1) | exact HB.out)))); (case aL => have := LMc2.out; omega); intro v156 w3 ho hb hg hat; rw [← Ny155.out] at ho; have n0_ := Aside0.mk (hb); have n1_ := Aside0.mk (ho); clear HB; have HB := n0_; have HO157 := n1_; clear n0_ n1_; clear ho hb hg hat))
    go_ret
    exact ⟨_, by first | rfl | (simp [errW_none, errW_some] <;> rfl) | (simp [*, errW_none, errW_some] <;> rfl), by (with_reducible repeat (first | apply Kd.R_alloc | apply Kd.R_drewN | apply Kd.R_drew)); exact HO157.out, by repeat (first | (with_reducible first | exact HB.out | apply below_alloc | apply pw_below_drewN | apply below_drew1) | exact HB.out)⟩
  · rw [if_neg c2] at H
    exact absurd H (by simp)
def plain_List_int.f (l0 : List Int) : Option (List Int) := if ([] : List Int).length + l0.length < 17592186044416 then (some (([] : List Int) ++ l0)) else (none)
set_option maxHeartbeats 8000000 in
set_option maxRecDepth 100000 in
theorem plain_List_int.calls (A0 : Option Addr) (c0 : Nat) (l0 : List Int) (r : List Int) (w : World) (hr0 : Kd.C (Kd.int .i64) w A0 l0.length l0) (hc0 : l0.length ≤ c0) (h : plain_List_int.f l0 = some r) :
    Calls Try.prog 88 #[.slice A0 l0.length c0] w fun e w' => ∃ v0_ : Value, e = .returned (v0_) ∧ Kd.R (Kd.int .i64) 3 w' w.heap.size (fun _ => True) v0_ r ∧ Below w.heap.size w w' := by
  have HR0 := Aside0.mk hr0
  have HC0 := Aside0.mk hc0
  clear hr0 hc0
  have HB := Aside0.mk (Below.refl w.heap.size w)
  have H : (if ([] : List Int).length + l0.length < 17592186044416 then (some (([] : List Int) ++ l0)) else (none)) = some r := h
  clear h
  by_cases c2 : ([] : List Int).length + l0.length < 17592186044416
  · rw [if_pos c2] at H
    have LMc2 := Aside0.mk c2
    clear c2
    obtain ⟨y158, hy158⟩ : ∃ y_ : List Int, y_ = (([] : List Int) ++ l0) := ⟨_, rfl⟩
    replace H : (some y158) = some r := by first | (rw [hy158]; with_reducible exact H) | (have H2_ := (Option.bind_some _ _).symm.trans H; rw [hy158]; with_reducible exact H2_) | (have H2_ := (Option.bind_some _ _).symm.trans H; with_reducible exact H2_) | with_reducible exact H | (rw [hy158]; exact H) | exact H
    have Ny158 := Aside0.mk hy158
    clear hy158
    obtain rfl := Option.some.inj H
    go_enter Try.func88, Try.ntmps88
    go_wp2_with (first | ((with_reducible refine gate_builtin (b := .append) (xs := #[.const (.slice none 0 0), .tmp 3]) rfl ?_); at_builtin; refine Kd.R_append_rows (Kd.int .i64) (w0 := w) w.heap.size rfl (.const (.slice none 0 0)) (.tmp 3) 38 3 (.int .i64 0) 8 rfl Try.underlying38 info3 rfl (by decide) (by omega) (.slice none 0 0) ([] : List Int) l0 _ _ _ (fun _ => True) (fun _ => False) rfl rfl ?aO ?aR (fun _ _ h => h) (fun _ h => h.elim) ?aF ?aB ?aS ?aL ?_; (case aR => repeat (first | exact HR0.out | (with_reducible refine Kd.C_alloc ?_ _) | (with_reducible refine Kd.C_drewN ?_ _) | (with_reducible refine Kd.C_drew ?_))); (case aB => exact (by repeat (first | (with_reducible first | exact HB.out | apply below_alloc | apply pw_below_drewN | apply below_drew1) | exact HB.out))); (case aF => exact (fun _ _ => trivial)); (case aO => exact ((Kd.R_nil _ _ _ _ (fun _ => True)))); (case aS => exact (below_size (by repeat (first | (with_reducible first | exact HB.out | apply below_alloc | apply pw_below_drewN | apply below_drew1) | exact HB.out)))); (case aL => have := LMc2.out; omega); intro v159 w3 ho hb hg hat; rw [← Ny158.out] at ho; have n0_ := Aside0.mk (hb); have n1_ := Aside0.mk (ho); clear HB; have HB := n0_; have HO160 := n1_; clear n0_ n1_; clear ho hb hg hat))
    go_ret
    exact ⟨_, by first | rfl | (simp [errW_none, errW_some] <;> rfl) | (simp [*, errW_none, errW_some] <;> rfl), by (with_reducible repeat (first | apply Kd.R_alloc | apply Kd.R_drewN | apply Kd.R_drew)); exact HO160.out, by repeat (first | (with_reducible first | exact HB.out | apply below_alloc | apply pw_below_drewN | apply below_drew1) | exact HB.out)⟩
  · rw [if_neg c2] at H
    exact absurd H (by simp)
def post_Rises.l0 : Nat → List Int → Int → Option (Bool)
  | 0, _, _ => none
  | k + 1, x0, x3 => if x3 < (x0.length : Int) then (if 0 ≤ x3 then (if 0 ≤ (wrap64 (x3 - 1)) then (if (wrap64 (x3 - 1)) < (x0.length : Int) then (if (rd x0 x3) ≤ (rd x0 (wrap64 (x3 - 1))) then (some false) else (post_Rises.l0 k x0 (wrap64 (x3 + 1)))) else (none)) else (none)) else (none)) else (some true)
def post_Rises.f (k : Nat) (l0 : List Int) : Option (Bool) := post_Rises.l0 k l0 1
theorem post_Rises.mono_l : ∀ k, (∀ y0 y1, LeO (post_Rises.l0 k y0 y1) (post_Rises.l0 (k + 1) y0 y1))
  | 0 => fun _ _ r h => by simp [post_Rises.l0] at h
  | k + 1 => by
    have ih0 := post_Rises.mono_l k
    · intro y0 y1
      unfold post_Rises.l0
      repeat' first
      | (with_reducible exact ih0 _ _)
      | (with_reducible exact LeO.refl _)
      | (with_reducible exact LeO.none _)
      | (with_reducible refine LeO.ite ?_ ?_)
      | (with_reducible refine LeO.bind ?_ (fun _ => ?_))
      | exact ih0 _ _
      | exact LeO.none _
      | refine LeO.ite ?_ ?_
      | refine LeO.bind ?_ (fun _ => ?_)
theorem post_Rises.mono : ∀ a0 k, LeO (post_Rises.f k a0) (post_Rises.f (k + 1) a0) := by
  intro a0 k
  have ih0 := post_Rises.mono_l k
  unfold post_Rises.f
  repeat' first
      | (with_reducible exact ih0 _ _)
      | (with_reducible exact LeO.refl _)
      | (with_reducible exact LeO.none _)
      | (with_reducible refine LeO.ite ?_ ?_)
      | (with_reducible refine LeO.bind ?_ (fun _ => ?_))
      | exact ih0 _ _
      | exact LeO.none _
      | refine LeO.ite ?_ ?_
      | refine LeO.bind ?_ (fun _ => ?_)
set_option maxHeartbeats 8000000 in
set_option maxRecDepth 100000 in
theorem post_Rises.calls (k : Nat) (A0 : Option Addr) (c0 : Nat) (l0 : List Int) (r : Bool) (w : World) (hr0 : Kd.C (Kd.int .i64) w A0 l0.length l0) (hc0 : l0.length ≤ c0) (h : post_Rises.f k l0 = some r) :
    Calls Try.prog 86 #[.slice A0 l0.length c0] w fun e w' => e = .returned (.bool r) ∧ Drawn0 w w' := by
  have HR0 := Aside0.mk hr0
  have HC0 := Aside0.mk hc0
  clear hr0 hc0
  have H : (post_Rises.l0 k l0 1) = some r := h
  clear h
  have H' := Aside0.mk H
  clear H
  go_enter Try.func86, Try.ntmps86
  go_wp2
  repeat (go_quiet (fail); try go_wp2)
  go_loopg [3] k (fun kq v3 w' => ∃ (x3_1 : Int), v3 = .int .i64 x3_1 ∧ Aside0 (post_Rises.l0 kq l0 x3_1 = some r) ∧ Aside0 (kq ≤ k) ∧ Drawn0 w w')
  case atStart => exact ⟨(1), (by first | rfl | (simp; done) | (simp [*]; done)), H', ⟨Nat.le_refl _⟩, by repeat (first | exact Drawn0.refl _ | apply Drawn0.step)⟩
  case round =>
    clear H'
    obtain ⟨x3_1, rfl, HA, HK1, ⟨m1, rfl⟩⟩ := hrel
    cases gk with
    | zero => exact absurd HA.out (by simp [post_Rises.l0])
    | succ k1 =>
      have H := HA.out
      clear HA
      simp only [post_Rises.l0] at H
      by_cases c2 : x3_1 < (l0.length : Int)
      · rw [if_pos c2] at H
        have c2b0 : decide (x3_1 < (l0.length : Int)) = true := decide_eq_true c2
        clear c2
        by_cases c3 : 0 ≤ x3_1
        · rw [if_pos c3] at H
          have c3b0 : decide (0 ≤ x3_1) = true := decide_eq_true c3
          clear c3
          obtain ⟨ji4, hji4⟩ : ∃ j_ : Int, (wrap64 (x3_1 - 1)) = j_ := ⟨_, rfl⟩
          replace H : (if 0 ≤ (ji4) then (if (ji4) < (l0.length : Int) then (if (rd l0 x3_1) ≤ (rd l0 (ji4)) then (some false) else (post_Rises.l0 k1 l0 (wrap64 (x3_1 + 1)))) else (none)) else (none)) = some r := by first | (rw [hji4] at H; exact H) | (simp only [hji4] at H ⊢; exact H)
          have hji4w : (IntKind.i64.wrap (x3_1 - 1)) = ji4 := (i64_w _).trans hji4
          by_cases c5 : 0 ≤ (ji4)
          · rw [if_pos c5] at H
            have c5b0 : decide (0 ≤ (ji4)) = true := decide_eq_true c5
            clear c5
            by_cases c6 : (ji4) < (l0.length : Int)
            · rw [if_pos c6] at H
              have c6b0 : decide ((ji4) < (l0.length : Int)) = true := decide_eq_true c6
              clear c6
              by_cases c7 : (rd l0 x3_1) ≤ (rd l0 (ji4))
              · rw [if_pos c7] at H
                have c7b0 : decide ((rd l0 x3_1) ≤ (rd l0 (ji4))) = true := decide_eq_true c7
                clear c7
                obtain rfl := Option.some.inj H
                have p161 : 0 ≤ (x3_1 : Int) := of_decide_eq_true (by first | (with_reducible assumption) | assumption)
                have q161 : x3_1 < (l0.length : Int) := of_decide_eq_true (by first | (with_reducible assumption) | assumption)
                obtain ⟨ad161, e161, hx161_0⟩ := Kd.at_int HR0.out x3_1 p161 q161
                cases e161
                replace p161 := eq_true p161
                replace q161 := eq_true q161
                have p162 : 0 ≤ ((ji4) : Int) := of_decide_eq_true (by first | (with_reducible assumption) | assumption)
                have q162 : (ji4) < (l0.length : Int) := of_decide_eq_true (by first | (with_reducible assumption) | assumption)
                obtain ⟨ad162, e162, hx162_0⟩ := Kd.at_int HR0.out (ji4) p162 q162
                obtain rfl : ad161 = ad162 := (by injection e162)
                replace p162 := eq_true p162
                replace q162 := eq_true q162
                go_wp2
                repeat (go_quiet (fail); try go_wp2)
                go_ret
                exact ⟨by first | rfl | (simp; done) | (simp only [← hji4] <;> (first | rfl | simp)) | (simp [*]; done), by repeat (first | exact Drawn0.refl _ | apply Drawn0.step)⟩
              · rw [if_neg c7] at H
                have c7b0 : decide ((rd l0 x3_1) ≤ (rd l0 (ji4))) = false := decide_eq_false c7
                clear c7
                have H' := Aside0.mk H
                clear H
                have p161 : 0 ≤ (x3_1 : Int) := of_decide_eq_true (by first | (with_reducible assumption) | assumption)
                have q161 : x3_1 < (l0.length : Int) := of_decide_eq_true (by first | (with_reducible assumption) | assumption)
                obtain ⟨ad161, e161, hx161_0⟩ := Kd.at_int HR0.out x3_1 p161 q161
                cases e161
                replace p161 := eq_true p161
                replace q161 := eq_true q161
                have p162 : 0 ≤ ((ji4) : Int) := of_decide_eq_true (by first | (with_reducible assumption) | assumption)
                have q162 : (ji4) < (l0.length : Int) := of_decide_eq_true (by first | (with_reducible assumption) | assumption)
                obtain ⟨ad162, e162, hx162_0⟩ := Kd.at_int HR0.out (ji4) p162 q162
                obtain rfl : ad161 = ad162 := (by injection e162)
                replace p162 := eq_true p162
                replace q162 := eq_true q162
                go_wp2
                repeat (go_quiet (fail); try go_wp2)
                go_roundg k1
                case measure => have := HK1.out; omega
                case rel => exact ⟨(wrap64 (x3_1 + 1)), (by first | rfl | (simp; done) | (simp [*]; done)), H', ⟨by have := HK1.out; omega⟩, by repeat (first | exact Drawn0.refl _ | apply Drawn0.step)⟩
            · rw [if_neg c6] at H
              exact absurd H (by simp)
          · rw [if_neg c5] at H
            exact absurd H (by simp)
        · rw [if_neg c3] at H
          exact absurd H (by simp)
      · rw [if_neg c2] at H
        have c2b0 : decide (x3_1 < (l0.length : Int)) = false := decide_eq_false c2
        clear c2
        obtain rfl := Option.some.inj H
        go_wp2
        repeat (go_quiet (fail); try go_wp2)
        go_ret
        exact ⟨by first | rfl | (simp; done) | (simp [*]; done), by repeat (first | exact Drawn0.refl _ | apply Drawn0.step)⟩
/-- THE ONE PURE STATEMENT of post_Rises: yours. -/
def post_Rises.Pure : Prop := ∀ (l0 : List Int), l0.length ≤ maxLen → l0.length * 8 ≤ 140737488351232 → (∀ x ∈ l0, (Lit.int .i64 x).wf = true) → ∃ k, post_Rises.f k l0 = some true
theorem post_Rises.walk (P : post_Rises.Pure) (a0 : Option Addr) (len0 cap0 : Nat) (z0 : List Int) (w : World) (w0 : (a0 = none ∧ len0 = 0 ∧ cap0 = 0 ∧ z0 = []) ∨ ∃ x, a0 = some x ∧ len0 ≤ cap0 ∧ cap0 ≤ maxLen ∧ z0.length = cap0 ∧ (∀ i, i < z0.length → w.cell? (x.add i) = some (.int .i64 (z0.getD i 0))) ∧ ∀ n ∈ z0, (Lit.int .i64 n).wf = true) (y0 : len0 * 8 ≤ 140737488351232) :
    Calls Try.prog 86 #[.slice a0 len0 cap0] w fun e w' => e = .returned (.bool true) ∧ Below w.heap.size w w' := by
  obtain ⟨l0, rfl, hr0, hm0, hw0, hc0⟩ := ReadsInt.ofRowC w0
  obtain ⟨k, h⟩ := P l0 hm0 y0 hw0
  refine (post_Rises.calls k _ _ l0 true w (Kd.C_of_reads (d := (0 : Int)) (h1 := fun _ => rfl) hr0) hc0 h).mono ?_
  rintro e w' ⟨rfl, hd⟩
  exact ⟨rfl, hd.below⟩
end Go.Proofs.Ytlkhdbfhnpbbhaa.Ix
namespace Go.Proofs.Ytlkhdbfhnpbbhaa.Pure
set_option linter.unusedVariables false
set_option linter.unusedSimpArgs false
/-- a hexadecimal digit's byte -/
def hexd (k : Int) : Int := if k < 10 then 48 + k else 87 + k
def esc (c : Int) : List Int := if c = 34 ∨ c = 92 then [92, c] else if c < 32 ∨ 127 ≤ c then [92, 120, hexd (c / 16), hexd (c % 16)] else [c]
def IsB (l : List Int) : Prop := ∀ c ∈ l, 0 ≤ c ∧ c < 256
theorem hexd_inj {a b : Int} (ha : 0 ≤ a ∧ a < 16) (hb : 0 ≤ b ∧ b < 16) (h : hexd a = hexd b) : a = b := by
  unfold hexd at h; split at h <;> split at h <;> omega
/-- What is escaped and ends with a quote is read back. -/
theorem esc_inj : ∀ (v v' r r' : List Int), IsB v → IsB v' → v.flatMap esc ++ 34 :: r = v'.flatMap esc ++ 34 :: r' → v = v' ∧ r = r'
  | [], [], r, r', _, _, h => by simpa using h
  | [], c :: t, r, r', _, hb, h => by
    exfalso
    simp only [List.flatMap_nil, List.nil_append, List.flatMap_cons, List.append_assoc] at h
    unfold esc at h
    split at h
    · simp at h
    · split at h
      · simp at h
      · rename_i h1 h2; simp at h; omega
  | c :: t, [], r, r', ha, _, h => by
    exfalso
    simp only [List.flatMap_nil, List.nil_append, List.flatMap_cons, List.append_assoc] at h
    unfold esc at h
    split at h
    · simp at h
    · split at h
      · simp at h
      · rename_i h1 h2; simp at h; omega
  | c :: t, d :: u, r, r', ha, hb, h => by
    simp only [List.flatMap_cons, List.append_assoc] at h
    have hc := ha c List.mem_cons_self
    have hd := hb d List.mem_cons_self
    have key : c = d ∧ t.flatMap esc ++ 34 :: r = u.flatMap esc ++ 34 :: r' := by
      have e1 : esc c = if c = 34 ∨ c = 92 then [92, c] else if c < 32 ∨ 127 ≤ c then [92, 120, hexd (c / 16), hexd (c % 16)] else [c] := rfl
      have e2 : esc d = if d = 34 ∨ d = 92 then [92, d] else if d < 32 ∨ 127 ≤ d then [92, 120, hexd (d / 16), hexd (d % 16)] else [d] := rfl
      by_cases c1 : c = 34 ∨ c = 92
      · rw [if_pos c1] at e1
        by_cases d1 : d = 34 ∨ d = 92
        · rw [if_pos d1] at e2; rw [e1, e2] at h; simpa using h
        · rw [if_neg d1] at e2
          by_cases d2 : d < 32 ∨ 127 ≤ d
          · rw [if_pos d2] at e2; rw [e1, e2] at h; simp at h; omega
          · rw [if_neg d2] at e2; rw [e1, e2] at h; simp at h; omega
      · rw [if_neg c1] at e1
        by_cases c2 : c < 32 ∨ 127 ≤ c
        · rw [if_pos c2] at e1
          by_cases d1 : d = 34 ∨ d = 92
          · rw [if_pos d1] at e2; rw [e1, e2] at h; simp at h; omega
          · rw [if_neg d1] at e2
            by_cases d2 : d < 32 ∨ 127 ≤ d
            · rw [if_pos d2] at e2; rw [e1, e2] at h
              simp only [List.cons_append, List.nil_append, List.cons.injEq, true_and] at h
              obtain ⟨h1, h2, h3⟩ := h
              have := hexd_inj (by omega) (by omega) h1
              have := hexd_inj (by omega) (by omega) h2
              exact ⟨by omega, h3⟩
            · rw [if_neg d2] at e2; rw [e1, e2] at h; simp at h; omega
        · rw [if_neg c2] at e1
          by_cases d1 : d = 34 ∨ d = 92
          · rw [if_pos d1] at e2; rw [e1, e2] at h; simp at h; omega
          · rw [if_neg d1] at e2
            by_cases d2 : d < 32 ∨ 127 ≤ d
            · rw [if_pos d2] at e2; rw [e1, e2] at h; simp at h; omega
            · rw [if_neg d2] at e2; rw [e1, e2] at h; simpa using h
    obtain ⟨rfl, h2⟩ := key
    obtain ⟨rfl, rfl⟩ := esc_inj t u r r' (fun x hx => ha x (List.mem_cons_of_mem _ hx)) (fun x hx => hb x (List.mem_cons_of_mem _ hx)) h2
    exact ⟨rfl, rfl⟩
def quo (v : List Int) : List Int := 34 :: (v.flatMap esc ++ [34])
def itm (x : List Int × List Int) : List Int := x.1 ++ 61 :: quo x.2
def txt : List (List Int × List Int) → List Int
  | [] => []
  | [x] => itm x
  | x :: y :: r => itm x ++ 44 :: txt (y :: r)
theorem eq_sign : ∀ (a b r s : List Int), 61 ∉ a → 61 ∉ b → a ++ 61 :: r = b ++ 61 :: s → a = b ∧ r = s
  | [], [], r, s, _, _, h => by simpa using h
  | [], c :: t, r, s, _, hb, h => by simp at h; exact absurd (h.1 ▸ List.mem_cons_self) hb
  | c :: t, [], r, s, ha, _, h => by simp at h; exact absurd (h.1 ▸ List.mem_cons_self) ha
  | c :: t, d :: u, r, s, ha, hb, h => by
    simp only [List.cons_append, List.cons.injEq] at h
    obtain ⟨rfl, h⟩ := h
    obtain ⟨rfl, rfl⟩ := eq_sign t u r s (fun c => ha (List.mem_cons_of_mem _ c)) (fun c => hb (List.mem_cons_of_mem _ c)) h
    exact ⟨rfl, rfl⟩
def OkL (x : List Int × List Int) : Prop := 61 ∉ x.1 ∧ IsB x.2
theorem itm_inj {x y : List Int × List Int} {r s : List Int} (hx : OkL x) (hy : OkL y) (h : itm x ++ r = itm y ++ s) : x = y ∧ r = s := by
  obtain ⟨a, v⟩ := x
  obtain ⟨b, u⟩ := y
  unfold itm quo at h
  simp only [List.append_assoc, List.cons_append, List.nil_append] at h
  obtain ⟨rfl, h2⟩ := eq_sign _ _ _ _ hx.1 hy.1 h
  simp only [List.cons.injEq, true_and] at h2
  obtain ⟨h3, rfl⟩ := esc_inj v u r s hx.2 hy.2 h2
  exact ⟨by rw [h3], rfl⟩
theorem itm_ne (x : List Int × List Int) : itm x ≠ [] := by unfold itm; simp
theorem txt_cons (x : List Int × List Int) (l : List (List Int × List Int)) : ∃ r, txt (x :: l) = itm x ++ r ∧ (l = [] → r = []) ∧ (∀ y t, l = y :: t → r = 44 :: txt l) := by
  cases l with
  | nil => exact ⟨[], by simp [txt], fun _ => rfl, fun _ _ h => by cases h⟩
  | cons y t => exact ⟨44 :: txt (y :: t), rfl, (fun h => by cases h), fun _ _ _ => rfl⟩
theorem txt_inj : ∀ (l m : List (List Int × List Int)), (∀ x ∈ l, OkL x) → (∀ x ∈ m, OkL x) → txt l = txt m → l = m
  | [], [], _, _, _ => rfl
  | [], y :: m, _, _, h => by
    obtain ⟨r, hr, _⟩ := txt_cons y m
    rw [hr] at h; exact absurd (List.append_eq_nil_iff.1 h.symm).1 (itm_ne y)
  | x :: l, [], _, _, h => by
    obtain ⟨r, hr, _⟩ := txt_cons x l
    rw [hr] at h; exact absurd (List.append_eq_nil_iff.1 h).1 (itm_ne x)
  | x :: l, y :: m, hl, hm, h => by
    obtain ⟨r, hr, r0, r1⟩ := txt_cons x l
    obtain ⟨s, hs, s0, s1⟩ := txt_cons y m
    rw [hr, hs] at h
    obtain ⟨rfl, rfl⟩ := itm_inj (hl x List.mem_cons_self) (hm y List.mem_cons_self) h
    cases l with
    | nil =>
      cases m with
      | nil => rfl
      | cons z m => rw [r0 rfl] at s1; have := s1 z m rfl; simp at this
    | cons w l =>
      cases m with
      | nil => rw [s0 rfl] at r1; have := r1 w l rfl; simp at this
      | cons z m =>
        have e := (r1 w l rfl).symm.trans (s1 z m rfl)
        simp only [List.cons.injEq, true_and] at e
        rw [txt_inj (w :: l) (z :: m) (fun a ha => hl a (List.mem_cons_of_mem _ ha)) (fun a ha => hm a (List.mem_cons_of_mem _ ha)) e]
end Go.Proofs.Ytlkhdbfhnpbbhaa.Pure
namespace Go.Proofs.Ytlkhdbfhnpbbhaa.Pure
set_option linter.unusedVariables false
set_option linter.unusedSimpArgs false
open Go.RowKit Go.Proofs.YtlkhdbfhnpbbhaaW.PrintWords Go.Proofs.YtlkhdbfhnpbbhaaW.PrintLast Go.Proofs.YtlkhdbfhnpbbhaaW.PrintMore Go.Proofs.Ytlkhdbfhnpbbhaa.Ix
theorem w64 {i : Int} (h0 : -9223372036854775808 ≤ i) (h1 : i < 9223372036854775808) : wrap64 i = i := by unfold wrap64; omega
/-- a byte of a name -/
def nb (c : Int) : Bool := decide (c = 95) || (decide (97 ≤ c) && decide (c ≤ 122)) || (decide (48 ≤ c) && decide (c ≤ 57))
def nmFrom (s : ByteArray) : Nat → Nat → Bool
  | 0, _ => true
  | d + 1, i => nb (bt s (i : Int)) && nmFrom s d (i + 1)
def nm (s : ByteArray) : Bool := decide (1 ≤ s.size) && decide (s.size ≤ 32) && !(decide (48 ≤ bt s 0) && decide (bt s 0 ≤ 57)) && nmFrom s s.size 0
theorem name_l0 (s : ByteArray) (hs : s.size ≤ 140737488351232) : ∀ (d i k : Nat), i + d = s.size → d < k → label_Name.l0 k s (s.size : Int) (i : Int) = some (nmFrom s d i)
  | 0, i, k, h, hk => by
    obtain ⟨k, rfl⟩ : ∃ m, k = m + 1 := ⟨k - 1, by omega⟩
    rw [label_Name.l0, if_neg (by omega)]; rfl
  | d + 1, i, k, h, hk => by
    obtain ⟨k, rfl⟩ : ∃ m, k = m + 1 := ⟨k - 1, by omega⟩
    have ih := name_l0 s hs d (i + 1) k (by omega) (by omega)
    rw [Int.natCast_add, Int.natCast_one] at ih
    rw [label_Name.l0, if_pos (by omega), if_pos (by omega), if_pos (by omega), w64 (by omega) (by omega), ih, nmFrom]
    generalize bt s (i : Int) = c
    unfold nb
    by_cases h1 : c < 97
    · rw [if_pos h1]
      by_cases h2 : c < 48
      · rw [if_pos h2]
        have : ¬ c = 95 := by omega
        rw [if_neg this]
        simp only [this, decide_false, Bool.false_or, show ¬ 97 ≤ c by omega, show ¬ 48 ≤ c by omega, Bool.false_and]
      · rw [if_neg h2]
        by_cases h3 : c > 57
        · rw [if_pos h3]
          by_cases h4 : c = 95
          · rw [if_pos h4]; simp [h4]
          · rw [if_neg h4]; simp [h4, show ¬ 97 ≤ c by omega, show ¬ c ≤ 57 by omega]
        · rw [if_neg h3]; simp [show 48 ≤ c by omega, show c ≤ 57 by omega]
    · rw [if_neg h1]
      by_cases h2 : c > 122
      · rw [if_pos h2, if_neg (by omega), if_pos (by omega), if_neg (by omega)]
        simp [show ¬ c = 95 by omega, show ¬ c ≤ 122 by omega, show ¬ c ≤ 57 by omega]
      · rw [if_neg h2]; simp [show 97 ≤ c by omega, show c ≤ 122 by omega]
theorem name_eq (s : ByteArray) (k : Nat) (hk : 40 ≤ k) : label_Name.f k s = some (nm s) := by
  obtain ⟨k, rfl⟩ : ∃ m, k = m + 1 := ⟨k - 1, by omega⟩
  have jt : label_Name.j0 (k + 1) s true = some false := by rw [label_Name.j0, if_pos rfl]
  unfold label_Name.f nm
  by_cases h1 : (s.size : Int) < 1
  · rw [if_pos h1, jt]; simp [show ¬ 1 ≤ s.size by omega]
  · rw [if_neg h1]
    by_cases h2 : (s.size : Int) > 32
    · rw [if_pos h2, jt]; simp [show ¬ s.size ≤ 32 by omega]
    · rw [if_neg h2, if_pos (by omega)]
      have l0 := name_l0 s (by omega) s.size 0 k (by omega) (by omega)
      have jf : label_Name.j0 (k + 1) s false = some (nmFrom s s.size 0) := by rw [label_Name.j0, if_neg (by simp)]; exact l0
      by_cases h3 : bt s 0 ≥ 48
      · rw [if_pos h3]
        by_cases h4 : bt s 0 ≤ 57
        · rw [decide_eq_true h4, jt]; simp [show 48 ≤ bt s 0 from h3, h4]
        · rw [decide_eq_false h4, jf]; simp [h4, show 1 ≤ s.size by omega, show s.size ≤ 32 by omega]
      · rw [if_neg h3, jf]; simp [show ¬ 48 ≤ bt s 0 from h3, show 1 ≤ s.size by omega, show s.size ≤ 32 by omega]
theorem rname_l0 (s : ByteArray) (hs : s.size ≤ 140737488351232) : ∀ (d i k : Nat), i + d = s.size → d < k →
    varveref11_Name.l0 k s (i : Int) = some ((decide (d = 0 ∨ i ≠ 0) || !(decide (48 ≤ bt s i) && decide (bt s i ≤ 57))) && nmFrom s d i && decide (1 ≤ s.size) && decide (s.size ≤ 32))
  | 0, i, k, h, hk => by
    obtain ⟨k, rfl⟩ : ∃ m, k = m + 1 := ⟨k - 1, by omega⟩
    rw [varveref11_Name.l0, if_neg (by omega)]
    by_cases h1 : (s.size : Int) ≥ 1
    · rw [if_pos h1]; simp [nmFrom, show 1 ≤ s.size by omega]; omega
    · rw [if_neg h1]; simp [nmFrom, show ¬ 1 ≤ s.size by omega]
  | d + 1, i, k, h, hk => by
    obtain ⟨k, rfl⟩ : ∃ m, k = m + 1 := ⟨k - 1, by omega⟩
    have ih := rname_l0 s hs d (i + 1) k (by omega) (by omega)
    rw [Int.natCast_add, Int.natCast_one] at ih
    rw [varveref11_Name.l0, if_pos (by omega), if_pos (by omega), w64 (by omega) (by omega), ih, nmFrom]
    simp only [show (d = 0 ∨ i + 1 ≠ 0) from .inr (by omega), decide_true, Bool.true_or, Bool.true_and]
    generalize bt s (i : Int) = c
    generalize nmFrom s d (i + 1) = r
    unfold nb
    by_cases hi : i = 0
    · subst hi
      simp only [show ¬ (d + 1 = 0 ∨ (0 : Nat) ≠ 0) by omega, decide_false, Bool.false_or, show ((0 : Nat) : Int) = 0 from rfl, if_true]
      by_cases h0 : c = 95
      · rw [if_pos h0]; simp [h0]
      · rw [if_neg h0]
        by_cases h1 : c < 97
        · rw [if_pos h1]
          by_cases h2 : c < 48
          · rw [if_pos h2]; simp [h0, show ¬ 97 ≤ c by omega, show ¬ 48 ≤ c by omega]
          · rw [if_neg h2]
            by_cases h3 : c > 57
            · rw [if_pos h3]; simp [h0, show ¬ 97 ≤ c by omega, show ¬ c ≤ 57 by omega]
            · rw [if_neg h3]; simp [show 48 ≤ c by omega, show c ≤ 57 by omega]
        · rw [if_neg h1]
          by_cases h2 : c > 122
          · rw [if_pos h2, if_neg (by omega), if_pos (by omega)]; simp [h0, show ¬ c ≤ 122 by omega, show ¬ c ≤ 57 by omega]
          · rw [if_neg h2]; simp [show 97 ≤ c by omega, show c ≤ 122 by omega, show ¬ c ≤ 57 by omega]
    · simp only [show (d + 1 = 0 ∨ i ≠ 0) from .inr hi, decide_true, Bool.true_or, Bool.true_and]
      have hi2 : ¬ (i : Int) = 0 := by omega
      by_cases h0 : c = 95
      · rw [if_pos h0]; simp [h0]
      · rw [if_neg h0]
        by_cases h1 : c < 97
        · rw [if_pos h1]
          by_cases h2 : c < 48
          · rw [if_pos h2]; simp [h0, show ¬ 97 ≤ c by omega, show ¬ 48 ≤ c by omega]
          · rw [if_neg h2]
            by_cases h3 : c > 57
            · rw [if_pos h3]; simp [h0, show ¬ 97 ≤ c by omega, show ¬ c ≤ 57 by omega]
            · rw [if_neg h3, if_neg hi2]; simp [show 48 ≤ c by omega, show c ≤ 57 by omega]
        · rw [if_neg h1]
          by_cases h2 : c > 122
          · rw [if_pos h2, if_neg (by omega), if_pos (by omega)]; simp [h0, show ¬ c ≤ 122 by omega, show ¬ c ≤ 57 by omega]
          · rw [if_neg h2]; simp [show 97 ≤ c by omega, show c ≤ 122 by omega]
theorem rname_eq (s : ByteArray) (hs : s.size ≤ 140737488351232) (k : Nat) (hk : s.size < k) : varveref11_Name.f k s = some (nm s) := by
  unfold varveref11_Name.f
  have h := rname_l0 s hs s.size 0 k (by omega) hk
  refine h.trans (congrArg some ?_)
  unfold nm
  by_cases h0 : s.size = 0
  · simp [h0]
  · simp only [show ¬ (s.size = 0 ∨ (0 : Nat) ≠ 0) by omega, decide_false, Bool.false_or, show ((0 : Nat) : Int) = 0 from rfl]
    generalize nmFrom s s.size 0 = r
    generalize decide (1 ≤ s.size) = a
    generalize decide (s.size ≤ 32) = b
    generalize (!(decide (48 ≤ bt s 0) && decide (bt s 0 ≤ 57))) = e
    cases a <;> cases b <;> cases e <;> cases r <;> rfl
end Go.Proofs.Ytlkhdbfhnpbbhaa.Pure
namespace Go.Proofs.Ytlkhdbfhnpbbhaa.Pure
set_option linter.unusedVariables false
set_option linter.unusedSimpArgs false
open Go.RowKit Go.Proofs.YtlkhdbfhnpbbhaaW.PrintWords Go.Proofs.YtlkhdbfhnpbbhaaW.PrintLast Go.Proofs.YtlkhdbfhnpbbhaaW.PrintMore Go.Proofs.Ytlkhdbfhnpbbhaa.Ix
abbrev LB := S41
noncomputable instance : DecidableEq LB := fun x y => Classical.propDecidable (x = y)
/-- what a set's label i wants -/
def lbOk (l : List LB) (i : Nat) : Bool :=
  nm (rd_T41 l (i : Int)).f0 && decide (1 ≤ (rd_T41 l (i : Int)).f1.size) && decide ((rd_T41 l (i : Int)).f1.size ≤ 64) &&
    (decide (i = 0) || Op.bytesLess (rd_T41 l ((i : Int) - 1)).f0.toList (rd_T41 l (i : Int)).f0.toList)
def chkFrom (l : List LB) : Nat → Nat → Bool
  | 0, _ => true
  | d + 1, i => lbOk l i && chkFrom l d (i + 1)
def chk (l : List LB) : Bool := decide (1 ≤ l.length) && decide (l.length ≤ 8) && chkFrom l l.length 0
/-- one round of both checks -/
theorem round_eq (l : List LB) (i : Nat) (hi : i < l.length) (hl : l.length ≤ 140737488351232) (X : Option Bool) (r : Bool) (hX : X = some r) :
    (if nm (rd_T41 l (i : Int)).f0 = true then (if (((rd_T41 l (i : Int)).f1).size : Int) < 1 then (some false) else (if (((rd_T41 l (i : Int)).f1).size : Int) > 64 then (some false) else (if (i : Int) > 0 then (if 0 ≤ (wrap64 ((i : Int) - 1)) then (if (wrap64 ((i : Int) - 1)) < (l.length : Int) then (if ((Op.bytesLess (((rd_T41 l (wrap64 ((i : Int) - 1))).f0).toList) (((rd_T41 l (i : Int)).f0).toList)) = true) then X else (some false)) else (none)) else (none)) else X))) else (some false)) = some (lbOk l i && r) := by
  subst hX
  unfold lbOk
  by_cases h1 : nm (rd_T41 l (i : Int)).f0 = true
  · rw [if_pos h1, h1]
    by_cases h2 : (((rd_T41 l (i : Int)).f1).size : Int) < 1
    · rw [if_pos h2]; simp [show ¬ 1 ≤ (rd_T41 l (i : Int)).f1.size by omega]
    · rw [if_neg h2, decide_eq_true (show 1 ≤ (rd_T41 l (i : Int)).f1.size by omega)]
      by_cases h3 : (((rd_T41 l (i : Int)).f1).size : Int) > 64
      · rw [if_pos h3, decide_eq_false (show ¬ (rd_T41 l (i : Int)).f1.size ≤ 64 by omega)]; simp
      · rw [if_neg h3, decide_eq_true (show (rd_T41 l (i : Int)).f1.size ≤ 64 by omega)]
        by_cases h4 : i = 0
        · rw [if_neg (by omega), decide_eq_true h4]; simp
        · rw [if_pos (by omega), w64 (by omega) (by omega), if_pos (by omega), if_pos (by omega), decide_eq_false h4]
          cases Op.bytesLess (rd_T41 l ((i : Int) - 1)).f0.toList (rd_T41 l (i : Int)).f0.toList <;> simp
  · rw [if_neg h1, eq_false_of_ne_true h1]; simp
theorem check_l0 (l : List LB) (hl : l.length ≤ 140737488351232) : ∀ (d i k : Nat), i + d = l.length → d + 40 < k → label_Check.l0 k l l (l.length : Int) (i : Int) = some (chkFrom l d i)
  | 0, i, k, h, hk => by
    obtain ⟨k, rfl⟩ : ∃ m, k = m + 1 := ⟨k - 1, by omega⟩
    rw [label_Check.l0, if_neg (by omega)]; rfl
  | d + 1, i, k, h, hk => by
    obtain ⟨k, rfl⟩ : ∃ m, k = m + 1 := ⟨k - 1, by omega⟩
    have ih := check_l0 l hl d (i + 1) k (by omega) (by omega)
    rw [Int.natCast_add, Int.natCast_one] at ih
    rw [label_Check.l0, if_pos (by omega), if_pos (by omega), if_pos (by omega), name_eq _ _ (by omega), Option.bind_some]
    refine round_eq l i (by omega) hl _ _ ?_
    rw [w64 (by omega) (by omega)]
    exact ih
theorem check_eq (l : List LB) (k : Nat) (hk : 60 ≤ k) : label_Check.f k l = some (chk l) := by
  obtain ⟨k, rfl⟩ : ∃ m, k = m + 1 := ⟨k - 1, by omega⟩
  unfold label_Check.f chk
  by_cases h1 : (l.length : Int) < 1
  · rw [if_pos h1, label_Check.j0, if_pos rfl]; simp [show ¬ 1 ≤ l.length by omega]
  · rw [if_neg h1, decide_eq_true (show 1 ≤ l.length by omega)]
    by_cases h2 : (l.length : Int) > 8
    · rw [decide_eq_true h2, label_Check.j0, if_pos rfl, decide_eq_false (show ¬ l.length ≤ 8 by omega)]; simp
    · rw [decide_eq_false h2, label_Check.j0, if_neg (by simp), decide_eq_true (show l.length ≤ 8 by omega)]
      rw [show (0 : Int) = ((0 : Nat) : Int) from rfl, check_l0 l (by omega) l.length 0 k (by omega) (by omega)]; simp
theorem rcheck_l0 (l : List LB) (hl : l.length ≤ 140737488351232) (hs : ∀ x ∈ l, x.f0.size ≤ 140737488351232) : ∀ (d i k : Nat), i + d = l.length → d < k → (∀ x ∈ l, x.f0.size + d < k) →
    varveref11_Check.l0 k l (i : Int) = some (chkFrom l d i && decide (1 ≤ l.length) && decide (l.length ≤ 8))
  | 0, i, k, h, hk, _ => by
    obtain ⟨k, rfl⟩ : ∃ m, k = m + 1 := ⟨k - 1, by omega⟩
    rw [varveref11_Check.l0, if_neg (by omega)]
    by_cases h1 : (l.length : Int) ≥ 1
    · rw [if_pos h1]; simp [chkFrom, show 1 ≤ l.length by omega]; omega
    · rw [if_neg h1]; simp [chkFrom, show ¬ 1 ≤ l.length by omega]
  | d + 1, i, k, h, hk, hx => by
    obtain ⟨k, rfl⟩ : ∃ m, k = m + 1 := ⟨k - 1, by omega⟩
    have ih := rcheck_l0 l hl hs d (i + 1) k (by omega) (by omega) (fun x h => by have := hx x h; omega)
    rw [Int.natCast_add, Int.natCast_one] at ih
    have hm : rd_T41 l (i : Int) ∈ l := by
      unfold rd_T41
      rw [Int.toNat_natCast, List.getD_eq_getElem?_getD, List.getElem?_eq_getElem (by omega)]
      exact List.getElem_mem _
    rw [varveref11_Check.l0, if_pos (by omega), if_pos (by omega), rname_eq _ (hs _ hm) k (by have := hx _ hm; omega), Option.bind_some]
    refine (round_eq l i (by omega) hl _ _ (show varveref11_Check.l0 k l (wrap64 ((i : Int) + 1)) = some (chkFrom l d (i + 1) && decide (1 ≤ l.length) && decide (l.length ≤ 8)) by rw [w64 (by omega) (by omega)]; exact ih)).trans ?_
    rw [chkFrom, Bool.and_assoc, Bool.and_assoc, Bool.and_assoc]
theorem rcheck_eq (l : List LB) (hl : l.length ≤ 140737488351232) (hs : ∀ x ∈ l, x.f0.size ≤ 140737488351232) (k : Nat) (h1 : l.length < k) (h2 : ∀ x ∈ l, x.f0.size + l.length < k) : varveref11_Check.f k l = some (chk l) := by
  unfold varveref11_Check.f
  refine (rcheck_l0 l hl hs l.length 0 k (by omega) h1 h2).trans (congrArg some ?_)
  unfold chk
  generalize chkFrom l l.length 0 = r
  generalize decide (1 ≤ l.length) = a
  generalize decide (l.length ≤ 8) = b
  cases a <;> cases b <;> cases r <;> rfl
/-- the value of a name -/
def lbVal (l : List LB) (s : ByteArray) : ByteArray := match l with
  | [] => ⟨#[]⟩
  | x :: t => if x.f0.toList = s.toList then x.f1 else lbVal t s
theorem drop_rd (l : List LB) (i : Nat) (hi : i < l.length) : l.drop i = rd_T41 l (i : Int) :: l.drop (i + 1) := by
  rw [List.drop_eq_getElem_cons hi]; congr 1; simp [rd_T41, hi]
theorem value_l0 (l : List LB) (s : ByteArray) (hl : l.length ≤ 140737488351232) : ∀ (d i k : Nat), i + d = l.length → d < k → label_Value.l0 k s l (l.length : Int) (i : Int) = some (lbVal (l.drop i) s)
  | 0, i, k, h, hk => by
    obtain ⟨k, rfl⟩ : ∃ m, k = m + 1 := ⟨k - 1, by omega⟩
    rw [label_Value.l0, if_neg (by omega), List.drop_eq_nil_of_le (by omega)]; rfl
  | d + 1, i, k, h, hk => by
    obtain ⟨k, rfl⟩ : ∃ m, k = m + 1 := ⟨k - 1, by omega⟩
    have ih := value_l0 l s hl d (i + 1) k (by omega) (by omega)
    rw [Int.natCast_add, Int.natCast_one] at ih
    rw [label_Value.l0, if_pos (by omega), if_pos (by omega), if_pos (by omega), w64 (by omega) (by omega), ih, drop_rd l i (by omega), lbVal]
    split <;> rfl
theorem value_eq (l : List LB) (s : ByteArray) (hl : l.length ≤ 140737488351232) (k : Nat) (hk : l.length < k) : label_Value.f k l s = some (lbVal l s) := value_l0 l s hl l.length 0 k (by omega) hk
theorem bytes_ext {a b : ByteArray} (h : a.toList = b.toList) : a = b := by
  rw [Lib.toList_data, Lib.toList_data] at h
  cases a; cases b; simp at h; simp [h]
theorem lb_ext {x y : LB} (h0 : x.f0.toList = y.f0.toList) (h1 : x.f1.toList = y.f1.toList) : x = y := by
  cases x; cases y; simp only at h0 h1; rw [bytes_ext h0, bytes_ext h1]
theorem sameL_l0 (l m : List LB) (hl : l.length ≤ 140737488351232) (he : l.length = m.length) : ∀ (d i k : Nat), i + d = l.length → d < k → varvelaw00_SameLabels.l0 k l m (i : Int) = some (decide (l.drop i = m.drop i))
  | 0, i, k, h, hk => by
    obtain ⟨k, rfl⟩ : ∃ n, k = n + 1 := ⟨k - 1, by omega⟩
    rw [varvelaw00_SameLabels.l0, if_neg (by omega), List.drop_eq_nil_of_le (by omega), List.drop_eq_nil_of_le (by omega)]; rfl
  | d + 1, i, k, h, hk => by
    obtain ⟨k, rfl⟩ : ∃ n, k = n + 1 := ⟨k - 1, by omega⟩
    have ih := sameL_l0 l m hl he d (i + 1) k (by omega) (by omega)
    rw [Int.natCast_add, Int.natCast_one] at ih
    rw [varvelaw00_SameLabels.l0, if_pos (by omega), if_pos (by omega), if_pos (by omega), w64 (by omega) (by omega), ih, drop_rd l i (by omega), drop_rd m i (by omega)]
    generalize rd_T41 l (i : Int) = x
    generalize rd_T41 m (i : Int) = y
    by_cases h1 : x.f0.toList = y.f0.toList
    · by_cases h2 : x.f1.toList = y.f1.toList
      · obtain rfl := lb_ext h1 h2
        rw [if_neg (by simp)]; simp
      · rw [if_pos (by simp [h2])]
        have : ¬ x = y := fun c => h2 (by rw [c])
        simp [this]
    · rw [if_pos (by simp [h1])]
      have : ¬ x = y := fun c => h1 (by rw [c])
      simp [this]
theorem sameL_eq (l m : List LB) (hl : l.length ≤ 140737488351232) (k : Nat) (hk : l.length < k) : varvelaw00_SameLabels.f k l m = some (decide (l = m)) := by
  unfold varvelaw00_SameLabels.f
  by_cases h : l.length = m.length
  · rw [if_pos (by omega)]; exact sameL_l0 l m hl h l.length 0 k (by omega) hk
  · rw [if_neg (by omega)]; simp [show ¬ l = m from fun c => h (by rw [c])]
end Go.Proofs.Ytlkhdbfhnpbbhaa.Pure
namespace Go.Proofs.Ytlkhdbfhnpbbhaa.Tx
open Go.RowKit Go.Proofs.YtlkhdbfhnpbbhaaW.PrintWords Go.Proofs.YtlkhdbfhnpbbhaaW.PrintLast Go.Proofs.YtlkhdbfhnpbbhaaW.PrintMore Go.Proofs.Ytlkhdbfhnpbbhaa.Ix
attribute [local go_sem] max2_int min2_int max_two min_two max_three min_three max_four min_four
set_option linter.unusedVariables false
set_option linter.unusedSimpArgs false
def errW : Option Int → Value
  | none => .nilIface
  | some c => .iface 0 (.int .i64 c)
theorem errW_none : errW none = .nilIface := rfl
theorem errW_some (c : Int) : errW (some c) = .iface 0 (.int .i64 c) := rfl
theorem info5 : (Try.prog.info? 5).map (fun i => (i.zero, i.size, i.bytes)) = some (some (.int .u8 0), 1, 1) := by kernel_rfl
theorem info9 : (Try.prog.info? 9).map (fun i => (i.zero, i.size, i.bytes)) = some (some (.string ⟨#[]⟩), 1, 16) := by kernel_rfl
end Go.Proofs.Ytlkhdbfhnpbbhaa.Tx
namespace Go.Proofs.Ytlkhdbfhnpbbhaa.Tx
open Go.RowKit Go.Proofs.YtlkhdbfhnpbbhaaW.PrintWords Go.Proofs.YtlkhdbfhnpbbhaaW.PrintLast Go.Proofs.YtlkhdbfhnpbbhaaW.PrintMore Go.Proofs.Ytlkhdbfhnpbbhaa.Ix
attribute [local go_sem] max2_int min2_int max_two min_two max_three min_three max_four min_four
set_option linter.unusedVariables false
set_option linter.unusedSimpArgs false
def strings_Join.f (l0 : List ByteArray) (a1 : ByteArray) : Option ByteArray := if (Lib.join (l0.map (·.data.toList)) a1.data.toList).length ≤ 140737488355328 ∧ l0.length ≤ 140737488355328 then some ⟨(Lib.join (l0.map (·.data.toList)) a1.data.toList).toArray⟩ else none
theorem strings_Join.calls {b_ : Nat} {ok_ : Nat → Prop} (A0 : Option Addr) (c0 : Nat) (l0 : List ByteArray) (a1 : ByteArray) (r : ByteArray) (w : World) (hr0 : Kd.R Kd.string 9 w b_ ok_ (.slice A0 l0.length c0) l0) (hc0 : l0.length ≤ c0) (h : strings_Join.f l0 a1 = some r) :
    Calls Try.prog 56 #[.slice A0 l0.length c0, .string a1] w fun e w' => e = .returned (.string r) ∧ Below w.heap.size w w' := by
  unfold strings_Join.f at h
  split at h
  case isFalse => cases h
  case isTrue hl =>
    obtain rfl := Option.some.inj h
    cases l0 with
    | nil =>
      refine (Try.strings_Join_none A0 c0 a1 w).mono ?_
      rintro e w' ⟨rfl, rfl⟩
      exact ⟨rfl, Below.refl _ _⟩
    | cons x t =>
      obtain ⟨inner, ho⟩ := Kd.R_own hr0
      have hC := (Kd.R_reads' hr0).2.2
      rcases ho.2 with ⟨hv, h0⟩ | ⟨g, cap, cur, hv, hgb, hgh, _⟩
      · simp at h0
      · obtain ⟨rfl, -, rfl⟩ : A0 = some ⟨g, 0, none⟩ ∧ (x :: t).length = (x :: t).length ∧ c0 = cap := by
          injection hv with h1 h2 h3; exact ⟨h1, rfl, h3⟩
        refine Try.strings_Join g 0 c0 (x :: t) a1 w ?_ (Array.getElem?_eq_some_iff.1 hgh).1 hl.2 hc0 hl.1
        intro j y hy
        have hj : j < (x :: t).length := (List.getElem?_eq_some_iff.1 hy).1
        obtain ⟨ad, e, hc⟩ := Kd.at_string hC (j : Int) (by omega) (by omega)
        obtain rfl := Option.some.inj e
        rw [Int.toNat_natCast] at hc
        have hy2 : rdOf ByteArray.empty (x :: t) (j : Int) = y := by simp [rdOf, hy]
        rw [hy2] at hc
        rw [← hc]
        unfold Addr.add
        split
        · rename_i h; subst h; rfl
        · rfl
end Go.Proofs.Ytlkhdbfhnpbbhaa.Tx
namespace Go.Proofs.Ytlkhdbfhnpbbhaa.Tx
open Go.RowKit Go.Proofs.YtlkhdbfhnpbbhaaW.PrintWords Go.Proofs.YtlkhdbfhnpbbhaaW.PrintLast Go.Proofs.YtlkhdbfhnpbbhaaW.PrintMore Go.Proofs.Ytlkhdbfhnpbbhaa.Ix
attribute [local go_sem] max2_int min2_int max_two min_two max_three min_three max_four min_four
set_option linter.unusedVariables false
set_option linter.unusedSimpArgs false
def label_Text.l0 : Nat → List ByteArray → List (S41) → Int → Int → Option (ByteArray)
  | 0, _, _, _, _ => none
  | k + 1, x3, x6, x7, x8 => if x8 < x7 then (if 0 ≤ x8 then (if x8 < (x6.length : Int) then (if ((rd_T41 x6 x8).f0).size + 1 ≤ 9223372036854775807 then ((label_Quoted.f k ((rd_T41 x6 x8).f1)).bind fun t131 => (if (((rd_T41 x6 x8).f0) ++ (⟨#[61]⟩ : ByteArray)).size + t131.size ≤ 9223372036854775807 then (if x3.length < 8796093022208 then (label_Text.l0 k (x3 ++ [(((rd_T41 x6 x8).f0) ++ (⟨#[61]⟩ : ByteArray)) ++ t131]) x6 x7 (wrap64 (x8 + 1))) else (none)) else (none))) else (none)) else (none)) else (none)) else ((strings_Join.f x3 (⟨#[44]⟩ : ByteArray)).bind fun t135 => (some t135))
def label_Text.f (k : Nat) (l0 : List (S41)) : Option (ByteArray) := label_Text.l0 k ([] : List ByteArray) l0 (l0.length : Int) 0
theorem label_Text.mono_l : ∀ k, (∀ y0 y1 y2 y3, LeO (label_Text.l0 k y0 y1 y2 y3) (label_Text.l0 (k + 1) y0 y1 y2 y3))
  | 0 => fun _ _ _ _ r h => by simp [label_Text.l0] at h
  | k + 1 => by
    have ih0 := label_Text.mono_l k
    · intro y0 y1 y2 y3
      unfold label_Text.l0
      repeat' first
      | (with_reducible exact ih0 _ _ _ _)
      | (with_reducible exact label_Quoted.mono _ _)
      | (with_reducible exact LeO.refl _)
      | (with_reducible exact LeO.none _)
      | (with_reducible refine LeO.ite ?_ ?_)
      | (with_reducible refine LeO.bind ?_ (fun _ => ?_))
      | exact ih0 _ _ _ _
      | exact label_Quoted.mono _ _
      | exact LeO.none _
      | refine LeO.ite ?_ ?_
      | refine LeO.bind ?_ (fun _ => ?_)
theorem label_Text.mono : ∀ a0 k, LeO (label_Text.f k a0) (label_Text.f (k + 1) a0) := by
  intro a0 k
  have ih0 := label_Text.mono_l k
  unfold label_Text.f
  repeat' first
      | (with_reducible exact ih0 _ _ _ _)
      | (with_reducible exact label_Quoted.mono _ _)
      | (with_reducible exact LeO.refl _)
      | (with_reducible exact LeO.none _)
      | (with_reducible refine LeO.ite ?_ ?_)
      | (with_reducible refine LeO.bind ?_ (fun _ => ?_))
      | exact ih0 _ _ _ _
      | exact label_Quoted.mono _ _
      | exact LeO.none _
      | refine LeO.ite ?_ ?_
      | refine LeO.bind ?_ (fun _ => ?_)
def label_Text.T5 : Bool × List (List Nat × List Nat) := (true, [([], []), ([], []), ([1], [1]), ([2], [2]), ([], []), ([4], [4]), ([5], [5]), ([3, 6], [3, 6]), ([7], [7]), ([0, 8, 6], [0, 8]), ([9, 9, 0, 1, 2, 3, 4, 5, 6, 7, 8, 9], [0, 9])])
def label_Text.B5 : List Nat := [0, 0, 2, 6, 0, 16, 48, 126, 254, 511, 1023]
theorem label_Text.tab5 : rtab .any (opsOf Try.f36 5) = label_Text.T5 := by kernel_rfl
theorem label_Text.bits5 : waitsOk label_Text.T5.2 label_Text.B5 = true := by kernel_rfl
set_option maxHeartbeats 8000000 in
set_option maxRecDepth 100000 in
theorem label_Text.calls (k : Nat) (A0 : Option Addr) (c0 : Nat) (l0 : List (S41)) (r : ByteArray) (w : World) (hr0 : Kd.C k41 w A0 l0.length l0) (hc0 : l0.length ≤ c0) (h : label_Text.f k l0 = some r) :
    Calls Try.prog 36 #[.slice A0 l0.length c0] w fun e w' => e = .returned (.string r) ∧ Below w.heap.size w w' := by
  have hu41 := Try.underlying41
  have HR0 := Aside0.mk hr0
  have HC0 := Aside0.mk hc0
  clear hr0 hc0
  have HB := Aside0.mk (Below.refl w.heap.size w)
  have H : (label_Text.l0 k ([] : List ByteArray) l0 (l0.length : Int) 0) = some r := h
  clear h
  have H' := Aside0.mk H
  clear H
  go_enter Try.func36, Try.ntmps36
  go_wp2
  go_loopg [3, 8] k (fun kq v3 v8 w' => ∃ (x3_1 : List ByteArray) (x8_1 : Int), v8 = .int .i64 x8_1 ∧ Aside0 (label_Text.l0 kq x3_1 l0 (l0.length : Int) x8_1 = some r) ∧ Aside0 (kq ≤ k) ∧ Aside0 (Kd.R Kd.string 9 w' w.heap.size (fun _ => True) v3 x3_1) ∧ Aside0 (Below w.heap.size w w'))
  case atStart => exact ⟨(([] : List ByteArray)), (0), (by first | rfl | (simp; done) | (simp [*]; done)), H', ⟨Nat.le_refl _⟩, ⟨by first | exact Kd.R_nil _ _ _ _ _ | exact Kd.N_nil _ _ _ _ _ | exact Kd.V_nil _ _ _ _ _ | exact Kd.Q_nil _ _ _ _ _ | exact Kd.S_nil _ _ _ _ _⟩, ⟨by repeat (first | (with_reducible first | exact HB.out | apply below_alloc | apply pw_below_drewN | apply below_drew1) | exact HB.out)⟩⟩
  case round =>
    clear H'
    obtain ⟨x3_1, x8_1, rfl, HA, HK1, HO_3, HB⟩ := hrel
    cases gk with
    | zero => exact absurd HA.out (by simp [label_Text.l0])
    | succ k1 =>
      have H := HA.out
      clear HA
      simp only [label_Text.l0] at H
      by_cases c2 : x8_1 < (l0.length : Int)
      · rw [if_pos c2] at H
        have c2b0 : decide (x8_1 < (l0.length : Int)) = true := decide_eq_true c2
        clear c2
        by_cases c3 : 0 ≤ x8_1
        · rw [if_pos c3] at H
          have c3b0 : decide (0 ≤ x8_1) = true := decide_eq_true c3
          clear c3
          by_cases c4 : x8_1 < (l0.length : Int)
          · rw [if_pos c4] at H
            have c4b0 : decide (x8_1 < (l0.length : Int)) = true := decide_eq_true c4
            clear c4
            by_cases c5 : ((rd_T41 l0 x8_1).f0).size + 1 ≤ 9223372036854775807
            · rw [if_pos c5] at H
              have c5b0 := eq_true c5
              have c5b1 : decide (((rd_T41 l0 x8_1).f0).size + 1 ≤ 9223372036854775807) = true := decide_eq_true c5
              try have c5b2 : (9223372036854775807 < ((rd_T41 l0 x8_1).f0).size + 1) = False := eq_false (Nat.not_lt.2 c5)
              replace H := Option.bind_eq_some_iff.mp H
              obtain ⟨t131, A60, H⟩ := H
              replace H : (if (((rd_T41 l0 x8_1).f0) ++ (⟨#[61]⟩ : ByteArray)).size + t131.size ≤ 9223372036854775807 then (if x3_1.length < 8796093022208 then (label_Text.l0 k1 (x3_1 ++ [(((rd_T41 l0 x8_1).f0) ++ (⟨#[61]⟩ : ByteArray)) ++ t131]) l0 (l0.length : Int) (wrap64 (x8_1 + 1))) else (none)) else (none)) = some r := H
              have A6 := Aside0.mk A60
              clear A60
              by_cases c7 : (((rd_T41 l0 x8_1).f0) ++ (⟨#[61]⟩ : ByteArray)).size + t131.size ≤ 9223372036854775807
              · rw [if_pos c7] at H
                have c7b0 := eq_true c7
                have c7b1 : decide ((((rd_T41 l0 x8_1).f0) ++ (⟨#[61]⟩ : ByteArray)).size + t131.size ≤ 9223372036854775807) = true := decide_eq_true c7
                try have c7b2 : (9223372036854775807 < (((rd_T41 l0 x8_1).f0) ++ (⟨#[61]⟩ : ByteArray)).size + t131.size) = False := eq_false (Nat.not_lt.2 c7)
                have c7b3 : (9223372036854775807 < ((rd_T41 l0 x8_1).f0).size + 1 + t131.size) = False := eq_false (by have h_ := c7; rw [ByteArray.size_append] at h_; exact Nat.not_lt.2 h_)
                by_cases c8 : x3_1.length < 8796093022208
                · rw [if_pos c8] at H
                  have LMc8 := Aside0.mk c8
                  clear c8
                  obtain ⟨y132, hy132⟩ : ∃ y_ : List ByteArray, y_ = (x3_1 ++ [(((rd_T41 l0 x8_1).f0) ++ (⟨#[61]⟩ : ByteArray)) ++ t131]) := ⟨_, rfl⟩
                  replace H : (label_Text.l0 k1 y132 l0 (l0.length : Int) (wrap64 (x8_1 + 1))) = some r := by first | (rw [hy132]; with_reducible exact H) | (have H2_ := (Option.bind_some _ _).symm.trans H; rw [hy132]; with_reducible exact H2_) | (have H2_ := (Option.bind_some _ _).symm.trans H; with_reducible exact H2_) | with_reducible exact H | (rw [hy132]; exact H) | exact H
                  have Ny132 := Aside0.mk hy132
                  clear hy132
                  have H' := Aside0.mk H
                  clear H
                  have p129 : 0 ≤ (x8_1 : Int) := of_decide_eq_true (by first | (with_reducible assumption) | assumption)
                  have q129 : x8_1 < (l0.length : Int) := of_decide_eq_true (by first | (with_reducible assumption) | assumption)
                  obtain ⟨ad129, e129, hx129_0, hx129_1⟩ := at_T41 HR0.out x8_1 p129 q129
                  cases e129
                  replace hx129_0 := (HB.out.cell (World.block_lt_of_cell? w _ hx129_0)).trans hx129_0
                  replace hx129_1 := (HB.out.cell (World.block_lt_of_cell? w _ hx129_1)).trans hx129_1
                  replace p129 := eq_true p129
                  replace q129 := eq_true q129
                  try go_wp2_with (first | ((with_reducible refine gate_dst (N := 5) rfl ?_); refine box_event ?hg (N := 5) ?hd (cs := #[.string (⟨#[]⟩ : ByteArray), .string (⟨#[]⟩ : ByteArray)]) (t := 41) ?hr ?_; (case hd => rfl); (case hg => rfl); (case hr => first | (go_simp; done) | (go_simp; rfl)); intro gb130 hg w9 hbox hb; have n0_ := Aside0.mk (Kd.R_below (by (with_reducible repeat (first | apply Kd.R_alloc | apply Kd.R_drewN | apply Kd.R_drew)); exact HO_3.out) hb); have n1_ := Aside0.mk (below_step (by repeat (first | (with_reducible first | exact HB.out | apply below_alloc | apply pw_below_drewN | apply below_drew1) | exact HB.out)) hb); have n2_ := Aside0.mk (hbox); have n3_ := Aside0.mk ((by rw [hg]; exact (below_size (by repeat (first | (with_reducible first | exact HB.out | apply below_alloc | apply pw_below_drewN | apply below_drew1) | exact HB.out))) : w.heap.size ≤ gb130)); have n4_ := Aside0.mk ((by rw [hg]; exact (below_size (by repeat (first | (with_reducible first | exact HB.out | apply below_alloc | apply pw_below_drewN | apply below_drew1) | exact HB.out))) : w.heap.size ≤ gb130)); clear HO_3; clear HB; have HO_3 := n0_; have HB := n1_; have BK130 := n2_; have GW130 := n3_; have GE130 := n4_; clear n0_ n1_ n2_ n3_ n4_; clear hb hbox hg; have hcz10_0 : w9.cell? ⟨gb130, 0, none⟩ = some (.string (⟨#[]⟩ : ByteArray)) := (blk_cell BK130.out 0).trans rfl; have hcz10_1 : w9.cell? ⟨gb130, 1, none⟩ = some (.string (⟨#[]⟩ : ByteArray)) := (blk_cell BK130.out 1).trans rfl; have hfz10_0 := blk_frozen BK130.out 0; have hfz10_1 := blk_frozen BK130.out 1))
                  have n0_ : Aside0 (Kd.R Kd.string 9 ((w9.setCell ⟨gb130, 0, none⟩ (.string ((rd_T41 l0 x8_1).f0))).setCell ⟨gb130, 1, none⟩ (.string ((rd_T41 l0 x8_1).f1))) w.heap.size (fun _ => True) u3 x3_1) := ⟨by (with_reducible repeat (first | apply Kd.R_alloc | apply Kd.R_drewN | apply Kd.R_drew)); exact Kd.R_mono (Kd.R_far (p := ⟨gb130, 1, none⟩) (Kd.R_far (p := ⟨gb130, 0, none⟩) (Kd.R_types HO_3.out BK130.out (by decide)) (fun _ hk => hk.2) (.string ((rd_T41 l0 x8_1).f0))) (fun _ hk => hk.2) (.string ((rd_T41 l0 x8_1).f1))) (fun _ hk => trivial)⟩
                  have n1_ : Aside0 (((w9.setCell ⟨gb130, 0, none⟩ (.string ((rd_T41 l0 x8_1).f0))).setCell ⟨gb130, 1, none⟩ (.string ((rd_T41 l0 x8_1).f1))).heap[gb130]? = some (.cells #[.string ((rd_T41 l0 x8_1).f0), .string ((rd_T41 l0 x8_1).f1)] 41 (0, 0))) := ⟨by (with_reducible repeat (first | refine blk_drewN ?_ _ | refine blk_drew ?_ | refine blk_alloc ?_ _)); refine blk_put (cs := #[.string ((rd_T41 l0 x8_1).f0), .string (⟨#[]⟩ : ByteArray)]) ?_ 1 _ rfl; (with_reducible repeat (first | refine blk_drewN ?_ _ | refine blk_drew ?_ | refine blk_alloc ?_ _)); refine blk_put (cs := #[.string (⟨#[]⟩ : ByteArray), .string (⟨#[]⟩ : ByteArray)]) ?_ 0 _ rfl; (with_reducible repeat (first | refine blk_drewN ?_ _ | refine blk_drew ?_ | refine blk_alloc ?_ _)); exact BK130.out⟩
                  have n2_ : Aside0 (Below w.heap.size w ((w9.setCell ⟨gb130, 0, none⟩ (.string ((rd_T41 l0 x8_1).f0))).setCell ⟨gb130, 1, none⟩ (.string ((rd_T41 l0 x8_1).f1)))) := ⟨by repeat (first | (with_reducible first | exact HB.out | apply below_alloc | apply pw_below_drewN | apply below_drew1 | refine below_set ?_ GE130.out) | exact HB.out)⟩
                  (try clear HO_3)
                  (try clear BK130)
                  (try clear HB)
                  generalize ((w9.setCell ⟨gb130, 0, none⟩ (.string ((rd_T41 l0 x8_1).f0))).setCell ⟨gb130, 1, none⟩ (.string ((rd_T41 l0 x8_1).f1))) = w11 at n0_ n1_ n2_ ⊢
                  have HO_3 := n0_
                  have BK130 := n1_
                  have HB := n2_
                  clear n0_ n1_ n2_
                  have n0_ := Aside0.mk (Kd.R_drew HO_3.out)
                  have n1_ := Aside0.mk (blk_drew BK130.out)
                  have n2_ := Aside0.mk (below_drew1 HB.out)
                  clear HO_3
                  clear BK130
                  clear HB
                  have HO_3 := n0_
                  have BK130 := n1_
                  have HB := n2_
                  clear n0_ n1_ n2_
                  refine start_ (n := 11) (S := fun w' => w'.cell? ⟨gb130, 0, none⟩ = some (.string ((rd_T41 l0 x8_1).f0)) ∧ w'.cell? ⟨gb130, 1, none⟩ = some (.string ((rd_T41 l0 x8_1).f1))) (ds := []) #[false, false, false, false, false, false, false, false, false, false, false] (by kernel_rfl) rfl rfl ⟨(blk_cell BK130.out 0).trans rfl, (blk_cell BK130.out 1).trans rfl⟩ (fun hHeld => ?_); refine with_tabW label_Text.tab5 label_Text.bits5 (fun HT_ HW_ => ?_)
                  generalize w11.drew = w12 at HO_3 BK130 HB hHeld ⊢
                  refine pure_ (i := 0) (N := some 12) (v := ?_) (a' := ?_) #[true, false, false, false, false, false, false, false, false, false, false] rfl rfl (any_of HT_.out (by kernel_rfl)) (fun _ _ _ h => h) (Or.inl ⟨by rfl, ?_⟩) ?_ ?_
                  rotate_left
                  · intro w'
                    go_simp
                    with_reducible rfl
                  rotate_left
                  · simp only [Act.put, List.setIfInBounds_toArray, List.set_cons_zero, List.set_cons_succ, i64_w, i32_w]
                    rfl
                  refine pure_ (i := 1) (N := some 13) (v := ?_) (a' := ?_) #[true, true, false, false, false, false, false, false, false, false, false] rfl rfl (any_of HT_.out (by kernel_rfl)) (fun _ _ _ h => h) (Or.inl ⟨by rfl, ?_⟩) ?_ ?_
                  rotate_left
                  · intro w'
                    go_simp
                    with_reducible rfl
                  rotate_left
                  · simp only [Act.put, List.setIfInBounds_toArray, List.set_cons_zero, List.set_cons_succ, i64_w, i32_w]
                    rfl
                  refine pure_ (i := 4) (N := some 16) (v := ?_) (a' := ?_) #[true, true, false, false, true, false, false, false, false, false, false] rfl rfl (any_of HT_.out (by kernel_rfl)) (fun _ _ _ h => h) (Or.inl ⟨by rfl, ?_⟩) ?_ ?_
                  rotate_left
                  · intro w'
                    go_simp
                    with_reducible rfl
                  rotate_left
                  · simp only [Act.put, List.setIfInBounds_toArray, List.set_cons_zero, List.set_cons_succ, i64_w, i32_w]
                    rfl
                  refine take_ (i := 2) (N := some 14) (v := ?_) (a' := ?_) #[true, true, true, false, true, false, false, false, false, false, false] rfl rfl (take_ofW HT_.out HW_.out (by kernel_rfl)) (fun _ _ _ h => h) (Or.inl ⟨by rfl, ?_⟩) hHeld ?_ ?_
                  rotate_left
                  · rintro w' ⟨s0, s1⟩
                    go_simp
                    with_reducible rfl
                  rotate_left
                  · simp only [Act.put, List.setIfInBounds_toArray, List.set_cons_zero, List.set_cons_succ, i64_w, i32_w]
                    rfl
                  refine pure_ (i := 3) (N := some 15) (v := ?_) (a' := ?_) #[true, true, true, true, true, false, false, false, false, false, false] rfl rfl (any_of HT_.out (by kernel_rfl)) (fun _ _ _ h => h) (Or.inl ⟨by rfl, ?_⟩) ?_ ?_
                  rotate_left
                  · intro w'
                    go_simp
                    with_reducible rfl
                  rotate_left
                  · simp only [Act.put, List.setIfInBounds_toArray, List.set_cons_zero, List.set_cons_succ, i64_w, i32_w]
                    rfl
                  refine take_ (i := 5) (N := some 17) (v := ?_) (a' := ?_) #[true, true, true, true, true, true, false, false, false, false, false] rfl rfl (take_ofW HT_.out HW_.out (by kernel_rfl)) (fun _ _ _ h => h) (Or.inl ⟨by rfl, ?_⟩) hHeld ?_ ?_
                  rotate_left
                  · rintro w' ⟨s0, s1⟩
                    go_simp
                    with_reducible rfl
                  rotate_left
                  · simp only [Act.put, List.setIfInBounds_toArray, List.set_cons_zero, List.set_cons_succ, i64_w, i32_w]
                    rfl
                  refine one_ (i := 6) (N := some 18) #[true, true, true, true, true, true, true, false, false, false, false] rfl rfl (one_of HT_.out (by kernel_rfl)) (by decide) (fun K hK => ?_)
                  refine goes_ Try.func55 (by kernel_rfl) rfl #[.string ((rd_T41 l0 x8_1).f1)] (by rfl) rfl rfl (by (try simp only [List.map_toArray, List.map_cons, List.map_nil]); first | done | rfl | (simp only [List.length_drop, List.length_take]; rfl)) ?_
                  with_reducible refine (label_Quoted.calls k1 ((rd_T41 l0 x8_1).f1) t131 _ A6.out).mono ?_
                  rintro e w13 ⟨rfl, hb⟩
                  refine ⟨_, rfl, ?_⟩
                  have n0_ := Aside0.mk (Kd.R_below (by (with_reducible repeat (first | apply Kd.R_alloc | apply Kd.R_drewN | apply Kd.R_drew)); exact HO_3.out) hb)
                  have n1_ := Aside0.mk (blk_below (g := gb130) (o := .cells #[.string ((rd_T41 l0 x8_1).f0), .string ((rd_T41 l0 x8_1).f1)] 41 (0, 0)) (by (with_reducible repeat (first | refine blk_drewN ?_ _ | refine blk_drew ?_ | refine blk_alloc ?_ _)); exact BK130.out) hb)
                  have n2_ := Aside0.mk (below_step (by repeat (first | (with_reducible first | exact HB.out | apply below_alloc | apply pw_below_drewN | apply below_drew1 | refine below_set ?_ GE130.out) | exact HB.out)) hb)
                  clear HO_3
                  clear BK130
                  clear HB
                  have HO_3 := n0_
                  have BK130 := n1_
                  have HB := n2_
                  clear n0_ n1_ n2_
                  (try clear hb)
                  (try clear hb2)
                  (try clear hk)
                  (try clear hi)
                  refine hK.out _ _ ⟨(blk_cell BK130.out 0).trans rfl, (blk_cell BK130.out 1).trans rfl⟩ (fun hHeld => ?_)
                  clear hK K
                  refine norm_ (a' := ?_) ?_ ?_
                  rotate_left
                  · show Act.put _ (some 18) _ = _
                    simp only [Act.put, List.setIfInBounds_toArray, List.set_cons_zero, List.set_cons_succ, i64_w, i32_w]
                    rfl
                  refine pure_ (i := 7) (N := some 19) (v := ?_) (a' := ?_) #[true, true, true, true, true, true, true, true, false, false, false] rfl rfl (any_of HT_.out (by kernel_rfl)) (fun _ _ _ h => h) (Or.inl ⟨by rfl, ?_⟩) ?_ ?_
                  rotate_left
                  · intro w'
                    go_simp
                    with_reducible rfl
                  rotate_left
                  · simp only [Act.put, List.setIfInBounds_toArray, List.set_cons_zero, List.set_cons_succ, i64_w, i32_w]
                    rfl
                  refine one_ (i := 8) (N := some 20) #[true, true, true, true, true, true, true, true, true, false, false] rfl rfl (one_of HT_.out (by kernel_rfl)) (by decide) (fun K hK => ?_)
                  refine value_ (w1 := ?_) (v := ?_) (by rfl) rfl ?_ ?_
                  rotate_left 2
                  · go_simp
                    constructor
                    · rfl
                    · rfl
                  refine hK.out _ _ ⟨(blk_cell (blk_alloc BK130.out _) 0).trans rfl, (blk_cell (blk_alloc BK130.out _) 1).trans rfl⟩ (fun hHeld => ?_)
                  clear hK K
                  refine norm_ (a' := ?_) ?_ ?_
                  rotate_left
                  · show Act.put _ (some 20) _ = _
                    simp only [Act.put, List.setIfInBounds_toArray, List.set_cons_zero, List.set_cons_succ, i64_w, i32_w]
                    rfl
                  refine one_ (i := 9) (N := some 21) #[true, true, true, true, true, true, true, true, true, true, false] rfl rfl (one_of HT_.out (by kernel_rfl)) (by decide) (fun K hK => ?_)
                  refine Kd.R_append_step Kd.string (w0 := w) w.heap.size (by rfl) (.tmp 12) (.tmp 20) 51 9 (.string ⟨#[]⟩) 16 rfl Try.underlying51 info9 rfl (by decide) (by omega) u3 x3_1 ((((rd_T41 l0 x8_1).f0) ++ (⟨#[61]⟩ : ByteArray)) ++ t131) [.string ((((rd_T41 l0 x8_1).f0) ++ (⟨#[61]⟩ : ByteArray)) ++ t131)] (fun _ => True) (fun _ => False) rfl rfl ?aP (fun _ hk => hk.elim) ?aF ?aO ?aB ?aS ?aL ?_
                  (case aP => exact rfl)
                  (case aB => exact (by repeat (first | (with_reducible first | exact HB.out | apply below_alloc | apply pw_below_drewN | apply below_drew1 | refine below_set ?_ GE130.out) | exact HB.out)))
                  (case aF => exact (fun _ _ => trivial))
                  (case aO => exact (by (with_reducible repeat (first | apply Kd.R_alloc | apply Kd.R_drewN | apply Kd.R_drew)); exact HO_3.out))
                  (case aS => exact (below_size (by repeat (first | (with_reducible first | exact HB.out | apply below_alloc | apply pw_below_drewN | apply below_drew1 | refine below_set ?_ GE130.out) | exact HB.out))))
                  (case aL => have := LMc8.out; omega)
                  intro v133 w14 ho hb hg hat
                  rw [← Ny132.out] at ho
                  have n0_ := Aside0.mk (blk_grown (g := gb130) (o := .cells #[.string ((rd_T41 l0 x8_1).f0), .string ((rd_T41 l0 x8_1).f1)] 41 (0, 0)) (by (with_reducible repeat (first | refine blk_drewN ?_ _ | refine blk_drew ?_ | refine blk_alloc ?_ _)); exact BK130.out) hg (Kd.R_ne HO_3.out BK130.out (by decide)))
                  have n1_ := Aside0.mk (hb)
                  have n2_ := Aside0.mk (ho)
                  clear BK130
                  clear HB
                  clear HO_3
                  have BK130 := n0_
                  have HB := n1_
                  have HO134 := n2_
                  clear n0_ n1_ n2_
                  clear ho hb hg hat
                  refine hK.out _ _ ⟨(blk_cell BK130.out 0).trans rfl, (blk_cell BK130.out 1).trans rfl⟩ (fun hHeld => ?_)
                  clear hK K
                  refine norm_ (a' := ?_) ?_ ?_
                  rotate_left
                  · show Act.put _ (some 21) _ = _
                    simp only [Act.put, List.setIfInBounds_toArray, List.set_cons_zero, List.set_cons_succ, i64_w, i32_w]
                    rfl
                  refine pure_ (i := 10) (N := some 3) (v := ?_) (a' := ?_) #[true, true, true, true, true, true, true, true, true, true, true] rfl rfl (any_of HT_.out (by kernel_rfl)) (fun _ _ _ h => h) (Or.inl ⟨by rfl, ?_⟩) ?_ ?_
                  rotate_left
                  · intro w'
                    go_simp
                    with_reducible rfl
                  rotate_left
                  · simp only [Act.put, List.setIfInBounds_toArray, List.set_cons_zero, List.set_cons_succ, i64_w, i32_w]
                    rfl
                  refine done_ (done_of HT_.out (by kernel_rfl)) ?_
                  try go_wp2
                  go_roundg k1
                  case measure => have := HK1.out; omega
                  case rel => exact ⟨(y132), (wrap64 (x8_1 + 1)), (by first | rfl | (simp; done) | (simp [*]; done)), H', ⟨by have := HK1.out; omega⟩, ⟨by (with_reducible repeat (first | apply Kd.R_alloc | apply Kd.R_drewN | apply Kd.R_drew)); exact HO134.out⟩, ⟨by repeat (first | (with_reducible first | exact HB.out | apply below_alloc | apply pw_below_drewN | apply below_drew1 | refine below_set ?_ GE130.out) | exact HB.out)⟩⟩
                · rw [if_neg c8] at H
                  exact absurd H (by simp)
              · rw [if_neg c7] at H
                exact absurd H (by simp)
            · rw [if_neg c5] at H
              exact absurd H (by simp)
          · rw [if_neg c4] at H
            exact absurd H (by simp)
        · rw [if_neg c3] at H
          exact absurd H (by simp)
      · rw [if_neg c2] at H
        have c2b0 : decide (x8_1 < (l0.length : Int)) = false := decide_eq_false c2
        clear c2
        replace H := Option.bind_eq_some_iff.mp H
        obtain ⟨t135, A150, H⟩ := H
        replace H : (some t135) = some r := H
        have A15 := Aside0.mk A150
        clear A150
        obtain rfl := Option.some.inj H
        obtain ⟨Ao16, co16, eo16⟩ := Kd.R_slice HO_3.out
        subst eo16
        go_wp2_with (first | ((with_reducible refine gate_callee (f := 56) rfl ?_); refine goesL_ (some 24) rfl rfl Try.func56 (by kernel_rfl) rfl #[.slice Ao16 x3_1.length co16, .string (⟨#[44]⟩ : ByteArray)] rfl (by (try simp only [List.map_toArray, List.map_cons, List.map_nil]); first | done | rfl | (simp only [List.length_drop, List.length_take]; rfl)) ?_; (with_reducible refine (strings_Join.calls (b_ := ?bb_) (ok_ := ?okk_) _ _ x3_1 (⟨#[44]⟩ : ByteArray) t135 _ ?side1 ?side2 A15.out).mono ?_); (case side1 => (with_reducible repeat (first | apply Kd.R_alloc | apply Kd.R_drewN | apply Kd.R_drew)); exact HO_3.out); (case side2 => exact (Kd.R_reads' HO_3.out).2.1); rintro e w17 ⟨rfl, hb⟩; refine ⟨_, rfl, ?_⟩; have n0_ := Aside0.mk (Kd.R_below (by (with_reducible repeat (first | apply Kd.R_alloc | apply Kd.R_drewN | apply Kd.R_drew)); exact HO_3.out) hb); have n1_ := Aside0.mk (below_step (by repeat (first | (with_reducible first | exact HB.out | apply below_alloc | apply pw_below_drewN | apply below_drew1) | exact HB.out)) hb); clear HO_3; clear HB; have HO_3 := n0_; have HB := n1_; clear n0_ n1_; (try clear hb); (try clear hb2); (try clear hk); (try clear hi)))
        go_ret
        exact ⟨by first | rfl | (simp [errW_none, errW_some] <;> rfl) | (simp [*, errW_none, errW_some] <;> rfl), by repeat (first | (with_reducible first | exact HB.out | apply below_alloc | apply pw_below_drewN | apply below_drew1) | exact HB.out)⟩
end Go.Proofs.Ytlkhdbfhnpbbhaa.Tx
namespace Go.Proofs.Ytlkhdbfhnpbbhaa.Pure
set_option linter.unusedVariables false
set_option linter.unusedSimpArgs false
open Go.RowKit Go.Proofs.YtlkhdbfhnpbbhaaW.PrintWords Go.Proofs.YtlkhdbfhnpbbhaaW.PrintLast Go.Proofs.YtlkhdbfhnpbbhaaW.PrintMore Go.Proofs.Ytlkhdbfhnpbbhaa.Ix Go.Proofs.Ytlkhdbfhnpbbhaa.Tx
theorem less_irr : ∀ x : List UInt8, Op.bytesLess x x = false
  | [] => rfl
  | a :: x => by simp only [Op.bytesLess, less_irr x, Bool.and_false, Bool.or_false, decide_eq_false_iff_not]; exact UInt8.lt_irrefl a
theorem texts_eq (a b : ByteArray) : ∃ r, varveref11_texts.f a b = some r ∧ (r = 0 ↔ a = b) := by
  unfold varveref11_texts.f
  by_cases h1 : Op.bytesLess a.toList b.toList = true
  · rw [if_pos h1]
    exact ⟨-1, rfl, by simp; rintro rfl; rw [less_irr] at h1; cases h1⟩
  · rw [if_neg h1]
    by_cases h2 : Op.bytesLess b.toList a.toList = true
    · rw [if_pos h2]
      exact ⟨1, rfl, by simp; rintro rfl; rw [less_irr] at h2; cases h2⟩
    · rw [if_neg h2]
      refine ⟨0, rfl, ?_⟩
      simp only [true_iff]
      have h := less_swap a.toList b.toList
      rw [eq_false_of_ne_true h1, eq_false_of_ne_true h2] at h
      simp at h
      exact bytes_ext h
theorem cmp_l0 (l m : List LB) (hl : l.length ≤ 140737488351232) (hm : m.length ≤ 140737488351232) : ∀ (d i k : Nat), i + d = l.length → i ≤ m.length → 2 * d + 1 < k → ∃ r, varveref11_Cmp.l0 k l m (i : Int) = some r ∧ (r = 0 ↔ l.drop i = m.drop i)
  | 0, i, k, h, hi, hk => by
    obtain ⟨k, rfl⟩ : ∃ n, k = n + 2 := ⟨k - 2, by omega⟩
    rw [varveref11_Cmp.l0, if_neg (by omega), varveref11_Cmp.j1, if_neg (by simp), List.drop_eq_nil_of_le (show l.length ≤ i by omega)]
    by_cases h1 : (l.length : Int) < (m.length : Int)
    · rw [if_pos h1]
      refine ⟨-1, rfl, by simp; omega⟩
    · rw [if_neg h1, if_neg (by omega), List.drop_eq_nil_of_le (by omega)]
      exact ⟨0, rfl, by simp⟩
  | d + 1, i, k, h, hi, hk => by
    obtain ⟨k, rfl⟩ : ∃ n, k = n + 2 := ⟨k - 2, by omega⟩
    rw [varveref11_Cmp.l0, if_pos (by omega), varveref11_Cmp.j1]
    by_cases h1 : i < m.length
    · obtain ⟨r, e, hr⟩ := cmp_l0 l m hl hm d (i + 1) k (by omega) (by omega) (by omega)
      rw [Int.natCast_add, Int.natCast_one] at e
      obtain ⟨r0, e0, hr0⟩ := texts_eq (rd_T41 l (i : Int)).f0 (rd_T41 m (i : Int)).f0
      obtain ⟨r1, e1, hr1⟩ := texts_eq (rd_T41 l (i : Int)).f1 (rd_T41 m (i : Int)).f1
      rw [if_pos (by simp; omega), if_pos (by omega), if_pos (by omega), if_pos (by omega), e0, Option.bind_some, w64 (by omega) (by omega), e, drop_rd l i (by omega), drop_rd m i (by omega)]
      by_cases c0 : r0 = 0
      · rw [if_pos c0, e1, Option.bind_some]
        by_cases c1 : r1 = 0
        · rw [if_pos c1]
          have : rd_T41 l (i : Int) = rd_T41 m (i : Int) := lb_ext (by rw [hr0.1 c0]) (by rw [hr1.1 c1])
          exact ⟨r, rfl, by rw [this]; simp [hr]⟩
        · rw [if_neg c1]
          exact ⟨r1, rfl, by simp [c1]; intro c; exact absurd (hr1.2 (by rw [c])) c1⟩
      · rw [if_neg c0]
        exact ⟨r0, rfl, by simp [c0]; intro c; exact absurd (hr0.2 (by rw [c])) c0⟩
    · rw [if_neg (by simp; omega), if_neg (by omega), if_pos (by omega), drop_rd l i (by omega), List.drop_eq_nil_of_le (show m.length ≤ i by omega)]
      exact ⟨1, rfl, by simp⟩
/-- The document's Cmp tells 0 just where the sets are one. -/
theorem cmp_eq (l m : List LB) (hl : l.length ≤ 140737488351232) (hm : m.length ≤ 140737488351232) (k : Nat) (hk : 2 * l.length + 1 < k) : ∃ r, varveref11_Cmp.f k l m = some r ∧ (r = 0 ↔ l = m) := by
  obtain ⟨r, e, h⟩ := cmp_l0 l m hl hm l.length 0 k (by omega) (by omega) hk
  exact ⟨r, e, by simpa using h⟩
theorem and15 : ∀ n : Fin 256, Go.bits .and .u8 ((n.val : Nat) : Int) 15 = ((n.val % 16 : Nat) : Int) := by decide +kernel
theorem hex_at : ∀ n : Fin 16, bt (⟨#[48, 49, 50, 51, 52, 53, 54, 55, 56, 57, 97, 98, 99, 100, 101, 102]⟩ : ByteArray) ((n.val : Nat) : Int) = hexd ((n.val : Nat) : Int) := by decide +kernel
theorem bytes_drop (s : ByteArray) (i : Nat) (h : i < s.size) : (bytesOf s).drop i = bt s (i : Int) :: (bytesOf s).drop (i + 1) := by
  have hl := bytesOf_length s
  rw [List.drop_eq_getElem_cons (by omega), ← rd_bytesOf]
  congr 1
  simp [rd, show i < (bytesOf s).length by omega]
theorem quoted_l0 (s : ByteArray) (hs : s.size ≤ 1000000) : ∀ (d i k : Nat) (acc : List Int), i + d = s.size → 2 * d < k → acc.length + 4 * d ≤ 10000000 →
    label_Quoted.l0 k s acc (s.size : Int) (i : Int) = some (strOfNums (acc ++ ((bytesOf s).drop i).flatMap esc ++ [34]))
  | 0, i, k, acc, h, hk, ha => by
    obtain ⟨k, rfl⟩ : ∃ n, k = n + 1 := ⟨k - 1, by omega⟩
    rw [label_Quoted.l0, if_neg (by omega), if_pos (by omega), List.drop_eq_nil_of_le (by rw [bytesOf_length]; omega)]; simp
  | d + 1, i, k, acc, h, hk, ha => by
    obtain ⟨k, rfl⟩ : ∃ n, k = n + 2 := ⟨k - 2, by omega⟩
    have hb := bt_range s (i : Int)
    rw [bytes_drop s i (by omega), List.flatMap_cons]
    have ih := fun (x : List Int) (hx : x.length ≤ 4) => quoted_l0 s hs d (i + 1) k (acc ++ x) (by omega) (by omega) (by rw [List.length_append]; omega)
    rw [Int.natCast_add, Int.natCast_one] at ih
    have e0 : label_Quoted.l0 (k + 2) s acc (s.size : Int) (i : Int) = label_Quoted.j1 (k + 1) s acc (bt s (i : Int)) (s.size : Int) (i : Int) (decide (bt s (i : Int) = 34 ∨ bt s (i : Int) = 92)) := by
      rw [label_Quoted.l0, if_pos (by omega), if_pos (by omega), if_pos (by omega)]
      by_cases c : bt s (i : Int) = 34
      · rw [if_pos c]; simp [c]
      · rw [if_neg c]; congr 1; rw [Bool.eq_iff_iff]; simp [c]
    rw [e0, label_Quoted.j1]
    generalize hc : bt s (i : Int) = c at *
    rw [w64 (by omega) (by omega)]
    by_cases h1 : c = 34 ∨ c = 92
    · rw [if_pos (by simpa using h1), Option.bind_some, if_pos (by simp; omega), ih [92, c] (by simp), esc, if_pos h1]
      simp
    · rw [if_neg (by simpa using h1)]
      have hex : ∀ (X : Option ByteArray), X = some (strOfNums (acc ++ ([92, 120, hexd (c / 16), hexd (c % 16)] ++ ((bytesOf s).drop (i + 1)).flatMap esc) ++ [34])) ∨ True := fun _ => .inr trivial
      obtain ⟨n, rfl⟩ := Int.eq_ofNat_of_zero_le hb.1
      have hn : n < 256 := by omega
      have b1 : Go.bits .and .u8 (n : Int) 15 = ((n % 16 : Nat) : Int) := and15 ⟨n, hn⟩
      have b2 := hex_at ⟨n % 16, by omega⟩
      have b3 := hex_at ⟨n / 16, by omega⟩
      simp only at b2 b3
      have b4 : (n : Int) / 16 = ((n / 16 : Nat) : Int) := by omega
      have b5 : (n : Int) % 16 = ((n % 16 : Nat) : Int) := by omega
      rw [b1, b4, b2, b3]
      rw [show esc (n : Int) = if (n : Int) < 32 ∨ 127 ≤ (n : Int) then [92, 120, hexd ((n / 16 : Nat) : Int), hexd ((n % 16 : Nat) : Int)] else [(n : Int)] by rw [esc, if_neg h1, b4, b5]]
      have key : (if acc.length + ([92, 120, hexd ((n / 16 : Nat) : Int), hexd ((n % 16 : Nat) : Int)] : List Int).length < 140737488355328 then label_Quoted.l0 k s (acc ++ [92, 120, hexd ((n / 16 : Nat) : Int), hexd ((n % 16 : Nat) : Int)]) (s.size : Int) ((i : Int) + 1) else none) =
          some (strOfNums (acc ++ ([92, 120, hexd ((n / 16 : Nat) : Int), hexd ((n % 16 : Nat) : Int)] ++ List.flatMap esc (List.drop (i + 1) (bytesOf s))) ++ [34])) := by
        rw [if_pos (by simp; omega), ih _ (by simp)]; simp
      by_cases h2 : (n : Int) < 32
      · rw [if_pos h2, if_pos (by omega), if_pos (by omega), if_pos (by omega), if_pos (by omega), Option.bind_some, key, if_pos (.inl h2)]
      · rw [if_neg h2]
        by_cases h3 : (n : Int) ≥ 127
        · rw [if_pos h3, if_pos (by omega), if_pos (by omega), if_pos (by omega), if_pos (by omega), Option.bind_some, key, if_pos (.inr h3)]
        · rw [if_neg h3, if_pos (by omega), ih [(n : Int)] (by simp), if_neg (by omega)]; simp
theorem quoted_eq (s : ByteArray) (hs : s.size ≤ 1000000) (k : Nat) (hk : 2 * s.size < k) : label_Quoted.f k s = some (strOfNums (quo (bytesOf s))) := by
  unfold label_Quoted.f
  exact (quoted_l0 s hs s.size 0 k [34] (by omega) hk (by simp; omega)).trans (by simp [quo])
end Go.Proofs.Ytlkhdbfhnpbbhaa.Pure
namespace Go.Proofs.Ytlkhdbfhnpbbhaa.Pure
set_option linter.unusedVariables false
set_option linter.unusedSimpArgs false
open Go.RowKit Go.Proofs.YtlkhdbfhnpbbhaaW.PrintWords Go.Proofs.YtlkhdbfhnpbbhaaW.PrintLast Go.Proofs.YtlkhdbfhnpbbhaaW.PrintMore Go.Proofs.Ytlkhdbfhnpbbhaa.Ix Go.Proofs.Ytlkhdbfhnpbbhaa.Tx
/-- one label's text -/
def itmB (x : LB) : ByteArray := (x.f0 ++ (⟨#[61]⟩ : ByteArray)) ++ strOfNums (quo (bytesOf x.f1))
def textB (l : List LB) : ByteArray := ⟨(Lib.join ((l.map itmB).map (·.data.toList)) ((⟨#[44]⟩ : ByteArray)).data.toList).toArray⟩
def pr (x : LB) : List Int × List Int := (bytesOf x.f0, bytesOf x.f1)
/-- what a label that may be holds -/
structure LbFine (x : LB) : Prop where
  name : nm x.f0 = true
  size : x.f1.size ≤ 64
theorem nmFrom_at (s : ByteArray) : ∀ (d i : Nat), nmFrom s d i = true → ∀ j, i ≤ j → j < i + d → nb (bt s (j : Int)) = true
  | 0, i, _, j, h1, h2 => by omega
  | d + 1, i, h, j, h1, h2 => by
    rw [nmFrom, Bool.and_eq_true] at h
    by_cases e : j = i
    · rw [e]; exact h.1
    · exact nmFrom_at s d (i + 1) h.2 j (by omega) (by omega)
theorem fine_okL {x : LB} (h : LbFine x) : OkL (pr x) := by
  have hn := h.name
  unfold nm at hn
  simp only [Bool.and_eq_true, decide_eq_true_eq] at hn
  refine ⟨?_, ?_⟩
  · intro hm
    obtain ⟨j, hj, e⟩ := List.getElem_of_mem hm
    simp only [pr] at hj e
    have hl := bytesOf_length x.f0
    have h1 := nmFrom_at x.f0 x.f0.size 0 hn.2 j (by omega) (by omega)
    rw [← rd_bytesOf] at h1
    have h2 : rd (bytesOf x.f0) (j : Int) = 61 := by simp [rd, hj, e]
    rw [h2] at h1
    simp [nb] at h1
  · intro c hc
    simp only [pr, bytesOf, List.mem_map] at hc
    obtain ⟨b, -, rfl⟩ := hc
    have := b.toNat_lt
    omega
theorem fine_nsize {x : LB} (h : LbFine x) : x.f0.size ≤ 32 := by
  have hn := h.name
  unfold nm at hn
  simp only [Bool.and_eq_true, decide_eq_true_eq] at hn
  exact hn.1.1.2
theorem chkFrom_at (l : List LB) : ∀ (d i : Nat), chkFrom l d i = true → ∀ j, i ≤ j → j < i + d → lbOk l j = true
  | 0, i, _, j, h1, h2 => by omega
  | d + 1, i, h, j, h1, h2 => by
    rw [chkFrom, Bool.and_eq_true] at h
    by_cases e : j = i
    · rw [e]; exact h.1
    · exact chkFrom_at l d (i + 1) h.2 j (by omega) (by omega)
theorem chk_fine {l : List LB} (h : chk l = true) : (∀ x ∈ l, LbFine x) ∧ l.length ≤ 8 ∧ 1 ≤ l.length := by
  unfold chk at h
  simp only [Bool.and_eq_true, decide_eq_true_eq] at h
  refine ⟨fun x hx => ?_, h.1.2, h.1.1⟩
  obtain ⟨j, hj, e⟩ := List.getElem_of_mem hx
  have h1 := chkFrom_at l l.length 0 h.2 j (by omega) (by omega)
  have h2 : rd_T41 l (j : Int) = x := by simp [rd_T41, hj, e]
  unfold lbOk at h1
  simp only [Bool.and_eq_true, decide_eq_true_eq] at h1
  rw [h2] at h1
  exact ⟨h1.1.1.1, h1.1.2⟩
/-- the bytes as numbers -/
def nums8 (l : List UInt8) : List Int := l.map fun b => (b.toNat : Int)
theorem nums8_str (xs : List Int) (h : ∀ c ∈ xs, 0 ≤ c ∧ c < 256) : nums8 (strOfNums xs).data.toList = xs := by
  rw [strOfNums_data, nums8, List.map_map]
  conv => rhs; rw [← List.map_id xs]
  refine List.map_congr_left fun c hc => ?_
  obtain ⟨n, rfl⟩ := Int.eq_ofNat_of_zero_le (h c hc).1
  have := (h n hc).2
  simp [UInt8.toNat_ofNat']
  omega
theorem hexd_byte {k : Int} (h : 0 ≤ k ∧ k < 16) : 0 ≤ hexd k ∧ hexd k < 256 := by unfold hexd; split <;> omega
theorem quo_bytes {v : List Int} (h : IsB v) : IsB (quo v) := by
  intro c hc
  simp only [quo, List.mem_cons, List.mem_append, List.mem_flatMap, List.mem_nil_iff, or_false, List.mem_singleton] at hc
  rcases hc with rfl | ⟨x, hx, hc⟩ | rfl
  · omega
  · have hb := h x hx
    unfold esc at hc
    split at hc
    · simp at hc; rcases hc with rfl | rfl <;> omega
    · split at hc
      · have a1 := hexd_byte (k := x / 16) (by omega)
        have a2 := hexd_byte (k := x % 16) (by omega)
        simp at hc
        rcases hc with rfl | rfl | rfl | rfl <;> omega
      · simp at hc; omega
  · omega
theorem itm_nums {x : LB} (h : LbFine x) : nums8 (itmB x).data.toList = itm (pr x) := by
  have hq : IsB (bytesOf x.f1) := (fine_okL h).2
  unfold itmB itm
  rw [ByteArray.data_append, ByteArray.data_append, Array.toList_append, Array.toList_append, nums8, List.map_append, List.map_append]
  have h1 : List.map (fun b : UInt8 => (b.toNat : Int)) (strOfNums (quo (bytesOf x.f1))).data.toList = quo (bytesOf x.f1) := nums8_str _ (quo_bytes hq)
  rw [h1]
  simp [pr, bytesOf]
theorem join_nums : ∀ l : List LB, (∀ x ∈ l, LbFine x) → nums8 (Lib.join ((l.map itmB).map (·.data.toList)) ((⟨#[44]⟩ : ByteArray)).data.toList) = txt (l.map pr)
  | [], _ => rfl
  | [x], h => by
    have := itm_nums (h x List.mem_cons_self)
    simp only [List.map_cons, List.map_nil, txt]
    rw [← this]
    simp [Lib.join, List.intercalate, List.intersperse]
  | x :: y :: t, h => by
    have h1 := itm_nums (h x List.mem_cons_self)
    have ih := join_nums (y :: t) (fun z hz => h z (List.mem_cons_of_mem _ hz))
    have e : Lib.join (((x :: y :: t).map itmB).map (·.data.toList)) ((⟨#[44]⟩ : ByteArray)).data.toList = (itmB x).data.toList ++ 44 :: Lib.join (((y :: t).map itmB).map (·.data.toList)) ((⟨#[44]⟩ : ByteArray)).data.toList := by
      simp [Lib.join, List.intercalate, List.intersperse]
    rw [e, nums8, List.map_append, List.map_cons]
    show nums8 _ ++ _ :: nums8 _ = _
    rw [h1, ih]
    rfl
theorem text_nums {l : List LB} (h : ∀ x ∈ l, LbFine x) : bytesOf (textB l) = txt (l.map pr) := by
  have := join_nums l h
  unfold bytesOf textB
  simpa [nums8] using this
theorem map_inj {α β : Type} {f : α → β} (hf : ∀ x y, f x = f y → x = y) : ∀ {a b : List α}, a.map f = b.map f → a = b
  | [], [], _ => rfl
  | [], _ :: _, h => by simp at h
  | _ :: _, [], h => by simp at h
  | x :: a, y :: b, h => by
    simp only [List.map_cons, List.cons.injEq] at h
    rw [hf _ _ h.1, map_inj hf h.2]
theorem bytesOf_inj {a b : ByteArray} (h : bytesOf a = bytesOf b) : a = b := by
  refine bytes_ext ?_
  rw [Lib.toList_data, Lib.toList_data]
  unfold bytesOf at h
  exact map_inj (fun x y e => UInt8.toNat_inj.1 (Int.ofNat.inj e)) h
theorem pr_inj {x y : LB} (h : pr x = pr y) : x = y := by
  have h0 := bytesOf_inj (congrArg Prod.fst h)
  have h1 := bytesOf_inj (congrArg Prod.snd h)
  exact lb_ext (by rw [h0]) (by rw [h1])
/-- Sets that may be are told apart by their texts. -/
theorem textB_inj {l m : List LB} (hl : chk l = true) (hm : chk m = true) (h : textB l = textB m) : l = m := by
  have h1 := text_nums (chk_fine hl).1
  have h2 := text_nums (chk_fine hm).1
  rw [h, h2] at h1
  have e := txt_inj (m.map pr) (l.map pr) (by intro x hx; obtain ⟨y, hy, rfl⟩ := List.mem_map.1 hx; exact fine_okL ((chk_fine hm).1 y hy))
    (by intro x hx; obtain ⟨y, hy, rfl⟩ := List.mem_map.1 hx; exact fine_okL ((chk_fine hl).1 y hy)) h1
  exact map_inj (fun x y e => pr_inj e) e.symm
theorem itm_size {x : LB} (h : LbFine x) : (itmB x).size ≤ 400 := by
  have h1 := fine_nsize h
  have h2 := h.size
  have hf : ∀ v : List Int, (v.flatMap esc).length ≤ 4 * v.length := by
    intro v
    induction v with
    | nil => simp
    | cons c v ih =>
      have : (esc c).length ≤ 4 := by
        unfold esc
        split
        · simp
        · split <;> simp
      rw [List.flatMap_cons, List.length_append, List.length_cons]; omega
  have h3 := hf (bytesOf x.f1)
  rw [bytesOf_length] at h3
  unfold itmB
  rw [ByteArray.size_append, ByteArray.size_append, strOfNums_size, quo, List.length_cons, List.length_append]
  have : (⟨#[61]⟩ : ByteArray).size = 1 := rfl
  simp only [List.length_cons, List.length_nil]
  omega
theorem join_size : ∀ l : List LB, (∀ x ∈ l, LbFine x) → (Lib.join ((l.map itmB).map (·.data.toList)) ((⟨#[44]⟩ : ByteArray)).data.toList).length ≤ 401 * l.length
  | [], _ => by simp [Lib.join, List.intercalate]
  | [x], h => by
    have := itm_size (h x List.mem_cons_self)
    rw [← data_length] at this
    simp [Lib.join, List.intercalate, List.intersperse] at this ⊢
    omega
  | x :: y :: t, h => by
    have h1 := itm_size (h x List.mem_cons_self)
    rw [← data_length] at h1
    have ih := join_size (y :: t) (fun z hz => h z (List.mem_cons_of_mem _ hz))
    have e : Lib.join (((x :: y :: t).map itmB).map (·.data.toList)) ((⟨#[44]⟩ : ByteArray)).data.toList = (itmB x).data.toList ++ 44 :: Lib.join (((y :: t).map itmB).map (·.data.toList)) ((⟨#[44]⟩ : ByteArray)).data.toList := by
      simp [Lib.join, List.intercalate, List.intersperse]
    rw [e, List.length_append, List.length_cons]
    simp only [List.length_cons] at ih ⊢
    omega
theorem text_l0 (l : List LB) (hf : ∀ x ∈ l, LbFine x) (hl : l.length ≤ 8) : ∀ (d i k : Nat) (acc : List ByteArray), i + d = l.length → d + 140 < k → acc.length = i →
    label_Text.l0 k acc l (l.length : Int) (i : Int) = strings_Join.f (acc ++ (l.drop i).map itmB) (⟨#[44]⟩ : ByteArray)
  | 0, i, k, acc, h, hk, ha => by
    obtain ⟨k, rfl⟩ : ∃ n, k = n + 1 := ⟨k - 1, by omega⟩
    rw [label_Text.l0, if_neg (by omega), List.drop_eq_nil_of_le (by omega)]
    simp
  | d + 1, i, k, acc, h, hk, ha => by
    obtain ⟨k, rfl⟩ : ∃ n, k = n + 1 := ⟨k - 1, by omega⟩
    have hm : rd_T41 l (i : Int) ∈ l := by
      unfold rd_T41
      rw [Int.toNat_natCast, List.getD_eq_getElem?_getD, List.getElem?_eq_getElem (by omega)]
      exact List.getElem_mem _
    have hx := hf _ hm
    have ih := fun (x : ByteArray) => text_l0 l hf hl d (i + 1) k (acc ++ [x]) (by omega) (by omega) (by simp [ha])
    rw [Int.natCast_add, Int.natCast_one] at ih
    have s0 := fine_nsize hx
    have s1 := itm_size hx
    unfold itmB at s1
    rw [ByteArray.size_append] at s1
    rw [label_Text.l0, if_pos (by omega), if_pos (by omega), if_pos (by omega), if_pos (by omega), quoted_eq _ (by have := hx.size; omega) k (by have := hx.size; omega), Option.bind_some, if_pos (by omega), if_pos (by omega),
      w64 (by omega) (by omega), ih, drop_rd l i (by omega), List.map_cons]
    simp [itmB]
theorem text_eq {l : List LB} (h : chk l = true) (k : Nat) (hk : 160 ≤ k) : label_Text.f k l = some (textB l) := by
  obtain ⟨hf, hl, h1⟩ := chk_fine h
  unfold label_Text.f
  refine (text_l0 l hf hl l.length 0 k [] (by omega) (by omega) rfl).trans ?_
  have hs := join_size l hf
  unfold strings_Join.f
  rw [List.nil_append, List.drop_zero, if_pos ⟨by omega, by rw [List.length_map]; omega⟩]
  rfl
end Go.Proofs.Ytlkhdbfhnpbbhaa.Pure
namespace Go.Proofs.Ytlkhdbfhnpbbhaa
set_option linter.unusedVariables false
set_option linter.unusedSimpArgs false
open Go Go.RowKit
variable {F : Fence} {n : Nat} {P : Program}
/-- What abides new blocks, and a turn of block D (the iterator's own). -/
def AbD {β : Type} (D : Nat) (J : β → World → Prop) : Prop :=
  ∀ s A B row, J s A → A.grownBy B row → (∀ r, row = some r → r = D) → J s B
/-- What abides turns of the loop's own two blocks, too. -/
def AbO {β : Type} (m D : Nat) (J : β → World → Prop) : Prop :=
  ∀ s A B row, J s A → A.grownBy B row → (∀ r, row = some r → r = m ∨ r = m + 1 ∨ r = D) → J s B
/-- The iterator's word: it tells xs, one by one, whatever the body is that keeps Kp. -/
def Tells {α : Type} (F : Fence) (n : Nat) (P : Program) (gf : Nat) (lb : Array Value) (encs : α → Array Value) (Kp : World → World → Prop) (xs : List α) (w : World) : Prop :=
  ∀ (l : Nat) (J : List α → World → Prop) (W : World), Below w.heap.size w W → W.heap.size = w.heap.size + 2 → AbD (w.heap.size + 2) J →
    (∀ pre x W1, J pre W1 → pre.length < xs.length → w.heap.size + 2 < W1.heap.size → YieldAt F (n - 1) P l (encs x) W1 fun e W' => e = .returned (.bool true) ∧ J (pre ++ [x]) W' ∧ Kp W1 W') →
    J [] W → CallsIn F n P gf (#[.func (.yield l) #[] #[]] ++ lb) W fun e W' => (∃ v, e = .returned v) ∧ J xs W'
/-- HOW THE BODY ENDS: off its end. -/
def endPost {α : Type} (m : Nat) (Kp : World → World → Prop) (I : List α → World → Prop) (xs : List α) (W : World) : Exit → Act → World → Prop
  | .normal, _, W' => KeepsFrom m W W' ∧ Kp W W' ∧ I xs W'
  | _, _, _ => False
theorem range_tells {α : Type} {g : Operand} {ps : Array Tmp} {assign body : Code} {Q : Exit → Act → World → Prop} {a : Act} {w : World}
    (hro : F.round = none) (h1 : 1 ≤ n) {gf : Nat} {lb : Array Value} (hg : a.eval g = .func (.func gf) #[] lb) (hFg : F.fn gf) (eg : ∀ args w, (callFunc gf args).run P w = .ok (.enter gf args) w)
    {encs : α → Array Value} {Kp : World → World → Prop} {xs : List α} (hseq : Tells F (n - 1) P gf lb encs Kp xs w)
    (hKt : ∀ {A B C : World}, Kp A B → Kp B C → Kp A C) (hKb : ∀ (W : World) (o o' : Obj), W.heap[w.heap.size + 1]? = some o → Kp W (W.putObj (w.heap.size + 1) o'))
    (hps : ∀ x, (encs x).size = ps.size) (I : List α → World → Prop) (hI : AbO w.heap.size (w.heap.size + 2) I) (h0 : I [] w) (a₁ : α → Act)
    (hassign : ∀ (l : Nat) (x : α) (W : World) (K : Act → World → Prop), K (a₁ x) W →
      assign.wpIn (F.inRound l) (n - 1 - 1) P (Exit.then K (fun _ _ _ => False)) { tmps := (ps.zip (encs x)).foldl (fun t (p, v) => t.setIfInBounds p v) a.tmps, defers := [] } W)
    (hbody : ∀ (l : Nat) (pre : List α) (x : α) (W : World), I pre W → pre.length < xs.length → w.heap.size + 2 < W.heap.size →
      body.wpIn (F.inRound l) (n - 1 - 1) P (endPost w.heap.size Kp I (pre ++ [x]) W) (a₁ x) W)
    (hdone : ∀ W : World, I xs W → W.heap[w.heap.size]? = some (.deferred (some [])) → Q .normal { a with defers := { target := .collected w.heap.size, args := #[] } :: a.defers } W) :
    (Code.rangeFunc g ps assign body).wpIn F n P Q a w := by
  refine wpIn_rangeFunc fun fn hfn => ?_
  rw [hro]
  obtain ⟨rec, hrec⟩ : ∃ rec : LoopState → Loop, rec = fun st => { state := st, pending := none, fn, tmps := a.tmps, params := ps, assign, body, defers := w.heap.size } := ⟨_, rfl⟩
  obtain ⟨W1, hW1⟩ : ∃ W1, (w.alloc (.deferred (some []))).alloc (.loop (rec .ready)) = W1 := ⟨_, rfl⟩
  have hz : W1.heap.size = w.heap.size + 2 := by rw [← hW1]; simp
  have hL : W1.heap[w.heap.size + 1]? = some (.loop (rec .ready)) := by
    have := World.alloc_heap_new (w.alloc (.deferred (some []))) (.loop (rec .ready)); rw [World.size_alloc, hW1] at this; exact this
  have hD : W1.heap[w.heap.size]? = some (.deferred (some [])) := by
    rw [← hW1]; exact (Below.heap_alloc _ _ _ (by simp)).trans (World.alloc_heap_new w _)
  have hB : Below w.heap.size w W1 := by rw [← hW1]; exact ((Below.refl _ w).alloc (Nat.le_refl _) _).alloc (by simp) _
  have hI1 : I [] W1 := by
    rw [← hW1]
    exact hI _ _ _ none (hI _ _ _ none h0 (World.grownBy_alloc w _ none) (fun r e => by cases e)) (World.grownBy_alloc _ _ none) (fun r e => by cases e)
  refine ⟨w.heap.size + 1, [{ target := .collected w.heap.size, args := #[] }], W1, { target := .fn (.func gf) lb, args := #[.func (.yield (w.heap.size + 1)) #[] #[]] }, W1, gf,
    #[.func (.yield (w.heap.size + 1)) #[] #[]] ++ lb, W1, ?_, ?_, ?_, ?_, fun _ => h1, ?_⟩
  · rw [← hW1, hrec]; exact run_enterLoop_outer _ _ _ _ _
  · simp only [resolve, hg]; simp [go_sem]
  · intro f' hf'; simp [Target.leads] at hf'; subst hf'; exact hFg
  · simp [invoke, go_sem, eg]
  · refine (hseq (w.heap.size + 1) (fun pre W => I pre W ∧ W.heap[w.heap.size + 1]? = some (.loop (rec .ready)) ∧ W.heap[w.heap.size]? = some (.deferred (some []))) W1 hB hz ?_ ?_ ⟨hI1, hL, hD⟩).mono ?_
    · rintro s A B row ⟨hi, hl, hd⟩ hgr hr
      have lt1 := (Array.getElem?_eq_some_iff.1 hl).1
      have lt0 := (Array.getElem?_eq_some_iff.1 hd).1
      exact ⟨hI _ _ _ _ hi hgr (fun r e => .inr (.inr (hr r e))), (hgr.block _ lt1 (fun e => by have := hr _ e.symm; omega)).trans hl, (hgr.block _ lt0 (fun e => by have := hr _ e.symm; omega)).trans hd⟩
    · rintro pre x W ⟨hi, hl, hd⟩ hlen hlt2
      have lt1 := (Array.getElem?_eq_some_iff.1 hl).1
      have hy := run_yield (P := P) (args := encs x) hl (by rw [hrec]; exact hps x)
      rw [hrec] at hy
      refine ⟨fn, _, assign, body, hy, roundIn_of_wpIn hfn (hassign _ x W _ ?_)⟩
      refine ⟨_, run_beginRound hl (by rw [hrec]), ?_⟩
      have hl2 : (W.putObj (w.heap.size + 1) (.loop { rec .ready with state := .busy })).heap[w.heap.size + 1]? = some (.loop { rec .ready with state := .busy }) := World.putObj_heap_same lt1
      have hd2 : (W.putObj (w.heap.size + 1) (.loop { rec .ready with state := .busy })).heap[w.heap.size]? = some (.deferred (some [])) := (World.putObj_heap_other (by omega)).trans hd
      have hi2 : I pre (W.putObj (w.heap.size + 1) (.loop { rec .ready with state := .busy })) := hI _ _ _ _ hi (grownBy_putObj' W _ _) (fun r e => by cases e; exact .inr (.inl rfl))
      refine wpIn_mono (hbody _ pre x _ hi2 hlen (by rw [World.putObj_size]; exact hlt2)) ?_
      rintro e a3 W3 hp
      cases e with
      | normal =>
        obtain ⟨hk3, hkp, hi3⟩ := hp
        have hl3 := hk3.same _ _ (by omega) hl2 rfl
        have lt3 := (Array.getElem?_eq_some_iff.1 hl3).1
        have hd3 := hk3.same _ _ (Nat.le_refl _) hd2 rfl
        refine ⟨_, _, run_endRound none hl3, rfl, ⟨hI _ _ _ _ hi3 (grownBy_putObj' W3 _ _) (fun r e => by cases e; exact .inr (.inl rfl)), ?_, (World.putObj_heap_other (by omega)).trans hd3⟩, hKt (hKt (hKb _ _ _ hl) hkp) (hKb _ _ _ hl3)⟩
        rw [World.putObj_heap_same lt3, hrec]; rfl
      | ret => exact hp.elim
      | exit id => exact hp.elim
      | goto t => exact hp.elim
      | panic ch => exact hp.elim
      | outgrown => exact hp.elim
    · rintro e W2 ⟨⟨v, rfl⟩, hi, hl, hd⟩
      refine ⟨none, _, by have := run_endLoop (P := P) hl (by rw [hrec]; simp); rw [hrec] at this; exact this, hdone _ (hI _ _ _ _ hi (grownBy_putObj' W2 _ _) (fun r e => by cases e; exact .inr (.inl rfl))) ((World.putObj_heap_other (by omega)).trans hd)⟩
theorem stepR_scope {b : Frame} {a : Act} {k : List Item} {cs : List Frame} {w : World} {c : Code} : step P (lone (b.atR a (.code (.scope c) :: k)) cs w) = .next (lone (b.atR a (.code c :: .inScope c :: k)) cs w) :=
  step_lone_go (by simp [stepG, stepG.exec, Frame.atR])
theorem stepR_inScope {b : Frame} {a : Act} {k : List Item} {cs : List Frame} {w : World} {c : Code} : step P (lone (b.atR a (.inScope c :: k)) cs w) = .next (lone (b.atR a k) cs w) :=
  step_lone_go (by simp [stepG, stepG.exec, Frame.atR])
theorem wpIn_scope {c : Code} {Q : Exit → Act → World → Prop} {a : Act} {w : World} (h : c.wpIn F n P (Exit.noGoto Q) a w) : (Code.scope c).wpIn F n P Q a w := by
  intro b k cs hro hb hr
  obtain ⟨e, a₁, w₁, hq, harr⟩ := h b (.inScope c :: k) cs hro hb hr
  cases e with
  | normal => exact ⟨.normal, a₁, w₁, hq, .head (fenced_calm hb hr rfl) stepR_scope (StepsIn.trans harr (.one (fenced_calm hb hr rfl) stepR_inScope))⟩
  | exit id => exact ⟨_, a₁, w₁, hq, .of_steps (.one (fenced_calm hb hr rfl) stepR_scope) ⟨fun k' hk => harr.1 k' (by simpa [exitTo] using hk), fun hr hk => harr.2 hr (by simpa [exitTo] using hk)⟩⟩
  | goto l => exact hq.elim
  | ret => exact ⟨_, a₁, w₁, hq, .of_steps (.one (fenced_calm hb hr rfl) stepR_scope) harr⟩
  | panic ch => exact ⟨_, a₁, w₁, hq, .of_steps (.one (fenced_calm hb hr rfl) stepR_scope) harr⟩
  | outgrown => exact ⟨_, a₁, w₁, hq, .of_steps (.one (fenced_calm hb hr rfl) stepR_scope) harr⟩
end Go.Proofs.Ytlkhdbfhnpbbhaa
namespace Go.Proofs.Ytlkhdbfhnpbbhaa
set_option linter.unusedVariables false
set_option linter.unusedSimpArgs false
open Go.RowKit Go.Shelf Go.Proofs.YtlkhdbfhnpbbhaaW.PrintWords Go.Proofs.YtlkhdbfhnpbbhaaW.PrintLast Go.Proofs.YtlkhdbfhnpbbhaaW.PrintMore
attribute [local go_sem] Oper.semAt_some
/-- What a round keeps: all below n0, and block D. -/
def KpD (n0 D : Nat) (W W' : World) : Prop := Below n0 W W' ∧ W'.heap[D]? = W.heap[D]?
theorem infoI : (Try.prog.info? 3).map (fun i => (i.zero, i.size, i.bytes)) = some (some (.int .i64 0), 1, 8) := by kernel_rfl
theorem make1 (W : World) : Sem.run Try.prog (Instr.makeSlice 38 (.int .i64 1) (.int .i64 1)) W = .ok (.slice (some ⟨W.heap.size, 0, none⟩) 1 1) (W.alloc (.cells #[.int .i64 0] 3)) := by
  obtain ⟨i, hi, hzz⟩ := Option.map_eq_some_iff.1 infoI
  simp only [Prod.mk.injEq] at hzz
  obtain ⟨hz0, hz1, hz2⟩ := hzz
  have h := run_make (P := Try.prog) W 38 3 i (.int .i64 0) (by kernel_rfl) hi hz0 .i64 .i64 1 1 (by omega) (by omega) (by rw [hz2]; omega) (by omega)
  rw [hz1, show madeCells (Value.cells (.int .i64 0)) (Int.toNat 1 * 1) = #[.int .i64 0] from by simp [madeCells, Value.cells]; exact ⟨0, rfl, rfl⟩] at h
  exact h
/-- What the iterator's own block holds. -/
def atOf (w : World) (D : Nat) : Nat := (intOf ((w.cell? ⟨D, 0, none⟩).getD undef)).toNat
set_option maxRecDepth 100000 in
set_option maxHeartbeats 4000000 in
theorem most1_tells (F : Fence) (n : Nat) (h48 : F.fn 89) (hro : F.round = none) (hn : 1 ≤ n) (n0 ob kb rb cr : Nat) (A : Option Addr) (c : Nat) (l : List Int) (w : World)
    (hn0 : n0 ≤ w.heap.size) (hob : ob < n0) (hkb : kb < n0) (hrb : rb < n0)
    (h1 : w.cell? ⟨ob, 0, none⟩ = some (.slice (some ⟨rb, 0, none⟩) 1 cr)) (h2 : w.cell? ⟨rb, 0, none⟩ = some (.slice A l.length c)) (h3 : w.cell? ⟨kb, 0, none⟩ = some (.int .i64 1))
    (hl : l.length * 8 ≤ 140737488351232) (hC : ∀ j, j < l.length → ∃ ad, A = some ad ∧ ad.block < n0 ∧ w.cell? (ad.add j) = some (.int .i64 (rd l j))) :
    Tells F n Try.prog 89 #[.pointer (some ⟨ob, 0, none⟩), .pointer (some ⟨kb, 0, none⟩)] (fun x : Int => #[.int .i64 x]) (KpD n0 (w.heap.size + 2)) l w := by
  intro lp J W hB hsz hJ hY h0
  have b1 := (hB.mono hn0).cell (p := ⟨ob, 0, none⟩) hob |>.trans h1
  have b2 := (hB.mono hn0).cell (p := ⟨rb, 0, none⟩) hrb |>.trans h2
  have b3 := (hB.mono hn0).cell (p := ⟨kb, 0, none⟩) hkb |>.trans h3
  refine callsIn_of_wp Try.func89 rfl h48 ?_ hro
  simp only [Try.ntmps89, List.size_toArray, List.length_cons, List.length_nil, Nat.reduceAdd, Nat.reduceSub, Array.replicate_succ, Array.replicate_zero, List.push_toArray, List.append_toArray, List.nil_append, List.cons_append]
  have hmk := make1
  have hD : (W.alloc (.cells #[.int .i64 0] 3)).heap[w.heap.size + 2]? = some (.cells #[.int .i64 ((0 : Nat) : Int)] 3 (0, 0)) := hsz ▸ World.alloc_heap_new W _
  have hJ0 : J (l.take 0) (W.alloc (.cells #[.int .i64 0] 3)) := hJ _ _ _ none h0 (World.grownBy_alloc W _ none) (fun r e => by cases e)
  have hB0 : Below n0 W (W.alloc (.cells #[.int .i64 0] 3)) := (Below.refl n0 W).alloc (by omega) _
  refine wpIn_scope ?_
  gi_wp2
  refine wpIn_label ?_
  gi_wp2
  gi_loopw [5] (fun _ wr => ∃ k : Nat, k ≤ l.length ∧ J (l.take k) wr ∧ Below n0 W wr ∧ wr.heap[w.heap.size + 2]? = some (.cells #[.int .i64 (k : Int)] 3 (0, 0)))
    (fun _ wr => l.length - atOf wr (w.heap.size + 2))
  case atStart => exact ⟨0, Nat.zero_le _, hJ0, hB0, hD⟩
  case round =>
    obtain ⟨k, hk, hJk, hBk, hDk⟩ := hrel
    have c1 := hBk.cell (p := ⟨ob, 0, none⟩) hob |>.trans b1
    have c2 := hBk.cell (p := ⟨rb, 0, none⟩) hrb |>.trans b2
    have c3 := hBk.cell (p := ⟨kb, 0, none⟩) hkb |>.trans b3
    have c4 : wr.cell? ⟨w.heap.size + 2, 0, none⟩ = some (.int .i64 (k : Int)) := cell_of_one hDk
    have c5 : wr.frozen? ⟨w.heap.size + 2, 0, none⟩ = false := free_of_one hDk
    by_cases hlt : k < l.length
    · obtain ⟨ad, hA, hab, hca⟩ := hC k hlt
      have c6 : wr.cell? (ad.add k) = some (.int .i64 (rd l k)) := (hBk.cell (p := ad.add k) (by unfold Addr.add; split <;> exact hab)).trans (((hB.mono hn0).cell (p := ad.add k) (by unfold Addr.add; split <;> exact hab)).trans hca)
      subst hA
      have hJ1 : J (l.take k) (wr.setCell ⟨w.heap.size + 2, 0, none⟩ (.int .i64 ((k : Int) + 1))) := hJ _ _ _ _ hJk (grownBy_setCell' wr _ _) (fun r e => by cases e; rfl)
      obtain ⟨fn, tmps, assign, body, hy, hR⟩ := hY (l.take k) (rd l k) _ hJ1 (by rw [List.length_take]; omega) (lt_of_block (one_setCell hDk))
      have e1 : l.take k ++ [rd l k] = l.take (k + 1) := by
        rw [List.take_add_one, List.getElem?_eq_getElem hlt]; simp [rd, hlt]
      have hB1 : Below n0 W (wr.setCell ⟨w.heap.size + 2, 0, none⟩ (.int .i64 ((k : Int) + 1))) := hBk.setCell (p := ⟨w.heap.size + 2, 0, none⟩) (show n0 ≤ w.heap.size + 2 by omega) _
      have hD1 : (wr.setCell ⟨w.heap.size + 2, 0, none⟩ (.int .i64 ((k : Int) + 1))).heap[w.heap.size + 2]? = some (.cells #[.int .i64 ((k + 1 : Nat) : Int)] 3 (0, 0)) := one_setCell hDk
      have HX := Lib.hid (And.intro e1 (And.intro hB1 hD1))
      have HM : atOf wr (w.heap.size + 2) = k := by simp [atOf, c4, intOf]
      have HN := Lib.hid HM
      clear e1 hB1 hD1 HM
      gi_wp2
      refine wpIn_loop_rounds 2 ?_
      rw [roundsIn_succ]
      gi_wp2
      rw [roundsIn_succ]
      gi_wp2
      refine wpIn_loop_rounds 2 ?_
      rw [roundsIn_succ]
      gi_wp2
      rw [roundsIn_succ]
      gi_wp2
      refine hR.mono ?_
      rintro e W3 ⟨rfl, hJ3, hk3⟩
      gi_wp2
      obtain ⟨e1, hB1, hD1⟩ := HX.out
      have hDe := hk3.2.trans hD1
      go_roundw
      case rel => exact ⟨k + 1, hlt, by rw [← e1]; exact hJ3, hB1.trans hk3.1, hDe⟩
      case measure =>
        have : atOf W3 (w.heap.size + 2) = k + 1 := by simp [atOf, cell_of_one hDe, intOf]
        rw [this, HN.out]; omega
    · obtain rfl : k = l.length := by omega
      rw [List.take_length] at hJk
      gi_wp2
      refine wpIn_loop_rounds 2 ?_
      rw [roundsIn_succ]
      gi_wp2
      rw [roundsIn_succ]
      gi_wp2
      simp only [Exit.noGoto]
      go_end0
      exact ⟨⟨_, rfl⟩, hJk⟩
end Go.Proofs.Ytlkhdbfhnpbbhaa
namespace Go.Proofs.Ytlkhdbfhnpbbhaa
set_option linter.unusedVariables false
set_option linter.unusedSimpArgs false
open Go.RowKit Go.Shelf Go.Proofs.YtlkhdbfhnpbbhaaW.PrintWords Go.Proofs.YtlkhdbfhnpbbhaaW.PrintLast Go.Proofs.YtlkhdbfhnpbbhaaW.PrintMore
attribute [local go_sem] Oper.semAt_some
set_option maxRecDepth 100000 in
set_option maxHeartbeats 4000000 in
theorem postList_in (F : Fence) (n : Nat) (h37 : F.fn 58) (h48 : F.fn 89) (hro : F.round = none) (hn : 3 ≤ n) (ob kb rb cr : Nat) (A : Option Addr) (c : Nat) (l : List Int) (w : World)
    (hob : ob < w.heap.size) (hkb : kb < w.heap.size) (hrb : rb < w.heap.size)
    (h1 : w.cell? ⟨ob, 0, none⟩ = some (.slice (some ⟨rb, 0, none⟩) 1 cr)) (h2 : w.cell? ⟨rb, 0, none⟩ = some (.slice A l.length c)) (h3 : w.cell? ⟨kb, 0, none⟩ = some (.int .i64 1))
    (hl : l.length < 4096) (hC : ∀ j, j < l.length → ∃ ad, A = some ad ∧ ad.block < w.heap.size ∧ w.cell? (ad.add j) = some (.int .i64 (rd l j))) :
    CallsIn F n Try.prog 58 #[.func (.func 89) #[] #[.pointer (some ⟨ob, 0, none⟩), .pointer (some ⟨kb, 0, none⟩)], .int .i64 4096] w
      fun e w' => ∃ v, e = .returned v ∧ w'.ownsRow w.heap.size 3 1 v l.length (l.map (.int .i64)) ∧ Below w.heap.size w w' := by
  have h1n : 1 ≤ n := by omega
  refine callsIn_of_wp_marks Try.func58 rfl h37 ?_ hro
  simp only [Try.ntmps58, List.size_toArray, List.length_cons, List.length_nil, Nat.reduceAdd, Nat.reduceSub, Array.replicate_succ, Array.replicate_zero, List.push_toArray, List.append_toArray, List.nil_append, List.cons_append]
  have heq : ∀ (cp : Array Value) (W : World), Sem.run Try.prog (binOp .eql 93 (.func (.func 89) #[] cp) .nilFunc) W = .ok (.bool false) W := fun _ _ => rfl
  gi_wp2
  obtain ⟨w1, hw1⟩ : ∃ w1, ((w.alloc (.cells #[.int .i64 4096] 3)).alloc (.cells #[.slice none 0 0] 38)) = w1 := ⟨_, rfl⟩
  have hz : w1.heap.size = w.heap.size + 2 := by rw [← hw1]; simp
  have hbm : Boxed w1 w.heap.size 3 (.int .i64 4096) := by rw [← hw1]; exact (Boxed.new w _ _).alloc _
  have hbl : Boxed w1 (w.heap.size + 1) 38 (.slice none 0 0) := by
    rw [← hw1]; have := Boxed.new (w.alloc (.cells #[.int .i64 4096] 3)) 38 (.slice none 0 0); rw [World.size_alloc] at this; exact this
  have hB1 : Below w.heap.size w w1 := by rw [← hw1]; exact ((Below.refl _ w).alloc (Nat.le_refl _) _).alloc (by simp) _
  obtain ⟨i0, hi0, hzz⟩ := Option.map_eq_some_iff.1 infoI
  simp only [Prod.mk.injEq] at hzz
  obtain ⟨hz0, hz1, hz2⟩ := hzz
  rw [hw1]
  refine range_tells hro h1n (gf := 89) (lb := #[.pointer (some ⟨ob, 0, none⟩), .pointer (some ⟨kb, 0, none⟩)]) rfl h48 (enters_of Try.func89 (by kernel_rfl) rfl)
    (Kp := KpD w.heap.size (w1.heap.size + 2)) (xs := l)
    (most1_tells F (n - 1) h48 hro (by omega) w.heap.size ob kb rb cr A c l w1 hB1.size hob hkb hrb ((hB1.cell (p := ⟨ob, 0, none⟩) hob).trans h1) ((hB1.cell (p := ⟨rb, 0, none⟩) hrb).trans h2) ((hB1.cell (p := ⟨kb, 0, none⟩) hkb).trans h3) (by omega)
      (fun j hj => by obtain ⟨ad, e, hlt, hc⟩ := hC j hj; exact ⟨ad, e, hlt, (hB1.cell (p := ad.add j) (by unfold Addr.add; split <;> exact hlt)).trans hc⟩))
    (fun h k => ⟨h.1.trans k.1, k.2.trans h.2⟩)
    (fun W o o' h => ⟨(Below.refl _ W).grown (grownBy_putObj' W _ o') (by have := (Array.getElem?_eq_some_iff.1 h).1; omega) (fun k e => by cases e; omega), World.putObj_heap_other (by omega)⟩)
    (fun _ => rfl)
    (fun pre W => ∃ v, Boxed W (w.heap.size + 1) 38 v ∧ W.ownsRow (w.heap.size + 5) 3 1 v pre.length (pre.map (.int .i64)) ∧ Boxed W w.heap.size 3 (.int .i64 4096) ∧ Below w.heap.size w W)
    ?hI ⟨_, hbl, World.ownsRow_nil _ _ _ _, hbm, hB1⟩
    (fun x => { tmps := #[.func (.func 89) #[] #[.pointer (some ⟨ob, 0, none⟩), .pointer (some ⟨kb, 0, none⟩)], .int .i64 4096, undef, .pointer (some ⟨w.heap.size, 0, none⟩), .slice none 0 0, .pointer (some ⟨w.heap.size + 1, 0, none⟩), .int .i64 x,
      .func (.func 89) #[] #[.pointer (some ⟨ob, 0, none⟩), .pointer (some ⟨kb, 0, none⟩)], .bool false, .bool false, .int .i64 4096, .bool false, .bool false, undef,
      .func (.func 89) #[] #[.pointer (some ⟨ob, 0, none⟩), .pointer (some ⟨kb, 0, none⟩)], .int .i64 x, undef, undef, undef, undef, undef, undef, undef, undef, undef], defers := [] }) ?assign ?body ?done
  case hI =>
    rintro pre X Y row ⟨v, hv, hr, hm, hb⟩ hg hrow
    have hrow' : ∀ r, row = some r → w.heap.size + 2 ≤ r ∧ r < w.heap.size + 5 := fun r e => by have := hrow r e; omega
    refine ⟨v, hv.kept hg (fun e => by have := hrow' _ e.symm; omega), hr.kept hg ?_, hm.kept hg (fun e => by have := hrow' _ e.symm; omega), hb.grown hg hb.size (fun k e => by have := hrow' k e; omega)⟩
    rcases hr.2 with ⟨rfl, _⟩ | ⟨g, cap, cur, rfl, hgb, _⟩
    · exact .inl rfl
    · refine .inr fun e' => ?_
      have := hrow' g (by simpa [Value.ownBlock] using e'.symm)
      omega
  case assign =>
    intro lp x W K hK
    gi_wp2
    exact hK
  case body =>
    rintro lp pre x W ⟨v, hv, hr, hm, hb⟩ hlen hD
    have hvc := hv.cell
    have hmc := hm.cell
    have hv0 : Boxed (W.alloc (.cells #[.int .i64 x] 3)) (w.heap.size + 1) 38 v := hv.alloc _
    have hm0 : Boxed (W.alloc (.cells #[.int .i64 x] 3)) w.heap.size 3 (.int .i64 4096) := hm.alloc _
    have hne : some (w.heap.size + 1) ≠ v.ownBlock := fun e => by have := own_base hr _ e.symm; omega
    have hne2 : some w.heap.size ≠ v.ownBlock := fun e => by have := own_base hr _ e.symm; omega
    gi_wp2_with (gi_at_builtin; go_must (refine wpListIn_append_own _ rfl _ _ 38 rfl (w.heap.size + 5) 3 i0 (.int .i64 0) 1 8 Try.underlying38 hi0 hz0 hz1 hz2 rfl (by decide) v pre.length (pre.map (.int .i64)) rfl (hr.alloc _) ⟨W.heap.size, 0, none⟩ 1 1 [.int .i64 x] rfl rfl (cell_one_new _ _ _) (by simp [Value.oneCell']) (by simp only [maxLen]; omega) (by omega) (by simp; omega) ?_; intro v' X1 hown' hgrow _; obtain ⟨g', cap', rfl⟩ := ownsRow_succ hown'; have hv1 := hv0.kept hgrow hne; have hm1 := hm0.kept hgrow hne2; have hc1 := hv1.cell; have hf1 := hv1.frozen; have hc2 := hm1.cell))
    simp only [endPost]
    have BW : Below w.heap.size W (X1.setCell ⟨w.heap.size + 1, 0, none⟩ (.slice (some ⟨g', 0, none⟩) (pre.length + 1) cap')) :=
      (((Below.refl _ W).alloc hb.size _).grown hgrow (by simp; have := hb.size; omega) (fun j ej => by have := own_base hr j ej; omega)).setCell (p := ⟨w.heap.size + 1, 0, none⟩) (show w.heap.size ≤ w.heap.size + 1 by omega) _
    refine ⟨?_, ⟨BW, ?_⟩, _, hv1.set _, ?_, hm1.other (by omega) _, hb.trans BW⟩
    · refine KeepsOthers.from (((KeepsOthers.alloc W _).trans (KeepsOthers.of_grownBy hgrow fun j o ej hj => ?_)).trans (KeepsOthers.setCell _ _ _)) _
      rcases (hr.alloc (.cells #[.int .i64 x] 3)).2 with ⟨rfl, _⟩ | ⟨g, cap, cur, rfl, _, hgb, _⟩
      · simp [Value.ownBlock] at ej
      · obtain rfl : g = j := by simpa [Value.ownBlock] using ej
        rw [hgb] at hj; cases hj; rfl
    · exact (Below.heap_setCell X1 ⟨w.heap.size + 1, 0, none⟩ _ _ (by show w1.heap.size + 2 ≠ w.heap.size + 1; omega)).trans ((hgrow.block _ (by simp; omega) (fun e => by have := own_base hr _ e.symm; omega)).trans (Below.heap_alloc W _ _ hD))
    · rw [List.length_append, List.map_append]
      exact hown'.kept (grownBy_setCell' X1 _ _) (.inr (fun e => by have := own_base hown' _ e; omega))
  case done =>
    rintro W ⟨v, hv, hr, hm, hb⟩ hK
    have hvc := hv.cell
    gi_wp2
    refine ⟨by simp, .inl ⟨_, _, rfl, run_takeDeferred hK, ?_⟩⟩
    refine ⟨_, results_tmp rfl _ _ _, v, rfl, ?_, ?_⟩
    · exact ownsRow_putObj (own_weaken hr (by omega)) _ hK rfl
    · exact hb.trans ((Below.refl _ W).grown (grownBy_putObj' W _ _) hb.size (fun k e => by cases e; omega))
end Go.Proofs.Ytlkhdbfhnpbbhaa
namespace Go.Proofs.Ytlkhdbfhnpbbhaa
set_option linter.unusedVariables false
set_option linter.unusedSimpArgs false
open Go.RowKit Go.Proofs.YtlkhdbfhnpbbhaaW.PrintWords Go.Proofs.YtlkhdbfhnpbbhaaW.PrintLast Go.Proofs.YtlkhdbfhnpbbhaaW.PrintMore
open Go.Proofs.Ytlkhdbfhnpbbhaa.Ix
/-- What the iterator's function value wants in a world. -/
structure Iter (w : World) (ob kb : Nat) (l : List Int) : Prop where
  own : ∃ rb cr A c, rb < w.heap.size ∧ w.cell? ⟨ob, 0, none⟩ = some (.slice (some ⟨rb, 0, none⟩) 1 cr) ∧ w.cell? ⟨rb, 0, none⟩ = some (.slice A l.length c) ∧ Kd.C (Kd.int .i64) w A l.length l
  one : w.cell? ⟨kb, 0, none⟩ = some (.int .i64 1)
  olt : ob < w.heap.size
  klt : kb < w.heap.size
theorem infoS : (Try.prog.info? 38).map (fun i => (i.zero, i.size, i.bytes)) = some (some (.slice none 0 0), 1, 24) := by kernel_rfl
set_option maxRecDepth 100000 in
set_option maxHeartbeats 8000000 in
theorem most_u {g : Nat} {A : Option Addr} {c k : Nat} {l : List Int} {w : World} (hC : Kd.C (Kd.int .i64) w A l.length l) (hc : l.length ≤ c) (hR : post_Rises.f k l = some true) (hl : l.length < 4096)
    (hg : w.cell? ⟨g, 0, none⟩ = some (.slice A l.length c)) (hgl : g < w.heap.size) :
    Calls Try.prog 70 #[.slice (some ⟨g, 0, none⟩) 1 1, .int .i64 1] w fun e w' => ∃ ob kb, e = .returned (.func (.func 89) #[] #[.pointer (some ⟨ob, 0, none⟩), .pointer (some ⟨kb, 0, none⟩)]) ∧ Iter w' ob kb l ∧ Below w.heap.size w w' := by
  obtain ⟨i0, hi0, hzz⟩ := Option.map_eq_some_iff.1 infoS
  simp only [Prod.mk.injEq] at hzz
  obtain ⟨hz0, hz1, hz2⟩ := hzz
  have HC := Lib.hid hC
  have HR := Lib.hid hR
  have HLC := Lib.hid hc
  have HPL := Lib.hid (show plain_List_int.f l = some l by unfold plain_List_int.f; rw [if_pos (by simp; omega)]; simp)
  have HI := Lib.hid (And.intro hi0 (And.intro hz0 (And.intro hz1 hz2)))
  have hmf : ∀ (fn : Fn) (first cap : Array Value) (w : World), (Instr.makeFunc fn first cap).run Try.prog w = .ok (.func fn first cap) w := fun _ _ _ _ => rfl
  clear hC hR hi0 hz0 hz1 hz2 hc
  go_enter Try.func70, Try.ntmps70
  go_wp2
  refine wp_loop_rounds 2 ?_
  rw [rounds_succ]
  go_wp2_with (go_at_call 86; go_must (refine (post_Rises.calls k _ _ l true _ (Kd.C_below HC.out (((Below.refl _ w).alloc (Nat.le_refl _) _).alloc (by simp) _)) HLC.out HR.out).mono ?_; rintro e w1 ⟨rfl, ⟨nd, rfl⟩⟩))
  obtain ⟨W2, hW2⟩ : ∃ W2, World.drewN ((w.alloc (.cells #[.int .i64 1] 3)).alloc (.cells #[.slice none 0 0] 117)) nd = W2 := ⟨_, rfl⟩
  have hbk : Boxed W2 w.heap.size 3 (.int .i64 1) := by rw [← hW2]; exact (Boxed.new w _ _).alloc _
  have hbo : Boxed W2 (w.heap.size + 1) 117 (.slice none 0 0) := by
    rw [← hW2]; have := Boxed.new (w.alloc (.cells #[.int .i64 1] 3)) 117 (.slice none 0 0); rw [World.size_alloc] at this; exact this
  have hB2 : Below w.heap.size w W2 := by rw [← hW2]; exact pw_below_drewN (((Below.refl _ w).alloc (Nat.le_refl _) _).alloc (by simp) _) _
  have HC2 := Lib.hid (Kd.C_below HC.out hB2)
  have hob2 : W2.drew.cell? ⟨w.heap.size + 1, 0, none⟩ = some (.slice none 0 0) := hbo.cell
  have HBO := Lib.hid hbo
  have HBK := Lib.hid hbk
  have HB2 := Lib.hid hB2
  rw [hW2]
  have HW2 := Lib.hid hW2
  clear hW2 hbk hbo hB2 HC hg
  refine wp_region_noPanic ?_
  refine start_ (n := 6) (S := fun w' => w'.cell? ⟨w.heap.size + 1, 0, none⟩ = some (.slice none 0 0)) (ds := [5]) #[false, false, false, false, false, false] (by kernel_rfl) rfl rfl hob2 (fun hHeld => ?_)
  clear hob2
  refine take_ (i := 0) (N := some 17) (v := ?_) (a' := ?_) #[true, false, false, false, false, false] rfl rfl (by kernel_rfl) (fun _ _ _ h => h) (Or.inl ⟨by rfl, ?_⟩) hHeld ?_ ?_
  rotate_left
  · intro w' s0_
    go_simp
    with_reducible rfl
  rotate_left
  · simp only [Act.put, List.setIfInBounds_toArray, List.set_cons_zero, List.set_cons_succ, i64_w, i32_w]
    rfl
  refine pure_ (i := 1) (N := some 18) (v := ?_) (a' := ?_) #[true, true, false, false, false, false] rfl rfl (by kernel_rfl) (fun _ _ _ h => h) (Or.inl ⟨by rfl, ?_⟩) ?_ ?_
  rotate_left
  · intro w'
    go_simp
    with_reducible rfl
  rotate_left
  · simp only [Act.put, List.setIfInBounds_toArray, List.set_cons_zero, List.set_cons_succ, i64_w, i32_w]
    rfl
  refine one_ (i := 2) (N := some 19) #[true, true, true, false, false, false] rfl rfl (by kernel_rfl) (by simp) (fun K hK => ?_)
  refine goes_ Try.func88 (by kernel_rfl) rfl #[.slice A l.length c] (by rfl) rfl rfl (by (try simp only [List.map_toArray, List.map_cons, List.map_nil]); first | done | rfl) ?_
  refine (plain_List_int.calls _ _ l l W2.drew (Kd.C_drew HC2.out) HLC.out HPL.out).mono ?_
  rintro e w3 ⟨v, rfl, hRv, hb⟩
  refine ⟨_, rfl, ?_⟩
  obtain ⟨A', c', rfl, hcc, hC3⟩ := Kd.R_reads hRv
  have HRV := Lib.hid hRv
  have hb3 : Boxed w3 (w.heap.size + 1) 117 (.slice none 0 0) := (hb.block _ HBO.out.lt).trans HBO.out
  have hk3 : Boxed w3 w.heap.size 3 (.int .i64 1) := (hb.block _ HBK.out.lt).trans HBK.out
  have HB3 := Lib.hid (HB2.out.trans ((below_drew (Below.refl W2.heap.size W2)).trans hb |>.mono HB2.out.size))
  have HBO3 := Lib.hid hb3
  have HBK3 := Lib.hid hk3
  have HSZ := Lib.hid hb.size
  obtain ⟨v', w4, hrun, hown, hgr, -⟩ := run_append_own (P := Try.prog) (w := w3.alloc (.cells #[.slice A' l.length c'] 38)) (w3.heap.size) 117 117 38 i0 (.slice none 0 0) 1 24 Try.underlying117 HI.out.1 HI.out.2.1 HI.out.2.2.1 HI.out.2.2.2 rfl (by decide) (.slice none 0 0) 0 [] (World.ownsRow_nil _ _ _ _) ⟨w3.heap.size, 0, none⟩ 1 1 [.slice A' l.length c'] rfl (cell_one_new _ _ _) (by simp [Value.oneCell']) (by simp [maxLen]) (by omega) (by simp)
  obtain ⟨g', cap', rfl⟩ := ownsRow_succ hown
  have hc3 := hb3.cell
  have HRUN := Lib.hid hrun
  have HOWN := Lib.hid hown
  have HGR := Lib.hid hgr
  clear hRv hb hC3 hcc hb3 hk3 hrun hown hgr
  clear hHeld
  refine hK.out _ _ hc3 (fun hHeld => ?_)
  clear hK K
  refine norm_ (a' := ?_) ?_ ?_
  rotate_left
  · show Act.put _ (some 19) _ = _
    simp only [Act.put, List.setIfInBounds_toArray, List.set_cons_zero, List.set_cons_succ, i64_w, i32_w]
    rfl
  refine one_ (i := 3) (N := some 20) #[true, true, true, true, false, false] rfl rfl (by kernel_rfl) (by simp) (fun K hK => ?_)
  refine value_ (v := .slice (some ⟨w3.heap.size, 0, none⟩) 1 1) (w1 := w3.alloc (.cells #[.slice A' l.length c'] 38)) (by rfl) rfl ?_ ?_
  · go_simp
  clear hHeld
  refine hK.out _ _ (Boxed.cell (HBO3.out.alloc _)) (fun hHeld => ?_)
  clear hK K
  refine norm_ (a' := ?_) ?_ ?_
  rotate_left
  · show Act.put _ (some 20) _ = _
    simp only [Act.put, List.setIfInBounds_toArray, List.set_cons_zero, List.set_cons_succ, i64_w, i32_w]
    rfl
  refine one_ (i := 4) (N := some 21) #[true, true, true, true, true, false] rfl rfl (by kernel_rfl) (by simp) (fun K hK => ?_)
  have HB4 := Lib.hid (show Boxed w4 (w.heap.size + 1) 117 (.slice none 0 0) from (HBO3.out.alloc _).kept HGR.out (by simp [Value.ownBlock]))
  refine value_ (v := .slice (some ⟨g', 0, none⟩) 1 cap') (w1 := w4) (by rfl) rfl ?_ ?_
  · have hrun := HRUN.out; simp [execOp, resolve, invoke, builtin, Act.eval, hrun, Result.andThen]
  clear hHeld
  refine hK.out _ _ (Boxed.cell HB4.out) (fun hHeld => ?_)
  clear hK K
  refine norm_ (a' := ?_) ?_ ?_
  rotate_left
  · show Act.put _ (some 21) _ = _
    simp only [Act.put, List.setIfInBounds_toArray, List.set_cons_zero, List.set_cons_succ, i64_w, i32_w]
    rfl
  refine last_ (i := 5) (N := none) #[true, true, true, true, true, true] rfl rfl (by kernel_rfl) (by decide) (fun K hK => ?_)
  have s0 := HB4.out.cell
  have s1 := HB4.out.frozen
  refine skip_ (w1 := ?_) (by rfl) rfl ?_ ?_
  rotate_left
  · go_simp
    rfl
  refine hK.out _ _ ?_
  clear hK K s0 s1
  refine done_ (by kernel_rfl) ?_
  refine NoPanic.normal ?_
  have hbo5 := HB4.out.set (.slice (some ⟨g', 0, none⟩) 1 cap')
  have hk4 : Boxed w4 w.heap.size 3 (.int .i64 1) := (HBK3.out.alloc _).kept HGR.out (by simp [Value.ownBlock])
  have hk5 := hk4.other (show w.heap.size ≠ w.heap.size + 1 by omega) (.slice (some ⟨g', 0, none⟩) 1 cap')
  have hr4 := Kd.R_grown (Kd.R_alloc HRV.out (.cells #[.slice A' l.length c'] 38)) HGR.out (fun k _ => by simp [Value.ownBlock])
  have hr5 := Kd.R_far (p := ⟨w.heap.size + 1, 0, none⟩) (Kd.R_bound hr4) (fun k hk => by have h1 := hk.2.1; have h2 := HBO.out.lt; have h3 : W2.drew.heap.size = W2.heap.size := rfl; show k ≠ w.heap.size + 1; omega) (.slice (some ⟨g', 0, none⟩) 1 cap')
  have hc5 := (Kd.R_reads' hr5).2.2
  have hg3 : w3.heap.size ≤ g' := own_base HOWN.out g' rfl
  have hg4 : g' < w4.heap.size := own_lt HOWN.out g' rfl
  have hl3 : w.heap.size + 1 < w3.heap.size := HBO3.out.lt
  have ho5 := HOWN.out.kept (grownBy_setCell' w4 (w.heap.size + 1) (.slice (some ⟨g', 0, none⟩) 1 cap')) (.inr (by simp [Value.ownBlock]; omega))
  have hx5 : (w4.setCell ⟨w.heap.size + 1, 0, none⟩ (.slice (some ⟨g', 0, none⟩) 1 cap')).cell? ⟨g', 0, none⟩ = some (.slice A' l.length c') := (ho5.cellAt 0 (by simp)).trans rfl
  have hB5 : Below w.heap.size w (w4.setCell ⟨w.heap.size + 1, 0, none⟩ (.slice (some ⟨g', 0, none⟩) 1 cap')) :=
    ((HB3.out.alloc HB3.out.size _).grown HGR.out (by simp; have := HB3.out.size; omega) (fun k e => by simp [Value.ownBlock] at e)).setCell (p := ⟨w.heap.size + 1, 0, none⟩) (show w.heap.size ≤ w.heap.size + 1 by omega) _
  have HF := Lib.hid (And.intro hc5 (And.intro hx5 (And.intro hB5 hbo5.cell)))
  have hck := hk5.cell
  clear hbo5 hk4 hk5 hr4 hr5 hc5 ho5 hx5 hB5
  go_wp2
  rw [rounds_succ]
  go_wp2
  go_ret
  exact ⟨w.heap.size + 1, w.heap.size, rfl, ⟨⟨g', cap', A', c', by simp; exact hg4, HF.out.2.2.2, HF.out.2.1, HF.out.1⟩, hck, by simp; omega, by simp; omega⟩, HF.out.2.2.1⟩
set_option maxRecDepth 100000 in
set_option maxHeartbeats 4000000 in
theorem from_u {A : Option Addr} {c k : Nat} {l : List Int} {w : World} (hC : Kd.C (Kd.int .i64) w A l.length l) (hc : l.length ≤ c) (hR : post_Rises.f k l = some true) (hl : l.length < 4096) :
    Calls Try.prog 59 #[.slice A l.length c] w fun e w' => ∃ ob kb, e = .returned (.func (.func 89) #[] #[.pointer (some ⟨ob, 0, none⟩), .pointer (some ⟨kb, 0, none⟩)]) ∧ Iter w' ob kb l ∧ Below w.heap.size w w' := by
  have HM := fun (W : World) (h : Kd.C (Kd.int .i64) W A l.length l) (g : Nat) (hg : W.cell? ⟨g, 0, none⟩ = some (.slice A l.length c)) (hgl : g < W.heap.size) => most_u h hc hR hl hg hgl
  have HC := Lib.hid hC
  have HMM := Lib.hid HM
  clear hC hR HM
  go_enter Try.func59, Try.ntmps59
  have hcw : (w.alloc (.cells #[.slice A l.length c] 38)).cell? ⟨w.heap.size, 0, none⟩ = some (.slice A l.length c) := (Boxed.new w 38 _).cell
  have HCW := Lib.hid hcw
  clear hcw
  go_wp2_with (go_at_call 70; go_must (refine (HMM.out _ (by repeat (first | exact HC.out | (with_reducible refine Kd.C_alloc ?_ _) | (with_reducible refine Kd.C_drewN ?_ _) | (with_reducible refine Kd.C_drew ?_))) w.heap.size (by first | exact HCW.out | (go_simp; exact HCW.out)) (by simp)).mono ?_; rintro e w1 ⟨ob, kb, rfl, hi, hb⟩; have HII := Lib.hid hi; have HBB := Lib.hid hb; clear hi hb))
  go_ret
  exact ⟨ob, kb, rfl, HII.out, Below.trans (by repeat (first | exact Below.refl _ _ | refine below_alloc ?_ _ | refine pw_below_drewN ?_ _ | refine below_drew ?_)) (HBB.out.mono (by simp))⟩
/-- post.List over post.From: the list in new memory. -/
theorem list_u {ob kb : Nat} {l : List Int} {w : World} (h : Iter w ob kb l) (hl : l.length < 4096) :
    Calls Try.prog 58 #[.func (.func 89) #[] #[.pointer (some ⟨ob, 0, none⟩), .pointer (some ⟨kb, 0, none⟩)], .int .i64 4096] w
      fun e w' => ∃ v, e = .returned v ∧ w'.ownsRow w.heap.size 3 1 v l.length (l.map (.int .i64)) ∧ Below w.heap.size w w' := by
  obtain ⟨⟨rb, cr, A, c, hrb, h1, h2, hC⟩, h3, h4, h5⟩ := h
  refine callsIn_wide.1 (postList_in Fence.wide 3 trivial trivial rfl (by omega) ob kb rb cr A c l w h4 h5 hrb h1 h2 h3 hl fun j hj => ?_)
  obtain ⟨ad, e, hc⟩ := Kd.at_int hC (j : Int) (by omega) (by omega)
  rw [Int.toNat_natCast] at hc
  have := World.block_lt_of_cell? w _ hc
  exact ⟨ad, e, by unfold Addr.add at this; split at this <;> exact this, hc⟩
end Go.Proofs.Ytlkhdbfhnpbbhaa
namespace Go.Proofs.Ytlkhdbfhnpbbhaa
set_option linter.unusedVariables false
set_option linter.unusedSimpArgs false
open Go.RowKit Go.Maps Go.Proofs.YtlkhdbfhnpbbhaaW.PrintWords Go.Proofs.YtlkhdbfhnpbbhaaW.PrintLast Go.Proofs.YtlkhdbfhnpbbhaaW.PrintMore Go.Proofs.Ytlkhdbfhnpbbhaa.Ix Go.Proofs.Ytlkhdbfhnpbbhaa.Tx Go.Proofs.Ytlkhdbfhnpbbhaa.Pure
/-- the number that the map holds for a text -/
def numOf (S : List (List LB)) (x : ByteArray) : Nat := match S.findIdx? (fun s => decide (textB s = x)) with
  | some i => i + 1
  | none => 0
theorem numOf_le (S : List (List LB)) (x : ByteArray) : numOf S x ≤ S.length := by
  unfold numOf
  cases h : S.findIdx? (fun s => decide (textB s = x)) with
  | some i => obtain ⟨hi, _⟩ := List.findIdx?_eq_some_iff_getElem.1 h; exact hi
  | none => exact Nat.zero_le _
theorem numOf_snoc (S : List (List LB)) (l : List LB) (x : ByteArray) : numOf (S ++ [l]) x = if numOf S x = 0 then (if textB l = x then S.length + 1 else 0) else numOf S x := by
  unfold numOf
  rw [List.findIdx?_append]
  cases h : S.findIdx? (fun s => decide (textB s = x)) with
  | some i => simp
  | none =>
    by_cases e : textB l = x
    · simp [List.findIdx?_cons, e]
    · simp [List.findIdx?_cons, e]
abbrev SD := DataW Unit
theorem lawS : Keyed Try.prog 9 := string_keyed Try.underlying9
/-- The map holds each set's number and 1, by its text. -/
structure MapOf (D : SD) (S : List (List LB)) : Prop where
  key : ∀ x : ByteArray, D.atKey (.string x.data.toList) (.lit (.int .i64 0)) = .lit (.int .i64 (numOf S x : Nat))
  has : ∀ x : ByteArray, Maps.has D (.string x.data.toList) = decide (numOf S x ≠ 0)
  size : Maps.size D = S.length
theorem data_inj {a b : ByteArray} (h : a.data.toList = b.data.toList) : a = b := bytes_ext (by rw [Lib.toList_data, Lib.toList_data, h])
theorem MapOf.nil : MapOf (.map []) [] := ⟨fun _ => rfl, fun _ => rfl, rfl⟩
theorem MapOf.put {D : SD} {S : List (List LB)} {l : List LB} (h : MapOf D S) (ht : Tidy D) (hn : numOf S (textB l) = 0) :
    MapOf (D.put (.string (textB l).data.toList) (.lit (.int .i64 ((S.length + 1 : Nat) : Int)))) (S ++ [l]) := by
  refine ⟨fun y => ?_, fun y => ?_, ?_⟩
  · by_cases e : y = textB l
    · subst e
      rw [atKey_put_same (k := .string (textB l).data.toList) ht.isMap trivial, numOf_snoc, if_pos hn, if_pos rfl]
    · rw [atKey_put_other (by intro c; injection c with c; exact e (data_inj c)), h.key, numOf_snoc]
      by_cases c : numOf S y = 0
      · rw [if_pos c, if_neg (fun x => e x.symm), c]
      · rw [if_neg c]
  · by_cases e : y = textB l
    · subst e
      rw [has_put_same (k := .string (textB l).data.toList) ht.isMap trivial, numOf_snoc, if_pos hn, if_pos rfl]; simp
    · rw [has_put_other (by intro c; injection c with c; exact e (data_inj c)), h.has, numOf_snoc]
      by_cases c : numOf S y = 0
      · rw [if_pos c, if_neg (fun x => e x.symm), c]
      · rw [if_neg c]
  · rw [size_put ht, h.has, hn]; simp [h.size]
/-- Of the blocks that stood only those of f may be others now. -/
structure Far (f : Nat → Prop) (w w' : World) : Prop where
  size : w.heap.size ≤ w'.heap.size
  block : ∀ k, k < w.heap.size → ¬ f k → w'.heap[k]? = w.heap[k]?
theorem Far.of_below {f : Nat → Prop} {w w' : World} (h : Below w.heap.size w w') : Far f w w' := ⟨h.size, fun k hk _ => h.block k hk⟩
theorem Far.trans {f : Nat → Prop} {a b c : World} (h : Far f a b) (k : Far f b c) : Far f a c :=
  ⟨Nat.le_trans h.size k.size, fun i hi hf => (k.block i (Nat.lt_of_lt_of_le hi h.size) hf).trans (h.block i hi hf)⟩
theorem Far.mono {f g : Nat → Prop} {a b : World} (h : Far f a b) (hfg : ∀ k, f k → g k) : Far g a b := ⟨h.size, fun i hi hn => h.block i hi (fun c => hn (hfg i c))⟩
theorem Far.grown {f : Nat → Prop} {a w w' : World} {row : Option Nat} (h : Far f a w) (hg : w.grownBy w' row) (hr : ∀ k, row = some k → f k) : Far f a w' :=
  h.trans ⟨hg.size, fun k hk hf => hg.block k hk (fun e => hf (hr k e.symm))⟩
theorem Far.setCell {f : Nat → Prop} {a w : World} (h : Far f a w) {p : Addr} (hp : f p.block) (u : Value) : Far f a (w.setCell p u) :=
  h.trans ⟨by simp [World.setCell], fun k _ hf => Below.heap_setCell _ _ _ _ (fun e => hf (e ▸ hp))⟩
theorem Far.drewN {f : Nat → Prop} {a w : World} (h : Far f a w) (n : Nat) : Far f a (w.drewN n) := h.trans (Far.of_below (pw_below_drewN (Below.refl _ _) n))
theorem R_other {α : Type} {d : Kd α} {e : Nat} {w w1 : World} {base : Nat} {f ok : Nat → Prop} {v : Value} {xs : List α} (h : d.R e w base ok v xs) (hf : Far f w w1) (hok : ∀ k, ok k → ¬ f k) : d.R e w1 base ok v xs :=
  Kd.R_step h (fun k ho hk => hf.block k hk (hok k ho))
/-- Blocks kb and mb are an index of the sets S; all its blocks are of f. -/
structure IX (f : Nat → Prop) (w : World) (base kb mb : Nat) (S : List (List LB)) : Prop where
  ne : kb ≠ mb
  cells : ∃ v, w.heap[kb]? = some (.cells #[v, .map (some mb)] 73 (0, 0)) ∧ Kd.R (Kd.slice 41 k41) 23 w base (fun k => f k ∧ k ≠ kb ∧ k ≠ mb) v S
  map : ∃ D : SD, w.ownsMap Try.prog 9 (plainElem Try.prog 3) mb S.length D ∧ MapOf D S
  good : ∀ s ∈ S, chk s = true
  len : S.length ≤ 4096
  kge : base ≤ kb
  mge : base ≤ mb
  fk : f kb
  fm : f mb
theorem IX.klt {f : Nat → Prop} {w : World} {base kb mb : Nat} {S : List (List LB)} (h : IX f w base kb mb S) : kb < w.heap.size := by
  obtain ⟨v, hv, _⟩ := h.cells; exact (Array.getElem?_eq_some_iff.1 hv).1
theorem IX.mlt {f : Nat → Prop} {w : World} {base kb mb : Nat} {S : List (List LB)} (h : IX f w base kb mb S) : mb < w.heap.size := by
  obtain ⟨D, h1, _⟩ := h.map; exact h1.lt
theorem IX.below {f : Nat → Prop} {w w' : World} {base kb mb : Nat} {S : List (List LB)} (h : IX f w base kb mb S) (hb : Below w.heap.size w w') : IX f w' base kb mb S := by
  refine ⟨h.ne, ?_, ?_, h.good, h.len, h.kge, h.mge, h.fk, h.fm⟩
  · obtain ⟨v, hv, hR⟩ := h.cells
    exact ⟨v, (hb.block kb h.klt).trans hv, Kd.R_below hR hb⟩
  · obtain ⟨D, ⟨es, clock, h1, h2⟩, h3⟩ := h.map
    exact ⟨D, ⟨es, clock, (hb.block mb h.mlt).trans h1, h2⟩, h3⟩
/-- What has turned is none of its blocks. -/
theorem IX.far {f g : Nat → Prop} {w w' : World} {base kb mb : Nat} {S : List (List LB)} (h : IX f w base kb mb S) (hg : Far g w w') (hfg : ∀ k, f k → ¬ g k) : IX f w' base kb mb S := by
  refine ⟨h.ne, ?_, ?_, h.good, h.len, h.kge, h.mge, h.fk, h.fm⟩
  · obtain ⟨v, hv, hR⟩ := h.cells
    exact ⟨v, (hg.block kb h.klt (hfg kb h.fk)).trans hv, R_other hR hg (fun k hk => hfg k hk.1)⟩
  · obtain ⟨D, ⟨es, clock, h1, h2⟩, h3⟩ := h.map
    exact ⟨D, ⟨es, clock, (hg.block mb h.mlt (hfg mb h.fm)).trans h1, h2⟩, h3⟩
/-- Its blocks stand, and none is below the base. -/
theorem IX.bound {f : Nat → Prop} {w : World} {base kb mb : Nat} {S : List (List LB)} (h : IX f w base kb mb S) : IX (fun k => f k ∧ base ≤ k ∧ k < w.heap.size) w base kb mb S := by
  refine ⟨h.ne, ?_, h.map, h.good, h.len, h.kge, h.mge, ⟨h.fk, h.kge, h.klt⟩, ⟨h.fm, h.mge, h.mlt⟩⟩
  obtain ⟨v, hv, hR⟩ := h.cells
  exact ⟨v, hv, Kd.R_mono (Kd.R_bound hR) (fun k hk => ⟨⟨hk.1.1, hk.2.1, hk.2.2.1⟩, hk.1.2⟩)⟩
theorem IX.mono {f g : Nat → Prop} {w : World} {base kb mb : Nat} {S : List (List LB)} (h : IX f w base kb mb S) (hfg : ∀ k, f k → g k) : IX g w base kb mb S := by
  refine ⟨h.ne, ?_, h.map, h.good, h.len, h.kge, h.mge, hfg _ h.fk, hfg _ h.fm⟩
  obtain ⟨v, hv, hR⟩ := h.cells
  exact ⟨v, hv, Kd.R_mono hR (fun k hk => ⟨hfg k hk.1, hk.2⟩)⟩
theorem inew_u (w : World) : Calls Try.prog 33 #[] w fun e w' => ∃ kb mb, e = .returned (.pointer (some ⟨kb, 0, none⟩)) ∧ IX (fun k => w.heap.size ≤ k) w' w.heap.size kb mb [] ∧ Below w.heap.size w w' := by
  have h1 := World.ownsMap_made (H := Unit) w Try.prog 9 (plainElem Try.prog 3)
  have h2 := h1.alloc (.cells #[.slice none 0 0, .map (some w.heap.size)] 73)
  have b1 : Below w.heap.size w ((w.alloc (.map #[] 0)).alloc (.cells #[.slice none 0 0, .map (some w.heap.size)] 73)) :=
    ((Below.refl w.heap.size w).alloc (Nat.le_refl _) (.map #[] 0)).alloc (by simp) _
  have n1 := blk_new (w.alloc (.map #[] 0)) (Obj.cells #[.slice none 0 0, .map (some w.heap.size)] 73)
  have H2 := Lib.hid h2; have B1 := Lib.hid b1; have N1 := Lib.hid n1
  clear h1 h2 b1 n1
  have hmk : ∀ w, (Instr.makeMap 71 none).run Try.prog w = .ok (.map (some w.heap.size)) (w.alloc (.map #[] 0)) := fun w => run_makeMap 71 w
  go_enter Try.func33, Try.ntmps33
  go_wp2
  go_ret
  exact ⟨w.heap.size + 1, w.heap.size, by simp, ⟨by omega, ⟨.slice none 0 0, by simpa using N1.out, Kd.R_nil _ _ _ _ _⟩, ⟨_, H2.out, MapOf.nil⟩, by simp, by simp, by omega, Nat.le_refl _, by omega, Nat.le_refl _⟩, B1.out⟩
theorem ilen_u {f : Nat → Prop} {w : World} {base kb mb : Nat} {S : List (List LB)} (h : IX f w base kb mb S) :
    Calls Try.prog 23 #[.pointer (some ⟨kb, 0, none⟩)] w fun e w' => e = .returned (.int .i64 (S.length : Nat)) ∧ w' = w := by
  obtain ⟨v, hv, hR⟩ := h.cells
  obtain ⟨A, c, rfl⟩ := Kd.R_slice hR
  have c0 := blk_cell hv 0
  clear h hR hv
  go_enter Try.func23, Try.ntmps23
  go_wp2
  go_ret
  exact ⟨rfl, rfl⟩
/-- what Find tells -/
def posOf (S : List (List LB)) (l : List LB) : Nat := if chk l = true then numOf S (textB l) else 0
set_option maxRecDepth 100000 in
set_option maxHeartbeats 8000000 in
theorem ifind_u {f : Nat → Prop} {w : World} {base kb mb : Nat} {S : List (List LB)} (h : IX f w base kb mb S) {A : Option Addr} {c : Nat} {l : List LB} (hC : Kd.C k41 w A l.length l) (hc : l.length ≤ c) :
    Calls Try.prog 11 #[.pointer (some ⟨kb, 0, none⟩), .slice A l.length c] w fun e w' => e = .returned (.tuple #[.int .i64 ((posOf S l : Nat) - 1), .bool (decide (posOf S l ≠ 0))]) ∧ Below w.heap.size w w' := by
  have HC := Lib.hid hC
  have HCL := Lib.hid hc
  have HX := Lib.hid h
  have HCK := Lib.hid (check_eq l 60 (Nat.le_refl _))
  by_cases hk : chk l = true
  · have HP := Lib.hid (show posOf S l = numOf S (textB l) by unfold posOf; rw [if_pos hk])
    have HT := Lib.hid (text_eq hk 160 (Nat.le_refl _))
    have HS := Lib.hid (show (textB l).size ≤ maxLen by
      have h1 := join_size l (chk_fine hk).1
      have h2 := (chk_fine hk).2.1
      have h3 : (textB l).size ≤ 401 * l.length := by rw [← data_length]; exact h1
      simp only [maxLen]; omega)
    rw [hk] at HCK
    clear h hC hc hk
    go_enter Try.func11, Try.ntmps11
    go_wp2_with (go_at_call 35; go_must (refine (label_Check.calls 60 _ _ l true _ HC.out HCL.out HCK.out).mono ?_; rintro e w1 ⟨rfl, hb1⟩))
    have HB1 := Lib.hid hb1
    have hx1 := HX.out.below hb1
    have HX1 := Lib.hid hx1
    have hC1 := Kd.C_drew (Kd.C_below HC.out hb1)
    have HC1 := Lib.hid hC1
    obtain ⟨v, hv, -⟩ := hx1.cells
    have hob : w1.drew.cell? ⟨kb, 1, none⟩ = some (.map (some mb)) := blk_cell hv 1
    clear hv hb1 hx1 hC1
    refine wp_region_noPanic ?_
    refine start_ (n := 8) (S := fun w' => w'.cell? ⟨kb, 1, none⟩ = some (.map (some mb))) (ds := []) #[false, false, false, false, false, false, false, false] (by kernel_rfl) rfl rfl hob (fun hHeld => ?_)
    clear hob
    refine pure_ (i := 0) (N := some 14) (v := ?_) (a' := ?_) #[true, false, false, false, false, false, false, false] rfl rfl (by kernel_rfl) (fun _ _ _ h => h) (Or.inl ⟨by rfl, ?_⟩) ?_ ?_
    rotate_left
    · intro w'
      go_simp
      with_reducible rfl
    rotate_left
    · simp only [Act.put, List.setIfInBounds_toArray, List.set_cons_zero, List.set_cons_succ, i64_w, i32_w]
      rfl
    refine pure_ (i := 1) (N := some 15) (v := ?_) (a' := ?_) #[true, true, false, false, false, false, false, false] rfl rfl (by kernel_rfl) (fun _ _ _ h => h) (Or.inl ⟨by rfl, ?_⟩) ?_ ?_
    rotate_left
    · intro w'
      go_simp
      with_reducible rfl
    rotate_left
    · simp only [Act.put, List.setIfInBounds_toArray, List.set_cons_zero, List.set_cons_succ, i64_w, i32_w]
      rfl
    refine pure_ (i := 2) (N := some 16) (v := ?_) (a' := ?_) #[true, true, true, false, false, false, false, false] rfl rfl (by kernel_rfl) (fun _ _ _ h => h) (Or.inl ⟨by rfl, ?_⟩) ?_ ?_
    rotate_left
    · intro w'
      go_simp
      with_reducible rfl
    rotate_left
    · simp only [Act.put, List.setIfInBounds_toArray, List.set_cons_zero, List.set_cons_succ, i64_w, i32_w]
      rfl
    refine take_ (i := 3) (N := some 17) (v := ?_) (a' := ?_) #[true, true, true, true, false, false, false, false] rfl rfl (by kernel_rfl) (fun _ _ _ h => h) (Or.inl ⟨by rfl, ?_⟩) hHeld ?_ ?_
    rotate_left
    · intro w' s0_
      go_simp
      with_reducible rfl
    rotate_left
    · simp only [Act.put, List.setIfInBounds_toArray, List.set_cons_zero, List.set_cons_succ, i64_w, i32_w]
      rfl
    refine pure_ (i := 4) (N := some 18) (v := ?_) (a' := ?_) #[true, true, true, true, true, false, false, false] rfl rfl (by kernel_rfl) (fun _ _ _ h => h) (Or.inl ⟨by rfl, ?_⟩) ?_ ?_
    rotate_left
    · intro w'
      go_simp
      with_reducible rfl
    rotate_left
    · simp only [Act.put, List.setIfInBounds_toArray, List.set_cons_zero, List.set_cons_succ, i64_w, i32_w]
      rfl
    refine one_ (i := 5) (N := some 19) #[true, true, true, true, true, true, false, false] rfl rfl (by kernel_rfl) (by simp) (fun K hK => ?_)
    refine goes_ Try.func36 (by kernel_rfl) rfl #[.slice A l.length c] (by rfl) rfl rfl (by (try simp only [List.map_toArray, List.map_cons, List.map_nil]); first | done | rfl) ?_
    refine (label_Text.calls 160 _ _ l (textB l) w1.drew HC1.out HCL.out HT.out).mono ?_
    rintro e w3 ⟨rfl, hb⟩
    refine ⟨_, rfl, ?_⟩
    have HB3 := Lib.hid (HB1.out.trans ((below_drew (Below.refl w1.heap.size w1)).trans hb |>.mono HB1.out.size))
    have hx3 := HX1.out.below ((below_drew (Below.refl w1.heap.size w1)).trans hb)
    have HX3 := Lib.hid hx3
    obtain ⟨v3, hv3, -⟩ := hx3.cells
    have hc3 : w3.cell? ⟨kb, 1, none⟩ = some (.map (some mb)) := blk_cell hv3 1
    obtain ⟨D, hown, hD⟩ := hx3.map
    obtain ⟨n, hlook, hat, hwn⟩ := hown.lookup_int lawS Try.underlying71 Try.underlying3 (by rfl) (WideMaps.keyOf_string_mk Try.underlying9 HS.out)
    rw [hD.key] at hat
    obtain rfl : n = ((numOf S (textB l) : Nat) : Int) := by injection hat with e; injection e with _ e; exact e.symm
    have HL := Lib.hid hlook
    clear hlook hat hwn hown hD hx3 hb hv3
    clear hHeld
    refine hK.out _ _ hc3 (fun hHeld => ?_)
    clear hK K
    refine norm_ (a' := ?_) ?_ ?_
    rotate_left
    · show Act.put _ (some 19) _ = _
      simp only [Act.put, List.setIfInBounds_toArray, List.set_cons_zero, List.set_cons_succ, i64_w, i32_w]
      rfl
    refine one_ (i := 6) (N := some 20) #[true, true, true, true, true, true, true, false] rfl rfl (by kernel_rfl) (by simp) (fun K hK => ?_)
    refine value_ (v := .int .i64 ((numOf S (textB l) : Nat) : Int)) (w1 := w3) (by rfl) rfl ?_ ?_
    · have hlook := HL.out; simp [execOp, Act.eval, hlook, Result.andThen]
    clear hHeld
    refine hK.out _ _ hc3 (fun hHeld => ?_)
    clear hK K
    refine norm_ (a' := ?_) ?_ ?_
    rotate_left
    · show Act.put _ (some 20) _ = _
      simp only [Act.put, List.setIfInBounds_toArray, List.set_cons_zero, List.set_cons_succ, i64_w, i32_w]
      rfl
    refine pure_ (i := 7) (N := some 6) (v := ?_) (a' := ?_) #[true, true, true, true, true, true, true, true] rfl rfl (by kernel_rfl) (fun _ _ _ h => h) (Or.inl ⟨by rfl, ?_⟩) ?_ ?_
    rotate_left
    · intro w'
      go_simp
      with_reducible rfl
    rotate_left
    · simp only [Act.put, List.setIfInBounds_toArray, List.set_cons_zero, List.set_cons_succ, i64_w, i32_w]
      rfl
    refine done_ (by kernel_rfl) ?_
    refine NoPanic.normal ?_
    clear hHeld
    go_wp2
    go_ret2
    have hn := numOf_le S (textB l)
    have hS := HX.out.len
    refine ⟨?_, HB3.out⟩
    rw [HP.out, w64 (by omega) (by omega)]
    congr 1
    by_cases e : numOf S (textB l) = 0
    · simp [e]
    · simp [e, Nat.pos_of_ne_zero e]
  · have HP := Lib.hid (show posOf S l = 0 by unfold posOf; rw [if_neg hk])
    rw [eq_false_of_ne_true hk] at HCK
    clear h hC hc hk
    go_enter Try.func11, Try.ntmps11
    go_wp2_with (go_at_call 35; go_must (refine (label_Check.calls 60 _ _ l false _ HC.out HCL.out HCK.out).mono ?_; rintro e w1 ⟨rfl, hb1⟩))
    go_ret2
    exact ⟨by rw [HP.out]; rfl, hb1⟩
end Go.Proofs.Ytlkhdbfhnpbbhaa
namespace Go.Proofs.Ytlkhdbfhnpbbhaa
set_option linter.unusedVariables false
set_option linter.unusedSimpArgs false
open Go.RowKit Go.Maps Go.Proofs.YtlkhdbfhnpbbhaaW.PrintWords Go.Proofs.YtlkhdbfhnpbbhaaW.PrintLast Go.Proofs.YtlkhdbfhnpbbhaaW.PrintMore Go.Proofs.Ytlkhdbfhnpbbhaa.Ix Go.Proofs.Ytlkhdbfhnpbbhaa.Tx Go.Proofs.Ytlkhdbfhnpbbhaa.Pure
/-- A set of a row of sets. -/
theorem set_at {w : World} {A : Option Addr} {n : Nat} {S : List (List LB)} (h : (Kd.slice 41 k41).C w A n S) (i : Nat) (hi : i < n) :
    ∃ ad A' c', A = some ad ∧ w.cell? (ad.add i) = some (.slice A' (S.getD i []).length c') ∧ (S.getD i []).length ≤ c' ∧ Kd.C k41 w A' (S.getD i []).length (S.getD i []) := by
  obtain ⟨ad, c, e, -, hK, hc⟩ := Kd.C_get h [] (i : Int) (by omega) (by omega)
  rw [Int.toNat_natCast] at hK hc
  obtain ⟨A', c', rfl, hl, hr⟩ := hK
  have := hc 0 _ rfl
  rw [show (Kd.slice 41 k41).sz = 1 from rfl, Nat.mul_one, Nat.add_zero] at this
  exact ⟨ad, A', c', e, this, hl, hr⟩
set_option maxRecDepth 100000 in
set_option maxHeartbeats 8000000 in
theorem ilabels_yes {f : Nat → Prop} {w : World} {base kb mb : Nat} {S : List (List LB)} (h : IX f w base kb mb S) (i : Nat) (hi : i < S.length) :
    Calls Try.prog 15 #[.pointer (some ⟨kb, 0, none⟩), .int .i64 (i : Nat)] w fun e w' => ∃ A c, e = .returned (.tuple #[.slice A (S.getD i []).length c, .bool true]) ∧
      Kd.R k41 41 w' w.heap.size (fun _ => True) (.slice A (S.getD i []).length c) (S.getD i []) ∧ Below w.heap.size w w' := by
  have hlen := h.len
  obtain ⟨v, hv, hR⟩ := h.cells
  obtain ⟨A, c, rfl, hcc, hC⟩ := Kd.R_reads hR
  obtain ⟨ad, A', c', rfl, hcell, hle, hC'⟩ := set_at hC i hi
  have c0 := blk_cell hv 0
  have hs : (S.getD i []).length ≤ 8 := by
    have : S.getD i [] ∈ S := by rw [List.getD_eq_getElem?_getD, List.getElem?_eq_getElem hi]; exact List.getElem_mem _
    exact (chk_fine (h.good _ this)).2.1
  obtain ⟨l, hl⟩ : ∃ l, S.getD i [] = l := ⟨_, rfl⟩
  rw [hl] at hcell hle hC' hs ⊢
  have HP := Lib.hid (show api_Label.f l = some l by unfold api_Label.f; rw [if_pos (by simp; omega)]; simp)
  have HC := Lib.hid hC'
  have HLE := Lib.hid hle
  have d1 : decide ((i : Int) < 0) = false := by simp
  have d2 : decide ((S.length : Int) ≤ (i : Int)) = false := by simp; omega
  clear h hR hC hC' hle hv hl
  go_enter Try.func15, Try.ntmps15
  go_wp2_with (go_at_call 39; go_must (refine (api_Label.calls _ _ l l _ HC.out HLE.out HP.out).mono ?_; rintro e w1 ⟨v1, rfl, hr1, hb1⟩; obtain ⟨A1, c1, rfl⟩ := Kd.R_slice hr1; have HR1 := Lib.hid hr1; have HB1 := Lib.hid hb1; clear hr1 hb1))
  go_ret2
  exact ⟨A1, c1, rfl, HR1.out, HB1.out⟩
end Go.Proofs.Ytlkhdbfhnpbbhaa
namespace Go.Proofs.Ytlkhdbfhnpbbhaa
set_option linter.unusedVariables false
set_option linter.unusedSimpArgs false
open Go.RowKit Go.Maps Go.Proofs.YtlkhdbfhnpbbhaaW.PrintWords Go.Proofs.YtlkhdbfhnpbbhaaW.PrintLast Go.Proofs.YtlkhdbfhnpbbhaaW.PrintMore Go.Proofs.Ytlkhdbfhnpbbhaa.Ix Go.Proofs.Ytlkhdbfhnpbbhaa.Tx Go.Proofs.Ytlkhdbfhnpbbhaa.Pure
/-- has a set that value of a name? -/
def hasVal (name value : ByteArray) (l : List LB) : Bool := (lbVal l name).toList == value.toList
set_option maxRecDepth 100000 in
set_option maxHeartbeats 8000000 in
theorem post1_u {w : World} {pn pv : Nat} {name value : ByteArray} (hn : w.cell? ⟨pn, 0, none⟩ = some (.string name)) (hv : w.cell? ⟨pv, 0, none⟩ = some (.string value)) {A : Option Addr} {c : Nat} {l : List LB}
    (hC : Kd.C k41 w A l.length l) (hc : l.length ≤ c) (hl : l.length ≤ 8) :
    Calls Try.prog 41 #[.slice A l.length c, .pointer (some ⟨pn, 0, none⟩), .pointer (some ⟨pv, 0, none⟩)] w fun e w' => e = .returned (.bool (hasVal name value l)) ∧ Below w.heap.size w w' := by
  have HC := Lib.hid (Kd.C_drew hC)
  have HCL := Lib.hid hc
  have HV := Lib.hid (value_eq l name (by omega) 9 (by omega))
  have HN := Lib.hid (And.intro (World.block_lt_of_cell? w _ hn) (World.block_lt_of_cell? w _ hv))
  have HCN := Lib.hid (And.intro hn hv)
  have hn2 : w.drew.cell? ⟨pn, 0, none⟩ = some (.string name) := hn
  have hv2 : w.drew.cell? ⟨pv, 0, none⟩ = some (.string value) := hv
  clear hC hc hn hv
  go_enter Try.func41, Try.ntmps41
  go_wp2
  refine wp_region_noPanic ?_
  refine start_ (n := 6) (S := fun w' => w'.cell? ⟨pn, 0, none⟩ = some (.string name) ∧ w'.cell? ⟨pv, 0, none⟩ = some (.string value)) (ds := []) #[false, false, false, false, false, false] (by kernel_rfl) rfl rfl ⟨hn2, hv2⟩ (fun hHeld => ?_)
  clear hn2 hv2
  refine pure_ (i := 0) (N := some 5) (v := ?_) (a' := ?_) #[true, false, false, false, false, false] rfl rfl (by kernel_rfl) (fun _ _ _ h => h) (Or.inl ⟨by rfl, ?_⟩) ?_ ?_
  rotate_left
  · intro w'
    go_simp
    with_reducible rfl
  rotate_left
  · simp only [Act.put, List.setIfInBounds_toArray, List.set_cons_zero, List.set_cons_succ, i64_w, i32_w]
    rfl
  refine take_ (i := 1) (N := some 6) (v := ?_) (a' := ?_) #[true, true, false, false, false, false] rfl rfl (by kernel_rfl) (fun _ _ _ h => h) (Or.inl ⟨by rfl, ?_⟩) hHeld ?_ ?_
  rotate_left
  · rintro w' ⟨s0_, s1_⟩
    go_simp
    with_reducible rfl
  rotate_left
  · simp only [Act.put, List.setIfInBounds_toArray, List.set_cons_zero, List.set_cons_succ, i64_w, i32_w]
    rfl
  refine take_ (i := 3) (N := some 8) (v := ?_) (a' := ?_) #[true, true, false, true, false, false] rfl rfl (by kernel_rfl) (fun _ _ _ h => h) (Or.inl ⟨by rfl, ?_⟩) hHeld ?_ ?_
  rotate_left
  · rintro w' ⟨s0_, s1_⟩
    go_simp
    with_reducible rfl
  rotate_left
  · simp only [Act.put, List.setIfInBounds_toArray, List.set_cons_zero, List.set_cons_succ, i64_w, i32_w]
    rfl
  refine one_ (i := 2) (N := some 7) #[true, true, true, true, false, false] rfl rfl (by kernel_rfl) (by simp) (fun K hK => ?_)
  refine goes_ Try.func42 (by kernel_rfl) rfl #[.slice A l.length c, .string name] (by rfl) rfl rfl (by (try simp only [List.map_toArray, List.map_cons, List.map_nil]); first | done | rfl) ?_
  refine (label_Value.calls 9 _ _ l name (lbVal l name) w.drew HC.out HCL.out HV.out).mono ?_
  rintro e w3 ⟨rfl, hb⟩
  refine ⟨_, rfl, ?_⟩
  have HB3 := Lib.hid ((below_drew (Below.refl w.heap.size w)).trans hb)
  have hn3 : w3.cell? ⟨pn, 0, none⟩ = some (.string name) := (hb.cell (p := ⟨pn, 0, none⟩) HN.out.1).trans HCN.out.1
  have hv3 : w3.cell? ⟨pv, 0, none⟩ = some (.string value) := (hb.cell (p := ⟨pv, 0, none⟩) HN.out.2).trans HCN.out.2
  clear hb
  clear hHeld
  refine hK.out _ _ ⟨hn3, hv3⟩ (fun hHeld => ?_)
  clear hK K
  refine norm_ (a' := ?_) ?_ ?_
  rotate_left
  · show Act.put _ (some 7) _ = _
    simp only [Act.put, List.setIfInBounds_toArray, List.set_cons_zero, List.set_cons_succ, i64_w, i32_w]
    rfl
  refine pure_ (i := 4) (N := some 9) (v := ?_) (a' := ?_) #[true, true, true, true, true, false] rfl rfl (by kernel_rfl) (fun _ _ _ h => h) (Or.inl ⟨by rfl, ?_⟩) ?_ ?_
  rotate_left
  · intro w'
    go_simp
    with_reducible rfl
  rotate_left
  · simp only [Act.put, List.setIfInBounds_toArray, List.set_cons_zero, List.set_cons_succ, i64_w, i32_w]
    rfl
  refine pure_ (i := 5) (N := some 4) (v := ?_) (a' := ?_) #[true, true, true, true, true, true] rfl rfl (by kernel_rfl) (fun _ _ _ h => h) (Or.inl ⟨by rfl, ?_⟩) ?_ ?_
  rotate_left
  · intro w'
    go_simp
    with_reducible rfl
  rotate_left
  · simp only [Act.put, List.setIfInBounds_toArray, List.set_cons_zero, List.set_cons_succ, i64_w, i32_w]
    rfl
  refine done_ (by kernel_rfl) ?_
  refine NoPanic.normal ?_
  clear hHeld
  go_wp2
  go_ret
  exact ⟨rfl, HB3.out⟩
/-- the numbers of the sets of which q says yes, up to i -/
def sel (q : List LB → Bool) (S : List (List LB)) (i : Nat) : List Int := ((List.range i).filter (fun j => q (S.getD j []))).map (fun j => ((j : Nat) : Int))
theorem sel_succ (q : List LB → Bool) (S : List (List LB)) (i : Nat) : sel q S (i + 1) = sel q S i ++ if q (S.getD i []) = true then [((i : Nat) : Int)] else [] := by
  unfold sel
  rw [List.range_succ, List.filter_append, List.map_append]
  congr 1
  by_cases h : q (S.getD i []) = true
  · rw [if_pos h]; simp only [List.filter_cons, h, if_true, List.filter_nil, List.map_cons, List.map_nil]
  · rw [if_neg h]; simp only [List.filter_cons, h, if_false, List.filter_nil, List.map_nil]; rfl
theorem sel_len (q : List LB → Bool) (S : List (List LB)) (i : Nat) : (sel q S i).length ≤ i := by
  unfold sel; rw [List.length_map]
  exact Nat.le_trans (List.length_filter_le _ _) (by simp)
set_option maxRecDepth 100000 in
set_option maxHeartbeats 8000000 in
theorem those_u {f : Nat → Prop} {w : World} {base kb mb : Nat} {S : List (List LB)} (h : IX f w base kb mb S) (hS : S.length < 4096) {pn pv : Nat} {name value : ByteArray}
    (hn : w.cell? ⟨pn, 0, none⟩ = some (.string name)) (hv : w.cell? ⟨pv, 0, none⟩ = some (.string value)) {k : Nat} (hR : post_Rises.f k (sel (hasVal name value) S S.length) = some true) :
    Calls Try.prog 40 #[.pointer (some ⟨kb, 0, none⟩), .func (.func 41) #[] #[.pointer (some ⟨pn, 0, none⟩), .pointer (some ⟨pv, 0, none⟩)]] w
      fun e w' => ∃ v, e = .returned v ∧ w'.ownsRow w.heap.size 3 1 v (sel (hasVal name value) S S.length).length ((sel (hasVal name value) S S.length).map (.int .i64)) ∧ Below w.heap.size w w' := by
  have HX := Lib.hid h
  have HRI := Lib.hid hR
  have HN := Lib.hid (And.intro (World.block_lt_of_cell? w _ hn) (World.block_lt_of_cell? w _ hv))
  have HCN := Lib.hid (And.intro hn hv)
  obtain ⟨v, hv0, hR0⟩ := h.cells
  obtain ⟨A, c, rfl, hcc, hCS⟩ := Kd.R_reads hR0
  have HCS := Lib.hid hCS
  have c0 := blk_cell hv0 0
  obtain ⟨q, hq⟩ : ∃ q, hasVal name value = q := ⟨_, rfl⟩
  have HQ := Lib.hid hq
  rw [hq] at HRI ⊢
  clear h hR hn hv hR0 hCS hv0 hq
  go_enter Try.func40, Try.ntmps40
  go_wp2
  go_loopw [5, 16] (fun v5 v16 wr => ∃ i : Nat, i ≤ S.length ∧ v16 = .int .i64 (i : Int) ∧ Kd.R (Kd.int .i64) 3 wr w.heap.size (fun _ => True) v5 (sel q S i) ∧ Below w.heap.size w wr)
    (fun _ v16 _ => S.length - (intOf v16).toNat)
  case atStart => exact ⟨0, Nat.zero_le _, rfl, Kd.R_nil _ _ _ _ _, Below.refl _ _⟩
  case round =>
    obtain ⟨i, hi, rfl, hr, hb⟩ := hrel
    by_cases hlt : i < S.length
    · obtain ⟨ad, A', c', rfl, hcell, hle, hC'⟩ := set_at HCS.out i hlt
      have hc2 := (hb.cell (World.block_lt_of_cell? w _ hcell)).trans hcell
      have hs8 : (S.getD i []).length ≤ 8 := by
        have : S.getD i [] ∈ S := by rw [List.getD_eq_getElem?_getD, List.getElem?_eq_getElem hlt]; exact List.getElem_mem _
        exact (chk_fine (HX.out.good _ this)).2.1
      have hsl := sel_len q S i
      have hsu := sel_succ q S i
      have hC2 := Kd.C_below hC' hb
      obtain ⟨x, hx⟩ : ∃ x, S.getD i [] = x := ⟨_, rfl⟩
      rw [hx] at hc2 hle hC2 hs8 hsu
      have hqx : hasVal name value x = q x := by rw [HQ.out]
      have HC2 := Lib.hid hC2
      have HLE := Lib.hid hle
      have HB := Lib.hid hb
      have hnn := (hb.cell (p := ⟨pn, 0, none⟩) HN.out.1).trans HCN.out.1
      have hvv := (hb.cell (p := ⟨pv, 0, none⟩) HN.out.2).trans HCN.out.2
      have HP := Lib.hid (post1_u hnn hvv hC2 hle hs8)
      rw [hqx] at HP
      have HR := Lib.hid hr
      have HSU := Lib.hid hsu
      clear hcell hC' hC2 hle hb hnn hvv hr hx hqx hsu
      by_cases hqi : q x = true
      · rw [hqi] at HP HSU
        go_wp2_with (first
          | (go_at_call 41; go_must (refine HP.out.mono ?_; rintro e w1 ⟨rfl, hb1⟩; have HB1 := Lib.hid hb1; have HR1 := Lib.hid (Kd.R_below HR.out hb1); clear hb1))
          | (at_builtin; go_must (refine Kd.R_append (Kd.int .i64) (w0 := w) w.heap.size rfl (.tmp 24) (.tmp 26) 38 3 (.int .i64 0) 8 rfl Try.underlying38 infoI rfl (by decide) (by decide) u5 (sel q S i) ((i : Nat) : Int) [.int .i64 ((i : Nat) : Int)] (fun _ => True) (fun _ => False) rfl rfl rfl (fun _ h => h.elim) (fun _ _ => trivial) HR1.out (HB.out.trans (HB1.out.mono HB.out.size)) (Nat.le_trans HB.out.size HB1.out.size) (by omega) ?_; intro v1 w2 hr2 hb2 _ _; have HR2 := Lib.hid hr2; have HB2 := Lib.hid hb2; clear hr2 hb2)))
        go_roundw
        case rel => exact ⟨i + 1, hlt, by simp, by rw [HSU.out]; simpa using HR2.out, HB2.out⟩
        case measure => simp [intOf]; omega
      · rw [eq_false_of_ne_true hqi] at HP HSU
        go_wp2_with (go_at_call 41; go_must (refine HP.out.mono ?_; rintro e w1 ⟨rfl, hb1⟩; have HB1 := Lib.hid hb1; have HR1 := Lib.hid (Kd.R_below HR.out hb1); clear hb1))
        go_roundw
        case rel => exact ⟨i + 1, hlt, by simp, by rw [HSU.out]; simpa using HR1.out, HB.out.trans (HB1.out.mono HB.out.size)⟩
        case measure => simp [intOf]; omega
    · obtain rfl : i = S.length := by omega
      obtain ⟨A', c', rfl, hle, hC'⟩ := Kd.R_reads hr
      have hsl := sel_len q S S.length
      have HC2 := Lib.hid hC'
      have HLE := Lib.hid hle
      have HB := Lib.hid hb
      clear hr hle hC' hb
      go_wp2_with (first
        | (go_at_call 59; go_must (refine (from_u (by repeat (first | exact HC2.out | (with_reducible refine Kd.C_drewN ?_ _) | (with_reducible refine Kd.C_drew ?_))) HLE.out HRI.out (by omega)).mono ?_; rintro e w1 ⟨ob, kb1, rfl, hi1, hb1⟩; have HI1 := Lib.hid hi1; have HB1 := Lib.hid hb1; clear hi1 hb1))
        | (go_at_call 58; go_must (refine (list_u HI1.out (by omega)).mono ?_; rintro e w2 ⟨v2, rfl, hr2, hb2⟩; have HR2 := Lib.hid hr2; have HB2 := Lib.hid hb2; clear hr2 hb2)))
      have hB1 : Below w.heap.size w w1 := by
        first
          | exact HB.out.trans (HB1.out.mono HB.out.size)
          | exact HB.out.trans (((below_drew (Below.refl _ _)).trans HB1.out).mono HB.out.size)
          | exact HB.out.trans (((pw_below_drewN (Below.refl _ _) _).trans HB1.out).mono HB.out.size)
      go_ret
      exact ⟨v2, rfl, own_weaken HR2.out hB1.size, hB1.trans (HB2.out.mono hB1.size)⟩
set_option maxRecDepth 100000 in
set_option maxHeartbeats 8000000 in
theorem ipost_u {f : Nat → Prop} {w : World} {base kb mb : Nat} {S : List (List LB)} (h : IX f w base kb mb S) (hS : S.length < 4096) (name value : ByteArray) {k : Nat} (hR : post_Rises.f k (sel (hasVal name value) S S.length) = some true) :
    Calls Try.prog 18 #[.pointer (some ⟨kb, 0, none⟩), .string name, .string value] w
      fun e w' => ∃ v, e = .returned v ∧ w'.ownsRow w.heap.size 3 1 v (sel (hasVal name value) S S.length).length ((sel (hasVal name value) S S.length).map (.int .i64)) ∧ Below w.heap.size w w' := by
  have hb : Below w.heap.size w ((w.alloc (.cells #[.string name] 9)).alloc (.cells #[.string value] 9)) := ((Below.refl _ w).alloc (Nat.le_refl _) _).alloc (by simp) _
  have hn : Boxed ((w.alloc (.cells #[.string name] 9)).alloc (.cells #[.string value] 9)) w.heap.size 9 (.string name) := (Boxed.new w _ _).alloc _
  have hv : Boxed ((w.alloc (.cells #[.string name] 9)).alloc (.cells #[.string value] 9)) (w.heap.size + 1) 9 (.string value) := by
    have := Boxed.new (w.alloc (.cells #[.string name] 9)) 9 (.string value); rw [World.size_alloc] at this; exact this
  have HT := Lib.hid (those_u (h.below hb) hS hn.cell hv.cell hR)
  have HB := Lib.hid hb
  have hmf : ∀ (fn : Fn) (first cap : Array Value) (w : World), (Instr.makeFunc fn first cap).run Try.prog w = .ok (.func fn first cap) w := fun _ _ _ _ => rfl
  clear h hb hn hv hR
  go_enter Try.func18, Try.ntmps18
  go_wp2_with (go_at_call 40; go_must (refine HT.out.mono ?_; rintro e w1 ⟨v1, rfl, hr1, hb1⟩; have HR1 := Lib.hid hr1; have HB1 := Lib.hid hb1; clear hr1 hb1))
  go_ret
  exact ⟨v1, rfl, own_weaken HR1.out HB.out.size, HB.out.trans (HB1.out.mono HB.out.size)⟩
end Go.Proofs.Ytlkhdbfhnpbbhaa
namespace Go.Proofs.Ytlkhdbfhnpbbhaa
set_option linter.unusedVariables false
set_option linter.unusedSimpArgs false
open Go.RowKit Go.Maps Go.Proofs.YtlkhdbfhnpbbhaaW.PrintWords Go.Proofs.YtlkhdbfhnpbbhaaW.PrintLast Go.Proofs.YtlkhdbfhnpbbhaaW.PrintMore Go.Proofs.Ytlkhdbfhnpbbhaa.Ix Go.Proofs.Ytlkhdbfhnpbbhaa.Tx Go.Proofs.Ytlkhdbfhnpbbhaa.Pure
theorem infoL : (Try.prog.info? 23).map (fun i => (i.zero, i.size, i.bytes)) = some (some (.slice none 0 0), 1, 24) := by kernel_rfl
set_option maxRecDepth 100000 in
set_option maxHeartbeats 8000000 in
theorem iid_new {f : Nat → Prop} {w : World} {base kb mb : Nat} {S : List (List LB)} (h : IX f w base kb mb S) (hbs : base ≤ w.heap.size) (hff : ∀ k, w.heap.size ≤ k → f k) {A : Option Addr} {c : Nat} {l : List LB} {bl : Nat} {okl : Nat → Prop} (hl : Kd.R k41 41 w bl okl (.slice A l.length c) l)
    (hk : chk l = true) (hnew : numOf S (textB l) = 0) (hlt : S.length < 4096) :
    Calls Try.prog 22 #[.pointer (some ⟨kb, 0, none⟩), .slice A l.length c] w fun e w' => e = .returned (.tuple #[.int .i64 (S.length : Nat), .int .i64 0]) ∧ IX f w' base kb mb (S ++ [l]) ∧ Below base w w' ∧ Far f w w' := by
  have hc := (Kd.R_reads' hl).2.1
  have hC := (Kd.R_reads' hl).2.2
  have HLR := Lib.hid hl
  have HX := Lib.hid h
  have HC := Lib.hid hC
  have HCL := Lib.hid hc
  have HCK := Lib.hid (check_eq l 60 (Nat.le_refl _))
  have HK := Lib.hid hk
  have HNW := Lib.hid hnew
  have HBS := Lib.hid hbs
  have HFF := Lib.hid hff
  have hp0 : posOf S l = 0 := by unfold posOf; rw [if_pos hk]; exact hnew
  have hs8 := (chk_fine hk).2.1
  have HPL := Lib.hid (show api_Label.f l = some l by unfold api_Label.f; rw [if_pos (by simp; omega)]; simp)
  have HT := Lib.hid (text_eq hk 160 (Nat.le_refl _))
  have HS := Lib.hid (show (textB l).size ≤ maxLen by
    have h1 := join_size l (chk_fine hk).1
    have h3 : (textB l).size ≤ 401 * l.length := by rw [← data_length]; exact h1
    simp only [maxLen]; omega)
  have HFD := fun (W : World) (hx : IX f W base kb mb S) (hcw : Kd.C k41 W A l.length l) => ifind_u hx hcw hc
  rw [hp0] at HFD
  have HF := Lib.hid HFD
  rw [hk] at HCK
  have d1 : decide ((4096 : Int) ≤ (S.length : Int)) = false := by simp; omega
  clear h hC hc hk hnew hp0 HFD hl hbs hff
  go_enter Try.func22, Try.ntmps22
  go_wp2_with (first
    | (go_at_call 35; go_must (refine (label_Check.calls 60 _ _ l true _ HC.out HCL.out HCK.out).mono ?_; rintro e w1 ⟨rfl, hb1⟩; have HB1 := Lib.hid hb1; clear hb1))
    | (go_at_call 11; go_must (refine (HF.out _ (HX.out.below HB1.out) (Kd.C_below HC.out HB1.out)).mono ?_; rintro e w2 ⟨rfl, hb2⟩; have HB2 := Lib.hid (HB1.out.trans (hb2.mono HB1.out.size)); have hx2 := HX.out.below HB2.out; obtain ⟨v0, hv0, hr0⟩ := hx2.cells; obtain ⟨A0, c0_, rfl, hcc0, -⟩ := Kd.R_reads hr0; have cc0 := blk_cell hv0 0; have HV0 := Lib.hid hv0; have HR0 := Lib.hid hr0; have HX2 := Lib.hid hx2; clear hb2 hv0 hr0 hx2)))
  have hc8 : w2.drew.cell? ⟨kb, 0, none⟩ = some (.slice A0 S.length c0_) := cc0
  clear cc0
  refine wp_region_noPanic ?_
  refine start_ (n := 12) (S := fun w' => w'.cell? ⟨kb, 0, none⟩ = some (.slice A0 S.length c0_)) (ds := [11]) #[false, false, false, false, false, false, false, false, false, false, false, false] (by kernel_rfl) rfl rfl hc8 (fun hHeld => ?_)
  clear hc8
  refine pure_ (i := 0) (N := some 29) (v := ?_) (a' := ?_) #[true, false, false, false, false, false, false, false, false, false, false, false] rfl rfl (by kernel_rfl) (fun _ _ _ h => h) (Or.inl ⟨by rfl, ?_⟩) ?_ ?_
  rotate_left
  · intro w'
    go_simp
    with_reducible rfl
  rotate_left
  · simp only [Act.put, List.setIfInBounds_toArray, List.set_cons_zero, List.set_cons_succ, i64_w, i32_w]
    rfl
  refine pure_ (i := 1) (N := some 30) (v := ?_) (a' := ?_) #[true, true, false, false, false, false, false, false, false, false, false, false] rfl rfl (by kernel_rfl) (fun _ _ _ h => h) (Or.inl ⟨by rfl, ?_⟩) ?_ ?_
  rotate_left
  · intro w'
    go_simp
    with_reducible rfl
  rotate_left
  · simp only [Act.put, List.setIfInBounds_toArray, List.set_cons_zero, List.set_cons_succ, i64_w, i32_w]
    rfl
  refine pure_ (i := 2) (N := some 31) (v := ?_) (a' := ?_) #[true, true, true, false, false, false, false, false, false, false, false, false] rfl rfl (by kernel_rfl) (fun _ _ _ h => h) (Or.inl ⟨by rfl, ?_⟩) ?_ ?_
  rotate_left
  · intro w'
    go_simp
    with_reducible rfl
  rotate_left
  · simp only [Act.put, List.setIfInBounds_toArray, List.set_cons_zero, List.set_cons_succ, i64_w, i32_w]
    rfl
  refine pure_ (i := 3) (N := some 32) (v := ?_) (a' := ?_) #[true, true, true, true, false, false, false, false, false, false, false, false] rfl rfl (by kernel_rfl) (fun _ _ _ h => h) (Or.inl ⟨by rfl, ?_⟩) ?_ ?_
  rotate_left
  · intro w'
    go_simp
    with_reducible rfl
  rotate_left
  · simp only [Act.put, List.setIfInBounds_toArray, List.set_cons_zero, List.set_cons_succ, i64_w, i32_w]
    rfl
  refine take_ (i := 4) (N := some 33) (v := ?_) (a' := ?_) #[true, true, true, true, true, false, false, false, false, false, false, false] rfl rfl (by kernel_rfl) (fun _ _ _ h => h) (Or.inl ⟨by rfl, ?_⟩) hHeld ?_ ?_
  rotate_left
  · intro w' s0_
    go_simp
    with_reducible rfl
  rotate_left
  · simp only [Act.put, List.setIfInBounds_toArray, List.set_cons_zero, List.set_cons_succ, i64_w, i32_w]
    rfl
  refine pure_ (i := 5) (N := some 34) (v := ?_) (a' := ?_) #[true, true, true, true, true, true, false, false, false, false, false, false] rfl rfl (by kernel_rfl) (fun _ _ _ h => h) (Or.inl ⟨by rfl, ?_⟩) ?_ ?_
  rotate_left
  · intro w'
    go_simp
    with_reducible rfl
  rotate_left
  · simp only [Act.put, List.setIfInBounds_toArray, List.set_cons_zero, List.set_cons_succ, i64_w, i32_w]
    rfl
  refine one_ (i := 6) (N := some 35) #[true, true, true, true, true, true, true, false, false, false, false, false] rfl rfl (by kernel_rfl) (by simp) (fun K hK => ?_)
  refine goes_ Try.func39 (by kernel_rfl) rfl #[.slice A l.length c] (by rfl) rfl rfl (by (try simp only [List.map_toArray, List.map_cons, List.map_nil]); first | done | rfl) ?_
  refine (api_Label.calls _ _ l l w2.drew (Kd.C_drew (Kd.C_below HC.out HB2.out)) HCL.out HPL.out).mono ?_
  rintro e w3 ⟨v1, rfl, hr1, hb⟩
  refine ⟨_, rfl, ?_⟩
  obtain ⟨A1, c1, rfl⟩ := Kd.R_slice hr1
  have hbb : Below w2.heap.size w2 w3 := (below_drew (Below.refl _ _)).trans hb
  have HBB := Lib.hid hbb
  have hx3 := HX2.out.below hbb
  have HX3 := Lib.hid hx3
  have hv3 : w3.heap[kb]? = some (.cells #[.slice A0 S.length c0_, .map (some mb)] 73 (0, 0)) := (hbb.block kb HX2.out.klt).trans HV0.out
  have hc3 := blk_cell hv3 0
  have HV3 := Lib.hid hv3
  have HR3 := Lib.hid (Kd.R_below HR0.out hbb)
  have HR1 := Lib.hid (Kd.R_bound hr1)
  have HB3 := Lib.hid (HB2.out.trans (hbb.mono HB2.out.size))
  clear hr1 hb hbb hx3 hv3
  clear hHeld
  refine hK.out _ _ hc3 (fun hHeld => ?_)
  clear hK K
  refine norm_ (a' := ?_) ?_ ?_
  rotate_left
  · show Act.put _ (some 35) _ = _
    simp only [Act.put, List.setIfInBounds_toArray, List.set_cons_zero, List.set_cons_succ, i64_w, i32_w]
    rfl
  refine one_ (i := 7) (N := some 36) #[true, true, true, true, true, true, true, true, false, false, false, false] rfl rfl (by kernel_rfl) (by simp) (fun K hK => ?_)
  refine value_ (v := .slice (some ⟨w3.heap.size, 0, none⟩) 1 1) (w1 := w3.alloc (.cells #[.slice A1 l.length c1] 23)) (by rfl) rfl ?_ ?_
  · go_simp
  clear hHeld
  refine hK.out _ _ (blk_cell (blk_alloc HV3.out _) 0) (fun hHeld => ?_)
  clear hK K
  refine norm_ (a' := ?_) ?_ ?_
  rotate_left
  · show Act.put _ (some 36) _ = _
    simp only [Act.put, List.setIfInBounds_toArray, List.set_cons_zero, List.set_cons_succ, i64_w, i32_w]
    rfl
  refine one_ (i := 8) (N := some 37) #[true, true, true, true, true, true, true, true, true, false, false, false] rfl rfl (by kernel_rfl) (by simp) (fun K hK => ?_)
  refine Kd.R_append_step (Kd.slice 41 k41) (w0 := w) base (by rfl) (.tmp 33) (.tmp 36) 22 23 (.slice none 0 0) 24 rfl Try.underlying22 infoL rfl (by decide) (by decide) (.slice A0 S.length c0_) S l [.slice A1 l.length c1] (fun k => f k ∧ k ≠ kb ∧ k ≠ mb) (fun k => w2.heap.size ≤ k) rfl rfl ?hp ?hok ?hfr HR3.out ?hbw ?hbz ?hln ?_
  case hp => exact Kd.M_row (Kd.R_lower (Kd.R_mono HR1.out (fun k hk => hk.2.1)) (Nat.le_trans HBS.out HB2.out.size))
  case hok => exact fun k hk => ⟨⟨HFF.out k (Nat.le_trans HB2.out.size hk), by have := HX2.out.klt; omega, by have := HX2.out.mlt; omega⟩, fun e => by obtain ⟨inner, ho⟩ := Kd.R_own HR0.out; have := own_lt ho k e.symm; omega⟩
  case hfr => exact fun k hk => ⟨HFF.out k (Nat.le_trans HB3.out.size hk), by have := HX3.out.klt; omega, by have := HX3.out.mlt; omega⟩
  case hbw => exact HB3.out.mono HBS.out
  case hbz => exact Nat.le_trans HBS.out HB3.out.size
  case hln => omega
  intro v' w4 hr4 hb4 hg4 hat4
  have hv4 : w4.heap[kb]? = some (.cells #[.slice A0 S.length c0_, .map (some mb)] 73 (0, 0)) := (hg4.block kb HX3.out.klt (fun e => (HR0.out.1 kb e.symm).2.1 rfl)).trans HV3.out
  have HV4 := Lib.hid hv4
  have HR4 := Lib.hid hr4
  have HB4 := Lib.hid hb4
  have HG4 := Lib.hid hg4
  have HZ4 := Lib.hid ((Far.of_below (f := f) HB3.out).grown hg4 (fun k e => (HR3.out.1 k e).1))
  have hc4 := blk_cell hv4 0
  obtain ⟨A4, c4, rfl⟩ := Kd.R_slice hr4
  clear hr4 hb4 hg4 hat4 hHeld hv4
  refine hK.out _ _ hc4 (fun hHeld => ?_)
  clear hK K
  refine norm_ (a' := ?_) ?_ ?_
  rotate_left
  · show Act.put _ (some 37) _ = _
    simp only [Act.put, List.setIfInBounds_toArray, List.set_cons_zero, List.set_cons_succ, i64_w, i32_w]
    rfl
  refine pure_ (i := 9) (N := some 38) (v := ?_) (a' := ?_) #[true, true, true, true, true, true, true, true, true, true, false, false] rfl rfl (by kernel_rfl) (fun _ _ _ h => h) (Or.inl ⟨by rfl, ?_⟩) ?_ ?_
  rotate_left
  · intro w'
    go_simp
    with_reducible rfl
  rotate_left
  · simp only [Act.put, List.setIfInBounds_toArray, List.set_cons_zero, List.set_cons_succ, i64_w, i32_w]
    rfl
  refine pure_ (i := 10) (N := some 39) (v := ?_) (a' := ?_) #[true, true, true, true, true, true, true, true, true, true, true, false] rfl rfl (by kernel_rfl) (fun _ _ _ h => h) (Or.inl ⟨by rfl, ?_⟩) ?_ ?_
  rotate_left
  · intro w'
    go_simp
    with_reducible rfl
  rotate_left
  · simp only [Act.put, List.setIfInBounds_toArray, List.set_cons_zero, List.set_cons_succ, i64_w, i32_w]
    rfl
  refine last_ (i := 11) (N := none) #[true, true, true, true, true, true, true, true, true, true, true, true] rfl rfl (by kernel_rfl) (by decide) (fun K hK => ?_)
  have s0 := blk_cell HV4.out 0
  have s1 := blk_frozen HV4.out 0
  refine skip_ (w1 := ?_) (by rfl) rfl ?_ ?_
  rotate_left
  · go_simp
    rfl
  refine hK.out _ _ ?_
  clear hK K s0 s1 hc4
  refine done_ (by kernel_rfl) ?_
  refine NoPanic.normal ?_
  have hsl : (S ++ [l]).length = S.length + 1 := by simp
  have hv5 := blk_put HV4.out 0 (.slice A4 (S.length + 1) c4) rfl
  have hr5 := Kd.R_far (p := ⟨kb, 0, none⟩) (hsl ▸ HR4.out) (fun k hk => hk.2.1) (.slice A4 (S.length + 1) c4)
  have hb5 := HB4.out.setCell (p := ⟨kb, 0, none⟩) HX.out.kge (.slice A4 (S.length + 1) c4)
  have hz5 := HZ4.out.setCell (p := ⟨kb, 0, none⟩) HX.out.fk (.slice A4 (S.length + 1) c4)
  have hl3 := Kd.R_bound (Kd.R_below (Kd.R_below HLR.out HB2.out) HBB.out)
  have hty : ∀ k : Nat, (∃ q, q ∈ 41 :: (k41).E ∧ ∃ cells, w3.heap[k]? = some (Obj.cells cells q (0, 0))) → ∀ (t : Nat) cs, w3.heap[k]? = some (Obj.cells cs t (0, 0)) → t = 41 := by
    rintro k ⟨q, hq, cells, hc⟩ t cs ht
    rw [hc] at ht
    injection ht with ht
    injection ht with _ ht
    rw [← ht]
    simpa [show (k41).E = [] from rfl] using hq
  have hl4 := Kd.R_grown hl3 HG4.out (fun k hk e => by
    obtain ⟨inner, ho⟩ := Kd.R_own HR3.out
    obtain ⟨cs, hcs⟩ := own_typed ho k e.symm
    have := hty k hk.2.2.2 _ _ hcs
    exact absurd this (by decide))
  have hl5 := Kd.R_far (p := ⟨kb, 0, none⟩) hl4 (fun k hk e => by
    have e' : k = kb := e
    rw [e'] at hk
    exact absurd (hty kb hk.2.2.2 _ _ HV3.out) (by decide)) (.slice A4 (S.length + 1) c4)
  obtain ⟨D, hown, hD⟩ := HX3.out.map
  have hm5 : (w4.setCell ⟨kb, 0, none⟩ (.slice A4 (S.length + 1) c4)).heap[mb]? = w3.heap[mb]? :=
    (Below.heap_setCell w4 ⟨kb, 0, none⟩ _ mb (fun e => HX.out.ne e.symm)).trans (HG4.out.block mb HX3.out.mlt (fun e => (HR3.out.1 mb e.symm).2.2 rfl))
  have hown5 : (w4.setCell ⟨kb, 0, none⟩ (.slice A4 (S.length + 1) c4)).ownsMap Try.prog 9 (plainElem Try.prog 3) mb S.length D := by
    obtain ⟨es, clock, h1, h2⟩ := hown
    exact ⟨es, clock, hm5.trans h1, h2⟩
  obtain ⟨w5, hw5⟩ : ∃ w5, w4.setCell ⟨kb, 0, none⟩ (.slice A4 (S.length + 1) c4) = w5 := ⟨_, rfl⟩
  rw [hw5] at hv5 hr5 hb5 hz5 hl5 hown5 ⊢
  have HV5 := Lib.hid hv5
  have HR5 := Lib.hid hr5
  have HB5 := Lib.hid hb5
  have HZ5 := Lib.hid hz5
  have HC5 := Lib.hid (Kd.C_drew (Kd.R_reads' hl5).2.2)
  have HO5 := Lib.hid hown5
  have HD := Lib.hid hD
  have HW5 := Lib.hid hw5
  rw [hsl]
  have hc9 : w5.drew.cell? ⟨kb, 0, none⟩ = some (.slice A4 (S.length + 1) c4) ∧ w5.drew.cell? ⟨kb, 1, none⟩ = some (.map (some mb)) := ⟨blk_cell hv5 0, blk_cell hv5 1⟩
  clear hv5 hr5 hb5 hz5 hl3 hty hl4 hl5 hown hD hm5 hown5 hw5
  go_wp2
  refine wp_region_noPanic ?_
  refine start_ (n := 12) (S := fun w' => w'.cell? ⟨kb, 0, none⟩ = some (.slice A4 (S.length + 1) c4) ∧ w'.cell? ⟨kb, 1, none⟩ = some (.map (some mb))) (ds := [11]) #[false, false, false, false, false, false, false, false, false, false, false, false] (by kernel_rfl) rfl rfl hc9 (fun hHeld => ?_)
  clear hc9
  refine pure_ (i := 0) (N := some 40) (v := ?_) (a' := ?_) #[true, false, false, false, false, false, false, false, false, false, false, false] rfl rfl (by kernel_rfl) (fun _ _ _ h => h) (Or.inl ⟨by rfl, ?_⟩) ?_ ?_
  rotate_left
  · intro w'
    go_simp
    with_reducible rfl
  rotate_left
  · simp only [Act.put, List.setIfInBounds_toArray, List.set_cons_zero, List.set_cons_succ, i64_w, i32_w]
    rfl
  refine pure_ (i := 1) (N := some 41) (v := ?_) (a' := ?_) #[true, true, false, false, false, false, false, false, false, false, false, false] rfl rfl (by kernel_rfl) (fun _ _ _ h => h) (Or.inl ⟨by rfl, ?_⟩) ?_ ?_
  rotate_left
  · intro w'
    go_simp
    with_reducible rfl
  rotate_left
  · simp only [Act.put, List.setIfInBounds_toArray, List.set_cons_zero, List.set_cons_succ, i64_w, i32_w]
    rfl
  refine pure_ (i := 2) (N := some 42) (v := ?_) (a' := ?_) #[true, true, true, false, false, false, false, false, false, false, false, false] rfl rfl (by kernel_rfl) (fun _ _ _ h => h) (Or.inl ⟨by rfl, ?_⟩) ?_ ?_
  rotate_left
  · intro w'
    go_simp
    with_reducible rfl
  rotate_left
  · simp only [Act.put, List.setIfInBounds_toArray, List.set_cons_zero, List.set_cons_succ, i64_w, i32_w]
    rfl
  refine take_ (i := 3) (N := some 43) (v := ?_) (a' := ?_) #[true, true, true, true, false, false, false, false, false, false, false, false] rfl rfl (by kernel_rfl) (fun _ _ _ h => h) (Or.inl ⟨by rfl, ?_⟩) hHeld ?_ ?_
  rotate_left
  · rintro w' ⟨s0_, s1_⟩
    go_simp
    with_reducible rfl
  rotate_left
  · simp only [Act.put, List.setIfInBounds_toArray, List.set_cons_zero, List.set_cons_succ, i64_w, i32_w]
    rfl
  refine pure_ (i := 4) (N := some 44) (v := ?_) (a' := ?_) #[true, true, true, true, true, false, false, false, false, false, false, false] rfl rfl (by kernel_rfl) (fun _ _ _ h => h) (Or.inl ⟨by rfl, ?_⟩) ?_ ?_
  rotate_left
  · intro w'
    go_simp
    with_reducible rfl
  rotate_left
  · simp only [Act.put, List.setIfInBounds_toArray, List.set_cons_zero, List.set_cons_succ, i64_w, i32_w]
    rfl
  refine pure_ (i := 6) (N := some 46) (v := ?_) (a' := ?_) #[true, true, true, true, true, false, true, false, false, false, false, false] rfl rfl (by kernel_rfl) (fun _ _ _ h => h) (Or.inl ⟨by rfl, ?_⟩) ?_ ?_
  rotate_left
  · intro w'
    go_simp
    with_reducible rfl
  rotate_left
  · simp only [Act.put, List.setIfInBounds_toArray, List.set_cons_zero, List.set_cons_succ, i64_w, i32_w]
    rfl
  refine pure_ (i := 7) (N := some 47) (v := ?_) (a' := ?_) #[true, true, true, true, true, false, true, true, false, false, false, false] rfl rfl (by kernel_rfl) (fun _ _ _ h => h) (Or.inl ⟨by rfl, ?_⟩) ?_ ?_
  rotate_left
  · intro w'
    go_simp
    with_reducible rfl
  rotate_left
  · simp only [Act.put, List.setIfInBounds_toArray, List.set_cons_zero, List.set_cons_succ, i64_w, i32_w]
    rfl
  refine pure_ (i := 8) (N := some 48) (v := ?_) (a' := ?_) #[true, true, true, true, true, false, true, true, true, false, false, false] rfl rfl (by kernel_rfl) (fun _ _ _ h => h) (Or.inl ⟨by rfl, ?_⟩) ?_ ?_
  rotate_left
  · intro w'
    go_simp
    with_reducible rfl
  rotate_left
  · simp only [Act.put, List.setIfInBounds_toArray, List.set_cons_zero, List.set_cons_succ, i64_w, i32_w]
    rfl
  refine take_ (i := 9) (N := some 49) (v := ?_) (a' := ?_) #[true, true, true, true, true, false, true, true, true, true, false, false] rfl rfl (by kernel_rfl) (fun _ _ _ h => h) (Or.inl ⟨by rfl, ?_⟩) hHeld ?_ ?_
  rotate_left
  · rintro w' ⟨s0_, s1_⟩
    go_simp
    with_reducible rfl
  rotate_left
  · simp only [Act.put, List.setIfInBounds_toArray, List.set_cons_zero, List.set_cons_succ, i64_w, i32_w]
    rfl
  refine pure_ (i := 10) (N := some 50) (v := ?_) (a' := ?_) #[true, true, true, true, true, false, true, true, true, true, true, false] rfl rfl (by kernel_rfl) (fun _ _ _ h => h) (Or.inl ⟨by rfl, ?_⟩) ?_ ?_
  rotate_left
  · intro w'
    go_simp
    with_reducible rfl
  rotate_left
  · simp only [Act.put, List.setIfInBounds_toArray, List.set_cons_zero, List.set_cons_succ, i64_w, i32_w]
    rfl
  refine one_ (i := 5) (N := some 45) #[true, true, true, true, true, true, true, true, true, true, true, false] rfl rfl (by kernel_rfl) (by simp) (fun K hK => ?_)
  refine goes_ Try.func36 (by kernel_rfl) rfl #[.slice A l.length c] (by rfl) rfl rfl (by (try simp only [List.map_toArray, List.map_cons, List.map_nil]); first | done | rfl) ?_
  refine (label_Text.calls 160 _ _ l (textB l) w5.drew HC5.out HCL.out HT.out).mono ?_
  rintro e w6 ⟨rfl, hb⟩
  refine ⟨_, rfl, ?_⟩
  have hbb : Below w5.heap.size w5 w6 := (below_drew (Below.refl _ _)).trans hb
  have hk5 := (Array.getElem?_eq_some_iff.1 HV5.out).1
  have hv6 : w6.heap[kb]? = some (.cells #[.slice A4 (S.length + 1) c4, .map (some mb)] 73 (0, 0)) := (hbb.block kb hk5).trans HV5.out
  have hr6 := Kd.R_below HR5.out hbb
  have hown6 : w6.ownsMap Try.prog 9 (plainElem Try.prog 3) mb S.length D := by
    have hlt5 := HO5.out.lt
    obtain ⟨es, clock, h1, h2⟩ := HO5.out
    exact ⟨es, clock, (hbb.block mb hlt5).trans h1, h2⟩
  have wf : (Lit.int .i64 ((S.length : Int) + 1)).wf = true := by
    have e1 : IntKind.i64.min = -9223372036854775808 := by decide
    have e2 : IntKind.i64.max = 9223372036854775807 := by decide
    simp only [Lit.wf, e1, e2, Bool.and_eq_true, decide_eq_true_eq]; omega
  obtain ⟨w7, hrun7, hown7, hg7⟩ := hown6.update lawS Try.underlying71 (by simp only [maxLen]; omega) (WideMaps.keyOf_string_mk Try.underlying9 HS.out) (plainElem_int Try.underlying3 wf)
  have HTD := Lib.hid (hown6.tidy lawS)
  have HRUN := Lib.hid hrun7
  have HO7 := Lib.hid hown7
  have HG7 := Lib.hid hg7
  have HV6 := Lib.hid hv6
  have HR6 := Lib.hid hr6
  have HB6 := Lib.hid hbb
  have hc6a := blk_cell hv6 0
  have hc6b := blk_cell hv6 1
  clear hb hbb hk5 hv6 hr6 hown6 wf hrun7 hown7 hg7
  clear hHeld
  refine hK.out _ _ ⟨hc6a, hc6b⟩ (fun hHeld => ?_)
  clear hK K
  refine norm_ (a' := ?_) ?_ ?_
  rotate_left
  · show Act.put _ (some 45) _ = _
    simp only [Act.put, List.setIfInBounds_toArray, List.set_cons_zero, List.set_cons_succ, i64_w, i32_w]
    rfl
  refine last_ (i := 11) (N := none) #[true, true, true, true, true, true, true, true, true, true, true, true] rfl rfl (by kernel_rfl) (by decide) (fun K hK => ?_)
  refine skip_ (w1 := w7) (by rfl) rfl ?_ ?_
  · have hrun := HRUN.out; simp [execOp, Act.eval, hrun, Result.andThen]
  refine hK.out _ _ ?_
  clear hK K hc6a hc6b
  refine done_ (by kernel_rfl) ?_
  refine NoPanic.normal ?_
  have hv7 := (HG7.out.block kb (by have := HV6.out; exact (Array.getElem?_eq_some_iff.1 this).1) (fun e => HX.out.ne (by injection e))).trans HV6.out
  have hr7 := Kd.R_grown HR6.out HG7.out (fun k hk e => hk.2.2 (by injection e))
  have hx7 : IX f w7 base kb mb (S ++ [l]) := by
    refine ⟨HX.out.ne, ⟨_, hv7, ?_⟩, ⟨D.put (.string (textB l).data.toList) (.lit (.int .i64 ((S.length : Int) + 1))), ?_, ?_⟩, ?_, by simp; omega, HX.out.kge, HX.out.mge, HX.out.fk, HX.out.fm⟩
    · rw [show Value.slice A4 (S.length + 1) c4 = .slice A4 (S ++ [l]).length c4 by simp]; rw [← hsl] at hr7; exact hr7
    · rw [hsl]; exact HO7.out
    · have := HD.out.put HTD.out HNW.out
      rw [show ((S.length + 1 : Nat) : Int) = (S.length : Int) + 1 by omega] at this
      exact this
    · intro s hs
      rcases List.mem_append.1 hs with hs | hs
      · exact HX.out.good s hs
      · rw [List.mem_singleton.1 hs]; exact HK.out
  have hb6 : Below base w w6 := HB5.out.trans (HB6.out.mono (Nat.le_trans HBS.out HB5.out.size))
  have hb7 : Below base w w7 := hb6.grown HG7.out (Nat.le_trans HBS.out hb6.size) (fun k e => by cases e; exact HX.out.mge)
  have cc7 := blk_cell hv7 0
  have HX7 := Lib.hid hx7
  have HB7 := Lib.hid hb7
  have HZ7 := Lib.hid ((HZ5.out.trans (Far.of_below HB6.out)).grown HG7.out (fun k e => by cases e; exact HX.out.fm))
  clear hv7 hr7 hx7 hb7 hb6
  go_wp2
  go_ret2
  exact ⟨by simp, HX7.out, HB7.out, HZ7.out⟩
end Go.Proofs.Ytlkhdbfhnpbbhaa
namespace Go.Proofs.Ytlkhdbfhnpbbhaa
set_option linter.unusedVariables false
set_option linter.unusedSimpArgs false
open Go.RowKit Go.Maps Go.Proofs.YtlkhdbfhnpbbhaaW.PrintWords Go.Proofs.YtlkhdbfhnpbbhaaW.PrintLast Go.Proofs.YtlkhdbfhnpbbhaaW.PrintMore Go.Proofs.Ytlkhdbfhnpbbhaa.Ix Go.Proofs.Ytlkhdbfhnpbbhaa.Tx Go.Proofs.Ytlkhdbfhnpbbhaa.Pure
set_option maxRecDepth 100000 in
set_option maxHeartbeats 8000000 in
theorem iid_bad {f : Nat → Prop} {w : World} {base kb mb : Nat} {S : List (List LB)} (h : IX f w base kb mb S) {A : Option Addr} {c : Nat} {l : List LB} (hC : Kd.C k41 w A l.length l) (hc : l.length ≤ c) (hk : chk l = false) :
    Calls Try.prog 22 #[.pointer (some ⟨kb, 0, none⟩), .slice A l.length c] w fun e w' => e = .returned (.tuple #[.int .i64 (-1), .int .i64 5]) ∧ Below w.heap.size w w' := by
  have HC := Lib.hid hC
  have HCL := Lib.hid hc
  have HCK := Lib.hid (check_eq l 60 (Nat.le_refl _))
  rw [hk] at HCK
  clear h hC hc hk
  go_enter Try.func22, Try.ntmps22
  go_wp2_with (go_at_call 35; go_must (refine (label_Check.calls 60 _ _ l false _ HC.out HCL.out HCK.out).mono ?_; rintro e w1 ⟨rfl, hb1⟩))
  go_ret2
  exact ⟨rfl, hb1⟩
set_option maxRecDepth 100000 in
set_option maxHeartbeats 8000000 in
theorem iid_found {f : Nat → Prop} {w : World} {base kb mb : Nat} {S : List (List LB)} (h : IX f w base kb mb S) {A : Option Addr} {c : Nat} {l : List LB} (hC : Kd.C k41 w A l.length l) (hc : l.length ≤ c) (hk : chk l = true) (hn : numOf S (textB l) ≠ 0) :
    Calls Try.prog 22 #[.pointer (some ⟨kb, 0, none⟩), .slice A l.length c] w fun e w' => e = .returned (.tuple #[.int .i64 ((numOf S (textB l) : Nat) - 1), .int .i64 0]) ∧ Below w.heap.size w w' := by
  have HC := Lib.hid hC
  have HCL := Lib.hid hc
  have HX := Lib.hid h
  have HCK := Lib.hid (check_eq l 60 (Nat.le_refl _))
  have hp : posOf S l = numOf S (textB l) := by unfold posOf; rw [if_pos hk]
  have HFD := fun (W : World) (hx : IX f W base kb mb S) (hcw : Kd.C k41 W A l.length l) => ifind_u hx hcw hc
  rw [hp, decide_eq_true hn] at HFD
  have HF := Lib.hid HFD
  rw [hk] at HCK
  clear h hC hc hk hn hp HFD
  go_enter Try.func22, Try.ntmps22
  go_wp2_with (first
    | (go_at_call 35; go_must (refine (label_Check.calls 60 _ _ l true _ HC.out HCL.out HCK.out).mono ?_; rintro e w1 ⟨rfl, hb1⟩; have HB1 := Lib.hid hb1; clear hb1))
    | (go_at_call 11; go_must (refine (HF.out _ (HX.out.below HB1.out) (Kd.C_below HC.out HB1.out)).mono ?_; rintro e w2 ⟨rfl, hb2⟩; have HB2 := Lib.hid (HB1.out.trans (hb2.mono HB1.out.size)); clear hb2)))
  go_ret2
  exact ⟨rfl, HB2.out⟩
end Go.Proofs.Ytlkhdbfhnpbbhaa
namespace Go.Proofs.Ytlkhdbfhnpbbhaa
set_option linter.unusedVariables false
set_option linter.unusedSimpArgs false
open Go.RowKit Go.Maps Go.Proofs.YtlkhdbfhnpbbhaaW.PrintWords Go.Proofs.YtlkhdbfhnpbbhaaW.PrintLast Go.Proofs.YtlkhdbfhnpbbhaaW.PrintMore Go.Proofs.Ytlkhdbfhnpbbhaa.Ix Go.Proofs.Ytlkhdbfhnpbbhaa.Tx Go.Proofs.Ytlkhdbfhnpbbhaa.Pure
/-- Block gb is the document's index of the sets S; all its blocks are of f. -/
structure XR (f : Nat → Prop) (w : World) (base gb : Nat) (S : List (List LB)) : Prop where
  cells : ∃ v, w.heap[gb]? = some (.cells #[v] 33 (0, 0)) ∧ Kd.R (Kd.slice 41 k41) 23 w base (fun k => f k ∧ k ≠ gb) v S
  good : ∀ s ∈ S, chk s = true
  len : S.length ≤ 4096
  gge : base ≤ gb
  fg : f gb
theorem XR.lt {f : Nat → Prop} {w : World} {base gb : Nat} {S : List (List LB)} (h : XR f w base gb S) : gb < w.heap.size := by
  obtain ⟨v, hv, _⟩ := h.cells; exact (Array.getElem?_eq_some_iff.1 hv).1
theorem XR.below {f : Nat → Prop} {w w' : World} {base gb : Nat} {S : List (List LB)} (h : XR f w base gb S) (hb : Below w.heap.size w w') : XR f w' base gb S := by
  refine ⟨?_, h.good, h.len, h.gge, h.fg⟩
  obtain ⟨v, hv, hR⟩ := h.cells
  exact ⟨v, (hb.block gb h.lt).trans hv, Kd.R_below hR hb⟩
theorem XR.far {f g : Nat → Prop} {w w' : World} {base gb : Nat} {S : List (List LB)} (h : XR f w base gb S) (hg : Far g w w') (hfg : ∀ k, f k → ¬ g k) : XR f w' base gb S := by
  refine ⟨?_, h.good, h.len, h.gge, h.fg⟩
  obtain ⟨v, hv, hR⟩ := h.cells
  exact ⟨v, (hg.block gb h.lt (hfg gb h.fg)).trans hv, R_other hR hg (fun k hk => hfg k hk.1)⟩
theorem XR.bound {f : Nat → Prop} {w : World} {base gb : Nat} {S : List (List LB)} (h : XR f w base gb S) : XR (fun k => f k ∧ base ≤ k ∧ k < w.heap.size) w base gb S := by
  refine ⟨?_, h.good, h.len, h.gge, ⟨h.fg, h.gge, h.lt⟩⟩
  obtain ⟨v, hv, hR⟩ := h.cells
  exact ⟨v, hv, Kd.R_mono (Kd.R_bound hR) (fun k hk => ⟨⟨hk.1.1, hk.2.1, hk.2.2.1⟩, hk.1.2⟩)⟩
theorem XR.mono {f g : Nat → Prop} {w : World} {base gb : Nat} {S : List (List LB)} (h : XR f w base gb S) (hfg : ∀ k, f k → g k) : XR g w base gb S := by
  refine ⟨?_, h.good, h.len, h.gge, hfg _ h.fg⟩
  obtain ⟨v, hv, hR⟩ := h.cells
  exact ⟨v, hv, Kd.R_mono hR (fun k hk => ⟨hfg k hk.1, hk.2⟩)⟩
/-- where a set is -/
noncomputable def rat (S : List (List LB)) (l : List LB) : Option Nat := S.findIdx? (fun s => decide (s = l))
/-- the place, as Find tells it -/
noncomputable def rpos (S : List (List LB)) (l : List LB) : Int := match rat S l with
  | some i => ((i : Nat) : Int)
  | none => -1
noncomputable def rhas (S : List (List LB)) (l : List LB) : Bool := (rat S l).isSome
/-- The map's number is the place and 1. -/
theorem numOf_rat {S : List (List LB)} {l : List LB} (hS : ∀ s ∈ S, chk s = true) (hl : chk l = true) : numOf S (textB l) = match rat S l with | some i => i + 1 | none => 0 := by
  unfold numOf rat
  have : S.findIdx? (fun s => decide (textB s = textB l)) = S.findIdx? (fun s => decide (s = l)) := by
    induction S with
    | nil => rfl
    | cons s t ih =>
      rw [List.findIdx?_cons, List.findIdx?_cons, ih (fun x hx => hS x (List.mem_cons_of_mem _ hx))]
      have : decide (textB s = textB l) = decide (s = l) := by
        rw [Bool.eq_iff_iff, decide_eq_true_eq, decide_eq_true_eq]
        exact ⟨fun c => textB_inj (hS s List.mem_cons_self) hl c, fun c => by rw [c]⟩
      rw [this]
  (rw [this] <;> first | done | rfl)
set_option maxRecDepth 100000 in
set_option maxHeartbeats 8000000 in
theorem rfind_u {f : Nat → Prop} {w : World} {base gb : Nat} {S : List (List LB)} (h : XR f w base gb S) {A : Option Addr} {c : Nat} {l : List LB} (hC : Kd.C k41 w A l.length l) (hc : l.length ≤ c) (hl : l.length ≤ 140737488351232) :
    Calls Try.prog 13 #[.pointer (some ⟨gb, 0, none⟩), .slice A l.length c] w fun e w' => e = .returned (.tuple #[.int .i64 (rpos S l), .bool (rhas S l)]) ∧ Below w.heap.size w w' := by
  have HC := Lib.hid hC
  have HCL := Lib.hid hc
  have HX := Lib.hid h
  have hlen := h.len
  obtain ⟨v0, hv0, hr0⟩ := h.cells
  obtain ⟨A0, c0, rfl, hcc, hCS⟩ := Kd.R_reads hr0
  have HV0 := Lib.hid hv0
  have HCS := Lib.hid hCS
  clear h hC hc hr0 hCS hv0
  go_enter Try.func13, Try.ntmps13
  go_wp2
  go_loopw [6] (fun v6 wr => ∃ i : Nat, i ≤ S.length ∧ v6 = .int .i64 (i : Int) ∧ (∀ j, j < i → S.getD j [] ≠ l) ∧ Below w.heap.size w wr) (fun v6 _ => S.length - (intOf v6).toNat)
  case atStart => exact ⟨0, Nat.zero_le _, rfl, fun _ h => absurd h (Nat.not_lt_zero _), Below.refl _ _⟩
  case round =>
    obtain ⟨i, hi, rfl, hno, hb⟩ := hrel
    have HNO := Lib.hid hno
    have HB := Lib.hid hb
    have cc0 := (hb.cell (p := ⟨gb, 0, none⟩) HX.out.lt).trans (blk_cell HV0.out 0)
    by_cases hlt : i < S.length
    · obtain ⟨ad, A', c', rfl, hcell, hle, hC'⟩ := set_at HCS.out i hlt
      have hc2 := (hb.cell (World.block_lt_of_cell? w _ hcell)).trans hcell
      have hs8 : (S.getD i []).length ≤ 8 := by
        have : S.getD i [] ∈ S := by rw [List.getD_eq_getElem?_getD, List.getElem?_eq_getElem hlt]; exact List.getElem_mem _
        exact (chk_fine (HX.out.good _ this)).2.1
      have hC2 := Kd.C_below hC' hb
      obtain ⟨x, hx⟩ : ∃ x, S.getD i [] = x := ⟨_, rfl⟩
      have HXX := Lib.hid hx
      rw [hx] at hc2 hle hC2 hs8
      obtain ⟨r, hr, hr0⟩ := cmp_eq x l (by omega) hl 40 (by omega)
      have HR := Lib.hid hr
      have HC2 := Lib.hid hC2
      have HLE := Lib.hid hle
      have HR0 := Lib.hid hr0
      clear hcell hC' hC2 hle hb hx hr hno hr0
      by_cases h0 : r = 0
      · have HXL := Lib.hid (HR0.out.1 h0)
        clear HR0
        subst h0
        go_wp2_with (go_at_call 37; go_must (refine (varveref11_Cmp.calls 40 A' c' x A c l 0 _ HC2.out HLE.out (Kd.C_below HC.out HB.out) HCL.out HR.out).mono ?_; rintro e w1 ⟨rfl, ⟨nd, rfl⟩⟩))
        go_ret2
        have hxl := HXL.out
        have hrat : rat S l = some i := by
          unfold rat
          rw [List.findIdx?_eq_some_iff_getElem]
          have e := HXX.out
          refine ⟨hlt, by rw [List.getD_eq_getElem?_getD, List.getElem?_eq_getElem hlt] at e; simp at e; simp [e, hxl], fun j hj => ?_⟩
          have := HNO.out j hj
          rw [List.getD_eq_getElem?_getD, List.getElem?_eq_getElem (by omega)] at this
          simpa using this
        have e1 : rpos S l = (i : Int) := by unfold rpos; rw [hrat]
        have e2 : rhas S l = true := by unfold rhas; rw [hrat]; rfl
        rw [e1, e2]
        exact ⟨rfl, pw_below_drewN HB.out _⟩
      · have h0' : (r == 0) = false := beq_false_of_ne h0
        go_wp2_with (go_at_call 37; go_must (refine (varveref11_Cmp.calls 40 A' c' x A c l r _ HC2.out HLE.out (Kd.C_below HC.out HB.out) HCL.out HR.out).mono ?_; rintro e w1 ⟨rfl, ⟨nd, rfl⟩⟩))
        go_roundw
        case rel =>
          refine ⟨i + 1, hlt, by simp, fun j hj => ?_, pw_below_drewN HB.out _⟩
          by_cases hji : j = i
          · rw [hji, HXX.out]; exact fun c => h0 (HR0.out.2 c)
          · exact HNO.out j (by omega)
        case measure => simp [intOf]; omega
    · obtain rfl : i = S.length := by omega
      clear hb hno
      go_wp2
      go_ret2
      have hrat : rat S l = none := by
        unfold rat
        rw [List.findIdx?_eq_none_iff]
        intro s hs
        obtain ⟨j, hj, e⟩ := List.getElem_of_mem hs
        have := HNO.out j hj
        rw [List.getD_eq_getElem?_getD, List.getElem?_eq_getElem hj] at this
        simp only [Option.getD_some] at this
        rw [e] at this
        simpa using this
      have e1 : rpos S l = -1 := by unfold rpos; rw [hrat]
      have e2 : rhas S l = false := by unfold rhas; rw [hrat]; rfl
      rw [e1, e2]
      exact ⟨rfl, HB.out⟩
end Go.Proofs.Ytlkhdbfhnpbbhaa
namespace Go.Proofs.Ytlkhdbfhnpbbhaa.Mx
open Go.RowKit Go.Proofs.YtlkhdbfhnpbbhaaW.PrintWords Go.Proofs.YtlkhdbfhnpbbhaaW.PrintLast Go.Proofs.YtlkhdbfhnpbbhaaW.PrintMore Go.Proofs.Ytlkhdbfhnpbbhaa.Ix
attribute [local go_sem] max2_int min2_int max_two min_two max_three min_three max_four min_four
set_option linter.unusedVariables false
set_option linter.unusedSimpArgs false
def errW : Option Int → Value
  | none => .nilIface
  | some c => .iface 0 (.int .i64 c)
theorem errW_none : errW none = .nilIface := rfl
theorem errW_some (c : Int) : errW (some c) = .iface 0 (.int .i64 c) := rfl
structure S54 where
  f0 : Int
  f1 : ByteArray
  f2 : ByteArray
  f3 : (List ByteArray)
  f4 : (List S54)
def z54 : S54 := ⟨(0 : Int), (⟨#[]⟩ : ByteArray), (⟨#[]⟩ : ByteArray), ([] : List ByteArray), ([] : List S54)⟩
def F54 (d : Kd S54) : Kd S54 := Kd.iso (Kd.pair (Kd.int .i64) (Kd.pair Kd.string (Kd.pair Kd.string (Kd.pair (Kd.slice 9 Kd.string) (Kd.slice 54 d))))) (fun x : S54 => (x.f0, x.f1, x.f2, x.f3, x.f4))
theorem mono54 : Kd.Mono F54 := Kd.mono_iso _ (Kd.mono_pair (Kd.mono_const _) (Kd.mono_pair (Kd.mono_const _) (Kd.mono_pair (Kd.mono_const _) (Kd.mono_pair (Kd.mono_const _) (Kd.mono_slice 54 Kd.mono_id)))))
theorem sub54 : Kd.Sub F54 [9, 54] := Kd.sub_iso _ (Kd.sub_pair (Kd.sub_const _ (by decide)) (Kd.sub_pair (Kd.sub_const _ (by decide)) (Kd.sub_pair (Kd.sub_const _ (by decide)) (Kd.sub_pair (Kd.sub_const _ (by decide)) (Kd.sub_slice 54 (by decide) Kd.sub_id)))))
theorem sz54 : ∀ n, (Kd.upto F54 5 [9, 54] n).sz = 5 := Kd.upto_sz (fun _ => rfl)
def k54 : Kd S54 := Kd.fix F54 5 [9, 54] sz54 (Kd.upto_E sub54)
theorem k54_open {w : World} {x : S54} {cs : List Value} (h : k54.K w x cs) : ∃ A3 c3 A4 c4, cs = [.int .i64 x.f0, .string x.f1, .string x.f2, .slice A3 x.f3.length c3, .slice A4 x.f4.length c4] ∧ x.f3.length ≤ c3 ∧ Kd.string.C w A3 x.f3.length x.f3 ∧ x.f4.length ≤ c4 ∧ k54.C w A4 x.f4.length x.f4 := by
  obtain ⟨n, h⟩ := h
  cases n with
  | zero => exact h.elim
  | succ n =>
    obtain ⟨_, _, rfl, rfl, ⟨_, _, rfl, rfl, ⟨_, _, rfl, rfl, ⟨_, _, rfl, ⟨A3, c3, rfl, l3, g3⟩, ⟨A4, c4, rfl, l4, g4⟩⟩⟩⟩⟩ := h
    exact ⟨A3, c3, A4, c4, rfl, l3, g3, l4, Kd.fix_C g4⟩
theorem k54_mk (w : World) (x : S54) {A3 : Option Addr} {c3 : Nat} (l3 : x.f3.length ≤ c3) (g3 : Kd.string.C w A3 x.f3.length x.f3) {A4 : Option Addr} {c4 : Nat} (l4 : x.f4.length ≤ c4) (g4 : k54.C w A4 x.f4.length x.f4) : k54.K w x [.int .i64 x.f0, .string x.f1, .string x.f2, .slice A3 x.f3.length c3, .slice A4 x.f4.length c4] := by
  obtain ⟨n4, q4⟩ := Kd.fix_C_back mono54 g4
  have r4 := Kd.upto_C_le mono54 sz54 (show n4 ≤ n4 by omega) q4
  exact ⟨n4 + 1, ⟨[.int .i64 x.f0], [.string x.f1, .string x.f2, .slice A3 x.f3.length c3, .slice A4 x.f4.length c4], rfl, rfl, ⟨[.string x.f1], [.string x.f2, .slice A3 x.f3.length c3, .slice A4 x.f4.length c4], rfl, rfl, ⟨[.string x.f2], [.slice A3 x.f3.length c3, .slice A4 x.f4.length c4], rfl, rfl, ⟨[.slice A3 x.f3.length c3], [.slice A4 x.f4.length c4], rfl, ⟨A3, c3, rfl, l3, g3⟩, ⟨A4, c4, rfl, l4, r4⟩⟩⟩⟩⟩⟩
def rd_T54 (xs : List S54) (i : Int) : S54 := xs.getD i.toNat z54
theorem at_T54 {w : World} {A : Option Addr} {n : Nat} {xs : List S54} (h : Kd.C k54 w A n xs) (i : Int) (h0 : 0 ≤ i) (h1 : i < n) : ∃ ad A3 c3 A4 c4, A = some ad ∧ w.cell? (ad.add (i.toNat * 5)) = some (.int .i64 (rd_T54 xs i).f0) ∧ w.cell? ⟨(ad.add (i.toNat * 5)).block, (ad.add (i.toNat * 5)).off + 1, none⟩ = some (.string (rd_T54 xs i).f1) ∧ w.cell? ⟨(ad.add (i.toNat * 5)).block, (ad.add (i.toNat * 5)).off + 2, none⟩ = some (.string (rd_T54 xs i).f2) ∧ w.cell? ⟨(ad.add (i.toNat * 5)).block, (ad.add (i.toNat * 5)).off + 3, none⟩ = some (.slice A3 (rd_T54 xs i).f3.length c3) ∧ w.cell? ⟨(ad.add (i.toNat * 5)).block, (ad.add (i.toNat * 5)).off + 4, none⟩ = some (.slice A4 (rd_T54 xs i).f4.length c4) ∧ (rd_T54 xs i).f3.length ≤ c3 ∧ Kd.string.C w A3 (rd_T54 xs i).f3.length (rd_T54 xs i).f3 ∧ (rd_T54 xs i).f4.length ≤ c4 ∧ k54.C w A4 (rd_T54 xs i).f4.length (rd_T54 xs i).f4 := by
  obtain ⟨ad, c, e, _, hK, hc0⟩ := Kd.C_get h z54 i h0 h1
  have hc : ∀ j u, c[j]? = some u → w.cell? (ad.add (i.toNat * 5 + j)) = some u := hc0
  obtain ⟨A3, c3, A4, c4, rfl, l3, g3, l4, g4⟩ := k54_open hK
  exact ⟨ad, A3, c3, A4, c4, e, hc 0 _ rfl, by rw [← add_field _ _ 1 (by omega)]; exact hc 1 _ rfl, by rw [← add_field _ _ 2 (by omega)]; exact hc 2 _ rfl, by rw [← add_field _ _ 3 (by omega)]; exact hc 3 _ rfl, by rw [← add_field _ _ 4 (by omega)]; exact hc 4 _ rfl, l3, g3, l4, g4⟩
end Go.Proofs.Ytlkhdbfhnpbbhaa.Mx
namespace Go.Proofs.Ytlkhdbfhnpbbhaa.Mx
open Go.RowKit Go.Proofs.YtlkhdbfhnpbbhaaW.PrintWords Go.Proofs.YtlkhdbfhnpbbhaaW.PrintLast Go.Proofs.YtlkhdbfhnpbbhaaW.PrintMore Go.Proofs.Ytlkhdbfhnpbbhaa.Ix
attribute [local go_sem] max2_int min2_int max_two min_two max_three min_three max_four min_four
set_option linter.unusedVariables false
set_option linter.unusedSimpArgs false
attribute [local go_sem] gtr_swap leq_swap
mutual
def match_values.j0 : Nat → List ByteArray → Bool → Option (Bool)
  | 0, _, _ => none
  | k + 1, x0, x12 => if x12 = true then (some false) else (match_values.l0 k x0 x0 (x0.length : Int) 0)
def match_values.l0 : Nat → List ByteArray → List ByteArray → Int → Int → Option (Bool)
  | 0, _, _, _, _ => none
  | k + 1, x0, x13, x14, x15 => if x15 < x14 then (if 0 ≤ x15 then (if x15 < (x13.length : Int) then (if ((rdOf ByteArray.empty x13 x15).size : Int) > 64 then (some false) else (if x15 > 0 then (if 0 ≤ (wrap64 (x15 - 1)) then (if (wrap64 (x15 - 1)) < (x0.length : Int) then (if ((Op.bytesLess ((rdOf ByteArray.empty x0 (wrap64 (x15 - 1))).toList) ((rdOf ByteArray.empty x13 x15).toList)) = true) then (match_values.l0 k x0 x13 x14 (wrap64 (x15 + 1))) else (some false)) else (none)) else (none)) else (match_values.l0 k x0 x13 x14 (wrap64 (x15 + 1))))) else (none)) else (none)) else (some true)
end
def match_values.f (k : Nat) (l0 : List ByteArray) : Option (Bool) := if (l0.length : Int) < 1 then (match_values.j0 k l0 true) else (match_values.j0 k l0 (decide ((l0.length : Int) > 16)))
theorem match_values.mono_l : ∀ k, (∀ y0 y1, LeO (match_values.j0 k y0 y1) (match_values.j0 (k + 1) y0 y1)) ∧ (∀ y0 y1 y2 y3, LeO (match_values.l0 k y0 y1 y2 y3) (match_values.l0 (k + 1) y0 y1 y2 y3))
  | 0 => ⟨fun _ _ r h => by simp [match_values.j0] at h, fun _ _ _ _ r h => by simp [match_values.l0] at h⟩
  | k + 1 => by
    obtain ⟨ih0, ih1⟩ := match_values.mono_l k
    refine ⟨?_, ?_⟩
    · intro y0 y1
      unfold match_values.j0
      repeat' first
      | (with_reducible exact ih0 _ _)
      | (with_reducible exact ih1 _ _ _ _)
      | (with_reducible exact LeO.refl _)
      | (with_reducible exact LeO.none _)
      | (with_reducible refine LeO.ite ?_ ?_)
      | (with_reducible refine LeO.bind ?_ (fun _ => ?_))
      | exact ih0 _ _
      | exact ih1 _ _ _ _
      | exact LeO.none _
      | refine LeO.ite ?_ ?_
      | refine LeO.bind ?_ (fun _ => ?_)
    · intro y0 y1 y2 y3
      unfold match_values.l0
      repeat' first
      | (with_reducible exact ih0 _ _)
      | (with_reducible exact ih1 _ _ _ _)
      | (with_reducible exact LeO.refl _)
      | (with_reducible exact LeO.none _)
      | (with_reducible refine LeO.ite ?_ ?_)
      | (with_reducible refine LeO.bind ?_ (fun _ => ?_))
      | exact ih0 _ _
      | exact ih1 _ _ _ _
      | exact LeO.none _
      | refine LeO.ite ?_ ?_
      | refine LeO.bind ?_ (fun _ => ?_)
theorem match_values.mono : ∀ a0 k, LeO (match_values.f k a0) (match_values.f (k + 1) a0) := by
  intro a0 k
  obtain ⟨ih0, ih1⟩ := match_values.mono_l k
  unfold match_values.f
  repeat' first
      | (with_reducible exact ih0 _ _)
      | (with_reducible exact ih1 _ _ _ _)
      | (with_reducible exact LeO.refl _)
      | (with_reducible exact LeO.none _)
      | (with_reducible refine LeO.ite ?_ ?_)
      | (with_reducible refine LeO.bind ?_ (fun _ => ?_))
      | exact ih0 _ _
      | exact ih1 _ _ _ _
      | exact LeO.none _
      | refine LeO.ite ?_ ?_
      | refine LeO.bind ?_ (fun _ => ?_)
set_option maxHeartbeats 8000000 in
set_option maxRecDepth 100000 in
theorem match_values.calls (k : Nat) (A0 : Option Addr) (c0 : Nat) (l0 : List ByteArray) (r : Bool) (w : World) (hr0 : Kd.C Kd.string w A0 l0.length l0) (hc0 : l0.length ≤ c0) (h : match_values.f k l0 = some r) :
    Calls Try.prog 90 #[.slice A0 l0.length c0] w fun e w' => e = .returned (.bool r) ∧ Drawn0 w w' := by
  have HR0 := Aside0.mk hr0
  have HC0 := Aside0.mk hc0
  clear hr0 hc0
  have H : (if (l0.length : Int) < 1 then (match_values.j0 k l0 true) else (match_values.j0 k l0 (decide ((l0.length : Int) > 16)))) = some r := h
  clear h
  have HC2 := Aside0.mk H
  clear H
  go_enter Try.func90, Try.ntmps90
  go_upto_region 1 with (fail)
  go_cut [12] (fun v12 wc => ∃ (kq : Nat) (x12_1 : Bool), v12 = .bool x12_1 ∧ Aside0 (match_values.j0 kq l0 x12_1 = some r) ∧ Aside0 (kq ≤ k) ∧ Drawn0 w wc)
  case first =>
    have H := HC2.out
    clear HC2
    by_cases c3 : (l0.length : Int) < 1
    · rw [if_pos c3] at H
      have c3b0 : decide ((l0.length : Int) < 1) = true := decide_eq_true c3
      have c3b1 : decide (l0.length < 1) = true := decide_eq_true (by omega)
      clear c3
      (first | rw [c3b0] | (simp only [i64_w, i32_w]; rw [c3b0]) | skip)
      have H' := Aside0.mk H
      clear H
      go_wp2
      go_meet
      case rel => exact ⟨_, (true), (by first | rfl | (simp; done) | (simp [*]; done)), H', ⟨by first | omega | exact Nat.le_refl _⟩, by repeat (first | exact Drawn0.refl _ | apply Drawn0.step)⟩
    · rw [if_neg c3] at H
      have c3b0 : decide ((l0.length : Int) < 1) = false := decide_eq_false c3
      have c3b1 : decide (l0.length < 1) = false := decide_eq_false (by omega)
      clear c3
      (first | rw [c3b0] | (simp only [i64_w, i32_w]; rw [c3b0]) | skip)
      have H' := Aside0.mk H
      clear H
      go_wp2
      go_meet
      case rel => exact ⟨_, (decide ((l0.length : Int) > 16)), (by first | rfl | (simp; done) | (simp [*]; done)), H', ⟨by first | omega | exact Nat.le_refl _⟩, by repeat (first | exact Drawn0.refl _ | apply Drawn0.step)⟩
  case rest =>
    clear HC2
    try clear p2
    try clear c3
    try clear c3b0
    try clear c3b1
    obtain ⟨kq, x12_1, rfl, HA, HJ1, ⟨mc1, rfl⟩⟩ := hcut
    cases kq with
    | zero => exact absurd HA.out (by simp [match_values.j0])
    | succ kj1 =>
      have H := HA.out
      clear HA
      simp only [match_values.j0] at H
      by_cases c4 : x12_1 = true
      · subst c4
        have H1 : (some false) = some r := by rw [if_pos rfl] at H; exact H
        clear H
        have H := H1
        clear H1
        obtain rfl := Option.some.inj H
        go_wp2
        go_ret
        exact ⟨by first | rfl | (simp; done) | (simp [*]; done), by repeat (first | exact Drawn0.refl _ | apply Drawn0.step)⟩
      · replace c4 := Bool.eq_false_iff.mpr c4
        subst c4
        have H1 : (match_values.l0 kj1 l0 l0 (l0.length : Int) 0) = some r := by rw [if_neg (show ¬ (false = true) by decide)] at H; exact H
        clear H
        have H := H1
        clear H1
        have H' := Aside0.mk H
        clear H
        go_wp2
        go_loopg [15] kj1 (fun kq v15 w' => ∃ (x15_2 : Int), v15 = .int .i64 x15_2 ∧ Aside0 (match_values.l0 kq l0 l0 (l0.length : Int) x15_2 = some r) ∧ Aside0 (kq ≤ kj1) ∧ Drawn0 w w')
        case atStart => exact ⟨(0), (by first | rfl | (simp; done) | (simp [*]; done)), H', ⟨Nat.le_refl _⟩, by repeat (first | exact Drawn0.refl _ | apply Drawn0.step)⟩
        case round =>
          clear H'
          try clear c1
          try clear p2
          try clear c3
          try clear c3b0
          try clear c3b1
          try clear c4
          try clear p2
          obtain ⟨x15_2, rfl, HA, HK2, ⟨m2, rfl⟩⟩ := hrel
          cases gk with
          | zero => exact absurd HA.out (by simp [match_values.l0])
          | succ k2 =>
            have H := HA.out
            clear HA
            simp only [match_values.l0] at H
            by_cases c5 : x15_2 < (l0.length : Int)
            · rw [if_pos c5] at H
              have c5b0 : decide (x15_2 < (l0.length : Int)) = true := decide_eq_true c5
              clear c5
              by_cases c6 : 0 ≤ x15_2
              · rw [if_pos c6] at H
                have c6b0 : decide (0 ≤ x15_2) = true := decide_eq_true c6
                clear c6
                by_cases c7 : x15_2 < (l0.length : Int)
                · rw [if_pos c7] at H
                  have c7b0 : decide (x15_2 < (l0.length : Int)) = true := decide_eq_true c7
                  clear c7
                  by_cases c8 : ((rdOf ByteArray.empty l0 x15_2).size : Int) > 64
                  · rw [if_pos c8] at H
                    have c8b0 : decide (64 < ((rdOf ByteArray.empty l0 x15_2).size : Int)) = true := decide_eq_true c8
                    have c8b1 : decide (64 < (rdOf ByteArray.empty l0 x15_2).size) = true := decide_eq_true (by omega)
                    clear c8
                    obtain rfl := Option.some.inj H
                    have p101 : 0 ≤ (x15_2 : Int) := of_decide_eq_true (by first | (with_reducible assumption) | assumption)
                    have q101 : x15_2 < (l0.length : Int) := of_decide_eq_true (by first | (with_reducible assumption) | assumption)
                    obtain ⟨ad101, e101, hx101_0⟩ := Kd.at_string HR0.out x15_2 p101 q101
                    cases e101
                    replace p101 := eq_true p101
                    replace q101 := eq_true q101
                    go_wp2
                    go_ret
                    exact ⟨by first | rfl | (simp; done) | (simp [*]; done), by repeat (first | exact Drawn0.refl _ | apply Drawn0.step)⟩
                  · rw [if_neg c8] at H
                    have c8b0 : decide (64 < ((rdOf ByteArray.empty l0 x15_2).size : Int)) = false := decide_eq_false c8
                    have c8b1 : decide (64 < (rdOf ByteArray.empty l0 x15_2).size) = false := decide_eq_false (by omega)
                    clear c8
                    by_cases c9 : x15_2 > 0
                    · rw [if_pos c9] at H
                      have c9b0 : decide (0 < x15_2) = true := decide_eq_true c9
                      clear c9
                      obtain ⟨ji10, hji10⟩ : ∃ j_ : Int, (wrap64 (x15_2 - 1)) = j_ := ⟨_, rfl⟩
                      replace H : (if 0 ≤ (ji10) then (if (ji10) < (l0.length : Int) then (if ((Op.bytesLess ((rdOf ByteArray.empty l0 (ji10)).toList) ((rdOf ByteArray.empty l0 x15_2).toList)) = true) then (match_values.l0 k2 l0 l0 (l0.length : Int) (wrap64 (x15_2 + 1))) else (some false)) else (none)) else (none)) = some r := by first | (rw [hji10] at H; exact H) | (simp only [hji10] at H ⊢; exact H)
                      have hji10w : (IntKind.i64.wrap (x15_2 - 1)) = ji10 := (i64_w _).trans hji10
                      by_cases c11 : 0 ≤ (ji10)
                      · rw [if_pos c11] at H
                        have c11b0 : decide (0 ≤ (ji10)) = true := decide_eq_true c11
                        clear c11
                        by_cases c12 : (ji10) < (l0.length : Int)
                        · rw [if_pos c12] at H
                          have c12b0 : decide ((ji10) < (l0.length : Int)) = true := decide_eq_true c12
                          clear c12
                          by_cases c13 : ((Op.bytesLess ((rdOf ByteArray.empty l0 (ji10)).toList) ((rdOf ByteArray.empty l0 x15_2).toList)) = true)
                          · rw [if_pos c13] at H
                            have c13b0 : (Op.bytesLess ((rdOf ByteArray.empty l0 (ji10)).toList) ((rdOf ByteArray.empty l0 x15_2).toList)) = true := c13
                            clear c13
                            have H' := Aside0.mk H
                            clear H
                            have p101 : 0 ≤ (x15_2 : Int) := of_decide_eq_true (by first | (with_reducible assumption) | assumption)
                            have q101 : x15_2 < (l0.length : Int) := of_decide_eq_true (by first | (with_reducible assumption) | assumption)
                            obtain ⟨ad101, e101, hx101_0⟩ := Kd.at_string HR0.out x15_2 p101 q101
                            cases e101
                            replace p101 := eq_true p101
                            replace q101 := eq_true q101
                            have p102 : 0 ≤ ((ji10) : Int) := of_decide_eq_true (by first | (with_reducible assumption) | assumption)
                            have q102 : (ji10) < (l0.length : Int) := of_decide_eq_true (by first | (with_reducible assumption) | assumption)
                            obtain ⟨ad102, e102, hx102_0⟩ := Kd.at_string HR0.out (ji10) p102 q102
                            obtain rfl : ad101 = ad102 := (by injection e102)
                            replace p102 := eq_true p102
                            replace q102 := eq_true q102
                            go_wp2
                            go_roundg k2
                            case measure => have := HJ1.out; have := HK2.out; omega
                            case rel => exact ⟨(wrap64 (x15_2 + 1)), (by first | rfl | (simp; done) | (simp [*]; done)), H', ⟨by have := HJ1.out; have := HK2.out; omega⟩, by repeat (first | exact Drawn0.refl _ | apply Drawn0.step)⟩
                          · rw [if_neg c13] at H
                            have c13b0 : (Op.bytesLess ((rdOf ByteArray.empty l0 (ji10)).toList) ((rdOf ByteArray.empty l0 x15_2).toList)) = false := by simpa using c13
                            clear c13
                            obtain rfl := Option.some.inj H
                            have p101 : 0 ≤ (x15_2 : Int) := of_decide_eq_true (by first | (with_reducible assumption) | assumption)
                            have q101 : x15_2 < (l0.length : Int) := of_decide_eq_true (by first | (with_reducible assumption) | assumption)
                            obtain ⟨ad101, e101, hx101_0⟩ := Kd.at_string HR0.out x15_2 p101 q101
                            cases e101
                            replace p101 := eq_true p101
                            replace q101 := eq_true q101
                            have p102 : 0 ≤ ((ji10) : Int) := of_decide_eq_true (by first | (with_reducible assumption) | assumption)
                            have q102 : (ji10) < (l0.length : Int) := of_decide_eq_true (by first | (with_reducible assumption) | assumption)
                            obtain ⟨ad102, e102, hx102_0⟩ := Kd.at_string HR0.out (ji10) p102 q102
                            obtain rfl : ad101 = ad102 := (by injection e102)
                            replace p102 := eq_true p102
                            replace q102 := eq_true q102
                            go_wp2
                            go_ret
                            exact ⟨by first | rfl | (simp; done) | (simp only [← hji10] <;> (first | rfl | simp)) | (simp [*]; done), by repeat (first | exact Drawn0.refl _ | apply Drawn0.step)⟩
                        · rw [if_neg c12] at H
                          exact absurd H (by simp)
                      · rw [if_neg c11] at H
                        exact absurd H (by simp)
                    · rw [if_neg c9] at H
                      have c9b0 : decide (0 < x15_2) = false := decide_eq_false c9
                      clear c9
                      have H' := Aside0.mk H
                      clear H
                      have p101 : 0 ≤ (x15_2 : Int) := of_decide_eq_true (by first | (with_reducible assumption) | assumption)
                      have q101 : x15_2 < (l0.length : Int) := of_decide_eq_true (by first | (with_reducible assumption) | assumption)
                      obtain ⟨ad101, e101, hx101_0⟩ := Kd.at_string HR0.out x15_2 p101 q101
                      cases e101
                      replace p101 := eq_true p101
                      replace q101 := eq_true q101
                      go_wp2
                      go_roundg k2
                      case measure => have := HJ1.out; have := HK2.out; omega
                      case rel => exact ⟨(wrap64 (x15_2 + 1)), (by first | rfl | (simp; done) | (simp [*]; done)), H', ⟨by have := HJ1.out; have := HK2.out; omega⟩, by repeat (first | exact Drawn0.refl _ | apply Drawn0.step)⟩
                · rw [if_neg c7] at H
                  exact absurd H (by simp)
              · rw [if_neg c6] at H
                exact absurd H (by simp)
            · rw [if_neg c5] at H
              have c5b0 : decide (x15_2 < (l0.length : Int)) = false := decide_eq_false c5
              clear c5
              obtain rfl := Option.some.inj H
              go_wp2
              go_ret
              exact ⟨by first | rfl | (simp; done) | (simp [*]; done), by repeat (first | exact Drawn0.refl _ | apply Drawn0.step)⟩
end Go.Proofs.Ytlkhdbfhnpbbhaa.Mx
