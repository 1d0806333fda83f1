/- What the laws of this folder share, part 1: walks of functions over their Go text, and plain lemmas. Conditions: as each lemma says. -/
import Derived.SizedLaws
import Derived.ChangeArms
import Derived.Deep.Slices
import Derived.ProofKit
import Derived.DataShut
import Derived.KernelRfl
import Derived.Test.YtncgjbocgbnkcaaRows
import Derived.Sort.AssemblyPlain
import Derived.Sort.WalkA
import Derived.Deep.CutBlock
import Derived.Lib.Hide
import Derived.Sort.WalkB3
import Derived.Sort.WalkB12
import Derived.Outline
import Derived.Sort.WalkA6
import Derived.Deep.DeepCutAuto
import Derived.Sort.WalkC4
import Derived.Sort.Walk7a
import Derived.Sort.LotD2
import Derived.Sort.LotD3
import Derived.Sort.LotB
import Derived.Sort.LotC
import Derived.Deep.LoopGhost
import Derived.BigQuiet
import Derived.Maps.RangeWalk
import Derived.Maps.OwnSet
import Derived.Maps.OwnOps
import Derived.Maps.Views
import Derived.WalkKit
import Derived.WalkMore
import Derived.StillTail
import Derived.Test.YtncgjbocgbnkcaaPbM0
namespace Go.Proofs.Ytncgjbocgbnkcaa.Hi
open Go.RowKit Go.Proofs.YtncgjbocgbnkcaaW.PrintWords Go.Proofs.YtncgjbocgbnkcaaW.PrintLast Go.Proofs.YtncgjbocgbnkcaaW.PrintMore
attribute [local go_sem] max2_int min2_int max_two min_two max_three min_three max_four min_four   -- for this text's walks alone
set_option linter.unusedVariables false
set_option linter.unusedSimpArgs false
def hist_Check.l0 : Nat → Int → List (S68) → Int → Int → Option (Bool)
  | 0, _, _, _, _ => none
  | k + 1, x3, x6, x7, x8 => if x8 < x7 then (if 0 ≤ x8 then (if x8 < (x6.length : Int) then (if ((rd_T68 x6 x8).f0) ≤ x3 then (some false) else (if ((rd_T68 x6 x8).f0) ≥ 7424 then (some false) else (if ((rd_T68 x6 x8).f1) = 0 then (some false) else (hist_Check.l0 k ((rd_T68 x6 x8).f0) x6 x7 (wrap64 (x8 + 1)))))) else (none)) else (none)) else (some true)
def hist_Check.f (k : Nat) (l0 : List (S68)) : Option (Bool) := hist_Check.l0 k (-1) l0 (l0.length : Int) 0
theorem hist_Check.mono_l : ∀ k, (∀ y0 y1 y2 y3, LeO (hist_Check.l0 k y0 y1 y2 y3) (hist_Check.l0 (k + 1) y0 y1 y2 y3))
  | 0 => fun _ _ _ _ r h => by simp [hist_Check.l0] at h
  | k + 1 => by
    have ih0 := hist_Check.mono_l k
    · intro y0 y1 y2 y3
      unfold hist_Check.l0
      repeat' first
      | (with_reducible exact ih0 _ _ _ _)
      | (with_reducible exact LeO.refl _)
      | (with_reducible exact LeO.none _)
      | (with_reducible refine LeO.ite ?_ ?_)
      | (with_reducible refine LeO.bind ?_ (fun _ => ?_))
      | exact ih0 _ _ _ _
      | exact LeO.none _
      | refine LeO.ite ?_ ?_
      | refine LeO.bind ?_ (fun _ => ?_)
theorem hist_Check.mono : ∀ a0 k, LeO (hist_Check.f k a0) (hist_Check.f (k + 1) a0) := by
  intro a0 k
  have ih0 := hist_Check.mono_l k
  unfold hist_Check.f
  repeat' first
      | (with_reducible exact ih0 _ _ _ _)
      | (with_reducible exact LeO.refl _)
      | (with_reducible exact LeO.none _)
      | (with_reducible refine LeO.ite ?_ ?_)
      | (with_reducible refine LeO.bind ?_ (fun _ => ?_))
      | exact ih0 _ _ _ _
      | exact LeO.none _
      | refine LeO.ite ?_ ?_
      | refine LeO.bind ?_ (fun _ => ?_)
set_option maxHeartbeats 8000000 in
set_option maxRecDepth 100000 in
theorem hist_Check.calls (k : Nat) (A0 : Option Addr) (c0 : Nat) (l0 : List (S68)) (r : Bool) (w : World) (hr0 : Kd.C k68 w A0 l0.length l0) (hc0 : l0.length ≤ c0) (h : hist_Check.f k l0 = some r) :
    Calls Try.prog 52 #[.slice A0 l0.length c0] w fun e w' => e = .returned (.bool r) ∧ Below w.heap.size w w' := by
  have hu68 := Try.underlying68
  have HR0 := Aside0.mk hr0
  have HC0 := Aside0.mk hc0
  clear hr0 hc0
  have HB := Aside0.mk (Below.refl w.heap.size w)
  have H : (hist_Check.l0 k (-1) l0 (l0.length : Int) 0) = some r := h
  clear h
  have H' := Aside0.mk H
  clear H
  go_enter Try.func52, Try.ntmps52
  go_wp2
  go_loopg [3, 8] k (fun kq v3 v8 w' => ∃ (x3_1 : Int) (x8_1 : Int), v3 = .int .i64 x3_1 ∧ v8 = .int .i64 x8_1 ∧ Aside0 (hist_Check.l0 kq x3_1 l0 (l0.length : Int) x8_1 = some r) ∧ Aside0 (kq ≤ k) ∧ Aside0 (Below w.heap.size w w'))
  case atStart => exact ⟨((-1)), (0), (by first | rfl | (simp; done) | (simp [*]; done)), (by first | rfl | (simp; done) | (simp [*]; done)), H', ⟨Nat.le_refl _⟩, ⟨by repeat (first | (with_reducible first | exact HB.out | apply below_alloc | apply pw_below_drewN | apply below_drew1) | exact HB.out)⟩⟩
  case round =>
    clear H'
    obtain ⟨x3_1, x8_1, rfl, rfl, HA, HK1, HB⟩ := hrel
    cases gk with
    | zero => exact absurd HA.out (by simp [hist_Check.l0])
    | succ k1 =>
      have H := HA.out
      clear HA
      simp only [hist_Check.l0] at H
      by_cases c2 : x8_1 < (l0.length : Int)
      · rw [if_pos c2] at H
        have c2b0 : decide (x8_1 < (l0.length : Int)) = true := decide_eq_true c2
        clear c2
        by_cases c3 : 0 ≤ x8_1
        · rw [if_pos c3] at H
          have c3b0 : decide (0 ≤ x8_1) = true := decide_eq_true c3
          clear c3
          by_cases c4 : x8_1 < (l0.length : Int)
          · rw [if_pos c4] at H
            have c4b0 : decide (x8_1 < (l0.length : Int)) = true := decide_eq_true c4
            clear c4
            by_cases c5 : ((rd_T68 l0 x8_1).f0) ≤ x3_1
            · rw [if_pos c5] at H
              have c5b0 : decide (((rd_T68 l0 x8_1).f0) ≤ x3_1) = true := decide_eq_true c5
              clear c5
              obtain rfl := Option.some.inj H
              have p125 : 0 ≤ (x8_1 : Int) := of_decide_eq_true (by first | (with_reducible assumption) | assumption)
              have q125 : x8_1 < (l0.length : Int) := of_decide_eq_true (by first | (with_reducible assumption) | assumption)
              obtain ⟨ad125, e125, hx125_0, hx125_1⟩ := at_T68 HR0.out x8_1 p125 q125
              cases e125
              replace hx125_0 := (HB.out.cell (World.block_lt_of_cell? w _ hx125_0)).trans hx125_0
              replace hx125_1 := (HB.out.cell (World.block_lt_of_cell? w _ hx125_1)).trans hx125_1
              replace p125 := eq_true p125
              replace q125 := eq_true q125
              go_wp2_with (first | ((with_reducible refine gate_dst (N := 5) rfl ?_); refine box_event ?hg (N := 5) ?hd (cs := #[.int .i64 0, .int .u64 0]) (t := 68) ?hr ?_; (case hd => rfl); (case hg => rfl); (case hr => first | (go_simp; done) | (go_simp; rfl)); intro gb126 hg w6 hbox hb; have n0_ := Aside0.mk (below_step (by repeat (first | (with_reducible first | exact HB.out | apply below_alloc | apply pw_below_drewN | apply below_drew1) | exact HB.out)) hb); have n1_ := Aside0.mk (hbox); have n2_ := Aside0.mk ((by rw [hg]; exact (below_size (by repeat (first | (with_reducible first | exact HB.out | apply below_alloc | apply pw_below_drewN | apply below_drew1) | exact HB.out))) : w.heap.size ≤ gb126)); have n3_ := Aside0.mk ((by rw [hg]; exact (below_size (by repeat (first | (with_reducible first | exact HB.out | apply below_alloc | apply pw_below_drewN | apply below_drew1) | exact HB.out))) : w.heap.size ≤ gb126)); clear HB; have HB := n0_; have BK126 := n1_; have GW126 := n2_; have GE126 := n3_; clear n0_ n1_ n2_ n3_; clear hb hbox hg; have hcz7_0 : w6.cell? ⟨gb126, 0, none⟩ = some (.int .i64 0) := (blk_cell BK126.out 0).trans rfl; have hcz7_1 : w6.cell? ⟨gb126, 1, none⟩ = some (.int .u64 0) := (blk_cell BK126.out 1).trans rfl; have hfz7_0 := blk_frozen BK126.out 0; have hfz7_1 := blk_frozen BK126.out 1))
              go_ret
              exact ⟨by first | rfl | (simp [errW_none, errW_some] <;> rfl) | (simp [*, errW_none, errW_some] <;> rfl), by repeat (first | (with_reducible first | exact HB.out | apply below_alloc | apply pw_below_drewN | apply below_drew1 | refine below_set ?_ GE126.out) | exact HB.out)⟩
            · rw [if_neg c5] at H
              have c5b0 : decide (((rd_T68 l0 x8_1).f0) ≤ x3_1) = false := decide_eq_false c5
              clear c5
              by_cases c8 : ((rd_T68 l0 x8_1).f0) ≥ 7424
              · rw [if_pos c8] at H
                have c8b0 : decide (7424 ≤ ((rd_T68 l0 x8_1).f0)) = true := decide_eq_true c8
                clear c8
                obtain rfl := Option.some.inj H
                have p125 : 0 ≤ (x8_1 : Int) := of_decide_eq_true (by first | (with_reducible assumption) | assumption)
                have q125 : x8_1 < (l0.length : Int) := of_decide_eq_true (by first | (with_reducible assumption) | assumption)
                obtain ⟨ad125, e125, hx125_0, hx125_1⟩ := at_T68 HR0.out x8_1 p125 q125
                cases e125
                replace hx125_0 := (HB.out.cell (World.block_lt_of_cell? w _ hx125_0)).trans hx125_0
                replace hx125_1 := (HB.out.cell (World.block_lt_of_cell? w _ hx125_1)).trans hx125_1
                replace p125 := eq_true p125
                replace q125 := eq_true q125
                go_wp2_with (first | ((with_reducible refine gate_dst (N := 5) rfl ?_); refine box_event ?hg (N := 5) ?hd (cs := #[.int .i64 0, .int .u64 0]) (t := 68) ?hr ?_; (case hd => rfl); (case hg => rfl); (case hr => first | (go_simp; done) | (go_simp; rfl)); intro gb126 hg w9 hbox hb; have n0_ := Aside0.mk (below_step (by repeat (first | (with_reducible first | exact HB.out | apply below_alloc | apply pw_below_drewN | apply below_drew1) | exact HB.out)) hb); have n1_ := Aside0.mk (hbox); have n2_ := Aside0.mk ((by rw [hg]; exact (below_size (by repeat (first | (with_reducible first | exact HB.out | apply below_alloc | apply pw_below_drewN | apply below_drew1) | exact HB.out))) : w.heap.size ≤ gb126)); have n3_ := Aside0.mk ((by rw [hg]; exact (below_size (by repeat (first | (with_reducible first | exact HB.out | apply below_alloc | apply pw_below_drewN | apply below_drew1) | exact HB.out))) : w.heap.size ≤ gb126)); clear HB; have HB := n0_; have BK126 := n1_; have GW126 := n2_; have GE126 := n3_; clear n0_ n1_ n2_ n3_; clear hb hbox hg; have hcz10_0 : w9.cell? ⟨gb126, 0, none⟩ = some (.int .i64 0) := (blk_cell BK126.out 0).trans rfl; have hcz10_1 : w9.cell? ⟨gb126, 1, none⟩ = some (.int .u64 0) := (blk_cell BK126.out 1).trans rfl; have hfz10_0 := blk_frozen BK126.out 0; have hfz10_1 := blk_frozen BK126.out 1))
                go_ret
                exact ⟨by first | rfl | (simp [errW_none, errW_some] <;> rfl) | (simp [*, errW_none, errW_some] <;> rfl), by repeat (first | (with_reducible first | exact HB.out | apply below_alloc | apply pw_below_drewN | apply below_drew1 | refine below_set ?_ GE126.out) | exact HB.out)⟩
              · rw [if_neg c8] at H
                have c8b0 : decide (7424 ≤ ((rd_T68 l0 x8_1).f0)) = false := decide_eq_false c8
                clear c8
                by_cases c11 : ((rd_T68 l0 x8_1).f1) = 0
                · rw [if_pos c11] at H
                  have c11b0 : (((rd_T68 l0 x8_1).f1) == 0) = true := beq_iff_eq.mpr c11
                  have c11b1 : (((rd_T68 l0 x8_1).f1) != 0) = false := bne_eq_false_iff_eq.mpr c11
                  clear c11
                  obtain rfl := Option.some.inj H
                  have p125 : 0 ≤ (x8_1 : Int) := of_decide_eq_true (by first | (with_reducible assumption) | assumption)
                  have q125 : x8_1 < (l0.length : Int) := of_decide_eq_true (by first | (with_reducible assumption) | assumption)
                  obtain ⟨ad125, e125, hx125_0, hx125_1⟩ := at_T68 HR0.out x8_1 p125 q125
                  cases e125
                  replace hx125_0 := (HB.out.cell (World.block_lt_of_cell? w _ hx125_0)).trans hx125_0
                  replace hx125_1 := (HB.out.cell (World.block_lt_of_cell? w _ hx125_1)).trans hx125_1
                  replace p125 := eq_true p125
                  replace q125 := eq_true q125
                  go_wp2_with (first | ((with_reducible refine gate_dst (N := 5) rfl ?_); refine box_event ?hg (N := 5) ?hd (cs := #[.int .i64 0, .int .u64 0]) (t := 68) ?hr ?_; (case hd => rfl); (case hg => rfl); (case hr => first | (go_simp; done) | (go_simp; rfl)); intro gb126 hg w12 hbox hb; have n0_ := Aside0.mk (below_step (by repeat (first | (with_reducible first | exact HB.out | apply below_alloc | apply pw_below_drewN | apply below_drew1) | exact HB.out)) hb); have n1_ := Aside0.mk (hbox); have n2_ := Aside0.mk ((by rw [hg]; exact (below_size (by repeat (first | (with_reducible first | exact HB.out | apply below_alloc | apply pw_below_drewN | apply below_drew1) | exact HB.out))) : w.heap.size ≤ gb126)); have n3_ := Aside0.mk ((by rw [hg]; exact (below_size (by repeat (first | (with_reducible first | exact HB.out | apply below_alloc | apply pw_below_drewN | apply below_drew1) | exact HB.out))) : w.heap.size ≤ gb126)); clear HB; have HB := n0_; have BK126 := n1_; have GW126 := n2_; have GE126 := n3_; clear n0_ n1_ n2_ n3_; clear hb hbox hg; have hcz13_0 : w12.cell? ⟨gb126, 0, none⟩ = some (.int .i64 0) := (blk_cell BK126.out 0).trans rfl; have hcz13_1 : w12.cell? ⟨gb126, 1, none⟩ = some (.int .u64 0) := (blk_cell BK126.out 1).trans rfl; have hfz13_0 := blk_frozen BK126.out 0; have hfz13_1 := blk_frozen BK126.out 1))
                  go_ret
                  exact ⟨by first | rfl | (simp [errW_none, errW_some] <;> rfl) | (simp [*, errW_none, errW_some] <;> rfl), by repeat (first | (with_reducible first | exact HB.out | apply below_alloc | apply pw_below_drewN | apply below_drew1 | refine below_set ?_ GE126.out) | exact HB.out)⟩
                · rw [if_neg c11] at H
                  have c11b0 : (((rd_T68 l0 x8_1).f1) == 0) = false := beq_eq_false_iff_ne.mpr c11
                  have c11b1 : (((rd_T68 l0 x8_1).f1) != 0) = true := bne_iff_ne.mpr c11
                  have H' := Aside0.mk H
                  clear H
                  have p125 : 0 ≤ (x8_1 : Int) := of_decide_eq_true (by first | (with_reducible assumption) | assumption)
                  have q125 : x8_1 < (l0.length : Int) := of_decide_eq_true (by first | (with_reducible assumption) | assumption)
                  obtain ⟨ad125, e125, hx125_0, hx125_1⟩ := at_T68 HR0.out x8_1 p125 q125
                  cases e125
                  replace hx125_0 := (HB.out.cell (World.block_lt_of_cell? w _ hx125_0)).trans hx125_0
                  replace hx125_1 := (HB.out.cell (World.block_lt_of_cell? w _ hx125_1)).trans hx125_1
                  replace p125 := eq_true p125
                  replace q125 := eq_true q125
                  go_wp2_with (first | ((with_reducible refine gate_dst (N := 5) rfl ?_); refine box_event ?hg (N := 5) ?hd (cs := #[.int .i64 0, .int .u64 0]) (t := 68) ?hr ?_; (case hd => rfl); (case hg => rfl); (case hr => first | (go_simp; done) | (go_simp; rfl)); intro gb126 hg w14 hbox hb; have n0_ := Aside0.mk (below_step (by repeat (first | (with_reducible first | exact HB.out | apply below_alloc | apply pw_below_drewN | apply below_drew1) | exact HB.out)) hb); have n1_ := Aside0.mk (hbox); have n2_ := Aside0.mk ((by rw [hg]; exact (below_size (by repeat (first | (with_reducible first | exact HB.out | apply below_alloc | apply pw_below_drewN | apply below_drew1) | exact HB.out))) : w.heap.size ≤ gb126)); have n3_ := Aside0.mk ((by rw [hg]; exact (below_size (by repeat (first | (with_reducible first | exact HB.out | apply below_alloc | apply pw_below_drewN | apply below_drew1) | exact HB.out))) : w.heap.size ≤ gb126)); clear HB; have HB := n0_; have BK126 := n1_; have GW126 := n2_; have GE126 := n3_; clear n0_ n1_ n2_ n3_; clear hb hbox hg; have hcz15_0 : w14.cell? ⟨gb126, 0, none⟩ = some (.int .i64 0) := (blk_cell BK126.out 0).trans rfl; have hcz15_1 : w14.cell? ⟨gb126, 1, none⟩ = some (.int .u64 0) := (blk_cell BK126.out 1).trans rfl; have hfz15_0 := blk_frozen BK126.out 0; have hfz15_1 := blk_frozen BK126.out 1))
                  go_roundg k1
                  case measure => have := HK1.out; omega
                  case rel => exact ⟨((rd_T68 l0 x8_1).f0), (wrap64 (x8_1 + 1)), (by first | rfl | (simp; done) | (simp [*]; done)), (by first | rfl | (simp; done) | (simp [*]; done)), H', ⟨by have := HK1.out; omega⟩, ⟨by repeat (first | (with_reducible first | exact HB.out | apply below_alloc | apply pw_below_drewN | apply below_drew1 | refine below_set ?_ GE126.out) | exact HB.out)⟩⟩
          · rw [if_neg c4] at H
            exact absurd H (by simp)
        · rw [if_neg c3] at H
          exact absurd H (by simp)
      · rw [if_neg c2] at H
        have c2b0 : decide (x8_1 < (l0.length : Int)) = false := decide_eq_false c2
        clear c2
        obtain rfl := Option.some.inj H
        go_wp2
        go_ret
        exact ⟨by first | rfl | (simp [errW_none, errW_some] <;> rfl) | (simp [*, errW_none, errW_some] <;> rfl), by repeat (first | (with_reducible first | exact HB.out | apply below_alloc | apply pw_below_drewN | apply below_drew1) | exact HB.out)⟩
def hist_Hist_Merge.l0 : Nat → List (S68) → Int → Int → (List Int) → Option (Int × (List Int))
  | 0, _, _, _, _ => none
  | k + 1, x14, x15, x16, x1000 => if x16 < x15 then (if 0 ≤ x16 then (if x16 < (x14.length : Int) then ((haddAt x1000 ((rd_T68 x14 x16).f0) ((rd_T68 x14 x16).f1)).bind fun t130 => (hist_Hist_Merge.l0 k x14 x15 (wrap64 (x16 + 1)) t130)) else (none)) else (none)) else (some (0, x1000))
def hist_Hist_Merge.f (k : Nat) (s0_0 : (List Int)) (l1 : List (S68)) : Option (Int × (List Int)) := (hist_Check.f k l1).bind fun t127 => (if t127 = true then (hist_Hist_Merge.l0 k l1 (l1.length : Int) 0 s0_0) else (some (5, s0_0)))
theorem hist_Hist_Merge.mono_l : ∀ k, (∀ y0 y1 y2 y3, LeO (hist_Hist_Merge.l0 k y0 y1 y2 y3) (hist_Hist_Merge.l0 (k + 1) y0 y1 y2 y3))
  | 0 => fun _ _ _ _ r h => by simp [hist_Hist_Merge.l0] at h
  | k + 1 => by
    have ih0 := hist_Hist_Merge.mono_l k
    · intro y0 y1 y2 y3
      unfold hist_Hist_Merge.l0
      repeat' first
      | (with_reducible exact ih0 _ _ _ _)
      | (with_reducible exact hist_Check.mono _ _)
      | (with_reducible exact LeO.refl _)
      | (with_reducible exact LeO.none _)
      | (with_reducible refine LeO.ite ?_ ?_)
      | (with_reducible refine LeO.bind ?_ (fun _ => ?_))
      | exact ih0 _ _ _ _
      | exact hist_Check.mono _ _
      | exact LeO.none _
      | refine LeO.ite ?_ ?_
      | refine LeO.bind ?_ (fun _ => ?_)
theorem hist_Hist_Merge.mono : ∀ a0 a1 k, LeO (hist_Hist_Merge.f k a0 a1) (hist_Hist_Merge.f (k + 1) a0 a1) := by
  intro a0 a1 k
  have ih0 := hist_Hist_Merge.mono_l k
  unfold hist_Hist_Merge.f
  repeat' first
      | (with_reducible exact ih0 _ _ _ _)
      | (with_reducible exact hist_Check.mono _ _)
      | (with_reducible exact LeO.refl _)
      | (with_reducible exact LeO.none _)
      | (with_reducible refine LeO.ite ?_ ?_)
      | (with_reducible refine LeO.bind ?_ (fun _ => ?_))
      | exact ih0 _ _ _ _
      | exact hist_Check.mono _ _
      | exact LeO.none _
      | refine LeO.ite ?_ ?_
      | refine LeO.bind ?_ (fun _ => ?_)
set_option maxHeartbeats 8000000 in
set_option maxRecDepth 100000 in
theorem hist_Hist_Merge.calls (k : Nat) (g : Nat) (s0_0 : (List Int)) (A1 : Option Addr) (c1 : Nat) (l1 : List (S68)) (r1 : Int) (r2 : (List Int)) (w0 w : World) (hI : IsS118 w0 w g s0_0) (hB : Below w0.heap.size w0 w) (hr1 : ∀ W_, KeepBut w W_ g none → Kd.C k68 W_ A1 l1.length l1) (hc1 : l1.length ≤ c1) (h : hist_Hist_Merge.f k s0_0 l1 = some (r1, r2)) :
    Calls Try.prog 86 #[.pointer (some ⟨g, 0, none⟩), .slice A1 l1.length c1] w fun e w' => e = .returned (.int .i64 r1) ∧ IsS118 w0 w' g r2 ∧ Below w0.heap.size w0 w' ∧ KeepBut w w' g none := by
  have hu68 := Try.underlying68
  have HR1 := Aside0.mk hr1
  have HC1 := Aside0.mk hc1
  clear hr1 hc1
  have HI0 := Aside0.mk hI
  have HK := Aside0.mk (KeepBut.refl w g none)
  have HL := Aside0.mk hB.size
  clear hI
  have HW0 := Aside0.mk hB.size
  have HB := Aside0.mk hB
  clear hB
  have H : ((hist_Check.f k l1).bind fun t127 => (if t127 = true then (hist_Hist_Merge.l0 k l1 (l1.length : Int) 0 s0_0) else (some (5, s0_0)))) = some (r1, r2) := h
  clear h
  replace H := Option.bind_eq_some_iff.mp H
  obtain ⟨t127, A30, H⟩ := H
  replace H : (if t127 = true then (hist_Hist_Merge.l0 k l1 (l1.length : Int) 0 s0_0) else (some (5, s0_0))) = some (r1, r2) := H
  have A3 := Aside0.mk A30
  clear A30
  by_cases c4 : t127 = true
  · subst c4
    have H1 : (hist_Hist_Merge.l0 k l1 (l1.length : Int) 0 s0_0) = some (r1, r2) := by rw [if_pos rfl] at H; exact H
    clear H
    have H := H1
    clear H1
    have H' := Aside0.mk H
    clear H
    go_enter Try.func86, Try.ntmps86
    go_wp2_with (first | (go_at_call 52; (with_reducible refine (hist_Check.calls k _ _ l1 true _ ?side1 ?side2 A3.out).mono ?_); (case side1 => exact Kd.C_foot_now HR1.out (by repeat (first | (with_reducible first | exact HK.out | apply KeepBut.set_ | apply keep_drewN | apply keep_drew | apply keep_alloc) | exact HK.out))); (case side2 => exact HC1.out); rintro e w5 ⟨rfl, hb⟩; have n0_ := Aside0.mk (IsS118.below (by repeat (first | (with_reducible first | exact HI0.out | apply IsS118.alloc | apply IsS118.drewN | apply IsS118.drew) | exact HI0.out)) hb); have n1_ := Aside0.mk (KeepBut.trans (by repeat (first | (with_reducible first | exact HK.out | apply KeepBut.set_ | apply keep_drewN | apply keep_drew | apply keep_alloc) | exact HK.out)) (KeepBut.of_below hb g none) (.inl rfl)); have n2_ := Aside0.mk (below_step (by repeat (first | (with_reducible first | exact HB.out | apply below_alloc | apply pw_below_drewN | apply below_drew1 | refine below_set ?_ (IsS118.ge HI0.out)) | exact HB.out)) hb); clear HI0; clear HK; clear HB; have HI0 := n0_; have HK := n1_; have HB := n2_; clear n0_ n1_ n2_; (try clear hb); (try clear hb2); (try clear hk); (try clear hi)))
    go_loopg [16] k (fun kq v16 w' => ∃ (x16_1 : Int) (x1000_1 : (List Int)), v16 = .int .i64 x16_1 ∧ Aside0 (hist_Hist_Merge.l0 kq l1 (l1.length : Int) x16_1 x1000_1 = some (r1, r2)) ∧ Aside0 (kq ≤ k) ∧ Aside0 (IsS118 w0 w' g x1000_1) ∧ Aside0 (KeepBut w w' g none) ∧ Aside0 (Below w0.heap.size w0 w'))
    case atStart => exact ⟨(0), (s0_0), (by first | rfl | (simp; done) | (simp [*]; done)), H', ⟨Nat.le_refl _⟩, ⟨by repeat (first | (with_reducible first | exact HI0.out | apply IsS118.alloc | apply IsS118.drewN | apply IsS118.drew) | exact HI0.out)⟩, ⟨by repeat (first | (with_reducible first | exact HK.out | apply KeepBut.set_ | apply keep_drewN | apply keep_drew | apply keep_alloc) | exact HK.out)⟩, ⟨by repeat (first | (with_reducible first | exact HB.out | apply below_alloc | apply pw_below_drewN | apply below_drew1 | refine below_set ?_ (IsS118.ge HI0.out)) | exact HB.out)⟩⟩
    case round =>
      clear H'
      try clear c1
      try clear p2
      try clear c4
      obtain ⟨x16_1, x1000_1, rfl, HA, HK1, HI0, HK, HB⟩ := hrel
      cases gk with
      | zero => exact absurd HA.out (by simp [hist_Hist_Merge.l0])
      | succ k1 =>
        have H := HA.out
        clear HA
        simp only [hist_Hist_Merge.l0] at H
        by_cases c6 : x16_1 < (l1.length : Int)
        · rw [if_pos c6] at H
          have c6b0 : decide (x16_1 < (l1.length : Int)) = true := decide_eq_true c6
          clear c6
          by_cases c7 : 0 ≤ x16_1
          · rw [if_pos c7] at H
            have c7b0 : decide (0 ≤ x16_1) = true := decide_eq_true c7
            clear c7
            by_cases c8 : x16_1 < (l1.length : Int)
            · rw [if_pos c8] at H
              have c8b0 : decide (x16_1 < (l1.length : Int)) = true := decide_eq_true c8
              clear c8
              replace H := Option.bind_eq_some_iff.mp H
              obtain ⟨t130, A90, H⟩ := H
              replace H : (hist_Hist_Merge.l0 k1 l1 (l1.length : Int) (wrap64 (x16_1 + 1)) t130) = some (r1, r2) := H
              have A9 := Aside0.mk A90
              clear A90
              have H' := Aside0.mk H
              clear H
              have p128 : 0 ≤ (x16_1 : Int) := of_decide_eq_true (by first | (with_reducible assumption) | assumption)
              have q128 : x16_1 < (l1.length : Int) := of_decide_eq_true (by first | (with_reducible assumption) | assumption)
              obtain ⟨ad128, e128, hx128_0, hx128_1⟩ := at_T68 (Kd.C_foot_now HR1.out HK.out) x16_1 p128 q128
              cases e128
              replace p128 := eq_true p128
              replace q128 := eq_true q128
              obtain ⟨hgd, hat0, hat1, hn0, hn1, rfl⟩ := haddAt_some A9.out
              obtain ⟨at_, hat⟩ : ∃ n : Nat, (rd_T68 l1 x16_1).f0 = (n : Int) := ⟨_, (Int.toNat_of_nonneg hat0).symm⟩
              obtain ⟨nn, hnn⟩ : ∃ z : Int, (rd_T68 l1 x16_1).f1 = z := ⟨_, rfl⟩
              rw [hat] at hx128_0 hat1
              rw [hnn] at hx128_1 hn0 hn1
              have HAT := Aside0.mk hat; have HNN := Aside0.mk hnn; have HGD := Aside0.mk hgd
              clear hat hnn hgd hat0
              go_wp2_with (first | ((with_reducible refine gate_dst (N := 6) rfl ?_); refine box_event ?hg (N := 6) ?hd (cs := #[.int .i64 0, .int .u64 0]) (t := 68) ?hr ?_; (case hd => rfl); (case hg => rfl); (case hr => first | (go_simp; done) | (go_simp; rfl)); intro gb129 hg w10 hbox hb; have n0_ := Aside0.mk (IsS118.below (by repeat (first | (with_reducible first | exact HI0.out | apply IsS118.alloc | apply IsS118.drewN | apply IsS118.drew) | exact HI0.out)) hb); have n1_ := Aside0.mk (KeepBut.trans (by repeat (first | (with_reducible first | exact HK.out | apply KeepBut.set_ | apply keep_drewN | apply keep_drew | apply keep_alloc) | exact HK.out)) (KeepBut.of_below hb g none) (.inl rfl)); have n2_ := Aside0.mk (below_step (by repeat (first | (with_reducible first | exact HB.out | apply below_alloc | apply pw_below_drewN | apply below_drew1 | refine below_set ?_ (IsS118.ge HI0.out)) | exact HB.out)) hb); have n3_ := Aside0.mk (hbox); have n4_ := Aside0.mk ((by rw [hg]; exact (keep_size (w := w) (g := g) (row := none) (by repeat (first | (with_reducible first | exact HK.out | apply KeepBut.set_ | apply keep_drewN | apply keep_drew | apply keep_alloc) | exact HK.out))) : w.heap.size ≤ gb129)); have n5_ := Aside0.mk ((Nat.le_trans HW0.out (by rw [hg]; exact (keep_size (w := w) (g := g) (row := none) (by repeat (first | (with_reducible first | exact HK.out | apply KeepBut.set_ | apply keep_drewN | apply keep_drew | apply keep_alloc) | exact HK.out))) : w.heap.size ≤ gb129) : w0.heap.size ≤ gb129)); have n6_ := Aside0.mk ((by rw [hg]; exact Nat.ne_of_lt (IsS118.lt (show IsS118 w0 _ g x1000_1 from by repeat (first | (with_reducible first | exact HI0.out | apply IsS118.alloc | apply IsS118.drewN | apply IsS118.drew) | exact HI0.out))) : g ≠ gb129)); have n7_ := Aside0.mk ((by rw [hg]; exact Nat.ne_of_gt (IsS118.lt (show IsS118 w0 _ g x1000_1 from by repeat (first | (with_reducible first | exact HI0.out | apply IsS118.alloc | apply IsS118.drewN | apply IsS118.drew) | exact HI0.out))) : gb129 ≠ g)); clear HI0; clear HK; clear HB; have HI0 := n0_; have HK := n1_; have HB := n2_; have BK129 := n3_; have GW129 := n4_; have GE129 := n5_; have NB0_129 := n6_; have NB129_0 := n7_; clear n0_ n1_ n2_ n3_ n4_ n5_ n6_ n7_; clear hb hbox hg; have hnb11 := NB129_0.out; have hnc11 := NB0_129.out; have hcz12_0 : w10.cell? ⟨gb129, 0, none⟩ = some (.int .i64 0) := (blk_cell BK129.out 0).trans rfl; have hcz12_1 : w10.cell? ⟨gb129, 1, none⟩ = some (.int .u64 0) := (blk_cell BK129.out 1).trans rfl; have hfz12_0 := blk_frozen BK129.out 0; have hfz12_1 := blk_frozen BK129.out 1))
              refine name_world _ (fun WW HW => ?_)
              have bB : WW.heap[gb129]? = some (.cells #[.int .i64 (at_ : Int), .int .u64 nn] 68 (0, 0)) := by rw [← HW.out]; simpa using blk_set (blk_set BK129.out 0 (.int .i64 (at_ : Int))) 1 (.int .u64 nn)
              have bI : IsS118 w0 WW g x1000_1 := by rw [← HW.out]; exact (HI0.out.far NB0_129.out _).far NB0_129.out _
              have bK : KeepBut w WW g none := by rw [← HW.out]; exact keep_far (keep_far HK.out GW129.out _) GW129.out _
              have bL : Below w0.heap.size w0 WW := by rw [← HW.out]; exact below_set (below_set HB.out GE129.out) GE129.out
              obtain ⟨bI1, bI2⟩ := bI
              have hgg := (hgood_iff _).mp HGD.out
              have hx1 := getD_get (l := x1000_1) (i := at_) (by omega)
              have hxr := hgg.2 _ (List.mem_of_getElem? hx1)
              obtain ⟨xx, hxx⟩ : ∃ xx, x1000_1.getD at_ 0 = xx := ⟨_, rfl⟩
              rw [hxx] at hx1 hxr
              have ca : WW.drew.cell? ⟨gb129, 0, none⟩ = some (.int .i64 (at_ : Int)) := blk_cell bB 0
              have cb : WW.drew.cell? ⟨gb129, 1, none⟩ = some (.int .u64 nn) := blk_cell bB 1
              have cx : WW.drew.cell? ⟨g, at_, none⟩ = some (.int .u64 xx) := (blk_cell bI1 at_).trans (by rw [hcells_get, hx1]; rfl)
              have fx : WW.drew.frozen? ⟨g, at_, none⟩ = false := blk_frozen bI1 at_
              have at2 : ((at_ : Int) < 7424) = True := eq_true hat1
              have CA := fun w => wadd_any xx nn w hxr.1 hxr.2 hn0 hn1
              have nI : IsS118 w0 (WW.drew.setCell ⟨g, at_, none⟩ (.int .u64 (hold (xx + nn)))) g (hadd x1000_1 (rd_T68 l1 x16_1).f0.toNat (rd_T68 l1 x16_1).f1) := by
                have := blk_set (blk_drew bI1) at_ (.int .u64 (hold (xx + nn)))
                rw [hcells_set, ← hxx] at this
                rw [HAT.out, HNN.out, Int.toNat_natCast, ← hxx]
                exact ⟨this, bI2⟩
              have nK : KeepBut w (WW.drew.setCell ⟨g, at_, none⟩ (.int .u64 (hold (xx + nn)))) g none := KeepBut.set_ (keep_drew bK) _ _
              have nL : Below w0.heap.size w0 (WW.drew.setCell ⟨g, at_, none⟩ (.int .u64 (hold (xx + nn)))) := below_set (below_drew1 bL) bI2
              obtain ⟨W2, hW2⟩ : ∃ W2, WW.drew = W2 := ⟨_, rfl⟩
              rw [hW2] at nI nK nL
              clear HI0 HK HB
              have HI0 := Aside0.mk nI; have HK := Aside0.mk nK; have HB := Aside0.mk nL
              clear nI nK nL bB bI1 bI2 bK bL hgg hx1 hxr hxx hat1 hn0 hn1
              refine wp_region_still_tail 16 (by kernel_rfl) (by kernel_rfl) ?_
              simp only [List.take_succ_cons, List.take_zero, List.drop_succ_cons, List.drop_zero]
              change wpStill _ _ WW.drew _ _ _
              rw [hW2] at ca cb cx fx ⊢
              have HW2 := Lib.hid hW2
              clear hW2
              repeat still_step
              still_call ((CA W2).mono fun _ _ ⟨he, hw⟩ => ⟨he, hw.symm⟩)
              repeat still_step
              refine wpStill_nil ?_
              change wpList _ _ _ _ _ WW.drew
              rw [HW2.out]
              clear ca cb CA
              go_wp2
              go_roundg k1
              case measure => have := HK1.out; omega
              case rel => exact ⟨(wrap64 (x16_1 + 1)), _, (by first | rfl | (simp; done) | (simp [*]; done)), H', ⟨by have := HK1.out; omega⟩, ⟨by repeat (first | (with_reducible first | exact HI0.out | apply IsS118.alloc | apply IsS118.drewN | apply IsS118.drew | refine IsS118.far ?_ NB0_129.out _) | exact HI0.out)⟩, ⟨by repeat (first | (with_reducible first | exact HK.out | apply KeepBut.set_ | apply keep_drewN | apply keep_drew | apply keep_alloc | refine keep_far ?_ GW129.out _) | exact HK.out)⟩, ⟨by repeat (first | (with_reducible first | exact HB.out | apply below_alloc | apply pw_below_drewN | apply below_drew1 | refine below_set ?_ (IsS118.ge HI0.out) | refine below_set ?_ GE129.out) | exact HB.out)⟩⟩
            · rw [if_neg c8] at H
              exact absurd H (by simp)
          · rw [if_neg c7] at H
            exact absurd H (by simp)
        · rw [if_neg c6] at H
          have c6b0 : decide (x16_1 < (l1.length : Int)) = false := decide_eq_false c6
          clear c6
          simp only [Option.some.injEq, Prod.mk.injEq] at H
          obtain ⟨rfl, rfl⟩ := H
          go_wp2
          go_ret
          exact ⟨by first | rfl | (simp [errW_none, errW_some] <;> rfl) | (simp [*, errW_none, errW_some] <;> rfl), by repeat (first | (with_reducible first | exact HI0.out | apply IsS118.alloc | apply IsS118.drewN | apply IsS118.drew) | exact HI0.out), by repeat (first | (with_reducible first | exact HB.out | apply below_alloc | apply pw_below_drewN | apply below_drew1 | refine below_set ?_ (IsS118.ge HI0.out)) | exact HB.out), by repeat (first | (with_reducible first | exact HK.out | apply KeepBut.set_ | apply keep_drewN | apply keep_drew | apply keep_alloc) | exact HK.out)⟩
  · replace c4 := Bool.eq_false_iff.mpr c4
    subst c4
    have H1 : (some (5, s0_0)) = some (r1, r2) := by rw [if_neg (show ¬ (false = true) by decide)] at H; exact H
    clear H
    have H := H1
    clear H1
    simp only [Option.some.injEq, Prod.mk.injEq] at H
    obtain ⟨rfl, rfl⟩ := H
    go_enter Try.func86, Try.ntmps86
    go_wp2_with (first | (go_at_call 52; (with_reducible refine (hist_Check.calls k _ _ l1 false _ ?side1 ?side2 A3.out).mono ?_); (case side1 => exact Kd.C_foot_now HR1.out (by repeat (first | (with_reducible first | exact HK.out | apply KeepBut.set_ | apply keep_drewN | apply keep_drew | apply keep_alloc) | exact HK.out))); (case side2 => exact HC1.out); rintro e w14 ⟨rfl, hb⟩; have n0_ := Aside0.mk (IsS118.below (by repeat (first | (with_reducible first | exact HI0.out | apply IsS118.alloc | apply IsS118.drewN | apply IsS118.drew) | exact HI0.out)) hb); have n1_ := Aside0.mk (KeepBut.trans (by repeat (first | (with_reducible first | exact HK.out | apply KeepBut.set_ | apply keep_drewN | apply keep_drew | apply keep_alloc) | exact HK.out)) (KeepBut.of_below hb g none) (.inl rfl)); have n2_ := Aside0.mk (below_step (by repeat (first | (with_reducible first | exact HB.out | apply below_alloc | apply pw_below_drewN | apply below_drew1 | refine below_set ?_ (IsS118.ge HI0.out)) | exact HB.out)) hb); clear HI0; clear HK; clear HB; have HI0 := n0_; have HK := n1_; have HB := n2_; clear n0_ n1_ n2_; (try clear hb); (try clear hb2); (try clear hk); (try clear hi)))
    go_ret
    exact ⟨by first | rfl | (simp [errW_none, errW_some] <;> rfl) | (simp [*, errW_none, errW_some] <;> rfl), by repeat (first | (with_reducible first | exact HI0.out | apply IsS118.alloc | apply IsS118.drewN | apply IsS118.drew) | exact HI0.out), by repeat (first | (with_reducible first | exact HB.out | apply below_alloc | apply pw_below_drewN | apply below_drew1 | refine below_set ?_ (IsS118.ge HI0.out)) | exact HB.out), by repeat (first | (with_reducible first | exact HK.out | apply KeepBut.set_ | apply keep_drewN | apply keep_drew | apply keep_alloc) | exact HK.out)⟩
def varveref07_Check.l0 : Nat → List (S68) → Int → Option (Bool)
  | 0, _, _ => none
  | k + 1, x0, x3 => if x3 < (x0.length : Int) then (if 0 ≤ x3 then (if ((rd_T68 x0 x3).f0) < 0 then (some false) else (if ((rd_T68 x0 x3).f0) ≥ 7424 then (some false) else (if ((rd_T68 x0 x3).f1) = 0 then (some false) else (if x3 > 0 then (if 0 ≤ (wrap64 (x3 - 1)) then (if (wrap64 (x3 - 1)) < (x0.length : Int) then (if ((rd_T68 x0 x3).f0) ≤ ((rd_T68 x0 (wrap64 (x3 - 1))).f0) then (some false) else (varveref07_Check.l0 k x0 (wrap64 (x3 + 1)))) else (none)) else (none)) else (varveref07_Check.l0 k x0 (wrap64 (x3 + 1))))))) else (none)) else (some true)
def varveref07_Check.f (k : Nat) (l0 : List (S68)) : Option (Bool) := varveref07_Check.l0 k l0 0
theorem varveref07_Check.mono_l : ∀ k, (∀ y0 y1, LeO (varveref07_Check.l0 k y0 y1) (varveref07_Check.l0 (k + 1) y0 y1))
  | 0 => fun _ _ r h => by simp [varveref07_Check.l0] at h
  | k + 1 => by
    have ih0 := varveref07_Check.mono_l k
    · intro y0 y1
      unfold varveref07_Check.l0
      repeat' first
      | (with_reducible exact ih0 _ _)
      | (with_reducible exact LeO.refl _)
      | (with_reducible exact LeO.none _)
      | (with_reducible refine LeO.ite ?_ ?_)
      | (with_reducible refine LeO.bind ?_ (fun _ => ?_))
      | exact ih0 _ _
      | exact LeO.none _
      | refine LeO.ite ?_ ?_
      | refine LeO.bind ?_ (fun _ => ?_)
theorem varveref07_Check.mono : ∀ a0 k, LeO (varveref07_Check.f k a0) (varveref07_Check.f (k + 1) a0) := by
  intro a0 k
  have ih0 := varveref07_Check.mono_l k
  unfold varveref07_Check.f
  repeat' first
      | (with_reducible exact ih0 _ _)
      | (with_reducible exact LeO.refl _)
      | (with_reducible exact LeO.none _)
      | (with_reducible refine LeO.ite ?_ ?_)
      | (with_reducible refine LeO.bind ?_ (fun _ => ?_))
      | exact ih0 _ _
      | exact LeO.none _
      | refine LeO.ite ?_ ?_
      | refine LeO.bind ?_ (fun _ => ?_)
set_option maxHeartbeats 8000000 in
set_option maxRecDepth 100000 in
theorem varveref07_Check.calls (k : Nat) (A0 : Option Addr) (c0 : Nat) (l0 : List (S68)) (r : Bool) (w : World) (hr0 : Kd.C k68 w A0 l0.length l0) (hc0 : l0.length ≤ c0) (h : varveref07_Check.f k l0 = some r) :
    Calls Try.prog 23 #[.slice A0 l0.length c0] w fun e w' => e = .returned (.bool r) ∧ Drawn0 w w' := by
  have HR0 := Aside0.mk hr0
  have HC0 := Aside0.mk hc0
  clear hr0 hc0
  have H : (varveref07_Check.l0 k l0 0) = some r := h
  clear h
  have H' := Aside0.mk H
  clear H
  go_enter Try.func23, Try.ntmps23
  go_wp2
  repeat (go_quiet (fail); try go_wp2)
  go_loopg [3] k (fun kq v3 w' => ∃ (x3_1 : Int), v3 = .int .i64 x3_1 ∧ Aside0 (varveref07_Check.l0 kq l0 x3_1 = some r) ∧ Aside0 (kq ≤ k) ∧ Drawn0 w w')
  case atStart => exact ⟨(0), (by first | rfl | (simp; done) | (simp [*]; done)), H', ⟨Nat.le_refl _⟩, by repeat (first | exact Drawn0.refl _ | apply Drawn0.step)⟩
  case round =>
    clear H'
    obtain ⟨x3_1, rfl, HA, HK1, ⟨m1, rfl⟩⟩ := hrel
    cases gk with
    | zero => exact absurd HA.out (by simp [varveref07_Check.l0])
    | succ k1 =>
      have H := HA.out
      clear HA
      simp only [varveref07_Check.l0] at H
      by_cases c2 : x3_1 < (l0.length : Int)
      · rw [if_pos c2] at H
        have c2b0 : decide (x3_1 < (l0.length : Int)) = true := decide_eq_true c2
        clear c2
        by_cases c3 : 0 ≤ x3_1
        · rw [if_pos c3] at H
          have c3b0 : decide (0 ≤ x3_1) = true := decide_eq_true c3
          clear c3
          by_cases c4 : ((rd_T68 l0 x3_1).f0) < 0
          · rw [if_pos c4] at H
            have c4b0 : decide (((rd_T68 l0 x3_1).f0) < 0) = true := decide_eq_true c4
            clear c4
            obtain rfl := Option.some.inj H
            have p131 : 0 ≤ (x3_1 : Int) := of_decide_eq_true (by first | (with_reducible assumption) | assumption)
            have q131 : x3_1 < (l0.length : Int) := of_decide_eq_true (by first | (with_reducible assumption) | assumption)
            obtain ⟨ad131, e131, hx131_0, hx131_1⟩ := at_T68 HR0.out x3_1 p131 q131
            cases e131
            replace p131 := eq_true p131
            replace q131 := eq_true q131
            go_wp2
            repeat (go_quiet (fail); try go_wp2)
            go_ret
            exact ⟨by first | rfl | (simp; done) | (simp [*]; done), by repeat (first | exact Drawn0.refl _ | apply Drawn0.step)⟩
          · rw [if_neg c4] at H
            have c4b0 : decide (((rd_T68 l0 x3_1).f0) < 0) = false := decide_eq_false c4
            clear c4
            by_cases c5 : ((rd_T68 l0 x3_1).f0) ≥ 7424
            · rw [if_pos c5] at H
              have c5b0 : decide (7424 ≤ ((rd_T68 l0 x3_1).f0)) = true := decide_eq_true c5
              clear c5
              obtain rfl := Option.some.inj H
              have p131 : 0 ≤ (x3_1 : Int) := of_decide_eq_true (by first | (with_reducible assumption) | assumption)
              have q131 : x3_1 < (l0.length : Int) := of_decide_eq_true (by first | (with_reducible assumption) | assumption)
              obtain ⟨ad131, e131, hx131_0, hx131_1⟩ := at_T68 HR0.out x3_1 p131 q131
              cases e131
              replace p131 := eq_true p131
              replace q131 := eq_true q131
              have p132 : 0 ≤ (x3_1 : Int) := of_decide_eq_true (by first | (with_reducible assumption) | assumption)
              have q132 : x3_1 < (l0.length : Int) := of_decide_eq_true (by first | (with_reducible assumption) | assumption)
              obtain ⟨ad132, e132, hx132_0, hx132_1⟩ := at_T68 HR0.out x3_1 p132 q132
              obtain rfl : ad131 = ad132 := (by injection e132)
              replace p132 := eq_true p132
              replace q132 := eq_true q132
              go_wp2
              repeat (go_quiet (fail); try go_wp2)
              go_ret
              exact ⟨by first | rfl | (simp; done) | (simp [*]; done), by repeat (first | exact Drawn0.refl _ | apply Drawn0.step)⟩
            · rw [if_neg c5] at H
              have c5b0 : decide (7424 ≤ ((rd_T68 l0 x3_1).f0)) = false := decide_eq_false c5
              clear c5
              by_cases c6 : ((rd_T68 l0 x3_1).f1) = 0
              · rw [if_pos c6] at H
                have c6b0 : (((rd_T68 l0 x3_1).f1) == 0) = true := beq_iff_eq.mpr c6
                have c6b1 : (((rd_T68 l0 x3_1).f1) != 0) = false := bne_eq_false_iff_eq.mpr c6
                clear c6
                obtain rfl := Option.some.inj H
                have p131 : 0 ≤ (x3_1 : Int) := of_decide_eq_true (by first | (with_reducible assumption) | assumption)
                have q131 : x3_1 < (l0.length : Int) := of_decide_eq_true (by first | (with_reducible assumption) | assumption)
                obtain ⟨ad131, e131, hx131_0, hx131_1⟩ := at_T68 HR0.out x3_1 p131 q131
                cases e131
                replace p131 := eq_true p131
                replace q131 := eq_true q131
                have p132 : 0 ≤ (x3_1 : Int) := of_decide_eq_true (by first | (with_reducible assumption) | assumption)
                have q132 : x3_1 < (l0.length : Int) := of_decide_eq_true (by first | (with_reducible assumption) | assumption)
                obtain ⟨ad132, e132, hx132_0, hx132_1⟩ := at_T68 HR0.out x3_1 p132 q132
                obtain rfl : ad131 = ad132 := (by injection e132)
                replace p132 := eq_true p132
                replace q132 := eq_true q132
                have p133 : 0 ≤ (x3_1 : Int) := of_decide_eq_true (by first | (with_reducible assumption) | assumption)
                have q133 : x3_1 < (l0.length : Int) := of_decide_eq_true (by first | (with_reducible assumption) | assumption)
                obtain ⟨ad133, e133, hx133_0, hx133_1⟩ := at_T68 HR0.out x3_1 p133 q133
                obtain rfl : ad131 = ad133 := (by injection e133)
                replace p133 := eq_true p133
                replace q133 := eq_true q133
                go_wp2
                repeat (go_quiet (fail); try go_wp2)
                go_ret
                exact ⟨by first | rfl | (simp; done) | (simp [*]; done), by repeat (first | exact Drawn0.refl _ | apply Drawn0.step)⟩
              · rw [if_neg c6] at H
                have c6b0 : (((rd_T68 l0 x3_1).f1) == 0) = false := beq_eq_false_iff_ne.mpr c6
                have c6b1 : (((rd_T68 l0 x3_1).f1) != 0) = true := bne_iff_ne.mpr c6
                by_cases c7 : x3_1 > 0
                · rw [if_pos c7] at H
                  have c7b0 : decide (0 < x3_1) = true := decide_eq_true c7
                  clear c7
                  obtain ⟨ji8, hji8⟩ : ∃ j_ : Int, (wrap64 (x3_1 - 1)) = j_ := ⟨_, rfl⟩
                  replace H : (if 0 ≤ (ji8) then (if (ji8) < (l0.length : Int) then (if ((rd_T68 l0 x3_1).f0) ≤ ((rd_T68 l0 (ji8)).f0) then (some false) else (varveref07_Check.l0 k1 l0 (wrap64 (x3_1 + 1)))) else (none)) else (none)) = some r := by first | (rw [hji8] at H; exact H) | (simp only [hji8] at H ⊢; exact H)
                  have hji8w : (IntKind.i64.wrap (x3_1 - 1)) = ji8 := (i64_w _).trans hji8
                  by_cases c9 : 0 ≤ (ji8)
                  · rw [if_pos c9] at H
                    have c9b0 : decide (0 ≤ (ji8)) = true := decide_eq_true c9
                    clear c9
                    by_cases c10 : (ji8) < (l0.length : Int)
                    · rw [if_pos c10] at H
                      have c10b0 : decide ((ji8) < (l0.length : Int)) = true := decide_eq_true c10
                      clear c10
                      by_cases c11 : ((rd_T68 l0 x3_1).f0) ≤ ((rd_T68 l0 (ji8)).f0)
                      · rw [if_pos c11] at H
                        have c11b0 : decide (((rd_T68 l0 x3_1).f0) ≤ ((rd_T68 l0 (ji8)).f0)) = true := decide_eq_true c11
                        clear c11
                        obtain rfl := Option.some.inj H
                        have p131 : 0 ≤ (x3_1 : Int) := of_decide_eq_true (by first | (with_reducible assumption) | assumption)
                        have q131 : x3_1 < (l0.length : Int) := of_decide_eq_true (by first | (with_reducible assumption) | assumption)
                        obtain ⟨ad131, e131, hx131_0, hx131_1⟩ := at_T68 HR0.out x3_1 p131 q131
                        cases e131
                        replace p131 := eq_true p131
                        replace q131 := eq_true q131
                        have p132 : 0 ≤ (x3_1 : Int) := of_decide_eq_true (by first | (with_reducible assumption) | assumption)
                        have q132 : x3_1 < (l0.length : Int) := of_decide_eq_true (by first | (with_reducible assumption) | assumption)
                        obtain ⟨ad132, e132, hx132_0, hx132_1⟩ := at_T68 HR0.out x3_1 p132 q132
                        obtain rfl : ad131 = ad132 := (by injection e132)
                        replace p132 := eq_true p132
                        replace q132 := eq_true q132
                        have p133 : 0 ≤ (x3_1 : Int) := of_decide_eq_true (by first | (with_reducible assumption) | assumption)
                        have q133 : x3_1 < (l0.length : Int) := of_decide_eq_true (by first | (with_reducible assumption) | assumption)
                        obtain ⟨ad133, e133, hx133_0, hx133_1⟩ := at_T68 HR0.out x3_1 p133 q133
                        obtain rfl : ad131 = ad133 := (by injection e133)
                        replace p133 := eq_true p133
                        replace q133 := eq_true q133
                        have p134 : 0 ≤ (x3_1 : Int) := of_decide_eq_true (by first | (with_reducible assumption) | assumption)
                        have q134 : x3_1 < (l0.length : Int) := of_decide_eq_true (by first | (with_reducible assumption) | assumption)
                        obtain ⟨ad134, e134, hx134_0, hx134_1⟩ := at_T68 HR0.out x3_1 p134 q134
                        obtain rfl : ad131 = ad134 := (by injection e134)
                        replace p134 := eq_true p134
                        replace q134 := eq_true q134
                        have p135 : 0 ≤ ((ji8) : Int) := of_decide_eq_true (by first | (with_reducible assumption) | assumption)
                        have q135 : (ji8) < (l0.length : Int) := of_decide_eq_true (by first | (with_reducible assumption) | assumption)
                        obtain ⟨ad135, e135, hx135_0, hx135_1⟩ := at_T68 HR0.out (ji8) p135 q135
                        obtain rfl : ad131 = ad135 := (by injection e135)
                        replace p135 := eq_true p135
                        replace q135 := eq_true q135
                        go_wp2
                        repeat (go_quiet (fail); try go_wp2)
                        go_ret
                        exact ⟨by first | rfl | (simp; done) | (simp only [← hji8] <;> (first | rfl | simp)) | (simp [*]; done), by repeat (first | exact Drawn0.refl _ | apply Drawn0.step)⟩
                      · rw [if_neg c11] at H
                        have c11b0 : decide (((rd_T68 l0 x3_1).f0) ≤ ((rd_T68 l0 (ji8)).f0)) = false := decide_eq_false c11
                        clear c11
                        have H' := Aside0.mk H
                        clear H
                        have p131 : 0 ≤ (x3_1 : Int) := of_decide_eq_true (by first | (with_reducible assumption) | assumption)
                        have q131 : x3_1 < (l0.length : Int) := of_decide_eq_true (by first | (with_reducible assumption) | assumption)
                        obtain ⟨ad131, e131, hx131_0, hx131_1⟩ := at_T68 HR0.out x3_1 p131 q131
                        cases e131
                        replace p131 := eq_true p131
                        replace q131 := eq_true q131
                        have p132 : 0 ≤ (x3_1 : Int) := of_decide_eq_true (by first | (with_reducible assumption) | assumption)
                        have q132 : x3_1 < (l0.length : Int) := of_decide_eq_true (by first | (with_reducible assumption) | assumption)
                        obtain ⟨ad132, e132, hx132_0, hx132_1⟩ := at_T68 HR0.out x3_1 p132 q132
                        obtain rfl : ad131 = ad132 := (by injection e132)
                        replace p132 := eq_true p132
                        replace q132 := eq_true q132
                        have p133 : 0 ≤ (x3_1 : Int) := of_decide_eq_true (by first | (with_reducible assumption) | assumption)
                        have q133 : x3_1 < (l0.length : Int) := of_decide_eq_true (by first | (with_reducible assumption) | assumption)
                        obtain ⟨ad133, e133, hx133_0, hx133_1⟩ := at_T68 HR0.out x3_1 p133 q133
                        obtain rfl : ad131 = ad133 := (by injection e133)
                        replace p133 := eq_true p133
                        replace q133 := eq_true q133
                        have p134 : 0 ≤ (x3_1 : Int) := of_decide_eq_true (by first | (with_reducible assumption) | assumption)
                        have q134 : x3_1 < (l0.length : Int) := of_decide_eq_true (by first | (with_reducible assumption) | assumption)
                        obtain ⟨ad134, e134, hx134_0, hx134_1⟩ := at_T68 HR0.out x3_1 p134 q134
                        obtain rfl : ad131 = ad134 := (by injection e134)
                        replace p134 := eq_true p134
                        replace q134 := eq_true q134
                        have p135 : 0 ≤ ((ji8) : Int) := of_decide_eq_true (by first | (with_reducible assumption) | assumption)
                        have q135 : (ji8) < (l0.length : Int) := of_decide_eq_true (by first | (with_reducible assumption) | assumption)
                        obtain ⟨ad135, e135, hx135_0, hx135_1⟩ := at_T68 HR0.out (ji8) p135 q135
                        obtain rfl : ad131 = ad135 := (by injection e135)
                        replace p135 := eq_true p135
                        replace q135 := eq_true q135
                        go_wp2
                        repeat (go_quiet (fail); try go_wp2)
                        go_roundg k1
                        case measure => have := HK1.out; omega
                        case rel => exact ⟨(wrap64 (x3_1 + 1)), (by first | rfl | (simp; done) | (simp [*]; done)), H', ⟨by have := HK1.out; omega⟩, by repeat (first | exact Drawn0.refl _ | apply Drawn0.step)⟩
                    · rw [if_neg c10] at H
                      exact absurd H (by simp)
                  · rw [if_neg c9] at H
                    exact absurd H (by simp)
                · rw [if_neg c7] at H
                  have c7b0 : decide (0 < x3_1) = false := decide_eq_false c7
                  clear c7
                  have H' := Aside0.mk H
                  clear H
                  have p131 : 0 ≤ (x3_1 : Int) := of_decide_eq_true (by first | (with_reducible assumption) | assumption)
                  have q131 : x3_1 < (l0.length : Int) := of_decide_eq_true (by first | (with_reducible assumption) | assumption)
                  obtain ⟨ad131, e131, hx131_0, hx131_1⟩ := at_T68 HR0.out x3_1 p131 q131
                  cases e131
                  replace p131 := eq_true p131
                  replace q131 := eq_true q131
                  have p132 : 0 ≤ (x3_1 : Int) := of_decide_eq_true (by first | (with_reducible assumption) | assumption)
                  have q132 : x3_1 < (l0.length : Int) := of_decide_eq_true (by first | (with_reducible assumption) | assumption)
                  obtain ⟨ad132, e132, hx132_0, hx132_1⟩ := at_T68 HR0.out x3_1 p132 q132
                  obtain rfl : ad131 = ad132 := (by injection e132)
                  replace p132 := eq_true p132
                  replace q132 := eq_true q132
                  have p133 : 0 ≤ (x3_1 : Int) := of_decide_eq_true (by first | (with_reducible assumption) | assumption)
                  have q133 : x3_1 < (l0.length : Int) := of_decide_eq_true (by first | (with_reducible assumption) | assumption)
                  obtain ⟨ad133, e133, hx133_0, hx133_1⟩ := at_T68 HR0.out x3_1 p133 q133
                  obtain rfl : ad131 = ad133 := (by injection e133)
                  replace p133 := eq_true p133
                  replace q133 := eq_true q133
                  go_wp2
                  repeat (go_quiet (fail); try go_wp2)
                  go_roundg k1
                  case measure => have := HK1.out; omega
                  case rel => exact ⟨(wrap64 (x3_1 + 1)), (by first | rfl | (simp; done) | (simp [*]; done)), H', ⟨by have := HK1.out; omega⟩, by repeat (first | exact Drawn0.refl _ | apply Drawn0.step)⟩
        · rw [if_neg c3] at H
          exact absurd H (by simp)
      · rw [if_neg c2] at H
        have c2b0 : decide (x3_1 < (l0.length : Int)) = false := decide_eq_false c2
        clear c2
        obtain rfl := Option.some.inj H
        go_wp2
        repeat (go_quiet (fail); try go_wp2)
        go_ret
        exact ⟨by first | rfl | (simp; done) | (simp [*]; done), by repeat (first | exact Drawn0.refl _ | apply Drawn0.step)⟩
def varveref07_Bucket.l0 : Nat → Int → Int → Option (Int)
  | 0, _, _ => none
  | k + 1, x0, x3 => if x0 ≥ 256 then (varveref07_Bucket.l0 k (x0 / 2) (wrap64 (x3 + 1))) else (some (wrap64 ((wrap64 (128 * x3)) + (wrap64 (x0)))))
def varveref07_Bucket.f (k : Nat) (a0 : Int) : Option (Int) := varveref07_Bucket.l0 k a0 0
theorem varveref07_Bucket.mono_l : ∀ k, (∀ y0 y1, LeO (varveref07_Bucket.l0 k y0 y1) (varveref07_Bucket.l0 (k + 1) y0 y1))
  | 0 => fun _ _ r h => by simp [varveref07_Bucket.l0] at h
  | k + 1 => by
    have ih0 := varveref07_Bucket.mono_l k
    · intro y0 y1
      unfold varveref07_Bucket.l0
      repeat' first
      | (with_reducible exact ih0 _ _)
      | (with_reducible exact LeO.refl _)
      | (with_reducible exact LeO.none _)
      | (with_reducible refine LeO.ite ?_ ?_)
      | (with_reducible refine LeO.bind ?_ (fun _ => ?_))
      | exact ih0 _ _
      | exact LeO.none _
      | refine LeO.ite ?_ ?_
      | refine LeO.bind ?_ (fun _ => ?_)
theorem varveref07_Bucket.mono : ∀ a0 k, LeO (varveref07_Bucket.f k a0) (varveref07_Bucket.f (k + 1) a0) := by
  intro a0 k
  have ih0 := varveref07_Bucket.mono_l k
  unfold varveref07_Bucket.f
  repeat' first
      | (with_reducible exact ih0 _ _)
      | (with_reducible exact LeO.refl _)
      | (with_reducible exact LeO.none _)
      | (with_reducible refine LeO.ite ?_ ?_)
      | (with_reducible refine LeO.bind ?_ (fun _ => ?_))
      | exact ih0 _ _
      | exact LeO.none _
      | refine LeO.ite ?_ ?_
      | refine LeO.bind ?_ (fun _ => ?_)
set_option maxHeartbeats 8000000 in
set_option maxRecDepth 100000 in
theorem varveref07_Bucket.calls (k : Nat) (a0 : Int) (r : Int) (w : World) (h : varveref07_Bucket.f k a0 = some r) :
    Calls Try.prog 71 #[.int .u64 a0] w fun e w' => e = .returned (.int .i64 r) ∧ Drawn0 w w' := by
  have H : (varveref07_Bucket.l0 k a0 0) = some r := h
  clear h
  have H' := Aside0.mk H
  clear H
  go_enter Try.func71, Try.ntmps71
  go_wp2
  go_loopg [0, 3] k (fun kq v0 v3 w' => ∃ (x0_1 : Int) (x3_1 : Int), v0 = .int .u64 x0_1 ∧ v3 = .int .i64 x3_1 ∧ Aside0 (varveref07_Bucket.l0 kq x0_1 x3_1 = some r) ∧ Aside0 (kq ≤ k) ∧ Drawn0 w w')
  case atStart => exact ⟨(a0), (0), (by first | rfl | (simp; done) | (simp [*]; done)), (by first | rfl | (simp; done) | (simp [*]; done)), H', ⟨Nat.le_refl _⟩, by repeat (first | exact Drawn0.refl _ | apply Drawn0.step)⟩
  case round =>
    clear H'
    obtain ⟨x0_1, x3_1, rfl, rfl, HA, HK1, ⟨m1, rfl⟩⟩ := hrel
    cases gk with
    | zero => exact absurd HA.out (by simp [varveref07_Bucket.l0])
    | succ k1 =>
      have H := HA.out
      clear HA
      simp only [varveref07_Bucket.l0] at H
      by_cases c2 : x0_1 ≥ 256
      · rw [if_pos c2] at H
        have c2b0 : decide (256 ≤ x0_1) = true := decide_eq_true c2
        clear c2
        have H' := Aside0.mk H
        clear H
        go_wp2
        go_roundg k1
        case measure => have := HK1.out; omega
        case rel => exact ⟨(x0_1 / 2), (wrap64 (x3_1 + 1)), (by first | rfl | (simp; done) | (simp [*]; done)), (by first | rfl | (simp; done) | (simp [*]; done)), H', ⟨by have := HK1.out; omega⟩, by repeat (first | exact Drawn0.refl _ | apply Drawn0.step)⟩
      · rw [if_neg c2] at H
        have c2b0 : decide (256 ≤ x0_1) = false := decide_eq_false c2
        clear c2
        obtain rfl := Option.some.inj H
        go_wp2
        go_ret
        exact ⟨by first | rfl | (simp; done) | (simp [*]; done), by repeat (first | exact Drawn0.refl _ | apply Drawn0.step)⟩
def varveref01_Add.f (a0 : Int) (a1 : Int) : Option (Int) := if (0 ≤ a0 ∧ a0 < 18446744073709551616) ∧ (0 ≤ a1 ∧ a1 < 18446744073709551616) then some (hold (a0 + a1)) else none
theorem varveref01_Add.calls (a0 : Int) (a1 : Int) (r : Int) (w : World) (h : varveref01_Add.f a0 a1 = some r) :
    Calls Try.prog 105 #[.int .u64 a0, .int .u64 a1] w fun e w' => e = .returned (.int .u64 r) ∧ Drawn0 w w' := by
  unfold varveref01_Add.f at h
  split at h
  case isTrue hr => exact Q.varveref01_Add.calls a0 a1 r w (by rw [Pure.refAdd_eq hr.1 hr.2]; exact h)
  case isFalse => cases h
end Go.Proofs.Ytncgjbocgbnkcaa.Hi
namespace Go.Proofs.Ytncgjbocgbnkcaa.Hi
open Go.RowKit Go.Proofs.YtncgjbocgbnkcaaW.PrintWords Go.Proofs.YtncgjbocgbnkcaaW.PrintLast Go.Proofs.YtncgjbocgbnkcaaW.PrintMore
attribute [local go_sem] max2_int min2_int max_two min_two max_three min_three max_four min_four   -- for this text's walks alone
set_option linter.unusedVariables false
set_option linter.unusedSimpArgs false
mutual
def varveref07_Add.l0 : Nat → List (S68) → Int → Int → List (S68) → Bool → Int → Option ((List (S68)))
  | 0, _, _, _, _, _, _ => none
  | k + 1, x0, x1, x2, x7, x8, x9 => if x9 < (x0.length : Int) then (if x8 = true then (varveref07_Add.j1 k x0 x1 x2 x7 x8 x9 false) else (if 0 ≤ x9 then (varveref07_Add.j1 k x0 x1 x2 x7 x8 x9 (((rd_T68 x0 x9).f0) == x1)) else (none))) else (if x8 = true then (some x7) else (if x7.length < 8796093022208 then (some (x7 ++ [(⟨x1, x2⟩ : S68)])) else (none)))
def varveref07_Add.j1 : Nat → List (S68) → Int → Int → List (S68) → Bool → Int → Bool → Option ((List (S68)))
  | 0, _, _, _, _, _, _, _ => none
  | k + 1, x0, x1, x2, x7, x8, x9, x28 => if x28 = true then (if 0 ≤ x9 then (if x9 < (x0.length : Int) then ((varveref01_Add.f ((rd_T68 x0 x9).f1) x2).bind fun t141 => (if x7.length < 8796093022208 then (varveref07_Add.l0 k x0 x1 x2 (x7 ++ [(⟨x1, t141⟩ : S68)]) true (wrap64 (x9 + 1))) else (none))) else (none)) else (none)) else (if x8 = true then (if 0 ≤ x9 then (if x9 < (x0.length : Int) then (if x7.length < 8796093022208 then (varveref07_Add.l0 k x0 x1 x2 (x7 ++ [(⟨(rd_T68 x0 x9).f0, (rd_T68 x0 x9).f1⟩ : S68)]) x8 (wrap64 (x9 + 1))) else (none)) else (none)) else (none)) else (if 0 ≤ x9 then (if x9 < (x0.length : Int) then (if ((rd_T68 x0 x9).f0) > x1 then (if x7.length < 8796093022208 then ((some (x7 ++ [(⟨x1, x2⟩ : S68)] : List (S68))).bind fun y150 => (if y150.length < 8796093022208 then (varveref07_Add.l0 k x0 x1 x2 (y150 ++ [(⟨(rd_T68 x0 x9).f0, (rd_T68 x0 x9).f1⟩ : S68)]) true (wrap64 (x9 + 1))) else (none))) else (none)) else (if x7.length < 8796093022208 then (varveref07_Add.l0 k x0 x1 x2 (x7 ++ [(⟨(rd_T68 x0 x9).f0, (rd_T68 x0 x9).f1⟩ : S68)]) x8 (wrap64 (x9 + 1))) else (none))) else (none)) else (none)))
end
def varveref07_Add.f (k : Nat) (l0 : List (S68)) (a1 : Int) (a2 : Int) : Option ((List (S68))) := varveref07_Add.l0 k l0 a1 a2 ([] : List (S68)) (a2 == 0) 0
set_option maxHeartbeats 8000000 in
set_option maxRecDepth 100000 in
theorem varveref07_Add.calls (k : Nat) (A0 : Option Addr) (c0 : Nat) (l0 : List (S68)) (a1 : Int) (a2 : Int) (r : List (S68)) (w : World) (hr0 : Kd.C k68 w A0 l0.length l0) (hc0 : l0.length ≤ c0) (h : varveref07_Add.f k l0 a1 a2 = some r) :
    Calls Try.prog 70 #[.slice A0 l0.length c0, .int .i64 a1, .int .u64 a2] w fun e w' => ∃ v0_ : Value, e = .returned (v0_) ∧ Kd.R k68 68 w' w.heap.size (fun _ => True) v0_ r ∧ Below w.heap.size w w' := by
  have hu68 := Try.underlying68
  have HR0 := Aside0.mk hr0
  have HC0 := Aside0.mk hc0
  clear hr0 hc0
  have HB := Aside0.mk (Below.refl w.heap.size w)
  have H : (varveref07_Add.l0 k l0 a1 a2 ([] : List (S68)) (a2 == 0) 0) = some r := h
  clear h
  have H' := Aside0.mk H
  clear H
  go_enter Try.func70, Try.ntmps70
  go_wp2
  go_loopg [7, 8, 9] k (fun kq v7 v8 v9 w' => ∃ (x7_1 : List (S68)) (x8_1 : Bool) (x9_1 : Int), v8 = .bool x8_1 ∧ v9 = .int .i64 x9_1 ∧ Aside0 (varveref07_Add.l0 kq l0 a1 a2 x7_1 x8_1 x9_1 = some r) ∧ Aside0 (kq ≤ k) ∧ Aside0 (Kd.R k68 68 w' w.heap.size (fun _ => True) v7 x7_1) ∧ Aside0 (Below w.heap.size w w'))
  case atStart => exact ⟨(([] : List (S68))), ((a2 == 0)), (0), (by first | rfl | (simp; done) | (simp [*]; done)), (by first | rfl | (simp; done) | (simp [*]; done)), H', ⟨Nat.le_refl _⟩, ⟨by first | exact Kd.R_nil _ _ _ _ _ | exact Kd.N_nil _ _ _ _ _ | exact Kd.V_nil _ _ _ _ _ | exact Kd.Q_nil _ _ _ _ _ | exact Kd.S_nil _ _ _ _ _⟩, ⟨by repeat (first | (with_reducible first | exact HB.out | apply below_alloc | apply pw_below_drewN | apply below_drew1) | exact HB.out)⟩⟩
  case round =>
    clear H'
    try clear p2
    obtain ⟨x7_1, x8_1, x9_1, rfl, rfl, HA, HK1, HO_7, HB⟩ := hrel
    cases gk with
    | zero => exact absurd HA.out (by simp [varveref07_Add.l0])
    | succ k1 =>
      have H := HA.out
      clear HA
      simp only [varveref07_Add.l0] at H
      by_cases c4 : x9_1 < (l0.length : Int)
      · rw [if_pos c4] at H
        have c4b0 : decide (x9_1 < (l0.length : Int)) = true := decide_eq_true c4
        clear c4
        have HC5 := Aside0.mk H
        clear H
        go_upto_region 6 with (fail)
        go_cut [28] (fun v28 wc => ∃ (kq : Nat) (x28_4 : Bool), v28 = .bool x28_4 ∧ Aside0 (varveref07_Add.j1 kq l0 a1 a2 x7_1 x8_1 x9_1 x28_4 = some r) ∧ Aside0 (kq ≤ k1) ∧ Aside0 (Kd.R k68 68 wc w.heap.size (fun _ => True) u7 x7_1) ∧ Aside0 (Below w.heap.size w wc))
        case first =>
          have H := HC5.out
          clear HC5
          by_cases c6 : x8_1 = true
          · subst c6
            have H1 : (varveref07_Add.j1 k1 l0 a1 a2 x7_1 true x9_1 false) = some r := by rw [if_pos rfl] at H; exact H
            clear H
            have H := H1
            clear H1
            have H' := Aside0.mk H
            clear H
            go_wp2
            go_meet
            case rel => exact ⟨_, (false), (by first | rfl | (simp; done) | (simp [*]; done)), H', ⟨by have := HK1.out; first | omega | exact Nat.le_refl _⟩, ⟨by (with_reducible repeat (first | apply Kd.R_alloc | apply Kd.R_drewN | apply Kd.R_drew)); exact HO_7.out⟩, ⟨by repeat (first | (with_reducible first | exact HB.out | apply below_alloc | apply pw_below_drewN | apply below_drew1) | exact HB.out)⟩⟩
          · replace c6 := Bool.eq_false_iff.mpr c6
            subst c6
            have H1 : (if 0 ≤ x9_1 then (varveref07_Add.j1 k1 l0 a1 a2 x7_1 false x9_1 (((rd_T68 l0 x9_1).f0) == a1)) else (none)) = some r := by rw [if_neg (show ¬ (false = true) by decide)] at H; exact H
            clear H
            have H := H1
            clear H1
            by_cases c7 : 0 ≤ x9_1
            · rw [if_pos c7] at H
              have c7b0 : decide (0 ≤ x9_1) = true := decide_eq_true c7
              clear c7
              (first | rw [c7b0] | (simp only [i64_w, i32_w]; rw [c7b0]) | skip)
              have H' := Aside0.mk H
              clear H
              have p139 : 0 ≤ (x9_1 : Int) := of_decide_eq_true (by first | (with_reducible assumption) | assumption)
              have q139 : x9_1 < (l0.length : Int) := of_decide_eq_true (by first | (with_reducible assumption) | assumption)
              obtain ⟨ad139, e139, hx139_0, hx139_1⟩ := at_T68 HR0.out x9_1 p139 q139
              cases e139
              replace hx139_0 := (HB.out.cell (World.block_lt_of_cell? w _ hx139_0)).trans hx139_0
              replace hx139_1 := (HB.out.cell (World.block_lt_of_cell? w _ hx139_1)).trans hx139_1
              replace p139 := eq_true p139
              replace q139 := eq_true q139
              go_wp2
              go_meet
              case rel => exact ⟨_, ((((rd_T68 l0 x9_1).f0) == a1)), (by first | rfl | (simp; done) | (simp [*]; done)), H', ⟨by have := HK1.out; first | omega | exact Nat.le_refl _⟩, ⟨by (with_reducible repeat (first | apply Kd.R_alloc | apply Kd.R_drewN | apply Kd.R_drew)); exact HO_7.out⟩, ⟨by repeat (first | (with_reducible first | exact HB.out | apply below_alloc | apply pw_below_drewN | apply below_drew1) | exact HB.out)⟩⟩
            · rw [if_neg c7] at H
              exact absurd H (by simp)
        case rest =>
          clear HC5
          try clear p1
          try clear q1
          try clear hx1
          try clear p2
          try clear c4
          try clear c4b0
          try clear c6
          try clear c7
          try clear c7b0
          try clear hx139_0
          try clear hx139_1
          try clear p139
          try clear p2
          try clear q139
          obtain ⟨kq, x28_4, rfl, HA, HJ4, HO_7, HB⟩ := hcut
          cases kq with
          | zero => exact absurd HA.out (by simp [varveref07_Add.j1])
          | succ kj4 =>
            have H := HA.out
            clear HA
            simp only [varveref07_Add.j1] at H
            by_cases c8 : x28_4 = true
            · subst c8
              have H1 : (if 0 ≤ x9_1 then (if x9_1 < (l0.length : Int) then ((varveref01_Add.f ((rd_T68 l0 x9_1).f1) a2).bind fun t141 => (if x7_1.length < 8796093022208 then (varveref07_Add.l0 kj4 l0 a1 a2 (x7_1 ++ [(⟨a1, t141⟩ : S68)]) true (wrap64 (x9_1 + 1))) else (none))) else (none)) else (none)) = some r := by rw [if_pos rfl] at H; exact H
              clear H
              have H := H1
              clear H1
              by_cases c9 : 0 ≤ x9_1
              · rw [if_pos c9] at H
                have c9b0 : decide (0 ≤ x9_1) = true := decide_eq_true c9
                clear c9
                by_cases c10 : x9_1 < (l0.length : Int)
                · rw [if_pos c10] at H
                  have c10b0 : decide (x9_1 < (l0.length : Int)) = true := decide_eq_true c10
                  clear c10
                  replace H := Option.bind_eq_some_iff.mp H
                  obtain ⟨t141, A110, H⟩ := H
                  replace H : (if x7_1.length < 8796093022208 then (varveref07_Add.l0 kj4 l0 a1 a2 (x7_1 ++ [(⟨a1, t141⟩ : S68)]) true (wrap64 (x9_1 + 1))) else (none)) = some r := H
                  have A11 := Aside0.mk A110
                  clear A110
                  by_cases c12 : x7_1.length < 8796093022208
                  · rw [if_pos c12] at H
                    have LMc12 := Aside0.mk c12
                    clear c12
                    obtain ⟨y142, hy142⟩ : ∃ y_ : List (S68), y_ = (x7_1 ++ [(⟨a1, t141⟩ : S68)]) := ⟨_, rfl⟩
                    replace H : (varveref07_Add.l0 kj4 l0 a1 a2 y142 true (wrap64 (x9_1 + 1))) = some r := by first | (rw [hy142]; with_reducible exact H) | (have H2_ := (Option.bind_some _ _).symm.trans H; rw [hy142]; with_reducible exact H2_) | (have H2_ := (Option.bind_some _ _).symm.trans H; with_reducible exact H2_) | with_reducible exact H | (rw [hy142]; exact H) | exact H
                    have Ny142 := Aside0.mk hy142
                    clear hy142
                    have H' := Aside0.mk H
                    clear H
                    have p140 : 0 ≤ (x9_1 : Int) := of_decide_eq_true (by first | (with_reducible assumption) | assumption)
                    have q140 : x9_1 < (l0.length : Int) := of_decide_eq_true (by first | (with_reducible assumption) | assumption)
                    obtain ⟨ad140, e140, hx140_0, hx140_1⟩ := at_T68 HR0.out x9_1 p140 q140
                    cases e140
                    replace hx140_0 := (HB.out.cell (World.block_lt_of_cell? w _ hx140_0)).trans hx140_0
                    replace hx140_1 := (HB.out.cell (World.block_lt_of_cell? w _ hx140_1)).trans hx140_1
                    replace p140 := eq_true p140
                    replace q140 := eq_true q140
                    go_wp2_with (first | ((with_reducible refine gate_callee (f := 105) rfl ?_); refine goesL_ (some 37) rfl rfl Try.func105 (by kernel_rfl) rfl #[.int .u64 ((rd_T68 l0 x9_1).f1), .int .u64 a2] rfl (by (try simp only [List.map_toArray, List.map_cons, List.map_nil]); first | done | rfl | (simp only [List.length_drop, List.length_take]; rfl)) ?_; (with_reducible refine (varveref01_Add.calls ((rd_T68 l0 x9_1).f1) a2 t141 _ A11.out).mono ?_); rintro e w' ⟨rfl, ⟨nd, rfl⟩⟩; refine ⟨_, rfl, ?_⟩) | ((with_reducible refine gate_builtin (b := .append) (xs := #[.tmp 29, .tmp 39]) rfl ?_); at_builtin; refine Kd.R_append k68 (w0 := w) w.heap.size rfl (.tmp 29) (.tmp 39) 23 68 (.agg #[(.int .i64 0), (.int .u64 0)]) 16 rfl Try.underlying23 info68 rfl (by decide) (by omega) u7 x7_1 (⟨a1, t141⟩ : S68) [.int .i64 a1, .int .u64 t141] (fun _ => True) (fun _ => False) rfl rfl ?aP (fun _ hk => hk.elim) ?aF ?aO ?aB ?aS ?aL ?_; (case aP => exact k68_mkM _ _ _ (⟨a1, t141⟩ : S68)); (case aB => exact (by repeat (first | (with_reducible first | exact HB.out | apply below_alloc | apply pw_below_drewN | apply below_drew1) | exact HB.out))); (case aF => exact (fun _ _ => trivial)); (case aO => exact (by (with_reducible repeat (first | apply Kd.R_alloc | apply Kd.R_drewN | apply Kd.R_drew)); exact HO_7.out)); (case aS => exact (below_size (by repeat (first | (with_reducible first | exact HB.out | apply below_alloc | apply pw_below_drewN | apply below_drew1) | exact HB.out)))); (case aL => have := LMc12.out; omega); intro v143 w13 ho hb hg hat; rw [← Ny142.out] at ho; have n0_ := Aside0.mk (hb); have n1_ := Aside0.mk (ho); clear HB; clear HO_7; have HB := n0_; have HO144 := n1_; clear n0_ n1_; clear ho hb hg hat))
                    go_roundg kj4
                    case measure => have := HK1.out; have := HJ4.out; omega
                    case rel => exact ⟨(y142), (true), (wrap64 (x9_1 + 1)), (by first | rfl | (simp; done) | (simp [*]; done)), (by first | rfl | (simp; done) | (simp [*]; done)), H', ⟨by have := HK1.out; have := HJ4.out; omega⟩, ⟨by (with_reducible repeat (first | apply Kd.R_alloc | apply Kd.R_drewN | apply Kd.R_drew)); exact HO144.out⟩, ⟨by repeat (first | (with_reducible first | exact HB.out | apply below_alloc | apply pw_below_drewN | apply below_drew1) | exact HB.out)⟩⟩
                  · rw [if_neg c12] at H
                    exact absurd H (by simp)
                · rw [if_neg c10] at H
                  exact absurd H (by simp)
              · rw [if_neg c9] at H
                exact absurd H (by simp)
            · replace c8 := Bool.eq_false_iff.mpr c8
              subst c8
              have H1 : (if x8_1 = true then (if 0 ≤ x9_1 then (if x9_1 < (l0.length : Int) then (if x7_1.length < 8796093022208 then (varveref07_Add.l0 kj4 l0 a1 a2 (x7_1 ++ [(⟨(rd_T68 l0 x9_1).f0, (rd_T68 l0 x9_1).f1⟩ : S68)]) x8_1 (wrap64 (x9_1 + 1))) else (none)) else (none)) else (none)) else (if 0 ≤ x9_1 then (if x9_1 < (l0.length : Int) then (if ((rd_T68 l0 x9_1).f0) > a1 then (if x7_1.length < 8796093022208 then ((some (x7_1 ++ [(⟨a1, a2⟩ : S68)] : List (S68))).bind fun y150 => (if y150.length < 8796093022208 then (varveref07_Add.l0 kj4 l0 a1 a2 (y150 ++ [(⟨(rd_T68 l0 x9_1).f0, (rd_T68 l0 x9_1).f1⟩ : S68)]) true (wrap64 (x9_1 + 1))) else (none))) else (none)) else (if x7_1.length < 8796093022208 then (varveref07_Add.l0 kj4 l0 a1 a2 (x7_1 ++ [(⟨(rd_T68 l0 x9_1).f0, (rd_T68 l0 x9_1).f1⟩ : S68)]) x8_1 (wrap64 (x9_1 + 1))) else (none))) else (none)) else (none))) = some r := by rw [if_neg (show ¬ (false = true) by decide)] at H; exact H
              clear H
              have H := H1
              clear H1
              by_cases c14 : x8_1 = true
              · subst c14
                have H1 : (if 0 ≤ x9_1 then (if x9_1 < (l0.length : Int) then (if x7_1.length < 8796093022208 then (varveref07_Add.l0 kj4 l0 a1 a2 (x7_1 ++ [(⟨(rd_T68 l0 x9_1).f0, (rd_T68 l0 x9_1).f1⟩ : S68)]) true (wrap64 (x9_1 + 1))) else (none)) else (none)) else (none)) = some r := by rw [if_pos rfl] at H; exact H
                clear H
                have H := H1
                clear H1
                by_cases c15 : 0 ≤ x9_1
                · rw [if_pos c15] at H
                  have c15b0 : decide (0 ≤ x9_1) = true := decide_eq_true c15
                  clear c15
                  by_cases c16 : x9_1 < (l0.length : Int)
                  · rw [if_pos c16] at H
                    have c16b0 : decide (x9_1 < (l0.length : Int)) = true := decide_eq_true c16
                    clear c16
                    by_cases c17 : x7_1.length < 8796093022208
                    · rw [if_pos c17] at H
                      have LMc17 := Aside0.mk c17
                      clear c17
                      obtain ⟨y146, hy146⟩ : ∃ y_ : List (S68), y_ = (x7_1 ++ [(⟨(rd_T68 l0 x9_1).f0, (rd_T68 l0 x9_1).f1⟩ : S68)]) := ⟨_, rfl⟩
                      replace H : (varveref07_Add.l0 kj4 l0 a1 a2 y146 true (wrap64 (x9_1 + 1))) = some r := by first | (rw [hy146]; with_reducible exact H) | (have H2_ := (Option.bind_some _ _).symm.trans H; rw [hy146]; with_reducible exact H2_) | (have H2_ := (Option.bind_some _ _).symm.trans H; with_reducible exact H2_) | with_reducible exact H | (rw [hy146]; exact H) | exact H
                      have Ny146 := Aside0.mk hy146
                      clear hy146
                      have H' := Aside0.mk H
                      clear H
                      have p145 : 0 ≤ (x9_1 : Int) := of_decide_eq_true (by first | (with_reducible assumption) | assumption)
                      have q145 : x9_1 < (l0.length : Int) := of_decide_eq_true (by first | (with_reducible assumption) | assumption)
                      obtain ⟨ad145, e145, hx145_0, hx145_1⟩ := at_T68 HR0.out x9_1 p145 q145
                      cases e145
                      replace hx145_0 := (HB.out.cell (World.block_lt_of_cell? w _ hx145_0)).trans hx145_0
                      replace hx145_1 := (HB.out.cell (World.block_lt_of_cell? w _ hx145_1)).trans hx145_1
                      replace p145 := eq_true p145
                      replace q145 := eq_true q145
                      go_wp2_with (first | ((with_reducible refine gate_builtin (b := .append) (xs := #[.tmp 58, .tmp 63]) rfl ?_); at_builtin; refine Kd.R_append k68 (w0 := w) w.heap.size rfl (.tmp 58) (.tmp 63) 23 68 (.agg #[(.int .i64 0), (.int .u64 0)]) 16 rfl Try.underlying23 info68 rfl (by decide) (by omega) u7 x7_1 (⟨(rd_T68 l0 x9_1).f0, (rd_T68 l0 x9_1).f1⟩ : S68) [.int .i64 ((rd_T68 l0 x9_1).f0), .int .u64 ((rd_T68 l0 x9_1).f1)] (fun _ => True) (fun _ => False) rfl rfl ?aP (fun _ hk => hk.elim) ?aF ?aO ?aB ?aS ?aL ?_; (case aP => exact k68_mkM _ _ _ (⟨(rd_T68 l0 x9_1).f0, (rd_T68 l0 x9_1).f1⟩ : S68)); (case aB => exact (by repeat (first | (with_reducible first | exact HB.out | apply below_alloc | apply pw_below_drewN | apply below_drew1) | exact HB.out))); (case aF => exact (fun _ _ => trivial)); (case aO => exact (by (with_reducible repeat (first | apply Kd.R_alloc | apply Kd.R_drewN | apply Kd.R_drew)); exact HO_7.out)); (case aS => exact (below_size (by repeat (first | (with_reducible first | exact HB.out | apply below_alloc | apply pw_below_drewN | apply below_drew1) | exact HB.out)))); (case aL => have := LMc17.out; omega); intro v147 w18 ho hb hg hat; rw [← Ny146.out] at ho; have n0_ := Aside0.mk (hb); have n1_ := Aside0.mk (ho); clear HB; clear HO_7; have HB := n0_; have HO148 := n1_; clear n0_ n1_; clear ho hb hg hat))
                      go_roundg kj4
                      case measure => have := HK1.out; have := HJ4.out; omega
                      case rel => exact ⟨(y146), (true), (wrap64 (x9_1 + 1)), (by first | rfl | (simp; done) | (simp [*]; done)), (by first | rfl | (simp; done) | (simp [*]; done)), H', ⟨by have := HK1.out; have := HJ4.out; omega⟩, ⟨by (with_reducible repeat (first | apply Kd.R_alloc | apply Kd.R_drewN | apply Kd.R_drew)); exact HO148.out⟩, ⟨by repeat (first | (with_reducible first | exact HB.out | apply below_alloc | apply pw_below_drewN | apply below_drew1) | exact HB.out)⟩⟩
                    · rw [if_neg c17] at H
                      exact absurd H (by simp)
                  · rw [if_neg c16] at H
                    exact absurd H (by simp)
                · rw [if_neg c15] at H
                  exact absurd H (by simp)
              · replace c14 := Bool.eq_false_iff.mpr c14
                subst c14
                have H1 : (if 0 ≤ x9_1 then (if x9_1 < (l0.length : Int) then (if ((rd_T68 l0 x9_1).f0) > a1 then (if x7_1.length < 8796093022208 then ((some (x7_1 ++ [(⟨a1, a2⟩ : S68)] : List (S68))).bind fun y150 => (if y150.length < 8796093022208 then (varveref07_Add.l0 kj4 l0 a1 a2 (y150 ++ [(⟨(rd_T68 l0 x9_1).f0, (rd_T68 l0 x9_1).f1⟩ : S68)]) true (wrap64 (x9_1 + 1))) else (none))) else (none)) else (if x7_1.length < 8796093022208 then (varveref07_Add.l0 kj4 l0 a1 a2 (x7_1 ++ [(⟨(rd_T68 l0 x9_1).f0, (rd_T68 l0 x9_1).f1⟩ : S68)]) false (wrap64 (x9_1 + 1))) else (none))) else (none)) else (none)) = some r := by rw [if_neg (show ¬ (false = true) by decide)] at H; exact H
                clear H
                have H := H1
                clear H1
                by_cases c19 : 0 ≤ x9_1
                · rw [if_pos c19] at H
                  have c19b0 : decide (0 ≤ x9_1) = true := decide_eq_true c19
                  clear c19
                  by_cases c20 : x9_1 < (l0.length : Int)
                  · rw [if_pos c20] at H
                    have c20b0 : decide (x9_1 < (l0.length : Int)) = true := decide_eq_true c20
                    clear c20
                    by_cases c21 : ((rd_T68 l0 x9_1).f0) > a1
                    · rw [if_pos c21] at H
                      have c21b0 : decide (a1 < ((rd_T68 l0 x9_1).f0)) = true := decide_eq_true c21
                      clear c21
                      by_cases c22 : x7_1.length < 8796093022208
                      · rw [if_pos c22] at H
                        have LMc22 := Aside0.mk c22
                        clear c22
                        obtain ⟨y150, hy150⟩ : ∃ y_ : List (S68), y_ = (x7_1 ++ [(⟨a1, a2⟩ : S68)]) := ⟨_, rfl⟩
                        replace H : (if y150.length < 8796093022208 then (varveref07_Add.l0 kj4 l0 a1 a2 (y150 ++ [(⟨(rd_T68 l0 x9_1).f0, (rd_T68 l0 x9_1).f1⟩ : S68)]) true (wrap64 (x9_1 + 1))) else (none)) = some r := by first | (rw [hy150]; with_reducible exact H) | (have H2_ := (Option.bind_some _ _).symm.trans H; rw [hy150]; with_reducible exact H2_) | (have H2_ := (Option.bind_some _ _).symm.trans H; with_reducible exact H2_) | with_reducible exact H | (rw [hy150]; exact H) | exact H
                        have Ny150 := Aside0.mk hy150
                        clear hy150
                        by_cases c23 : y150.length < 8796093022208
                        · rw [if_pos c23] at H
                          have LMc23 := Aside0.mk c23
                          clear c23
                          obtain ⟨y154, hy154⟩ : ∃ y_ : List (S68), y_ = (y150 ++ [(⟨(rd_T68 l0 x9_1).f0, (rd_T68 l0 x9_1).f1⟩ : S68)]) := ⟨_, rfl⟩
                          replace H : (varveref07_Add.l0 kj4 l0 a1 a2 y154 true (wrap64 (x9_1 + 1))) = some r := by first | (rw [hy154]; with_reducible exact H) | (have H2_ := (Option.bind_some _ _).symm.trans H; rw [hy154]; with_reducible exact H2_) | (have H2_ := (Option.bind_some _ _).symm.trans H; with_reducible exact H2_) | with_reducible exact H | (rw [hy154]; exact H) | exact H
                          have Ny154 := Aside0.mk hy154
                          clear hy154
                          have H' := Aside0.mk H
                          clear H
                          have p149 : 0 ≤ (x9_1 : Int) := of_decide_eq_true (by first | (with_reducible assumption) | assumption)
                          have q149 : x9_1 < (l0.length : Int) := of_decide_eq_true (by first | (with_reducible assumption) | assumption)
                          obtain ⟨ad149, e149, hx149_0, hx149_1⟩ := at_T68 HR0.out x9_1 p149 q149
                          cases e149
                          replace hx149_0 := (HB.out.cell (World.block_lt_of_cell? w _ hx149_0)).trans hx149_0
                          replace hx149_1 := (HB.out.cell (World.block_lt_of_cell? w _ hx149_1)).trans hx149_1
                          replace p149 := eq_true p149
                          replace q149 := eq_true q149
                          go_wp2_with (first | ((with_reducible refine gate_builtin (b := .append) (xs := #[.tmp 52, .tmp 56]) rfl ?_); at_builtin; refine Kd.R_append k68 (w0 := w) w.heap.size rfl (.tmp 52) (.tmp 56) 23 68 (.agg #[(.int .i64 0), (.int .u64 0)]) 16 rfl Try.underlying23 info68 rfl (by decide) (by omega) u7 x7_1 (⟨a1, a2⟩ : S68) [.int .i64 a1, .int .u64 a2] (fun _ => True) (fun _ => False) rfl rfl ?aP (fun _ hk => hk.elim) ?aF ?aO ?aB ?aS ?aL ?_; (case aP => exact k68_mkM _ _ _ (⟨a1, a2⟩ : S68)); (case aB => exact (by repeat (first | (with_reducible first | exact HB.out | apply below_alloc | apply pw_below_drewN | apply below_drew1) | exact HB.out))); (case aF => exact (fun _ _ => trivial)); (case aO => exact (by (with_reducible repeat (first | apply Kd.R_alloc | apply Kd.R_drewN | apply Kd.R_drew)); exact HO_7.out)); (case aS => exact (below_size (by repeat (first | (with_reducible first | exact HB.out | apply below_alloc | apply pw_below_drewN | apply below_drew1) | exact HB.out)))); (case aL => have := LMc22.out; omega); intro v151 w24 ho hb hg hat; rw [← Ny150.out] at ho; have n0_ := Aside0.mk (hb); have n1_ := Aside0.mk (ho); clear HB; clear HO_7; have HB := n0_; have HO152 := n1_; clear n0_ n1_; clear ho hb hg hat; have p153 : 0 ≤ (x9_1 : Int) := of_decide_eq_true (by first | (with_reducible assumption) | assumption); have q153 : x9_1 < (l0.length : Int) := of_decide_eq_true (by first | (with_reducible assumption) | assumption); obtain ⟨ad153, e153, hx153_0, hx153_1⟩ := at_T68 HR0.out x9_1 p153 q153; obtain rfl : ad149 = ad153 := (by injection e153); replace hx153_0 := (HB.out.cell (World.block_lt_of_cell? w _ hx153_0)).trans hx153_0; replace hx153_1 := (HB.out.cell (World.block_lt_of_cell? w _ hx153_1)).trans hx153_1; replace p153 := eq_true p153; replace q153 := eq_true q153) | ((with_reducible refine gate_builtin (b := .append) (xs := #[.tmp 58, .tmp 63]) rfl ?_); at_builtin; refine Kd.R_append k68 (w0 := w) w.heap.size rfl (.tmp 58) (.tmp 63) 23 68 (.agg #[(.int .i64 0), (.int .u64 0)]) 16 rfl Try.underlying23 info68 rfl (by decide) (by omega) v151 y150 (⟨(rd_T68 l0 x9_1).f0, (rd_T68 l0 x9_1).f1⟩ : S68) [.int .i64 ((rd_T68 l0 x9_1).f0), .int .u64 ((rd_T68 l0 x9_1).f1)] (fun _ => True) (fun _ => False) rfl rfl ?aP (fun _ hk => hk.elim) ?aF ?aO ?aB ?aS ?aL ?_; (case aP => exact k68_mkM _ _ _ (⟨(rd_T68 l0 x9_1).f0, (rd_T68 l0 x9_1).f1⟩ : S68)); (case aB => exact (by repeat (first | (with_reducible first | exact HB.out | apply below_alloc | apply pw_below_drewN | apply below_drew1) | exact HB.out))); (case aF => exact (fun _ _ => trivial)); (case aO => exact (by (with_reducible repeat (first | apply Kd.R_alloc | apply Kd.R_drewN | apply Kd.R_drew)); exact HO152.out)); (case aS => exact (below_size (by repeat (first | (with_reducible first | exact HB.out | apply below_alloc | apply pw_below_drewN | apply below_drew1) | exact HB.out)))); (case aL => have := LMc23.out; omega); intro v155 w25 ho hb hg hat; rw [← Ny154.out] at ho; have n0_ := Aside0.mk (hb); have n1_ := Aside0.mk (ho); clear HB; clear HO152; have HB := n0_; have HO156 := n1_; clear n0_ n1_; clear ho hb hg hat))
                          go_roundg kj4
                          case measure => have := HK1.out; have := HJ4.out; omega
                          case rel => exact ⟨(y154), (true), (wrap64 (x9_1 + 1)), (by first | rfl | (simp; done) | (simp [*]; done)), (by first | rfl | (simp; done) | (simp [*]; done)), H', ⟨by have := HK1.out; have := HJ4.out; omega⟩, ⟨by (with_reducible repeat (first | apply Kd.R_alloc | apply Kd.R_drewN | apply Kd.R_drew)); exact HO156.out⟩, ⟨by repeat (first | (with_reducible first | exact HB.out | apply below_alloc | apply pw_below_drewN | apply below_drew1) | exact HB.out)⟩⟩
                        · rw [if_neg c23] at H
                          exact absurd H (by simp)
                      · rw [if_neg c22] at H
                        exact absurd H (by simp)
                    · rw [if_neg c21] at H
                      have c21b0 : decide (a1 < ((rd_T68 l0 x9_1).f0)) = false := decide_eq_false c21
                      clear c21
                      by_cases c26 : x7_1.length < 8796093022208
                      · rw [if_pos c26] at H
                        have LMc26 := Aside0.mk c26
                        clear c26
                        obtain ⟨y158, hy158⟩ : ∃ y_ : List (S68), y_ = (x7_1 ++ [(⟨(rd_T68 l0 x9_1).f0, (rd_T68 l0 x9_1).f1⟩ : S68)]) := ⟨_, rfl⟩
                        replace H : (varveref07_Add.l0 kj4 l0 a1 a2 y158 false (wrap64 (x9_1 + 1))) = some r := by first | (rw [hy158]; with_reducible exact H) | (have H2_ := (Option.bind_some _ _).symm.trans H; rw [hy158]; with_reducible exact H2_) | (have H2_ := (Option.bind_some _ _).symm.trans H; with_reducible exact H2_) | with_reducible exact H | (rw [hy158]; exact H) | exact H
                        have Ny158 := Aside0.mk hy158
                        clear hy158
                        have H' := Aside0.mk H
                        clear H
                        have p149 : 0 ≤ (x9_1 : Int) := of_decide_eq_true (by first | (with_reducible assumption) | assumption)
                        have q149 : x9_1 < (l0.length : Int) := of_decide_eq_true (by first | (with_reducible assumption) | assumption)
                        obtain ⟨ad149, e149, hx149_0, hx149_1⟩ := at_T68 HR0.out x9_1 p149 q149
                        cases e149
                        replace hx149_0 := (HB.out.cell (World.block_lt_of_cell? w _ hx149_0)).trans hx149_0
                        replace hx149_1 := (HB.out.cell (World.block_lt_of_cell? w _ hx149_1)).trans hx149_1
                        replace p149 := eq_true p149
                        replace q149 := eq_true q149
                        have p157 : 0 ≤ (x9_1 : Int) := of_decide_eq_true (by first | (with_reducible assumption) | assumption)
                        have q157 : x9_1 < (l0.length : Int) := of_decide_eq_true (by first | (with_reducible assumption) | assumption)
                        obtain ⟨ad157, e157, hx157_0, hx157_1⟩ := at_T68 HR0.out x9_1 p157 q157
                        obtain rfl : ad149 = ad157 := (by injection e157)
                        replace hx157_0 := (HB.out.cell (World.block_lt_of_cell? w _ hx157_0)).trans hx157_0
                        replace hx157_1 := (HB.out.cell (World.block_lt_of_cell? w _ hx157_1)).trans hx157_1
                        replace p157 := eq_true p157
                        replace q157 := eq_true q157
                        go_wp2_with (first | ((with_reducible refine gate_builtin (b := .append) (xs := #[.tmp 58, .tmp 63]) rfl ?_); at_builtin; refine Kd.R_append k68 (w0 := w) w.heap.size rfl (.tmp 58) (.tmp 63) 23 68 (.agg #[(.int .i64 0), (.int .u64 0)]) 16 rfl Try.underlying23 info68 rfl (by decide) (by omega) u7 x7_1 (⟨(rd_T68 l0 x9_1).f0, (rd_T68 l0 x9_1).f1⟩ : S68) [.int .i64 ((rd_T68 l0 x9_1).f0), .int .u64 ((rd_T68 l0 x9_1).f1)] (fun _ => True) (fun _ => False) rfl rfl ?aP (fun _ hk => hk.elim) ?aF ?aO ?aB ?aS ?aL ?_; (case aP => exact k68_mkM _ _ _ (⟨(rd_T68 l0 x9_1).f0, (rd_T68 l0 x9_1).f1⟩ : S68)); (case aB => exact (by repeat (first | (with_reducible first | exact HB.out | apply below_alloc | apply pw_below_drewN | apply below_drew1) | exact HB.out))); (case aF => exact (fun _ _ => trivial)); (case aO => exact (by (with_reducible repeat (first | apply Kd.R_alloc | apply Kd.R_drewN | apply Kd.R_drew)); exact HO_7.out)); (case aS => exact (below_size (by repeat (first | (with_reducible first | exact HB.out | apply below_alloc | apply pw_below_drewN | apply below_drew1) | exact HB.out)))); (case aL => have := LMc26.out; omega); intro v159 w27 ho hb hg hat; rw [← Ny158.out] at ho; have n0_ := Aside0.mk (hb); have n1_ := Aside0.mk (ho); clear HB; clear HO_7; have HB := n0_; have HO160 := n1_; clear n0_ n1_; clear ho hb hg hat))
                        go_roundg kj4
                        case measure => have := HK1.out; have := HJ4.out; omega
                        case rel => exact ⟨(y158), (false), (wrap64 (x9_1 + 1)), (by first | rfl | (simp; done) | (simp [*]; done)), (by first | rfl | (simp; done) | (simp [*]; done)), H', ⟨by have := HK1.out; have := HJ4.out; omega⟩, ⟨by (with_reducible repeat (first | apply Kd.R_alloc | apply Kd.R_drewN | apply Kd.R_drew)); exact HO160.out⟩, ⟨by repeat (first | (with_reducible first | exact HB.out | apply below_alloc | apply pw_below_drewN | apply below_drew1) | exact HB.out)⟩⟩
                      · rw [if_neg c26] at H
                        exact absurd H (by simp)
                  · rw [if_neg c20] at H
                    exact absurd H (by simp)
                · rw [if_neg c19] at H
                  exact absurd H (by simp)
      · rw [if_neg c4] at H
        have c4b0 : decide (x9_1 < (l0.length : Int)) = false := decide_eq_false c4
        clear c4
        by_cases c28 : x8_1 = true
        · subst c28
          have H1 : (some x7_1) = some r := by rw [if_pos rfl] at H; exact H
          clear H
          have H := H1
          clear H1
          obtain rfl := Option.some.inj H
          go_wp2
          go_ret
          exact ⟨_, by first | rfl | (simp [errW_none, errW_some] <;> rfl) | (simp [*, errW_none, errW_some] <;> rfl), by (with_reducible repeat (first | apply Kd.R_alloc | apply Kd.R_drewN | apply Kd.R_drew)); exact HO_7.out, by repeat (first | (with_reducible first | exact HB.out | apply below_alloc | apply pw_below_drewN | apply below_drew1) | exact HB.out)⟩
        · replace c28 := Bool.eq_false_iff.mpr c28
          subst c28
          have H1 : (if x7_1.length < 8796093022208 then (some (x7_1 ++ [(⟨a1, a2⟩ : S68)])) else (none)) = some r := by rw [if_neg (show ¬ (false = true) by decide)] at H; exact H
          clear H
          have H := H1
          clear H1
          by_cases c29 : x7_1.length < 8796093022208
          · rw [if_pos c29] at H
            have LMc29 := Aside0.mk c29
            clear c29
            obtain ⟨y136, hy136⟩ : ∃ y_ : List (S68), y_ = (x7_1 ++ [(⟨a1, a2⟩ : S68)]) := ⟨_, rfl⟩
            replace H : (some y136) = some r := by first | (rw [hy136]; with_reducible exact H) | (have H2_ := (Option.bind_some _ _).symm.trans H; rw [hy136]; with_reducible exact H2_) | (have H2_ := (Option.bind_some _ _).symm.trans H; with_reducible exact H2_) | with_reducible exact H | (rw [hy136]; exact H) | exact H
            have Ny136 := Aside0.mk hy136
            clear hy136
            obtain rfl := Option.some.inj H
            go_wp2_with (first | ((with_reducible refine gate_builtin (b := .append) (xs := #[.tmp 67, .tmp 71]) rfl ?_); at_builtin; refine Kd.R_append k68 (w0 := w) w.heap.size rfl (.tmp 67) (.tmp 71) 23 68 (.agg #[(.int .i64 0), (.int .u64 0)]) 16 rfl Try.underlying23 info68 rfl (by decide) (by omega) u7 x7_1 (⟨a1, a2⟩ : S68) [.int .i64 a1, .int .u64 a2] (fun _ => True) (fun _ => False) rfl rfl ?aP (fun _ hk => hk.elim) ?aF ?aO ?aB ?aS ?aL ?_; (case aP => exact k68_mkM _ _ _ (⟨a1, a2⟩ : S68)); (case aB => exact (by repeat (first | (with_reducible first | exact HB.out | apply below_alloc | apply pw_below_drewN | apply below_drew1) | exact HB.out))); (case aF => exact (fun _ _ => trivial)); (case aO => exact (by (with_reducible repeat (first | apply Kd.R_alloc | apply Kd.R_drewN | apply Kd.R_drew)); exact HO_7.out)); (case aS => exact (below_size (by repeat (first | (with_reducible first | exact HB.out | apply below_alloc | apply pw_below_drewN | apply below_drew1) | exact HB.out)))); (case aL => have := LMc29.out; omega); intro v137 w30 ho hb hg hat; rw [← Ny136.out] at ho; have n0_ := Aside0.mk (hb); have n1_ := Aside0.mk (ho); clear HB; clear HO_7; have HB := n0_; have HO138 := n1_; clear n0_ n1_; clear ho hb hg hat))
            go_ret
            exact ⟨_, by first | rfl | (simp [errW_none, errW_some] <;> rfl) | (simp [*, errW_none, errW_some] <;> rfl), by (with_reducible repeat (first | apply Kd.R_alloc | apply Kd.R_drewN | apply Kd.R_drew)); exact HO138.out, by repeat (first | (with_reducible first | exact HB.out | apply below_alloc | apply pw_below_drewN | apply below_drew1) | exact HB.out)⟩
          · rw [if_neg c29] at H
            exact absurd H (by simp)
end Go.Proofs.Ytncgjbocgbnkcaa.Hi
namespace Go.Proofs.Ytncgjbocgbnkcaa.Hi
open Go.RowKit Go.Proofs.YtncgjbocgbnkcaaW.PrintWords Go.Proofs.YtncgjbocgbnkcaaW.PrintLast Go.Proofs.YtncgjbocgbnkcaaW.PrintMore
attribute [local go_sem] max2_int min2_int max_two min_two max_three min_three max_four min_four   -- for this text's walks alone
set_option linter.unusedVariables false
set_option linter.unusedSimpArgs false
mutual
def varveref07_Merge.l0 : Nat → List (S68) → List (S68) → List (S68) → Int → Int → Option ((List (S68)))
  | 0, _, _, _, _, _ => none
  | k + 1, x0, x1, x5, x6, x7 => if x6 < (x0.length : Int) then (varveref07_Merge.j1 k x0 x1 x5 x6 x7 true) else (varveref07_Merge.j1 k x0 x1 x5 x6 x7 (decide (x7 < (x1.length : Int))))
def varveref07_Merge.j1 : Nat → List (S68) → List (S68) → List (S68) → Int → Int → Bool → Option ((List (S68)))
  | 0, _, _, _, _, _, _ => none
  | k + 1, x0, x1, x5, x6, x7, x17 => if x17 = true then (if x7 ≥ (x1.length : Int) then (varveref07_Merge.j2 k x0 x1 x5 x6 x7 true) else (if x6 < (x0.length : Int) then (if 0 ≤ x6 then (if 0 ≤ x7 then (if x7 < (x1.length : Int) then (varveref07_Merge.j2 k x0 x1 x5 x6 x7 (decide (((rd_T68 x0 x6).f0) < ((rd_T68 x1 x7).f0)))) else (none)) else (none)) else (none)) else (varveref07_Merge.j2 k x0 x1 x5 x6 x7 false))) else (some x5)
def varveref07_Merge.j2 : Nat → List (S68) → List (S68) → List (S68) → Int → Int → Bool → Option ((List (S68)))
  | 0, _, _, _, _, _, _ => none
  | k + 1, x0, x1, x5, x6, x7, x42 => if x42 = true then (if 0 ≤ x6 then (if x6 < (x0.length : Int) then (if x5.length < 8796093022208 then (varveref07_Merge.l0 k x0 x1 (x5 ++ [(⟨(rd_T68 x0 x6).f0, (rd_T68 x0 x6).f1⟩ : S68)]) (wrap64 (x6 + 1)) x7) else (none)) else (none)) else (none)) else (if x6 ≥ (x0.length : Int) then (if 0 ≤ x7 then (if x7 < (x1.length : Int) then (if x5.length < 8796093022208 then (varveref07_Merge.l0 k x0 x1 (x5 ++ [(⟨(rd_T68 x1 x7).f0, (rd_T68 x1 x7).f1⟩ : S68)]) x6 (wrap64 (x7 + 1))) else (none)) else (none)) else (none)) else (if 0 ≤ x7 then (if x7 < (x1.length : Int) then (if 0 ≤ x6 then (if x6 < (x0.length : Int) then (if ((rd_T68 x1 x7).f0) < ((rd_T68 x0 x6).f0) then (if x5.length < 8796093022208 then (varveref07_Merge.l0 k x0 x1 (x5 ++ [(⟨(rd_T68 x1 x7).f0, (rd_T68 x1 x7).f1⟩ : S68)]) x6 (wrap64 (x7 + 1))) else (none)) else ((varveref01_Add.f ((rd_T68 x0 x6).f1) ((rd_T68 x1 x7).f1)).bind fun t180 => (if x5.length < 8796093022208 then (varveref07_Merge.l0 k x0 x1 (x5 ++ [(⟨(rd_T68 x0 x6).f0, t180⟩ : S68)]) (wrap64 (x6 + 1)) (wrap64 (x7 + 1))) else (none)))) else (none)) else (none)) else (none)) else (none)))
end
def varveref07_Merge.f (k : Nat) (l0 : List (S68)) (l1 : List (S68)) : Option ((List (S68))) := varveref07_Merge.l0 k l0 l1 ([] : List (S68)) 0 0
def varveref07_Merge.T4 : Bool × List (List Nat × List Nat) := (true, [([], []), ([], []), ([], []), ([1, 2], [1, 2]), ([3], [3]), ([4], [4]), ([], []), ([], []), ([6, 7], [6, 7]), ([8], [8]), ([9], [9]), ([], []), ([], []), ([11, 12], [11, 12]), ([13], [13]), ([14], [14]), ([10, 15], [10, 15]), ([5, 16], [5, 16]), ([17], [17]), ([0, 18, 16], [0, 18]), ([19, 19, 0, 1, 2, 3, 4, 5, 6, 7, 8, 9, 10, 11, 12, 13, 14, 15, 16, 17, 18, 19], [0, 19])])
def varveref07_Merge.B4 : List Nat := [0, 0, 0, 6, 14, 30, 0, 0, 192, 448, 960, 0, 0, 6144, 14336, 30720, 65472, 131070, 262142, 524287, 1048575]
def varveref07_Merge.T7 : Bool × List (List Nat × List Nat) := (true, [([], []), ([], []), ([1], [1]), ([0, 2], [0, 2]), ([3], [3]), ([4], [4]), ([4], [4]), ([6, 4], [4, 6]), ([5, 7, 4], [4, 5, 7]), ([8, 4, 4], [4, 8]), ([9], [9]), ([9], [9]), ([10, 11, 9], [9, 10, 11]), ([12, 9], [9, 12]), ([13, 9], [9, 13]), ([9], [9]), ([9], [9]), ([15, 16, 9], [9, 15, 16]), ([17, 9], [9, 17]), ([18, 9], [9, 18]), ([14, 19, 9], [9, 14, 19]), ([9, 20, 4], [4, 9, 20]), ([4, 21], [4, 21]), ([22, 9], [22])])
def varveref07_Merge.B7 : List Nat := [0, 0, 2, 7, 15, 31, 31, 95, 255, 511, 1023, 1023, 4095, 8191, 16383, 1023, 1023, 99327, 230399, 492543, 1048575, 2097151, 4194303, 8388607]
end Go.Proofs.Ytncgjbocgbnkcaa.Hi
namespace Go.Proofs.Ytncgjbocgbnkcaa.Hi
open Go.RowKit Go.Proofs.YtncgjbocgbnkcaaW.PrintWords Go.Proofs.YtncgjbocgbnkcaaW.PrintLast Go.Proofs.YtncgjbocgbnkcaaW.PrintMore
attribute [local go_sem] max2_int min2_int max_two min_two max_three min_three max_four min_four   -- for this text's walks alone
set_option linter.unusedVariables false
set_option linter.unusedSimpArgs false
attribute [local go_sem high] eqA68
def varvelaw00_Buckets.f (l0 : List (S68)) : Option ((List (S68))) := if ([] : List (S68)).length + l0.length < 8796093022208 then (some (([] : List (S68)) ++ l0)) else (none)
set_option maxHeartbeats 8000000 in
set_option maxRecDepth 100000 in
theorem varvelaw00_Buckets.calls (A0 : Option Addr) (c0 : Nat) (l0 : List (S68)) (r : List (S68)) (w : World) (hr0 : Kd.C k68 w A0 l0.length l0) (hc0 : l0.length ≤ c0) (h : varvelaw00_Buckets.f l0 = some r) :
    Calls Try.prog 22 #[.slice A0 l0.length c0] w fun e w' => ∃ v0_ : Value, e = .returned (v0_) ∧ Kd.R k68 68 w' w.heap.size (fun _ => True) v0_ r ∧ Below w.heap.size w w' := by
  have HR0 := Aside0.mk hr0
  have HC0 := Aside0.mk hc0
  clear hr0 hc0
  have HB := Aside0.mk (Below.refl w.heap.size w)
  have H : (if ([] : List (S68)).length + l0.length < 8796093022208 then (some (([] : List (S68)) ++ l0)) else (none)) = some r := h
  clear h
  by_cases c2 : ([] : List (S68)).length + l0.length < 8796093022208
  · rw [if_pos c2] at H
    have LMc2 := Aside0.mk c2
    clear c2
    obtain ⟨y184, hy184⟩ : ∃ y_ : List (S68), y_ = (([] : List (S68)) ++ l0) := ⟨_, rfl⟩
    replace H : (some y184) = some r := by first | (rw [hy184]; with_reducible exact H) | (have H2_ := (Option.bind_some _ _).symm.trans H; rw [hy184]; with_reducible exact H2_) | (have H2_ := (Option.bind_some _ _).symm.trans H; with_reducible exact H2_) | with_reducible exact H | (rw [hy184]; exact H) | exact H
    have Ny184 := Aside0.mk hy184
    clear hy184
    obtain rfl := Option.some.inj H
    go_enter Try.func22, Try.ntmps22
    go_wp2_with (first | ((with_reducible refine gate_builtin (b := .append) (xs := #[.const (.slice none 0 0), .tmp 3]) rfl ?_); at_builtin; refine Kd.R_append_rows k68 (w0 := w) w.heap.size rfl (.const (.slice none 0 0)) (.tmp 3) 23 68 (.agg #[(.int .i64 0), (.int .u64 0)]) 16 rfl Try.underlying23 info68 rfl (by decide) (by omega) (.slice none 0 0) ([] : List (S68)) l0 _ _ _ (fun _ => True) (fun _ => False) rfl rfl ?aO ?aR (fun _ _ h => h) (fun _ h => h.elim) ?aF ?aB ?aS ?aL ?_; (case aR => repeat (first | exact HR0.out | (with_reducible refine Kd.C_alloc ?_ _) | (with_reducible refine Kd.C_drewN ?_ _) | (with_reducible refine Kd.C_drew ?_))); (case aB => exact (by repeat (first | (with_reducible first | exact HB.out | apply below_alloc | apply pw_below_drewN | apply below_drew1) | exact HB.out))); (case aF => exact (fun _ _ => trivial)); (case aO => exact ((Kd.R_nil _ _ _ _ (fun _ => True)))); (case aS => exact (below_size (by repeat (first | (with_reducible first | exact HB.out | apply below_alloc | apply pw_below_drewN | apply below_drew1) | exact HB.out)))); (case aL => have := LMc2.out; omega); intro v185 w3 ho hb hg hat; rw [← Ny184.out] at ho; have n0_ := Aside0.mk (hb); have n1_ := Aside0.mk (ho); clear HB; have HB := n0_; have HO186 := n1_; clear n0_ n1_; clear ho hb hg hat))
    go_ret
    exact ⟨_, by first | rfl | (simp [errW_none, errW_some] <;> rfl) | (simp [*, errW_none, errW_some] <;> rfl), by (with_reducible repeat (first | apply Kd.R_alloc | apply Kd.R_drewN | apply Kd.R_drew)); exact HO186.out, by repeat (first | (with_reducible first | exact HB.out | apply below_alloc | apply pw_below_drewN | apply below_drew1) | exact HB.out)⟩
  · rw [if_neg c2] at H
    exact absurd H (by simp)
def varvelaw00_SameBuckets.l0 : Nat → List (S68) → List (S68) → Int → Option (Bool)
  | 0, _, _, _ => none
  | k + 1, x0, x1, x5 => if x5 < (x0.length : Int) then (if 0 ≤ x5 then (if x5 < (x1.length : Int) then (if (!(((rd_T68 x0 x5).f0) == ((rd_T68 x1 x5).f0)) || (!(((rd_T68 x0 x5).f1) == ((rd_T68 x1 x5).f1)))) = true then (some false) else (varvelaw00_SameBuckets.l0 k x0 x1 (wrap64 (x5 + 1)))) else (none)) else (none)) else (some true)
def varvelaw00_SameBuckets.f (k : Nat) (l0 : List (S68)) (l1 : List (S68)) : Option (Bool) := if (l0.length : Int) = (l1.length : Int) then (varvelaw00_SameBuckets.l0 k l0 l1 0) else (some false)
theorem varvelaw00_SameBuckets.mono_l : ∀ k, (∀ y0 y1 y2, LeO (varvelaw00_SameBuckets.l0 k y0 y1 y2) (varvelaw00_SameBuckets.l0 (k + 1) y0 y1 y2))
  | 0 => fun _ _ _ r h => by simp [varvelaw00_SameBuckets.l0] at h
  | k + 1 => by
    have ih0 := varvelaw00_SameBuckets.mono_l k
    · intro y0 y1 y2
      unfold varvelaw00_SameBuckets.l0
      repeat' first
      | (with_reducible exact ih0 _ _ _)
      | (with_reducible exact LeO.refl _)
      | (with_reducible exact LeO.none _)
      | (with_reducible refine LeO.ite ?_ ?_)
      | (with_reducible refine LeO.bind ?_ (fun _ => ?_))
      | exact ih0 _ _ _
      | exact LeO.none _
      | refine LeO.ite ?_ ?_
      | refine LeO.bind ?_ (fun _ => ?_)
theorem varvelaw00_SameBuckets.mono : ∀ a0 a1 k, LeO (varvelaw00_SameBuckets.f k a0 a1) (varvelaw00_SameBuckets.f (k + 1) a0 a1) := by
  intro a0 a1 k
  have ih0 := varvelaw00_SameBuckets.mono_l k
  unfold varvelaw00_SameBuckets.f
  repeat' first
      | (with_reducible exact ih0 _ _ _)
      | (with_reducible exact LeO.refl _)
      | (with_reducible exact LeO.none _)
      | (with_reducible refine LeO.ite ?_ ?_)
      | (with_reducible refine LeO.bind ?_ (fun _ => ?_))
      | exact ih0 _ _ _
      | exact LeO.none _
      | refine LeO.ite ?_ ?_
      | refine LeO.bind ?_ (fun _ => ?_)
end Go.Proofs.Ytncgjbocgbnkcaa.Hi
namespace Go.Proofs.Ytncgjbocgbnkcaa
set_option linter.unusedVariables false
set_option linter.unusedSimpArgs false
open Go.RowKit Go.ChangeShapes Go.WideShapes Go.Deep Go.Proofs.YtncgjbocgbnkcaaW.PrintWords
/-- A value of type t, however it was read, is one of kind k; and wf holds of it. -/
def Opens {α : Type} (P : Program) (t : TypeId) (k : Kd α) (wf : α → Prop) : Prop :=
  ∀ {H : Type} {enc : TypeId × Value → H} {w : World} {base : Nat} {spare : Nat → Bool} {held : Bool} {fuel : Nat} {cs : List Value} {x : DataW H × List MemPlace},
    DataW.trod enc P w base spare held fuel t cs = some x → (∀ n ∈ x.1.weights P t, n ≤ reachBytes) → ∃ y, k.K w y cs ∧ wf y
section
variable {P : Program} {t e : TypeId}
theorem opens_int {k : IntKind} (ht : P.underlying t = some (.int k)) : Opens P t (Kd.int k) (fun n => (Lit.int k n).wf = true) := by
  intro H enc w base spare held fuel cs x h _
  obtain ⟨n, rfl, _, hw⟩ := DataW.trod_int ht h
  exact ⟨n, rfl, hw⟩
theorem opens_string (ht : P.underlying t = some .string) : Opens P t Kd.string (fun s => s.size ≤ 140737488351232) := by
  intro H enc w base spare held fuel cs x h hs
  obtain ⟨s, rfl, rfl, _⟩ := DataW.trod_string ht h
  refine ⟨s, rfl, ?_⟩
  have := hs s.data.toList.length (by simp [DataW.weights])
  rw [Array.length_toList] at this
  exact this
theorem weightsAll_mem {H : Type} {e : TypeId} {l : List (DataW H)} {d : DataW H} (hd : d ∈ l) : ∀ n ∈ d.weights P e, n ∈ DataW.weightsAll P e l := by
  induction l with
  | nil => cases hd
  | cons a l ih =>
    intro n hn
    rw [DataW.weightsAll, List.mem_append]
    rcases List.mem_cons.1 hd with rfl | hd
    · exact .inl hn
    · exact .inr (ih hd n hn)
/-- A slice, of elements of any kind. -/
theorem opens_slice {α : Type} {d : Kd α} {wf : α → Prop} {B : Nat} (ht : P.underlying t = some (.slice e)) (hc : P.cellsOf e = d.sz) (hB : P.bytesOf e = B) (he : Opens P e d wf) :
    Opens P t (Kd.slice e d) (fun xs => xs.length * B ≤ 140737488351232 ∧ xs.length ≤ 9223372036854775807 ∧ ∀ x ∈ xs, wf x) := by
  intro H enc w base spare held fuel cs x h hs
  rcases open_slice ht h with ⟨rfl, rfl⟩ | ⟨a, len, cap, m, n, D, Pl, rfl, hb, hl, hm, hmm, rfl, hi⟩
  · exact ⟨[], ⟨none, 0, rfl, Nat.le_refl _, Kd.C_nil d w⟩, by simp, by simp, by simp⟩
  · have hlm : len ≤ m := by rw [hmm]; split <;> omega
    have each : ∀ i, i < len → ∃ y cs', w.cells? base (a.add (i * P.cellsOf e)) (P.cellsOf e) = some cs' ∧ d.K w y cs' ∧ wf y := fun i hil => by
      obtain ⟨cs', h1, h2⟩ := hi i (by omega)
      obtain ⟨y, h3, h4⟩ := he h2 (fun n hn => hs n (by
        rw [DataW.weights, ht]
        refine List.mem_cons_of_mem _ (List.mem_append_left _ (weightsAll_mem (d := D i) ?_ n hn))
        exact List.mem_map.2 ⟨i, List.mem_range.2 hil, rfl⟩))
      exact ⟨y, cs', h1, h3, h4⟩
    have mk : ∀ k, k ≤ len → ∃ ys : List α, ys.length = k ∧ ∀ i y, ys[i]? = some y → ∃ cs', w.cells? base (a.add (i * P.cellsOf e)) (P.cellsOf e) = some cs' ∧ d.K w y cs' ∧ wf y := by
      intro k
      induction k with
      | zero => intro _; exact ⟨[], rfl, fun i y hy => by simp at hy⟩
      | succ k ih =>
        intro hk
        obtain ⟨ys, h1, h2⟩ := ih (by omega)
        obtain ⟨y, cs', hy⟩ := each k (by omega)
        refine ⟨ys ++ [y], by simp [h1], fun i z hz => ?_⟩
        by_cases c : i < k
        · rw [List.getElem?_append_left (by omega)] at hz
          exact h2 i z hz
        · have hik : i = k := by
            have := (List.getElem?_eq_some_iff.1 hz).1
            rw [List.length_append, List.length_singleton] at this
            omega
          subst hik
          rw [List.getElem?_append_right (by omega), h1, Nat.sub_self, List.getElem?_cons_zero, Option.some.injEq] at hz
          subst hz
          exact ⟨cs', hy⟩
    obtain ⟨ys, h1, h2⟩ := mk len (Nat.le_refl _)
    have hmx : maxLen = 9223372036854775807 := rfl
    refine ⟨ys, ⟨some a, cap, by rw [h1], by omega, ?_⟩, ?_, by omega, fun y hy => ?_⟩
    · refine ⟨rfl, by omega, fun _ => ⟨a, rfl, fun j p hp => ?_⟩⟩
      obtain ⟨cs', h3, h4, _⟩ := h2 j p hp
      obtain ⟨_, hlen, hcell⟩ := World.cells?_some h3
      refine ⟨cs', by rw [hlen, hc], h4, fun i u hu => ?_⟩
      have hil := (List.getElem?_eq_some_iff.1 hu).1
      rw [← hc, ← Go.Deep.add_add, hcell i (by omega)]
      exact hu
    · have := hs ((((List.range len).map D).length + ((List.range (m - len)).map fun j => D (len + j)).length) * P.bytesOf e) (by rw [DataW.weights, ht]; exact List.mem_cons_self ..)
      rw [hB, List.length_map, List.length_range, List.length_map, List.length_range] at this
      rw [h1]
      refine Nat.le_trans (Nat.mul_le_mul_right B (Nat.le_add_right len _)) this
    · obtain ⟨i, hi'⟩ := List.mem_iff_getElem?.1 hy
      obtain ⟨_, _, _, h5⟩ := h2 i y hi'
      exact h5
/-- The fields of a struct from a place on: each of its own kind, one behind another. -/
def OpensFields {α : Type} (P : Program) : List Field → Nat → Kd α → (α → Prop) → Prop := fun fs off k wf =>
  ∀ {H : Type} {enc : TypeId × Value → H} {w : World} {base : Nat} {spare : Nat → Bool} {held : Bool} {fuel : Nat} {cs : List Value} {xs : List (DataW H × List MemPlace)},
    (∀ (i : Nat) (f : Field), fs[i]? = some f → DataW.trod enc P w base spare held fuel f.type ((cs.drop f.offset).take (P.cellsOf f.type)) = xs[i]?) → xs.length = fs.length → cs.length = off + k.sz →
    (∀ n ∈ DataW.weightsEach P (fs.map (·.type)) (xs.map (·.1)), n ≤ reachBytes) → ∃ y, k.K w y (cs.drop off) ∧ wf y
theorem opensFields_one {α : Type} {f : Field} {off : Nat} {k : Kd α} {wf : α → Prop} (ho : f.offset = off) (hc : P.cellsOf f.type = k.sz) (h : Opens P f.type k wf) : OpensFields P [f] off k wf := by
  intro H enc w base spare held fuel cs xs hx hl hcs hs
  obtain ⟨x, rfl⟩ : ∃ x, xs = [x] := by
    cases xs with
    | nil => simp at hl
    | cons x r => cases r with
      | nil => exact ⟨x, rfl⟩
      | cons _ _ => simp at hl
  have h0 := hx 0 f rfl
  rw [ho, hc, List.take_of_length_le (by rw [List.length_drop]; omega)] at h0
  exact h h0 (fun n hn => hs n (by simpa [DataW.weightsEach] using hn))
theorem opensFields_cons {α β : Type} {f : Field} {fs : List Field} {off : Nat} {a : Kd α} {b : Kd β} {wa : α → Prop} {wb : β → Prop} (ho : f.offset = off) (hc : P.cellsOf f.type = a.sz) (h : Opens P f.type a wa) (hr : OpensFields P fs (off + a.sz) b wb) :
    OpensFields P (f :: fs) off (Kd.pair a b) (fun y => wa y.1 ∧ wb y.2) := by
  intro H enc w base spare held fuel cs xs hx hl hcs hs
  obtain ⟨x, r, rfl⟩ : ∃ x r, xs = x :: r := by
    cases xs with
    | nil => simp at hl
    | cons x r => exact ⟨x, r, rfl⟩
  have h0 := hx 0 f rfl
  have hsz : (Kd.pair a b).sz = a.sz + b.sz := rfl
  rw [ho, hc] at h0
  simp only [List.map_cons, DataW.weightsEach, List.mem_append] at hs
  obtain ⟨y, hy, wy⟩ := h h0 (fun n hn => hs n (.inl hn))
  obtain ⟨z, hz, wz⟩ := hr (fun i g hg => by have := hx (i + 1) g hg; simpa using this) (by simpa using hl) (by omega) (fun n hn => hs n (.inr hn))
  refine ⟨(y, z), ⟨(cs.drop off).take a.sz, (cs.drop off).drop a.sz, (List.take_append_drop _ _).symm, hy, ?_⟩, wy, wz⟩
  rw [List.drop_drop]
  exact hz
theorem opens_struct {α : Type} {fs : Array Field} {k : Kd α} {wf : α → Prop} (ht : P.underlying t = some (.struct fs)) (hc : P.cellsOf t = k.sz) (h : OpensFields P fs.toList 0 k wf) : Opens P t k wf := by
  intro H enc w base spare held fuel cs x hx hs
  obtain ⟨xs, n, rfl, rfl, hcl, hxl, hf⟩ := DataW.trod_struct ht hx
  have := h (enc := enc) (w := w) (base := base) (spare := spare) (held := held) (fuel := n) (cs := cs) (xs := xs) (fun i f hfi => hf i f (by simpa using hfi)) (by simpa using hxl) (by omega) (fun m hm => hs m (by
    rw [DataW.weights, ht]; exact hm))
  simpa using this
theorem opens_iso {α β : Type} {k : Kd α} {wf : α → Prop} (f : β → α) (g : α → β) (hfg : ∀ x, f (g x) = x) (h : Opens P t k wf) : Opens P t (Kd.iso k f) (fun y => wf (f y)) := by
  intro H enc w base spare held fuel cs x hx hs
  obtain ⟨y, h1, h2⟩ := h hx hs
  refine ⟨g y, ?_, by show wf (f (g y)); rw [hfg]; exact h2⟩
  show k.K w (f (g y)) cs
  rw [hfg]; exact h1
theorem Opens.imp {α : Type} {k : Kd α} {wf wf' : α → Prop} (h : Opens P t k wf) (hw : ∀ y, wf y → wf' y) : Opens P t k wf' := by
  intro H enc w base spare held fuel cs x hx hs
  obtain ⟨y, h1, h2⟩ := h hx hs
  exact ⟨y, h1, hw y h2⟩
/-- An argument that is a slice, opened. -/
theorem Opens.arg {α : Type} {d : Kd α} {e : TypeId} {wf : List α → Prop} {ts : List TypeId} {H : Type} {ds : List (DataW H)} {j : Nat} {enc : TypeId × Value → H} {W : World} {base : Nat} {spare : Nat → Bool} {held : Bool} {v : Value} {x : DataW H} {p : List MemPlace}
    (h : Opens P t (Kd.slice e d) wf) (hsz : (DataW.weightsEach P ts ds).all (· ≤ reachBytes) = true) (ht : ts[j]? = some t) (hd : ds[j]? = some x) (hv : ∃ a len cap, v = .slice a len cap) (hx : DataW.Trod enc P W base spare held t v x p) :
    ∃ A l c, v = .slice A l.length c ∧ l.length ≤ c ∧ Kd.C d W A l.length l ∧ wf l := by
  obtain ⟨fuel, hf⟩ := hx
  obtain ⟨a, len, cap, rfl⟩ := hv
  obtain ⟨l, ⟨A, c, hcs, hlc, hC⟩, hw⟩ := h hf (fun n hn => by
    have := List.all_eq_true.1 hsz _ (DataW.weights_mem_each ht hd n hn)
    simpa using this)
  simp [Value.cells] at hcs
  obtain ⟨rfl, rfl, rfl⟩ := hcs
  exact ⟨_, l, _, rfl, hlc, hC, hw⟩
end
end Go.Proofs.Ytncgjbocgbnkcaa
namespace Go.Proofs.Ytncgjbocgbnkcaa.Pure
set_option linter.unusedVariables false
set_option linter.unusedSimpArgs false
open Go.RowKit Go.Proofs.Ytncgjbocgbnkcaa.Hi Go.Proofs.YtncgjbocgbnkcaaW.PrintWords Go.Proofs.YtncgjbocgbnkcaaW.PrintLast Go.Proofs.YtncgjbocgbnkcaaW.PrintMore
theorem w64 {n : Int} (h0 : -9223372036854775808 ≤ n) (h1 : n < 9223372036854775808) : wrap64 n = n := by unfold wrap64; omega
def eN (at_ : Nat) : Nat := if at_ < 256 then 0 else at_ / 128 - 1
theorem bucket_half (v : Nat) (h : 256 ≤ v) (hv : v < 18446744073709551616) : bucketN v = 128 + bucketN (v / 2) := by
  have hb := Lib.bitLen_half v (by omega) hv
  unfold bucketN
  rw [if_neg (by omega)]
  obtain ⟨e, h1, h2, h3, h4, h5, h6, h7⟩ := bitLen_bounds v h hv
  rw [h1] at hb ⊢
  by_cases c : v / 2 < 256
  · have e1 : e = 1 := by
      have : 2 ^ (e + 7) < 2 ^ 9 := by have : (2 : Nat) ^ 9 = 512 := rfl
                                       omega
      have := (Nat.pow_lt_pow_iff_right (a := 2) (by decide)).mp this
      omega
    rw [if_pos c, e1]
  · rw [if_neg c, show Lib.bitLen (v / 2) = (e - 1) + 8 by omega, Nat.add_sub_cancel, Nat.add_sub_cancel]
    have : v / 2 ^ e = v / 2 / 2 ^ (e - 1) := by
      rw [Nat.div_div_eq_div_mul]
      congr 1
      rw [show e = (e - 1) + 1 by omega, Nat.pow_succ, Nat.add_sub_cancel]; omega
    omega
theorem refBucket_l0 : ∀ (d v e k : Nat), v < 2 ^ d → v < 18446744073709551616 → e + d ≤ 200 → d < k → varveref07_Bucket.l0 k (v : Int) (e : Int) = some ((128 * e + bucketN v : Nat) : Int) := by
  intro d
  induction d with
  | zero =>
    intro v e k h hv _ hk
    obtain ⟨k, rfl⟩ : ∃ m, k = m + 1 := ⟨k - 1, by omega⟩
    have h0 : v = 0 := by simpa using h
    subst h0
    simp only [varveref07_Bucket.l0]
    rw [if_neg (by omega), w64 (n := 128 * (e : Int)) (by omega) (by omega), w64 (n := ((0 : Nat) : Int)) (by omega) (by omega), w64 (by omega) (by omega)]
    have : bucketN 0 = 0 := rfl
    rw [this]; congr 1
  | succ d ih =>
    intro v e k h hv he hk
    obtain ⟨k, rfl⟩ : ∃ m, k = m + 1 := ⟨k - 1, by omega⟩
    simp only [varveref07_Bucket.l0]
    by_cases c : 256 ≤ v
    · rw [if_pos (by omega), w64 (n := (e : Int) + 1) (by omega) (by omega)]
      have := ih (v / 2) (e + 1) k (by rw [Nat.pow_succ] at h; omega) (by omega) (by omega) (by omega)
      rw [show (v : Int) / 2 = ((v / 2 : Nat) : Int) by omega, show (e : Int) + 1 = ((e + 1 : Nat) : Int) by omega, this, bucket_half v c hv]
      congr 2; omega
    · have hb : bucketN v = v := if_pos (by omega)
      rw [if_neg (by omega), w64 (n := 128 * (e : Int)) (by omega) (by omega), w64 (n := (v : Int)) (by omega) (by omega), w64 (by omega) (by omega), hb]
      congr 1
theorem refBucket_eq (v : Nat) (hv : v < 18446744073709551616) (k : Nat) (hk : 64 < k) : varveref07_Bucket.f k (v : Int) = some (bucketN v : Int) := by
  unfold varveref07_Bucket.f
  have := refBucket_l0 64 v 0 k (by simpa using hv) hv (by omega) hk
  rw [Nat.mul_zero, Nat.zero_add] at this
  exact this
end Go.Proofs.Ytncgjbocgbnkcaa.Pure
namespace Go.Proofs.Ytncgjbocgbnkcaa.Pure
set_option linter.unusedVariables false
set_option linter.unusedSimpArgs false
open Go.RowKit Go.Proofs.Ytncgjbocgbnkcaa.Hi
theorem psum_foldl (l : List Int) (s : Int) : l.foldl (· + ·) s = s + psum l := by
  induction l generalizing s with
  | nil => simp [psum]
  | cons x l ih => have a := ih (s + x); have b := ih (0 + x); simp only [psum, List.foldl_cons] at *; omega
theorem psum_cons (x : Int) (l : List Int) : psum (x :: l) = x + psum l := by
  have := psum_foldl l (0 + x)
  simp only [psum, List.foldl_cons] at *
  omega
theorem psum_set (l : List Int) (i : Nat) (x : Int) (h : i < l.length) : psum (l.set i x) = psum l - l.getD i 0 + x := by
  induction l generalizing i with
  | nil => simp at h
  | cons y l ih =>
    cases i with
    | zero => rw [List.set_cons_zero, psum_cons, psum_cons]; simp; omega
    | succ i =>
      rw [List.set_cons_succ, psum_cons, psum_cons, ih i (by simpa using h)]
      simp; omega
theorem psum_hzero (n : Nat) : psum (hzero n) = 0 := by
  induction n with
  | zero => rfl
  | succ n ih => unfold hzero at *; rw [List.replicate_succ, psum_cons, ih]; rfl
theorem psum_ge (l : List Int) (h : Cnt l) (i : Nat) (hi : i < l.length) : l.getD i 0 ≤ psum l := by
  induction l generalizing i with
  | nil => simp at hi
  | cons y l ih =>
    have hy := h y (by simp)
    have hl : Cnt l := fun x hx => h x (by simp [hx])
    have hp := psum_nonneg l hl
    rw [psum_cons]
    cases i with
    | zero => simp; omega
    | succ i => have := ih hl i (by simpa using hi); simp at *; omega
theorem getD_range {l : List Int} (h : Cnt l) (i : Nat) : 0 ≤ l.getD i 0 ∧ l.getD i 0 < 18446744073709551616 := by
  by_cases c : i < l.length
  · exact h _ (List.mem_of_getElem? (getD_get c))
  · rw [List.getD, List.getElem?_eq_none (by omega)]; simp
end Go.Proofs.Ytncgjbocgbnkcaa.Pure
namespace Go.Proofs.Ytncgjbocgbnkcaa.Pure
set_option linter.unusedVariables false
set_option linter.unusedSimpArgs false
open Go.RowKit Go.Proofs.Ytncgjbocgbnkcaa.Hi
/-- How a list of buckets is read. -/
def WB (l : List S68) : Prop := l.length * 16 ≤ 140737488351232 ∧ l.length ≤ 9223372036854775807 ∧ ∀ b ∈ l, (Lit.int .i64 b.f0).wf = true ∧ (Lit.int .u64 b.f1).wf = true
theorem WB.len {l : List S68} (h : WB l) : l.length < 8796093022208 := by have := h.1; omega
theorem rd_drop {l : List S68} {n : Nat} (h : n < l.length) : l.drop n = rd_T68 l (n : Int) :: l.drop (n + 1) := by
  rw [List.drop_eq_getElem_cons h]
  congr 1
  rw [rd_T68, Int.toNat_natCast, List.getD, List.getElem?_eq_getElem h]; rfl
/-- May a list be behind a bucket? -/
def chkFrom (last : Int) : List S68 → Bool
  | [] => true
  | b :: r => decide (last < b.f0) && (decide (b.f0 < 7424) && (!(b.f1 == 0) && chkFrom b.f0 r))
def chk (l : List S68) : Bool := chkFrom (-1) l
theorem check_l0 (l : List S68) (hl : l.length < 8796093022208) : ∀ (d n k : Nat) (last : Int), n + d = l.length → d < k → hist_Check.l0 k last l (l.length : Int) (n : Int) = some (chkFrom last (l.drop n)) := by
  intro d
  induction d with
  | zero =>
    intro n k last hn hk
    obtain ⟨k, rfl⟩ : ∃ m, k = m + 1 := ⟨k - 1, by omega⟩
    simp only [hist_Check.l0]
    rw [if_neg (by omega), List.drop_of_length_le (by omega)]; rfl
  | succ d ih =>
    intro n k last hn hk
    obtain ⟨k, rfl⟩ : ∃ m, k = m + 1 := ⟨k - 1, by omega⟩
    simp only [hist_Check.l0]
    rw [if_pos (by omega), if_pos (by omega), if_pos (by omega), rd_drop (show n < l.length by omega), w64 (n := (n : Int) + 1) (by omega) (by omega)]
    have := ih (n + 1) k ((rd_T68 l (n : Int)).f0) (by omega) (by omega)
    rw [show (n : Int) + 1 = ((n + 1 : Nat) : Int) by omega, this]
    simp only [chkFrom]
    generalize rd_T68 l (n : Int) = b
    by_cases c1 : b.f0 ≤ last
    · rw [if_pos c1, decide_eq_false (by omega)]; rfl
    · rw [if_neg c1, decide_eq_true (by omega)]
      by_cases c2 : b.f0 ≥ 7424
      · rw [if_pos c2, decide_eq_false (by omega)]; rfl
      · rw [if_neg c2, decide_eq_true (by omega)]
        by_cases c3 : b.f1 = 0
        · rw [if_pos c3, c3]; rfl
        · rw [if_neg c3, beq_eq_false_iff_ne.mpr c3]; rfl
theorem Check_eq (l : List S68) (hl : l.length < 8796093022208) (k : Nat) (hk : l.length < k) : hist_Check.f k l = some (chk l) := by
  unfold hist_Check.f chk
  have := check_l0 l hl l.length 0 k (-1) (by omega) hk
  simpa using this
/-- The bucket before a place. -/
def before (l : List S68) (n : Nat) : Int := if n = 0 then -1 else (rd_T68 l ((n - 1 : Nat) : Int)).f0
theorem refCheck_l0 (l : List S68) (hl : l.length < 8796093022208) : ∀ (d n k : Nat), n + d = l.length → d < k → -1 ≤ before l n → varveref07_Check.l0 k l (n : Int) = some (chkFrom (before l n) (l.drop n)) := by
  intro d
  induction d with
  | zero =>
    intro n k hn hk _
    obtain ⟨k, rfl⟩ : ∃ m, k = m + 1 := ⟨k - 1, by omega⟩
    simp only [varveref07_Check.l0]
    rw [if_neg (by omega), List.drop_of_length_le (by omega)]; rfl
  | succ d ih =>
    intro n k hn hk hb
    obtain ⟨k, rfl⟩ : ∃ m, k = m + 1 := ⟨k - 1, by omega⟩
    simp only [varveref07_Check.l0]
    rw [if_pos (by omega), if_pos (by omega), rd_drop (show n < l.length by omega), w64 (n := (n : Int) + 1) (by omega) (by omega), w64 (n := (n : Int) - 1) (by omega) (by omega)]
    have hnx : before l (n + 1) = (rd_T68 l (n : Int)).f0 := by unfold before; rw [if_neg (by omega), Nat.add_sub_cancel]
    have IH := ih (n + 1) k (by omega) (by omega)
    rw [hnx] at IH
    rw [show (n : Int) + 1 = ((n + 1 : Nat) : Int) by omega]
    have hbe : (n : Int) > 0 → (rd_T68 l ((n : Int) - 1)).f0 = before l n := fun h => by
      unfold before; rw [if_neg (by omega), show ((n - 1 : Nat) : Int) = (n : Int) - 1 by omega]
    have hb0 : ¬ (n : Int) > 0 → before l n = -1 := fun h => by unfold before; rw [if_pos (by omega)]
    simp only [chkFrom]
    generalize rd_T68 l (n : Int) = b at *
    generalize before l n = p at *
    by_cases c1 : b.f0 < 0
    · rw [if_pos c1, decide_eq_false (by omega)]; rfl
    · rw [if_neg c1]
      by_cases c2 : b.f0 ≥ 7424
      · rw [if_pos c2, decide_eq_false (p := b.f0 < 7424) (by omega)]; simp
      · rw [if_neg c2, decide_eq_true (p := b.f0 < 7424) (by omega)]
        by_cases c3 : b.f1 = 0
        · rw [if_pos c3, c3]; simp
        · rw [if_neg c3, beq_eq_false_iff_ne.mpr c3, IH (by omega)]
          by_cases c4 : (n : Int) > 0
          · rw [if_pos c4, if_pos (by omega), if_pos (by omega), hbe c4]
            by_cases c5 : b.f0 ≤ p
            · rw [if_pos c5, decide_eq_false (by omega)]; rfl
            · rw [if_neg c5, decide_eq_true (by omega)]; rfl
          · rw [if_neg c4, hb0 c4, decide_eq_true (by omega)]; rfl
theorem refCheck_eq (l : List S68) (hl : l.length < 8796093022208) (k : Nat) (hk : l.length < k) : varveref07_Check.f k l = some (chk l) := by
  unfold varveref07_Check.f chk
  have := refCheck_l0 l hl l.length 0 k (by omega) hk (by simp [before])
  simpa [before] using this
end Go.Proofs.Ytncgjbocgbnkcaa.Pure
namespace Go.Proofs.Ytncgjbocgbnkcaa
set_option linter.unusedVariables false
set_option linter.unusedSimpArgs false
open Go.RowKit Go.Proofs.YtncgjbocgbnkcaaW.PrintWords Go.Proofs.YtncgjbocgbnkcaaW.PrintLast Go.Proofs.YtncgjbocgbnkcaaW.PrintMore Go.Proofs.Ytncgjbocgbnkcaa.Hi
end Go.Proofs.Ytncgjbocgbnkcaa
namespace Go.Proofs.Ytncgjbocgbnkcaa
set_option linter.unusedVariables false
set_option linter.unusedSimpArgs false
open Go.Proofs.YtncgjbocgbnkcaaW.PrintWords Go.Proofs.Ytncgjbocgbnkcaa.Hi
theorem opens68 : Opens Try.prog 68 k68 (fun b => (Lit.int .i64 b.f0).wf = true ∧ (Lit.int .u64 b.f1).wf = true) :=
  opens_iso (fun x : S68 => (x.f0, x.f1)) (fun p => ⟨p.1, p.2⟩) (fun _ => rfl) (opens_struct Try.underlying68 (by kernel_rfl) (opensFields_cons rfl (by kernel_rfl) (opens_int Try.underlying3) (opensFields_one rfl (by kernel_rfl) (opens_int Try.underlying41))))
theorem opens23 : Opens Try.prog 23 (Kd.slice 68 k68) Pure.WB := opens_slice Try.underlying23 (by kernel_rfl) (by kernel_rfl) opens68
end Go.Proofs.Ytncgjbocgbnkcaa
namespace Go.Proofs.Ytncgjbocgbnkcaa.Pure
set_option linter.unusedVariables false
set_option linter.unusedSimpArgs false
open Go.RowKit Go.Proofs.Ytncgjbocgbnkcaa.Hi
def merged (s : List Int) (l : List S68) : List Int := l.foldl (fun s b => hadd s b.f0.toNat b.f1) s
theorem U.of {x : Int} (h : (Lit.int .u64 x).wf = true) : 0 ≤ x ∧ x < 18446744073709551616 := U.of_wf h
theorem hadd_getD (s : List Int) (i j : Nat) (n : Int) (hi : i < s.length) : (hadd s i n).getD j 0 = if j = i then hold (s.getD i 0 + n) else s.getD j 0 := by
  unfold hadd
  by_cases c : j = i
  · subst c
    rw [if_pos rfl, List.getD, List.getElem?_set_self hi]; rfl
  · rw [if_neg c, List.getD, List.getElem?_set_ne (by omega)]; rfl
/-- Behind a bucket there is nothing yet; then the list's buckets hold what it says, and the others are as they were. -/
theorem merged_spec : ∀ (l : List S68) (s : List Int) (last : Int), hgood s = true → -1 ≤ last → chkFrom last l = true → (∀ b ∈ l, (Lit.int .u64 b.f1).wf = true) → (∀ i : Nat, last < (i : Int) → s.getD i 0 = 0) →
    hgood (merged s l) = true ∧ (∀ i : Nat, (i : Int) ≤ last → (merged s l).getD i 0 = s.getD i 0) ∧ (∀ b ∈ l, last < b.f0 ∧ b.f0 < 7424 ∧ 1 ≤ b.f1 ∧ (merged s l).getD b.f0.toNat 0 = b.f1) ∧ (∀ i : Nat, last < (i : Int) → (∀ b ∈ l, b.f0 ≠ (i : Int)) → (merged s l).getD i 0 = 0) := by
  intro l
  induction l with
  | nil => intro s last hg _ _ _ hz; exact ⟨hg, fun _ _ => rfl, fun b hb => by simp at hb, fun i hi _ => hz i hi⟩
  | cons b l ih =>
    intro s last hg h0 hc hw hz
    simp only [chkFrom, Bool.and_eq_true, decide_eq_true_eq, Bool.not_eq_true', beq_eq_false_iff_ne] at hc
    obtain ⟨c1, c2, c3, c4⟩ := hc
    have hb := U.of (hw b (by simp))
    have hlen := ((hgood_iff _).mp hg).1
    obtain ⟨n, hn⟩ : ∃ n : Nat, b.f0 = n := ⟨b.f0.toNat, by omega⟩
    have hnat : b.f0.toNat = n := by omega
    have hs0 : s.getD n 0 = 0 := hz n (by omega)
    have hget : ∀ j, (hadd s n b.f1).getD j 0 = if j = n then b.f1 else s.getD j 0 := fun j => by
      rw [hadd_getD s n j b.f1 (by omega), hs0, Int.zero_add]
      have : hold b.f1 = b.f1 := if_pos hb.2
      rw [this]
    have hm : merged s (b :: l) = merged (hadd s n b.f1) l := by simp only [merged, List.foldl_cons, hnat]
    obtain ⟨i1, i2, i3, i4⟩ := ih (hadd s n b.f1) b.f0 (hadd_good hg n b.f1 hb.1) (by omega) c4 (fun x hx => hw x (by simp [hx])) (fun i hi => by rw [hget, if_neg (by omega)]; exact hz i (by omega))
    rw [hm]
    refine ⟨i1, fun i hi => by rw [i2 i (by omega), hget, if_neg (by omega)], fun x hx => ?_, fun i hi hx => ?_⟩
    · rcases List.mem_cons.1 hx with rfl | hx
      · refine ⟨c1, c2, by omega, ?_⟩
        rw [hnat, i2 n (by omega), hget, if_pos rfl]
      · obtain ⟨j1, j2, j3, j4⟩ := i3 x hx
        exact ⟨by omega, j2, j3, j4⟩
    · by_cases c : b.f0 < (i : Int)
      · exact i4 i c (fun x hx' => hx x (by simp [hx']))
      · have := hx b (by simp)
        rw [i2 i (by omega), hget, if_neg (by omega)]
        exact hz i hi
theorem hzero_getD (i : Nat) : (hzero 7424).getD i 0 = 0 := by
  unfold hzero
  by_cases c : i < 7424
  · rw [List.getD, List.getElem?_replicate, if_pos c]; rfl
  · rw [List.getD, List.getElem?_replicate, if_neg c]; rfl
theorem merge_l0 (l : List S68) (hl : l.length < 8796093022208) (hw : ∀ b ∈ l, (Lit.int .u64 b.f1).wf = true) : ∀ (d n k : Nat) (last : Int) (s : List Int), n + d = l.length → d < k → hgood s = true → -1 ≤ last → chkFrom last (l.drop n) = true →
    hist_Hist_Merge.l0 k l (l.length : Int) (n : Int) s = some (0, merged s (l.drop n)) := by
  intro d
  induction d with
  | zero =>
    intro n k last s hn hk _ _ _
    obtain ⟨k, rfl⟩ : ∃ m, k = m + 1 := ⟨k - 1, by omega⟩
    simp only [hist_Hist_Merge.l0]
    rw [if_neg (by omega), List.drop_of_length_le (by omega)]; rfl
  | succ d ih =>
    intro n k last s hn hk hg h0 hc
    obtain ⟨k, rfl⟩ : ∃ m, k = m + 1 := ⟨k - 1, by omega⟩
    have hd := rd_drop (show n < l.length by omega)
    have hmem : rd_T68 l (n : Int) ∈ l := List.mem_of_mem_drop (i := n) (by rw [hd]; simp)
    have hb := U.of (hw _ hmem)
    rw [hd] at hc ⊢
    simp only [hist_Hist_Merge.l0]
    rw [if_pos (by omega), if_pos (by omega), if_pos (by omega), w64 (n := (n : Int) + 1) (by omega) (by omega)]
    generalize rd_T68 l (n : Int) = b at *
    simp only [chkFrom, Bool.and_eq_true, decide_eq_true_eq, Bool.not_eq_true', beq_eq_false_iff_ne] at hc
    obtain ⟨c1, c2, c3, c4⟩ := hc
    have ha : haddAt s b.f0 b.f1 = some (hadd s b.f0.toNat b.f1) := by
      unfold haddAt
      rw [if_pos ⟨hg, ⟨by omega, c2⟩, hb⟩]
    rw [ha, Option.bind_some, show (n : Int) + 1 = ((n + 1 : Nat) : Int) by omega]
    exact ih (n + 1) k b.f0 (hadd s b.f0.toNat b.f1) (by omega) (by omega) (hadd_good hg _ _ hb.1) (by omega) c4
theorem Merge_eq {s : List Int} {l : List S68} (hg : hgood s = true) (hw : WB l) (hc : chk l = true) (k : Nat) (hk : l.length < k) : hist_Hist_Merge.f k s l = some (0, merged s l) := by
  unfold hist_Hist_Merge.f
  rw [Check_eq l hw.len k hk, Option.bind_some, hc, if_pos rfl]
  have := merge_l0 l hw.len (fun b hb => (hw.2.2 b hb).2) l.length 0 k (-1) s (by omega) hk hg (by omega) hc
  simpa using this
theorem take_getD (l : List Int) (r i : Nat) (h : i < r) : (l.take r).getD i 0 = l.getD i 0 := by
  rw [List.getD, List.getD, List.getElem?_take_of_lt h]
/-- a times n by b, rounded up. -/
def up (a n b : Int) : Int := if a * n % b > 0 then a * n / b + 1 else a * n / b
theorem chk_sorted : ∀ (l : List S68) (last : Int), chkFrom last l = true → ∀ b ∈ l, last < b.f0 ∧ ∀ d : S68, b.f0 ≤ (l.getLastD d).f0 := by
  intro l
  induction l with
  | nil => intro last _ b hb; simp at hb
  | cons c l ih =>
    intro last h b hb
    simp only [chkFrom, Bool.and_eq_true, decide_eq_true_eq, Bool.not_eq_true', beq_eq_false_iff_ne] at h
    obtain ⟨c1, c2, c3, c4⟩ := h
    rcases List.mem_cons.1 hb with rfl | hb
    · refine ⟨c1, fun d => ?_⟩
      cases l with
      | nil => exact Int.le_refl _
      | cons e l =>
        have := (ih b.f0 c4 e (by simp)).1
        have := (ih b.f0 c4 e (by simp)).2 b
        simp only [List.getLastD_cons] at this ⊢
        omega
    · obtain ⟨i1, i2⟩ := ih c.f0 c4 b hb
      refine ⟨by omega, fun d => ?_⟩
      rw [List.getLastD_cons]
      exact i2 c
end Go.Proofs.Ytncgjbocgbnkcaa.Pure
namespace Go.Proofs.Ytncgjbocgbnkcaa.Pure
set_option linter.unusedVariables false
set_option linter.unusedSimpArgs false
/-- A list that rises. -/
abbrev Asc (l : List Int) : Prop := l.Pairwise (· < ·)
theorem asc_ext : ∀ {l m : List Int}, Asc l → Asc m → (∀ x, x ∈ l ↔ x ∈ m) → l = m := by
  intro l
  induction l with
  | nil =>
    intro m _ _ h
    cases m with
    | nil => rfl
    | cons y r => exact absurd ((h y).mpr (by simp)) (by simp)
  | cons x r ih =>
    intro m hl hm h
    cases m with
    | nil => exact absurd ((h x).mp (by simp)) (by simp)
    | cons y s =>
      obtain ⟨l1, l2⟩ := List.pairwise_cons.mp hl
      obtain ⟨m1, m2⟩ := List.pairwise_cons.mp hm
      have hxy : x = y := by
        rcases List.mem_cons.mp ((h x).mp (by simp)) with e | e
        · exact e
        · rcases List.mem_cons.mp ((h y).mpr (by simp)) with e2 | e2
          · exact e2.symm
          · have := m1 x e; have := l1 y e2; omega
      subst hxy
      congr 1
      refine ih l2 m2 fun z => ⟨fun hz => ?_, fun hz => ?_⟩
      · rcases List.mem_cons.mp ((h z).mp (by simp [hz])) with e | e
        · have := l1 z hz; omega
        · exact e
      · rcases List.mem_cons.mp ((h z).mpr (by simp [hz])) with e | e
        · have := m1 z hz; omega
        · exact e
/-- One more. -/
def kins (h : Int) : List Int → List Int
  | [] => [h]
  | x :: r => if h < x then h :: x :: r else if h = x then x :: r else x :: kins h r
theorem mem_kins (h : Int) (l : List Int) (x : Int) : x ∈ kins h l ↔ x = h ∨ x ∈ l := by
  induction l with
  | nil => simp [kins]
  | cons y r ih =>
    unfold kins
    split
    · simp
    · split
      · rename_i e; subst e; simp
      · simp only [List.mem_cons, ih]
        constructor
        · rintro (e | e | e)
          · exact .inr (.inl e)
          · exact .inl e
          · exact .inr (.inr e)
        · rintro (e | e | e)
          · exact .inr (.inl e)
          · exact .inl e
          · exact .inr (.inr e)
theorem asc_kins (h : Int) : ∀ {l : List Int}, Asc l → Asc (kins h l) := by
  intro l
  induction l with
  | nil => intro _; simp [kins]
  | cons y r ih =>
    intro hl
    obtain ⟨l1, l2⟩ := List.pairwise_cons.mp hl
    unfold kins
    split
    · refine List.pairwise_cons.mpr ⟨fun z hz => ?_, hl⟩
      rcases List.mem_cons.mp hz with e | e
      · omega
      · have := l1 z e; omega
    · split
      · exact hl
      · refine List.pairwise_cons.mpr ⟨fun z hz => ?_, ih l2⟩
        rcases (mem_kins h r z).mp hz with e | e
        · omega
        · exact l1 z e
theorem kins_mem {h : Int} {l : List Int} (ha : Asc l) (hm : h ∈ l) : kins h l = l :=
  asc_ext (asc_kins h ha) ha fun x => by
    rw [mem_kins]
    exact ⟨fun e => e.elim (fun e => by rw [e]; exact hm) id, .inr⟩
theorem kins_len {h : Int} : ∀ {l : List Int}, Asc l → h ∉ l → (kins h l).length = l.length + 1 := by
  intro l
  induction l with
  | nil => intro _ _; rfl
  | cons y r ih =>
    intro hl hn
    obtain ⟨l1, l2⟩ := List.pairwise_cons.mp hl
    unfold kins
    split
    · simp
    · split
      · rename_i e; subst e; simp at hn
      · simp [ih l2 (fun h => hn (by simp [h]))]
/-- How many are less. -/
def below (l : List Int) (x : Int) : Nat := (l.filter (fun y => decide (y < x))).length
theorem below_cons (y : Int) (l : List Int) (x : Int) : below (y :: l) x = (if y < x then 1 else 0) + below l x := by
  unfold below
  rw [List.filter_cons]
  by_cases c : y < x
  · rw [if_pos (by simpa using c), if_pos c]; simp; omega
  · rw [if_neg (by simpa using c), if_neg c]; omega
theorem below_none {l : List Int} {x : Int} (h : ∀ y ∈ l, x ≤ y) : below l x = 0 := by
  unfold below
  rw [List.length_eq_zero_iff, List.filter_eq_nil_iff]
  intro y hy
  have := h y hy
  simp; omega
theorem mem_take : ∀ (n : Nat) {l : List Int}, Asc l → ∀ x, x ∈ l.take n ↔ x ∈ l ∧ below l x < n := by
  intro n l
  induction l generalizing n with
  | nil => intro _ x; simp
  | cons y r ih =>
    intro hl x
    obtain ⟨l1, l2⟩ := List.pairwise_cons.mp hl
    cases n with
    | zero => simp
    | succ n =>
      rw [List.take_succ_cons, List.mem_cons, List.mem_cons, below_cons, ih n l2 x]
      by_cases e : x = y
      · subst e
        have := below_none (l := r) (x := x) (fun z hz => by have := l1 z hz; omega)
        simp [this]
      · constructor
        · rintro (h | ⟨h1, h2⟩)
          · exact absurd h e
          · have := l1 x h1
            rw [if_pos this]
            exact ⟨.inr h1, by omega⟩
        · rintro ⟨h1 | h1, h2⟩
          · exact absurd h1 e
          · have := l1 x h1
            rw [if_pos this] at h2
            exact .inr ⟨h1, by omega⟩
theorem asc_take {l : List Int} (h : Asc l) (n : Nat) : Asc (l.take n) := h.sublist (List.take_sublist n l)
theorem nodup_le : ∀ {l m : List Int}, l.Nodup → (∀ x ∈ l, x ∈ m) → l.length ≤ m.length := by
  intro l
  induction l with
  | nil => intro m _ _; exact Nat.zero_le _
  | cons x r ih =>
    intro m hn h
    obtain ⟨h1, h2⟩ := List.nodup_cons.mp hn
    have hx := h x (by simp)
    have := ih (m := m.erase x) h2 (fun z hz => (List.mem_erase_of_ne (by rintro rfl; exact h1 hz)).mpr (h z (by simp [hz])))
    rw [List.length_erase_of_mem hx] at this
    have := List.length_pos_of_mem hx
    rw [List.length_cons]; omega
theorem asc_nodup {l : List Int} (h : Asc l) : l.Nodup := List.Pairwise.imp (fun h => by omega) h
/-- The number of those below depends on who is in alone. -/
theorem below_le {l m : List Int} (hl : Asc l) (x : Int) (h : ∀ y, y ∈ l → y < x → y ∈ m) : below l x ≤ below m x := by
  unfold below
  refine nodup_le (asc_nodup (hl.sublist List.filter_sublist)) fun z hz => ?_
  rw [List.mem_filter] at hz ⊢
  exact ⟨h z hz.1 (by simpa using hz.2), hz.2⟩
theorem below_mono {l m : List Int} (hl : Asc l) (h : ∀ y, y ∈ l → y ∈ m) (x : Int) : below l x ≤ below m x := below_le hl x fun y hy _ => h y hy
theorem below_up (l : List Int) {x y : Int} (h : x ≤ y) : below l x ≤ below l y := by
  unfold below
  induction l with
  | nil => exact Nat.le_refl _
  | cons z l ih =>
    rw [List.filter_cons, List.filter_cons]
    by_cases c : z < x
    · rw [if_pos (by simpa using c), if_pos (by simp; omega)]; simp only [List.length_cons]; omega
    · rw [if_neg (by simpa using c)]
      split
      · simp only [List.length_cons]; omega
      · exact ih
theorem below_len (l : List Int) (x : Int) : below l x ≤ l.length := List.length_filter_le _ _
theorem below_all {l : List Int} {x : Int} (h : ∀ y ∈ l, y < x) : below l x = l.length := by
  unfold below
  rw [List.filter_eq_self.mpr (fun y hy => by simpa using h y hy)]
/-- All of a list, in order, each once. -/
def kall (s l : List Int) : List Int := l.foldl (fun s h => kins h s) s
theorem asc_kall {l : List Int} : ∀ {s : List Int}, Asc s → Asc (kall s l) := by
  induction l with
  | nil => intro s h; exact h
  | cons x l ih => intro s h; exact ih (asc_kins x h)
theorem mem_kall {l : List Int} : ∀ {s : List Int} (x : Int), x ∈ kall s l ↔ x ∈ s ∨ x ∈ l := by
  induction l with
  | nil => intro s x; simp [kall]
  | cons y l ih =>
    intro s x
    show x ∈ kall (kins y s) l ↔ _
    rw [ih, mem_kins, List.mem_cons]
    exact ⟨fun h => h.elim (fun h => h.elim (fun h => .inr (.inl h)) .inl) (fun h => .inr (.inr h)), fun h => h.elim (fun h => .inl (.inr h)) (fun h => h.elim (fun h => .inl (.inl h)) .inr)⟩
/-- The least n of both: what is no more among the least n of one is none of both together. -/
theorem take_union (n : Nat) {a b u v : List Int} (hb : Asc b) (hu : Asc u) (hv : Asc v) (mu : ∀ x, x ∈ u ↔ x ∈ a ∨ x ∈ b) (mv : ∀ x, x ∈ v ↔ x ∈ a ∨ x ∈ b.take n) : v.take n = u.take n := by
  have sub : ∀ y, y ∈ v → y ∈ u := fun y hy => by
    rw [mv] at hy; rw [mu]
    rcases hy with h | h
    · exact .inl h
    · exact .inr (List.mem_of_mem_take h)
  refine asc_ext (asc_take hv n) (asc_take hu n) fun x => ?_
  rw [mem_take n hv, mem_take n hu]
  have le := below_mono hv sub x
  constructor
  · rintro ⟨h1, h2⟩
    refine ⟨sub x h1, ?_⟩
    by_cases all : ∀ y, y ∈ u → y < x → y ∈ v
    · exact Nat.lt_of_le_of_lt (below_le hu x all) h2
    · exfalso
      have : ∃ y, y ∈ u ∧ y < x ∧ y ∉ v := Classical.byContradiction fun hh => all fun y h1 h2 => Classical.byContradiction fun h3 => hh ⟨y, h1, h2, h3⟩
      obtain ⟨y, y1, y2, y3⟩ := this
      have yb : y ∈ b := by
        rcases (mu y).mp y1 with h | h
        · exact absurd ((mv y).mpr (.inl h)) y3
        · exact h
      have yn : ¬ below b y < n := fun h => y3 ((mv y).mpr (.inr ((mem_take n hb y).mpr ⟨yb, h⟩)))
      have bl := below_len b y
      have tl : (b.take n).length = n := by rw [List.length_take]; omega
      have ba : below (b.take n) x = n := by
        rw [below_all, tl]
        intro z hz
        have := ((mem_take n hb z).mp hz).2
        rcases Int.lt_or_le z y with c | c
        · omega
        · have := below_up b c; omega
      have := below_le (m := v) (asc_take hb n) x fun z hz _ => (mv z).mpr (.inr hz)
      omega
  · rintro ⟨h1, h2⟩
    refine ⟨?_, by omega⟩
    rw [mv]
    rcases (mu x).mp h1 with h | h
    · exact .inl h
    · refine .inr ((mem_take n hb x).mpr ⟨h, ?_⟩)
      exact Nat.lt_of_le_of_lt (below_mono hb (fun y hy => (mu y).mpr (.inr hy)) x) h2
def khash (s : List Int) (h : Int) : List Int := (kins h s).take 1024
def kmany (s l : List Int) : List Int := l.foldl khash s
theorem asc_khash {s : List Int} (hs : Asc s) (h : Int) : Asc (khash s h) := asc_take (asc_kins h hs) 1024
theorem khash_len (s : List Int) (h : Int) : (khash s h).length ≤ 1024 := by unfold khash; rw [List.length_take]; omega
theorem kmany_eq {l : List Int} : ∀ {s : List Int}, Asc s → s.length ≤ 1024 → kmany s l = (kall s l).take 1024 := by
  induction l with
  | nil => intro s _ hs; show s = s.take 1024; rw [List.take_of_length_le hs]
  | cons h l ih =>
    intro s ha hs
    show kmany (khash s h) l = (kall (kins h s) l).take 1024
    rw [ih (asc_khash ha h) (khash_len s h)]
    have a1 := asc_kins h ha
    exact take_union 1024 (a := l) (b := kins h s) a1 (asc_kall a1) (asc_kall (asc_take a1 1024)) (fun x => by rw [mem_kall]; exact Or.comm) (fun x => by rw [mem_kall]; exact Or.comm)
theorem kmany_snoc (s l : List Int) (h : Int) : kmany s (l ++ [h]) = khash (kmany s l) h := by simp [kmany, List.foldl_append]
/-- A list that may be, into nothing: the list. -/
theorem kmany_nil {l : List Int} (hl : Asc l) (h : l.length ≤ 1024) : kmany [] l = l := by
  rw [kmany_eq List.Pairwise.nil (by simp)]
  have : kall [] l = l := asc_ext (asc_kall List.Pairwise.nil) hl fun x => by rw [mem_kall]; simp
  rw [this, List.take_of_length_le h]
end Go.Proofs.Ytncgjbocgbnkcaa.Pure
namespace Go.Proofs.Ytncgjbocgbnkcaa
set_option linter.unusedVariables false
set_option linter.unusedSimpArgs false
open Go.RowKit Go.Sort Go.Proofs
/-- A quiet call behind a quiet region: the draws are one sum. -/
theorem quiet_add_same {P : Program} {f : FuncId} {args : Array Value} {w : World} {a n : Nat} {v : Value} (h : Calls P f args (w.drewN (a + n)) fun e w' => e = .returned v ∧ w' = w.drewN (a + n)) :
    Calls P f args (w.drewN (a + n)) fun e w'' => e = .returned v ∧ ∃ m, w'' = w.drewN (a + m) := h.mono fun _ _ ⟨he, hm⟩ => ⟨he, n, hm⟩
theorem isNaN_u (x : Int) (w : World) : Calls Try.prog 154 #[.int .u64 x] w fun e w' => e = .returned (.bool false) ∧ w' = w := by
  go_enter Try.func154, Try.ntmps154
  go_wp2
  go_ret
  exact ⟨by simp, rfl⟩
theorem less_u (x y : Int) (w : World) : Calls Try.prog 143 #[.int .u64 x, .int .u64 y] w fun e w' => e = .returned (.bool (Sort.ltInt x y)) ∧ w' = w := by
  go_enter Try.func143, Try.ntmps143
  go_wp2_with (go_at_call 154; refine (isNaN_u _ _).mono ?_; rintro e w' ⟨rfl, rfl⟩)
  go_ret
  exact ⟨rfl, rfl⟩
/-- An exchange of two places, some draws on. -/
theorem swapU {wr w : World} {n blk off : Nat} {dk : Array Int} (hw : wr = putRow (Value.int .u64) (Sort.ahead w n) blk off dk) {q j k : Nat} {x y : Int} (hj : j < dk.size) (hk : k < dk.size) (hx : x = dk[k]!) (hy : y = dk[j]!) :
    ((wr.drewN q).setCell ⟨blk, off + j, none⟩ (.int .u64 x)).setCell ⟨blk, off + k, none⟩ (.int .u64 y) = putRow (Value.int .u64) (Sort.ahead w (n + q)) blk off (swp dk j k) := by
  rw [hw, hx, hy]
  exact swap_worldA _ w n q blk off dk j k hj hk
/-- A call on a row behind some draws. -/
theorem thenU {wr w : World} {n blk off q : Nat} {dk d' : Array Int} (hw : wr = putRow (Value.int .u64) (Sort.ahead w n) blk off dk) (hs : d'.size = dk.size) : putRow (Value.int .u64) (Sort.ahead wr q) blk off d' = putRow (Value.int .u64) (Sort.ahead w (n + q)) blk off d' := by
  rw [hw]; exact putRow_ahead_putRow _ _ _ _ _ _ _ _ hs
theorem holdsU {wr w : World} {n blk off : Nat} {d dk : Array Int} (hH : Holds (Value.int .u64) w blk off d) (hs : dk.size = d.size) (hw : wr = putRow (Value.int .u64) (Sort.ahead w n) blk off dk) : Holds (Value.int .u64) wr blk off dk := by
  rw [hw]; exact holds_putRow _ _ _ _ d dk (holds_ahead _ _ _ _ _ _ hH) hs
set_option maxHeartbeats 1000000 in
theorem insertionSort_u (blk off len cap a b : Nat) (d : Array Int) (hlen : d.size = len) (w : World) (hH : Holds (Value.int .u64) w blk off d) (hab : a ≤ b) (hb : b ≤ d.size) (hsz : d.size < 4611686018427387904) :
    Calls Try.prog 137 #[.slice (some ⟨blk, off, none⟩) len cap, .int .i64 a, .int .i64 b] w fun e w' =>
      e = .returned (.tuple #[]) ∧ ∃ n, w' = putRow (Value.int .u64) (Sort.ahead w n) blk off (Sort.insertionSort ltInt d a b) := by
  subst hlen
  go_enter Try.func137, Try.ntmps137
  go_wp2
  go_loopw [6] (fun vi wr => ∃ (i n : Nat) (dk : Array Int), vi = .int .i64 i ∧ a < i ∧ i ≤ b + 1 ∧ dk.size = d.size ∧ wr = putRow (Value.int .u64) (Sort.ahead w n) blk off dk ∧
      insOuter ltInt a b i dk = insOuter ltInt a b (a + 1) d) (fun vi _ => b + 1 - (intOf vi).toNat)
  case atStart => exact ⟨a + 1, 0, d, by go_num, by omega, by omega, rfl, (putRow_self _ _ _ _ _ hH).symm, rfl⟩
  case round =>
    obtain ⟨i, n, dk, rfl, hai, hib, hsk, hwr, hO⟩ := hrel
    have HO := Lib.hid hO
    clear hO
    go_wp2
    · go_loopw [7] (fun vj wr2 => ∃ (j m : Nat) (dj : Array Int), vj = .int .i64 j ∧ a ≤ j ∧ j ≤ i ∧ dj.size = d.size ∧ wr2 = putRow (Value.int .u64) (Sort.ahead w m) blk off dj ∧
          insInner ltInt a j dj = insInner ltInt a i dk) (fun vj _ => (intOf vj).toNat)
      case atStart => exact ⟨i, n, dk, rfl, by omega, Nat.le_refl _, hsk, rfl, rfl⟩
      case round =>
        obtain ⟨j, m, dj, rfl, haj, hji, hsj, hw2, hI⟩ := hrel
        have hlt : i < b := by assumption
        obtain ⟨G, hG⟩ : ∃ G : Nat → Int, ∀ t, G t = dj[t]! := ⟨fun t => dj[t]!, fun _ => rfl⟩
        have hcw : ∀ t, t < d.size → wr.cell? ⟨blk, off + t, none⟩ = some (.int .u64 (G t)) := fun t ht => by
          rw [hw2, hG]; exact cell?_putRow _ _ _ _ d dj (holds_ahead _ _ _ _ _ _ hH) hsj t (by omega)
        have hfw : ∀ t, t < d.size → wr.frozen? ⟨blk, off + t, none⟩ = false := fun t ht => by
          rw [hw2, frozen?_putRow]; exact ((holds_ahead _ _ m _ _ _ hH) t ht).2
        have HW := Lib.hid hw2
        have HG := Lib.hid hG
        have HI := Lib.hid hI
        clear hw2 hG hI hH
        have out : (j ≤ a ∨ ltInt dj[j]! dj[j - 1]! = false) → ∀ q, ∃ i' n' dk', Value.int .i64 ((i : Int) + 1) = .int .i64 (i' : Nat) ∧ a < i' ∧ i' ≤ b + 1 ∧ dk'.size = d.size ∧
            wr.drewN q = putRow (Value.int .u64) (Sort.ahead w n') blk off dk' ∧ insOuter ltInt a b i' dk' = insOuter ltInt a b (a + 1) d := fun hs q =>
          ⟨i + 1, m + q, dj, by go_num, by omega, by omega, hsj, by rw [HW.out]; exact putRow_drewN _ _ _ _ _ _ _,
            by rw [← HO.out, insOuter_go _ _ _ _ _ hlt, ← HI.out, insInner_stop _ _ _ _ hs]⟩
        have OUT := Lib.hid out
        clear out
        go_wp2
        by_cases hja : a < j
        · go_quiet (first | (go_at_call 143; refine Calls.quiet_of_same (less_u _ _ _)))
          go_wp2
          · have hl : ltInt (G j) (G (j - 1)) = true := by assumption
            go_region
            all_goals go_wp2
            go_roundw
            case rel =>
              refine ⟨j - 1, m + (nq + 1), swp dj j (j - 1), by congr 1; omega, by omega, by omega, by rw [size_swp]; exact hsj, ?_, ?_⟩
              · rw [HW.out, HG.out, HG.out]
                exact swap_worldA _ w m (nq + 1) blk off dj j (j - 1) (by omega) (by omega)
              · rw [← HI.out, insInner_go ltInt a j dj hja (by rw [← HG.out, ← HG.out]; exact hl)]
            case measure => simp [intOf]; omega
          · have hl : ltInt (G j) (G (j - 1)) = false := by assumption
            go_roundw
            case rel => exact OUT.out (Or.inr (by rw [← HG.out, ← HG.out]; exact hl)) nq
            case measure => simp [intOf]; omega
        · go_quiet (first | (go_at_call 143; refine Calls.quiet_of_same (less_u _ _ _)))
          go_wp2
          go_roundw
          case rel => exact OUT.out (Or.inl (by omega)) nq
          case measure => simp [intOf]; omega
    · have hge : ¬ i < b := by assumption
      go_end0
      exact ⟨rfl, n, by unfold Sort.insertionSort; rw [← HO.out, insOuter_stop _ _ _ _ _ hge]⟩
end Go.Proofs.Ytncgjbocgbnkcaa
namespace Go.Proofs.Ytncgjbocgbnkcaa
set_option linter.unusedVariables false
set_option linter.unusedSimpArgs false
open Go.RowKit Go.Sort Go.Proofs
/-- What a row holds behind some draws, its numbers under one name. -/
theorem famU {w wr : World} {m blk off : Nat} {d dj : Array Int} (hH : Holds (Value.int .u64) w blk off d) (hs : dj.size = d.size) (hw : wr = putRow (Value.int .u64) (Sort.ahead w m) blk off dj) :
    ∃ G : Nat → Int, (∀ t, G t = dj[t]!) ∧ (∀ t, t < d.size → wr.cell? ⟨blk, off + t, none⟩ = some (.int .u64 (G t))) ∧ (∀ t, t < d.size → wr.frozen? ⟨blk, off + t, none⟩ = false) :=
  ⟨fun t => dj[t]!, fun _ => rfl, fun t ht => by rw [hw]; exact cell?_putRow _ _ _ _ d dj (holds_ahead _ _ _ _ _ _ hH) hs t (by omega), fun t ht => by rw [hw, frozen?_putRow]; exact ((holds_ahead _ _ m _ _ _ hH) t ht).2⟩
set_option maxHeartbeats 2000000 in
theorem siftDown_u (blk off len cap lo hi first : Nat) (d : Array Int) (hlen : d.size = len) (w : World) (hH : Holds (Value.int .u64) w blk off d) (hb : first + hi ≤ d.size) (hlo : lo ≤ hi) (hsz : d.size < 4611686018427387904) :
    Calls Try.prog 149 #[.slice (some ⟨blk, off, none⟩) len cap, .int .i64 lo, .int .i64 hi, .int .i64 first] w fun e w' =>
      e = .returned (.tuple #[]) ∧ ∃ n, w' = putRow (Value.int .u64) (Sort.ahead w n) blk off (siftDown ltInt hi first lo d) := by
  subst hlen
  go_enter Try.func149, Try.ntmps149
  go_wp2
  go_loopw [8] (fun vi wr => ∃ (i n : Nat) (dk : Array Int), vi = .int .i64 i ∧ i ≤ hi ∧ dk.size = d.size ∧ wr = putRow (Value.int .u64) (Sort.ahead w n) blk off dk ∧
      siftDown ltInt hi first i dk = siftDown ltInt hi first lo d) (fun vi _ => hi - (intOf vi).toNat)
  case atStart => exact ⟨lo, 0, d, rfl, hlo, rfl, (putRow_self _ _ _ _ _ hH).symm, rfl⟩
  case round =>
    obtain ⟨i, n, dk, rfl, hi1, hsk, hwr, hO⟩ := hrel
    obtain ⟨G, hG, hcw, hfw⟩ := famU hH hsk hwr
    have HO := Lib.hid hO; have HG := Lib.hid hG; have HW := Lib.hid hwr
    clear hO hG hwr hH
    have DR : ∀ m, wr.drewN m = putRow (Value.int .u64) (Sort.ahead w (n + m)) blk off dk := fun m => by rw [HW.out]; exact putRow_drewN _ _ _ _ _ _ _
    have HDR := Lib.hid DR
    clear DR
    have e1 : first + (2 * i + 1) = first + 2 * i + 1 := by omega
    have e2 : first + (2 * i + 2) = first + 2 * i + 2 := by omega
    by_cases c1 : 2 * i + 1 < hi
    · by_cases c2 : 2 * i + 2 < hi
      · have g1 : decide (2 * (i : Int) + 1 + 1 < (hi : Int)) = true := decide_eq_true (by omega)
        have g2 : (2 * (i : Int) + 1 + 1 < (hi : Int)) := by omega
        go_wp2
        go_quiet (first | (go_at_call 143; exact Calls.quiet_of_same (less_u _ _ _)) | (go_at_call 143; exact quiet_add_same (less_u _ _ _)))
        go_wp2
        all_goals
          go_quiet (first | (go_at_call 143; exact Calls.quiet_of_same (less_u _ _ _)) | (go_at_call 143; exact quiet_add_same (less_u _ _ _)))
          go_wp2
        · have l12 : ltInt (G (first + 2 * i + 1)) (G (first + 2 * i + 2)) = true := by assumption
          have l0 : (!ltInt (G (first + i)) (G (first + 2 * i + 2))) = true := by assumption
          refine bodyPost_ret (results_none rfl _ _ _) rfl ?_
          exact ⟨rfl, _, by rw [HDR.out, putRow_drewN, ← HO.out, sd_right_stop ltInt dk c2 (by rw [e1, e2, ← HG.out, ← HG.out]; exact l12) (by rw [e2, ← HG.out, ← HG.out]; simpa using l0)]⟩
        · have l12 : ltInt (G (first + 2 * i + 1)) (G (first + 2 * i + 2)) = true := by assumption
          have l0 : (!ltInt (G (first + i)) (G (first + 2 * i + 2))) = false := by assumption
          go_region
          all_goals go_wp2
          go_roundw
          case rel =>
            refine ⟨2 * i + 2, _, swp dk (first + i) (first + 2 * i + 2), by first | rfl | (congr 1; omega), by omega, by rw [size_swp]; exact hsk, swapU HW.out (by omega) (by omega) (HG.out _) (HG.out _), ?_⟩
            rw [← HO.out, sd_right_go ltInt dk c2 (by rw [e1, e2, ← HG.out, ← HG.out]; exact l12) (by rw [e2, ← HG.out, ← HG.out]; simpa using l0), e2]
          case measure => simp [intOf]; omega
        · have l12 : ltInt (G (first + 2 * i + 1)) (G (first + 2 * i + 2)) = false := by assumption
          have l0 : (!ltInt (G (first + i)) (G (first + 2 * i + 1))) = true := by assumption
          refine bodyPost_ret (results_none rfl _ _ _) rfl ?_
          exact ⟨rfl, _, by rw [HDR.out, putRow_drewN, ← HO.out, sd_left_stop ltInt dk c1 (fun _ => by rw [e1, e2, ← HG.out, ← HG.out]; exact l12) (by rw [e1, ← HG.out, ← HG.out]; simpa using l0)]⟩
        · have l12 : ltInt (G (first + 2 * i + 1)) (G (first + 2 * i + 2)) = false := by assumption
          have l0 : (!ltInt (G (first + i)) (G (first + 2 * i + 1))) = false := by assumption
          go_region
          all_goals go_wp2
          go_roundw
          case rel =>
            refine ⟨2 * i + 1, _, swp dk (first + i) (first + 2 * i + 1), by first | rfl | (congr 1; omega), by omega, by rw [size_swp]; exact hsk, swapU HW.out (by omega) (by omega) (HG.out _) (HG.out _), ?_⟩
            rw [← HO.out, sd_left_go ltInt dk c1 (fun _ => by rw [e1, e2, ← HG.out, ← HG.out]; exact l12) (by rw [e1, ← HG.out, ← HG.out]; simpa using l0), e1]
          case measure => simp [intOf]; omega
      · have g1 : decide (2 * (i : Int) + 1 + 1 < (hi : Int)) = false := decide_eq_false (by omega)
        have g2 : ¬ (2 * (i : Int) + 1 + 1 < (hi : Int)) := by omega
        go_wp2
        go_quiet (first | (go_at_call 143; exact Calls.quiet_of_same (less_u _ _ _)) | (go_at_call 143; exact quiet_add_same (less_u _ _ _)))
        go_wp2
        go_quiet (first | (go_at_call 143; exact Calls.quiet_of_same (less_u _ _ _)) | (go_at_call 143; exact quiet_add_same (less_u _ _ _)))
        go_wp2
        · have l0 : (!ltInt (G (first + i)) (G (first + 2 * i + 1))) = true := by assumption
          refine bodyPost_ret (results_none rfl _ _ _) rfl ?_
          exact ⟨rfl, _, by rw [HDR.out, putRow_drewN, ← HO.out, sd_left_stop ltInt dk c1 (fun h => absurd h c2) (by rw [e1, ← HG.out, ← HG.out]; simpa using l0)]⟩
        · have l0 : (!ltInt (G (first + i)) (G (first + 2 * i + 1))) = false := by assumption
          go_region
          all_goals go_wp2
          go_roundw
          case rel =>
            refine ⟨2 * i + 1, _, swp dk (first + i) (first + 2 * i + 1), by first | rfl | (congr 1; omega), by omega, by rw [size_swp]; exact hsk, swapU HW.out (by omega) (by omega) (HG.out _) (HG.out _), ?_⟩
            rw [← HO.out, sd_left_go ltInt dk c1 (fun h => absurd h c2) (by rw [e1, ← HG.out, ← HG.out]; simpa using l0), e1]
          case measure => simp [intOf]; omega
    · go_wp2
      go_end0
      exact ⟨rfl, n, by rw [HW.out, ← HO.out, sd_end ltInt dk (by omega)]⟩
end Go.Proofs.Ytncgjbocgbnkcaa
namespace Go.Proofs.Ytncgjbocgbnkcaa
set_option linter.unusedVariables false
set_option linter.unusedSimpArgs false
open Go.RowKit Go.Sort Go.Proofs
theorem reverseLoop_go (i j : Nat) (d : Array Int) (h : i < j) : reverseLoop i j d = reverseLoop (i + 1) (j - 1) (swp d i j) := by rw [reverseLoop, if_pos h]
theorem reverseLoop_end (i j : Nat) (d : Array Int) (h : ¬ i < j) : reverseLoop i j d = d := by rw [reverseLoop, if_neg h]
set_option maxHeartbeats 1000000 in
theorem reverseRange_u (blk off len cap a b : Nat) (d : Array Int) (hlen : d.size = len) (w : World) (hH : Holds (Value.int .u64) w blk off d) (hab : a < b) (hb : b ≤ d.size) (hsz : d.size < 4611686018427387904) :
    Calls Try.prog 141 #[.slice (some ⟨blk, off, none⟩) len cap, .int .i64 a, .int .i64 b] w fun e w' =>
      e = .returned (.tuple #[]) ∧ ∃ n, w' = putRow (Value.int .u64) (Sort.ahead w n) blk off (Sort.reverseRange d a b) := by
  subst hlen
  have e0 : (b : Int) - 1 = ((b - 1 : Nat) : Int) := by omega
  go_enter Try.func141, Try.ntmps141
  go_wp2
  go_loopw [6, 7] (fun vi vj wr => ∃ (i j n : Nat) (dk : Array Int), vi = .int .i64 i ∧ vj = .int .i64 j ∧ i ≤ j + 1 ∧ j < b ∧ dk.size = d.size ∧ wr = putRow (Value.int .u64) (Sort.ahead w n) blk off dk ∧
      reverseLoop i j dk = reverseLoop a (b - 1) d) (fun vi _ _ => b - (intOf vi).toNat)
  case atStart => exact ⟨a, b - 1, 0, d, rfl, by first | rfl | rw [e0], by omega, by omega, rfl, (putRow_self _ _ _ _ _ hH).symm, rfl⟩
  case round =>
    obtain ⟨i, j, n, dk, rfl, rfl, hij, hjb, hsk, hwr, hO⟩ := hrel
    obtain ⟨G, hG, hcw, hfw⟩ := famU hH hsk hwr
    have HO := Lib.hid hO; have HG := Lib.hid hG; have HW := Lib.hid hwr
    clear hO hG hwr hH e0
    by_cases c : i < j
    · go_wp2
      go_region
      all_goals go_wp2
      go_roundw
      case rel => exact ⟨i + 1, j - 1, _, swp dk i j, by go_num, by congr 1; omega, by omega, by omega, by rw [size_swp]; exact hsk, swapU (q := 1) HW.out (by omega) (by omega) (HG.out _) (HG.out _), by rw [← HO.out, reverseLoop_go i j dk c]⟩
      case measure => simp [intOf]; omega
    · go_wp2
      go_end0
      exact ⟨rfl, n, by rw [HW.out, Sort.reverseRange, ← HO.out, reverseLoop_end i j dk c]⟩
theorem size_sift (hi F root : Nat) (d : Array Int) : (siftDown ltInt hi F root d).size = d.size := size_siftDown ltInt hi F _ root d (Nat.le_refl _)
theorem build_go (hi F k : Nat) (d : Array Int) : heapBuild ltInt hi F (k + 1) d = heapBuild ltInt hi F k (siftDown ltInt hi F k d) := rfl
theorem pop_go (F k : Nat) (d : Array Int) : heapPop ltInt F (k + 1) d = heapPop ltInt F k (siftDown ltInt k F 0 (swp d F (F + k))) := rfl
set_option maxHeartbeats 2000000 in
theorem heapSort_u (blk off len cap a b : Nat) (d : Array Int) (hlen : d.size = len) (w : World) (hH : Holds (Value.int .u64) w blk off d) (hab : a ≤ b) (hb : b ≤ d.size) (hsz : d.size < 4611686018427387904) :
    Calls Try.prog 138 #[.slice (some ⟨blk, off, none⟩) len cap, .int .i64 a, .int .i64 b] w fun e w' =>
      e = .returned (.tuple #[]) ∧ ∃ n, w' = putRow (Value.int .u64) (Sort.ahead w n) blk off (Sort.heapSort ltInt d a b) := by
  subst hlen
  obtain ⟨hi, hhi⟩ : ∃ hi : Nat, b - a = hi := ⟨_, rfl⟩
  have e0 : (b : Int) - (a : Int) = (hi : Int) := by omega
  have hs := half_start hab
  rw [e0, hhi] at hs
  obtain ⟨T, hT⟩ : ∃ T : Int, T = (((hi - 1) / 2 + 1 : Nat) : Int) - 1 := ⟨_, rfl⟩
  rw [← hT] at hs
  have HS := Lib.hid hs
  have HT := Lib.hid hT
  clear hT
  have HE := Lib.hid e0
  have HI := Lib.hid hhi
  have hb2 : a + hi ≤ d.size := by omega
  have hh : heapSort ltInt d a b = heapPop ltInt a hi (heapBuild ltInt hi a ((hi - 1) / 2 + 1) d) := by unfold Sort.heapSort; rw [hhi]
  have HH := Lib.hid hh
  clear e0 hs hhi hh
  go_enter Try.func138, Try.ntmps138
  go_wp2
  rw [HE.out, HS.out]
  go_loopw [9] (fun vi wr => ∃ (k n : Nat) (z : Int) (dk : Array Int), vi = .int .i64 z ∧ z = (k : Int) - 1 ∧ k ≤ (hi - 1) / 2 + 1 ∧ dk.size = d.size ∧ wr = putRow (Value.int .u64) (Sort.ahead w n) blk off dk ∧
      heapBuild ltInt hi a k dk = heapBuild ltInt hi a ((hi - 1) / 2 + 1) d) (fun vi _ => (intOf vi + 1).toNat)
  case atStart => exact ⟨_, 0, _, d, rfl, HT.out, Nat.le_refl _, rfl, (putRow_self _ _ _ _ _ hH).symm, rfl⟩
  case round =>
    obtain ⟨k, n, z, dk, rfl, hz, hk, hsk, hwr, hO⟩ := hrel
    have HO := Lib.hid hO; have HW := Lib.hid hwr; have HK := Lib.hid hsk
    clear hO hwr
    rcases Nat.eq_zero_or_pos k with hk0 | hk0
    · subst hk0
      have hz2 : ¬ (0 ≤ z) := by omega
      have hz3 : decide (0 ≤ z) = false := decide_eq_false hz2
      go_wp2
      go_loopw [10] (fun vi wr => ∃ (k n : Nat) (z : Int) (dj : Array Int), vi = .int .i64 z ∧ z = (k : Int) - 1 ∧ k ≤ hi ∧ dj.size = d.size ∧ wr = putRow (Value.int .u64) (Sort.ahead w n) blk off dj ∧
          heapPop ltInt a k dj = heapPop ltInt a hi dk) (fun vi _ => (intOf vi + 1).toNat)
      case atStart => exact ⟨hi, n, _, dk, rfl, rfl, Nat.le_refl _, HK.out, HW.out, rfl⟩
      case round =>
        obtain ⟨k, n, z, dj, rfl, hz, hk, hsj, hwr, hP⟩ := hrel
        obtain ⟨G, hG, hcw, hfw⟩ := famU hH hsj hwr
        have HP := Lib.hid hP; have HG := Lib.hid hG; have HW := Lib.hid hwr
        clear hP hG hwr hz2 hz3
        rcases Nat.eq_zero_or_pos k with hk0 | hk0
        · subst hk0
          have hz2 : ¬ (0 ≤ z) := by omega
          have hz3 : decide (0 ≤ z) = false := decide_eq_false hz2
          go_wp2
          go_end0
          exact ⟨rfl, n, by rw [HW.out, HH.out, ← HO.out]; exact congrArg _ (show dj = _ by rw [show heapBuild ltInt hi a 0 dk = dk from rfl, ← HP.out]; rfl)⟩
        · obtain ⟨k, rfl⟩ : ∃ m, k = m + 1 := ⟨k - 1, by omega⟩
          obtain rfl : z = (k : Int) := by omega
          clear hz
          have hca := hcw a (by omega)
          have hck := hcw (a + k) (by omega)
          obtain ⟨v', hy'⟩ := cell?_setCell_some (w := wr) (p := ⟨blk, off + a, none⟩) (x := .int .u64 (G (a + k))) (q := ⟨blk, off + (a + k), none⟩) (v := .int .u64 (G (a + k))) hck
          go_wp2
          go_region
          have SW := fun q x y (hx : x = dj[a + k]!) (hy : y = dj[a]!) => swapU (q := q) HW.out (j := a) (k := a + k) (by omega) (by omega) hx hy
          have hHr := holdsU hH hsj HW.out
          have SZ := size_swp dj a (a + k)
          have SW2 : ((wr.setCell ⟨blk, off + a, none⟩ (.int .u64 (G (a + k)))).setCell ⟨blk, off + (a + k), none⟩ (.int .u64 (G a))).drew = putRow (Value.int .u64) (Sort.ahead w (n + 1)) blk off (swp dj a (a + k)) := SW 1 _ _ (HG.out _) (HG.out _)
          obtain ⟨W2, hW2⟩ : ∃ W2, putRow (Value.int .u64) (Sort.ahead w (n + 1)) blk off (swp dj a (a + k)) = W2 := ⟨_, rfl⟩
          have C := siftDown_u blk off d.size cap 0 k a (swp dj a (a + k)) (by rw [SZ]; exact hsj) W2 (holdsU hH (by rw [SZ]; exact hsj) hW2.symm) (by rw [SZ]; omega) (by omega) (by rw [SZ]; omega)
          rw [hW2] at SW2
          have HW2 := Lib.hid hW2; have HSW2 := Lib.hid SW2
          clear hW2 SW2 hca hck hy' hcw hfw SW hHr
          all_goals
            rw [HSW2.out]
            go_wp2_with (go_at_call 149; refine C.mono ?_; rintro e w1 ⟨rfl, q, rfl⟩; clear C)
            go_roundw
            case rel => first | exact ⟨k, _, _, siftDown ltInt k a 0 (swp dj a (a + k)), rfl, by first | rfl | omega, by omega, by rw [size_sift, SZ]; exact hsj, thenU HW2.out.symm (size_sift _ _ _ _), by rw [← HP.out, pop_go]⟩ | ((repeat apply Exists.intro); exact ⟨⟨k, _, _, siftDown ltInt k a 0 (swp dj a (a + k)), rfl, by first | rfl | omega, by omega, by rw [size_sift, SZ]; exact hsj, thenU HW2.out.symm (size_sift _ _ _ _), by rw [← HP.out, pop_go]⟩, rfl⟩)
            case measure => first | (simp [intOf]; done) | (simp [intOf]; omega)
    · obtain ⟨k, rfl⟩ : ∃ m, k = m + 1 := ⟨k - 1, by omega⟩
      obtain rfl : z = (k : Int) := by omega
      clear hz
      have hHr := holdsU hH hsk HW.out
      have C := siftDown_u blk off d.size cap k hi a dk hsk wr hHr (by omega) (by omega) (by omega)
      clear hHr
      go_wp2_with (go_at_call 149; refine C.mono ?_; rintro e w1 ⟨rfl, q, rfl⟩; clear C)
      go_roundw
      case rel => first | exact ⟨k, _, _, siftDown ltInt hi a k dk, rfl, by first | rfl | omega, by omega, by rw [size_sift]; exact HK.out, thenU HW.out (size_sift _ _ _ _), by rw [← HO.out, build_go]⟩ | ((repeat apply Exists.intro); exact ⟨⟨k, _, _, siftDown ltInt hi a k dk, rfl, by first | rfl | omega, by omega, by rw [size_sift]; exact HK.out, thenU HW.out (size_sift _ _ _ _), by rw [← HO.out, build_go]⟩, rfl⟩)
      case measure => first | (simp [intOf]; done) | (simp [intOf]; omega)
end Go.Proofs.Ytncgjbocgbnkcaa
namespace Go.Proofs.Ytncgjbocgbnkcaa
set_option linter.unusedVariables false
set_option linter.unusedSimpArgs false
open Go.RowKit Go.Sort Go.Proofs
theorem size_shiftUp (b : Nat) : ∀ (n j : Nat) (d : Array Int), b - j ≤ n → (shiftUp ltInt b j d).size = d.size := by
  intro n
  induction n with
  | zero => intro j d h; rw [shiftUp, if_neg (by omega)]
  | succ n ih =>
    intro j d h
    rw [shiftUp]
    split
    · split
      · rfl
      · rw [ih _ _ (by omega), size_swp]
    · rfl
theorem scan_range (d : Array Int) (b : Nat) : ∀ (n i : Nat), b - i ≤ n → i ≤ b → i ≤ scanSorted ltInt d b i ∧ scanSorted ltInt d b i ≤ b := by
  intro n
  induction n with
  | zero => intro i h hi; rw [scanSorted_stop ltInt d b i (.inl (by omega))]; omega
  | succ n ih =>
    intro i h hi
    by_cases c : i < b
    · cases hl : ltInt d[i]! d[i - 1]! with
      | true => rw [scanSorted_stop ltInt d b i (.inr hl)]; omega
      | false => rw [scanSorted_go ltInt d b i c hl]; have := ih (i + 1) (by omega) (by omega); omega
    · rw [scanSorted_stop ltInt d b i (.inl c)]; omega
set_option maxHeartbeats 4000000 in
set_option maxRecDepth 100000 in
theorem partialIns_u (blk off len cap a b : Nat) (d : Array Int) (hlen : d.size = len) (w : World) (hH : Holds (Value.int .u64) w blk off d) (hab : a < b) (hb : b ≤ d.size) (hsz : d.size < 4611686018427387904) :
    Calls Try.prog 142 #[.slice (some ⟨blk, off, none⟩) len cap, .int .i64 a, .int .i64 b] w fun e w' =>
      e = .returned (.bool (Sort.partialInsertionSort ltInt d a b).2) ∧ ∃ n, w' = putRow (Value.int .u64) (Sort.ahead w n) blk off (Sort.partialInsertionSort ltInt d a b).1 := by
  subst hlen
  go_enter Try.func142, Try.ntmps142
  go_wp2
  go_loopw [7, 8] (fun vi vs wr => ∃ (i s n : Nat) (dk : Array Int), vi = .int .i64 i ∧ vs = .int .i64 s ∧ s ≤ 5 ∧ a < i ∧ i ≤ b ∧ dk.size = d.size ∧ wr = putRow (Value.int .u64) (Sort.ahead w n) blk off dk ∧
      partialIns ltInt a b (5 - s) i dk = Sort.partialInsertionSort ltInt d a b) (fun _ vs _ => 5 - (intOf vs).toNat)
  case atStart => exact ⟨a + 1, 0, 0, d, by go_num, rfl, by omega, by omega, by omega, rfl, (putRow_self _ _ _ _ _ hH).symm, rfl⟩
  case round =>
    obtain ⟨i, s, n, dk, rfl, rfl, hs5, hai, hib, hsk, hwr, hO⟩ := hrel
    have HO := Lib.hid hO; have HW := Lib.hid hwr
    clear hO hwr
    by_cases c5 : s < 5
    · go_upto_block 2 with (fail)
      go_cut [7] (fun v7 wc => ∃ (i2 m : Nat), v7 = .int .i64 i2 ∧ Hid (scanSorted ltInt dk b i = i2) ∧ Hid (wc = putRow (Value.int .u64) (Sort.ahead w m) blk off dk))
      case first =>
        go_wp2
        go_loopw [7] (fun vi wr2 => ∃ (j m : Nat), vi = .int .i64 j ∧ a < j ∧ j ≤ b ∧ wr2 = putRow (Value.int .u64) (Sort.ahead w m) blk off dk ∧ scanSorted ltInt dk b j = scanSorted ltInt dk b i) (fun vi _ => b - (intOf vi).toNat)
        case atStart => exact ⟨i, n, rfl, hai, hib, HW.out, rfl⟩
        case round =>
          obtain ⟨j, m, rfl, haj, hjb, hw2, hI⟩ := hrel
          obtain ⟨G, hG, hcw, hfw⟩ := famU hH hsk hw2
          have HI := Lib.hid hI; have HG := Lib.hid hG; have HW2 := Lib.hid hw2
          clear hI hG hw2
          by_cases hjb2 : j < b
          · go_wp2
            go_quiet (first | (go_at_call 143; exact Calls.quiet_of_same (less_u _ _ _)) | (go_at_call 143; exact quiet_add_same (less_u _ _ _)))
            go_wp2
            · have hl : (!ltInt (G j) (G (j - 1))) = true := by assumption
              go_roundw
              case rel => exact ⟨j + 1, _, by go_num, by omega, by omega, by rw [HW2.out]; exact putRow_drewN _ _ _ _ _ _ _, by rw [← HI.out, scanSorted_go ltInt dk b j hjb2 (by rw [← HG.out, ← HG.out]; simpa using hl)]⟩
              case measure => simp [intOf]; omega
            · have hl : (!ltInt (G j) (G (j - 1))) = false := by assumption
              go_meet
              case rel => exact ⟨j, _, rfl, Lib.hid (by rw [← HI.out, scanSorted_stop ltInt dk b j (.inr (by rw [← HG.out, ← HG.out]; simpa using hl))]), Lib.hid (by rw [HW2.out]; exact putRow_drewN _ _ _ _ _ _ _)⟩
          · go_wp2
            go_quiet (first | (go_at_call 143; exact Calls.quiet_of_same (less_u _ _ _)) | (go_at_call 143; exact quiet_add_same (less_u _ _ _)))
            go_wp2
            go_meet
            case rel => exact ⟨j, _, rfl, Lib.hid (by rw [← HI.out, scanSorted_stop ltInt dk b j (.inl hjb2)]), Lib.hid (by rw [HW2.out]; exact putRow_drewN _ _ _ _ _ _ _)⟩
      case rest =>
        obtain ⟨i2, m, rfl, HS, HW2⟩ := hcut
        have hr := scan_range dk b _ i (Nat.le_refl _) hib
        rw [HS.out] at hr
        by_cases hib2 : i2 = b
        · have PE := pi_true ltInt a b s i dk c5 (by rw [HS.out, hib2])
          rw [HO.out] at PE
          have HPE := Lib.hid PE
          subst hib2
          clear PE
          go_wp2
          refine bodyPost_ret (v := .bool true) (by simp [results, Try.results142, go_sem]) rfl ⟨by rw [HPE.out], m, by rw [HW2.out, HPE.out]⟩
        · by_cases h50 : b - a < 50
          · have PE := pi_short ltInt a b s i dk c5 (by rw [HS.out]; exact hib2) h50
            rw [HO.out] at PE
            have HPE := Lib.hid PE
            clear PE
            go_wp2
            refine bodyPost_ret (v := .bool false) (by simp [results, Try.results142, go_sem]) rfl ⟨by rw [HPE.out], m, by rw [HW2.out, HPE.out]⟩
          · have PE := pi_go ltInt a b s i i2 dk c5 HS.out hib2 h50
            rw [HO.out] at PE
            have HPE := Lib.hid PE
            clear PE
            obtain ⟨G, hG, hcw, hfw⟩ := famU hH hsk HW2.out
            have HG := Lib.hid hG
            clear hG
            go_wp2
            go_region
            all_goals go_upto_if 61 with (fail)
            refine name_world _ (fun W3 HW3 => ?_)
            have HW4 : Hid (W3 = putRow (Value.int .u64) (Sort.ahead w (m + 1)) blk off (swp dk i2 (i2 - 1))) := Lib.hid (by rw [← HW3.out]; exact swapU (q := 1) HW2.out (by omega) (by omega) (HG.out _) (HG.out _))
            have hs1 : (swp dk i2 (i2 - 1)).size = d.size := by rw [size_swp]; exact hsk
            obtain ⟨d1, hd1⟩ : ∃ d1, swp dk i2 (i2 - 1) = d1 := ⟨_, rfl⟩
            rw [hd1] at HPE HW4 hs1
            have HD1 := Lib.hid hd1
            clear hd1 HW3 hcw hfw
            go_cut [9] (fun v9 wc => ∃ (m2 : Nat) (d2 : Array Int), Hid (fixDown ltInt a i2 d1 = d2) ∧ d2.size = d.size ∧ Hid (wc = putRow (Value.int .u64) (Sort.ahead w m2) blk off d2))
            case first =>
              by_cases h2 : 2 ≤ i2 - a
              · go_wp2
                go_loopw [9] (fun vi wr2 => ∃ (j m : Nat) (dj : Array Int), vi = .int .i64 j ∧ j < i2 ∧ dj.size = d.size ∧ wr2 = putRow (Value.int .u64) (Sort.ahead w m) blk off dj ∧ shiftDown ltInt j dj = shiftDown ltInt (i2 - 1) d1) (fun vi _ => (intOf vi).toNat)
                case atStart => exact ⟨i2 - 1, m + 1, d1, by congr 1; omega, by omega, hs1, HW4.out, rfl⟩
                case round =>
                  obtain ⟨j, m, dj, rfl, hj, hsj, hw2, hI⟩ := hrel
                  obtain ⟨G, hG, hcw, hfw⟩ := famU hH hsj hw2
                  have HI := Lib.hid hI; have HG := Lib.hid hG; have HW6 := Lib.hid hw2
                  have hfd : fixDown ltInt a i2 d1 = shiftDown ltInt (i2 - 1) d1 := if_pos h2
                  have HFD := Lib.hid hfd
                  clear hI hG hw2 hfd
                  by_cases hj1 : 1 ≤ j
                  · go_wp2
                    go_quiet (first | (go_at_call 143; exact Calls.quiet_of_same (less_u _ _ _)) | (go_at_call 143; exact quiet_add_same (less_u _ _ _)))
                    go_wp2
                    · have hl : (!ltInt (G j) (G (j - 1))) = true := by assumption
                      go_meet
                      case rel => exact ⟨_, dj, Lib.hid (by rw [HFD.out, ← HI.out, shiftDown_stop ltInt j dj (.inr (by rw [← HG.out, ← HG.out]; simpa using hl))]), hsj, Lib.hid (by rw [HW6.out]; exact putRow_drewN _ _ _ _ _ _ _)⟩
                    · have hl : (!ltInt (G j) (G (j - 1))) = false := by assumption
                      go_region
                      all_goals go_wp2
                      go_roundw
                      case rel => exact ⟨j - 1, _, swp dj j (j - 1), by congr 1; omega, by omega, by rw [size_swp]; exact hsj, swapU HW6.out (by omega) (by omega) (HG.out _) (HG.out _), by rw [← HI.out, shiftDown_go ltInt j dj hj1 (by rw [← HG.out, ← HG.out]; simpa using hl)]⟩
                      case measure => simp [intOf]; omega
                  · go_wp2
                    go_meet
                    case rel => exact ⟨_, dj, Lib.hid (by rw [HFD.out, ← HI.out, shiftDown_stop ltInt j dj (.inl (by omega))]), hsj, HW6⟩
              · have hfd : fixDown ltInt a i2 d1 = d1 := if_neg h2
                go_wp2
                go_meet
                case rel => exact ⟨_, d1, Lib.hid hfd, hs1, HW4⟩
            case rest =>
              obtain ⟨m2, d2, HD2, hs2, HW5⟩ := hcut
              have fin : ∀ (d3 : Array Int) (m3 : Nat) (wz : World), d3.size = d.size → wz = putRow (Value.int .u64) (Sort.ahead w m3) blk off d3 → fixUp ltInt b i2 d2 = d3 → d3.size = d.size ∧ wz = putRow (Value.int .u64) (Sort.ahead w m3) blk off d3 ∧ partialIns ltInt a b (5 - (s + 1)) i2 d3 = Sort.partialInsertionSort ltInt d a b := fun d3 m3 wz h1 h2 h3 => ⟨h1, h2, by rw [HPE.out, HD2.out, h3]⟩
              have FIN := Lib.hid fin
              clear fin
              by_cases h2 : 2 ≤ b - i2
              · go_wp2
                go_loopw [10] (fun vi wr2 => ∃ (j m : Nat) (dj : Array Int), vi = .int .i64 j ∧ i2 < j ∧ j ≤ b ∧ dj.size = d.size ∧ wr2 = putRow (Value.int .u64) (Sort.ahead w m) blk off dj ∧ shiftUp ltInt b j dj = shiftUp ltInt b (i2 + 1) d2) (fun vi _ => b - (intOf vi).toNat)
                case atStart => exact ⟨i2 + 1, m2, d2, by go_num, by omega, by omega, hs2, HW5.out, rfl⟩
                case round =>
                  obtain ⟨j, m, dj, rfl, hj, hjb, hsj, hw2, hI⟩ := hrel
                  obtain ⟨G, hG, hcw, hfw⟩ := famU hH hsj hw2
                  have HI := Lib.hid hI; have HG := Lib.hid hG; have HW6 := Lib.hid hw2
                  have hfd : fixUp ltInt b i2 d2 = shiftUp ltInt b (i2 + 1) d2 := if_pos h2
                  have HFD := Lib.hid hfd
                  clear hI hG hw2 hfd
                  by_cases hj1 : j < b
                  · go_wp2
                    go_quiet (first | (go_at_call 143; exact Calls.quiet_of_same (less_u _ _ _)) | (go_at_call 143; exact quiet_add_same (less_u _ _ _)))
                    go_wp2
                    · have hl : (!ltInt (G j) (G (j - 1))) = true := by assumption
                      have FE := fun q => FIN.out dj (m + q) (wr.drewN q) hsj (by rw [HW6.out]; exact putRow_drewN _ _ _ _ _ _ _) (by rw [HFD.out, ← HI.out, shiftUp_stop ltInt b j dj (.inr (by rw [← HG.out, ← HG.out]; simpa using hl))])
                      have HFE := Lib.hid FE
                      clear FE
                      go_roundw
                      case rel => first | exact ⟨i2, s + 1, _, dj, rfl, by go_num, by omega, by omega, by omega, (HFE.out 0).1, (HFE.out _).2.1, (HFE.out 0).2.2⟩ | ((repeat apply Exists.intro); exact ⟨⟨i2, s + 1, _, dj, rfl, by go_num, by omega, by omega, by omega, (HFE.out 0).1, (HFE.out _).2.1, (HFE.out 0).2.2⟩, rfl⟩)
                      case measure => simp [intOf]; omega
                    · have hl : (!ltInt (G j) (G (j - 1))) = false := by assumption
                      go_region
                      all_goals go_wp2
                      go_roundw
                      case rel => exact ⟨j + 1, _, swp dj j (j - 1), by go_num, by omega, by omega, by rw [size_swp]; exact hsj, swapU HW6.out (by omega) (by omega) (HG.out _) (HG.out _), by rw [← HI.out, shiftUp_go ltInt b j dj hj1 (by rw [← HG.out, ← HG.out]; simpa using hl)]⟩
                      case measure => simp [intOf]; omega
                  · have FE := FIN.out dj m wr hsj HW6.out (by rw [HFD.out, ← HI.out, shiftUp_stop ltInt b j dj (.inl hj1)])
                    have HFE := Lib.hid FE
                    clear FE
                    go_wp2
                    go_roundw
                    case rel => first | exact ⟨i2, s + 1, _, dj, rfl, by go_num, by omega, by omega, by omega, HFE.out.1, HFE.out.2.1, HFE.out.2.2⟩ | ((repeat apply Exists.intro); exact ⟨⟨i2, s + 1, _, dj, rfl, by go_num, by omega, by omega, by omega, HFE.out.1, HFE.out.2.1, HFE.out.2.2⟩, rfl⟩)
                    case measure => simp [intOf]; omega
              · have FE := FIN.out d2 m2 _ hs2 HW5.out (if_neg h2)
                have HFE := Lib.hid FE
                clear FE
                go_wp2
                go_roundw
                case rel => first | exact ⟨i2, s + 1, _, d2, rfl, by go_num, by omega, by omega, by omega, HFE.out.1, HFE.out.2.1, HFE.out.2.2⟩ | ((repeat apply Exists.intro); exact ⟨⟨i2, s + 1, _, d2, rfl, by go_num, by omega, by omega, by omega, HFE.out.1, HFE.out.2.1, HFE.out.2.2⟩, rfl⟩)
                case measure => simp [intOf]; omega
    · have hs : s = 5 := by omega
      subst hs
      have PE := pi_end ltInt a b i dk
      rw [HO.out] at PE
      have HPE := Lib.hid PE
      clear PE
      go_wp2
      refine bodyPost_ret (v := .bool false) (by simp [results, Try.results142, go_sem]) rfl ⟨by rw [HPE.out], n, by rw [HW.out, HPE.out]⟩
end Go.Proofs.Ytncgjbocgbnkcaa
namespace Go.Proofs.Ytncgjbocgbnkcaa
set_option linter.unusedVariables false
set_option linter.unusedSimpArgs false
open Go.RowKit Go.Sort Go.Proofs
theorem selfU {w : World} {blk off : Nat} {d : Array Int} (hH : Holds (Value.int .u64) w blk off d) : w = putRow (Value.int .u64) (Sort.ahead w 0) blk off d := (putRow_self _ w _ _ _ hH).symm
set_option maxHeartbeats 4000000 in
set_option maxRecDepth 100000 in
theorem partitionEqual_u (blk off len cap a b pivot : Nat) (d : Array Int) (hlen : d.size = len) (w : World) (hH : Holds (Value.int .u64) w blk off d) (hap : a ≤ pivot) (hpb : pivot < b) (hb : b ≤ d.size) (hsz : d.size < 4611686018427387904) :
    Calls Try.prog 144 #[.slice (some ⟨blk, off, none⟩) len cap, .int .i64 a, .int .i64 b, .int .i64 pivot] w fun e w' =>
      e = .returned (.int .i64 (Sort.partitionEqual ltInt d a b pivot).1) ∧ ∃ n, w' = putRow (Value.int .u64) (Sort.ahead w n) blk off (Sort.partitionEqual ltInt d a b pivot).2 := by
  subst hlen
  obtain ⟨G, hG, hcw, hfw⟩ := famU hH rfl (selfU hH)
  have HG := Lib.hid hG
  clear hG
  have hc1 := hcw a (by omega)
  have hc2 := hcw pivot (by omega)
  obtain ⟨v', hy'⟩ := cell?_setCell_some (w := w) (p := ⟨blk, off + a, none⟩) (x := .int .u64 (G pivot)) (q := ⟨blk, off + pivot, none⟩) (v := .int .u64 (G pivot)) hc2
  go_enter Try.func144, Try.ntmps144
  go_wp2
  go_region
  have HWs : Hid (((w.setCell ⟨blk, off + a, none⟩ (.int .u64 (G pivot))).setCell ⟨blk, off + pivot, none⟩ (.int .u64 (G a))).drew = putRow (Value.int .u64) (Sort.ahead w (0 + 1)) blk off (swp d a pivot)) := Lib.hid (swapU (q := 1) (selfU hH) (by omega) (by omega) (HG.out _) (HG.out _))
  clear hcw hfw hc1 hc2 hy'
  have hs1 : (swp d a pivot).size = d.size := size_swp _ _ _
  obtain ⟨d1, hd1⟩ : ∃ d1, swp d a pivot = d1 := ⟨_, rfl⟩
  have hE : Sort.partitionEqual ltInt d a b pivot = partEqLoop ltInt a (a + 1) (b - 1) d1 := by unfold Sort.partitionEqual; rw [hd1]
  rw [hd1] at HWs hs1
  have HE := Lib.hid hE
  clear hd1 hE
  all_goals
    go_wp2
    refine name_world _ (fun W3 HW3 => ?_)
    have HW4 : Hid (W3 = putRow (Value.int .u64) (Sort.ahead w (0 + 1)) blk off d1) := Lib.hid (by rw [← HW3.out]; exact HWs.out)
    clear HW3 HWs
    go_loopw [9, 10] (fun vi vj wr => ∃ (i j n : Nat) (dk : Array Int), vi = .int .i64 i ∧ vj = .int .i64 j ∧ a < i ∧ i ≤ j + 1 ∧ j < b ∧ dk.size = d.size ∧ wr = putRow (Value.int .u64) (Sort.ahead w n) blk off dk ∧ partEqLoop ltInt a i j dk = partEqLoop ltInt a (a + 1) (b - 1) d1) (fun vi _ _ => b + 1 - (intOf vi).toNat)
    case atStart => exact ⟨a + 1, b - 1, 0 + 1, d1, by go_num, by first | rfl | (congr 1; omega), by omega, by omega, by omega, hs1, HW4.out, rfl⟩
    case round =>
      obtain ⟨i, j, n, dk, rfl, rfl, hai, hij, hjb, hsk, hwr, hO⟩ := hrel
      have HO := Lib.hid hO; have HW := Lib.hid hwr
      clear hO hwr
      go_upto_block 2 with (fail)
      go_cut [9] (fun v wc => ∃ (i2 m2 : Nat), v = .int .i64 i2 ∧ Hid (scanUp (fun x => !ltInt dk[a]! x) dk j i = i2) ∧ i ≤ i2 ∧ i2 ≤ j + 1 ∧ Hid (wc = putRow (Value.int .u64) (Sort.ahead w m2) blk off dk))
      case first =>
        go_wp2
        go_loopw [9] (fun v wr2 => ∃ (t m2 : Nat), v = .int .i64 t ∧ i ≤ t ∧ t ≤ j + 1 ∧ wr2 = putRow (Value.int .u64) (Sort.ahead w m2) blk off dk ∧ scanUp (fun x => !ltInt dk[a]! x) dk j t = scanUp (fun x => !ltInt dk[a]! x) dk j i) (fun v _ => j + 1 - (intOf v).toNat)
        case atStart => exact ⟨i, _, rfl, Nat.le_refl _, by omega, HW.out, rfl⟩
        case round =>
          obtain ⟨t, m2, rfl, ht1, ht2, hw2, hI⟩ := hrel
          obtain ⟨G, hG, hcw, hfw⟩ := famU hH hsk hw2
          have HI := Lib.hid hI; have HG := Lib.hid hG; have HW2 := Lib.hid hw2
          clear hI hG hw2
          by_cases c : t ≤ j
          · go_wp2
            go_quiet (first | (go_at_call 143; exact Calls.quiet_of_same (less_u _ _ _)) | (go_at_call 143; exact quiet_add_same (less_u _ _ _)))
            go_wp2
            · have hl : (!ltInt (G a) (G t)) = true := by assumption
              go_roundw
              case rel => exact ⟨t + 1, _, by go_num, by omega, by omega, by rw [HW2.out]; exact putRow_drewN _ _ _ _ _ _ _, by rw [← HI.out, scanUp_go (fun x => !ltInt dk[a]! x) dk j t c (by show ((!ltInt dk[a]! dk[t]!)) = true; rw [← HG.out, ← HG.out]; simpa using hl)]⟩
              case measure => simp [intOf]; omega
            · have hl : (!ltInt (G a) (G t)) = false := by assumption
              go_meet
              case rel => exact ⟨t, _, rfl, Lib.hid (by rw [← HI.out, scanUp_end (fun x => !ltInt dk[a]! x) dk j t (.inr (by show ((!ltInt dk[a]! dk[t]!)) = false; rw [← HG.out, ← HG.out]; simpa using hl))]), ht1, ht2, Lib.hid (by rw [HW2.out]; exact putRow_drewN _ _ _ _ _ _ _)⟩
          · go_wp2
            go_quiet (first | (go_at_call 143; exact Calls.quiet_of_same (less_u _ _ _)) | (go_at_call 143; exact quiet_add_same (less_u _ _ _)))
            go_wp2
            go_meet
            case rel => exact ⟨t, _, rfl, Lib.hid (by rw [← HI.out, scanUp_end (fun x => !ltInt dk[a]! x) dk j t (.inl c)]), ht1, ht2, Lib.hid (by rw [HW2.out]; exact putRow_drewN _ _ _ _ _ _ _)⟩
      case rest =>
        obtain ⟨i2, m3, rfl, HI2, hi2, hi2j, HW5⟩ := hcut
        go_upto_block 4 with (fail)
        go_cut [10] (fun v wc => ∃ (j2 m2 : Nat), v = .int .i64 j2 ∧ Hid (scanDown (fun x => ltInt dk[a]! x) dk i2 j = j2) ∧ j2 ≤ j ∧ i2 ≤ j2 + 1 ∧ Hid (wc = putRow (Value.int .u64) (Sort.ahead w m2) blk off dk))
        case first =>
          go_wp2
          go_loopw [10] (fun v wr2 => ∃ (t m2 : Nat), v = .int .i64 t ∧ t ≤ j ∧ i2 ≤ t + 1 ∧ wr2 = putRow (Value.int .u64) (Sort.ahead w m2) blk off dk ∧ scanDown (fun x => ltInt dk[a]! x) dk i2 t = scanDown (fun x => ltInt dk[a]! x) dk i2 j) (fun v _ => (intOf v).toNat)
          case atStart => exact ⟨j, _, rfl, Nat.le_refl _, by omega, HW5.out, rfl⟩
          case round =>
            obtain ⟨t, m2, rfl, ht1, ht2, hw2, hI⟩ := hrel
            obtain ⟨G, hG, hcw, hfw⟩ := famU hH hsk hw2
            have HI := Lib.hid hI; have HG := Lib.hid hG; have HW2 := Lib.hid hw2
            clear hI hG hw2
            by_cases c : i2 ≤ t
            · go_wp2
              go_quiet (first | (go_at_call 143; exact Calls.quiet_of_same (less_u _ _ _)) | (go_at_call 143; exact quiet_add_same (less_u _ _ _)))
              go_wp2
              · have hl : ltInt (G a) (G t) = true := by assumption
                go_roundw
                case rel => exact ⟨t - 1, _, by congr 1; omega, by omega, by omega, by rw [HW2.out]; exact putRow_drewN _ _ _ _ _ _ _, by rw [← HI.out, scanDown_go (fun x => ltInt dk[a]! x) dk i2 t c (by omega) (by show (ltInt dk[a]! dk[t]!) = true; rw [← HG.out, ← HG.out]; simpa using hl)]⟩
                case measure => simp [intOf]; omega
              · have hl : ltInt (G a) (G t) = false := by assumption
                go_meet
                case rel => exact ⟨t, _, rfl, Lib.hid (by rw [← HI.out, scanDown_end (fun x => ltInt dk[a]! x) dk i2 t (.inr (by show (ltInt dk[a]! dk[t]!) = false; rw [← HG.out, ← HG.out]; simpa using hl))]), ht1, ht2, Lib.hid (by rw [HW2.out]; exact putRow_drewN _ _ _ _ _ _ _)⟩
            · go_wp2
              go_quiet (first | (go_at_call 143; exact Calls.quiet_of_same (less_u _ _ _)) | (go_at_call 143; exact quiet_add_same (less_u _ _ _)))
              go_wp2
              go_meet
              case rel => exact ⟨t, _, rfl, Lib.hid (by rw [← HI.out, scanDown_end (fun x => ltInt dk[a]! x) dk i2 t (.inl c)]), ht1, ht2, Lib.hid (by rw [HW2.out]; exact putRow_drewN _ _ _ _ _ _ _)⟩
        case rest =>
          obtain ⟨j2, m4, rfl, HJ2, hj2, hij2, HW6⟩ := hcut
          by_cases c : j2 < i2
          · have PE := partEq_break ltInt a i j dk HI2.out.symm HJ2.out.symm c
            rw [HO.out, ← HE.out] at PE
            have HPE := Lib.hid PE
            clear PE
            go_wp2
            refine bodyPost_ret (v := .int .i64 i2) (by simp [results, Try.results144, go_sem]) rfl ⟨by rw [HPE.out], m4, by rw [HW6.out, HPE.out]⟩
          · have PE := partEq_go ltInt a i j dk HI2.out.symm HJ2.out.symm c
            have hlt := scans_lt ltInt a i j dk (by omega) HI2.out.symm HJ2.out.symm (by omega)
            rw [HO.out] at PE
            have HPE := Lib.hid PE
            clear PE
            obtain ⟨G, hG, hcw, hfw⟩ := famU hH hsk HW6.out
            have HG := Lib.hid hG
            clear hG
            go_wp2
            go_region
            all_goals go_wp2
            go_roundw
            case rel => exact ⟨i2 + 1, j2 - 1, _, swp dk i2 j2, by go_num, by congr 1; omega, by omega, by omega, by omega, by rw [size_swp]; exact hsk, swapU (q := 1) HW6.out (by omega) (by omega) (HG.out _) (HG.out _), HPE.out.symm⟩
            case measure => simp [intOf]; omega
end Go.Proofs.Ytncgjbocgbnkcaa
namespace Go.Proofs.Ytncgjbocgbnkcaa
set_option linter.unusedVariables false
set_option linter.unusedSimpArgs false
open Go.RowKit Go.Sort Go.Proofs
set_option maxHeartbeats 8000000 in
set_option maxRecDepth 100000 in
theorem partition_u (blk off len cap a b pivot : Nat) (d : Array Int) (hlen : d.size = len) (w : World) (hH : Holds (Value.int .u64) w blk off d) (hap : a ≤ pivot) (hpb : pivot < b) (hb : b ≤ d.size) (hsz : d.size < 4611686018427387904) :
    Calls Try.prog 145 #[.slice (some ⟨blk, off, none⟩) len cap, .int .i64 a, .int .i64 b, .int .i64 pivot] w fun e w' =>
      e = .returned (.tuple #[.int .i64 (Sort.partition ltInt d a b pivot).1, .bool (Sort.partition ltInt d a b pivot).2.1]) ∧ ∃ n, w' = putRow (Value.int .u64) (Sort.ahead w n) blk off (Sort.partition ltInt d a b pivot).2.2 := by
  subst hlen
  obtain ⟨G, hG, hcw, hfw⟩ := famU hH rfl (selfU hH)
  have HG := Lib.hid hG
  clear hG
  have hc1 := hcw a (by omega)
  have hc2 := hcw pivot (by omega)
  obtain ⟨v', hy'⟩ := cell?_setCell_some (w := w) (p := ⟨blk, off + a, none⟩) (x := .int .u64 (G pivot)) (q := ⟨blk, off + pivot, none⟩) (v := .int .u64 (G pivot)) hc2
  go_enter Try.func145, Try.ntmps145
  go_wp2
  go_region
  have HWs : Hid (((w.setCell ⟨blk, off + a, none⟩ (.int .u64 (G pivot))).setCell ⟨blk, off + pivot, none⟩ (.int .u64 (G a))).drew = putRow (Value.int .u64) (Sort.ahead w (0 + 1)) blk off (swp d a pivot)) := Lib.hid (swapU (q := 1) (selfU hH) (by omega) (by omega) (HG.out _) (HG.out _))
  clear hcw hfw hc1 hc2 hy'
  have hsk : (swp d a pivot).size = d.size := size_swp _ _ _
  obtain ⟨dk, hdk⟩ : ∃ d1, d1 = swp d a pivot := ⟨_, rfl⟩
  rw [← hdk] at HWs hsk
  have HDK := Lib.hid hdk
  clear hdk
  have eb : (b : Int) - 1 = ((b - 1 : Nat) : Int) := by omega
  have EB := Lib.hid eb
  clear eb
  all_goals
    go_upto_block 0 with (fail)
    refine name_world _ (fun W3 HW3 => ?_)
    have HW4 : Hid (W3 = putRow (Value.int .u64) (Sort.ahead w (0 + 1)) blk off dk) := Lib.hid (by rw [← HW3.out]; exact HWs.out)
    clear HW3 HWs
    rw [EB.out]
    go_upto_block 0 with (fail)
    go_cut [10] (fun v wc => ∃ (i2 m2 : Nat), v = .int .i64 i2 ∧ Hid (scanUp (fun x => ltInt x dk[a]!) dk (b - 1) (a + 1) = i2) ∧ (a + 1) ≤ i2 ∧ i2 ≤ (b - 1) + 1 ∧ Hid (wc = putRow (Value.int .u64) (Sort.ahead w m2) blk off dk))
    case first =>
      go_wp2
      go_loopw [10] (fun v wr2 => ∃ (t m2 : Nat), v = .int .i64 t ∧ (a + 1) ≤ t ∧ t ≤ (b - 1) + 1 ∧ wr2 = putRow (Value.int .u64) (Sort.ahead w m2) blk off dk ∧ scanUp (fun x => ltInt x dk[a]!) dk (b - 1) t = scanUp (fun x => ltInt x dk[a]!) dk (b - 1) (a + 1)) (fun v _ => (b - 1) + 1 - (intOf v).toNat)
      case atStart => exact ⟨(a + 1), _, rfl, Nat.le_refl _, by omega, HW4.out, rfl⟩
      case round =>
        obtain ⟨t, m2, rfl, ht1, ht2, hw2, hI⟩ := hrel
        obtain ⟨G, hG, hcw, hfw⟩ := famU hH hsk hw2
        have HI := Lib.hid hI; have HG := Lib.hid hG; have HW2 := Lib.hid hw2
        clear hI hG hw2
        by_cases c : t ≤ (b - 1)
        · go_wp2
          go_quiet (first | (go_at_call 143; exact Calls.quiet_of_same (less_u _ _ _)) | (go_at_call 143; exact quiet_add_same (less_u _ _ _)))
          go_wp2
          · have hl : ltInt (G t) (G a) = true := by assumption
            go_roundw
            case rel => exact ⟨t + 1, _, by go_num, by omega, by omega, by rw [HW2.out]; exact putRow_drewN _ _ _ _ _ _ _, by rw [← HI.out, scanUp_go (fun x => ltInt x dk[a]!) dk (b - 1) t c (by show (ltInt dk[t]! dk[a]!) = true; rw [← HG.out, ← HG.out]; simpa using hl)]⟩
            case measure => simp [intOf]; omega
          · have hl : ltInt (G t) (G a) = false := by assumption
            go_meet
            case rel => exact ⟨t, _, rfl, Lib.hid (by rw [← HI.out, scanUp_end (fun x => ltInt x dk[a]!) dk (b - 1) t (.inr (by show (ltInt dk[t]! dk[a]!) = false; rw [← HG.out, ← HG.out]; simpa using hl))]), ht1, ht2, Lib.hid (by rw [HW2.out]; exact putRow_drewN _ _ _ _ _ _ _)⟩
        · go_wp2
          go_quiet (first | (go_at_call 143; exact Calls.quiet_of_same (less_u _ _ _)) | (go_at_call 143; exact quiet_add_same (less_u _ _ _)))
          go_wp2
          go_meet
          case rel => exact ⟨t, _, rfl, Lib.hid (by rw [← HI.out, scanUp_end (fun x => ltInt x dk[a]!) dk (b - 1) t (.inl c)]), ht1, ht2, Lib.hid (by rw [HW2.out]; exact putRow_drewN _ _ _ _ _ _ _)⟩
    case rest =>
      obtain ⟨i2, m3, rfl, HI2, hi2, hi2j, HW5⟩ := hcut
      go_upto_block 2 with (fail)
      go_cut [11] (fun v wc => ∃ (j2 m2 : Nat), v = .int .i64 j2 ∧ Hid (scanDown (fun x => !ltInt x dk[a]!) dk i2 (b - 1) = j2) ∧ j2 ≤ (b - 1) ∧ i2 ≤ j2 + 1 ∧ Hid (wc = putRow (Value.int .u64) (Sort.ahead w m2) blk off dk))
      case first =>
        go_wp2
        go_loopw [11] (fun v wr2 => ∃ (t m2 : Nat), v = .int .i64 t ∧ t ≤ (b - 1) ∧ i2 ≤ t + 1 ∧ wr2 = putRow (Value.int .u64) (Sort.ahead w m2) blk off dk ∧ scanDown (fun x => !ltInt x dk[a]!) dk i2 t = scanDown (fun x => !ltInt x dk[a]!) dk i2 (b - 1)) (fun v _ => (intOf v).toNat)
        case atStart => exact ⟨(b - 1), _, rfl, Nat.le_refl _, by omega, HW5.out, rfl⟩
        case round =>
          obtain ⟨t, m2, rfl, ht1, ht2, hw2, hI⟩ := hrel
          obtain ⟨G, hG, hcw, hfw⟩ := famU hH hsk hw2
          have HI := Lib.hid hI; have HG := Lib.hid hG; have HW2 := Lib.hid hw2
          clear hI hG hw2
          by_cases c : i2 ≤ t
          · go_wp2
            go_quiet (first | (go_at_call 143; exact Calls.quiet_of_same (less_u _ _ _)) | (go_at_call 143; exact quiet_add_same (less_u _ _ _)))
            go_wp2
            · have hl : (!ltInt (G t) (G a)) = true := by assumption
              go_roundw
              case rel => exact ⟨t - 1, _, by congr 1; omega, by omega, by omega, by rw [HW2.out]; exact putRow_drewN _ _ _ _ _ _ _, by rw [← HI.out, scanDown_go (fun x => !ltInt x dk[a]!) dk i2 t c (by omega) (by show ((!ltInt dk[t]! dk[a]!)) = true; rw [← HG.out, ← HG.out]; simpa using hl)]⟩
              case measure => simp [intOf]; omega
            · have hl : (!ltInt (G t) (G a)) = false := by assumption
              go_meet
              case rel => exact ⟨t, _, rfl, Lib.hid (by rw [← HI.out, scanDown_end (fun x => !ltInt x dk[a]!) dk i2 t (.inr (by show ((!ltInt dk[t]! dk[a]!)) = false; rw [← HG.out, ← HG.out]; simpa using hl))]), ht1, ht2, Lib.hid (by rw [HW2.out]; exact putRow_drewN _ _ _ _ _ _ _)⟩
          · go_wp2
            go_quiet (first | (go_at_call 143; exact Calls.quiet_of_same (less_u _ _ _)) | (go_at_call 143; exact quiet_add_same (less_u _ _ _)))
            go_wp2
            go_meet
            case rel => exact ⟨t, _, rfl, Lib.hid (by rw [← HI.out, scanDown_end (fun x => !ltInt x dk[a]!) dk i2 t (.inl c)]), ht1, ht2, Lib.hid (by rw [HW2.out]; exact putRow_drewN _ _ _ _ _ _ _)⟩
      case rest =>
        obtain ⟨j2, m4, rfl, HJ2, hj2, hij2, HW6⟩ := hcut
        obtain ⟨G, hG, hcw, hfw⟩ := famU hH hsk HW6.out
        have HG := Lib.hid hG
        clear hG
        by_cases c : j2 < i2
        · have PE := part_first_break ltInt d a b pivot rfl rfl HDK.out HI2.out.symm HJ2.out.symm c
          have HPE := Lib.hid PE
          clear PE
          have hc1 := hcw j2 (by omega)
          have hc2 := hcw a (by omega)
          obtain ⟨v', hy'⟩ := cell?_setCell_some (w := wc) (p := ⟨blk, off + j2, none⟩) (x := .int .u64 (G a)) (q := ⟨blk, off + a, none⟩) (v := .int .u64 (G a)) hc2
          go_wp2
          go_region
          all_goals
            go_wp2
            refine bodyPost_ret (v := .tuple #[.int .i64 j2, .bool true]) (by simp [results, Try.results145, go_sem]) rfl ⟨by rw [HPE.out], _, by rw [HPE.out]; exact swapU (q := 1) HW6.out (by omega) (by omega) (HG.out _) (HG.out _)⟩
        · have PE := part_first_go ltInt d a b pivot rfl rfl HDK.out HI2.out.symm HJ2.out.symm c
          have hlt := part_scans_lt ltInt a (a + 1) (b - 1) dk (by omega) HI2.out.symm HJ2.out.symm (by omega)
          have hs2 : (swp dk i2 j2).size = d.size := by rw [size_swp]; exact hsk
          have SW : ((wc.setCell ⟨blk, off + i2, none⟩ (.int .u64 (G j2))).setCell ⟨blk, off + j2, none⟩ (.int .u64 (G i2))).drew = putRow (Value.int .u64) (Sort.ahead w (m4 + 1)) blk off (swp dk i2 j2) := swapU (q := 1) HW6.out (by omega) (by omega) (HG.out _) (HG.out _)
          obtain ⟨d1, hd1⟩ : ∃ d1, swp dk i2 j2 = d1 := ⟨_, rfl⟩
          rw [hd1] at PE hs2 SW
          have HPE := Lib.hid PE; have HSW := Lib.hid SW
          clear PE SW hd1
          go_wp2
          go_region
          all_goals
            go_wp2
            refine name_world _ (fun W7 HW7 => ?_)
            have HW8 : Hid (W7 = putRow (Value.int .u64) (Sort.ahead w (m4 + 1)) blk off d1) := Lib.hid (by rw [← HW7.out]; exact HSW.out)
            clear HW7 HSW hcw hfw
            go_loopw [10, 11] (fun vi vj wr => ∃ (i j n : Nat) (dj : Array Int), vi = .int .i64 i ∧ vj = .int .i64 j ∧ a < i ∧ i ≤ j + 1 ∧ j < b ∧ dj.size = d.size ∧ wr = putRow (Value.int .u64) (Sort.ahead w n) blk off dj ∧ partLoop ltInt a i j dj = partLoop ltInt a (i2 + 1) (j2 - 1) d1) (fun vi _ _ => b + 1 - (intOf vi).toNat)
            case atStart => exact ⟨i2 + 1, j2 - 1, m4 + 1, d1, by go_num, by first | rfl | (congr 1; omega), by omega, by omega, by omega, hs2, HW8.out, rfl⟩
            case round =>
              obtain ⟨i, j, n, dj, rfl, rfl, hai, hij, hjb, hsj, hwr, hO⟩ := hrel
              have HO := Lib.hid hO; have HW := Lib.hid hwr
              clear hO hwr
              go_upto_block 6 with (fail)
              go_cut [10] (fun v wc => ∃ (i2 m2 : Nat), v = .int .i64 i2 ∧ Hid (scanUp (fun x => ltInt x dj[a]!) dj j i = i2) ∧ i ≤ i2 ∧ i2 ≤ j + 1 ∧ Hid (wc = putRow (Value.int .u64) (Sort.ahead w m2) blk off dj))
              case first =>
                go_wp2
                go_loopw [10] (fun v wr2 => ∃ (t m2 : Nat), v = .int .i64 t ∧ i ≤ t ∧ t ≤ j + 1 ∧ wr2 = putRow (Value.int .u64) (Sort.ahead w m2) blk off dj ∧ scanUp (fun x => ltInt x dj[a]!) dj j t = scanUp (fun x => ltInt x dj[a]!) dj j i) (fun v _ => j + 1 - (intOf v).toNat)
                case atStart => exact ⟨i, _, rfl, Nat.le_refl _, by omega, HW.out, rfl⟩
                case round =>
                  obtain ⟨t, m2, rfl, ht1, ht2, hw2, hI⟩ := hrel
                  obtain ⟨G, hG, hcw, hfw⟩ := famU hH hsj hw2
                  have HI := Lib.hid hI; have HG := Lib.hid hG; have HW2 := Lib.hid hw2
                  clear hI hG hw2
                  by_cases c : t ≤ j
                  · go_wp2
                    go_quiet (first | (go_at_call 143; exact Calls.quiet_of_same (less_u _ _ _)) | (go_at_call 143; exact quiet_add_same (less_u _ _ _)))
                    go_wp2
                    · have hl : ltInt (G t) (G a) = true := by assumption
                      go_roundw
                      case rel => exact ⟨t + 1, _, by go_num, by omega, by omega, by rw [HW2.out]; exact putRow_drewN _ _ _ _ _ _ _, by rw [← HI.out, scanUp_go (fun x => ltInt x dj[a]!) dj j t c (by show (ltInt dj[t]! dj[a]!) = true; rw [← HG.out, ← HG.out]; simpa using hl)]⟩
                      case measure => simp [intOf]; omega
                    · have hl : ltInt (G t) (G a) = false := by assumption
                      go_meet
                      case rel => exact ⟨t, _, rfl, Lib.hid (by rw [← HI.out, scanUp_end (fun x => ltInt x dj[a]!) dj j t (.inr (by show (ltInt dj[t]! dj[a]!) = false; rw [← HG.out, ← HG.out]; simpa using hl))]), ht1, ht2, Lib.hid (by rw [HW2.out]; exact putRow_drewN _ _ _ _ _ _ _)⟩
                  · go_wp2
                    go_quiet (first | (go_at_call 143; exact Calls.quiet_of_same (less_u _ _ _)) | (go_at_call 143; exact quiet_add_same (less_u _ _ _)))
                    go_wp2
                    go_meet
                    case rel => exact ⟨t, _, rfl, Lib.hid (by rw [← HI.out, scanUp_end (fun x => ltInt x dj[a]!) dj j t (.inl c)]), ht1, ht2, Lib.hid (by rw [HW2.out]; exact putRow_drewN _ _ _ _ _ _ _)⟩
              case rest =>
                obtain ⟨i3, m5, rfl, HI3, hi3, hi3j, HW9⟩ := hcut
                go_upto_block 8 with (fail)
                go_cut [11] (fun v wc => ∃ (j2 m2 : Nat), v = .int .i64 j2 ∧ Hid (scanDown (fun x => !ltInt x dj[a]!) dj i3 j = j2) ∧ j2 ≤ j ∧ i3 ≤ j2 + 1 ∧ Hid (wc = putRow (Value.int .u64) (Sort.ahead w m2) blk off dj))
                case first =>
                  go_wp2
                  go_loopw [11] (fun v wr2 => ∃ (t m2 : Nat), v = .int .i64 t ∧ t ≤ j ∧ i3 ≤ t + 1 ∧ wr2 = putRow (Value.int .u64) (Sort.ahead w m2) blk off dj ∧ scanDown (fun x => !ltInt x dj[a]!) dj i3 t = scanDown (fun x => !ltInt x dj[a]!) dj i3 j) (fun v _ => (intOf v).toNat)
                  case atStart => exact ⟨j, _, rfl, Nat.le_refl _, by omega, HW9.out, rfl⟩
                  case round =>
                    obtain ⟨t, m2, rfl, ht1, ht2, hw2, hI⟩ := hrel
                    obtain ⟨G, hG, hcw, hfw⟩ := famU hH hsj hw2
                    have HI := Lib.hid hI; have HG := Lib.hid hG; have HW2 := Lib.hid hw2
                    clear hI hG hw2
                    by_cases c : i3 ≤ t
                    · go_wp2
                      go_quiet (first | (go_at_call 143; exact Calls.quiet_of_same (less_u _ _ _)) | (go_at_call 143; exact quiet_add_same (less_u _ _ _)))
                      go_wp2
                      · have hl : (!ltInt (G t) (G a)) = true := by assumption
                        go_roundw
                        case rel => exact ⟨t - 1, _, by congr 1; omega, by omega, by omega, by rw [HW2.out]; exact putRow_drewN _ _ _ _ _ _ _, by rw [← HI.out, scanDown_go (fun x => !ltInt x dj[a]!) dj i3 t c (by omega) (by show ((!ltInt dj[t]! dj[a]!)) = true; rw [← HG.out, ← HG.out]; simpa using hl)]⟩
                        case measure => simp [intOf]; omega
                      · have hl : (!ltInt (G t) (G a)) = false := by assumption
                        go_meet
                        case rel => exact ⟨t, _, rfl, Lib.hid (by rw [← HI.out, scanDown_end (fun x => !ltInt x dj[a]!) dj i3 t (.inr (by show ((!ltInt dj[t]! dj[a]!)) = false; rw [← HG.out, ← HG.out]; simpa using hl))]), ht1, ht2, Lib.hid (by rw [HW2.out]; exact putRow_drewN _ _ _ _ _ _ _)⟩
                    · go_wp2
                      go_quiet (first | (go_at_call 143; exact Calls.quiet_of_same (less_u _ _ _)) | (go_at_call 143; exact quiet_add_same (less_u _ _ _)))
                      go_wp2
                      go_meet
                      case rel => exact ⟨t, _, rfl, Lib.hid (by rw [← HI.out, scanDown_end (fun x => !ltInt x dj[a]!) dj i3 t (.inl c)]), ht1, ht2, Lib.hid (by rw [HW2.out]; exact putRow_drewN _ _ _ _ _ _ _)⟩
                case rest =>
                  obtain ⟨j3, m6, rfl, HJ3, hj3, hij3, HW10⟩ := hcut
                  obtain ⟨G, hG, hcw, hfw⟩ := famU hH hsj HW10.out
                  have HG := Lib.hid hG
                  clear hG
                  by_cases c2 : j3 < i3
                  · have PL := part_break ltInt a i j dj HI3.out.symm HJ3.out.symm c2
                    rw [HO.out] at PL
                    have PE := HPE.out
                    rw [PL] at PE
                    have HPE2 := Lib.hid PE
                    clear PL PE
                    have hc1 := hcw j3 (by omega)
                    have hc2 := hcw a (by omega)
                    obtain ⟨v', hy'⟩ := cell?_setCell_some (w := wc) (p := ⟨blk, off + j3, none⟩) (x := .int .u64 (G a)) (q := ⟨blk, off + a, none⟩) (v := .int .u64 (G a)) hc2
                    go_wp2
                    go_region
                    all_goals
                      go_wp2
                      refine bodyPost_ret (v := .tuple #[.int .i64 j3, .bool false]) (by simp [results, Try.results145, go_sem]) rfl ⟨by rw [HPE2.out], _, by rw [HPE2.out]; exact swapU (q := 1) HW10.out (by omega) (by omega) (HG.out _) (HG.out _)⟩
                  · have PL := part_go ltInt a i j dj HI3.out.symm HJ3.out.symm c2
                    have hlt3 := part_scans_lt ltInt a i j dj (by omega) HI3.out.symm HJ3.out.symm (by omega)
                    rw [HO.out] at PL
                    have HPL := Lib.hid PL
                    clear PL
                    go_wp2
                    go_region
                    all_goals go_wp2
                    go_roundw
                    case rel => exact ⟨i3 + 1, j3 - 1, _, swp dj i3 j3, by go_num, by congr 1; omega, by omega, by omega, by omega, by rw [size_swp]; exact hsj, swapU (q := 1) HW10.out (by omega) (by omega) (HG.out _) (HG.out _), HPL.out.symm⟩
                    case measure => simp [intOf]; omega
end Go.Proofs.Ytncgjbocgbnkcaa
namespace Go.Proofs.Ytncgjbocgbnkcaa
set_option linter.unusedVariables false
set_option linter.unusedSimpArgs false
open Go.RowKit Go.Sort Go.Proofs Go.Proofs.YtncgjbocgbnkcaaW.PrintWords
theorem holds_heap {α : Type} [Inhabited α] {enc : α → Value} {w w' : World} {blk off : Nat} {d : Array α} (h : Holds enc w blk off d) (he : w'.heap[blk]? = w.heap[blk]?) : Holds enc w' blk off d := fun j hj => by
  have := h j hj
  unfold World.cell? World.frozen? at *
  simp only [he]
  exact this
/-- The row, and the counter of exchanges in a block of its own. -/
def QS (w : World) (blk off : Nat) (d : Array Int) (sb : Nat) : Prop := Holds (Value.int .u64) w blk off d ∧ (∃ s : Int, w.heap[sb]? = some (.cells #[.int .i64 s] 3 (0, 0))) ∧ sb ≠ blk
/-- Nothing but a block has changed. -/
def KX (w w' : World) (sb : Nat) : Prop := w'.heap.size = w.heap.size ∧ (∀ i, i ≠ sb → w'.heap[i]? = w.heap[i]?) ∧ w'.os = w.os ∧ w'.tape = w.tape ∧ w'.output = w.output
theorem KX.refl (w : World) (sb : Nat) : KX w w sb := ⟨rfl, fun _ _ => rfl, rfl, rfl, rfl⟩
theorem KX.trans {a b c : World} {sb : Nat} (h : KX a b sb) (k : KX b c sb) : KX a c sb := ⟨k.1.trans h.1, fun i hi => (k.2.1 i hi).trans (h.2.1 i hi), k.2.2.1.trans h.2.2.1, k.2.2.2.1.trans h.2.2.2.1, k.2.2.2.2.trans h.2.2.2.2⟩
theorem QS.step {w w' : World} {blk off : Nat} {d : Array Int} {sb : Nat} (h : QS w blk off d sb) (t : Int) (n : Nat) : QS ((w.drewN n).setCell ⟨sb, 0, none⟩ (.int .i64 t)) blk off d sb ∧ KX w ((w.drewN n).setCell ⟨sb, 0, none⟩ (.int .i64 t)) sb := by
  obtain ⟨h1, ⟨s, h2⟩, h3⟩ := h
  refine ⟨⟨holds_heap h1 (Below.heap_setCell (w.drewN n) ⟨sb, 0, none⟩ _ blk (Ne.symm h3)), ⟨t, ?_⟩, h3⟩, ?_⟩
  · exact blk_set (blk_drewN h2 n) 0 (.int .i64 t)
  · refine ⟨by simp, fun i hi => Below.heap_setCell (w.drewN n) ⟨sb, 0, none⟩ _ i hi, ?_, ?_, ?_⟩ <;> rfl
set_option maxHeartbeats 1000000 in
theorem order2_u (blk off len cap a b sb : Nat) (d : Array Int) (hlen : d.size = len) (w : World) (h : QS w blk off d sb) (ha : a < d.size) (hb : b < d.size) (hsz : d.size < 4611686018427387904) :
    Calls Try.prog 155 #[.slice (some ⟨blk, off, none⟩) len cap, .int .i64 a, .int .i64 b, .pointer (some ⟨sb, 0, none⟩)] w fun e w' =>
      ∃ x y : Nat, e = .returned (.tuple #[.int .i64 x, .int .i64 y]) ∧ ((x = a ∧ y = b) ∨ (x = b ∧ y = a)) ∧ QS w' blk off d sb ∧ KX w w' sb := by
  subst hlen
  obtain ⟨h1, ⟨s, h2⟩, h3⟩ := id h
  obtain ⟨G, hG, hcw, hfw⟩ := famU h1 rfl (selfU h1)
  have hca := hcw a ha; have hcb := hcw b hb
  have hcs : w.cell? ⟨sb, 0, none⟩ = some (.int .i64 s) := blk_cell h2 0
  have hfs : w.frozen? ⟨sb, 0, none⟩ = false := blk_frozen h2 0
  have H := Lib.hid h
  clear hG hcw hfw h1 h2 h3 h
  go_enter Try.func155, Try.ntmps155
  go_wp2
  go_quiet (first | (go_at_call 143; exact Calls.quiet_of_same (less_u _ _ _)))
  go_wp2
  · refine bodyPost_ret (v := .tuple #[.int .i64 b, .int .i64 a]) (by simp [results, Try.results155, go_sem]) rfl ⟨b, a, rfl, .inr ⟨rfl, rfl⟩, ?_⟩
    exact (H.out.step (w' := w) _ _)
  · refine bodyPost_ret (v := .tuple #[.int .i64 a, .int .i64 b]) (by simp [results, Try.results155, go_sem]) rfl ⟨a, b, rfl, .inl ⟨rfl, rfl⟩, H.out, ?_⟩
    exact ⟨rfl, fun _ _ => rfl, rfl, rfl, rfl⟩
set_option maxHeartbeats 1000000 in
theorem median_u (blk off len cap a b c sb : Nat) (d : Array Int) (hlen : d.size = len) (w : World) (h : QS w blk off d sb) (ha : a < d.size) (hb : b < d.size) (hc : c < d.size) (hsz : d.size < 4611686018427387904) :
    Calls Try.prog 153 #[.slice (some ⟨blk, off, none⟩) len cap, .int .i64 a, .int .i64 b, .int .i64 c, .pointer (some ⟨sb, 0, none⟩)] w fun e w' =>
      ∃ x : Nat, e = .returned (.int .i64 x) ∧ (x = a ∨ x = b ∨ x = c) ∧ QS w' blk off d sb ∧ KX w w' sb := by
  subst hlen
  have C := fun w h x y hx hy => order2_u blk off d.size cap x y sb d rfl w h hx hy hsz
  go_enter Try.func153, Try.ntmps153
  go_wp2_with (go_at_call 155; refine (C _ h _ _ ha hb).mono ?_; rintro e w1 ⟨x1, y1, rfl, h1, q1, k1⟩; clear h)
  have hx1 : x1 < d.size := by omega
  have hy1 : y1 < d.size := by omega
  go_wp2_with (go_at_call 155; refine (C _ q1 _ _ hy1 hc).mono ?_; rintro e w2 ⟨x2, y2, rfl, h2, q2, k2⟩; clear q1)
  have hx2 : x2 < d.size := by omega
  go_wp2_with (go_at_call 155; refine (C _ q2 _ _ hx1 hx2).mono ?_; rintro e w3 ⟨x3, y3, rfl, h3, q3, k3⟩; clear q2)
  go_ret
  exact ⟨y3, rfl, by omega, q3, (k1.trans k2).trans k3⟩
set_option maxHeartbeats 1000000 in
theorem medianAdjacent_u (blk off len cap a sb : Nat) (d : Array Int) (hlen : d.size = len) (w : World) (h : QS w blk off d sb) (h0 : 1 ≤ a) (ha : a + 1 < d.size) (hsz : d.size < 4611686018427387904) :
    Calls Try.prog 152 #[.slice (some ⟨blk, off, none⟩) len cap, .int .i64 a, .pointer (some ⟨sb, 0, none⟩)] w fun e w' =>
      ∃ x : Nat, e = .returned (.int .i64 x) ∧ (x = a - 1 ∨ x = a ∨ x = a + 1) ∧ QS w' blk off d sb ∧ KX w w' sb := by
  subst hlen
  have C := median_u blk off d.size cap (a - 1) a (a + 1) sb d rfl w h (by omega) (by omega) ha hsz
  have e1 : ((a - 1 : Nat) : Int) = (a : Int) - 1 := by omega
  have e2 : ((a + 1 : Nat) : Int) = (a : Int) + 1 := by omega
  rw [e1, e2] at C
  clear e1 e2
  go_enter Try.func152, Try.ntmps152
  go_wp2_with (go_at_call 153; refine C.mono ?_; rintro e w1 ⟨x1, rfl, h1, q1, k1⟩)
  go_ret
  exact ⟨x1, rfl, h1, q1, k1⟩
end Go.Proofs.Ytncgjbocgbnkcaa
namespace Go.Proofs.Ytncgjbocgbnkcaa
set_option linter.unusedVariables false
set_option linter.unusedSimpArgs false
open Go.RowKit Go.Sort Go.Proofs Go.Proofs.YtncgjbocgbnkcaaW.PrintWords
theorem KX.below {w w1 : World} {o : Obj} (h : KX (w.alloc o) w1 w.heap.size) : Below w.heap.size w w1 :=
  ⟨h.2.2.1, h.2.2.2.1, h.2.2.2.2, by rw [h.1]; simp, fun k hk => by rw [h.2.1 k (by omega)]; exact Below.heap_alloc w o k hk⟩
theorem QS.start {w : World} {blk off : Nat} {d : Array Int} (h : Holds (Value.int .u64) w blk off d) (hb : blk < w.heap.size) : QS (w.alloc (.cells #[.int .i64 0] 3)) blk off d w.heap.size :=
  ⟨holds_heap h (Below.heap_alloc w _ blk hb), ⟨0, blk_new w _⟩, by omega⟩
set_option maxHeartbeats 2000000 in
set_option maxRecDepth 100000 in
theorem choosePivot_u (blk off len cap a b : Nat) (d : Array Int) (hlen : d.size = len) (w : World) (h : Holds (Value.int .u64) w blk off d) (hblk : blk < w.heap.size) (hab : a < b) (hb : b ≤ d.size) (hsz : d.size < 4611686018427387904) :
    Calls Try.prog 140 #[.slice (some ⟨blk, off, none⟩) len cap, .int .i64 a, .int .i64 b] w fun e w' =>
      ∃ p hint : Nat, e = .returned (.tuple #[.int .i64 p, .int .i64 hint]) ∧ a ≤ p ∧ p < b ∧ hint ≤ 2 ∧ Below w.heap.size w w' := by
  subst hlen
  obtain ⟨l, hl⟩ : ∃ l : Nat, (b : Int) - (a : Int) = l := ⟨b - a, by omega⟩
  obtain ⟨i, hi⟩ : ∃ i : Nat, a + l / 4 * 1 = i := ⟨_, rfl⟩
  obtain ⟨j, hj⟩ : ∃ i : Nat, a + l / 4 * 2 = i := ⟨_, rfl⟩
  obtain ⟨k, hk⟩ : ∃ i : Nat, a + l / 4 * 3 = i := ⟨_, rfl⟩
  have e1 : (a : Int) + (l : Int) / 4 = (i : Int) := by omega
  have e2 : (a : Int) + (l : Int) / 4 * 2 = (j : Int) := by omega
  have e3 : (a : Int) + (l : Int) / 4 * 3 = (k : Int) := by omega
  have q0 := QS.start h hblk
  have k0 := KX.refl (w.alloc (.cells #[.int .i64 0] 3)) w.heap.size
  have HL := Lib.hid hl; have E1 := Lib.hid e1; have E2 := Lib.hid e2; have E3 := Lib.hid e3
  have jr : a ≤ j ∧ j < b := by omega
  have HI := Lib.hid hi; have HJ := Lib.hid hj; have HK := Lib.hid hk
  have bl : b = a + l := by omega
  have BL := Lib.hid bl
  clear hl e1 e2 e3 h hi hj hk bl
  go_enter Try.func140, Try.ntmps140
  go_upto_if 32 with (fail)
  rw [HL.out, E1.out, E2.out, E3.out]
  go_cut [11] (fun v wc => ∃ p : Nat, v = .int .i64 p ∧ a ≤ p ∧ p < b ∧ QS wc blk off d w.heap.size ∧ KX (w.alloc (.cells #[.int .i64 0] 3)) wc w.heap.size)
  case first =>
    by_cases h8 : 8 ≤ l
    · have hi := HI.out; have hj := HJ.out; have hk := HK.out; have bl := BL.out
      have r1 : 1 ≤ i ∧ i + 1 < b := by omega
      have r2 : 1 ≤ j ∧ j + 1 < b := by omega
      by_cases h50 : 50 ≤ l
      · have r1' : a ≤ i - 1 ∧ 1 ≤ i ∧ i + 1 < b := by omega
        have r2' : a ≤ j - 1 ∧ 1 ≤ j ∧ j + 1 < b := by omega
        have r3' : a ≤ k - 1 ∧ 1 ≤ k ∧ k + 1 < b := by omega
        have C := fun w1 h x h1 h2 => medianAdjacent_u blk off d.size cap x w.heap.size d rfl w1 h h1 h2 hsz
        have M := fun w1 h x y z h1 h2 h3 => median_u blk off d.size cap x y z w.heap.size d rfl w1 h h1 h2 h3 hsz
        clear hi hj hk bl
        go_wp2_with (go_at_call 152; refine (C _ q0 _ r1'.2.1 (by omega)).mono ?_; rintro e w1 ⟨x1, rfl, h1, q1, k1⟩; clear q0)
        have y1 : a ≤ x1 ∧ x1 < b := by omega
        go_wp2_with (go_at_call 152; refine (C _ q1 _ r2'.2.1 (by omega)).mono ?_; rintro e w2 ⟨x2, rfl, h2, q2, k2⟩; clear q1)
        have y2 : a ≤ x2 ∧ x2 < b := by omega
        go_wp2_with (go_at_call 152; refine (C _ q2 _ r3'.2.1 (by omega)).mono ?_; rintro e w3 ⟨x3, rfl, h3, q3, k3⟩; clear q2)
        have y3 : a ≤ x3 ∧ x3 < b := by omega
        go_wp2_with (go_at_call 153; refine (M _ q3 _ _ _ (by omega) (by omega) (by omega)).mono ?_; rintro e w4 ⟨x4, rfl, h4, q4, k4⟩; clear q3)
        go_meet
        case rel => exact ⟨x4, rfl, by omega, by omega, q4, (((k0.trans k1).trans k2).trans k3).trans k4⟩
      · have M := median_u blk off d.size cap i j k w.heap.size d rfl _ q0 (by omega) (by omega) (by omega) hsz
        have r3 : a ≤ i ∧ i < b ∧ a ≤ j ∧ j < b ∧ a ≤ k ∧ k < b := by omega
        clear hi hj hk bl
        go_wp2_with (go_at_call 153; refine M.mono ?_; rintro e w4 ⟨x4, rfl, h4, q4, k4⟩)
        go_meet
        case rel => exact ⟨x4, rfl, by omega, by omega, q4, k0.trans k4⟩
    · go_wp2
      go_meet
      case rel => exact ⟨j, rfl, jr.1, jr.2, q0, k0⟩
  case rest =>
    obtain ⟨p, rfl, p1, p2, q1, k1⟩ := hcut
    obtain ⟨_, ⟨s, hs⟩, _⟩ := q1
    have hcs := blk_cell hs 0
    have hcs' : World.cell? wc ⟨w.heap.size, 0, none⟩ = some (.int .i64 s) := hcs
    have KB := Lib.hid k1.below
    clear hs hcs k0 k1 q0
    by_cases s0 : s = 0
    · subst s0
      go_wp2
      refine bodyPost_ret (v := .tuple #[.int .i64 p, .int .i64 (1 : Nat)]) (by simp [results, Try.results140, go_sem]) rfl ⟨p, 1, rfl, p1, p2, by omega, KB.out⟩
    · have t0 : (s == 0) = false := beq_eq_false_iff_ne.mpr s0
      by_cases s12 : s = 12
      · subst s12
        go_wp2
        refine bodyPost_ret (v := .tuple #[.int .i64 p, .int .i64 (2 : Nat)]) (by simp [results, Try.results140, go_sem]) rfl ⟨p, 2, rfl, p1, p2, by omega, KB.out⟩
      · have t12 : (s == 12) = false := beq_eq_false_iff_ne.mpr s12
        go_wp2
        refine bodyPost_ret (v := .tuple #[.int .i64 p, .int .i64 (0 : Nat)]) (by simp [results, Try.results140, go_sem]) rfl ⟨p, 0, rfl, p1, p2, by omega, KB.out⟩
end Go.Proofs.Ytncgjbocgbnkcaa
namespace Go.Proofs.Ytncgjbocgbnkcaa
set_option linter.unusedVariables false
set_option linter.unusedSimpArgs false
open Go.RowKit Go.Sort Go.Proofs Go.Proofs.YtncgjbocgbnkcaaW.PrintWords
theorem npot_u (n : Nat) (hn : n < 4611686018427387904) (w : World) :
    Calls Try.prog 150 #[.int .i64 n] w fun e w' => e = .returned (.int .u64 ((1 <<< bitsLen n : Nat) : Int)) ∧ w' = w := by
  have hLen : ∀ w, Calls Try.prog 126 #[.int .u64 (n : Int)] w fun e w' => e = .returned (.int .i64 (bitsLen n : Nat)) ∧ w' = w := fun w => by
    have h := Try.bits_Len (n : Int) w (by omega) (by omega)
    rwa [Int.toNat_natCast, bitLen_eq _ (by omega)] at h
  have hk : bitsLen n ≤ 62 := (bitsLen_le_iff n 62).2 (by omega)
  have hp := wrap_two_pow (bitsLen n) hk
  have wr : IntKind.u64.wrap (n : Int) = n := by rw [IntKind.wrap_u64]; omega
  go_enter Try.func150, Try.ntmps150
  go_wp2_with (first | (go_at_call 126; refine (hLen _).mono ?_; rintro e w' ⟨rfl, rfl⟩))
  go_ret
  exact ⟨rfl, rfl⟩
theorem xor_u (a b : Nat) (ha : a < 18446744073709551616) (hb : b < 18446744073709551616) : ∃ c : Nat, c < 18446744073709551616 ∧ bits .xor .u64 (a : Int) (b : Int) = (c : Int) :=
  ⟨a ^^^ b, Nat.xor_lt_two_pow (n := 64) ha hb, bits_xor_u64_nat _ _ ha hb⟩
set_option maxHeartbeats 2000000 in
theorem next_u (rb X : Nat) (hX : X < 18446744073709551616) (w : World) (hc : w.cell? ⟨rb, 0, none⟩ = some (.int .u64 X)) (hf : w.frozen? ⟨rb, 0, none⟩ = false) :
    Calls Try.prog 151 #[.pointer (some ⟨rb, 0, none⟩)] w fun e w' => ∃ Y : Nat, Y < 18446744073709551616 ∧ e = .returned (.int .u64 Y) ∧ w' = (w.setCell ⟨rb, 0, none⟩ (.int .u64 Y)).drewN 3 := by
  obtain ⟨A, lA, e1⟩ : ∃ A : Nat, A < 18446744073709551616 ∧ bits .xor .u64 (X : Int) (IntKind.u64.wrap ((X : Int) * 8192)) = (A : Int) := by
    rw [IntKind.wrap_u64, show ((X : Int) * 8192 % 18446744073709551616) = ((X * 8192 % 18446744073709551616 : Nat) : Int) by omega]; exact xor_u _ _ hX (by omega)
  obtain ⟨B, lB, e2⟩ : ∃ B : Nat, B < 18446744073709551616 ∧ bits .xor .u64 (A : Int) ((A : Int) / 128) = (B : Int) := by
    rw [show ((A : Int) / 128) = ((A / 128 : Nat) : Int) by omega]; exact xor_u _ _ lA (by omega)
  obtain ⟨C, lC, e3⟩ : ∃ C : Nat, C < 18446744073709551616 ∧ bits .xor .u64 (B : Int) (IntKind.u64.wrap ((B : Int) * 131072)) = (C : Int) := by
    rw [IntKind.wrap_u64, show ((B : Int) * 131072 % 18446744073709551616) = ((B * 131072 % 18446744073709551616 : Nat) : Int) by omega]; exact xor_u _ _ lB (by omega)
  have hss : ∀ v v', (w.setCell ⟨rb, 0, none⟩ v).setCell ⟨rb, 0, none⟩ v' = w.setCell ⟨rb, 0, none⟩ v' := setCell_setCell w rb 0
  go_enter Try.func151, Try.ntmps151
  go_wp2
  go_region
  all_goals go_wp2
  all_goals go_region
  all_goals go_wp2
  all_goals go_region
  all_goals go_wp2
  go_ret
  exact ⟨C, lC, rfl, rfl⟩
theorem putRow_heap (w : World) (blk off k : Nat) (d : Array Int) (h : k ≠ blk) : (putRow (Value.int .u64) w blk off d).heap[k]? = w.heap[k]? := by
  unfold putRow mapBlock
  simp only [Array.getElem?_modify]
  rw [if_neg (Ne.symm h)]
/-- Of the blocks that stood, only the row has changed: it holds d. -/
def SU (w0 w : World) (blk off : Nat) (d : Array Int) : Prop := Go.RowKit.Below w0.heap.size (putRow (Value.int .u64) w0 blk off d) w
theorem SU.start {w : World} {blk off : Nat} {d : Array Int} (h : Holds (Value.int .u64) w blk off d) : SU w w blk off d := by
  unfold SU; rw [putRow_self _ _ _ _ _ h]; exact Go.RowKit.Below.refl _ _
theorem SU.holds {w0 w : World} {blk off : Nat} {d0 d : Array Int} (h : SU w0 w blk off d) (hH : Holds (Value.int .u64) w0 blk off d0) (hs : d.size = d0.size) (hb : blk < w0.heap.size) : Holds (Value.int .u64) w blk off d :=
  holds_heap (holds_putRow _ _ _ _ d0 d hH hs) (h.block blk hb)
theorem SU.size {w0 w : World} {blk off : Nat} {d : Array Int} (h : SU w0 w blk off d) : w0.heap.size ≤ w.heap.size := by
  have := Go.RowKit.Below.size h; simpa using this
theorem SU.put {w0 w : World} {blk off : Nat} {d : Array Int} (h : SU w0 w blk off d) (d' : Array Int) (hs : d'.size = d.size) (n : Nat) : SU w0 (putRow (Value.int .u64) (Sort.ahead w n) blk off d') blk off d' := by
  unfold SU
  rw [show putRow (Value.int .u64) w0 blk off d' = putRow (Value.int .u64) (putRow (Value.int .u64) w0 blk off d) blk off d' from (putRow_putRow _ _ _ _ _ _ hs).symm]
  refine ⟨h.os, h.tape, h.output, by simpa using h.size, fun k hk => ?_⟩
  by_cases e : k = blk
  · subst e
    have := h.block k hk
    unfold putRow mapBlock at *
    simp only [Array.getElem?_modify, if_true] at *
    rw [show (Sort.ahead w n).heap = w.heap from rfl, this]
  · rw [putRow_heap _ _ _ _ _ e, putRow_heap _ _ _ _ _ e]; exact h.block k hk
theorem SU.then {w0 w w' : World} {blk off : Nat} {d : Array Int} (h : SU w0 w blk off d) (k : Go.RowKit.Below w.heap.size w w') : SU w0 w' blk off d :=
  Go.RowKit.Below.trans h (k.mono h.size)
end Go.Proofs.Ytncgjbocgbnkcaa
namespace Go.Proofs.Ytncgjbocgbnkcaa
set_option linter.unusedVariables false
set_option linter.unusedSimpArgs false
open Go.RowKit Go.Sort Go.Proofs Go.Proofs.YtncgjbocgbnkcaaW.PrintWords
/-- One round: the generator's cell is written, two places of the row change. -/
theorem SU.round {w wr : World} {blk off : Nat} {d : Array Int} (h : SU w wr blk off d) {d0 : Array Int} (hH : Holds (Value.int .u64) w blk off d0) (hs : d.size = d0.size) (hb : blk < w.heap.size) (Y : Nat) {j k : Nat} (hj : j < d.size) (hk : k < d.size) {x y : Int} (hx : x = d[k]!) (hy : y = d[j]!) (q : Nat) :
    SU w (((((wr.setCell ⟨w.heap.size, 0, none⟩ (.int .u64 Y)).drewN q).setCell ⟨blk, off + j, none⟩ (.int .u64 x)).setCell ⟨blk, off + k, none⟩ (.int .u64 y))) blk off (swp d j k) := by
  have h1 : SU w (wr.setCell ⟨w.heap.size, 0, none⟩ (.int .u64 Y)) blk off d := Go.RowKit.Below.setCell h (Nat.le_refl _) _
  have h2 := h1.holds hH hs hb
  have e := swapU (selfU h2) (q := q) hj hk hx hy
  rw [e]
  exact h1.put _ (size_swp d j k) _
/-- The generator's cell behind a round. -/
theorem gen_round {wr : World} {gb blk off : Nat} {X : Int} (hg : wr.heap[gb]? = some (.cells #[.int .u64 X] 168 (0, 0))) (hne : gb ≠ blk) (Y : Nat) (q j k : Nat) (x y : Value) :
    (((((wr.setCell ⟨gb, 0, none⟩ (.int .u64 Y)).drewN q).setCell ⟨blk, off + j, none⟩ x).setCell ⟨blk, off + k, none⟩ y)).heap[gb]? = some (.cells #[.int .u64 Y] 168 (0, 0)) := by
  rw [Below.heap_setCell _ ⟨blk, off + k, none⟩ _ gb hne, Below.heap_setCell _ ⟨blk, off + j, none⟩ _ gb hne]
  exact blk_set hg 0 (.int .u64 Y)
theorem and_u (Y M : Nat) (hY : Y < 18446744073709551616) (hM : 1 ≤ M) (hM2 : M < 18446744073709551616) : ∃ O : Nat, O ≤ M - 1 ∧ bits .and .u64 (Y : Int) ((M : Int) - 1) = (O : Int) :=
  ⟨Y &&& (M - 1), Nat.and_le_right, by rw [show ((M : Int) - 1) = ((M - 1 : Nat) : Int) by omega, bits_and_u64_nat _ _ hY (by omega)]⟩
set_option maxHeartbeats 4000000 in
set_option maxRecDepth 100000 in
theorem breakPatterns_u (blk off len cap a b : Nat) (d : Array Int) (hlen : d.size = len) (w : World) (hH : Holds (Value.int .u64) w blk off d) (hblk : blk < w.heap.size) (hab : a ≤ b) (hb : b ≤ d.size) (hsz : d.size < 4611686018427387904) :
    Calls Try.prog 139 #[.slice (some ⟨blk, off, none⟩) len cap, .int .i64 a, .int .i64 b] w fun e w' =>
      e = .returned (.tuple #[]) ∧ ∃ d', PermIn a b d d' ∧ SU w w' blk off d' := by
  subst hlen
  obtain ⟨L, rfl⟩ : ∃ L, b = a + L := ⟨b - a, by omega⟩
  obtain ⟨M, hM⟩ : ∃ M : Nat, M = 1 <<< bitsLen L := ⟨_, rfl⟩
  have hNP : ∀ w, Calls Try.prog 150 #[.int .i64 (L : Int)] w fun e w' => e = .returned (.int .u64 (M : Int)) ∧ w' = w := by rw [hM]; exact fun w => npot_u L (by omega) w
  have st := SU.start hH
  have eL : (a : Int) + (L : Int) - (a : Int) = (L : Int) := by omega
  have HH := Lib.hid hH
  by_cases h8 : 8 ≤ L
  · have hM1 : 1 ≤ M := by rw [hM, Nat.one_shiftLeft]; exact Nat.two_pow_pos _
    have hM2 : M ≤ 2 * L := by rw [hM, Nat.one_shiftLeft]; exact two_pow_bitsLen_le (by omega)
    have st2 : SU w (w.alloc (.cells #[.int .u64 (L : Int)] 168)) blk off d := Go.RowKit.Below.alloc st (by simp) _
    have ng : (w.alloc (.cells #[.int .u64 (L : Int)] 168)).heap[w.heap.size]? = some (.cells #[.int .u64 (L : Int)] 168 (0, 0)) := blk_new w _
    have ST := Lib.hid st2; have NG := Lib.hid ng; have EL := Lib.hid eL
    clear hM hH st st2 ng eL
    go_enter Try.func139, Try.ntmps139
    go_wp2_with (first | (go_at_call 150; rw [EL.out]; refine (hNP _).mono ?_; rintro e w' ⟨rfl, rfl⟩))
    go_loopw [9] (fun vi wr => ∃ (t X : Nat) (dk : Array Int), vi = .int .i64 ((a + L / 4 * 2 - 1 + t : Nat) : Int) ∧ t ≤ 3 ∧ X < 18446744073709551616 ∧ PermIn a (a + L) d dk ∧ SU w wr blk off dk ∧
        wr.heap[w.heap.size]? = some (.cells #[.int .u64 (X : Int)] 168 (0, 0))) (fun vi _ => a + L / 4 * 2 + 3 - (intOf vi).toNat)
    case atStart => exact ⟨0, L, d, by congr 1; omega, by omega, by omega, permIn_refl _ _ _, ST.out, NG.out⟩
    case round =>
      obtain ⟨t, X, dk, rfl, ht, hX, hp, hs, hg⟩ := hrel
      have hsk : dk.size = d.size := hp.1
      have hh := hs.holds HH.out hsk hblk
      obtain ⟨G, hG, hcw, hfw⟩ := famU hh rfl (selfU hh)
      have N := next_u w.heap.size X hX wr (blk_cell hg 0) (blk_frozen hg 0)
      have HS := Lib.hid hs; have HP := Lib.hid hp; have HG := Lib.hid hG; have GG := Lib.hid hg
      have hne : w.heap.size ≠ blk := by omega
      clear hs hp hh hG hg
      go_wp2_with (first | (go_at_call 151; refine N.mono ?_; rintro e w' ⟨Y, hY, rfl, rfl⟩; clear N; obtain ⟨O, lO, eO⟩ := and_u Y M hY hM1 (by omega)))
      · have hLO : L ≤ O := by omega
        by_cases hEq : a + L / 4 * 2 - 1 + t = a + (O - L)
        all_goals
          go_region
          all_goals go_wp2
          go_roundw
          case rel =>
            refine ⟨t + 1, Y, swp dk (a + L / 4 * 2 - 1 + t) (a + (O - L)), by first | rfl | (congr 1 <;> omega), by omega, hY, permIn_trans _ _ _ _ _ HP.out (swp_permIn _ _ _ _ _ (by omega) (by omega) (by omega) (by omega) (by omega)), ?_, ?_⟩
            · (try rw [hEq])
              simp only [HG.out]
              exact HS.out.round HH.out hsk hblk Y (by omega) (by omega) rfl rfl _
            · (try rw [hEq])
              exact gen_round GG.out hne Y _ _ _ _ _
          case measure => simp [intOf]; omega
      · have hLO : ¬ L ≤ O := by omega
        by_cases hEq : a + L / 4 * 2 - 1 + t = a + O
        all_goals
          go_region
          all_goals go_wp2
          go_roundw
          case rel =>
            refine ⟨t + 1, Y, swp dk (a + L / 4 * 2 - 1 + t) (a + O), by first | rfl | (congr 1 <;> omega), by omega, hY, permIn_trans _ _ _ _ _ HP.out (swp_permIn _ _ _ _ _ (by omega) (by omega) (by omega) (by omega) (by omega)), ?_, ?_⟩
            · (try rw [hEq])
              simp only [HG.out]
              exact HS.out.round HH.out hsk hblk Y (by omega) (by omega) rfl rfl _
            · (try rw [hEq])
              exact gen_round GG.out hne Y _ _ _ _ _
          case measure => simp [intOf]; omega
      · go_end0
        exact ⟨rfl, dk, HP.out, HS.out⟩
  · have ST := Lib.hid st; have EL := Lib.hid eL
    clear hM hH st eL hNP
    go_enter Try.func139, Try.ntmps139
    go_wp2
    go_end0
    exact ⟨rfl, d, permIn_refl _ _ _, ST.out⟩
end Go.Proofs.Ytncgjbocgbnkcaa
namespace Go.Proofs.Ytncgjbocgbnkcaa
set_option linter.unusedVariables false
set_option linter.unusedSimpArgs false
open Go.RowKit Go.Sort Go.Proofs Go.Proofs.YtncgjbocgbnkcaaW.PrintWords
theorem SU.trans {w0 w1 w2 : World} {blk off : Nat} {d d' : Array Int} (h : SU w0 w1 blk off d) (k : SU w1 w2 blk off d') (hs : d'.size = d.size) : SU w0 w2 blk off d' :=
  (h.put d' hs 0).then (Go.RowKit.Below.mono k (by simp))
theorem SU.draws {w0 w1 : World} {blk off : Nat} {d : Array Int} (h : SU w0 w1 blk off d) (n : Nat) : SU w0 (w1.drewN n) blk off d := ⟨h.os, h.tape, h.output, by have := Go.RowKit.Below.size h; simpa using this, h.block⟩
set_option maxHeartbeats 6400000 in
set_option maxRecDepth 1000000 in
theorem pdqsort_u : ∀ (N blk off len cap a b limit : Nat) (d : Array Int) (_ : d.size = len) (w : World), b - a < N → Holds (Value.int .u64) w blk off d → blk < w.heap.size → a ≤ b → b ≤ d.size → d.size < 4611686018427387904 → limit < 4611686018427387904 → Below ltInt a b d →
    Calls Try.prog 125 #[.slice (some ⟨blk, off, none⟩) len cap, .int .i64 a, .int .i64 b, .int .i64 limit] w fun e w' => e = .returned (.tuple #[]) ∧ ∃ d', (PermIn a b d d' ∧ SortedIn ltInt a b d') ∧ SU w w' blk off d' := by
  intro N
  induction N with
  | zero => intro _ _ _ _ _ _ _ _ _ _ h; exact absurd h (Nat.not_lt_zero _)
  | succ N ih =>
    intro blk off len cap a b limit d hlen w hN hH hblk hab hb hsz hlimit hBel0
    have HH := Lib.hid hH
    have ST := Lib.hid (SU.start hH)
    have HB0 := Lib.hid hBel0
    have IH := Lib.hid ih
    clear hH hBel0 ih
    go_enter Try.func125, Try.ntmps125
    go_wp2
    go_loopg [1, 2, 3, 8, 9] (b - a) (fun k s1 s2 s3 s8 s9 wr => ∃ (a' b' lim : Nat) (wb wp : Bool) (dk : Array Int), s1 = .int .i64 a' ∧ s2 = .int .i64 b' ∧ s3 = .int .i64 lim ∧ s8 = .bool wb ∧ s9 = .bool wp ∧
      a' ≤ b' ∧ b' ≤ d.size ∧ b' - a' ≤ k ∧ k ≤ b - a ∧ lim ≤ limit ∧ dk.size = d.size ∧ Below ltInt a' b' dk ∧ SU w wr blk off dk ∧ ∀ R, PermIn a' b' dk R → SortedIn ltInt a' b' R → PermIn a b d R ∧ SortedIn ltInt a b R)
    case atStart => exact ⟨a, b, limit, true, true, d, rfl, rfl, rfl, rfl, rfl, hab, hb, Nat.le_refl _, Nat.le_refl _, Nat.le_refl _, rfl, HB0.out, ST.out, fun R h1 h2 => ⟨h1, h2⟩⟩
    case round =>
      obtain ⟨a', b', lim, wb, wp, dk, rfl, rfl, rfl, rfl, rfl, hab', hb', hk, hkN, hlim, hds, hBel, hS, hK⟩ := hrel
      have hbl : blk < wr.heap.size := Nat.lt_of_lt_of_le hblk hS.size
      have hh := hS.holds HH.out hds hblk
      have hb2 : b' ≤ dk.size := by omega
      have sz2 : dk.size < 4611686018427387904 := by omega
      have K := Lib.hid hK; have BE := Lib.hid hBel; have HS := Lib.hid hS
      clear hK hBel hS
      by_cases h12 : b' - a' ≤ 12
      · have h12z : (b' : Int) - (a' : Int) ≤ 12 := by omega
        have hc := insertionSort_u blk off len cap a' b' dk (by omega) wr hh hab' hb2 sz2
        obtain ⟨hp, hso⟩ := insertionSort_holds swo_ltInt dk a' b' hab' hb2
        have HP := Lib.hid hp; have HO := Lib.hid hso
        clear hp hso hh
        go_wp2_with (go_at_call 137; refine hc.mono ?_; rintro e w1 ⟨rfl, hw1⟩; clear hc)
        (try simp only [Exit.inBlock, Exit.then]); refine bodyPost_ret (results_none rfl _ _ _) rfl ?_
        obtain ⟨n1, rfl⟩ := hw1
        exact ⟨rfl, _, K.out _ HP.out HO.out, HS.out.put _ HP.out.1 _⟩
      · have h12z : ¬ ((b' : Int) - (a' : Int) ≤ 12) := by omega
        by_cases hl0 : lim = 0
        · subst hl0
          have hc := heapSort_u blk off len cap a' b' dk (by omega) wr hh hab' hb2 sz2
          obtain ⟨hp, hso⟩ := heapSort_holds swo_ltInt dk a' b' hab' hb2
          have HP := Lib.hid hp; have HO := Lib.hid hso
          clear hp hso hh
          go_wp2_with (go_at_call 138; refine hc.mono ?_; rintro e w1 ⟨rfl, hw1⟩; clear hc)
          (try simp only [Exit.inBlock, Exit.then]); refine bodyPost_ret (results_none rfl _ _ _) rfl ?_
          obtain ⟨n1, rfl⟩ := hw1
          exact ⟨rfl, _, K.out _ HP.out HO.out, HS.out.put _ HP.out.1 _⟩
        · have hl0z : ¬ ((lim : Int) = 0) := by omega
          have h12n : a' < b' := by omega
          -- 'if !wasBalanced { breakPatterns; limit-- }': the ways meet
          go_upto_if 35 with fail
          go_cut [3] (fun s3 wc => ∃ (l1 : Nat) (d1 : Array Int), s3 = .int .i64 l1 ∧ l1 ≤ lim ∧ PermIn a' b' dk d1 ∧ SU w wc blk off d1)
          case first =>
            cases wb
            · have hc := breakPatterns_u blk off len cap a' b' dk (by omega) wr hh hbl hab' hb2 sz2
              clear hh
              go_wp2_with (go_at_call 139; refine hc.mono ?_; rintro e w1 ⟨rfl, hw1⟩; clear hc)
              go_meet
              case rel =>
                obtain ⟨d1, hp1, hs1⟩ := hw1
                exact ⟨lim - 1, d1, by congr 1; omega, by omega, hp1, HS.out.trans hs1 hp1.1⟩
            · clear hh
              go_wp2_with fail
              go_meet
              case rel => exact ⟨lim, dk, rfl, Nat.le_refl _, permIn_refl _ _ _, HS.out⟩
          case rest =>
            obtain ⟨l1, d1, rfl, hl1, hp1, hs1⟩ := hcut
            have z1 : d1.size = d.size := hp1.1.trans hds
            have hh1 := hs1.holds HH.out z1 hblk
            have hbl1 : blk < wc.heap.size := Nat.lt_of_lt_of_le hblk hs1.size
            have hc := choosePivot_u blk off len cap a' b' d1 (by omega) wc hh1 hbl1 h12n (by omega) (by omega)
            have HP1 := Lib.hid hp1; have HS1 := Lib.hid hs1
            clear hp1 hs1 hh hh1 hbl
            go_upto_if 50 with (go_at_call 140; refine hc.mono ?_; rintro e w2 ⟨p, hint, rfl, hpa, hpb, hhi, hw2⟩; clear hc)
            have hs2 := HS1.out.then hw2
            have hh2 := hs2.holds HH.out z1 hblk
            have HS2 := Lib.hid hs2
            clear hw2 hs2
            -- 'if hint == decreasingHint { .. }': the ways meet
            go_cut [11, 12] (fun s11 s12 wc => ∃ (p2 h2 : Nat) (d2 : Array Int), s11 = .int .i64 p2 ∧ s12 = .int .i64 h2 ∧ a' ≤ p2 ∧ p2 < b' ∧ PermIn a' b' dk d2 ∧ SU w wc blk off d2)
            case first =>
              by_cases hh3 : hint = 2
              · subst hh3
                have hc := reverseRange_u blk off len cap a' b' d1 (by omega) w2 hh2 h12n (by omega) (by omega)
                have HR := Lib.hid (reverseRange_holds d1 a' b' hab' (by omega))
                clear hh2
                go_wp2_with (go_at_call 141; refine hc.mono ?_; rintro e w3 ⟨rfl, hw3⟩; clear hc)
                go_meet
                case rel =>
                  obtain ⟨n3, rfl⟩ := hw3
                  exact ⟨b' - 1 - (p - a'), 1, _, by congr 1; omega, rfl, by omega, by omega, permIn_trans _ _ _ _ _ HP1.out HR.out, HS2.out.put _ HR.out.1 _⟩
              · have hh3z : ¬ ((hint : Int) = 2) := by omega
                clear hh2
                go_wp2_with fail
                go_meet
                case rel => exact ⟨p, hint, d1, rfl, rfl, hpa, hpb, HP1.out, HS2.out⟩
            case rest =>
              obtain ⟨p2, h2, d2, rfl, rfl, hpa2, hpb2, hp2, hs2⟩ := hcut
              have z2 : d2.size = d.size := hp2.1.trans hds
              have hh4 := hs2.holds HH.out z2 hblk
              have HP2 := Lib.hid hp2; have HS3 := Lib.hid hs2
              clear hp2 hs2 hh2
              go_upto_region 15 with fail
              go_cut [12, 68] (fun s12 s68 wx => s12 = .int .i64 h2 ∧ (∃ c : Bool, s68 = .bool c) ∧ wx = wc)
              case first =>
                by_cases h21 : h2 = 1
                · subst h21
                  cases wb <;> cases wp <;> (go_wp2_with fail; go_meet; exact ⟨rfl, ⟨_, rfl⟩, rfl⟩)
                · have h21z : ¬ ((h2 : Int) = 1) := by omega
                  cases wb <;> cases wp <;> (go_wp2_with fail; go_meet; exact ⟨rfl, ⟨_, rfl⟩, rfl⟩)
              case rest =>
                obtain ⟨rfl, ⟨c, rfl⟩, rfl⟩ := hcut
                -- 'if .. { if partialInsertionSort(..) { return } }': the ways meet, or it returns
                go_upto_if 68 with fail
                go_cut [] (fun wx => ∃ d3 : Array Int, PermIn a' b' dk d3 ∧ SU w wx blk off d3)
                case first =>
                  cases c
                  · clear hh4
                    go_wp2_with fail
                    go_meet
                    case rel => exact ⟨d2, HP2.out, HS3.out⟩
                  · have hpp := partialInsertionSort_holds swo_ltInt d2 a' b' h12n (by omega) (BE.out.perm hb2 HP2.out)
                    have hc := partialIns_u blk off len cap a' b' d2 (by omega) wc hh4 h12n (by omega) (by omega)
                    obtain ⟨pd, pb, hx⟩ : ∃ pd pb, partialInsertionSort ltInt d2 a' b' = (pd, pb) := ⟨_, _, rfl⟩
                    rw [hx] at hc hpp
                    have PP := Lib.hid hpp
                    clear hx hpp hh4
                    go_wp2_with (go_at_call 142; refine hc.mono ?_; rintro e w4 ⟨rfl, hw4⟩; clear hc)
                    all_goals first
                      | (go_meet
                         obtain ⟨n4, rfl⟩ := hw4
                         exact ⟨pd, permIn_trans _ _ _ _ _ HP2.out PP.out.1, HS3.out.put _ PP.out.1.1 _⟩)
                      | ((try simp only [Exit.inBlock, Exit.then]); refine bodyPost_ret (results_none rfl _ _ _) rfl ?_
                         obtain ⟨n4, rfl⟩ := hw4
                         exact ⟨rfl, pd, K.out _ (permIn_trans _ _ _ _ _ HP2.out PP.out.1) (PP.out.2 (by assumption)), HS3.out.put _ PP.out.1.1 _⟩)
                case rest =>
                  obtain ⟨d3, hp3, hs3⟩ := hcut
                  have z3 : d3.size = d.size := hp3.1.trans hds
                  have hh5 := hs3.holds HH.out z3 hblk
                  obtain ⟨G, hG, hcw, hfw⟩ := famU hh5 rfl (selfU hh5)
                  rw [z3] at hcw hfw
                  have HP3 := Lib.hid hp3; have HS4 := Lib.hid hs3; have HH5 := Lib.hid hh5; have HG := Lib.hid hG
                  clear hp3 hs3 hh4 hh5 hG
                  -- 'a > 0 && !cmp.Less(data[a-1], data[pivot])'
                  go_upto_region 17 with fail
                  go_cut [87] (fun s87 wx => ∃ c : Bool, s87 = .bool c ∧ (c = true → 0 < a' ∧ ltInt d3[a' - 1]! d3[p2]! = false) ∧ SU w wx blk off d3)
                  case first =>
                    rcases Nat.eq_zero_or_pos a' with ha0 | ha0
                    · have ha0z : decide ((a' : Int) > 0) = false := decide_eq_false (by omega)
                      go_big_quiet (first | (go_at_call 143; refine Calls.quiet_of_same (less_u _ _ _)))
                      go_wp2_with fail
                      go_meet
                      case rel => exact ⟨_, rfl, fun h => (nomatch h), HS4.out.draws _⟩
                    · have ha0z : (a' : Int) > 0 := by omega
                      go_big_quiet (first | (go_at_call 143; refine Calls.quiet_of_same (less_u _ _ _)))
                      go_wp2_with fail
                      go_meet
                      case rel => exact ⟨_, rfl, fun h => ⟨ha0, by rw [← HG.out, ← HG.out]; simpa using h⟩, HS4.out.draws _⟩
                  case rest =>
                    obtain ⟨c, rfl, hcn, hs4⟩ := hcut
                    have hh6 := hs4.holds HH.out z3 hblk
                    have B3 := BE.out.perm hb2 HP3.out
                    have HS5 := Lib.hid hs4; have CN := Lib.hid hcn
                    clear hcw hfw hs4 hcn
                    cases c
                    · obtain ⟨mid, ap, d4, hx⟩ : ∃ mid ap d4, partition ltInt d3 a' b' p2 = (mid, ap, d4) := ⟨_, _, _, rfl⟩
                      obtain ⟨r1, r2, r3, r4, r5, r6, r7⟩ := round_part swo_ltInt (partition_holds _) hpa2 hpb2 (by omega) B3 hx
                      have hc := partition_u blk off len cap a' b' p2 d3 (by omega) wc hh6 hpa2 hpb2 (by omega) (by omega)
                      rw [hx] at hc
                      have R4 := Lib.hid r4; have R5 := Lib.hid r5; have R6 := Lib.hid r6; have R7 := Lib.hid r7; have R3 := Lib.hid r3; have B4 := Lib.hid B3
                      clear hx hh6 r4 r5 r6 r7 r3 B3
                      go_upto_if 113 with (go_at_call 145; refine hc.mono ?_; rintro e w7 ⟨rfl, hw7⟩; clear hc)
                      have hs7 : SU w w7 blk off d4 := by obtain ⟨n7, rfl⟩ := hw7; exact HS5.out.put _ R3.out _
                      have z4 : d4.size = d.size := R3.out.trans z3
                      have hh7 := hs7.holds HH.out z4 hblk
                      have hbl7 : blk < w7.heap.size := Nat.lt_of_lt_of_le hblk hs7.size
                      have HS7 := Lib.hid hs7
                      clear hw7 hs7
                      by_cases h4 : mid - a' < b' - mid
                      · have h4z : (mid : Int) - (a' : Int) < (b' : Int) - (mid : Int) := by omega
                        have hc := IH.out blk off len cap a' mid l1 d4 (by omega) w7 (by omega) hh7 hbl7 (by omega) (by omega) (by omega) (by omega) R4.out
                        clear hh7
                        go_wp2_with (go_at_call 125; refine hc.mono ?_; rintro e w8 ⟨rfl, hw8⟩; clear hc)
                        go_roundg (b' - (mid + 1))
                        case measure => omega
                        case rel =>
                          obtain ⟨d5, ⟨pL, sL⟩, hs8⟩ := hw8
                          obtain ⟨BL, hfin⟩ := R6.out d5 pL sL
                          exact ⟨mid + 1, b', l1, _, ap, d5, by first | rfl | (congr 1 <;> omega), rfl, rfl, rfl, rfl, by omega, by omega, Nat.le_refl _, by omega, by omega, by rw [pL.1, z4], BL, HS7.out.trans hs8 pL.1,
                            fun R h1 h2 => K.out R (permIn_trans _ _ _ _ _ HP3.out (hfin R h1 h2).1) (hfin R h1 h2).2⟩
                      · have h4z : ¬ ((mid : Int) - (a' : Int) < (b' : Int) - (mid : Int)) := by omega
                        have hc := IH.out blk off len cap (mid + 1) b' l1 d4 (by omega) w7 (by omega) hh7 hbl7 (by omega) (by omega) (by omega) (by omega) R5.out
                        clear hh7
                        go_wp2_with (go_at_call 125; refine hc.mono ?_; rintro e w8 ⟨rfl, hw8⟩; clear hc)
                        go_roundg (mid - a')
                        case measure => omega
                        case rel =>
                          obtain ⟨d5, ⟨pL, sL⟩, hs8⟩ := hw8
                          obtain ⟨BL, hfin⟩ := R7.out d5 pL sL
                          exact ⟨a', mid, l1, _, ap, d5, rfl, rfl, rfl, rfl, rfl, by omega, by omega, Nat.le_refl _, by omega, by omega, by rw [pL.1, z4], BL, HS7.out.trans hs8 pL.1,
                            fun R h1 h2 => K.out R (permIn_trans _ _ _ _ _ HP3.out (hfin R h1 h2).1) (hfin R h1 h2).2⟩
                    · obtain ⟨mid, d4, hx⟩ : ∃ mid d4, partitionEqual ltInt d3 a' b' p2 = (mid, d4) := ⟨_, _, rfl⟩
                      obtain ⟨ha0, hnl⟩ := CN.out rfl
                      obtain ⟨r1, r2, r3, r4, r5⟩ := round_eq swo_ltInt (partitionEqual_holds _) ha0 hpa2 hpb2 (by omega) B3 hnl hx
                      have hc := partitionEqual_u blk off len cap a' b' p2 d3 (by omega) wc hh6 hpa2 hpb2 (by omega) (by omega)
                      rw [hx] at hc
                      have R4 := Lib.hid r4; have R5 := Lib.hid r5; have R3 := Lib.hid r3
                      clear hx hh6 r4 r5 r3 B3 hnl
                      go_wp2_with (go_at_call 144; refine hc.mono ?_; rintro e w7 ⟨rfl, hw7⟩; clear hc)
                      go_roundg (b' - mid)
                      case measure => omega
                      case rel =>
                        obtain ⟨n7, rfl⟩ := hw7
                        exact ⟨mid, b', l1, wb, wp, d4, rfl, rfl, rfl, rfl, rfl, r2, hb', Nat.le_refl _, by omega, by omega, by rw [R3.out]; exact z3, R4.out, HS5.out.put _ R3.out _,
                          fun R h1 h2 => K.out R (permIn_trans _ _ _ _ _ HP3.out (R5.out R h1 h2).1) (R5.out R h1 h2).2⟩
end Go.Proofs.Ytncgjbocgbnkcaa
namespace Go.Proofs.Ytncgjbocgbnkcaa
set_option linter.unusedVariables false
set_option linter.unusedSimpArgs false
open Go.RowKit Go.Sort Go.Proofs Go.Proofs.YtncgjbocgbnkcaaW.PrintWords
theorem sort_u (blk off len cap : Nat) (d : Array Int) (hlen : d.size = len) (w : World) (hH : Holds (Value.int .u64) w blk off d) (hblk : blk < w.heap.size) (hsz : d.size < 4611686018427387904) :
    Calls Try.prog 104 #[.slice (some ⟨blk, off, none⟩) len cap] w fun e w' =>
      e = .returned (.tuple #[]) ∧ ∃ d', (PermIn 0 len d d' ∧ SortedIn ltInt 0 len d') ∧ SU w w' blk off d' := by
  have C := Try.bits_Len len w (by omega) (by omega)
  rw [Int.toNat_natCast, bitLen_eq _ (by omega)] at C
  have hk : bitsLen len ≤ 62 := (bitsLen_le_iff len 62).2 (by omega)
  have wr : IntKind.u64.wrap (len : Int) = len := by rw [IntKind.wrap_u64]; omega
  have hc := fun lim (h : lim < 4611686018427387904) => pdqsort_u (len - 0 + 1) blk off len cap 0 len lim d hlen w (by omega) hH hblk (by omega) (by omega) (by omega) h (Or.inl rfl)
  have hc2 := hc (bitsLen len) (by omega)
  obtain ⟨B, hB⟩ : ∃ B, bitsLen len = B := ⟨_, rfl⟩
  rw [hB] at C hc2 hk
  have WR := Lib.hid wr
  clear hc hB wr hH
  go_enter Try.func104, Try.ntmps104
  go_wp2_with (first | (go_at_call 126; first | (refine C.mono ?_; rintro e w' ⟨rfl, rfl⟩; clear C) | (rw [WR.out]; refine C.mono ?_; rintro e w' ⟨rfl, rfl⟩; clear C)) | (go_at_call 125; refine hc2.mono ?_; rintro e w' ⟨rfl, hw⟩; clear hc2))
  go_end0
  exact ⟨rfl, hw⟩
end Go.Proofs.Ytncgjbocgbnkcaa
namespace Go.Proofs.Ytncgjbocgbnkcaa
set_option linter.unusedVariables false
set_option linter.unusedSimpArgs false
open Go.RowKit Go.Maps Go.Proofs.YtncgjbocgbnkcaaW.PrintWords Go.Proofs.Ytncgjbocgbnkcaa.Pure
abbrev KD := DataW Unit
def kone : KD := .lit (.int .i64 1)
theorem law41 : Keyed Try.prog 41 := int_keyed Try.underlying41
/-- The map has S for its keys, each with a one. -/
structure MapIs (D : KD) (S : List Int) : Prop where
  key : ∀ x, D.atKey (.int .u64 x) (.lit (.int .i64 0)) = .lit (.int .i64 (if x ∈ S then 1 else 0))
  has : ∀ x, Maps.has D (.int .u64 x) = decide (x ∈ S)
  size : Maps.size D = S.length
theorem MapIs.nil : MapIs (.map []) [] := ⟨fun x => rfl, fun x => rfl, rfl⟩
theorem MapIs.put {D : KD} {S S' : List Int} {x : Int} (h : MapIs D S) (ht : Tidy D) (hx : x ∉ S) (hm : ∀ y, y ∈ S' ↔ y = x ∨ y ∈ S) (hl : S'.length = S.length + 1) : MapIs (D.put (.int .u64 x) kone) S' := by
  refine ⟨fun y => ?_, fun y => ?_, ?_⟩
  · by_cases e : y = x
    · subst e
      rw [atKey_put_same (k := .int .u64 y) ht.isMap trivial, if_pos ((hm _).2 (.inl rfl))]; rfl
    · rw [atKey_put_other (by intro c; cases c; exact e rfl), h.key]
      by_cases hy : y ∈ S
      · rw [if_pos hy, if_pos ((hm _).2 (.inr hy))]
      · rw [if_neg hy, if_neg (fun c => by rcases (hm _).1 c with c | c <;> contradiction)]
  · by_cases e : y = x
    · subst e
      rw [has_put_same (k := .int .u64 y) ht.isMap trivial, decide_eq_true ((hm _).2 (.inl rfl))]
    · rw [has_put_other (by intro c; cases c; exact e rfl), h.has]
      exact decide_eq_decide.2 ⟨fun c => (hm _).2 (.inr c), fun c => ((hm _).1 c).resolve_left e⟩
  · rw [size_put ht, h.has, decide_eq_false hx, if_neg (by simp), h.size, hl]
theorem MapIs.del {D : KD} {S S' : List Int} {x : Int} (h : MapIs D S) (ht : Tidy D) (hx : x ∈ S) (hm : ∀ y, y ∈ S' ↔ y ∈ S ∧ y ≠ x) (hl : S.length = S'.length + 1) : MapIs (D.del (.int .u64 x)) S' := by
  refine ⟨fun y => ?_, fun y => ?_, ?_⟩
  · by_cases e : y = x
    · subst e
      rw [atKey_del_same, if_neg (fun c => ((hm _).1 c).2 rfl)]
    · rw [atKey_del_other (by intro c; cases c; exact e rfl), h.key]
      by_cases hy : y ∈ S
      · rw [if_pos hy, if_pos ((hm _).2 ⟨hy, e⟩)]
      · rw [if_neg hy, if_neg (fun c => hy ((hm _).1 c).1)]
  · by_cases e : y = x
    · subst e
      rw [has_del_same, decide_eq_false (fun c => ((hm _).1 c).2 rfl)]
    · rw [has_del_other (by intro c; cases c; exact e rfl), h.has]
      exact decide_eq_decide.2 ⟨fun c => (hm _).2 ⟨c, e⟩, fun c => ((hm _).1 c).1⟩
  · have := size_del (k := .int .u64 x) ht
    rw [h.has, decide_eq_true hx, if_pos rfl, h.size] at this
    omega
/-- The bound on the number of entries may be their number. -/
theorem ownsMap_tight {w : World} {b n : Nat} {D : KD} (h : w.ownsMap Try.prog 41 (plainElem Try.prog 3) b n D) : w.ownsMap Try.prog 41 (plainElem Try.prog 3) b (Maps.size D) D := by
  obtain ⟨es, clock, h1, h2, h3, h4⟩ := h
  refine ⟨es, clock, h1, h2, ?_, h4⟩
  rw [h4]
  simp [Maps.size, length_sorted]
/-- Block mb is the map of S. -/
def KMap (w : World) (mb : Nat) (S : List Int) : Prop := ∃ D : KD, w.ownsMap Try.prog 41 (plainElem Try.prog 3) mb S.length D ∧ MapIs D S
/-- What S must be: it rises, at most 1024 numbers of 64 bits. -/
def KGood (S : List Int) : Prop := Asc S ∧ S.length ≤ 1024 ∧ ∀ x ∈ S, 0 ≤ x ∧ x < 18446744073709551616
/-- Block kb is a Kmv of S with its map in block mb. -/
structure KM (w : World) (kb mb : Nat) (S : List Int) : Prop where
  ne : kb ≠ mb
  map : KMap w mb S
  good : KGood S
  cells : ∃ top : Int, w.heap[kb]? = some (.cells #[.map (some mb), .int .u64 top] 126 (0, 0)) ∧ (S.length = 1024 → top ∈ S ∧ ∀ x ∈ S, x ≤ top)
theorem KMap.block {w w' : World} {mb : Nat} {S : List Int} (h : KMap w mb S) (he : w'.heap[mb]? = w.heap[mb]?) : KMap w' mb S := by
  obtain ⟨D, ⟨es, clock, h1, h2⟩, h3⟩ := h
  exact ⟨D, ⟨es, clock, he.trans h1, h2⟩, h3⟩
theorem KMap.lt {w : World} {mb : Nat} {S : List Int} (h : KMap w mb S) : mb < w.heap.size := by
  obtain ⟨D, h1, _⟩ := h; exact h1.lt
theorem KM.block {w w' : World} {kb mb : Nat} {S : List Int} (h : KM w kb mb S) (h1 : w'.heap[kb]? = w.heap[kb]?) (h2 : w'.heap[mb]? = w.heap[mb]?) : KM w' kb mb S :=
  ⟨h.ne, h.map.block h2, h.good, by obtain ⟨t, e, r⟩ := h.cells; exact ⟨t, h1.trans e, r⟩⟩
theorem below_but {w w' : World} {B r : Nat} (h : w.grownBy w' (some r)) (hr : B ≤ r) (hB : B ≤ w.heap.size) : Below B w w' :=
  Below.grown (Below.refl B w) h hB (fun k e => by cases e; exact hr)
set_option maxHeartbeats 1000000 in
set_option maxRecDepth 100000 in
theorem greatest_u (kb mb : Nat) (top : Int) (S : List Int) (w : World) (hc : w.heap[kb]? = some (.cells #[.map (some mb), .int .u64 top] 126 (0, 0))) (hm : KMap w mb S) (hr : ∀ x ∈ S, 0 ≤ x ∧ x < 18446744073709551616) :
    Calls Try.prog 121 #[.pointer (some ⟨kb, 0, none⟩)] w fun e w' => ∃ m : Int, e = .returned (.int .u64 m) ∧ (∀ x ∈ S, x ≤ m) ∧ (m ∈ S ∨ m = 0) ∧ Below w.heap.size w w' := by
  obtain ⟨D, hown, hD⟩ := hm
  have hc0 := blk_cell hc 0
  have hk : ∀ x ∈ S, Maps.has D (.int .u64 x) = true := fun x hx => by rw [hD.has]; exact decide_eq_true hx
  have hk2 : ∀ x, Maps.has D (.int .u64 x) = true → x ∈ S := fun x hx => by rw [hD.has] at hx; exact of_decide_eq_true hx
  have HK := Lib.hid hk; have HK2 := Lib.hid hk2; have HR := Lib.hid hr
  clear hk hk2 hr hD
  go_enter Try.func121, Try.ntmps121
  go_wp2
  go_step3
  go_wp2
  go_step3
  go_wp2_with (first
    | (at_range; refine wpList_range_own _ rfl _ 124 rfl 41 3 law41 Try.underlying124 _ mb _ _ rfl hown ?_; intro w0 hrg0 hg0 hs0)
    | go_in)
  (try go_frame)
  go_loopw [3] (fun s3 wr => ∃ (left : Lit → Bool) (cnt : Nat) (m : Int), s3 = .int .u64 m ∧ wr.ranges Try.prog 41 (plainElem Try.prog 3) mb w.heap.size S.length D left cnt ∧ Below w.heap.size w wr ∧
      (∀ x ∈ S, left (.int .u64 x) = true ∨ x ≤ m) ∧ (∀ x, left (.int .u64 x) = true → x ∈ S) ∧ (m ∈ S ∨ m = 0))
    (fun _ wr => wr.rangeLeft mb w.heap.size)
  case atStart => exact ⟨_, _, 0, rfl, hrg0, Below.grown (Below.refl _ w) hg0 (Nat.le_refl _) (fun k e => by cases e), fun x hx => .inl (HK.out x hx), HK2.out, .inr rfl⟩
  case round =>
    obtain ⟨left, cnt, m, rfl, hrg, hb, hi1, hi2, hi3⟩ := hrel
    have I1 := Lib.hid hi1; have I2 := Lib.hid hi2; have I3 := Lib.hid hi3
    clear hi1 hi2 hi3
    go_wp2_with (first
      | (at_next; refine wpList_next_ranges_ii _ rfl _ rfl 41 3 .u64 .i64 law41 Try.underlying41 Try.underlying3 mb w.heap.size _ _ _ _ rfl hrg ?_ ?_)
      | go_in)
    · intro _ hl0
      go_wp2
      (try rw [Exit.noGoto_ret])
      go_ret
      exact ⟨m, rfl, fun x hx => (I1.out x hx).resolve_left (by rw [hl0]; simp), I3.out, hb⟩
    · intro x c w1 cnt1 hwx hwc hlx hat hrg1 hlt hg1 hs1 hen
      have hb1 : Below w.heap.size w w1 := hb.trans (below_but hg1 (Nat.le_refl _) hb.size)
      have hxS := I2.out x hlx
      have hx0 := (HR.out x hxS).1
      clear hat hwc hwx
      go_wp2
      · have hle : x ≤ m := by first | assumption | omega
        go_roundw
        case rel => exact ⟨_, cnt1, m, rfl, hrg1, hb1, fun y hy => (I1.out y hy).elim (fun h => if e : y = x then .inr (by omega) else .inl (by simp [h, Lit.sameKey]; exact fun c => e c)) .inr, fun y hy => I2.out y (by simp at hy; exact hy.1), I3.out⟩
        case measure => rw [hrg1.left_eq, hrg.left_eq]; omega
      · have hle : ¬ x ≤ m := by first | assumption | omega
        go_roundw
        case rel => exact ⟨_, cnt1, x, rfl, hrg1, hb1, fun y hy => (I1.out y hy).elim (fun h => if e : y = x then .inr (by omega) else .inl (by simp [h, Lit.sameKey]; exact fun c => e c)) (fun h => .inr (by omega)), fun y hy => I2.out y (by simp at hy; exact hy.1), .inl hxS⟩
        case measure => rw [hrg1.left_eq, hrg.left_eq]; omega
end Go.Proofs.Ytncgjbocgbnkcaa
namespace Go.Proofs.Ytncgjbocgbnkcaa
set_option linter.unusedVariables false
set_option linter.unusedSimpArgs false
open Go.RowKit Go.Sort Go.Proofs.YtncgjbocgbnkcaaW.PrintWords Go.Proofs.Ytncgjbocgbnkcaa.Pure
theorem insertionSort_nil (w : World) : Calls Try.prog 137 #[.slice none 0 0, .int .i64 0, .int .i64 0] w fun e w' => e = .returned (.tuple #[]) ∧ w' = w := by
  go_enter Try.func137, Try.ntmps137
  go_wp2
  go_loopw [6] (fun vi wr => vi = .int .i64 1 ∧ wr = w) (fun _ _ => 0)
  case atStart => exact ⟨rfl, rfl⟩
  case round =>
    obtain ⟨rfl, rfl⟩ := hrel
    go_wp2
    go_end0
    exact ⟨rfl, rfl⟩
theorem pdqsort_nil (w : World) (lim : Nat) : Calls Try.prog 125 #[.slice none 0 0, .int .i64 0, .int .i64 0, .int .i64 lim] w fun e w' => e = .returned (.tuple #[]) ∧ w' = w := by
  have C := insertionSort_nil w
  go_enter Try.func125, Try.ntmps125
  go_wp2
  go_loopw [1, 2] (fun va vb wr => va = .int .i64 0 ∧ vb = .int .i64 0 ∧ wr = w) (fun _ _ _ => 0)
  case atStart => exact ⟨rfl, rfl, rfl⟩
  case round =>
    obtain ⟨rfl, rfl, rfl⟩ := hrel
    go_wp2_with (go_at_call 137; refine C.mono ?_; rintro e w1 ⟨rfl, rfl⟩)
    (try simp only [Exit.inBlock, Exit.then]); refine bodyPost_ret (results_none rfl _ _ _) rfl ?_
    exact ⟨rfl, rfl⟩
theorem sort_nil (w : World) : Calls Try.prog 104 #[.slice none 0 0] w fun e w' => e = .returned (.tuple #[]) ∧ w' = w := by
  have C := Try.bits_Len 0 w (by omega) (by omega)
  have C2 := pdqsort_nil w (Lib.bitLen (Int.toNat 0))
  go_enter Try.func104, Try.ntmps104
  go_wp2_with (first | (go_at_call 126; refine C.mono ?_; rintro e w' ⟨rfl, rfl⟩; clear C) | (go_at_call 125; refine C2.mono ?_; rintro e w' ⟨rfl, rfl⟩; clear C2))
  go_end0
  exact ⟨rfl, rfl⟩
theorem sort_own {w : World} {base : Nat} {v : Value} {l : List Int} (ho : w.ownsRow base 41 1 v l.length (nums .u64 l)) (hl : l.length < 4611686018427387904) :
    Calls Try.prog 104 #[v] w fun e w' => e = .returned (.tuple #[]) ∧ ∃ l' : List Int, l'.Perm l ∧ l'.Pairwise (fun a b => a ≤ b) ∧ w'.ownsRow base 41 1 v l'.length (nums .u64 l') ∧ Below base w w' := by
  rcases ho.2 with ⟨rfl, h0⟩ | ⟨g, cap, cur, rfl, hbg, hg, hnc, hcm, hcs, htake⟩
  · have hn : l = [] := List.eq_nil_of_length_eq_zero h0
    subst hn
    exact (sort_nil w).mono fun e w' ⟨he, hw⟩ => ⟨he, [], List.Perm.refl _, List.Pairwise.nil, by rw [hw]; exact ho, by rw [hw]; exact Below.refl _ _⟩
  · have hH : Holds (Value.int .u64) w g 0 l.toArray := by
      intro j hj
      have hj' : j < l.length := by simpa using hj
      have hc : cur.toList[j]? = some (Value.int .u64 (l.toArray[j]!)) := by
        have e : (nums .u64 l)[j]? = some (Value.int .u64 (l.toArray[j]!)) := by
          unfold nums
          rw [List.getElem?_map, List.getElem?_eq_getElem hj']
          simp [getElem!_pos, hj']
        rw [← htake] at e
        rw [List.getElem?_take] at e
        split at e
        · exact e
        · cases e
      refine ⟨?_, ?_⟩
      · have := blk_cell hg (0 + j)
        rw [this]
        simpa using hc
      · exact blk_frozen hg (0 + j)
    refine (sort_u g 0 l.length cap l.toArray (by simp) w hH (by have := Array.getElem?_eq_some_iff.1 hg; exact this.1) (by simpa using hl)).mono ?_
    rintro e w' ⟨rfl, d', ⟨hp, hs⟩, hu⟩
    have e1 : d'.size = l.length := by rw [hp.1]; simp
    have hgs : g < w.heap.size := (Array.getElem?_eq_some_iff.1 hg).1
    have hw : w'.heap[g]? = some (.cells (putCells (Value.int .u64) 0 d' cur) 41 (0, 0)) := by
      rw [hu.block g hgs]
      unfold putRow mapBlock
      simp only [Array.getElem?_modify, if_true, hg, Option.map_some, onCells]
    refine ⟨rfl, d'.toList, ?_, ?_, ⟨?_, .inr ⟨g, cap, _, ?_, hbg, hw, ?_, hcm, ?_, ?_⟩⟩, ⟨hu.os, hu.tape, hu.output, hu.size, fun k hk => ?_⟩⟩
    · have := hp.2.2
      have e2 : List.take d'.size l = l := List.take_of_length_le (by omega)
      simpa [← e1, e2] using this
    · rw [List.pairwise_iff_getElem]
      intro i j hi hj hij
      have hj' : j < d'.size := by simpa using hj
      have := hs i j (Nat.zero_le _) hij (by omega)
      rw [getElem!_pos d' j hj', getElem!_pos d' i (by omega)] at this
      simp only [ltInt, decide_eq_false_iff_not, Array.getElem_toList] at this ⊢
      omega
    · simp [nums]
    · congr 1; simp [e1]
    · simpa [e1] using hnc
    · unfold putCells; simpa using hcs
    · unfold putCells nums
      apply List.ext_getElem?
      intro i
      rw [List.getElem?_take]
      by_cases hi : i < l.length
      · have hic : i < cur.size := by omega
        have hid : i < d'.size := by omega
        rw [if_pos (by simpa [e1] using hi)]
        simp [hic, hid, getElem!_pos d' i hid]
      · rw [if_neg (by simpa [e1] using hi), List.getElem?_eq_none (by simp [e1]; omega)]
    · rw [hu.block k (by omega)]
      exact putRow_heap _ _ _ _ _ (by omega)
end Go.Proofs.Ytncgjbocgbnkcaa
namespace Go.Proofs.Ytncgjbocgbnkcaa
set_option linter.unusedVariables false
set_option linter.unusedSimpArgs false
open Go.RowKit Go.Maps Go.Proofs.YtncgjbocgbnkcaaW.PrintWords Go.Proofs.Ytncgjbocgbnkcaa.Pure
theorem info41 : (Try.prog.info? 41).map (fun i => (i.zero, i.size, i.bytes)) = some (some (.int .u64 0), 1, 8) := by kernel_rfl
theorem asc_of_sorted {l : List Int} (h : l.Pairwise (fun a b => a ≤ b)) (hn : l.Nodup) : Asc l := by
  have := List.pairwise_and_iff.2 ⟨h, hn⟩
  exact this.imp (fun ⟨a, b⟩ => by have : _ ≠ _ := b; omega)
set_option maxHeartbeats 1000000 in
set_option maxRecDepth 100000 in
theorem hashes_u (kb mb : Nat) (S : List Int) (w : World) (h : KM w kb mb S) :
    Calls Try.prog 69 #[.pointer (some ⟨kb, 0, none⟩)] w fun e w' => ∃ v, e = .returned v ∧ w'.ownsRow w.heap.size 41 1 v S.length (nums .u64 S) ∧ Below w.heap.size w w' := by
  obtain ⟨_, ⟨D, hown, hD⟩, ⟨hA, hL, hr⟩, top, hc, _⟩ := h
  have hc0 := blk_cell hc 0
  have hk : ∀ x, Maps.has D (.int .u64 x) = true ↔ x ∈ S := fun x => by rw [hD.has]; exact decide_eq_true_iff
  have HK := Lib.hid hk; have HA := Lib.hid hA
  clear hk hD hA hr
  go_enter Try.func69, Try.ntmps69
  go_wp2_with (first
    | (at_range; refine wpList_range_own _ rfl _ 124 rfl 41 3 law41 Try.underlying124 _ mb _ _ rfl hown ?_; intro w0 hrg0 hg0 hs0)
    | go_in)
  go_frame
  go_loopw [3] (fun s3 wr => ∃ (left : Lit → Bool) (cnt : Nat) (l : List Int), wr.ranges Try.prog 41 (plainElem Try.prog 3) mb w.heap.size S.length D left cnt ∧ Below w.heap.size w wr ∧
      (Kd.int .u64).R 41 wr w.heap.size (fun k => k ≠ w.heap.size) s3 l ∧ l.Nodup ∧ (∀ x, left (.int .u64 x) = true → x ∈ S) ∧ (∀ x, x ∈ l ↔ x ∈ S ∧ left (.int .u64 x) = false))
    (fun _ wr => wr.rangeLeft mb w.heap.size)
  case atStart => exact ⟨_, _, [], hrg0, Below.grown (Below.refl _ w) hg0 (Nat.le_refl _) (fun k e => by cases e), Kd.R_nil _ _ _ _ _, List.nodup_nil, fun x hx => (HK.out x).1 hx, fun x => ⟨fun c => by simp at c, fun ⟨c1, c2⟩ => by rw [(HK.out x).2 c1] at c2; cases c2⟩⟩
  case round =>
    obtain ⟨left, cnt, l, hrg, hb, hl, hnd, hi1, hi2⟩ := hrel
    have I1 := Lib.hid hi1; have I2 := Lib.hid hi2; have ND := Lib.hid hnd
    clear hi1 hi2 hnd
    go_wp2_with (first
      | (at_next; refine wpList_next_ranges_ii _ rfl _ rfl 41 3 .u64 .i64 law41 Try.underlying41 Try.underlying3 mb w.heap.size _ _ _ _ rfl hrg ?_ ?_)
      | go_in)
    · intro _ hl0
      have hm : ∀ x, x ∈ l ↔ x ∈ S := fun x => by rw [I2.out x, hl0]; simp
      have hlen : l.length ≤ S.length := nodup_le ND.out (fun x hx => (hm x).1 hx)
      have C := sort_own (Kd.own_of_R hl) (by omega)
      have HM := Lib.hid hm; have HB := Lib.hid hb
      clear hm hl0 hl
      go_wp2_with (go_at_call 104; refine C.mono ?_; rintro e w1 ⟨rfl, l', hp, hs, ho, hb1⟩; clear C)
      go_ret
      have e : l' = S := asc_ext (asc_of_sorted hs (hp.nodup_iff.2 ND.out)) HA.out (fun x => by rw [hp.mem_iff, HM.out])
      exact ⟨_, rfl, by rw [← e]; exact ho, HB.out.trans hb1⟩
    · intro x c w1 cnt1 hwx hwc hlx hat hrg1 hlt hg1 hs1 hen
      have hb1 : Below w.heap.size w w1 := hb.trans (below_but hg1 (Nat.le_refl _) hb.size)
      have hl1 : (Kd.int .u64).R 41 w1 w.heap.size (fun k => k ≠ w.heap.size) u3 l := Kd.R_grown hl hg1 (fun k hk c => hk (by simpa using c))
      have hxS := I1.out x hlx
      have hxl : x ∉ l := fun c => by have := ((I2.out x).1 c).2; rw [hlx] at this; cases this
      have hll : l.length ≤ S.length := nodup_le ND.out (fun y hy => ((I2.out y).1 hy).1)
      have hrl := hrg1.lt
      have hmb := hown.lt
      have HX := Lib.hid hxl; have HXS := Lib.hid hxS; have HB := Lib.hid hb1; have HLX := Lib.hid hlx; have HRG := Lib.hid hrg1
      have HBS := Kd.R_base hl1; have HOK := hl1.1
      have HBS := Lib.hid HBS; have HOK := Lib.hid HOK
      clear hat hwc hwx hxl hb hb1 hl hlx hrg1 hxS hs1
      go_wp2_with ((with_reducible refine gate_builtin (b := .append) (xs := #[.tmp 17, .tmp 19]) rfl ?_); at_builtin; refine Kd.R_append (Kd.int .u64) (w0 := w) (W := w1) w.heap.size rfl (.tmp 17) (.tmp 19) 40 41 (.int .u64 0) 8 rfl Try.underlying40 info41 rfl (by decide) (by omega) u3 l x [.int .u64 x] (fun k => k ≠ w.heap.size) (fun _ => False) rfl rfl rfl (fun _ hk => hk.elim) (fun k hk => by omega) hl1 HB.out (by omega) (by omega) ?_; intro v2 w2 ho2 hb2 hg2 hat2)
      go_roundw
      case rel =>
        refine ⟨_, cnt1, l ++ [x], HRG.out.kept hg2 ?_ ?_, hb2, ho2, ?_, ?_, ?_⟩
        · intro c
          have := HBS.out mb c.symm
          omega
        · intro c
          exact HOK.out _ c.symm rfl
        · exact List.nodup_append.2 ⟨ND.out, by simp, fun a ha b hb c => by simp at hb; subst hb; subst c; exact HX.out ha⟩
        · intro y hy
          simp at hy
          exact I1.out y hy.1
        · intro y
          rw [List.mem_append, List.mem_singleton, I2.out y]
          by_cases e : y = x
          · subst e; simp [HXS.out, Lit.sameKey]
          · simp [e, Lit.sameKey]
      case measure => rw [(HRG.out.kept hg2 (fun c => by have := HBS.out mb c.symm; omega) (fun c => HOK.out _ c.symm rfl)).left_eq, hrg.left_eq]; omega
end Go.Proofs.Ytncgjbocgbnkcaa
namespace Go.Proofs.Ytncgjbocgbnkcaa
set_option linter.unusedVariables false
set_option linter.unusedSimpArgs false
open Go.RowKit Go.Maps Go.Proofs.YtncgjbocgbnkcaaW.PrintWords Go.Proofs.Ytncgjbocgbnkcaa.Pure
theorem kgood_nil : KGood [] := ⟨List.Pairwise.nil, by simp, fun x hx => by simp at hx⟩
theorem new_u (w : World) : Calls Try.prog 65 #[] w fun e w' => ∃ kb mb, e = .returned (.pointer (some ⟨kb, 0, none⟩)) ∧ KM w' kb mb [] ∧ w.heap.size ≤ kb ∧ w.heap.size ≤ mb ∧ Below w.heap.size w w' := by
  have h1 := World.ownsMap_made (H := Unit) w Try.prog 41 (plainElem Try.prog 3)
  have h2 := h1.alloc (.cells #[.map (some w.heap.size), .int .u64 0] 126)
  have b1 : Below w.heap.size w ((w.alloc (.map #[] 0)).alloc (.cells #[.map (some w.heap.size), .int .u64 0] 126)) :=
    ((Below.refl w.heap.size w).alloc (Nat.le_refl _) (.map #[] 0)).alloc (by simp) _
  have n1 := blk_new (w.alloc (.map #[] 0)) (Obj.cells #[.map (some w.heap.size), .int .u64 0] 126)
  have H2 := Lib.hid h2; have B1 := Lib.hid b1; have N1 := Lib.hid n1
  clear h1 h2 b1 n1
  have hmk : ∀ w, (Instr.makeMap 124 none).run Try.prog w = .ok (.map (some w.heap.size)) (w.alloc (.map #[] 0)) := fun w => run_makeMap 124 w
  go_enter Try.func65, Try.ntmps65
  go_wp2
  go_ret
  exact ⟨w.heap.size + 1, w.heap.size, by simp, ⟨by omega, ⟨_, H2.out, MapIs.nil⟩, kgood_nil, ⟨0, by simpa using N1.out, by simp⟩⟩, by omega, Nat.le_refl _, B1.out⟩
theorem khash_in {S : List Int} {h : Int} (hA : Asc S) (hl : S.length ≤ 1024) (hm : h ∈ S) : khash S h = S := by
  unfold khash; rw [kins_mem hA hm, List.take_of_length_le hl]
theorem kins_over {h : Int} : ∀ {S : List Int}, (∀ x ∈ S, x < h) → kins h S = S ++ [h] := by
  intro S
  induction S with
  | nil => intro _; rfl
  | cons x r ih =>
    intro hx
    have := hx x (by simp)
    rw [kins, if_neg (by omega), if_neg (by omega), ih (fun y hy => hx y (by simp [hy]))]; rfl
theorem khash_over {S : List Int} {h : Int} (hl : S.length = 1024) (hm : ∀ x ∈ S, x < h) : khash S h = S := by
  unfold khash; rw [kins_over hm, List.take_append_of_le_length (by omega), List.take_of_length_le (by omega)]
theorem khash_new {S : List Int} {h : Int} (hA : Asc S) (hl : S.length < 1024) (hm : h ∉ S) : khash S h = kins h S := by
  unfold khash; rw [List.take_of_length_le (by rw [kins_len hA hm]; omega)]
theorem mem_but_last {L : List Int} {n : Nat} {m : Int} (hA : Asc L) (hl : L.length = n + 1) (hm : m ∈ L) (hx : ∀ x ∈ L, x ≤ m) (y : Int) : y ∈ L.take n ↔ y ∈ L ∧ y ≠ m := by
  rcases List.eq_nil_or_concat L with rfl | ⟨K, z, rfl⟩
  · simp at hl
  · simp only [List.concat_eq_append, List.length_append, List.length_cons, List.length_nil] at *
    have hK : K.length = n := by omega
    have hz : ∀ a ∈ K, a < z := fun a ha => (List.pairwise_append.1 hA).2.2 a ha z (by simp)
    have e : z = m := by
      have h1 := hx z (by simp)
      rcases List.mem_append.1 hm with c | c
      · have := hz m c; omega
      · simp at c; exact c.symm
    rw [List.take_append_of_le_length (by omega), List.take_of_length_le (by omega), ← e]
    simp only [List.mem_append, List.mem_singleton]
    exact ⟨fun c => ⟨.inl c, fun c2 => by have := hz y c; omega⟩, fun ⟨c, c2⟩ => c.resolve_right c2⟩
theorem kgood_khash {S : List Int} (hg : KGood S) {h : Int} (h0 : 0 ≤ h ∧ h < 18446744073709551616) : KGood (khash S h) := by
  refine ⟨asc_khash hg.1 h, khash_len S h, fun x hx => ?_⟩
  rcases (mem_kins h S x).1 (List.mem_of_mem_take hx) with c | c
  · rw [c]; exact h0
  · exact hg.2.2 x c
/-- Only the two blocks of a Kmv have changed of those that stood. -/
def KF (w w' : World) (kb mb : Nat) : Prop := w'.os = w.os ∧ w'.tape = w.tape ∧ w'.output = w.output ∧ w.heap.size ≤ w'.heap.size ∧ ∀ i, i < w.heap.size → i ≠ kb → i ≠ mb → w'.heap[i]? = w.heap[i]?
theorem KF.refl (w : World) (kb mb : Nat) : KF w w kb mb := ⟨rfl, rfl, rfl, Nat.le_refl _, fun _ _ _ _ => rfl⟩
theorem KF.trans {a b c : World} {kb mb : Nat} (h : KF a b kb mb) (k : KF b c kb mb) : KF a c kb mb :=
  ⟨k.1.trans h.1, k.2.1.trans h.2.1, k.2.2.1.trans h.2.2.1, Nat.le_trans h.2.2.2.1 k.2.2.2.1, fun i hi h1 h2 => (k.2.2.2.2 i (Nat.lt_of_lt_of_le hi h.2.2.2.1) h1 h2).trans (h.2.2.2.2 i hi h1 h2)⟩
theorem KF.below {a b : World} {kb mb : Nat} (h : Below a.heap.size a b) : KF a b kb mb := ⟨h.os, h.tape, h.output, h.size, fun i hi _ _ => h.block i hi⟩
theorem KF.grown {a b : World} {kb mb : Nat} (h : a.grownBy b (some mb)) : KF a b kb mb := ⟨h.os, h.tape, h.output, h.size, fun i hi _ h2 => h.block i hi (by simpa using h2)⟩
theorem KF.set {a : World} {kb mb : Nat} (j : Nat) (v : Value) : KF a (a.setCell ⟨kb, j, none⟩ v) kb mb := ⟨rfl, rfl, rfl, by simp, fun i _ h1 _ => Below.heap_setCell a ⟨kb, j, none⟩ v i h1⟩
theorem KM.topped {w : World} {kb mb : Nat} {L : List Int} {t m : Int} (hne : kb ≠ mb) (hm : KMap w mb L) (hg : KGood L) (hc : w.heap[kb]? = some (.cells #[.map (some mb), .int .u64 t] 126 (0, 0))) (hin : m ∈ L) (hx : ∀ x ∈ L, x ≤ m) :
    KM (w.setCell ⟨kb, 1, none⟩ (.int .u64 m)) kb mb L :=
  ⟨hne, hm.block (Below.heap_setCell w ⟨kb, 1, none⟩ _ mb (Ne.symm hne)), hg, ⟨m, blk_set hc 1 (.int .u64 m), fun _ => ⟨hin, hx⟩⟩⟩
theorem greatest_in {L : List Int} {m : Int} (hg : KGood L) (hl : L.length = 1024) (hx : ∀ x ∈ L, x ≤ m) (hin : m ∈ L ∨ m = 0) : m ∈ L := by
  rcases hin with h | h
  · exact h
  · cases L with
    | nil => simp at hl
    | cons x r =>
      have h1 := hx x (by simp)
      have h2 := (hg.2.2 x (by simp)).1
      have : x = m := by omega
      rw [← this]; simp
set_option maxHeartbeats 2000000 in
set_option maxRecDepth 100000 in
theorem hash_u (kb mb : Nat) (S : List Int) (h : Int) (h0 : 0 ≤ h ∧ h < 18446744073709551616) (w : World) (hk : KM w kb mb S) :
    Calls Try.prog 101 #[.pointer (some ⟨kb, 0, none⟩), .int .u64 h] w fun e w' => e = .returned (.tuple #[]) ∧ KM w' kb mb (khash S h) ∧ KF w w' kb mb := by
  have hkm := hk
  obtain ⟨hne, ⟨D, hown, hD⟩, ⟨hA, hL, hr⟩, top, hc, htop⟩ := hk
  have wfh : (Lit.int .u64 h).wf = true := by
    have e1 : IntKind.u64.min = 0 := by decide
    have e2 : IntKind.u64.max = 18446744073709551615 := by decide
    simp only [Lit.wf, e1, e2, Bool.and_eq_true, decide_eq_true_eq]; omega
  have hc0 := blk_cell hc 0
  have hc1 := blk_cell hc 1
  obtain ⟨c, hlook, hat, hwc⟩ := hown.lookup_int law41 Try.underlying124 Try.underlying3 (by rfl) (keyOf_int_mk Try.underlying41 wfh)
  have hlen := fun ty => hown.len Try.underlying124 ty
  rw [hD.size] at hlen
  rw [hD.key] at hat
  by_cases hm : h ∈ S
  · rw [if_pos hm] at hat
    obtain rfl : c = 1 := by injection hat with e; injection e with _ e; exact e.symm
    have E := Lib.hid (khash_in hA hL hm)
    have KK := Lib.hid hkm
    clear hat hwc hA hL hr hm hD hown hkm htop
    go_enter Try.func101, Try.ntmps101
    go_wp2
    (try simp only [Exit.inBlock, Exit.then]); refine bodyPost_ret (results_none rfl _ _ _) rfl ?_
    exact ⟨rfl, by rw [E.out]; exact KK.out, KF.refl _ _ _⟩
  · rw [if_neg hm] at hat
    obtain rfl : c = 0 := by injection hat with e; injection e with _ e; exact e.symm
    clear hat hwc
    have hD1 := hD.put (hown.tidy law41) hm (mem_kins h S) (kins_len hA hm)
    have hkl := kins_len hA hm
    have hval : plainElem (H := Unit) Try.prog 3 (.int .i64 1) = some (kone, []) := plainElem_int Try.underlying3 (by decide)
    have hkb : kb < w.heap.size := (Array.getElem?_eq_some_iff.1 hc).1
    have hkey := keyOf_int_mk Try.underlying41 wfh
    by_cases h1024 : S.length = 1024
    · rw [h1024] at hlen
      obtain ⟨ht1, ht2⟩ := htop h1024
      by_cases hgt : top < h
      · have E := Lib.hid (khash_over (h := h) h1024 (fun x hx => by have := ht2 x hx; omega))
        have KK := Lib.hid hkm
        clear hA hL hr hm hD hown hkm htop hD1 ht2 h1024 hkl hval
        go_enter Try.func101, Try.ntmps101
        go_wp2
        (try simp only [Exit.inBlock, Exit.then]); refine bodyPost_ret (results_none rfl _ _ _) rfl ?_
        exact ⟨rfl, by rw [E.out]; exact KK.out, KF.refl _ _ _⟩
      · have hlt : h < top := by
          have : h ≠ top := fun c => hm (c ▸ ht1)
          omega
        have hle : ¬ top < h := hgt
        have hkl2 : (kins h S).length = 1025 := by omega
        have hin1 : top ∈ kins h S := (mem_kins h S top).2 (.inr ht1)
        have hmax : ∀ x ∈ kins h S, x ≤ top := fun x hx => by rcases (mem_kins h S x).1 hx with c | c; · omega
                                                              · exact ht2 x c
        have hmem := mem_but_last (asc_kins h hA) hkl2 hin1 hmax
        have hgd := kgood_khash hkm.good h0 (h := h)
        have hlk : (khash S h).length = 1024 := by unfold khash; rw [List.length_take]; omega
        have HGD := Lib.hid hgd; have HMEM := Lib.hid hmem; have HIN1 := Lib.hid hin1; have HLK := Lib.hid hlk
        have HD1 := Lib.hid hD1; have HSZ := Lib.hid (hD1.size.trans hkl2); have HL := Lib.hid h1024
        have hr2 := hr top ht1
        clear hA hL hr hm hD hkm htop hD1 hkl hkl2 hgd hmem hin1 hmax ht1 ht2 hlk h1024 hgt
        go_enter Try.func101, Try.ntmps101
        go_upto_if 41 with (first
          | (at_mapUpdate; refine wpList_mapUpdate_own _ rfl _ _ _ 124 rfl 41 3 law41 Try.underlying124 _ mb S.length D rfl hown (by have : maxLen = 9223372036854775807 := rfl; have := HL.out; omega) _ _ (.int .u64 h) rfl rfl hkey kone [] hval ?_; intro w1 hown1 hg1; have hc2 := (hg1.block kb hkb (by simp [hne])).trans hc; have hcc0 := blk_cell hc2 0; have hcc1 := blk_cell hc2 1; have hlen1 := fun ty => hown1.len Try.underlying124 ty; rw [HSZ.out, show ((1025 : Nat) : Int) = 1025 from rfl] at hlen1)
          | go_in)
        have HG1 := Lib.hid hg1
        have k1 := (Array.getElem?_eq_some_iff.1 hc2).1
        have ht1 := hown1.tidy law41
        have own2 := hown1.drew
        have hc3 : w1.drew.heap[kb]? = some (.cells #[.map (some mb), .int .u64 top] 126 (0, 0)) := hc2
        have kF : KF w1 w1.drew kb mb := KF.below (below_drew (Below.refl _ _))
        have TD := Lib.hid ht1
        clear hg1 ht1
        have hd41 : decide ((1024 : Int) < 1025) = true := by decide
        go_wp2
        refine wp_region_still_tail 8 (by kernel_rfl) (by kernel_rfl) ?_
        simp only [List.take_succ_cons, List.take_zero, List.drop_succ_cons, List.drop_zero]
        change wpStill _ _ w1.drew _ _ _
        obtain ⟨W2, hW2⟩ : ∃ W2, w1.drew = W2 := ⟨_, rfl⟩
        rw [hW2] at own2 hc3 kF ⊢
        have HW2 := Lib.hid hW2
        clear hW2 hcc0 hcc1 hlen1 hlen hc0 hc1 hlook hown hc hown1 hc2
        have hcc0 := blk_cell hc3 0; have hcc1 := blk_cell hc3 1
        repeat still_step
        refine wpStill_nil ?_
        change wpList _ _ _ _ _ w1.drew
        rw [HW2.out]
        have wft : (Lit.int .u64 top).wf = true := by
          have e1 : IntKind.u64.min = 0 := by decide
          have e2 : IntKind.u64.max = 18446744073709551615 := by decide
          simp only [Lit.wf, e1, e2, Bool.and_eq_true, decide_eq_true_eq]; omega
        have hkeyt := keyOf_int_mk Try.underlying41 wft
        have hD2 : MapIs _ (khash S h) := HD1.out.del TD.out HIN1.out HMEM.out (by have := HSZ.out; rw [HD1.out.size] at this; have := HLK.out; omega)
        have HD2 := Lib.hid hD2
        have kF2 := Lib.hid ((KF.grown (kb := kb) HG1.out).trans kF)
        have hkb2 := (Array.getElem?_eq_some_iff.1 hc3).1
        clear hD2 hcc0 hcc1 kF
        go_wp2_with (first
          | (at_delete; refine wpList_delete_own _ rfl _ _ 124 41 rfl 3 law41 Try.underlying124 _ mb _ _ rfl own2 (.int .u64 top) (.int .u64 top) rfl hkeyt ?_; intro w3 own3 turn3; have hg3 := turn3.grown; have hc4 := (hg3.block kb hkb2 (by simp [hne])).trans hc3; have hcc0 := blk_cell hc4 0; have hcc1 := blk_cell hc4 1; have hlen3 := fun ty => own3.len Try.underlying124 ty; rw [HD2.out.size, HLK.out, show ((1024 : Nat) : Int) = 1024 from rfl] at hlen3; have HG3 := Lib.hid hg3; clear turn3 hg3;
             have hmap3 : KMap w3 mb (khash S h) := ⟨_, by rw [← HD2.out.size]; exact ownsMap_tight own3, HD2.out⟩; have C := greatest_u kb mb top (khash S h) w3 hc4 hmap3 HGD.out.2.2; have HM3 := Lib.hid hmap3; have hmb3 := own3.lt; clear hmap3)
          | (go_at_call 121; refine C.mono ?_; rintro e w4 ⟨m, rfl, hx, hin, hb2⟩; clear C; have hkb1 := (Array.getElem?_eq_some_iff.1 hc4).1; have hc5 := (hb2.block kb hkb1).trans hc4; have hcd0 := blk_cell hc5 0; have hcd1 := blk_cell hc5 1; have hfd := blk_frozen hc5 1; have HIN := Lib.hid hin; have HX := Lib.hid hx; have HB2 := Lib.hid hb2; clear hin hx hb2)
          | go_in)
        go_end0
        exact ⟨rfl, KM.topped hne (HM3.out.block (HB2.out.block mb hmb3)) HGD.out hc5 (greatest_in HGD.out HLK.out HX.out HIN.out) HX.out, ((kF2.out.trans (KF.grown HG3.out)).trans (KF.below HB2.out)).trans (KF.set 1 _)⟩
    · have hlt : S.length < 1024 := by omega
      have hz1 : decide ((S.length : Int) = 1024) = false := decide_eq_false (by omega)
      have hz2 : decide ((1024 : Int) < ((kins h S).length : Int)) = false := decide_eq_false (by omega)
      have E := Lib.hid (khash_new hA hlt hm)
      have hgd := kgood_khash hkm.good h0 (h := h)
      rw [E.out] at hgd
      have HGD := Lib.hid hgd
      have HD1 := Lib.hid hD1; have HSZ := Lib.hid hD1.size
      clear hA hL hr hm hD hkm htop hD1 hkl hgd
      go_enter Try.func101, Try.ntmps101
      go_upto_if 41 with (first
        | (at_mapUpdate; refine wpList_mapUpdate_own _ rfl _ _ _ 124 rfl 41 3 law41 Try.underlying124 _ mb S.length D rfl hown (by have : maxLen = 9223372036854775807 := rfl; omega) _ _ (.int .u64 h) rfl rfl hkey kone [] hval ?_; intro w1 hown1 hg1; have hc2 := (hg1.block kb hkb (by simp [hne])).trans hc; have hcc0 := blk_cell hc2 0; have hcc1 := blk_cell hc2 1; have hlen1 := fun ty => hown1.len Try.underlying124 ty; rw [HSZ.out] at hlen1)
        | go_in)
      have hmap1 : KMap w1 mb (kins h S) := ⟨_, by rw [← HD1.out.size]; exact ownsMap_tight hown1, HD1.out⟩
      have HM1 := Lib.hid hmap1; have HG1 := Lib.hid hg1
      have hmb1 := hown1.lt
      by_cases hq : (kins h S).length = 1024
      · rw [hq, show ((1024 : Nat) : Int) = 1024 from rfl] at hlen1
        have C := greatest_u kb mb top (kins h S) w1 hc2 hmap1 HGD.out.2.2
        have HQ := Lib.hid hq
        clear hmap1 hg1 hq
        go_wp2_with (go_at_call 121; refine C.mono ?_; rintro e w2 ⟨m, rfl, hx, hin, hb2⟩; clear C; have hkb1 := (Array.getElem?_eq_some_iff.1 hc2).1; have hc3 := (hb2.block kb hkb1).trans hc2; have hcd0 := blk_cell hc3 0; have hcd1 := blk_cell hc3 1; have hfd := blk_frozen hc3 1; have HIN := Lib.hid hin; have HX := Lib.hid hx; have HB2 := Lib.hid hb2; clear hin hx hb2)
        go_end0
        exact ⟨rfl, by rw [E.out]; exact KM.topped hne (HM1.out.block (HB2.out.block mb hmb1)) HGD.out hc3 (greatest_in HGD.out HQ.out HX.out HIN.out) HX.out, ((KF.grown HG1.out).trans (KF.below HB2.out)).trans (KF.set 1 _)⟩
      · have hz3 : (((kins h S).length : Int) == 1024) = false := beq_eq_false_iff_ne.mpr (by omega)
        have HQ := Lib.hid hq
        clear hmap1 hg1 hq
        go_wp2
        go_end0
        exact ⟨rfl, by rw [E.out]; exact ⟨hne, HM1.out, HGD.out, ⟨top, hc2, fun c => absurd c HQ.out⟩⟩, KF.grown HG1.out⟩
end Go.Proofs.Ytncgjbocgbnkcaa
namespace Go.Proofs.Ytncgjbocgbnkcaa
set_option linter.unusedVariables false
set_option linter.unusedSimpArgs false
open Go.Proofs.Ytncgjbocgbnkcaa.Pure
theorem kins_split {h : Int} : ∀ {l : List Int} {k : Nat}, k ≤ l.length → (∀ j (hj : j < k) (hl : j < l.length), l[j] < h) → (∀ hk : k < l.length, h < l[k]) → kins h l = l.take k ++ h :: l.drop k := by
  intro l
  induction l with
  | nil => intro k _ _ _; simp [kins]
  | cons x r ih =>
    intro k hk h1 h2
    cases k with
    | zero =>
      have := h2 (by simp)
      simp only [List.getElem_cons_zero] at this
      rw [kins, if_pos this]; simp
    | succ k =>
      have hx := h1 0 (by omega) (by simp)
      simp only [List.getElem_cons_zero] at hx
      rw [kins, if_neg (by omega), if_neg (by omega), ih (k := k) (by simpa using hk) (fun j hj hl => by have := h1 (j + 1) (by omega) (by simpa using hl); simpa using this)
        (fun hk' => by have := h2 (by simpa using hk'); simpa using this)]
      simp
theorem khash_split {h : Int} {l : List Int} {k : Nat} (hk : k ≤ l.length) (h1 : ∀ j (hj : j < k) (hl : j < l.length), l[j] < h) (h2 : ∀ hk : k < l.length, h < l[k]) : khash l h = (l.take k ++ h :: l.drop k).take 1024 := by
  unfold khash; rw [kins_split hk h1 h2]
theorem khash_at {h : Int} {l : List Int} {k : Nat} (hA : Asc l) (hl : l.length ≤ 1024) (hk : k < l.length) (he : l[k] = h) : khash l h = l :=
  khash_in hA hl (he ▸ List.getElem_mem hk)
theorem khash_full {h : Int} {l : List Int} {k : Nat} (hl : l.length ≤ 1024) (hk : k ≤ l.length) (hk2 : 1024 ≤ k) (h1 : ∀ j (hj : j < k) (hl : j < l.length), l[j] < h) : khash l h = l := by
  refine khash_over (by omega) fun x hx => ?_
  obtain ⟨j, hj, rfl⟩ := List.getElem_of_mem hx
  exact h1 j (by omega) hj
end Go.Proofs.Ytncgjbocgbnkcaa
