/- What the laws of this folder share, part 6: walks of functions over their Go text, and plain lemmas. Conditions: as each lemma says. -/
import Derived.Deep.RegionHeld3
import Derived.Outline
import Derived.Test.YtplgffbfepnihaaRows
import Derived.Test.YtplgffbfepnihaaPzM5
set_option linter.unusedVariables false
set_option linter.unusedSimpArgs false
namespace Go.Proofs.Ytplgffbfepnihaa.Bp
open Go.RowKit Go.Proofs.YtplgffbfepnihaaW.PrintWords Go.Proofs.YtplgffbfepnihaaW.PrintLast Go.Proofs.YtplgffbfepnihaaW.PrintMore Go.Proofs.Ytplgffbfepnihaa.Hi Go.Proofs.Ytplgffbfepnihaa.Q Go.Proofs.Ytplgffbfepnihaa.Gb Go.Proofs.Ytplgffbfepnihaa.Vt Go.Proofs.Ytplgffbfepnihaa.Hb Go.Proofs.Ytplgffbfepnihaa.Ga
mutual
def varveref09_fixed.j0 : Nat → Bool → List Int → Int → Bool → Option (Int × Int × Bool)
 | 0, _, _, _, _ => none
 | k + 1, x21, x1000, x1001, x1002 => if x21 = true then (some (0, x1001, true)) else (varveref09_fixed.l0 k 0 0 x1000 x1001 x1002)
def varveref09_fixed.l0 : Nat → Int → Int → List Int → Int → Bool → Option (Int × Int × Bool)
 | 0, _, _, _, _, _ => none
 | k + 1, x3, x4, x1000, x1001, x1002 => if x4 < 8 then (if 0 ≤ (wrap64 (x1001 + x4)) then (if (wrap64 (x1001 + x4)) < (x1000.length : Int) then (if 0 ≤ (IntKind.u64.wrap (wrap64 (8 * x4))) then (varveref09_fixed.l0 k (IntKind.u64.wrap (x3 + (shl .u64 (IntKind.u64.wrap (rd x1000 (wrap64 (x1001 + x4)))) (IntKind.u64.wrap (wrap64 (8 * x4)))))) (wrap64 (x4 + 1)) x1000 x1001 x1002) else (none)) else (none)) else (none)) else (some (x3, wrap64 (x1001 + 8), x1002))
end
def varveref09_fixed.f (k : Nat) (s0_0 : List Int) (s0_1 : Int) (s0_2 : Bool) : Option (Int × Int × Bool) := if s0_2 = true then (varveref09_fixed.j0 k true s0_0 s0_1 s0_2) else (varveref09_fixed.j0 k (decide ((wrap64 ((s0_0.length : Int) - s0_1)) < 8)) s0_0 s0_1 s0_2)
set_option maxHeartbeats 8000000 in
set_option maxRecDepth 100000 in
theorem varveref09_fixed.calls (k : Nat) (g : Nat) (s0_0 : List Int) (s0_1 : Int) (s0_2 : Bool) (r1 : Int) (r2 : Int) (r3 : Bool) (w0 w : World) (hI : IsS29 w0 w g s0_0 s0_1 s0_2) (hB : Below w0.heap.size w0 w) (h : varveref09_fixed.f k s0_0 s0_1 s0_2 = some (r1, r2, r3)) :
  Calls Try.prog 97 #[.pointer (some ⟨g, 0, none⟩)] w fun e w' => e = .returned (.int .u64 r1) ∧ IsS29 w0 w' g s0_0 r2 r3 ∧ Below w0.heap.size w0 w' ∧ KeepBut w w' g none := by
 have HI0 := mkA hI; have HK := mkA (KeepBut.refl w g none); have HL := mkA hB.size; clear hI; have HW0 := mkA hB.size; have HB := mkA hB; clear hB; have H : (if s0_2 = true then (varveref09_fixed.j0 k true s0_0 s0_1 s0_2) else (varveref09_fixed.j0 k (decide ((wrap64 ((s0_0.length : Int) - s0_1)) < 8)) s0_0 s0_1 s0_2)) = some (r1, r2, r3) := h; clear h; have HC2 := mkA H; clear H; go_enter Try.func97, Try.ntmps97; go_upto_region 1 with (fail)
 repeat (go_quiet (fail); go_upto_region 1 with (fail))
 go_cut [21] (fun v21 wc => ∃ (kq : Nat) (x21_1 : Bool), v21 = .bool x21_1 ∧ Aside0 (varveref09_fixed.j0 kq x21_1 s0_0 s0_1 s0_2 = some (r1, r2, r3)) ∧ Aside0 (kq ≤ k) ∧ Aside0 (IsS29 w0 wc g s0_0 s0_1 s0_2) ∧ Aside0 (KeepBut w wc g none) ∧ Aside0 (Below w0.heap.size w0 wc))
 case first =>
  have H := HC2.out; clear HC2; by_cases c3 : s0_2 = true
  ·subst c3
   have H1 : (varveref09_fixed.j0 k true s0_0 s0_1 true) = some (r1, r2, r3) := zk76
   clear H; have H := H1; clear H1; have H' := mkA H; clear H; obtain ⟨ASz4_0, cSz4_0, HGz4, hgz4, HSz4_0⟩ := HI0.out; have hcz4_0 := cellS29_0 HGz4; have hcz4_1 := cellS29_1 HGz4; have hcz4_2 := cellS29_2 HGz4; have hfz4_1 := blk_frozen HGz4 1; have hfz4_2 := blk_frozen HGz4 2; clear HGz4 hgz4; go_wp2; (repeat (go_quiet (fail); try go_wp2)); go_meet
   case rel => exact ⟨_, (true), zk14, H', ⟨zk122⟩, ⟨zk4⟩, ⟨zk5⟩, ⟨zk3⟩⟩
  ·replace c3 := Bool.eq_false_iff.mpr c3
   subst c3; have H1 : (varveref09_fixed.j0 k (decide ((wrap64 ((s0_0.length : Int) - s0_1)) < 8)) s0_0 s0_1 false) = some (r1, r2, r3) := zk41
   clear H; have H := H1; clear H1; have H' := mkA H; clear H; obtain ⟨ASz5_0, cSz5_0, HGz5, hgz5, HSz5_0⟩ := HI0.out; have hcz5_0 := cellS29_0 HGz5; have hcz5_1 := cellS29_1 HGz5; have hcz5_2 := cellS29_2 HGz5; have hfz5_1 := blk_frozen HGz5 1; have hfz5_2 := blk_frozen HGz5 2; clear HGz5 hgz5; go_wp2; (repeat (go_quiet (fail); try go_wp2)); go_meet
   case rel => exact ⟨_, (decide ((wrap64 ((s0_0.length : Int) - s0_1)) < 8)), zk14, H', ⟨zk122⟩, ⟨zk4⟩, ⟨zk5⟩, ⟨zk3⟩⟩
 case rest =>
  clear HC2; (try clear p2); (try clear c3); (try clear hcz4_0); (try clear hcz4_1); (try clear hcz4_2); (try clear hcz5_0); (try clear hcz5_1); (try clear hcz5_2); (try clear hfz4_1); (try clear hfz4_2); (try clear hfz5_1); (try clear hfz5_2); obtain ⟨kq, x21_1, rfl, HA, HJ1, HI0, HK, HB⟩ := hcut
  cases kq with
  | zero => exact absurd HA.out (by simp [varveref09_fixed.j0])
  | succ kj1 =>
   have H := HA.out; clear HA; simp only [varveref09_fixed.j0] at H; by_cases c6 : x21_1 = true
   ·subst c6
    have H1 : (some (0, s0_1, true)) = some (r1, r2, r3) := zk76
    clear H; have H := H1; clear H1; simp only [Option.some.injEq, Prod.mk.injEq] at H; obtain ⟨rfl, rfl, rfl⟩ := H; obtain ⟨ASz7_0, cSz7_0, HGz7, hgz7, HSz7_0⟩ := HI0.out; have hcz7_0 := cellS29_0 HGz7; have hcz7_1 := cellS29_1 HGz7; have hcz7_2 := cellS29_2 HGz7; have hfz7_1 := blk_frozen HGz7 1; have hfz7_2 := blk_frozen HGz7 2; clear HGz7 hgz7; go_wp2; (repeat (go_quiet (fail); try go_wp2)); go_ret
    exact zk246
   ·replace c6 := Bool.eq_false_iff.mpr c6
    subst c6; have H1 : (varveref09_fixed.l0 kj1 0 0 s0_0 s0_1 s0_2) = some (r1, r2, r3) := zk41
    clear H; have H := H1; clear H1; have H' := mkA H; clear H; go_wp2; (repeat (go_quiet (fail); try go_wp2)); go_loopg [3, 4] kj1 (fun kq v3 v4 w' => ∃ (x3_2 : Int) (x4_2 : Int), v3 = .int .u64 x3_2 ∧ v4 = .int .i64 x4_2 ∧ Aside0 (varveref09_fixed.l0 kq x3_2 x4_2 s0_0 s0_1 s0_2 = some (r1, r2, r3)) ∧ Aside0 (kq ≤ kj1) ∧ Aside0 (IsS29 w0 w' g s0_0 s0_1 s0_2) ∧ Aside0 (KeepBut w w' g none) ∧ Aside0 (Below w0.heap.size w0 w'))
    case atStart => exact ⟨(0), (0), zk14, zk14, H', ⟨Nat.le_refl _⟩, ⟨zk4⟩, ⟨zk5⟩, ⟨zk3⟩⟩
    case round =>
     clear H'; (try clear p2); (try clear c3); (try clear c6); (try clear p6); (try clear hcz4_0); (try clear hcz4_1); (try clear hcz4_2); (try clear hcz5_0); (try clear hcz5_1); (try clear hcz5_2); (try clear hcz7_0); (try clear hcz7_1); (try clear hcz7_2); (try clear hfz4_1); (try clear hfz4_2); (try clear hfz5_1); (try clear hfz5_2); (try clear hfz7_1); (try clear hfz7_2); (try clear p2); obtain ⟨x3_2, x4_2, rfl, rfl, HA, HK2, HI0, HK, HB⟩ := hrel
     cases gk with
     | zero => exact absurd HA.out (by simp [varveref09_fixed.l0])
     | succ k2 =>
      have H := HA.out; clear HA; simp only [varveref09_fixed.l0] at H; by_cases c8 : x4_2 < 8
      ·rw [if_pos c8] at H
       have c8b0 : decide (x4_2 < 8) = true := decide_eq_true c8; clear c8; obtain ⟨ji9, hji9⟩ : ∃ j_ : Int, (wrap64 (s0_1 + x4_2)) = j_ := ⟨_, rfl⟩
       replace H : (if 0 ≤ (ji9) then (if (ji9) < (s0_0.length : Int) then (if 0 ≤ (IntKind.u64.wrap (wrap64 (8 * x4_2))) then (varveref09_fixed.l0 k2 (IntKind.u64.wrap (x3_2 + (shl .u64 (IntKind.u64.wrap (rd s0_0 (ji9))) (IntKind.u64.wrap (wrap64 (8 * x4_2)))))) (wrap64 (x4_2 + 1)) s0_0 s0_1 s0_2) else (none)) else (none)) else (none)) = some (r1, r2, r3) := by first | (rw [hji9] at H; exact H) | (simp only [hji9] at H ⊢; exact H)
       have hji9w : (IntKind.i64.wrap (s0_1 + x4_2)) = ji9 := (i64_w _).trans hji9; by_cases c10 : 0 ≤ (ji9)
       ·rw [if_pos c10] at H
        have c10b0 : decide (0 ≤ (ji9)) = true := decide_eq_true c10; clear c10; by_cases c11 : (ji9) < (s0_0.length : Int)
        ·rw [if_pos c11] at H
         have c11b0 : decide ((ji9) < (s0_0.length : Int)) = true := decide_eq_true c11; clear c11; obtain ⟨ji12, hji12⟩ : ∃ j_ : Int, (IntKind.u64.wrap (wrap64 (8 * x4_2))) = j_ := ⟨_, rfl⟩
         replace H : (if 0 ≤ (ji12) then (varveref09_fixed.l0 k2 (IntKind.u64.wrap (x3_2 + (shl .u64 (IntKind.u64.wrap (rd s0_0 (ji9))) (ji12)))) (wrap64 (x4_2 + 1)) s0_0 s0_1 s0_2) else (none)) = some (r1, r2, r3) := zk163
         by_cases c13 : 0 ≤ (ji12)
         ·rw [if_pos c13] at H
          have c13b0 := eq_true c13; have c13b1 : decide (0 ≤ (ji12)) = true := decide_eq_true c13; clear c13; obtain ⟨ji14, hji14⟩ : ∃ j_ : Int, (shl .u64 (IntKind.u64.wrap (rd s0_0 (ji9))) (ji12)) = j_ := ⟨_, rfl⟩
          replace H : (varveref09_fixed.l0 k2 (IntKind.u64.wrap (x3_2 + (ji14))) (wrap64 (x4_2 + 1)) s0_0 s0_1 s0_2) = some (r1, r2, r3) := zk148
          have hji14_ : (IntKind.u64.wrap ((IntKind.u64.wrap (rd s0_0 (ji9))) * 2 ^ min (ji12).toNat 64)) = ji14 := hji14; have hji14z : (ji12) ≤ 64 → (IntKind.u64.wrap ((IntKind.u64.wrap (rd s0_0 (ji9))) * 2 ^ (ji12).toNat)) = ji14 := shl_small hji14; have H' := mkA H; clear H; obtain ⟨ASz15_0, cSz15_0, HGz15, hgz15, HSz15_0⟩ := HI0.out; have hcz15_0 := cellS29_0 HGz15; have hcz15_1 := cellS29_1 HGz15; have hcz15_2 := cellS29_2 HGz15; have hfz15_1 := blk_frozen HGz15 1; have hfz15_2 := blk_frozen HGz15 2; clear HGz15 hgz15; have p328 : 0 ≤ ((ji9) : Int) := of_decide_eq_true zk8; have q328 : (ji9) < (s0_0.length : Int) := of_decide_eq_true zk8; obtain ⟨ad328, e328, hx328_0⟩ := Kd.at_int HSz15_0 (ji9) p328 q328; cases e328; replace hx328_0 := pw_cell_below HB.out hx328_0; replace p328 := eq_true p328; replace q328 := eq_true q328; go_wp2; (repeat (go_quiet (fail); try go_wp2)); go_roundg k2
          case measure => have := HJ1.out; have := HK2.out; omega
          case rel => exact ⟨(IntKind.u64.wrap (x3_2 + (ji14))), (wrap64 (x4_2 + 1)), zk175, zk14, H', ⟨zk193⟩, ⟨zk4⟩, ⟨zk5⟩, ⟨zk3⟩⟩
         ·exact zk229
        ·exact zk230
       ·rw [if_neg c10] at H; exact absurd H zk56
      ·rw [if_neg c8] at H
       have c8b0 : decide (x4_2 < 8) = false := decide_eq_false c8; clear c8; simp only [Option.some.injEq, Prod.mk.injEq] at H; obtain ⟨rfl, rfl, rfl⟩ := H; obtain ⟨ASz16_0, cSz16_0, HGz16, hgz16, HSz16_0⟩ := HI0.out; have hcz16_0 := cellS29_0 HGz16; have hcz16_1 := cellS29_1 HGz16; have hcz16_2 := cellS29_2 HGz16; have hfz16_1 := blk_frozen HGz16 1; have hfz16_2 := blk_frozen HGz16 2; clear HGz16 hgz16; go_wp2; (repeat (go_quiet (fail); try go_wp2)); go_ret
       exact zk246
def varveref09_Get.j0 : Nat → Bool → List Int → Int → Bool → Int → Int → Int → Int → Option (Int × Int × Int × Int × Int × Bool)
 | 0, _, _, _, _, _, _, _, _ => none
 | k + 1, x19, x1000, x1001, x1002, x331000, x331001, x331002, x331003 => if x19 = true then ((varveref09_fixed.f k x1000 x1001 x1002).bind fun bt337 => ((varveref09_fixed.f k x1000 bt337.2.1 bt337.2.2).bind fun bt340 => (if bt340.2.2 = true then (some (0, 0, 0, 0, bt340.2.1, true)) else ((varveref09_Check.f k x331000 x331001 bt337.1 bt340.1).bind fun t343 => (if t343 = true then (some (x331000, x331001, bt337.1, bt340.1, bt340.2.1, bt340.2.2)) else (some (0, 0, 0, 0, bt340.2.1, true))))))) else (if x1002 = true then (some (0, 0, 0, 0, x1001, true)) else ((varveref09_Check.f k x331000 x331001 x331002 x331003).bind fun t344 => (if t344 = true then (some (x331000, x331001, x331002, x331003, x1001, x1002)) else (some (0, 0, 0, 0, x1001, true)))))
def varveref09_Get.f (k : Nat) (s0_0 : List Int) (s0_1 : Int) (s0_2 : Bool) : Option (Int × Int × Int × Int × Int × Bool) := (varveref04_R_Num.f k s0_0 s0_1 s0_2).bind fun bt331 => ((varveref04_R_Num.f k s0_0 bt331.2.1 bt331.2.2).bind fun bt334 => (if bt334.2.2 = true then (varveref09_Get.j0 k false s0_0 bt334.2.1 bt334.2.2 bt334.1 bt331.1 0 0) else (varveref09_Get.j0 k (decide (bt334.1 > 0)) s0_0 bt334.2.1 bt334.2.2 bt334.1 bt331.1 0 0)))
set_option maxHeartbeats 8000000 in
set_option maxRecDepth 100000 in
theorem varveref09_Get.calls (k : Nat) (g : Nat) (s0_0 : List Int) (s0_1 : Int) (s0_2 : Bool) (r1 : Int) (r2 : Int) (r3 : Int) (r4 : Int) (r5 : Int) (r6 : Bool) (w0 w : World) (hI : IsS29 w0 w g s0_0 s0_1 s0_2) (hB : Below w0.heap.size w0 w) (h : varveref09_Get.f k s0_0 s0_1 s0_2 = some (r1, r2, r3, r4, r5, r6)) :
  Calls Try.prog 71 #[.pointer (some ⟨g, 0, none⟩)] w fun e w' => e = .returned (.agg #[.int .u64 r1, .int .u64 r2, .int .u64 r3, .int .u64 r4]) ∧ IsS29 w0 w' g s0_0 r5 r6 ∧ Below w0.heap.size w0 w' ∧ KeepBut w w' g none := by
 have hu43 := Try.underlying43; have HI0 := mkA hI; have HK := mkA (KeepBut.refl w g none); have HL := mkA hB.size; clear hI; have HW0 := mkA hB.size; have HB := mkA hB; clear hB; have H : ((varveref04_R_Num.f k s0_0 s0_1 s0_2).bind fun bt331 => ((varveref04_R_Num.f k s0_0 bt331.2.1 bt331.2.2).bind fun bt334 => (if bt334.2.2 = true then (varveref09_Get.j0 k false s0_0 bt334.2.1 bt334.2.2 bt334.1 bt331.1 0 0) else (varveref09_Get.j0 k (decide (bt334.1 > 0)) s0_0 bt334.2.1 bt334.2.2 bt334.1 bt331.1 0 0)))) = some (r1, r2, r3, r4, r5, r6) := h; clear h; replace H := Option.bind_eq_some_iff.mp H; obtain ⟨⟨t331, t332, t333⟩, A20, H⟩ := H; replace H : ((varveref04_R_Num.f k s0_0 t332 t333).bind fun bt334 => (if bt334.2.2 = true then (varveref09_Get.j0 k false s0_0 bt334.2.1 bt334.2.2 bt334.1 t331 0 0) else (varveref09_Get.j0 k (decide (bt334.1 > 0)) s0_0 bt334.2.1 bt334.2.2 bt334.1 t331 0 0))) = some (r1, r2, r3, r4, r5, r6) := H; have A2 := mkA A20; clear A20; replace H := Option.bind_eq_some_iff.mp H; obtain ⟨⟨t334, t335, t336⟩, A30, H⟩ := H; replace H : (if t336 = true then (varveref09_Get.j0 k false s0_0 t335 t336 t334 t331 0 0) else (varveref09_Get.j0 k (decide (t334 > 0)) s0_0 t335 t336 t334 t331 0 0)) = some (r1, r2, r3, r4, r5, r6) := H; have A3 := mkA A30; clear A30; have HC4 := mkA H; clear H; go_enter Try.func71, Try.ntmps71; go_upto_region 4 with (first | ((with_reducible refine gate_dst (N := 2) rfl ?_); refine box_event ?hg (N := 2) ?hd (cs := #[.int .u64 0, .int .u64 0, .int .u64 0, .int .u64 0]) (t := 43) ?hr ?_; (case hd => exact zk50); (case hg => exact zk50); (case hr => exact zk26); intro gb329 hg w5 hbox hb; have n0_ := mkA (IsS29.below zk4 hb); have n1_ := mkA (KeepBut.trans zk5 (KeepBut.of_below hb g none) (.inl rfl)); have n2_ := mkA (below_step zk3 hb); have n3_ := mkA (hbox); have n4_ := mkA ((by rw [hg]; exact (keep_size (w := w) (g := g) (row := none) zk5) : w.heap.size ≤ gb329)); have n5_ := mkA ((Nat.le_trans HW0.out (by rw [hg]; exact (keep_size (w := w) (g := g) (row := none) zk5) : w.heap.size ≤ gb329) : w0.heap.size ≤ gb329)); have n6_ := mkA ((by rw [hg]; exact Nat.ne_of_lt (IsS29.lt (show IsS29 w0 _ g s0_0 s0_1 s0_2 from by repeat (first | (with_reducible first | exact HI0.out | apply IsS29.alloc | apply IsS29.drewN | apply IsS29.drew | apply IsS29.set_1 | apply IsS29.set_2) | exact HI0.out))) : g ≠ gb329)); have n7_ := mkA ((by rw [hg]; exact Nat.ne_of_gt (IsS29.lt (show IsS29 w0 _ g s0_0 s0_1 s0_2 from by repeat (first | (with_reducible first | exact HI0.out | apply IsS29.alloc | apply IsS29.drewN | apply IsS29.drew | apply IsS29.set_1 | apply IsS29.set_2) | exact HI0.out))) : gb329 ≠ g)); clear HI0; clear HK; clear HB; have HI0 := n0_; have HK := n1_; have HB := n2_; have BK329 := n3_; have GW329 := n4_; have GE329 := n5_; have NB0_329 := n6_; have NB329_0 := n7_; clear n0_ n1_ n2_ n3_ n4_ n5_ n6_ n7_; clear hb hbox hg) | ((with_reducible refine gate_dst (N := 3) rfl ?_); refine box_event ?hg (N := 3) ?hd (cs := #[.int .u64 0, .int .u64 0, .int .u64 0, .int .u64 0]) (t := 43) ?hr ?_; (case hd => exact zk50); (case hg => exact zk50); (case hr => exact zk26); intro gb330 hg w6 hbox hb; have n0_ := mkA (IsS29.below (by repeat (first | (with_reducible first | exact HI0.out | apply IsS29.alloc | apply IsS29.drewN | apply IsS29.drew | apply IsS29.set_1 | apply IsS29.set_2 | apply IsS29.far (hne := NB0_329.out)) | exact HI0.out)) hb); have n1_ := mkA (blk_below (g := gb329) (o := .cells #[.int .u64 0, .int .u64 0, .int .u64 0, .int .u64 0] 43 (0, 0)) zk60 hb); have n2_ := mkA (KeepBut.trans zk96 (KeepBut.of_below hb g none) (.inl rfl)); have n3_ := mkA (below_step (by repeat (first | (with_reducible first | exact HB.out | apply below_alloc | apply pw_below_drewN | apply below_drew1 | refine below_set ?_ (IsS29.ge HI0.out) | refine below_set ?_ GE329.out) | exact HB.out)) hb); have n4_ := mkA (hbox); have n5_ := mkA ((by rw [hg]; exact (keep_size (w := w) (g := g) (row := none) zk96) : w.heap.size ≤ gb330)); have n6_ := mkA ((Nat.le_trans HW0.out (by rw [hg]; exact (keep_size (w := w) (g := g) (row := none) zk96) : w.heap.size ≤ gb330) : w0.heap.size ≤ gb330)); have n7_ := mkA ((by rw [hg]; exact Nat.ne_of_lt (blk_lt (g := gb329) (o := .cells #[.int .u64 0, .int .u64 0, .int .u64 0, .int .u64 0] 43 (0, 0)) zk60) : gb329 ≠ gb330)); have n8_ := mkA ((by rw [hg]; exact Nat.ne_of_gt (blk_lt (g := gb329) (o := .cells #[.int .u64 0, .int .u64 0, .int .u64 0, .int .u64 0] 43 (0, 0)) zk60) : gb330 ≠ gb329)); have n9_ := mkA ((by rw [hg]; exact Nat.ne_of_lt (IsS29.lt (show IsS29 w0 _ g s0_0 s0_1 s0_2 from by repeat (first | (with_reducible first | exact HI0.out | apply IsS29.alloc | apply IsS29.drewN | apply IsS29.drew | apply IsS29.set_1 | apply IsS29.set_2 | apply IsS29.far (hne := NB0_329.out)) | exact HI0.out))) : g ≠ gb330)); have n10_ := mkA ((by rw [hg]; exact Nat.ne_of_gt (IsS29.lt (show IsS29 w0 _ g s0_0 s0_1 s0_2 from by repeat (first | (with_reducible first | exact HI0.out | apply IsS29.alloc | apply IsS29.drewN | apply IsS29.drew | apply IsS29.set_1 | apply IsS29.set_2 | apply IsS29.far (hne := NB0_329.out)) | exact HI0.out))) : gb330 ≠ g)); clear HI0; clear BK329; clear HK; clear HB; have HI0 := n0_; have BK329 := n1_; have HK := n2_; have HB := n3_; have BK330 := n4_; have GW330 := n5_; have GE330 := n6_; have NB329_330 := n7_; have NB330_329 := n8_; have NB0_330 := n9_; have NB330_0 := n10_; clear n0_ n1_ n2_ n3_ n4_ n5_ n6_ n7_ n8_ n9_ n10_; clear hb hbox hg) | ((with_reducible refine gate_callee (f := 42) rfl ?_); refine goesL_ (some 5) rfl rfl Try.func42 zk11 rfl #[.pointer (some ⟨g, 0, none⟩)] rfl zk2 ?_; (with_reducible refine (varveref04_R_Num.calls k g s0_0 s0_1 s0_2 t331 t332 t333 w0 _ ?side1 ?side2 A2.out).mono ?_); (case side1 => exact zk15); (case side2 => exact zk13); rintro e w7 ⟨rfl, hi, hb, hk⟩; refine ⟨_, rfl, ?_⟩; have n0_ := mkA (KeepBut.blk hk (g' := gb329) (o := .cells #[.int .u64 0, .int .u64 0, .int .u64 0, .int .u64 0] 43 (0, 0)) zk60 NB329_0.out zk56); have n1_ := mkA (KeepBut.blk hk (g' := gb330) (o := .cells #[.int .u64 0, .int .u64 0, .int .u64 0, .int .u64 0] 43 (0, 0)) zk80 NB330_0.out zk56); have n2_ := mkA (KeepBut.trans zk16 hk (.inl rfl)); have n3_ := mkA (hb); have n4_ := mkA (hi); clear BK329; clear BK330; clear HK; clear HB; clear HI0; have BK329 := n0_; have BK330 := n1_; have HK := n2_; have HB := n3_; have HI0 := n4_; clear n0_ n1_ n2_ n3_ n4_; (try clear hb); (try clear hb2); (try clear hk); (try clear hi); have hnb8 := NB330_329.out; have hnc8 := NB329_330.out; have hnb9 := NB330_0.out; have hnc9 := NB0_330.out; obtain ⟨hcz10_0, hcz10_1, hcz10_2, hcz10_3, hfz10_0, hfz10_1, hfz10_2, hfz10_3⟩ := cf4 BK330.out) | ((with_reducible refine gate_callee (f := 42) rfl ?_); refine goesL_ (some 8) rfl rfl Try.func42 zk11 rfl #[.pointer (some ⟨g, 0, none⟩)] rfl zk2 ?_; (with_reducible refine (varveref04_R_Num.calls k g s0_0 t332 t333 t334 t335 t336 w0 _ ?side1 ?side2 A3.out).mono ?_); (case side1 => exact zk15); (case side2 => exact zk13); rintro e w11 ⟨rfl, hi, hb, hk⟩; refine ⟨_, rfl, ?_⟩; have n0_ := mkA (KeepBut.blk hk (g' := gb329) (o := .cells #[.int .u64 0, .int .u64 0, .int .u64 0, .int .u64 0] 43 (0, 0)) zk30 NB329_0.out zk56); have n1_ := mkA (KeepBut.blk hk (g' := gb330) (o := .cells #[.int .u64 0, .int .u64 t331, .int .u64 0, .int .u64 0] 43 (0, 0)) (by (with_reducible repeat (first | refine blk_drewN ?_ _ | refine blk_drew ?_ | refine blk_alloc ?_ _)); refine blk_put (cs := #[.int .u64 0, .int .u64 0, .int .u64 0, .int .u64 0]) ?_ 1 _ rfl; (with_reducible repeat (first | refine blk_drewN ?_ _ | refine blk_drew ?_ | refine blk_alloc ?_ _)); exact BK330.out) NB330_0.out zk56); have n2_ := mkA (KeepBut.trans zk16 hk (.inl rfl)); have n3_ := mkA (hb); have n4_ := mkA (hi); clear BK329; clear BK330; clear HK; clear HB; clear HI0; have BK329 := n0_; have BK330 := n1_; have HK := n2_; have HB := n3_; have HI0 := n4_; clear n0_ n1_ n2_ n3_ n4_; (try clear hb); (try clear hb2); (try clear hk); (try clear hi); obtain ⟨hcz12_0, hcz12_1, hcz12_2, hcz12_3, hfz12_0, hfz12_1, hfz12_2, hfz12_3⟩ := cf4 BK330.out))
 (try simp only [Act.put, List.setIfInBounds_toArray, List.set_cons_zero, List.set_cons_succ]); go_cut [19] (fun v19 wc => ∃ (kq : Nat) (x19_3 : Bool), v19 = .bool x19_3 ∧ Aside0 (varveref09_Get.j0 kq x19_3 s0_0 t335 t336 t334 t331 0 0 = some (r1, r2, r3, r4, r5, r6)) ∧ Aside0 (kq ≤ k) ∧ Aside0 (wc.heap[gb329]? = some (.cells #[.int .u64 0, .int .u64 0, .int .u64 0, .int .u64 0] 43 (0, 0))) ∧ Aside0 (wc.heap[gb330]? = some (.cells #[.int .u64 t334, .int .u64 t331, .int .u64 0, .int .u64 0] 43 (0, 0))) ∧ Aside0 (IsS29 w0 wc g s0_0 t335 t336) ∧ Aside0 (KeepBut w wc g none) ∧ Aside0 (Below w0.heap.size w0 wc))
 case first =>
  have H := HC4.out; clear HC4; by_cases c13 : t336 = true
  ·subst c13
   have H1 : (varveref09_Get.j0 k false s0_0 t335 true t334 t331 0 0) = some (r1, r2, r3, r4, r5, r6) := zk76
   clear H; have H := H1; clear H1; have H' := mkA H; clear H; obtain ⟨ASz14_0, cSz14_0, HGz14, hgz14, HSz14_0⟩ := HI0.out; have hcz14_0 := cellS29_0 HGz14; have hcz14_1 := cellS29_1 HGz14; have hcz14_2 := cellS29_2 HGz14; have hfz14_1 := blk_frozen HGz14 1; have hfz14_2 := blk_frozen HGz14 2; clear HGz14 hgz14; go_wp2; go_meet
   case rel => exact ⟨_, (false), zk14, H', ⟨zk122⟩, ⟨zk30⟩, ⟨zk90⟩, ⟨zk15⟩, ⟨zk16⟩, ⟨zk13⟩⟩
  ·replace c13 := Bool.eq_false_iff.mpr c13
   subst c13; have H1 : (varveref09_Get.j0 k (decide (t334 > 0)) s0_0 t335 false t334 t331 0 0) = some (r1, r2, r3, r4, r5, r6) := zk41
   clear H; have H := H1; clear H1; have H' := mkA H; clear H; obtain ⟨ASz15_0, cSz15_0, HGz15, hgz15, HSz15_0⟩ := HI0.out; have hcz15_0 := cellS29_0 HGz15; have hcz15_1 := cellS29_1 HGz15; have hcz15_2 := cellS29_2 HGz15; have hfz15_1 := blk_frozen HGz15 1; have hfz15_2 := blk_frozen HGz15 2; clear HGz15 hgz15; have hnb16 := NB330_329.out; have hnc16 := NB329_330.out; have hnb17 := NB330_0.out; have hnc17 := NB0_330.out; obtain ⟨hcz18_0, hcz18_1, hcz18_2, hcz18_3, hfz18_0, hfz18_1, hfz18_2, hfz18_3⟩ := cf4 BK330.out; go_wp2; go_meet
   case rel => exact ⟨_, (decide (t334 > 0)), zk14, H', ⟨zk122⟩, ⟨zk30⟩, ⟨zk90⟩, ⟨zk15⟩, ⟨zk16⟩, ⟨zk13⟩⟩
 case rest =>
  clear HC4; (try clear c1); (try clear p2); (try clear c4); (try clear c7); (try clear c8); (try clear c9); (try clear c13); (try clear c16); (try clear c17); (try clear hcz10_0); (try clear hcz10_1); (try clear hcz10_2); (try clear hcz10_3); (try clear hcz12_0); (try clear hcz12_1); (try clear hcz12_2); (try clear hcz12_3); (try clear hcz14_0); (try clear hcz14_1); (try clear hcz14_2); (try clear hcz15_0); (try clear hcz15_1); (try clear hcz15_2); (try clear hcz18_0); (try clear hcz18_1); (try clear hcz18_2); (try clear hcz18_3); (try clear hfz10_0); (try clear hfz10_1); (try clear hfz10_2); (try clear hfz10_3); (try clear hfz12_0); (try clear hfz12_1); (try clear hfz12_2); (try clear hfz12_3); (try clear hfz14_1); (try clear hfz14_2); (try clear hfz15_1); (try clear hfz15_2); (try clear hfz18_0); (try clear hfz18_1); (try clear hfz18_2); (try clear hfz18_3); obtain ⟨kq, x19_3, rfl, HA, HJ3, BK329, BK330, HI0, HK, HB⟩ := hcut
  cases kq with
  | zero => exact absurd HA.out (by simp [varveref09_Get.j0])
  | succ kj3 =>
   have H := HA.out; clear HA; simp only [varveref09_Get.j0] at H; by_cases c19 : x19_3 = true
   ·subst c19
    have H1 : ((varveref09_fixed.f kj3 s0_0 t335 t336).bind fun bt337 => ((varveref09_fixed.f kj3 s0_0 bt337.2.1 bt337.2.2).bind fun bt340 => (if bt340.2.2 = true then (some (0, 0, 0, 0, bt340.2.1, true)) else ((varveref09_Check.f kj3 t334 t331 bt337.1 bt340.1).bind fun t343 => (if t343 = true then (some (t334, t331, bt337.1, bt340.1, bt340.2.1, bt340.2.2)) else (some (0, 0, 0, 0, bt340.2.1, true))))))) = some (r1, r2, r3, r4, r5, r6) := zk76
    clear H; have H := H1; clear H1; replace H := Option.bind_eq_some_iff.mp H; obtain ⟨⟨t337, t338, t339⟩, A200, H⟩ := H; replace H : ((varveref09_fixed.f kj3 s0_0 t338 t339).bind fun bt340 => (if bt340.2.2 = true then (some (0, 0, 0, 0, bt340.2.1, true)) else ((varveref09_Check.f kj3 t334 t331 t337 bt340.1).bind fun t343 => (if t343 = true then (some (t334, t331, t337, bt340.1, bt340.2.1, bt340.2.2)) else (some (0, 0, 0, 0, bt340.2.1, true)))))) = some (r1, r2, r3, r4, r5, r6) := H; have A20 := mkA A200; clear A200; replace H := Option.bind_eq_some_iff.mp H; obtain ⟨⟨t340, t341, t342⟩, A210, H⟩ := H; replace H : (if t342 = true then (some (0, 0, 0, 0, t341, true)) else ((varveref09_Check.f kj3 t334 t331 t337 t340).bind fun t343 => (if t343 = true then (some (t334, t331, t337, t340, t341, t342)) else (some (0, 0, 0, 0, t341, true))))) = some (r1, r2, r3, r4, r5, r6) := H; have A21 := mkA A210; clear A210; by_cases c22 : t342 = true
    ·subst c22
     have H1 : (some (0, 0, 0, 0, t341, true)) = some (r1, r2, r3, r4, r5, r6) := zk76
     clear H; have H := H1; clear H1; simp only [Option.some.injEq, Prod.mk.injEq] at H; obtain ⟨rfl, rfl, rfl, rfl, rfl, rfl⟩ := H; (go_wp2_with (first | ((with_reducible refine gate_callee (f := 97) rfl ?_); refine goesL_ (some 21) rfl rfl Try.func97 zk11 rfl #[.pointer (some ⟨g, 0, none⟩)] rfl zk2 ?_; (with_reducible refine (varveref09_fixed.calls kj3 g s0_0 t335 t336 t337 t338 t339 w0 _ ?side1 ?side2 A20.out).mono ?_); (case side1 => exact zk15); (case side2 => exact zk13); rintro e w23 ⟨rfl, hi, hb, hk⟩; refine ⟨_, rfl, ?_⟩; have n0_ := mkA (KeepBut.blk hk (g' := gb329) (o := .cells #[.int .u64 0, .int .u64 0, .int .u64 0, .int .u64 0] 43 (0, 0)) zk60 NB329_0.out zk56); have n1_ := mkA (KeepBut.blk hk (g' := gb330) (o := .cells #[.int .u64 t334, .int .u64 t331, .int .u64 0, .int .u64 0] 43 (0, 0)) zk80 NB330_0.out zk56); have n2_ := mkA (KeepBut.trans zk16 hk (.inl rfl)); have n3_ := mkA (hb); have n4_ := mkA (hi); clear BK329; clear BK330; clear HK; clear HB; clear HI0; have BK329 := n0_; have BK330 := n1_; have HK := n2_; have HB := n3_; have HI0 := n4_; clear n0_ n1_ n2_ n3_ n4_; (try clear hb); (try clear hb2); (try clear hk); (try clear hi); have hnb24 := NB330_329.out; have hnc24 := NB329_330.out; have hnb25 := NB330_0.out; have hnc25 := NB0_330.out; obtain ⟨hcz26_0, hcz26_1, hcz26_2, hcz26_3, hfz26_0, hfz26_1, hfz26_2, hfz26_3⟩ := cf4 BK330.out) | ((with_reducible refine gate_callee (f := 97) rfl ?_); refine goesL_ (some 24) rfl rfl Try.func97 zk11 rfl #[.pointer (some ⟨g, 0, none⟩)] rfl zk2 ?_; (with_reducible refine (varveref09_fixed.calls kj3 g s0_0 t338 t339 t340 t341 true w0 _ ?side1 ?side2 A21.out).mono ?_); (case side1 => exact zk15); (case side2 => exact zk13); rintro e w27 ⟨rfl, hi, hb, hk⟩; refine ⟨_, rfl, ?_⟩; have n0_ := mkA (KeepBut.blk hk (g' := gb329) (o := .cells #[.int .u64 0, .int .u64 0, .int .u64 0, .int .u64 0] 43 (0, 0)) zk30 NB329_0.out zk56); have n1_ := mkA (KeepBut.blk hk (g' := gb330) (o := .cells #[.int .u64 t334, .int .u64 t331, .int .u64 t337, .int .u64 0] 43 (0, 0)) zk69 NB330_0.out zk56); have n2_ := mkA (KeepBut.trans zk16 hk (.inl rfl)); have n3_ := mkA (hb); have n4_ := mkA (hi); clear BK329; clear BK330; clear HK; clear HB; clear HI0; have BK329 := n0_; have BK330 := n1_; have HK := n2_; have HB := n3_; have HI0 := n4_; clear n0_ n1_ n2_ n3_ n4_; (try clear hb); (try clear hb2); (try clear hk); (try clear hi); obtain ⟨hcz28_0, hcz28_1, hcz28_2, hcz28_3, hfz28_0, hfz28_1, hfz28_2, hfz28_3⟩ := cf4 BK330.out; obtain ⟨ASz29_0, cSz29_0, HGz29, hgz29, HSz29_0⟩ := HI0.out; have hcz29_0 := cellS29_0 HGz29; have hcz29_1 := cellS29_1 HGz29; have hcz29_2 := cellS29_2 HGz29; have hfz29_1 := blk_frozen HGz29 1; have hfz29_2 := blk_frozen HGz29 2; clear HGz29 hgz29; have hnb30 := NB329_0.out; have hnc30 := NB0_329.out; obtain ⟨hcz31_0, hcz31_1, hcz31_2, hcz31_3, hfz31_0, hfz31_1, hfz31_2, hfz31_3⟩ := cf4 BK329.out))); refine bodyPost_ret (results_cell_row rfl _ _ gb329 43 #[.int .u64 0, .int .u64 0, .int .u64 0, .int .u64 0] (0, 0) _ rfl (by (with_reducible repeat (first | refine blk_drewN ?_ _ | refine blk_drew ?_ | refine blk_alloc ?_ _)); refine blk_put (cs := #[.int .u64 0, .int .u64 0, .int .u64 0, .int .u64 0]) ?_ 3 _ rfl; (with_reducible repeat (first | refine blk_drewN ?_ _ | refine blk_drew ?_ | refine blk_alloc ?_ _)); refine blk_put (cs := #[.int .u64 0, .int .u64 0, .int .u64 0, .int .u64 0]) ?_ 2 _ rfl; (with_reducible repeat (first | refine blk_drewN ?_ _ | refine blk_drew ?_ | refine blk_alloc ?_ _)); refine blk_put (cs := #[.int .u64 0, .int .u64 0, .int .u64 0, .int .u64 0]) ?_ 1 _ rfl; (with_reducible repeat (first | refine blk_drewN ?_ _ | refine blk_drew ?_ | refine blk_alloc ?_ _)); refine blk_put (cs := #[.int .u64 0, .int .u64 0, .int .u64 0, .int .u64 0]) ?_ 0 _ rfl; (with_reducible repeat (first | refine blk_drewN ?_ _ | refine blk_drew ?_ | refine blk_alloc ?_ _)); refine blk_far ?_ NB329_0.out _; (with_reducible repeat (first | refine blk_drewN ?_ _ | refine blk_drew ?_ | refine blk_alloc ?_ _)); refine blk_far ?_ NB329_330.out _; (with_reducible repeat (first | refine blk_drewN ?_ _ | refine blk_drew ?_ | refine blk_alloc ?_ _)); exact BK329.out) Try.underlying43 rfl zk11) rfl ?_; exact ⟨zk7, zk15, zk13, zk16⟩
    ·replace c22 := Bool.eq_false_iff.mpr c22
     subst c22; have H1 : ((varveref09_Check.f kj3 t334 t331 t337 t340).bind fun t343 => (if t343 = true then (some (t334, t331, t337, t340, t341, false)) else (some (0, 0, 0, 0, t341, true)))) = some (r1, r2, r3, r4, r5, r6) := zk41
     clear H; have H := H1; clear H1; replace H := Option.bind_eq_some_iff.mp H; obtain ⟨t343, A320, H⟩ := H; replace H : (if t343 = true then (some (t334, t331, t337, t340, t341, false)) else (some (0, 0, 0, 0, t341, true))) = some (r1, r2, r3, r4, r5, r6) := H; have A32 := mkA A320; clear A320; by_cases c33 : t343 = true
     ·subst c33
      have H1 : (some (t334, t331, t337, t340, t341, false)) = some (r1, r2, r3, r4, r5, r6) := zk76
      clear H; have H := H1; clear H1; simp only [Option.some.injEq, Prod.mk.injEq] at H; obtain ⟨rfl, rfl, rfl, rfl, rfl, rfl⟩ := H; (go_wp2_with (first | ((with_reducible refine gate_callee (f := 97) rfl ?_); refine goesL_ (some 21) rfl rfl Try.func97 zk11 rfl #[.pointer (some ⟨g, 0, none⟩)] rfl zk2 ?_; (with_reducible refine (varveref09_fixed.calls kj3 g s0_0 t335 t336 t337 t338 t339 w0 _ ?side1 ?side2 A20.out).mono ?_); (case side1 => exact zk15); (case side2 => exact zk13); rintro e w34 ⟨rfl, hi, hb, hk⟩; refine ⟨_, rfl, ?_⟩; have n0_ := mkA (KeepBut.blk hk (g' := gb329) (o := .cells #[.int .u64 0, .int .u64 0, .int .u64 0, .int .u64 0] 43 (0, 0)) zk60 NB329_0.out zk56); have n1_ := mkA (KeepBut.blk hk (g' := gb330) (o := .cells #[.int .u64 t334, .int .u64 t331, .int .u64 0, .int .u64 0] 43 (0, 0)) zk80 NB330_0.out zk56); have n2_ := mkA (KeepBut.trans zk16 hk (.inl rfl)); have n3_ := mkA (hb); have n4_ := mkA (hi); clear BK329; clear BK330; clear HK; clear HB; clear HI0; have BK329 := n0_; have BK330 := n1_; have HK := n2_; have HB := n3_; have HI0 := n4_; clear n0_ n1_ n2_ n3_ n4_; (try clear hb); (try clear hb2); (try clear hk); (try clear hi); have hnb35 := NB330_329.out; have hnc35 := NB329_330.out; have hnb36 := NB330_0.out; have hnc36 := NB0_330.out; obtain ⟨hcz37_0, hcz37_1, hcz37_2, hcz37_3, hfz37_0, hfz37_1, hfz37_2, hfz37_3⟩ := cf4 BK330.out) | ((with_reducible refine gate_callee (f := 97) rfl ?_); refine goesL_ (some 24) rfl rfl Try.func97 zk11 rfl #[.pointer (some ⟨g, 0, none⟩)] rfl zk2 ?_; (with_reducible refine (varveref09_fixed.calls kj3 g s0_0 t338 t339 t340 t341 false w0 _ ?side1 ?side2 A21.out).mono ?_); (case side1 => exact zk15); (case side2 => exact zk13); rintro e w38 ⟨rfl, hi, hb, hk⟩; refine ⟨_, rfl, ?_⟩; have n0_ := mkA (KeepBut.blk hk (g' := gb329) (o := .cells #[.int .u64 0, .int .u64 0, .int .u64 0, .int .u64 0] 43 (0, 0)) zk30 NB329_0.out zk56); have n1_ := mkA (KeepBut.blk hk (g' := gb330) (o := .cells #[.int .u64 t334, .int .u64 t331, .int .u64 t337, .int .u64 0] 43 (0, 0)) zk69 NB330_0.out zk56); have n2_ := mkA (KeepBut.trans zk16 hk (.inl rfl)); have n3_ := mkA (hb); have n4_ := mkA (hi); clear BK329; clear BK330; clear HK; clear HB; clear HI0; have BK329 := n0_; have BK330 := n1_; have HK := n2_; have HB := n3_; have HI0 := n4_; clear n0_ n1_ n2_ n3_ n4_; (try clear hb); (try clear hb2); (try clear hk); (try clear hi); obtain ⟨hcz39_0, hcz39_1, hcz39_2, hcz39_3, hfz39_0, hfz39_1, hfz39_2, hfz39_3⟩ := cf4 BK330.out; obtain ⟨ASz40_0, cSz40_0, HGz40, hgz40, HSz40_0⟩ := HI0.out; have hcz40_0 := cellS29_0 HGz40; have hcz40_1 := cellS29_1 HGz40; have hcz40_2 := cellS29_2 HGz40; have hfz40_1 := blk_frozen HGz40 1; have hfz40_2 := blk_frozen HGz40 2; clear HGz40 hgz40) | (go_at_call 67; (with_reducible refine (varveref09_Check.calls kj3 t334 t331 t337 t340 true _ A32.out).mono ?_); rintro e w41 ⟨rfl, hb⟩; have n0_ := mkA (blk_below (g := gb329) (o := .cells #[.int .u64 0, .int .u64 0, .int .u64 0, .int .u64 0] 43 (0, 0)) zk30 hb); have n1_ := mkA (blk_below (g := gb330) (o := .cells #[.int .u64 t334, .int .u64 t331, .int .u64 t337, .int .u64 t340] 43 (0, 0)) zk86 hb); have n2_ := mkA (IsS29.below (show IsS29 w0 (w38.setCell ⟨gb330, 3, none⟩ (.int .u64 t340)) g s0_0 t341 false from by repeat (first | (with_reducible first | exact HI0.out | apply IsS29.alloc | apply IsS29.drewN | apply IsS29.drew | apply IsS29.set_1 | apply IsS29.set_2 | apply IsS29.far (hne := NB0_329.out) | apply IsS29.far (hne := NB0_330.out)) | exact HI0.out)) hb); have n3_ := mkA (KeepBut.trans zk16 (KeepBut.of_below hb g none) (.inl rfl)); have n4_ := mkA (below_step zk13 hb); clear BK329; clear BK330; clear HI0; clear HK; clear HB; have BK329 := n0_; have BK330 := n1_; have HI0 := n2_; have HK := n3_; have HB := n4_; clear n0_ n1_ n2_ n3_ n4_; (try clear hb); (try clear hb2); (try clear hk); (try clear hi); obtain ⟨hcz42_0, hcz42_1, hcz42_2, hcz42_3, hfz42_0, hfz42_1, hfz42_2, hfz42_3⟩ := cf4 BK330.out; have hnb43 := NB329_0.out; have hnc43 := NB0_329.out; obtain ⟨hcz44_0, hcz44_1, hcz44_2, hcz44_3, hfz44_0, hfz44_1, hfz44_2, hfz44_3⟩ := cf4 BK329.out))); refine bodyPost_ret (results_cell_row rfl _ _ gb329 43 #[.int .u64 t334, .int .u64 t331, .int .u64 t337, .int .u64 t340] (0, 0) _ rfl (by (with_reducible repeat (first | refine blk_drewN ?_ _ | refine blk_drew ?_ | refine blk_alloc ?_ _)); refine blk_put (cs := #[.int .u64 t334, .int .u64 t331, .int .u64 t337, .int .u64 0]) ?_ 3 _ rfl; (with_reducible repeat (first | refine blk_drewN ?_ _ | refine blk_drew ?_ | refine blk_alloc ?_ _)); refine blk_put (cs := #[.int .u64 t334, .int .u64 t331, .int .u64 0, .int .u64 0]) ?_ 2 _ rfl; (with_reducible repeat (first | refine blk_drewN ?_ _ | refine blk_drew ?_ | refine blk_alloc ?_ _)); refine blk_put (cs := #[.int .u64 t334, .int .u64 0, .int .u64 0, .int .u64 0]) ?_ 1 _ rfl; (with_reducible repeat (first | refine blk_drewN ?_ _ | refine blk_drew ?_ | refine blk_alloc ?_ _)); refine blk_put (cs := #[.int .u64 0, .int .u64 0, .int .u64 0, .int .u64 0]) ?_ 0 _ rfl; (with_reducible repeat (first | refine blk_drewN ?_ _ | refine blk_drew ?_ | refine blk_alloc ?_ _)); exact BK329.out) Try.underlying43 rfl zk11) rfl ?_; exact ⟨zk7, zk15, zk13, zk16⟩
     ·replace c33 := Bool.eq_false_iff.mpr c33
      subst c33; have H1 : (some (0, 0, 0, 0, t341, true)) = some (r1, r2, r3, r4, r5, r6) := zk41
      clear H; have H := H1; clear H1; simp only [Option.some.injEq, Prod.mk.injEq] at H; obtain ⟨rfl, rfl, rfl, rfl, rfl, rfl⟩ := H; (go_wp2_with (first | ((with_reducible refine gate_callee (f := 97) rfl ?_); refine goesL_ (some 21) rfl rfl Try.func97 zk11 rfl #[.pointer (some ⟨g, 0, none⟩)] rfl zk2 ?_; (with_reducible refine (varveref09_fixed.calls kj3 g s0_0 t335 t336 t337 t338 t339 w0 _ ?side1 ?side2 A20.out).mono ?_); (case side1 => exact zk15); (case side2 => exact zk13); rintro e w45 ⟨rfl, hi, hb, hk⟩; refine ⟨_, rfl, ?_⟩; have n0_ := mkA (KeepBut.blk hk (g' := gb329) (o := .cells #[.int .u64 0, .int .u64 0, .int .u64 0, .int .u64 0] 43 (0, 0)) zk60 NB329_0.out zk56); have n1_ := mkA (KeepBut.blk hk (g' := gb330) (o := .cells #[.int .u64 t334, .int .u64 t331, .int .u64 0, .int .u64 0] 43 (0, 0)) zk80 NB330_0.out zk56); have n2_ := mkA (KeepBut.trans zk16 hk (.inl rfl)); have n3_ := mkA (hb); have n4_ := mkA (hi); clear BK329; clear BK330; clear HK; clear HB; clear HI0; have BK329 := n0_; have BK330 := n1_; have HK := n2_; have HB := n3_; have HI0 := n4_; clear n0_ n1_ n2_ n3_ n4_; (try clear hb); (try clear hb2); (try clear hk); (try clear hi); have hnb46 := NB330_329.out; have hnc46 := NB329_330.out; have hnb47 := NB330_0.out; have hnc47 := NB0_330.out; obtain ⟨hcz48_0, hcz48_1, hcz48_2, hcz48_3, hfz48_0, hfz48_1, hfz48_2, hfz48_3⟩ := cf4 BK330.out) | ((with_reducible refine gate_callee (f := 97) rfl ?_); refine goesL_ (some 24) rfl rfl Try.func97 zk11 rfl #[.pointer (some ⟨g, 0, none⟩)] rfl zk2 ?_; (with_reducible refine (varveref09_fixed.calls kj3 g s0_0 t338 t339 t340 t341 false w0 _ ?side1 ?side2 A21.out).mono ?_); (case side1 => exact zk15); (case side2 => exact zk13); rintro e w49 ⟨rfl, hi, hb, hk⟩; refine ⟨_, rfl, ?_⟩; have n0_ := mkA (KeepBut.blk hk (g' := gb329) (o := .cells #[.int .u64 0, .int .u64 0, .int .u64 0, .int .u64 0] 43 (0, 0)) zk30 NB329_0.out zk56); have n1_ := mkA (KeepBut.blk hk (g' := gb330) (o := .cells #[.int .u64 t334, .int .u64 t331, .int .u64 t337, .int .u64 0] 43 (0, 0)) zk69 NB330_0.out zk56); have n2_ := mkA (KeepBut.trans zk16 hk (.inl rfl)); have n3_ := mkA (hb); have n4_ := mkA (hi); clear BK329; clear BK330; clear HK; clear HB; clear HI0; have BK329 := n0_; have BK330 := n1_; have HK := n2_; have HB := n3_; have HI0 := n4_; clear n0_ n1_ n2_ n3_ n4_; (try clear hb); (try clear hb2); (try clear hk); (try clear hi); obtain ⟨hcz50_0, hcz50_1, hcz50_2, hcz50_3, hfz50_0, hfz50_1, hfz50_2, hfz50_3⟩ := cf4 BK330.out; obtain ⟨ASz51_0, cSz51_0, HGz51, hgz51, HSz51_0⟩ := HI0.out; have hcz51_0 := cellS29_0 HGz51; have hcz51_1 := cellS29_1 HGz51; have hcz51_2 := cellS29_2 HGz51; have hfz51_1 := blk_frozen HGz51 1; have hfz51_2 := blk_frozen HGz51 2; clear HGz51 hgz51) | (go_at_call 67; (with_reducible refine (varveref09_Check.calls kj3 t334 t331 t337 t340 false _ A32.out).mono ?_); rintro e w52 ⟨rfl, hb⟩; have n0_ := mkA (blk_below (g := gb329) (o := .cells #[.int .u64 0, .int .u64 0, .int .u64 0, .int .u64 0] 43 (0, 0)) zk30 hb); have n1_ := mkA (blk_below (g := gb330) (o := .cells #[.int .u64 t334, .int .u64 t331, .int .u64 t337, .int .u64 t340] 43 (0, 0)) zk86 hb); have n2_ := mkA (IsS29.below (show IsS29 w0 (w49.setCell ⟨gb330, 3, none⟩ (.int .u64 t340)) g s0_0 t341 false from by repeat (first | (with_reducible first | exact HI0.out | apply IsS29.alloc | apply IsS29.drewN | apply IsS29.drew | apply IsS29.set_1 | apply IsS29.set_2 | apply IsS29.far (hne := NB0_329.out) | apply IsS29.far (hne := NB0_330.out)) | exact HI0.out)) hb); have n3_ := mkA (KeepBut.trans zk16 (KeepBut.of_below hb g none) (.inl rfl)); have n4_ := mkA (below_step zk13 hb); clear BK329; clear BK330; clear HI0; clear HK; clear HB; have BK329 := n0_; have BK330 := n1_; have HI0 := n2_; have HK := n3_; have HB := n4_; clear n0_ n1_ n2_ n3_ n4_; (try clear hb); (try clear hb2); (try clear hk); (try clear hi); obtain ⟨ASz53_0, cSz53_0, HGz53, hgz53, HSz53_0⟩ := HI0.out; have hcz53_0 := cellS29_0 HGz53; have hcz53_1 := cellS29_1 HGz53; have hcz53_2 := cellS29_2 HGz53; have hfz53_1 := blk_frozen HGz53 1; have hfz53_2 := blk_frozen HGz53 2; clear HGz53 hgz53; have hnb54 := NB329_0.out; have hnc54 := NB0_329.out; obtain ⟨hcz55_0, hcz55_1, hcz55_2, hcz55_3, hfz55_0, hfz55_1, hfz55_2, hfz55_3⟩ := cf4 BK329.out))); refine bodyPost_ret (results_cell_row rfl _ _ gb329 43 #[.int .u64 0, .int .u64 0, .int .u64 0, .int .u64 0] (0, 0) _ rfl zk20 Try.underlying43 rfl zk11) rfl ?_; exact ⟨zk7, zk15, zk13, zk16⟩
   ·replace c19 := Bool.eq_false_iff.mpr c19
    subst c19; have H1 : (if t336 = true then (some (0, 0, 0, 0, t335, true)) else ((varveref09_Check.f kj3 t334 t331 0 0).bind fun t344 => (if t344 = true then (some (t334, t331, 0, 0, t335, t336)) else (some (0, 0, 0, 0, t335, true))))) = some (r1, r2, r3, r4, r5, r6) := zk41
    clear H; have H := H1; clear H1; by_cases c56 : t336 = true
    ·subst c56
     have H1 : (some (0, 0, 0, 0, t335, true)) = some (r1, r2, r3, r4, r5, r6) := zk76
     clear H; have H := H1; clear H1; simp only [Option.some.injEq, Prod.mk.injEq] at H; obtain ⟨rfl, rfl, rfl, rfl, rfl, rfl⟩ := H; obtain ⟨ASz57_0, cSz57_0, HGz57, hgz57, HSz57_0⟩ := HI0.out; have hcz57_0 := cellS29_0 HGz57; have hcz57_1 := cellS29_1 HGz57; have hcz57_2 := cellS29_2 HGz57; have hfz57_1 := blk_frozen HGz57 1; have hfz57_2 := blk_frozen HGz57 2; clear HGz57 hgz57; have hnb58 := NB329_330.out; have hnc58 := NB330_329.out; have hnb59 := NB329_0.out; have hnc59 := NB0_329.out; obtain ⟨hcz60_0, hcz60_1, hcz60_2, hcz60_3, hfz60_0, hfz60_1, hfz60_2, hfz60_3⟩ := cf4 BK329.out; go_wp2; refine bodyPost_ret (results_cell_row rfl _ _ gb329 43 #[.int .u64 0, .int .u64 0, .int .u64 0, .int .u64 0] (0, 0) _ rfl zk20 Try.underlying43 rfl zk11) rfl ?_; exact ⟨zk7, zk15, zk13, zk16⟩
    ·replace c56 := Bool.eq_false_iff.mpr c56
     subst c56; have H1 : ((varveref09_Check.f kj3 t334 t331 0 0).bind fun t344 => (if t344 = true then (some (t334, t331, 0, 0, t335, false)) else (some (0, 0, 0, 0, t335, true)))) = some (r1, r2, r3, r4, r5, r6) := zk41
     clear H; have H := H1; clear H1; replace H := Option.bind_eq_some_iff.mp H; obtain ⟨t344, A610, H⟩ := H; replace H : (if t344 = true then (some (t334, t331, 0, 0, t335, false)) else (some (0, 0, 0, 0, t335, true))) = some (r1, r2, r3, r4, r5, r6) := H; have A61 := mkA A610; clear A610; by_cases c62 : t344 = true
     ·subst c62
      have H1 : (some (t334, t331, 0, 0, t335, false)) = some (r1, r2, r3, r4, r5, r6) := zk76
      clear H; have H := H1; clear H1; simp only [Option.some.injEq, Prod.mk.injEq] at H; obtain ⟨rfl, rfl, rfl, rfl, rfl, rfl⟩ := H; obtain ⟨ASz63_0, cSz63_0, HGz63, hgz63, HSz63_0⟩ := HI0.out; have hcz63_0 := cellS29_0 HGz63; have hcz63_1 := cellS29_1 HGz63; have hcz63_2 := cellS29_2 HGz63; have hfz63_1 := blk_frozen HGz63 1; have hfz63_2 := blk_frozen HGz63 2; clear HGz63 hgz63; have hnb64 := NB330_329.out; have hnc64 := NB329_330.out; have hnb65 := NB330_0.out; have hnc65 := NB0_330.out; obtain ⟨hcz66_0, hcz66_1, hcz66_2, hcz66_3, hfz66_0, hfz66_1, hfz66_2, hfz66_3⟩ := cf4 BK330.out; (go_wp2_with (first | (go_at_call 67; (with_reducible refine (varveref09_Check.calls kj3 t334 t331 0 0 true _ A61.out).mono ?_); rintro e w67 ⟨rfl, hb⟩; have n0_ := mkA (blk_below (g := gb329) (o := .cells #[.int .u64 0, .int .u64 0, .int .u64 0, .int .u64 0] 43 (0, 0)) zk60 hb); have n1_ := mkA (blk_below (g := gb330) (o := .cells #[.int .u64 t334, .int .u64 t331, .int .u64 0, .int .u64 0] 43 (0, 0)) zk80 hb); have n2_ := mkA (IsS29.below zk15 hb); have n3_ := mkA (KeepBut.trans zk16 (KeepBut.of_below hb g none) (.inl rfl)); have n4_ := mkA (below_step zk13 hb); clear BK329; clear BK330; clear HI0; clear HK; clear HB; have BK329 := n0_; have BK330 := n1_; have HI0 := n2_; have HK := n3_; have HB := n4_; clear n0_ n1_ n2_ n3_ n4_; (try clear hb); (try clear hb2); (try clear hk); (try clear hi); obtain ⟨hcz68_0, hcz68_1, hcz68_2, hcz68_3, hfz68_0, hfz68_1, hfz68_2, hfz68_3⟩ := cf4 BK330.out; have hnb69 := NB329_0.out; have hnc69 := NB0_329.out; obtain ⟨hcz70_0, hcz70_1, hcz70_2, hcz70_3, hfz70_0, hfz70_1, hfz70_2, hfz70_3⟩ := cf4 BK329.out))); refine bodyPost_ret (results_cell_row rfl _ _ gb329 43 #[.int .u64 t334, .int .u64 t331, .int .u64 0, .int .u64 0] (0, 0) _ rfl (by (with_reducible repeat (first | refine blk_drewN ?_ _ | refine blk_drew ?_ | refine blk_alloc ?_ _)); refine blk_put (cs := #[.int .u64 t334, .int .u64 t331, .int .u64 0, .int .u64 0]) ?_ 3 _ rfl; (with_reducible repeat (first | refine blk_drewN ?_ _ | refine blk_drew ?_ | refine blk_alloc ?_ _)); refine blk_put (cs := #[.int .u64 t334, .int .u64 t331, .int .u64 0, .int .u64 0]) ?_ 2 _ rfl; (with_reducible repeat (first | refine blk_drewN ?_ _ | refine blk_drew ?_ | refine blk_alloc ?_ _)); refine blk_put (cs := #[.int .u64 t334, .int .u64 0, .int .u64 0, .int .u64 0]) ?_ 1 _ rfl; (with_reducible repeat (first | refine blk_drewN ?_ _ | refine blk_drew ?_ | refine blk_alloc ?_ _)); refine blk_put (cs := #[.int .u64 0, .int .u64 0, .int .u64 0, .int .u64 0]) ?_ 0 _ rfl; (with_reducible repeat (first | refine blk_drewN ?_ _ | refine blk_drew ?_ | refine blk_alloc ?_ _)); exact BK329.out) Try.underlying43 rfl zk11) rfl ?_; exact ⟨zk7, zk15, zk13, zk16⟩
     ·replace c62 := Bool.eq_false_iff.mpr c62
      subst c62; have H1 : (some (0, 0, 0, 0, t335, true)) = some (r1, r2, r3, r4, r5, r6) := zk41
      clear H; have H := H1; clear H1; simp only [Option.some.injEq, Prod.mk.injEq] at H; obtain ⟨rfl, rfl, rfl, rfl, rfl, rfl⟩ := H; obtain ⟨ASz71_0, cSz71_0, HGz71, hgz71, HSz71_0⟩ := HI0.out; have hcz71_0 := cellS29_0 HGz71; have hcz71_1 := cellS29_1 HGz71; have hcz71_2 := cellS29_2 HGz71; have hfz71_1 := blk_frozen HGz71 1; have hfz71_2 := blk_frozen HGz71 2; clear HGz71 hgz71; have hnb72 := NB330_329.out; have hnc72 := NB329_330.out; have hnb73 := NB330_0.out; have hnc73 := NB0_330.out; obtain ⟨hcz74_0, hcz74_1, hcz74_2, hcz74_3, hfz74_0, hfz74_1, hfz74_2, hfz74_3⟩ := cf4 BK330.out; (go_wp2_with (first | (go_at_call 67; (with_reducible refine (varveref09_Check.calls kj3 t334 t331 0 0 false _ A61.out).mono ?_); rintro e w75 ⟨rfl, hb⟩; have n0_ := mkA (blk_below (g := gb329) (o := .cells #[.int .u64 0, .int .u64 0, .int .u64 0, .int .u64 0] 43 (0, 0)) zk60 hb); have n1_ := mkA (blk_below (g := gb330) (o := .cells #[.int .u64 t334, .int .u64 t331, .int .u64 0, .int .u64 0] 43 (0, 0)) zk80 hb); have n2_ := mkA (IsS29.below zk15 hb); have n3_ := mkA (KeepBut.trans zk16 (KeepBut.of_below hb g none) (.inl rfl)); have n4_ := mkA (below_step zk13 hb); clear BK329; clear BK330; clear HI0; clear HK; clear HB; have BK329 := n0_; have BK330 := n1_; have HI0 := n2_; have HK := n3_; have HB := n4_; clear n0_ n1_ n2_ n3_ n4_; (try clear hb); (try clear hb2); (try clear hk); (try clear hi); obtain ⟨ASz76_0, cSz76_0, HGz76, hgz76, HSz76_0⟩ := HI0.out; have hcz76_0 := cellS29_0 HGz76; have hcz76_1 := cellS29_1 HGz76; have hcz76_2 := cellS29_2 HGz76; have hfz76_1 := blk_frozen HGz76 1; have hfz76_2 := blk_frozen HGz76 2; clear HGz76 hgz76; have hnb77 := NB329_0.out; have hnc77 := NB0_329.out; obtain ⟨hcz78_0, hcz78_1, hcz78_2, hcz78_3, hfz78_0, hfz78_1, hfz78_2, hfz78_3⟩ := cf4 BK329.out))); refine bodyPost_ret (results_cell_row rfl _ _ gb329 43 #[.int .u64 0, .int .u64 0, .int .u64 0, .int .u64 0] (0, 0) _ rfl zk20 Try.underlying43 rfl zk11) rfl ?_; exact ⟨zk7, zk15, zk13, zk16⟩
end Go.Proofs.Ytplgffbfepnihaa.Bp
namespace Go.Proofs.Ytplgffbfepnihaa.Pure
open Go.RowKit Go.Proofs.YtplgffbfepnihaaW.PrintWords Go.Proofs.YtplgffbfepnihaaW.PrintLast Go.Proofs.YtplgffbfepnihaaW.PrintMore Go.Proofs.Ytplgffbfepnihaa.Hi Go.Proofs.Ytplgffbfepnihaa.Q Go.Proofs.Ytplgffbfepnihaa.Gb Go.Proofs.Ytplgffbfepnihaa.Ga
theorem drop_eq {α : Type} {l m : List α} {i : Nat} (h : i < l.length) (h' : i < m.length) : (l.drop i = m.drop i) ↔ (l[i] = m[i] ∧ l.drop (i + 1) = m.drop (i + 1)) := by
 rw [List.drop_eq_getElem_cons h, List.drop_eq_getElem_cons h', List.cons.injEq]
theorem rdi {l : List Int} {i : Nat} (h : i < l.length) : rd l (i : Int) = l[i] := by
 simp [rd, List.getD, List.getElem?_eq_getElem h]
theorem rd75 {l : List S70} {i : Nat} (h : i < l.length) : rd_T70 l (i : Int) = l[i] := by
 simp [rd_T70, List.getD, List.getElem?_eq_getElem h]
def kb (l : List S70) : List (Int × Int) := l.map (fun b => (b.f0, b.f1))
theorem kb_len (l : List S70) : (kb l).length = l.length := by simp [kb]
theorem kb_at {l : List S70} {i : Nat} (h : i < l.length) (h' : i < (kb l).length) : (kb l)[i] = (l[i].f0, l[i].f1) := by simp [kb]
theorem kb_inj {l m : List S70} (h : kb l = kb m) : l = m := by
 have hl : l.length = m.length := by rw [← kb_len l, h, kb_len]
 refine List.ext_getElem hl fun i h1 h2 => ?_; have e : (kb l)[i]'(by rw [kb_len]; exact h1) = (kb m)[i]'(by rw [kb_len]; exact h2) := by simp only [h]
 rw [kb_at h1, kb_at h2] at e; obtain ⟨e1, e2⟩ := Prod.mk.inj e; cases hx : l[i]; cases hy : m[i]; rw [hx, hy] at e1 e2; simp only at e1 e2; rw [e1, e2]
theorem kb_ne {x y : S70} : ((!(x.f0 == y.f0) || !(x.f1 == y.f1)) = true) ↔ ¬ ((x.f0, x.f1) = (y.f0, y.f1)) := by
 rw [Prod.mk.injEq]; by_cases c1 : x.f0 = y.f0 <;> by_cases c2 : x.f1 = y.f1 <;> simp [c1, c2]
theorem upK {α : Type} {f : Nat → Option α} (h : ∀ k, LeO (f k) (f (k + 1))) {k m : Nat} (hm : k ≤ m) {r : α} (e : f k = some r) : f m = some r := by
 obtain ⟨d, rfl⟩ : ∃ d, m = k + d := ⟨m - k, zk6⟩
 induction d with
 | zero => exact e
 | succ d ih => exact h _ r (ih zk6)
def sameS (l : List S70) (h : List Int) (g : G4) (l' : List S70) (h' : List Int) (g' : G4) : Bool :=
 decide (kb l = kb l') && decide (h = h') && (g.n == g'.n && (g.nans == g'.nans && (g.lo == g'.lo && g.hi == g'.hi)))
theorem refSame_l1 (l : List S70) (h : List Int) (g : G4) (l' : List S70) (h' : List Int) (g' : G4) (hl : h.length = h'.length) (hL : h.length < 9223372036854775807) : ∀ (n i : Nat), h.length - i = n → i ≤ h.length →
  varveref10_Same.l1 (n + 1) (i : Int) l h g.n g.nans g.lo g.hi l' h' g'.n g'.nans g'.lo g'.hi = some (decide (h.drop i = h'.drop i)) := by
 intro n
 induction n with
 | zero =>
  intro i h1 h2; rw [varveref10_Same.l1, if_neg zk6, List.drop_eq_nil_of_le zk6, List.drop_eq_nil_of_le zk6]; rfl
 | succ n ih =>
  intro i h1 h2; have hw : wrap64 ((i : Int) + 1) = ((i + 1 : Nat) : Int) := zk154
  have hi : i < h.length := zk6
  have hm : i < h'.length := zk6
  rw [varveref10_Same.l1, if_pos zk6, if_pos zk6, if_pos zk6, rdi hi, rdi hm, hw]; by_cases c : h[i] = h'[i]
  ·rw [if_pos c, ih (i + 1) zk6 zk6]; congr 1; exact decide_eq_decide.2 ⟨fun e => (drop_eq hi hm).2 ⟨c, e⟩, fun e => ((drop_eq hi hm).1 e).2⟩
  ·rw [if_neg c, decide_eq_false (fun e => c ((drop_eq hi hm).1 e).1)]
theorem refSame_l0 (l : List S70) (h : List Int) (g : G4) (l' : List S70) (h' : List Int) (g' : G4) (hl : l.length = l'.length) (hh : h.length = h'.length) (hL : l.length < 9223372036854775807) (hH : h.length < 9223372036854775807) : ∀ (n i : Nat), l.length - i = n → i ≤ l.length →
  varveref10_Same.l0 (h.length + 1 + n + 1) (i : Int) l h g.n g.nans g.lo g.hi l' h' g'.n g'.nans g'.lo g'.hi = some (decide ((kb l).drop i = (kb l').drop i) && decide (h = h')) := by
 intro n
 induction n with
 | zero =>
  intro i h1 h2; have e := refSame_l1 l h g l' h' g' hh hH h.length 0 zk6 zk6; rw [List.drop_zero, List.drop_zero] at e; rw [varveref10_Same.l0, if_neg zk6, List.drop_eq_nil_of_le (by rw [kb_len]; omega), List.drop_eq_nil_of_le (by rw [kb_len]; omega)]; rw [Nat.add_zero, show (0 : Int) = ((0 : Nat) : Int) from rfl, e]; simp
 | succ n ih =>
  intro i h1 h2; have hw : wrap64 ((i : Int) + 1) = ((i + 1 : Nat) : Int) := zk154
  have hi : i < l.length := zk6
  have hm : i < l'.length := zk6
  have hi' : i < (kb l).length := by rw [kb_len]; exact hi
  have hm' : i < (kb l').length := by rw [kb_len]; exact hm
  rw [varveref10_Same.l0, if_pos zk6, if_pos zk6, if_pos zk6, rd75 hi, rd75 hm, hw]; by_cases c : (kb l)[i] = (kb l')[i]
  ·rw [if_neg (fun e => kb_ne.1 e (by rw [kb_at hi, kb_at hm] at c; exact c)), show h.length + 1 + (n + 1) = h.length + 1 + n + 1 by omega, ih (i + 1) zk6 zk6]; congr 2; exact decide_eq_decide.2 ⟨fun e => (drop_eq hi' hm').2 ⟨c, e⟩, fun e => ((drop_eq hi' hm').1 e).2⟩
  ·rw [if_pos (kb_ne.2 (by rw [kb_at hi, kb_at hm] at c; exact c)), decide_eq_false (fun e => c ((drop_eq hi' hm').1 e).1)]; rfl
theorem refSame_eq (l : List S70) (h : List Int) (g : G4) (l' : List S70) (h' : List Int) (g' : G4) (hl : l.length < 9223372036854775807) (hh : h.length < 9223372036854775807) :
  varveref10_Same.f (h.length + 1 + l.length + 2) l h g.n g.nans g.lo g.hi l' h' g'.n g'.nans g'.lo g'.hi = some (sameS l h g l' h' g') := by
 unfold varveref10_Same.f sameS; by_cases c1 : (l.length : Int) = (l'.length : Int)
 ·rw [if_pos c1]
  by_cases c2 : (h.length : Int) = (h'.length : Int)
  ·rw [if_pos c2, varveref10_Same.j0]
   by_cases c3 : (g.n == g'.n && (g.nans == g'.nans && (g.lo == g'.lo && g.hi == g'.hi))) = true
   ·have e := refSame_l0 l h g l' h' g' zk6 zk6 hl hh l.length 0 zk6 zk6; rw [List.drop_zero, List.drop_zero] at e; rw [c3, Bool.and_true, if_neg (by simp only [Bool.and_eq_true] at c3; simp [c3.1, c3.2.1, c3.2.2.1, c3.2.2.2])]; exact e
   ·rw [Bool.eq_false_iff.2 c3, Bool.and_false, if_pos]
    revert c3
    cases (g.n == g'.n) <;> cases (g.nans == g'.nans) <;> cases (g.lo == g'.lo) <;> cases (g.hi == g'.hi) <;> simp
  ·rw [if_neg c2, varveref10_Same.j0, if_pos rfl, decide_eq_false (fun e : h = h' => c2 (by rw [e]))]; simp
 ·rw [if_neg c1, varveref10_Same.j0, if_pos rfl, decide_eq_false (fun e : kb l = kb l' => c1 (by rw [kb_inj e]))]; simp
theorem sameS_self (l : List S70) (h : List Int) (g : G4) : sameS l h g l h g = true := by simp [sameS]
def okS (l : List S70) (h : List Int) (g : G4) : Bool := chk l && decide (KOk h) && gchk g
theorem refCheckS_eq (l : List S70) (h : List Int) (g : G4) (hl : l.length < 8796093022208) (hh : h.length ≤ 4611686018427387904) (hg : g.wf) :
  varveref10_Check.f (h.length + l.length + 1) l h g.n g.nans g.lo g.hi = some (okS l h g) := by
 unfold varveref10_Check.f okS; rw [refCheck_eq l hl _ zk6, upK (fun k => varveref08_Check.mono h k) (show h.length + 1 ≤ h.length + l.length + 1 by omega) (refCheck_all h hh), refGCheck_eq hg _ zk6]; simp only [Option.bind_some]; cases chk l <;> by_cases c : KOk h <;> simp [c]
end Go.Proofs.Ytplgffbfepnihaa.Pure
namespace Go.Proofs.Ytplgffbfepnihaa
open Go.RowKit Go.Maps Go.Proofs.YtplgffbfepnihaaW.PrintWords Go.Proofs.YtplgffbfepnihaaW.PrintLast Go.Proofs.YtplgffbfepnihaaW.PrintMore Go.Proofs.Ytplgffbfepnihaa.Pure Go.Proofs.Ytplgffbfepnihaa.Q Go.Proofs.Ytplgffbfepnihaa.Hi Go.Proofs.Ytplgffbfepnihaa.Ga
structure SK (W : World) (A : Option Addr) (c : Nat) (l : List S70) (B : Option Addr) (d : Nat) (h : List Int) : Prop where
 c1 : Kd.C k70 W A l.length l
 l1 : l.length ≤ c
 c2 : Kd.C (Kd.int .u64) W B h.length h
 l2 : h.length ≤ d
 s1 : l.length < 8796093022208
 s2 : h.length < 17592186044416
theorem SK.below {W W' : World} {A : Option Addr} {c : Nat} {l : List S70} {B : Option Addr} {d : Nat} {h : List Int} (k : SK W A c l B d h) {n : Nat} (hb : Below n W W') (hn : W.heap.size ≤ n) : SK W' A c l B d h :=
 ⟨Kd.C_below k.c1 (hb.mono hn), k.l1, Kd.C_below k.c2 (hb.mono hn), k.l2, k.s1, k.s2⟩
theorem sk_copy {W : World} {A : Option Addr} {c : Nat} {l : List S70} {B : Option Addr} {d : Nat} {h : List Int} (k : SK W A c l B d h) (n na lo hi : Int) :
  Calls Try.prog 34 #[.agg #[.slice A l.length c, .slice B h.length d, .int .u64 n, .int .u64 na, .int .u64 lo, .int .u64 hi]] W fun e w' =>
   ∃ A' c' B' d', e = .returned (.agg #[.slice A' l.length c', .slice B' h.length d', .int .u64 n, .int .u64 na, .int .u64 lo, .int .u64 hi]) ∧ SK w' A' c' l B' d' h ∧ Below W.heap.size W w' :=
 (varvelaw00_Sketch.calls A c l B d h n na lo hi l h n na lo hi W k.c1 k.l1 k.c2 k.l2 (by
  have := k.s1; have := k.s2; unfold varvelaw00_Sketch.f varvelaw00_Buckets.f varvelaw00_Nums.f
  rw [if_pos (by simp; omega), if_pos (by simp; omega)]; rfl)).mono fun e w' ⟨v0, v1, he, h0, h1, hb⟩ => by
  obtain ⟨A', c', rfl, e1, e2⟩ := Kd.R_reads h0; obtain ⟨B', d', rfl, e3, e4⟩ := Kd.R_reads h1; exact ⟨A', c', B', d', he, ⟨e2, e1, e4, e3, k.s1, k.s2⟩, hb⟩
theorem sk_rcheck {W : World} {A : Option Addr} {c : Nat} {l : List S70} {B : Option Addr} {d : Nat} {h : List Int} (k : SK W A c l B d h) (g : G4) (hg : g.wf) :
  Calls Try.prog 32 #[.agg #[.slice A l.length c, .slice B h.length d, .int .u64 g.n, .int .u64 g.nans, .int .u64 g.lo, .int .u64 g.hi]] W fun e w' => e = .returned (.bool (okS l h g)) ∧ Below W.heap.size W w' :=
 varveref10_Check.calls _ A c l B d h g.n g.nans g.lo g.hi _ W k.c1 k.l1 k.c2 k.l2 (refCheckS_eq l h g k.s1 (by have := k.s2; omega) hg)
theorem sk_rsame {W : World} {A : Option Addr} {c : Nat} {l : List S70} {B : Option Addr} {d : Nat} {h : List Int} (k : SK W A c l B d h) (g : G4)
  {A' : Option Addr} {c' : Nat} {l' : List S70} {B' : Option Addr} {d' : Nat} {h' : List Int} (k' : SK W A' c' l' B' d' h') (g' : G4) :
  Calls Try.prog 20 #[.agg #[.slice A l.length c, .slice B h.length d, .int .u64 g.n, .int .u64 g.nans, .int .u64 g.lo, .int .u64 g.hi], .agg #[.slice A' l'.length c', .slice B' h'.length d', .int .u64 g'.n, .int .u64 g'.nans, .int .u64 g'.lo, .int .u64 g'.hi]] W fun e w' => e = .returned (.bool (sameS l h g l' h' g')) ∧ Below W.heap.size W w' :=
 varveref10_Same.calls _ A c l B d h g.n g.nans g.lo g.hi A' c' l' B' d' h' g'.n g'.nans g'.lo g'.hi _ W k.c1 k.l1 k.c2 k.l2 k'.c1 k'.l1 k'.c2 k'.l2 (refSame_eq l h g l' h' g' (by have := k.s1; omega) (by have := k.s2; omega))
end Go.Proofs.Ytplgffbfepnihaa
namespace Go.Proofs.Ytplgffbfepnihaa
open Go.RowKit Go.ChangeShapes Go.WideShapes Go.Deep Go.Proofs.YtplgffbfepnihaaW.PrintWords Go.Proofs.Ytplgffbfepnihaa.Hi
def kG : Kd (Int × Int × Int × Int) := Kd.pair (Kd.int .u64) (Kd.pair (Kd.int .u64) (Kd.pair (Kd.int .u64) (Kd.int .u64)))
theorem opensG : Opens Try.prog 43 kG (fun x => (Lit.int .u64 x.1).wf = true ∧ (Lit.int .u64 x.2.1).wf = true ∧ (Lit.int .u64 x.2.2.1).wf = true ∧ (Lit.int .u64 x.2.2.2).wf = true) :=
 opens_struct Try.underlying43 zk11 (opensFields_cons rfl zk11 (opens_int Try.underlying41) (opensFields_cons rfl zk11 (opens_int Try.underlying41) (opensFields_cons rfl zk11 (opens_int Try.underlying41) (opensFields_one rfl zk11 (opens_int Try.underlying41)))))
def kS : Kd (List S70 × List Int × (Int × Int × Int × Int)) := Kd.pair (Kd.slice 70 k70) (Kd.pair (Kd.slice 41 (Kd.int .u64)) kG)
theorem opensS : Opens Try.prog 45 kS (fun x => Pure.WB x.1 ∧ Pure.WU x.2.1 ∧ ((Lit.int .u64 x.2.2.1).wf = true ∧ (Lit.int .u64 x.2.2.2.1).wf = true ∧ (Lit.int .u64 x.2.2.2.2.1).wf = true ∧ (Lit.int .u64 x.2.2.2.2.2).wf = true)) :=
 opens_struct Try.underlying45 zk11 (opensFields_cons rfl zk11 opens23 (opensFields_cons rfl zk11 opens40 (opensFields_one rfl zk11 opensG)))
theorem Opens.argS {P : Program} {t : TypeId} {α : Type} {k : Kd α} {wf : α → Prop} {ts : List TypeId} {H : Type} {ds : List (DataW H)} {j : Nat} {enc : TypeId × Value → H} {W : World} {base : Nat} {spare : Nat → Bool} {held : Bool} {v : Value} {x : DataW H} {p : List MemPlace}
  (h : Opens P t k wf) (hsz : (DataW.weightsEach P ts ds).all (· ≤ reachBytes) = true) (ht : ts[j]? = some t) (hd : ds[j]? = some x) (hv : ∃ a, v = .agg a) (hx : DataW.Trod enc P W base spare held t v x p) :
  ∃ y a, v = .agg a ∧ k.K W y a.toList ∧ wf y := by
 obtain ⟨fuel, hf⟩ := hx; obtain ⟨a, rfl⟩ := hv
 obtain ⟨y, hK, hw⟩ := h hf (fun n hn => by
  have := List.all_eq_true.1 hsz _ (DataW.weights_mem_each ht hd n hn)
  simpa using this)
 exact ⟨y, a, rfl, hK, hw⟩
theorem kS_open {W : World} {y : List S70 × List Int × (Int × Int × Int × Int)} {cs : List Value} (h : kS.K W y cs) :
  ∃ A c B d, cs = [.slice A y.1.length c, .slice B y.2.1.length d, .int .u64 y.2.2.1, .int .u64 y.2.2.2.1, .int .u64 y.2.2.2.2.1, .int .u64 y.2.2.2.2.2] ∧ y.1.length ≤ c ∧ y.2.1.length ≤ d ∧ Kd.C k70 W A y.1.length y.1 ∧ Kd.C (Kd.int .u64) W B y.2.1.length y.2.1 := by
 obtain ⟨x1, x2, rfl, ⟨A, c, rfl, hc, hC⟩, ⟨x3, x4, rfl, ⟨B, d, rfl, hd, hD⟩, ⟨x5, x6, rfl, e1, ⟨x7, x8, rfl, e2, ⟨x9, x10, rfl, e3, e4⟩⟩⟩⟩⟩ := h; obtain rfl : x5 = [.int .u64 y.2.2.1] := e1; obtain rfl : x7 = [.int .u64 y.2.2.2.1] := e2; obtain rfl : x9 = [.int .u64 y.2.2.2.2.1] := e3; obtain rfl : x10 = [.int .u64 y.2.2.2.2.2] := e4; exact ⟨A, c, B, d, rfl, hc, hd, hC, hD⟩
theorem okWide_agg {P : Program} {W : World} {r : Reach} {base : Nat} {t : TypeId} {v : Value} {fs : Array Field} (ht : P.underlying t = some (.struct fs)) (h : Value.okWide P W r base t v) : ∃ a, v = .agg a := by
 simp only [Value.okWide, ht, Cell.okWide] at h; cases v <;> simp_all [Cell.ok]
end Go.Proofs.Ytplgffbfepnihaa
namespace Go.Proofs.Ytplgffbfepnihaa
open Go.RowKit Go.Maps Go.Proofs.YtplgffbfepnihaaW.PrintWords Go.Proofs.YtplgffbfepnihaaW.PrintLast Go.Proofs.YtplgffbfepnihaaW.PrintMore Go.Proofs.Ytplgffbfepnihaa.Pure Go.Proofs.Ytplgffbfepnihaa.Q Go.Proofs.Ytplgffbfepnihaa.Hi Go.Proofs.Ytplgffbfepnihaa.Ga
def gcells (g : G4) : Array Value := #[.int .u64 g.n, .int .u64 g.nans, .int .u64 g.lo, .int .u64 g.hi]
def szero : Array Value := #[.slice none 0 0, .slice none 0 0, .int .u64 0, .int .u64 0, .int .u64 0, .int .u64 0]
structure PS (w0 W : World) (r g k b x : Nat) (s S : List Int) (G : G4) : Prop where
 hs : HS w0 W [(g, s)]
 ks : KS w0 W [(k, b, S)]
 gb : W.heap[x]? = some (.cells (gcells G) 43 (0, 0))
 rb : W.heap[r]? = some (.cells szero 45 (0, 0))
 ord : w0.heap.size ≤ r ∧ r < g ∧ g < k ∧ g < b ∧ k < x ∧ b < x
theorem PS.bel {w0 W : World} {r g k b x : Nat} {s S : List Int} {G : G4} (h : PS w0 W r g k b x s S G) : Below w0.heap.size w0 W := h.hs.bel
theorem HS.one {w0 W W' : World} {g : Nat} {s : List Int} (h : HS w0 W [(g, s)]) (hB : Below w0.heap.size w0 W') (hg : W'.heap[g]? = W.heap[g]?) : HS w0 W' [(g, s)] := by
 refine ⟨fun p hp => ?_, h.2.1, hB⟩; rw [List.mem_singleton] at hp; subst hp; have := h.1 (g, s) zk56; exact ⟨hg.trans this.1, this.2⟩
theorem KS.one {w0 W W' : World} {k b : Nat} {s : List Int} (h : KS w0 W [(k, b, s)]) (hB : Below w0.heap.size w0 W') (hk : W'.heap[k]? = W.heap[k]?) (hb : W'.heap[b]? = W.heap[b]?) : KS w0 W' [(k, b, s)] := by
 refine ⟨fun p hp => ?_, h.2.1, hB⟩; rw [List.mem_singleton] at hp; subst hp; have := h.1 (k, b, s) zk56; exact ⟨this.1.block hk hb, this.2⟩
theorem PS.lt {w0 W : World} {r g k b x : Nat} {s S : List Int} {G : G4} (h : PS w0 W r g k b x s S G) : x < W.heap.size ∧ b < W.heap.size ∧ k < W.heap.size ∧ g < W.heap.size ∧ r < W.heap.size := by
 have := blk_lt h.gb; have := h.ord; omega
theorem PS.to {w0 W W' : World} {r g k b x : Nat} {s S : List Int} {G G' : G4} (h : PS w0 W r g k b x s S G) (hB : Below w0.heap.size w0 W') (hn : ∀ i, i < W.heap.size → i ≠ x → W'.heap[i]? = W.heap[i]?) (hx : W'.heap[x]? = some (.cells (gcells G') 43 (0, 0))) : PS w0 W' r g k b x s S G' := by
 have l := h.lt; have o := h.ord; exact ⟨h.hs.one hB (hn g zk6 zk6), h.ks.one hB (hn k zk6 zk6) (hn b zk6 zk6), hx, (hn r zk6 zk6).trans h.rb, o⟩
theorem PS.below {w0 W W' : World} {r g k b x : Nat} {s S : List Int} {G : G4} (h : PS w0 W r g k b x s S G) (hb : Below W.heap.size W W') : PS w0 W' r g k b x s S G :=
 h.to (h.bel.trans (hb.mono h.bel.size)) (fun i hi _ => hb.block i hi) ((hb.block x h.lt.1).trans h.gb)
theorem PS.hadd {w0 W : World} {r g k b x : Nat} {s S : List Int} {G : G4} (h : PS w0 W r g k b x s S G) (hs : hgood s = true) {v n : Int} (hv : 0 ≤ v ∧ v < 18446744073709551616) (hn : 0 ≤ n ∧ n < 18446744073709551616) :
  Calls Try.prog 45 #[.pointer (some ⟨g, 0, none⟩), .int .u64 v, .int .u64 n] W fun e w' => e = .returned (.tuple #[]) ∧ PS w0 w' r g k b x (hadd s (bucketN v.toNat) n) S G ∧ W.heap.size ≤ w'.heap.size ∧ ∀ i, i < W.heap.size → i ≠ g → w'.heap[i]? = W.heap[i]? :=
 (h.hs.add 0 rfl hs hv hn).mono fun _ w' ⟨he, h1, hk⟩ => by
  have l := h.lt; have o := h.ord; have q : ∀ i, i < W.heap.size → i ≠ g → w'.heap[i]? = W.heap[i]? := fun i hi hne => hk.2 i hi hne zk56; exact ⟨he, ⟨h1, h.ks.one h1.bel (q k zk6 zk6) (q b zk6 zk6), (q x zk6 zk6).trans h.gb, (q r zk6 zk6).trans h.rb, o⟩, hk.1, q⟩
theorem PS.kadd {w0 W : World} {r g k b x : Nat} {s S : List Int} {G : G4} (h : PS w0 W r g k b x s S G) {t : ByteArray} {n : Nat} {v : Int} (hf : fnv_Of.f n t = some v) (hv : 0 ≤ v ∧ v < 18446744073709551616) :
  Calls Try.prog 53 #[.pointer (some ⟨k, 0, none⟩), .string t] W fun e w' => e = .returned (.tuple #[]) ∧ PS w0 w' r g k b x s (khash S v) G ∧ W.heap.size ≤ w'.heap.size ∧ ∀ i, i < W.heap.size → i ≠ k → i ≠ b → w'.heap[i]? = W.heap[i]? :=
 (h.ks.add 0 rfl hf hv).mono fun _ w' ⟨he, h1, hk⟩ => by
  have l := h.lt; have o := h.ord; have q : ∀ i, i < W.heap.size → i ≠ k → i ≠ b → w'.heap[i]? = W.heap[i]? := hk.2.2.2.2; exact ⟨he, ⟨h.hs.one h1.bel (q g zk6 zk6 zk6), h1, (q x zk6 zk6 zk6).trans h.gb, (q r zk6 zk6 zk6).trans h.rb, o⟩, hk.2.2.2.1, q⟩
end Go.Proofs.Ytplgffbfepnihaa
namespace Go.Proofs.Ytplgffbfepnihaa.Pure
open Go.RowKit Go.Proofs.Ytplgffbfepnihaa.Hi Go.Proofs.YtplgffbfepnihaaW.PrintWords Go.Proofs.YtplgffbfepnihaaW.PrintLast
def addEach (l : List Int) : List Int := l.foldl (fun s v => hadd s (bucketN v.toNat) 1) (hzero 7424)
theorem addEach_snoc (l : List Int) (x : Int) : addEach (l ++ [x]) = hadd (addEach l) (bucketN x.toNat) 1 := by simp [addEach, List.foldl_append]
def upTo (l : List Int) (r : Nat) : Nat := l.countP (fun x => decide (bucketN x.toNat < r))
theorem snoc_ind {P : List Int → Prop} (h0 : P []) (h1 : ∀ l x, P l → P (l ++ [x])) (l : List Int) : P l := by
 have : ∀ r : List Int, P r.reverse := by
  intro r
  induction r with
  | nil => exact h0
  | cons x r ih => rw [List.reverse_cons]; exact h1 _ x ih
 have := this l.reverse
 rwa [List.reverse_reverse] at this
theorem addEach_spec (l : List Int) (hl : ∀ x ∈ l, 0 ≤ x ∧ x < 18446744073709551616) (hn : l.length ≤ 1000) :
  hgood (addEach l) = true ∧ psum (addEach l) = l.length ∧ ∀ r, r ≤ 7424 → psum ((addEach l).take r) = upTo l r := by
 revert hl hn
 refine snoc_ind (P := fun l => (∀ x ∈ l, 0 ≤ x ∧ x < 18446744073709551616) → l.length ≤ 1000 → hgood (addEach l) = true ∧ psum (addEach l) = l.length ∧ ∀ r, r ≤ 7424 → psum ((addEach l).take r) = upTo l r) ?_ ?_ l
 ·intro _ _; refine ⟨hzero_good, psum_hzero 7424, fun r hr => ?_⟩; show psum ((hzero 7424).take r) = 0; unfold hzero; rw [List.take_replicate]; exact psum_hzero _
 ·intro l x ih hl hn
  rw [List.length_append, List.length_singleton] at hn; obtain ⟨h1, h2, h3⟩ := ih (fun y hy => hl y (by simp [hy])) zk6; have hx := hl x zk56; have hb := bucketN_lt x.toNat zk6; have gg := (hgood_iff _).mp h1; have hge := psum_ge _ gg.2 (bucketN x.toNat) zk6; have hg0 := getD_range gg.2 (bucketN x.toNat); rw [addEach_snoc]
  have hh : hold ((addEach l).getD (bucketN x.toNat) 0 + 1) = (addEach l).getD (bucketN x.toNat) 0 + 1 := by
   unfold hold; rw [if_pos zk6]
  refine ⟨hadd_good h1 _ _ zk6, ?_, fun r hr => ?_⟩
  ·unfold hadd; rw [hh, psum_set _ _ _ zk6, h2, List.length_append, List.length_singleton]; omega
  ·have h4 := h3 r hr
   unfold hadd upTo; rw [hh, List.take_set, List.countP_append]; by_cases c : bucketN x.toNat < r
   ·rw [psum_set _ _ _ zk161, h4, take_getD _ _ _ c]; simp only [List.countP_singleton, decide_eq_true c, if_true]; unfold upTo; omega
   ·rw [List.set_eq_of_length_le zk161, h4]; simp only [List.countP_singleton, decide_eq_false c, upTo]; simp
end Go.Proofs.Ytplgffbfepnihaa.Pure
namespace Go.Proofs.Ytplgffbfepnihaa
open Go.RowKit Go.Maps Go.Proofs.YtplgffbfepnihaaW.PrintWords Go.Proofs.YtplgffbfepnihaaW.PrintLast Go.Proofs.YtplgffbfepnihaaW.PrintMore Go.Proofs.Ytplgffbfepnihaa.Pure Go.Proofs.Ytplgffbfepnihaa.Q Go.Proofs.Ytplgffbfepnihaa.Hi Go.Proofs.Ytplgffbfepnihaa.Ga
def fnvV (s : ByteArray) : Int := (fnv_Of.f (s.size + 1) s).getD 0
theorem fnv_roundp (s : ByteArray) (hs : s.size ≤ maxLen) : ∀ (n i : Nat) (x : Int), s.size - i = n → i ≤ s.size → 0 ≤ x ∧ x < 18446744073709551616 →
  ∃ r, fnv_More.l0 (n + 1) x s (s.size : Int) (i : Int) = some r ∧ 0 ≤ r ∧ r < 18446744073709551616 := by
 have hM : maxLen = 9223372036854775807 := rfl; intro n
 induction n with
 | zero => intro i x h1 h2 hx; exact ⟨x, by rw [fnv_More.l0, if_neg zk6], hx⟩
 | succ n ih =>
  intro i x h1 h2 hx; obtain ⟨b, hb⟩ : ∃ b, Go.bits .xor .u64 x (IntKind.u64.wrap (bt s (i : Int))) = b := ⟨_, rfl⟩
  have hw : wrap64 ((i : Int) + 1) = ((i + 1 : Nat) : Int) := zk154
  obtain ⟨r, e1, hr⟩ := ih (i + 1) (IntKind.u64.wrap (b * 1099511628211)) zk6 zk6 zk144; exact ⟨r, by rw [fnv_More.l0, if_pos zk6, if_pos zk6, if_pos zk6, hb, hw]; exact e1, hr⟩
theorem fnv_valp (s : ByteArray) (hs : s.size ≤ maxLen) : fnv_Of.f (s.size + 1) s = some (fnvV s) ∧ 0 ≤ fnvV s ∧ fnvV s < 18446744073709551616 := by
 obtain ⟨r, e1, hr⟩ := fnv_roundp s hs s.size 0 14695981039346656037 zk6 zk6 zk6
 have f1 : fnv_Of.f (s.size + 1) s = some r := by
  unfold fnv_Of.f fnv_More.f; rw [show (0 : Int) = ((0 : Nat) : Int) from rfl, e1]; rfl
 have e : fnvV s = r := by unfold fnvV; rw [f1]; rfl
 rw [e]; exact ⟨f1, hr⟩
def OW (l : List S81) : Prop := ∀ o ∈ l, U o.f0 ∧ o.f1.size ≤ maxLen ∧ U o.f2
def ofH (l : List S81) : List Int := addEach (l.map (fun o : S81 => o.f0))
def ofK (l : List S81) : List Int := kmany [] (l.map (fun o => fnvV o.f1))
def ofG (l : List S81) : G4 := (l.map (fun o : S81 => o.f2)).foldl gadd gzero
theorem ofH_snoc (l : List S81) (o : S81) : ofH (l ++ [o]) = hadd (ofH l) (bucketN o.f0.toNat) 1 := by
 unfold ofH; rw [List.map_append]; exact addEach_snoc _ _
theorem ofK_snoc (l : List S81) (o : S81) : ofK (l ++ [o]) = khash (ofK l) (fnvV o.f1) := by
 unfold ofK; rw [List.map_append]; exact kmany_snoc _ _ _
theorem ofG_snoc (l : List S81) (o : S81) : ofG (l ++ [o]) = gadd (ofG l) o.f2 := by
 unfold ofG; simp [List.foldl_append]
theorem ofH_good {l : List S81} (h : OW l) (hl : l.length ≤ 1000) : hgood (ofH l) = true :=
 (addEach_spec (l.map (fun o : S81 => o.f0)) (fun x hx => by obtain ⟨o, ho, rfl⟩ := List.mem_map.1 hx; exact (h o ho).1) (by simpa using hl)).1
theorem foldl_wf (l : List Int) (hl : ∀ x ∈ l, U x) : ∀ g : G4, g.wf → (l.foldl gadd g).wf := by
 induction l with
 | nil => intro g h; exact h
 | cons x l ih => intro g h; exact ih (fun y hy => hl y (by simp [hy])) _ (gadd_wf h (hl x zk56))
theorem gzero_wf : gzero.wf := ⟨⟨by decide, by decide⟩, ⟨by decide, by decide⟩, ⟨by decide, by decide⟩, ⟨by decide, by decide⟩⟩
theorem ofG_wf {l : List S81} (h : OW l) : (ofG l).wf :=
 foldl_wf _ (fun x hx => by obtain ⟨o, ho, rfl⟩ := List.mem_map.1 hx; exact (h o ho).2.2) _ gzero_wf
theorem rd121 {l : List S81} {i : Nat} (h : i < l.length) : rd_T81 l (i : Int) = l[i] := by
 simp [rd_T81, List.getD, List.getElem?_eq_getElem h]
theorem PS.put4 {w0 W : World} {r g k b x : Nat} {s S : List Int} {G : G4} (h : PS w0 W r g k b x s S G) (G' : G4) :
  PS w0 ((((W.setCell ⟨x, 0, none⟩ (.int .u64 G'.n)).setCell ⟨x, 1, none⟩ (.int .u64 G'.nans)).setCell ⟨x, 2, none⟩ (.int .u64 G'.lo)).setCell ⟨x, 3, none⟩ (.int .u64 G'.hi)) r g k b x s S G' := by
 have hx : w0.heap.size ≤ x := by have := h.ord; omega
 refine h.to (below_set (below_set (below_set (below_set h.bel hx) hx) hx) hx) (fun i _ hne => ?_) ?_
 ·rw [Below.heap_setCell _ _ _ i hne, Below.heap_setCell _ _ _ i hne, Below.heap_setCell _ _ _ i hne, Below.heap_setCell _ _ _ i hne]
 ·exact blk_set (blk_set (blk_set (blk_set h.gb 0 _) 1 _) 2 _) 3 _
theorem alloc_old (w : World) (o : Obj) (k : Nat) (h : k < w.heap.size) : (w.alloc o).heap[k]? = w.heap[k]? := (below_alloc (Below.refl w.heap.size w) o).block k h
theorem new_at (W : World) (n : Nat) (hn : W.heap.size = n) : Calls Try.prog 44 #[] W fun e w' => e = .returned (.pointer (some ⟨n, 0, none⟩)) ∧ w'.heap[n]? = some (.cells (hcells (hzero 7424)) 104 (0, 0)) ∧ Below n W w' := by
 subst hn; exact (new_any W).mono fun _ _ ⟨he, hh, hb⟩ => ⟨he, hh, hb⟩
theorem PS.start (w w1 w2 : World) {k b : Nat} (h1 : w1.heap[w.heap.size + 1]? = some (.cells (hcells (hzero 7424)) 104 (0, 0))) (b1 : Below (w.heap.size + 1) (w.alloc (.cells szero 45)) w1)
  (hk : KM w2 k b []) (l1 : w1.heap.size ≤ k) (l2 : w1.heap.size ≤ b) (b2 : Below w1.heap.size w1 w2) :
  PS w (w2.alloc (.cells (gcells gzero) 43)) w.heap.size (w.heap.size + 1) k b w2.heap.size (hzero 7424) [] gzero := by
 have s0 : (w.alloc (.cells szero 45)).heap.size = w.heap.size + 1 := zk56
 have B0 : Below w.heap.size w (w.alloc (.cells szero 45)) := below_alloc (Below.refl _ _) _; have B1 := B0.trans (b1.mono (Nat.le_succ _)); have B2 := B1.trans (b2.mono B1.size); have B3 : Below w.heap.size w (w2.alloc (.cells (gcells gzero) 43)) := below_alloc B2 _; have g1 := blk_lt h1; have km := hk.lt; have r0 : (w.alloc (.cells szero 45)).heap[w.heap.size]? = some (.cells szero 45 (0, 0)) := blk_new _ _; have r1 := (b1.block w.heap.size (Nat.lt_succ_self _)).trans r0; have r2 := (b2.block w.heap.size zk6).trans r1; have g2 := (b2.block _ g1).trans h1; have hk3 : KM (w2.alloc (.cells (gcells gzero) 43)) k b [] := hk.block (alloc_old _ _ _ km.1) (alloc_old _ _ _ km.2); refine ⟨⟨fun p hp => ?_, zk56, B3⟩, ⟨fun p hp => ?_, fun i j p q hij hp hq => ?_, B3⟩, blk_new _ _, blk_alloc r2 _, zk6⟩
 ·rw [List.mem_singleton] at hp; subst hp; exact ⟨blk_alloc g2 _, zk6⟩
 ·rw [List.mem_singleton] at hp; subst hp; exact ⟨hk3, by have := B1.size; simp only; omega, by have := B1.size; simp only; omega⟩
 ·exfalso; have a1 := (List.getElem?_eq_some_iff.1 hp).1; have a2 := (List.getElem?_eq_some_iff.1 hq).1; simp at a1 a2; omega
set_option maxHeartbeats 4000000 in
set_option maxRecDepth 100000 in
theorem of_any (A0 : Option Addr) (c0 : Nat) (l : List S81) (w : World) (C0 : Kd.C k81 w A0 l.length l) (hO : OW l) (hl : l.length ≤ 1000) :
  Calls Try.prog 19 #[.slice A0 l.length c0] w fun e w' => ∃ A c A' c', e = .returned (.agg #[.slice A (bks (ofH l)).length c, .slice A' (ofK l).length c', .int .u64 (ofG l).n, .int .u64 (ofG l).nans, .int .u64 (ofG l).lo, .int .u64 (ofG l).hi]) ∧ (bks (ofH l)).length ≤ c ∧ (ofK l).length ≤ c' ∧
   Kd.R k70 70 w' w.heap.size (fun _ => True) (.slice A (bks (ofH l)).length c) (bks (ofH l)) ∧ Kd.R (Kd.int .u64) 41 w' w.heap.size (fun _ => True) (.slice A' (ofK l).length c') (ofK l) ∧ Below w.heap.size w w' := by
 have HC0 := Lib.hid C0; have HO := Lib.hid hO; clear C0 hO; go_enter Try.func19, Try.ntmps19
 go_wp2_with (first
  | (go_at_call 44; refine (new_at _ (w.heap.size + 1) zk56).mono ?_; rintro e w1 ⟨rfl, hh, hb1⟩)
  | (go_at_call 52; refine (new_u _).mono ?_; rintro e w2 ⟨k, b, rfl, hk, l1, l2, hb2⟩))
 have hS := PS.start w w1 w2 hh hb1 hk l1 l2 hb2; obtain ⟨g, hg⟩ : ∃ g, w.heap.size + 1 = g := ⟨_, rfl⟩
 obtain ⟨x, hx⟩ : ∃ x, w2.heap.size = x := ⟨_, rfl⟩
 rw [hg, hx] at hS; rw [hg, hx]; clear hh hb1 hk l1 l2 hb2 hg hx; go_loopw [13] (fun v13 wr => ∃ i : Nat, v13 = .int .i64 i ∧ i ≤ l.length ∧ PS w wr w.heap.size g k b x (ofH (l.take i)) (ofK (l.take i)) (ofG (l.take i))) (fun vi _ => l.length - (intOf vi).toNat)
 case atStart => exact ⟨0, rfl, Nat.zero_le _, hS⟩
 case round =>
  clear hS; obtain ⟨i, rfl, hi, hP⟩ := hrel; have HP := Lib.hid hP; by_cases hil : i < l.length
  ·have e1 : decide ((i : Int) < (l.length : Int)) = true := decide_eq_true zk6
   have e1b : decide (i < l.length) = true := decide_eq_true hil; obtain ⟨ax, hax, q0, q1, q2⟩ := at_T81 HC0.out (i : Int) zk6 zk6; rw [Int.toNat_natCast, rd121 hil] at q0 q1 q2; obtain ⟨o, ho⟩ : ∃ o, l[i] = o := ⟨_, rfl⟩
   rw [ho] at q0 q1 q2; have et : l.take (i + 1) = l.take i ++ [o] := by rw [← ho, List.take_succ_eq_append_getElem hil]
   have eH := ofH_snoc (l.take i) o; have eK := ofK_snoc (l.take i) o; have eG := ofG_snoc (l.take i) o; rw [← et] at eH eK eG; have hoU := HO.out o (by rw [← ho]; exact List.getElem_mem _); have hgood_ := ofH_good (l := l.take i) (fun y hy => HO.out y (List.mem_of_mem_take hy)) zk161; have hwf := ofG_wf (l := l.take i) (fun y hy => HO.out y (List.mem_of_mem_take hy)); have HU := Lib.hid hoU; have HI := Lib.hid hil; have HEH := Lib.hid eH; have HEK := Lib.hid eK; have HEG := Lib.hid eG; have HGD := Lib.hid hgood_; have HWF := Lib.hid hwf; have p0 := (hP.bel.cell (World.block_lt_of_cell? w _ q0)).trans q0; have p1 := (hP.bel.cell (World.block_lt_of_cell? w _ q1)).trans q1; have p2 := (hP.bel.cell (World.block_lt_of_cell? w _ q2)).trans q2; obtain ⟨s, hs⟩ : ∃ s, ofH (l.take i) = s := ⟨_, rfl⟩
   obtain ⟨S, hS⟩ : ∃ S, ofK (l.take i) = S := ⟨_, rfl⟩
   obtain ⟨G, hG⟩ : ∃ G, ofG (l.take i) = G := ⟨_, rfl⟩
   rw [hs] at HP HEH HGD; rw [hS] at HP HEK; rw [hG] at HP HEG HWF; have FV := Lib.hid (fnv_valp o.f1 HU.out.2.1); obtain ⟨v, hv⟩ : ∃ v, fnvV o.f1 = v := ⟨_, rfl⟩
   rw [hv] at FV HEK; obtain ⟨os, ns, f2⟩ := o; obtain ⟨G1, hG1⟩ : ∃ G1, gadd G f2 = G1 := ⟨_, rfl⟩
   rw [hG1] at HEG; have GA := fun W => gauge_Add.calls G.n G.nans G.lo G.hi f2 G1.n G1.nans G1.lo G1.hi W (by rw [← hG1]; exact gadd_eq HWF.out HU.out.2.2); have hlx := HP.out.lt.1; have hox := HP.out.ord; have hP1 := HP.out.below (below_alloc (Below.refl wr.heap.size wr) (.cells #[.int .u64 os, .string ns, .int .u64 f2] 81)); have hb1 := blk_new wr (.cells #[.int .u64 os, .string ns, .int .u64 f2] 81); have hz1 : (wr.alloc (.cells #[.int .u64 os, .string ns, .int .u64 f2] 81)).heap.size = wr.heap.size + 1 := zk56
   have HP1 := Lib.hid hP1; have HB1 := Lib.hid hb1; have HZ1 := Lib.hid hz1; have CA := hP1.hadd HGD.out HU.out.1 (n := 1) ⟨zk47, zk47⟩; subst hax; clear hs hS hG hv hG1 hP1 hb1 hz1
   go_wp2_with (first
    | (go_at_call 45; refine CA.mono ?_; rintro e w3 ⟨rfl, hP3, hs3, hq3⟩; have hb3 := (hq3 wr.heap.size (by rw [HZ1.out]; omega) zk6).trans HB1.out; have c3 := blk_cell hb3 1; have HP3 := Lib.hid hP3; have HB3 := Lib.hid hb3; have hz3 : wr.heap.size < w3.heap.size := blk_lt hb3; clear hP3 hs3 hq3 hb3 CA)
    | (go_at_call 53; refine (HP3.out.kadd FV.out.1 FV.out.2).mono ?_; rintro e w4 ⟨rfl, hP4, hs4, hq4⟩; have hb4 := (hq4 wr.heap.size hz3 zk6 zk6).trans HB3.out; have c4 := blk_cell hb4 2; have hg4 := hP4.gb; have d0 : w4.cell? ⟨x, 0, none⟩ = some (.int .u64 G.n) := blk_cell hg4 0; have d1 : w4.cell? ⟨x, 1, none⟩ = some (.int .u64 G.nans) := blk_cell hg4 1; have d2 : w4.cell? ⟨x, 2, none⟩ = some (.int .u64 G.lo) := blk_cell hg4 2; have d3 : w4.cell? ⟨x, 3, none⟩ = some (.int .u64 G.hi) := blk_cell hg4 3; have HP4 := Lib.hid hP4; have hz4 := hP4.lt.1; clear hP4 hs4 hq4 hb4 hg4 c3 HP3 HB3 hz3)
    | (go_at_call 54; refine (GA _).mono ?_; rintro e w5 ⟨rfl, hb5⟩; have hP5 := HP4.out.below hb5; clear GA hb5 c4 d0 d1 d2 d3 HP4; have hg5 := hP5.gb; have d0 : w5.cell? ⟨x, 0, none⟩ = some (.int .u64 G.n) := blk_cell hg5 0; have d1 : w5.cell? ⟨x, 1, none⟩ = some (.int .u64 G.nans) := blk_cell hg5 1; have d2 : w5.cell? ⟨x, 2, none⟩ = some (.int .u64 G.lo) := blk_cell hg5 2; have d3 : w5.cell? ⟨x, 3, none⟩ = some (.int .u64 G.hi) := blk_cell hg5 3; have f0 := blk_frozen hg5 0; have f1 := blk_frozen hg5 1; have f2' := blk_frozen hg5 2; have f3 := blk_frozen hg5 3; have HP5 := Lib.hid hP5; have HG5 := Lib.hid hg5; clear hP5 hg5))
   go_roundw
   case rel => exact ⟨i + 1, zk176, zk97, by rw [HEH.out, HEK.out, HEG.out]; exact HP5.out.put4 G1⟩
   case measure => have := HI.out; simp [intOf]; omega
  ·have e1 : decide ((i : Int) < (l.length : Int)) = false := decide_eq_false zk6
   have e1b : decide (i < l.length) = false := decide_eq_false hil; obtain rfl : i = l.length := zk6
   rw [List.take_length] at hP; have hgood_ := ofH_good HO.out hl; obtain ⟨s, hs⟩ : ∃ s, ofH l = s := ⟨_, rfl⟩
   obtain ⟨S, hS⟩ : ∃ S, ofK l = S := ⟨_, rfl⟩
   obtain ⟨G, hG⟩ : ∃ G, ofG l = G := ⟨_, rfl⟩
   rw [hs, hS, hG] at hP; rw [hs] at hgood_; have HE := Lib.hid (And.intro hs (And.intro hS hG)); have HP := Lib.hid hP; have HGD := Lib.hid hgood_; clear hs hS hG hP hgood_ hil; go_wp2; have hPa := HP.out.below (below_drew (Below.refl wr.heap.size wr)); have hga := hPa.gb; have d0 : wr.drew.cell? ⟨x, 0, none⟩ = some (.int .u64 G.n) := blk_cell hga 0; have d1 : wr.drew.cell? ⟨x, 1, none⟩ = some (.int .u64 G.nans) := blk_cell hga 1; have d2 : wr.drew.cell? ⟨x, 2, none⟩ = some (.int .u64 G.lo) := blk_cell hga 2; have d3 : wr.drew.cell? ⟨x, 3, none⟩ = some (.int .u64 G.hi) := blk_cell hga 3; have HPA := Lib.hid hPa; have hne : ¬ w.heap.size = x := by have := hPa.ord; omega
   have CB := HPA.out.hs.bks 0 rfl HGD.out; clear hPa hga; refine wp_region_noPanic ?_; refine start_ (n := 7) (S := fun w' => w'.cell? ⟨x, 0, none⟩ = some (.int .u64 G.n) ∧ w'.cell? ⟨x, 1, none⟩ = some (.int .u64 G.nans) ∧ w'.cell? ⟨x, 2, none⟩ = some (.int .u64 G.lo) ∧ w'.cell? ⟨x, 3, none⟩ = some (.int .u64 G.hi)) (ds := [6]) #[false, false, false, false, false, false, false] zk11 rfl rfl ⟨d0, d1, d2, d3⟩ (fun hHeld => ?_); clear d0 d1 d2 d3; refine pure_ (i := 0) (N := some 30) (v := ?_) (a' := ?_) #[true, false, false, false, false, false, false] rfl rfl zk11 (fun _ _ _ h => h) (Or.inl ⟨zk50, ?_⟩) ?_ ?_; rotate_left
   ·exact zk207
   rotate_left
   ·exact zk206
   refine pure_ (i := 2) (N := some 32) (v := ?_) (a' := ?_) #[true, false, true, false, false, false, false] rfl rfl zk11 (fun _ _ _ h => h) (Or.inl ⟨zk50, ?_⟩) ?_ ?_; rotate_left
   ·exact zk207
   rotate_left
   ·exact zk206
   refine take_ (i := 4) (N := some 34) (v := ?_) (a' := ?_) #[true, false, true, false, true, false, false] rfl rfl zk11 (fun _ _ _ h => h) (Or.inl ⟨zk50, ?_⟩) hHeld ?_ ?_; rotate_left
   ·exact zk216
   rotate_left
   ·exact zk206
   refine one_ (i := 1) (N := some 31) #[true, true, true, false, true, false, false] rfl rfl zk11 zk47 (fun K hK => ?_); refine goes_ Try.func55 zk11 rfl #[.pointer (some ⟨g, 0, none⟩)] zk50 rfl rfl zk39 ?_; (with_reducible refine CB.mono ?_); rintro e w6 ⟨A, c, rfl, hc, hCA, hRA, hH6, hb6⟩; refine ⟨_, rfl, ?_⟩; have hP6 := HPA.out.below hb6; have hg6 := hP6.gb; have d0 : w6.cell? ⟨x, 0, none⟩ = some (.int .u64 G.n) := blk_cell hg6 0; have d1 : w6.cell? ⟨x, 1, none⟩ = some (.int .u64 G.nans) := blk_cell hg6 1; have d2 : w6.cell? ⟨x, 2, none⟩ = some (.int .u64 G.lo) := blk_cell hg6 2; have d3 : w6.cell? ⟨x, 3, none⟩ = some (.int .u64 G.hi) := blk_cell hg6 3; have HP6 := Lib.hid hP6; have HRA := Lib.hid hRA; have HC := Lib.hid hc; have CH := HP6.out.ks.hashes 0 rfl; have HB6 := Lib.hid hb6; clear hP6 hg6 hRA hc hb6 CB hCA hH6; refine hK.out _ _ ⟨d0, d1, d2, d3⟩ (fun hHeld => ?_); clear d0 d1 d2 d3; clear hK K; refine norm_ (a' := ?_) ?_ ?_; rotate_left
   ·exact zk215
   refine one_ (i := 3) (N := some 33) #[true, true, true, true, true, false, false] rfl rfl zk11 zk47 (fun K hK => ?_); refine goes_ Try.func56 zk11 rfl #[.pointer (some ⟨k, 0, none⟩)] zk50 rfl rfl zk39 ?_; (with_reducible refine CH.mono ?_); rintro e w7 ⟨B, c2, rfl, hc2, hCB, hoB, hK7, hb7⟩; refine ⟨_, rfl, ?_⟩; have hP7 := HP6.out.below hb7; have hg7 := hP7.gb; have d0 : w7.cell? ⟨x, 0, none⟩ = some (.int .u64 G.n) := blk_cell hg7 0; have d1 : w7.cell? ⟨x, 1, none⟩ = some (.int .u64 G.nans) := blk_cell hg7 1; have d2 : w7.cell? ⟨x, 2, none⟩ = some (.int .u64 G.lo) := blk_cell hg7 2; have d3 : w7.cell? ⟨x, 3, none⟩ = some (.int .u64 G.hi) := blk_cell hg7 3; have HP7 := Lib.hid hP7; have HOB := Lib.hid hoB; have HC2 := Lib.hid hc2; have HB7 := Lib.hid hb7; clear hP7 hg7 hoB hc2 hb7 CH hCB hK7; refine hK.out _ _ ⟨d0, d1, d2, d3⟩ (fun hHeld => ?_); clear d0 d1 d2 d3; clear hK K; refine norm_ (a' := ?_) ?_ ?_; rotate_left
   ·show Act.put _ (some 33) _ = _; simp only [Act.put, List.setIfInBounds_toArray, List.set_cons_zero, List.set_cons_succ, i64_w, i32_w]; rfl
   refine pure_ (i := 5) (N := some 35) (v := ?_) (a' := ?_) #[true, true, true, true, true, true, false] rfl rfl zk11 (fun _ _ _ h => h) (Or.inl ⟨zk50, ?_⟩) ?_ ?_; rotate_left
   ·exact zk207
   rotate_left
   ·exact zk206
   refine last_ (i := 6) (N := none) #[true, true, true, true, true, true, true] rfl rfl zk11 zk47 (fun K hK => ?_); have hr7 := HP7.out.rb; have r0 : w7.cell? ⟨w.heap.size, 0, none⟩ = some (.slice none 0 0) := blk_cell hr7 0; have r1 : w7.cell? ⟨w.heap.size, 1, none⟩ = some (.slice none 0 0) := blk_cell hr7 1; have r2 : w7.cell? ⟨w.heap.size, 2, none⟩ = some (.int .u64 0) := blk_cell hr7 2; have r3 : w7.cell? ⟨w.heap.size, 3, none⟩ = some (.int .u64 0) := blk_cell hr7 3; have r4 : w7.cell? ⟨w.heap.size, 4, none⟩ = some (.int .u64 0) := blk_cell hr7 4; have r5 : w7.cell? ⟨w.heap.size, 5, none⟩ = some (.int .u64 0) := blk_cell hr7 5; have q0 := blk_frozen hr7 0; have q1 := blk_frozen hr7 1; have q2 := blk_frozen hr7 2; have q3 := blk_frozen hr7 3; have q4 := blk_frozen hr7 4; have q5 := blk_frozen hr7 5; have hu62 := Try.underlying45; have hu60 := Try.underlying43; have HR7 := Lib.hid hr7; clear hr7; refine skip_ (w1 := ?_) zk50 rfl ?_ ?_; rotate_left
   ·go_simp; rfl
   refine hK.out _ _ ?_; clear hK K r0 r1 r2 r3 r4 r5 q0 q1 q2 q3 q4 q5; refine done_ zk11 ?_; refine NoPanic.normal ?_; go_wp2; obtain ⟨hs, hS, hG⟩ := HE.out; rw [hs, hS, hG]; have ho := HP7.out.ord; have hz : w.heap.size < wr.drew.heap.size := HPA.out.lt.2.2.2.2; have hz6 : wr.drew.heap.size ≤ w6.heap.size := HB6.out.size
   have fin : ∀ i, i ≠ w.heap.size → ((((((w7.setCell ⟨w.heap.size, 0, none⟩ (.slice A (bks s).length c)).setCell ⟨w.heap.size, 1, none⟩ (.slice B S.length c2)).setCell ⟨w.heap.size, 2, none⟩ (.int .u64 G.n)).setCell ⟨w.heap.size, 3, none⟩ (.int .u64 G.nans)).setCell ⟨w.heap.size, 4, none⟩ (.int .u64 G.lo)).setCell ⟨w.heap.size, 5, none⟩ (.int .u64 G.hi)).heap[i]? = w7.heap[i]? := fun i hne => by
    rw [Below.heap_setCell _ _ _ i hne, Below.heap_setCell _ _ _ i hne, Below.heap_setCell _ _ _ i hne, Below.heap_setCell _ _ _ i hne, Below.heap_setCell _ _ _ i hne, Below.heap_setCell _ _ _ i hne]
   have RA := Kd.R_step (Kd.R_bound (Kd.R_below HRA.out HB7.out)) (fun q hq _ => fin q (by have := hq.2.1; omega)); have RB0 : Kd.R (Kd.int .u64) 41 w7 w6.heap.size (fun _ => True) (.slice B S.length c2) S := Kd.R_of_own HOB.out (fun _ _ => trivial); have RB := Kd.R_step (Kd.R_bound RB0) (fun q hq _ => fin q (by have := hq.2.1; omega)); refine bodyPost_ret (results_cell_row rfl _ _ w.heap.size 45 #[.slice A (bks s).length c, .slice B S.length c2, .int .u64 G.n, .int .u64 G.nans, .int .u64 G.lo, .int .u64 G.hi] (0, 0) _ rfl (blk_set (blk_set (blk_set (blk_set (blk_set (blk_set HR7.out 0 _) 1 _) 2 _) 3 _) 4 _) 5 _) Try.underlying45 rfl zk11) rfl ⟨A, c, B, c2, rfl, HC.out, HC2.out, ?_, ?_, ?_⟩
   ·exact Kd.R_lower (Kd.R_mono RA (fun _ _ => trivial)) zk6
   ·exact Kd.R_lower (Kd.R_mono RB (fun _ _ => trivial)) zk6
   ·have hx := Nat.le_refl w.heap.size; exact below_set (below_set (below_set (below_set (below_set (below_set HP7.out.bel hx) hx) hx) hx) hx) hx
end Go.Proofs.Ytplgffbfepnihaa
namespace Go.Proofs.Ytplgffbfepnihaa
open Go.RowKit Go.Maps Go.Proofs.YtplgffbfepnihaaW.PrintWords Go.Proofs.YtplgffbfepnihaaW.PrintLast Go.Proofs.YtplgffbfepnihaaW.PrintMore Go.Proofs.Ytplgffbfepnihaa.Pure Go.Proofs.Ytplgffbfepnihaa.Q Go.Proofs.Ytplgffbfepnihaa.Hi Go.Proofs.Ytplgffbfepnihaa.Ga
structure SV where
 h : List S70
 k : List Int
 g : G4
def SV.ok (v : SV) : Bool := okS v.h v.k v.g
def SV.wf (v : SV) : Prop := Pure.WB v.h ∧ Pure.WU v.k ∧ v.g.wf
theorem skV {w : World} {A : Option Addr} {c : Nat} {B : Option Addr} {d : Nat} {y : SV} (C0 : Kd.C k70 w A y.h.length y.h) (m0 : y.h.length ≤ c) (D0 : Kd.C (Kd.int .u64) w B y.k.length y.k) (n0 : y.k.length ≤ d) (w0 : y.wf) : SK w A c y.h B d y.k :=
 ⟨C0, m0, D0, n0, WB.len w0.1, by have := w0.2.1.1; omega⟩
def zV : SV := ⟨[], [], gzero⟩
def kV : Kd SV := Kd.iso kS (fun v : SV => (v.h, v.k, v.g.n, v.g.nans, v.g.lo, v.g.hi))
theorem kV_open {W : World} {v : SV} {cs : List Value} (h : kV.K W v cs) :
  ∃ A c B d, cs = [.slice A v.h.length c, .slice B v.k.length d, .int .u64 v.g.n, .int .u64 v.g.nans, .int .u64 v.g.lo, .int .u64 v.g.hi] ∧ v.h.length ≤ c ∧ v.k.length ≤ d ∧ Kd.C k70 W A v.h.length v.h ∧ Kd.C (Kd.int .u64) W B v.k.length v.k :=
 kS_open (y := (v.h, v.k, v.g.n, v.g.nans, v.g.lo, v.g.hi)) h
theorem opensV : Opens Try.prog 45 kV SV.wf :=
 Opens.imp (opens_iso (fun v : SV => (v.h, v.k, v.g.n, v.g.nans, v.g.lo, v.g.hi)) (fun x => (⟨x.1, x.2.1, ⟨x.2.2.1, x.2.2.2.1, x.2.2.2.2.1, x.2.2.2.2.2⟩⟩ : SV)) (fun _ => rfl) opensS) (fun v h => ⟨h.1, h.2.1, U.of_wf h.2.2.1, U.of_wf h.2.2.2.1, U.of_wf h.2.2.2.2.1, U.of_wf h.2.2.2.2.2⟩)
theorem SV.ok_iff (v : SV) : v.ok = true ↔ chk v.h = true ∧ KOk v.k ∧ gchk v.g = true := by
 unfold SV.ok okS; rw [Bool.and_eq_true, Bool.and_eq_true, decide_eq_true_eq, and_assoc]
end Go.Proofs.Ytplgffbfepnihaa
namespace Go.Proofs.Ytplgffbfepnihaa.Pure
open Go.RowKit Go.Proofs.YtplgffbfepnihaaW.PrintWords Go.Proofs.YtplgffbfepnihaaW.PrintLast Go.Proofs.YtplgffbfepnihaaW.PrintMore Go.Proofs.Ytplgffbfepnihaa.Hi Go.Proofs.Ytplgffbfepnihaa.Vt Go.Proofs.Ytplgffbfepnihaa.Hb Go.Proofs.Ytplgffbfepnihaa.Ga Go.Proofs.Ytplgffbfepnihaa.Bp
theorem eight_l0 (v : Nat) : ∀ (d i k : Nat), i + d = 8 → d < k → varveref09_eight.l0 k (v : Int) (leTo v i) (i : Int) = some (leTo v 8)
 | 0, i, k, h, hk => by
  obtain ⟨k, rfl⟩ : ∃ m, k = m + 1 := ⟨k - 1, zk6⟩
  obtain rfl : i = 8 := zk6
  rw [varveref09_eight.l0, if_neg zk6]
 | d + 1, i, k, h, hk => by
  obtain ⟨k, rfl⟩ : ∃ m, k = m + 1 := ⟨k - 1, zk6⟩
  have e1 : IntKind.u64.wrap (wrap64 (8 * (i : Int))) = ((8 * i : Nat) : Int) := by
   rw [show wrap64 (8 * (i : Int)) = ((8 * i : Nat) : Int) by unfold wrap64; omega]; exact wrapU_in zk6 zk6
  have e2 : ((v / 2 ^ (8 * i) : Nat) : Int) % 256 = ((v / 2 ^ (8 * i) % 256 : Nat) : Int) := zk6
  rw [varveref09_eight.l0, if_pos zk6, e1, if_pos zk6, if_pos (by rw [leTo_len]; omega), shr_nat v (8 * i) zk6, e2, w64 (n := (i : Int) + 1) zk6 zk6, ← leTo_succ, show (i : Int) + 1 = ((i + 1 : Nat) : Int) by omega]; exact eight_l0 v d (i + 1) k zk6 zk6
theorem eight_eq (v : Nat) (k : Nat) (hk : 9 ≤ k) : varveref09_eight.f k (v : Int) = some (leTo v 8) := by
 unfold varveref09_eight.f; have := eight_l0 v 8 0 k rfl zk6; rw [show leTo v 0 = [] from rfl, show ((0 : Nat) : Int) = 0 from rfl] at this; exact this
theorem gB_bytes {g : G4} (hw : g.wf) : gBytes g.n.toNat g.nans.toNat g.lo.toNat g.hi.toNat = gB g := by
 have k1 : 0 ≤ g.n ∧ g.n < 18446744073709551616 := hw.1; unfold gBytes gB; by_cases c : g.n = 0
 ·rw [if_pos c, if_pos zk6]
 ·rw [if_neg c, if_neg zk6]
theorem rput09_eq {g : G4} (hw : g.wf) (k : Nat) (hk : 9 ≤ k) : varveref09_Put.f k g.n g.nans g.lo g.hi = some (gB g) := by
 obtain ⟨h1, h2, h3, h4⟩ := hw; have k1 : 0 ≤ g.n ∧ g.n < 18446744073709551616 := h1; have k2 : 0 ≤ g.nans ∧ g.nans < 18446744073709551616 := h2; have k3 : 0 ≤ g.lo ∧ g.lo < 18446744073709551616 := h3; have k4 : 0 ≤ g.hi ∧ g.hi < 18446744073709551616 := h4; have a := encN_len g.nans.toNat zk6; have b := encN_len g.n.toNat zk6; have e1 := eight_eq g.lo.toNat k hk; have e2 := eight_eq g.hi.toNat k hk; rw [Int.toNat_of_nonneg k3.1] at e1; rw [Int.toNat_of_nonneg k4.1] at e2; unfold varveref09_Put.f gB; rw [rput_one _ k2, Option.bind_some, rput_one _ k1, Option.bind_some, if_pos zk6, Option.bind_some]; by_cases c : g.n = 0
 ·rw [if_neg zk6, if_pos c, List.append_nil]
 ·rw [if_pos zk6, e1, Option.bind_some, if_pos (by simp only [List.length_append, leTo_len]; omega), Option.bind_some, e2, Option.bind_some, if_pos (by simp only [List.length_append, leTo_len]; omega), if_neg c]; simp
theorem fixed_l0 {b : List Int} (hb : WBy b) (p : Nat) (hp : p + 8 ≤ b.length) : ∀ (d i k : Nat), i + d = 8 → d < k → varveref09_fixed.l0 k (fx b p i : Int) (i : Int) b (p : Int) false = some ((fx b p 8 : Int), ((p + 8 : Nat) : Int), false)
 | 0, i, k, h, hk => by
  obtain ⟨k, rfl⟩ : ∃ m, k = m + 1 := ⟨k - 1, zk6⟩
  obtain rfl : i = 8 := zk6
  have := hb.1; rw [varveref09_fixed.l0, if_neg zk6, w64 (n := (p : Int) + 8) zk6 zk6]; rfl
 | d + 1, i, k, h, hk => by
  obtain ⟨k, rfl⟩ : ∃ m, k = m + 1 := ⟨k - 1, zk6⟩
  have hbl := hb.1
  have e1 : IntKind.u64.wrap (wrap64 (8 * (i : Int))) = ((8 * i : Nat) : Int) := by
   rw [show wrap64 (8 * (i : Int)) = ((8 * i : Nat) : Int) by unfold wrap64; omega]; exact wrapU_in zk6 zk6
  have e2 : wrap64 ((p : Int) + (i : Int)) = ((p + i : Nat) : Int) := zk154
  obtain ⟨z, hz, hz2⟩ := rd_byte hb (show p + i < b.length by omega); have hl := fx_lt hb p (i + 1); have hp8 : 2 ^ (8 * (i + 1)) ≤ 18446744073709551616 := Nat.le_trans (Nat.pow_le_pow_right zk47 (show 8 * (i + 1) ≤ 64 by omega)) zk47; have hf : fx b p (i + 1) = fx b p i + z * 2 ^ (8 * i) := by rw [fx, hz, Int.toNat_natCast]
  rw [varveref09_fixed.l0, if_pos zk6, e1, e2, if_pos zk6, if_pos zk6, if_pos zk6, hz, wrapU_in (x := (z : Int)) zk6 zk6, shl8 z i zk6 hz2, show ((fx b p i : Nat) : Int) + ((z * 2 ^ (8 * i) : Nat) : Int) = ((fx b p (i + 1) : Nat) : Int) by rw [hf]; omega, wrapU_in zk6 zk6, w64 (n := (i : Int) + 1) zk6 zk6, show (i : Int) + 1 = ((i + 1 : Nat) : Int) by omega]; exact fixed_l0 hb p hp d (i + 1) k zk6 zk6
theorem fixed_eq {b : List Int} (hb : WBy b) (p : Nat) (hp : p ≤ b.length) (k : Nat) (hk : 12 ≤ k) : varveref09_fixed.f k b (p : Int) false = if b.length - p < 8 then some (0, (p : Int), true) else some ((fx b p 8 : Int), ((p + 8 : Nat) : Int), false) := by
 have hbl := hb.1; obtain ⟨k, rfl⟩ : ∃ m, k = m + 1 := ⟨k - 1, zk6⟩
 unfold varveref09_fixed.f; rw [if_neg zk56, w64 (n := (b.length : Int) - (p : Int)) zk6 zk6, varveref09_fixed.j0]; by_cases c : b.length - p < 8
 ·rw [if_pos c, if_pos (decide_eq_true zk6)]
 ·rw [if_neg c, if_neg zk198]; have := fixed_l0 hb p zk6 8 0 k rfl zk6; rw [show fx b p 0 = 0 from rfl, show ((0 : Nat) : Int) = 0 from rfl] at this; exact this
theorem fixed_bad (b : List Int) (a : Int) (k : Nat) (hk : 1 ≤ k) : varveref09_fixed.f k b a true = some (0, a, true) := by
 obtain ⟨k, rfl⟩ : ∃ m, k = m + 1 := ⟨k - 1, zk6⟩
 unfold varveref09_fixed.f; rw [if_pos rfl, varveref09_fixed.j0, if_pos rfl]
theorem j0_bad (b : List Int) (a : Int) (k : Nat) (n nans lo hi : Int) : varveref09_Get.j0 (k + 1) false b a true n nans lo hi = some (0, 0, 0, 0, a, true) := by
 rw [varveref09_Get.j0]; simp only [↓reduceIte, Bool.false_eq_true]
theorem rget09_bad (b : List Int) (a : Int) (k : Nat) (hk : 2 ≤ k) : varveref09_Get.f k b a true = some (0, 0, 0, 0, a, true) := by
 obtain ⟨k, rfl⟩ : ∃ m, k = m + 1 := ⟨k - 1, zk6⟩
 unfold varveref09_Get.f; rw [rnum_bad b a (k + 1) hk, Option.bind_some]; simp only; rw [rnum_bad b a (k + 1) hk, Option.bind_some]; simp only [↓reduceIte]; exact j0_bad b a k _ _ _ _
def G9 (F : Option (Int × Int × Int × Int × Int × Bool)) (o : Option (G4 × Nat)) : Prop := (∀ g q, o = some (g, q) → F = some (g.n, g.nans, g.lo, g.hi, (q : Int), false)) ∧ (o = none → ∃ q : Int, F = some (0, 0, 0, 0, q, true))
theorem G9.no {F : Option (Int × Int × Int × Int × Int × Bool)} {o : Option (G4 × Nat)} {q : Int} (ho : o = none) (hF : F = some (0, 0, 0, 0, q, true)) : G9 F o := ⟨fun _ _ h => (by rw [ho] at h; cases h), fun _ => ⟨q, hF⟩⟩
theorem G9.yes {F : Option (Int × Int × Int × Int × Int × Bool)} {o : Option (G4 × Nat)} {g : G4} {q : Nat} (ho : o = some (g, q)) (hF : F = some (g.n, g.nans, g.lo, g.hi, (q : Int), false)) : G9 F o := ⟨fun _ _ h => (by rw [ho] at h; cases h; exact hF), fun h => (by rw [ho] at h; cases h)⟩
theorem rget09_eq {b : List Int} (hb : WBy b) (a : Int) (k : Nat) (hk : 60 ≤ k) : G9 (varveref09_Get.f k b a false) (gaugeAt b a) := by
 obtain ⟨m, rfl⟩ : ∃ m, k = m + 1 := ⟨k - 1, zk6⟩
 obtain ⟨g1, g2⟩ := rnum_eq hb a (m + 1) zk6
 cases h0 : numAt b a with
 | none =>
  obtain ⟨q, e⟩ := g2 h0; refine G9.no (q := q) (by unfold gaugeAt; rw [h0]) ?_; unfold varveref09_Get.f; rw [e, Option.bind_some]; simp only; rw [rnum_bad b q (m + 1) zk6, Option.bind_some]; simp only [↓reduceIte]; exact j0_bad b q m _ _ _ _
 | some x =>
  obtain ⟨nans, p0⟩ := x; have v0 := numAt_at hb h0; obtain ⟨f1, f2⟩ := rnum_eq hb (p0 : Int) (m + 1) zk6; have e0 := g1 nans p0 h0
  cases h1 : numAt b (p0 : Int) with
  | none =>
   obtain ⟨q, e⟩ := f2 h1; refine G9.no (q := q) (by unfold gaugeAt; rw [h0]; simp only; rw [h1]) ?_; unfold varveref09_Get.f; rw [e0, Option.bind_some]; simp only; rw [e, Option.bind_some]; simp only [↓reduceIte]; exact j0_bad b q m _ _ _ _
  | some y =>
   obtain ⟨n, p1⟩ := y; have v1 := numAt_at hb h1; have e1 := f1 n p1 h1
   have hF : varveref09_Get.f (m + 1) b a false = varveref09_Get.j0 (m + 1) (decide ((n : Int) > 0)) b (p1 : Int) false (n : Int) (nans : Int) 0 0 := by
    unfold varveref09_Get.f; rw [e0, Option.bind_some]; simp only; rw [e1, Option.bind_some]; simp only [↓reduceIte, Bool.false_eq_true]
   have hG : gaugeAt b a = if n = 0 then some (⟨0, (nans : Int), 0, 0⟩, p1) else if b.length - p1 < 16 then none else if gchk ⟨(n : Int), (nans : Int), (fx b p1 8 : Int), (fx b (p1 + 8) 8 : Int)⟩ = true then some (⟨(n : Int), (nans : Int), (fx b p1 8 : Int), (fx b (p1 + 8) 8 : Int)⟩, p1 + 16) else none := by
    unfold gaugeAt; rw [h0]; simp only; rw [h1]
   rw [hF, hG]; by_cases c : n = 0
   ·subst c
    have hwf : (⟨0, (nans : Int), 0, 0⟩ : G4).wf := ⟨⟨zk56, zk56⟩, ⟨zk56, zk109⟩, ⟨zk56, zk56⟩, ⟨zk56, zk56⟩⟩
    have ck := refGCheck_eq hwf m zk6; have hz : gchk ⟨0, (nans : Int), 0, 0⟩ = true := by simp [gchk]
    rw [hz] at ck; simp only at ck; refine G9.yes (g := ⟨0, (nans : Int), 0, 0⟩) (q := p1) zk56 ?_; rw [varveref09_Get.j0, show decide (((0 : Nat) : Int) > 0) = false by decide]; simp only [↓reduceIte, Bool.false_eq_true]; rw [show ((0 : Nat) : Int) = 0 from rfl, ck, Option.bind_some]; simp only [↓reduceIte]
   ·rw [show decide ((n : Int) > 0) = true from decide_eq_true zk6, if_neg c, varveref09_Get.j0]
    simp only [↓reduceIte]; rw [fixed_eq hb p1 zk6 m zk6]; by_cases c1 : b.length - p1 < 8
    ·refine G9.no (q := (p1 : Int)) (by rw [if_pos zk6]) ?_; rw [if_pos c1, Option.bind_some]; simp only; rw [fixed_bad b p1 m zk6, Option.bind_some]; simp only [↓reduceIte]
    ·rw [if_neg c1, Option.bind_some]
     simp only; rw [fixed_eq hb (p1 + 8) zk6 m zk6]; by_cases c2 : b.length - (p1 + 8) < 8
     ·refine G9.no (q := ((p1 + 8 : Nat) : Int)) (by rw [if_pos zk6]) ?_; rw [if_pos c2, Option.bind_some]; simp only [↓reduceIte]
     ·have x1 := fx_64 hb p1
      have x2 := fx_64 hb (p1 + 8); have hwf : (⟨(n : Int), (nans : Int), (fx b p1 8 : Int), (fx b (p1 + 8) 8 : Int)⟩ : G4).wf := ⟨⟨zk109, zk109⟩, ⟨zk109, zk109⟩, ⟨zk109, zk109⟩, ⟨zk109, zk109⟩⟩
      have ck := refGCheck_eq hwf m zk6; simp only at ck; rw [if_neg (show ¬ b.length - p1 < 16 by omega), if_neg c2, Option.bind_some]; simp only [↓reduceIte, Bool.false_eq_true]; rw [ck, Option.bind_some]
      cases hg : gchk ⟨(n : Int), (nans : Int), (fx b p1 8 : Int), (fx b (p1 + 8) 8 : Int)⟩ with
      | true =>
       simp only [↓reduceIte]; exact G9.yes rfl rfl
      | false =>
       simp only [↓reduceIte, Bool.false_eq_true]; exact G9.no rfl rfl
def riseB (l : List Int) : List Int := encN l.length ++ encL (diffs l l.length)
def pairB (v : SV) : List Int := formB v.h ++ riseB v.k ++ gB v.g
def pairAt (b : List Int) (a : Int) : Option (SV × Nat) := match getH b a with
 | none => none
 | some (h, p) => match riseAt b (p : Int) 1024 with
  | none => none
  | some (k, p2) => match gaugeAt b (p2 : Int) with
   | none => none
   | some (g, q) => some (⟨h, k, g⟩, q)
theorem leO_up {α : Type} {F : Nat → Option α} (h : ∀ k, LeO (F k) (F (k + 1))) {k1 : Nat} {r : α} (h1 : F k1 = some r) : ∀ d, F (k1 + d) = some r
 | 0 => h1
 | d + 1 => h (k1 + d) r (leO_up h h1 d)
theorem riseB_len {l : List Int} (h : l.length ≤ 1024) : (riseB l).length ≤ 11000 := by
 have h1 := encN_len l.length zk6; have h2 := encL_len (diffs l l.length) (diffs_small _ _); rw [diffs_len] at h2; simp only [riseB, List.length_append]; omega
theorem pairPut_eq (v : SV) (hw : v.wf) (ho : v.ok = true) (xs : List Int) (hx : xs.length + 200000 ≤ 140737488355328) : pair_Put.f xs v.h v.k v.g.n v.g.nans v.g.lo v.g.hi = some (xs ++ pairB v) := by
 obtain ⟨h1, h2, h3⟩ := (SV.ok_iff v).1 ho; obtain ⟨w1, w2, w3⟩ := hw; have hn : Bnum v.h := fun x hx => U.of_wf (w1.2.2 x hx).2; have hl := chk_len h1; have hfl := formB_len h1 hn; have hr := riseB_len h2.2; have k2 := h2.2; unfold pair_Put.f hist_Put.f; rw [if_pos ⟨zk6, zk6, hn⟩, h1, if_pos rfl, Option.bind_some]; unfold kmv_Put.f; rw [if_pos ⟨zk164, w2.num⟩, Option.bind_some]; unfold gauge_Put.f; have e : xs ++ formB v.h ++ encN v.k.length ++ encL (diffs v.k v.k.length) = xs ++ formB v.h ++ riseB v.k := by rw [riseB]; simp
 rw [e, if_pos ⟨zk147, w3.1, w3.2.1, w3.2.2.1, w3.2.2.2⟩, Option.bind_some, gB_bytes w3, pairB]; simp
theorem ref10Put_eq (v : SV) (hw : v.wf) (ho : v.ok = true) : varveref10_Put.f 9000 v.h v.k v.g.n v.g.nans v.g.lo v.g.hi = some (pairB v) := by
 obtain ⟨h1, h2, h3⟩ := (SV.ok_iff v).1 ho; obtain ⟨w1, w2, w3⟩ := hw; have hn : Bnum v.h := fun x hx => U.of_wf (w1.2.2 x hx).2; have hl := chk_len h1; have hfl := formB_len h1 hn; have hr := riseB_len h2.2; have k2 := h2.2; have hg := gB_len v.g w3; have rr := leO_up (F := fun k => varveref04_Rise.f k v.k) (fun k => varveref04_Rise.mono v.k k) (rise_eq v.k (asc_rise h2.1 w2.num) zk6) (9000 - (v.k.length + 1)); rw [show v.k.length + 1 + (9000 - (v.k.length + 1)) = 9000 by omega] at rr; unfold varveref10_Put.f; rw [refPut_eq v.h h1 hn 9000 zk6, Option.bind_some, rr, Option.bind_some]; rw [show encN v.k.length ++ encL (diffs v.k v.k.length) = riseB v.k from rfl, if_pos zk6, Option.bind_some, rput09_eq w3 9000 zk6, Option.bind_some, if_pos zk147, pairB]
theorem pairGet_eq {b : List Int} (hb : WBy b) (a : Int) : pair_Get.f b a = some (match pairAt b a with
  | none => ([], [], 0, 0, 0, 0, 0, false)
  | some (v, q) => (v.h, v.k, v.g.n, v.g.nans, v.g.lo, v.g.hi, (q : Int), true)) := by
 unfold pair_Get.f hist_Get.f pairAt; rw [if_pos (show b.length ≤ 140737488355328 ∧ ∀ x ∈ b, 0 ≤ x ∧ x < 256 from hb), Option.bind_some]
 cases h0 : getH b a with
 | none => simp only [hist_Get.out]; rfl
 | some x =>
  obtain ⟨h, p⟩ := x; simp only [hist_Get.out]; rw [if_pos trivial]; unfold kmv_Get.f; rw [if_pos (show b.length ≤ 140737488355328 ∧ ∀ x ∈ b, 0 ≤ x ∧ x < 256 from hb), Option.bind_some]
  cases h1 : riseAt b (p : Int) 1024 with
  | none => simp only [kmv_Get.out]; rfl
  | some y =>
   obtain ⟨k, p2⟩ := y; simp only [kmv_Get.out]; rw [if_pos trivial]; unfold gauge_Get.f; rw [if_pos (show b.length ≤ 140737488355328 ∧ ∀ x ∈ b, 0 ≤ x ∧ x < 256 from hb), Option.bind_some]
   cases h2 : gaugeAt b (p2 : Int) with
   | none => simp only [gauge_Get.out]; rfl
   | some z =>
    obtain ⟨g, q⟩ := z; simp only [gauge_Get.out]; rw [if_pos trivial]
theorem pairAt_enc (v : SV) (hw : v.wf) (ho : v.ok = true) (pre ys b : List Int) (hb : b = pre ++ pairB v ++ ys) : pairAt b (pre.length : Int) = some (v, (pre ++ pairB v).length) := by
 obtain ⟨h1, h2, h3⟩ := (SV.ok_iff v).1 ho; obtain ⟨w1, w2, w3⟩ := hw; have hn : Bnum v.h := fun x hx => U.of_wf (w1.2.2 x hx).2; have k2 := h2.2; rw [pairB] at hb; have eb : b = pre ++ formB v.h ++ (riseB v.k ++ gB v.g ++ ys) := zk178
 have e0 : getH b (pre.length : Int) = some (v.h, (pre ++ formB v.h).length) := by
  refine getH_of h1 hn (Int.natCast_nonneg _) zk164 (by rw [eb]; simp only [List.length_append]; omega) ?_; rw [eb, Int.toNat_natCast, List.take_left, List.drop_left]
 have e1 := riseAt_enc v.k (pre ++ formB v.h) (gB v.g ++ ys) (asc_rise h2.1 w2.num) 1024 k2 zk6; rw [show pre ++ formB v.h ++ (encN v.k.length ++ encL (diffs v.k v.k.length)) ++ (gB v.g ++ ys) = b by rw [eb, riseB]; simp] at e1; have e2 := gauge_enc v.g w3 h3 (pre ++ formB v.h ++ riseB v.k) ys b zk178; unfold pairAt; rw [e0]; simp only; rw [e1]; simp only; rw [show (pre ++ formB v.h).length + (encN v.k.length ++ encL (diffs v.k v.k.length)).length = (pre ++ formB v.h ++ riseB v.k).length by rw [riseB]; simp only [List.length_append] <;> omega, e2]; simp [pairB]
end Go.Proofs.Ytplgffbfepnihaa.Pure
namespace Go.Proofs.Ytplgffbfepnihaa
open Go.RowKit Go.Proofs.YtplgffbfepnihaaW.PrintWords Go.Proofs.YtplgffbfepnihaaW.PrintLast Go.Proofs.YtplgffbfepnihaaW.PrintMore Go.Proofs.Ytplgffbfepnihaa.Hi Go.Proofs.Ytplgffbfepnihaa.Q Go.Proofs.Ytplgffbfepnihaa.Gb Go.Proofs.Ytplgffbfepnihaa.Vt Go.Proofs.Ytplgffbfepnihaa.Hb Go.Proofs.Ytplgffbfepnihaa.Ga Go.Proofs.Ytplgffbfepnihaa.Bp
set_option maxHeartbeats 8000000 in
set_option maxRecDepth 100000 in
theorem rpGet_all (k k9 : Nat) (g : Nat) (s0_0 : List Int) (s0_1 : Int) (s0_2 : Bool) (Pq : Int → Prop) (t236 : List (S70)) (t240 : Bool) (t241 : List Int) (T244 : Int → Int) (t245 : Bool) (t246 t247 t248 t249 : Int) (T250 : Int → Int) (t251 : Bool) (w0 w : World) (hI : IsS29 w0 w g s0_0 s0_1 s0_2) (hB : Below w0.heap.size w0 w)
  (A20 : ∀ W, IsS29 w0 W g s0_0 s0_1 s0_2 → Below w0.heap.size w0 W → Calls Try.prog 11 #[.pointer (some ⟨g, 0, none⟩)] W fun e w' => ∃ t239 : Int, Pq t239 ∧ ∃ v0_ : Value, e = .returned (v0_) ∧ Kd.R k70 70 w' W.heap.size (fun _ => True) v0_ t236 ∧ IsS29 w0 w' g s0_0 t239 t240 ∧ Below w0.heap.size w0 w' ∧ KeepBut W w' g none)
  (A30 : ∀ q, Pq q → varveref04_R_Rise.f k s0_0 q t240 1024 = some (t241, T244 q, t245)) (A40 : ∀ q, Pq q → varveref09_Get.f k9 s0_0 (T244 q) t245 = some (t246, t247, t248, t249, T250 q, t251)) :
  Calls Try.prog 37 #[.pointer (some ⟨g, 0, none⟩)] w fun e w' => ∃ t239 : Int, Pq t239 ∧ ∃ v0_ v1_ : Value, e = .returned (.agg #[v0_, v1_, .int .u64 (if t251 = true then 0 else t246), .int .u64 (if t251 = true then 0 else t247), .int .u64 (if t251 = true then 0 else t248), .int .u64 (if t251 = true then 0 else t249)]) ∧ Kd.R k70 70 w' w.heap.size (fun _ => True) v0_ (if t251 = true then [] else t236) ∧ Kd.R (Kd.int .u64) 41 w' w.heap.size (fun _ => True) v1_ (if t251 = true then [] else t241) ∧ IsS29 w0 w' g s0_0 (T250 t239) t251 ∧ Below w0.heap.size w0 w' ∧ KeepBut w w' g none := by
 have hu45 := Try.underlying45; have hu43 := Try.underlying43; have HI0 := mkA hI; have HK := mkA (KeepBut.refl w g none); have HL := mkA hB.size; clear hI; have HW0 := mkA hB.size; have HB := mkA hB; clear hB; have A2 := mkA A20; have A3 := mkA A30; have A4 := mkA A40; clear A20 A30 A40; by_cases c5 : t251 = true
 ·subst c5; simp only [if_true]; go_enter Try.func37, Try.ntmps37; (go_wp2_with (first | ((with_reducible refine gate_dst (N := 2) rfl ?_); refine box_event ?hg (N := 2) ?hd (cs := #[.slice none 0 0, .slice none 0 0, .int .u64 0, .int .u64 0, .int .u64 0, .int .u64 0]) (t := 45) ?hr ?_; (case hd => exact zk50); (case hg => exact zk50); (case hr => exact zk26); intro gb234 hg w6 hbox hb; have n0_ := mkA (IsS29.below zk4 hb); have n1_ := mkA (KeepBut.trans zk5 (KeepBut.of_below hb g none) (.inl rfl)); have n2_ := mkA (below_step zk3 hb); have n3_ := mkA (hbox); have n4_ := mkA ((by rw [hg]; exact (keep_size (w := w) (g := g) (row := none) zk5) : w.heap.size ≤ gb234)); have n5_ := mkA ((Nat.le_trans HW0.out (by rw [hg]; exact (keep_size (w := w) (g := g) (row := none) zk5) : w.heap.size ≤ gb234) : w0.heap.size ≤ gb234)); have n6_ := mkA ((by rw [hg]; exact Nat.ne_of_lt (IsS29.lt (show IsS29 w0 _ g s0_0 s0_1 s0_2 from by repeat (first | (with_reducible first | exact HI0.out | apply IsS29.alloc | apply IsS29.drewN | apply IsS29.drew | apply IsS29.set_1 | apply IsS29.set_2) | exact HI0.out))) : g ≠ gb234)); have n7_ := mkA ((by rw [hg]; exact Nat.ne_of_gt (IsS29.lt (show IsS29 w0 _ g s0_0 s0_1 s0_2 from by repeat (first | (with_reducible first | exact HI0.out | apply IsS29.alloc | apply IsS29.drewN | apply IsS29.drew | apply IsS29.set_1 | apply IsS29.set_2) | exact HI0.out))) : gb234 ≠ g)); clear HI0; clear HK; clear HB; have HI0 := n0_; have HK := n1_; have HB := n2_; have BK234 := n3_; have GW234 := n4_; have GE234 := n5_; have NB0_234 := n6_; have NB234_0 := n7_; clear n0_ n1_ n2_ n3_ n4_ n5_ n6_ n7_; clear hb hbox hg) | ((with_reducible refine gate_dst (N := 3) rfl ?_); refine box_event ?hg (N := 3) ?hd (cs := #[.slice none 0 0, .slice none 0 0, .int .u64 0, .int .u64 0, .int .u64 0, .int .u64 0]) (t := 45) ?hr ?_; (case hd => exact zk50); (case hg => exact zk50); (case hr => exact zk26); intro gb235 hg w7 hbox hb; have n0_ := mkA (IsS29.below zk112 hb); have n1_ := mkA (blk_below (g := gb234) (o := .cells #[.slice none 0 0, .slice none 0 0, .int .u64 0, .int .u64 0, .int .u64 0, .int .u64 0] 45 (0, 0)) zk70 hb); have n2_ := mkA (KeepBut.trans zk58 (KeepBut.of_below hb g none) (.inl rfl)); have n3_ := mkA (below_step zk117 hb); have n4_ := mkA (hbox); have n5_ := mkA ((by rw [hg]; exact (keep_size (w := w) (g := g) (row := none) zk58) : w.heap.size ≤ gb235)); have n6_ := mkA ((Nat.le_trans HW0.out (by rw [hg]; exact (keep_size (w := w) (g := g) (row := none) zk58) : w.heap.size ≤ gb235) : w0.heap.size ≤ gb235)); have n7_ := mkA ((by rw [hg]; exact Nat.ne_of_lt (blk_lt (g := gb234) (o := .cells #[.slice none 0 0, .slice none 0 0, .int .u64 0, .int .u64 0, .int .u64 0, .int .u64 0] 45 (0, 0)) zk70) : gb234 ≠ gb235)); have n8_ := mkA ((by rw [hg]; exact Nat.ne_of_gt (blk_lt (g := gb234) (o := .cells #[.slice none 0 0, .slice none 0 0, .int .u64 0, .int .u64 0, .int .u64 0, .int .u64 0] 45 (0, 0)) zk70) : gb235 ≠ gb234)); have n9_ := mkA ((by rw [hg]; exact Nat.ne_of_lt (IsS29.lt (show IsS29 w0 _ g s0_0 s0_1 s0_2 from by repeat (first | (with_reducible first | exact HI0.out | apply IsS29.alloc | apply IsS29.drewN | apply IsS29.drew | apply IsS29.set_1 | apply IsS29.set_2 | apply IsS29.far (hne := NB0_234.out)) | exact HI0.out))) : g ≠ gb235)); have n10_ := mkA ((by rw [hg]; exact Nat.ne_of_gt (IsS29.lt (show IsS29 w0 _ g s0_0 s0_1 s0_2 from by repeat (first | (with_reducible first | exact HI0.out | apply IsS29.alloc | apply IsS29.drewN | apply IsS29.drew | apply IsS29.set_1 | apply IsS29.set_2 | apply IsS29.far (hne := NB0_234.out)) | exact HI0.out))) : gb235 ≠ g)); clear HI0; clear BK234; clear HK; clear HB; have HI0 := n0_; have BK234 := n1_; have HK := n2_; have HB := n3_; have BK235 := n4_; have GW235 := n5_; have GE235 := n6_; have NB234_235 := n7_; have NB235_234 := n8_; have NB0_235 := n9_; have NB235_0 := n10_; clear n0_ n1_ n2_ n3_ n4_ n5_ n6_ n7_ n8_ n9_ n10_; clear hb hbox hg) | ((with_reducible refine gate_callee (f := 11) rfl ?_); refine goesL_ (some 5) rfl rfl Try.func11 zk11 rfl #[.pointer (some ⟨g, 0, none⟩)] rfl zk2 ?_; (with_reducible refine (A2.out _ ?side1 ?side2).mono ?_); (case side1 => exact zk31); (case side2 => exact zk33); rintro e w8 ⟨t239, hq_, v237, rfl, ho0, hi, hb, hk⟩; have HQ := mkA hq_; clear hq_; refine ⟨_, rfl, ?_⟩; have n0_ := mkA (KeepBut.blk hk (g' := gb234) (o := .cells #[.slice none 0 0, .slice none 0 0, .int .u64 0, .int .u64 0, .int .u64 0, .int .u64 0] 45 (0, 0)) zk70 NB234_0.out zk56); have n1_ := mkA (KeepBut.blk hk (g' := gb235) (o := .cells #[.slice none 0 0, .slice none 0 0, .int .u64 0, .int .u64 0, .int .u64 0, .int .u64 0] 45 (0, 0)) zk157 NB235_0.out zk56); have n2_ := mkA (Kd.R_lower ho0 (keep_size (w := w) (g := g) (row := none) zk22)); have n3_ := mkA (KeepBut.trans zk22 hk (.inl rfl)); have n4_ := mkA (hb); have n5_ := mkA (hi); clear BK234; clear BK235; clear HK; clear HB; clear HI0; have BK234 := n0_; have BK235 := n1_; have HO238 := n2_; have HK := n3_; have HB := n4_; have HI0 := n5_; clear n0_ n1_ n2_ n3_ n4_ n5_; (try clear hb); (try clear hb2); (try clear hk); (try clear hi); (try clear ho0); obtain ⟨Ao9, co9, eo9⟩ := Kd.R_slice HO238.out; subst eo9; have hnb10 := NB235_234.out; have hnc10 := NB234_235.out; have hnb11 := NB235_0.out; have hnc11 := NB0_235.out; obtain ⟨hcz12_0, hcz12_1, hcz12_2, hcz12_3, hcz12_4, hcz12_5, hfz12_0, hfz12_1, hfz12_2, hfz12_3, hfz12_4, hfz12_5⟩ := cf6 BK235.out) | ((with_reducible refine gate_callee (f := 30) rfl ?_); refine goesL_ (some 8) rfl rfl Try.func30 zk11 rfl #[.pointer (some ⟨g, 0, none⟩), .int .i64 1024] rfl zk2 ?_; (with_reducible refine (varveref04_R_Rise.calls k g s0_0 t239 t240 1024 t241 (T244 t239) t245 w0 _ ?side1 ?side2 (A3.out t239 HQ.out)).mono ?_); (case side1 => exact zk31); (case side2 => exact zk33); rintro e w13 ⟨v242, rfl, ho0, hi, hb, hk⟩; refine ⟨_, rfl, ?_⟩; have n0_ := mkA (KeepBut.blk hk (g' := gb234) (o := .cells #[.slice none 0 0, .slice none 0 0, .int .u64 0, .int .u64 0, .int .u64 0, .int .u64 0] 45 (0, 0)) zk65 NB234_0.out zk56); have n1_ := mkA (KeepBut.blk hk (g' := gb235) (o := .cells #[.slice Ao9 t236.length co9, .slice none 0 0, .int .u64 0, .int .u64 0, .int .u64 0, .int .u64 0] 45 (0, 0)) zk82 NB235_0.out zk56); have n2_ := mkA (Kd.R_mono (Kd.R_keep (IsS29.apart (show IsS29 w0 _ g s0_0 t239 t240 from by repeat (first | (with_reducible first | exact HI0.out | apply IsS29.alloc | apply IsS29.drewN | apply IsS29.drew | apply IsS29.set_1 | apply IsS29.set_2 | apply IsS29.far (hne := NB0_234.out) | apply IsS29.far (hne := NB0_235.out)) | exact HI0.out)) (by (with_reducible repeat (first | apply Kd.R_alloc | apply Kd.R_drewN | apply Kd.R_drew)); exact (Kd.R_mono (Kd.R_far (p := ⟨gb235, 0, none⟩) (Kd.R_types HO238.out BK235.out zk47) (fun _ hk => hk.2) (.slice Ao9 t236.length co9)) (fun _ h_ => h_.1))) zk47) hk (fun _ h => h.2)) (fun _ h => h.1)); have n3_ := mkA (Kd.R_lower ho0 (keep_size (w := w) (g := g) (row := none) zk22)); have n4_ := mkA (KeepBut.trans zk22 hk (.inl rfl)); have n5_ := mkA (hb); have n6_ := mkA (hi); clear BK234; clear BK235; clear HO238; clear HK; clear HB; clear HI0; have BK234 := n0_; have BK235 := n1_; have HO238 := n2_; have HO243 := n3_; have HK := n4_; have HB := n5_; have HI0 := n6_; clear n0_ n1_ n2_ n3_ n4_ n5_ n6_; (try clear hb); (try clear hb2); (try clear hk); (try clear hi); (try clear ho0); obtain ⟨Ao14, co14, eo14⟩ := Kd.R_slice HO243.out; subst eo14; obtain ⟨hcz15_0, hcz15_1, hcz15_2, hcz15_3, hcz15_4, hcz15_5, hfz15_0, hfz15_1, hfz15_2, hfz15_3, hfz15_4, hfz15_5⟩ := cf6 BK235.out) | ((with_reducible refine gate_callee (f := 71) rfl ?_); refine goesL_ (some 11) rfl rfl Try.func71 zk11 rfl #[.pointer (some ⟨g, 0, none⟩)] rfl zk2 ?_; (with_reducible refine (varveref09_Get.calls k9 g s0_0 (T244 t239) t245 t246 t247 t248 t249 (T250 t239) true w0 _ ?side1 ?side2 (A4.out t239 HQ.out)).mono ?_); (case side1 => exact zk31); (case side2 => exact zk33); rintro e w16 ⟨rfl, hi, hb, hk⟩; refine ⟨_, rfl, ?_⟩; have n0_ := mkA (KeepBut.blk hk (g' := gb234) (o := .cells #[.slice none 0 0, .slice none 0 0, .int .u64 0, .int .u64 0, .int .u64 0, .int .u64 0] 45 (0, 0)) zk65 NB234_0.out zk56); have n1_ := mkA (KeepBut.blk hk (g' := gb235) (o := .cells #[.slice Ao9 t236.length co9, .slice Ao14 t241.length co14, .int .u64 0, .int .u64 0, .int .u64 0, .int .u64 0] 45 (0, 0)) (by (with_reducible repeat (first | refine blk_drewN ?_ _ | refine blk_drew ?_ | refine blk_alloc ?_ _)); refine blk_put (cs := #[.slice Ao9 t236.length co9, .slice none 0 0, .int .u64 0, .int .u64 0, .int .u64 0, .int .u64 0]) ?_ 1 _ rfl; (with_reducible repeat (first | refine blk_drewN ?_ _ | refine blk_drew ?_ | refine blk_alloc ?_ _)); exact BK235.out) NB235_0.out zk56); have n2_ := mkA (Kd.R_mono (Kd.R_keep (IsS29.apart (show IsS29 w0 _ g s0_0 (T244 t239) t245 from by repeat (first | (with_reducible first | exact HI0.out | apply IsS29.alloc | apply IsS29.drewN | apply IsS29.drew | apply IsS29.set_1 | apply IsS29.set_2 | apply IsS29.far (hne := NB0_234.out) | apply IsS29.far (hne := NB0_235.out)) | exact HI0.out)) (by (with_reducible repeat (first | apply Kd.R_alloc | apply Kd.R_drewN | apply Kd.R_drew)); exact (Kd.R_mono (Kd.R_far (p := ⟨gb235, 1, none⟩) (Kd.R_types HO238.out BK235.out zk47) (fun _ hk => hk.2) (.slice Ao14 t241.length co14)) (fun _ h_ => h_.1))) zk47) hk (fun _ h => h.2)) (fun _ h => h.1)); have n3_ := mkA (Kd.R_mono (Kd.R_keep (IsS29.apart (show IsS29 w0 _ g s0_0 (T244 t239) t245 from by repeat (first | (with_reducible first | exact HI0.out | apply IsS29.alloc | apply IsS29.drewN | apply IsS29.drew | apply IsS29.set_1 | apply IsS29.set_2 | apply IsS29.far (hne := NB0_234.out) | apply IsS29.far (hne := NB0_235.out)) | exact HI0.out)) (by (with_reducible repeat (first | apply Kd.R_alloc | apply Kd.R_drewN | apply Kd.R_drew)); exact (Kd.R_mono (Kd.R_far (p := ⟨gb235, 1, none⟩) (Kd.R_types HO243.out BK235.out zk47) (fun _ hk => hk.2) (.slice Ao14 t241.length co14)) (fun _ h_ => h_.1))) zk47) hk (fun _ h => h.2)) (fun _ h => h.1)); have n4_ := mkA (KeepBut.trans zk22 hk (.inl rfl)); have n5_ := mkA (hb); have n6_ := mkA (hi); clear BK234; clear BK235; clear HO238; clear HO243; clear HK; clear HB; clear HI0; have BK234 := n0_; have BK235 := n1_; have HO238 := n2_; have HO243 := n3_; have HK := n4_; have HB := n5_; have HI0 := n6_; clear n0_ n1_ n2_ n3_ n4_ n5_ n6_; (try clear hb); (try clear hb2); (try clear hk); (try clear hi); obtain ⟨hcz17_0, hcz17_1, hcz17_2, hcz17_3, hcz17_4, hcz17_5, hfz17_0, hfz17_1, hfz17_2, hfz17_3, hfz17_4, hfz17_5⟩ := cf6 BK235.out; obtain ⟨ASz18_0, cSz18_0, HGz18, hgz18, HSz18_0⟩ := HI0.out; have hcz18_0 := cellS29_0 HGz18; have hcz18_1 := cellS29_1 HGz18; have hcz18_2 := cellS29_2 HGz18; have hfz18_1 := blk_frozen HGz18 1; have hfz18_2 := blk_frozen HGz18 2; clear HGz18 hgz18; have hnb19 := NB234_0.out; have hnc19 := NB0_234.out; obtain ⟨hcz20_0, hcz20_1, hcz20_2, hcz20_3, hcz20_4, hcz20_5, hfz20_0, hfz20_1, hfz20_2, hfz20_3, hfz20_4, hfz20_5⟩ := cf6 BK234.out))); refine bodyPost_ret (results_cell_row rfl _ _ gb234 45 #[.slice none 0 0, .slice none 0 0, .int .u64 0, .int .u64 0, .int .u64 0, .int .u64 0] (0, 0) _ rfl (by (with_reducible repeat (first | refine blk_drewN ?_ _ | refine blk_drew ?_ | refine blk_alloc ?_ _)); refine blk_put (cs := #[.slice none 0 0, .slice none 0 0, .int .u64 0, .int .u64 0, .int .u64 0, .int .u64 0]) ?_ 5 _ rfl; (with_reducible repeat (first | refine blk_drewN ?_ _ | refine blk_drew ?_ | refine blk_alloc ?_ _)); refine blk_put (cs := #[.slice none 0 0, .slice none 0 0, .int .u64 0, .int .u64 0, .int .u64 0, .int .u64 0]) ?_ 4 _ rfl; (with_reducible repeat (first | refine blk_drewN ?_ _ | refine blk_drew ?_ | refine blk_alloc ?_ _)); refine blk_put (cs := #[.slice none 0 0, .slice none 0 0, .int .u64 0, .int .u64 0, .int .u64 0, .int .u64 0]) ?_ 3 _ rfl; (with_reducible repeat (first | refine blk_drewN ?_ _ | refine blk_drew ?_ | refine blk_alloc ?_ _)); refine blk_put (cs := #[.slice none 0 0, .slice none 0 0, .int .u64 0, .int .u64 0, .int .u64 0, .int .u64 0]) ?_ 2 _ rfl; (with_reducible repeat (first | refine blk_drewN ?_ _ | refine blk_drew ?_ | refine blk_alloc ?_ _)); refine blk_put (cs := #[.slice none 0 0, .slice none 0 0, .int .u64 0, .int .u64 0, .int .u64 0, .int .u64 0]) ?_ 1 _ rfl; (with_reducible repeat (first | refine blk_drewN ?_ _ | refine blk_drew ?_ | refine blk_alloc ?_ _)); refine blk_put (cs := #[.slice none 0 0, .slice none 0 0, .int .u64 0, .int .u64 0, .int .u64 0, .int .u64 0]) ?_ 0 _ rfl; (with_reducible repeat (first | refine blk_drewN ?_ _ | refine blk_drew ?_ | refine blk_alloc ?_ _)); refine blk_far ?_ NB234_235.out _; (with_reducible repeat (first | refine blk_drewN ?_ _ | refine blk_drew ?_ | refine blk_alloc ?_ _)); refine blk_far ?_ NB234_235.out _; (with_reducible repeat (first | refine blk_drewN ?_ _ | refine blk_drew ?_ | refine blk_alloc ?_ _)); refine blk_far ?_ NB234_235.out _; (with_reducible repeat (first | refine blk_drewN ?_ _ | refine blk_drew ?_ | refine blk_alloc ?_ _)); refine blk_far ?_ NB234_235.out _; (with_reducible repeat (first | refine blk_drewN ?_ _ | refine blk_drew ?_ | refine blk_alloc ?_ _)); exact BK234.out) Try.underlying45 rfl zk11) rfl ?_; exact ⟨t239, HQ.out, _, _, zk7, zk35, zk35, zk31, zk33, zk22⟩
 ·replace c5 := Bool.eq_false_iff.mpr c5; subst c5; simp only [Bool.false_eq_true, if_false]; go_enter Try.func37, Try.ntmps37; (go_wp2_with (first | ((with_reducible refine gate_dst (N := 2) rfl ?_); refine box_event ?hg (N := 2) ?hd (cs := #[.slice none 0 0, .slice none 0 0, .int .u64 0, .int .u64 0, .int .u64 0, .int .u64 0]) (t := 45) ?hr ?_; (case hd => exact zk50); (case hg => exact zk50); (case hr => exact zk26); intro gb234 hg w21 hbox hb; have n0_ := mkA (IsS29.below zk4 hb); have n1_ := mkA (KeepBut.trans zk5 (KeepBut.of_below hb g none) (.inl rfl)); have n2_ := mkA (below_step zk3 hb); have n3_ := mkA (hbox); have n4_ := mkA ((by rw [hg]; exact (keep_size (w := w) (g := g) (row := none) zk5) : w.heap.size ≤ gb234)); have n5_ := mkA ((Nat.le_trans HW0.out (by rw [hg]; exact (keep_size (w := w) (g := g) (row := none) zk5) : w.heap.size ≤ gb234) : w0.heap.size ≤ gb234)); have n6_ := mkA ((by rw [hg]; exact Nat.ne_of_lt (IsS29.lt (show IsS29 w0 _ g s0_0 s0_1 s0_2 from by repeat (first | (with_reducible first | exact HI0.out | apply IsS29.alloc | apply IsS29.drewN | apply IsS29.drew | apply IsS29.set_1 | apply IsS29.set_2) | exact HI0.out))) : g ≠ gb234)); have n7_ := mkA ((by rw [hg]; exact Nat.ne_of_gt (IsS29.lt (show IsS29 w0 _ g s0_0 s0_1 s0_2 from by repeat (first | (with_reducible first | exact HI0.out | apply IsS29.alloc | apply IsS29.drewN | apply IsS29.drew | apply IsS29.set_1 | apply IsS29.set_2) | exact HI0.out))) : gb234 ≠ g)); clear HI0; clear HK; clear HB; have HI0 := n0_; have HK := n1_; have HB := n2_; have BK234 := n3_; have GW234 := n4_; have GE234 := n5_; have NB0_234 := n6_; have NB234_0 := n7_; clear n0_ n1_ n2_ n3_ n4_ n5_ n6_ n7_; clear hb hbox hg) | ((with_reducible refine gate_dst (N := 3) rfl ?_); refine box_event ?hg (N := 3) ?hd (cs := #[.slice none 0 0, .slice none 0 0, .int .u64 0, .int .u64 0, .int .u64 0, .int .u64 0]) (t := 45) ?hr ?_; (case hd => exact zk50); (case hg => exact zk50); (case hr => exact zk26); intro gb235 hg w22 hbox hb; have n0_ := mkA (IsS29.below zk112 hb); have n1_ := mkA (blk_below (g := gb234) (o := .cells #[.slice none 0 0, .slice none 0 0, .int .u64 0, .int .u64 0, .int .u64 0, .int .u64 0] 45 (0, 0)) zk70 hb); have n2_ := mkA (KeepBut.trans zk58 (KeepBut.of_below hb g none) (.inl rfl)); have n3_ := mkA (below_step zk117 hb); have n4_ := mkA (hbox); have n5_ := mkA ((by rw [hg]; exact (keep_size (w := w) (g := g) (row := none) zk58) : w.heap.size ≤ gb235)); have n6_ := mkA ((Nat.le_trans HW0.out (by rw [hg]; exact (keep_size (w := w) (g := g) (row := none) zk58) : w.heap.size ≤ gb235) : w0.heap.size ≤ gb235)); have n7_ := mkA ((by rw [hg]; exact Nat.ne_of_lt (blk_lt (g := gb234) (o := .cells #[.slice none 0 0, .slice none 0 0, .int .u64 0, .int .u64 0, .int .u64 0, .int .u64 0] 45 (0, 0)) zk70) : gb234 ≠ gb235)); have n8_ := mkA ((by rw [hg]; exact Nat.ne_of_gt (blk_lt (g := gb234) (o := .cells #[.slice none 0 0, .slice none 0 0, .int .u64 0, .int .u64 0, .int .u64 0, .int .u64 0] 45 (0, 0)) zk70) : gb235 ≠ gb234)); have n9_ := mkA ((by rw [hg]; exact Nat.ne_of_lt (IsS29.lt (show IsS29 w0 _ g s0_0 s0_1 s0_2 from by repeat (first | (with_reducible first | exact HI0.out | apply IsS29.alloc | apply IsS29.drewN | apply IsS29.drew | apply IsS29.set_1 | apply IsS29.set_2 | apply IsS29.far (hne := NB0_234.out)) | exact HI0.out))) : g ≠ gb235)); have n10_ := mkA ((by rw [hg]; exact Nat.ne_of_gt (IsS29.lt (show IsS29 w0 _ g s0_0 s0_1 s0_2 from by repeat (first | (with_reducible first | exact HI0.out | apply IsS29.alloc | apply IsS29.drewN | apply IsS29.drew | apply IsS29.set_1 | apply IsS29.set_2 | apply IsS29.far (hne := NB0_234.out)) | exact HI0.out))) : gb235 ≠ g)); clear HI0; clear BK234; clear HK; clear HB; have HI0 := n0_; have BK234 := n1_; have HK := n2_; have HB := n3_; have BK235 := n4_; have GW235 := n5_; have GE235 := n6_; have NB234_235 := n7_; have NB235_234 := n8_; have NB0_235 := n9_; have NB235_0 := n10_; clear n0_ n1_ n2_ n3_ n4_ n5_ n6_ n7_ n8_ n9_ n10_; clear hb hbox hg) | ((with_reducible refine gate_callee (f := 11) rfl ?_); refine goesL_ (some 5) rfl rfl Try.func11 zk11 rfl #[.pointer (some ⟨g, 0, none⟩)] rfl zk2 ?_; (with_reducible refine (A2.out _ ?side1 ?side2).mono ?_); (case side1 => exact zk31); (case side2 => exact zk33); rintro e w23 ⟨t239, hq_, v237, rfl, ho0, hi, hb, hk⟩; have HQ := mkA hq_; clear hq_; refine ⟨_, rfl, ?_⟩; have n0_ := mkA (KeepBut.blk hk (g' := gb234) (o := .cells #[.slice none 0 0, .slice none 0 0, .int .u64 0, .int .u64 0, .int .u64 0, .int .u64 0] 45 (0, 0)) zk70 NB234_0.out zk56); have n1_ := mkA (KeepBut.blk hk (g' := gb235) (o := .cells #[.slice none 0 0, .slice none 0 0, .int .u64 0, .int .u64 0, .int .u64 0, .int .u64 0] 45 (0, 0)) zk157 NB235_0.out zk56); have n2_ := mkA (Kd.R_lower ho0 (keep_size (w := w) (g := g) (row := none) zk22)); have n3_ := mkA (KeepBut.trans zk22 hk (.inl rfl)); have n4_ := mkA (hb); have n5_ := mkA (hi); clear BK234; clear BK235; clear HK; clear HB; clear HI0; have BK234 := n0_; have BK235 := n1_; have HO238 := n2_; have HK := n3_; have HB := n4_; have HI0 := n5_; clear n0_ n1_ n2_ n3_ n4_ n5_; (try clear hb); (try clear hb2); (try clear hk); (try clear hi); (try clear ho0); obtain ⟨Ao24, co24, eo24⟩ := Kd.R_slice HO238.out; subst eo24; have hnb25 := NB235_234.out; have hnc25 := NB234_235.out; have hnb26 := NB235_0.out; have hnc26 := NB0_235.out; obtain ⟨hcz27_0, hcz27_1, hcz27_2, hcz27_3, hcz27_4, hcz27_5, hfz27_0, hfz27_1, hfz27_2, hfz27_3, hfz27_4, hfz27_5⟩ := cf6 BK235.out) | ((with_reducible refine gate_callee (f := 30) rfl ?_); refine goesL_ (some 8) rfl rfl Try.func30 zk11 rfl #[.pointer (some ⟨g, 0, none⟩), .int .i64 1024] rfl zk2 ?_; (with_reducible refine (varveref04_R_Rise.calls k g s0_0 t239 t240 1024 t241 (T244 t239) t245 w0 _ ?side1 ?side2 (A3.out t239 HQ.out)).mono ?_); (case side1 => exact zk31); (case side2 => exact zk33); rintro e w28 ⟨v242, rfl, ho0, hi, hb, hk⟩; refine ⟨_, rfl, ?_⟩; have n0_ := mkA (KeepBut.blk hk (g' := gb234) (o := .cells #[.slice none 0 0, .slice none 0 0, .int .u64 0, .int .u64 0, .int .u64 0, .int .u64 0] 45 (0, 0)) zk65 NB234_0.out zk56); have n1_ := mkA (KeepBut.blk hk (g' := gb235) (o := .cells #[.slice Ao24 t236.length co24, .slice none 0 0, .int .u64 0, .int .u64 0, .int .u64 0, .int .u64 0] 45 (0, 0)) zk82 NB235_0.out zk56); have n2_ := mkA (Kd.R_mono (Kd.R_keep (IsS29.apart (show IsS29 w0 _ g s0_0 t239 t240 from by repeat (first | (with_reducible first | exact HI0.out | apply IsS29.alloc | apply IsS29.drewN | apply IsS29.drew | apply IsS29.set_1 | apply IsS29.set_2 | apply IsS29.far (hne := NB0_234.out) | apply IsS29.far (hne := NB0_235.out)) | exact HI0.out)) (by (with_reducible repeat (first | apply Kd.R_alloc | apply Kd.R_drewN | apply Kd.R_drew)); exact (Kd.R_mono (Kd.R_far (p := ⟨gb235, 0, none⟩) (Kd.R_types HO238.out BK235.out zk47) (fun _ hk => hk.2) (.slice Ao24 t236.length co24)) (fun _ h_ => h_.1))) zk47) hk (fun _ h => h.2)) (fun _ h => h.1)); have n3_ := mkA (Kd.R_lower ho0 (keep_size (w := w) (g := g) (row := none) zk22)); have n4_ := mkA (KeepBut.trans zk22 hk (.inl rfl)); have n5_ := mkA (hb); have n6_ := mkA (hi); clear BK234; clear BK235; clear HO238; clear HK; clear HB; clear HI0; have BK234 := n0_; have BK235 := n1_; have HO238 := n2_; have HO243 := n3_; have HK := n4_; have HB := n5_; have HI0 := n6_; clear n0_ n1_ n2_ n3_ n4_ n5_ n6_; (try clear hb); (try clear hb2); (try clear hk); (try clear hi); (try clear ho0); obtain ⟨Ao29, co29, eo29⟩ := Kd.R_slice HO243.out; subst eo29; obtain ⟨hcz30_0, hcz30_1, hcz30_2, hcz30_3, hcz30_4, hcz30_5, hfz30_0, hfz30_1, hfz30_2, hfz30_3, hfz30_4, hfz30_5⟩ := cf6 BK235.out) | ((with_reducible refine gate_callee (f := 71) rfl ?_); refine goesL_ (some 11) rfl rfl Try.func71 zk11 rfl #[.pointer (some ⟨g, 0, none⟩)] rfl zk2 ?_; (with_reducible refine (varveref09_Get.calls k9 g s0_0 (T244 t239) t245 t246 t247 t248 t249 (T250 t239) false w0 _ ?side1 ?side2 (A4.out t239 HQ.out)).mono ?_); (case side1 => exact zk31); (case side2 => exact zk33); rintro e w31 ⟨rfl, hi, hb, hk⟩; refine ⟨_, rfl, ?_⟩; have n0_ := mkA (KeepBut.blk hk (g' := gb234) (o := .cells #[.slice none 0 0, .slice none 0 0, .int .u64 0, .int .u64 0, .int .u64 0, .int .u64 0] 45 (0, 0)) zk65 NB234_0.out zk56); have n1_ := mkA (KeepBut.blk hk (g' := gb235) (o := .cells #[.slice Ao24 t236.length co24, .slice Ao29 t241.length co29, .int .u64 0, .int .u64 0, .int .u64 0, .int .u64 0] 45 (0, 0)) (by (with_reducible repeat (first | refine blk_drewN ?_ _ | refine blk_drew ?_ | refine blk_alloc ?_ _)); refine blk_put (cs := #[.slice Ao24 t236.length co24, .slice none 0 0, .int .u64 0, .int .u64 0, .int .u64 0, .int .u64 0]) ?_ 1 _ rfl; (with_reducible repeat (first | refine blk_drewN ?_ _ | refine blk_drew ?_ | refine blk_alloc ?_ _)); exact BK235.out) NB235_0.out zk56); have n2_ := mkA (Kd.R_mono (Kd.R_keep (IsS29.apart (show IsS29 w0 _ g s0_0 (T244 t239) t245 from by repeat (first | (with_reducible first | exact HI0.out | apply IsS29.alloc | apply IsS29.drewN | apply IsS29.drew | apply IsS29.set_1 | apply IsS29.set_2 | apply IsS29.far (hne := NB0_234.out) | apply IsS29.far (hne := NB0_235.out)) | exact HI0.out)) (by (with_reducible repeat (first | apply Kd.R_alloc | apply Kd.R_drewN | apply Kd.R_drew)); exact (Kd.R_mono (Kd.R_far (p := ⟨gb235, 1, none⟩) (Kd.R_types HO238.out BK235.out zk47) (fun _ hk => hk.2) (.slice Ao29 t241.length co29)) (fun _ h_ => h_.1))) zk47) hk (fun _ h => h.2)) (fun _ h => h.1)); have n3_ := mkA (Kd.R_mono (Kd.R_keep (IsS29.apart (show IsS29 w0 _ g s0_0 (T244 t239) t245 from by repeat (first | (with_reducible first | exact HI0.out | apply IsS29.alloc | apply IsS29.drewN | apply IsS29.drew | apply IsS29.set_1 | apply IsS29.set_2 | apply IsS29.far (hne := NB0_234.out) | apply IsS29.far (hne := NB0_235.out)) | exact HI0.out)) (by (with_reducible repeat (first | apply Kd.R_alloc | apply Kd.R_drewN | apply Kd.R_drew)); exact (Kd.R_mono (Kd.R_far (p := ⟨gb235, 1, none⟩) (Kd.R_types HO243.out BK235.out zk47) (fun _ hk => hk.2) (.slice Ao29 t241.length co29)) (fun _ h_ => h_.1))) zk47) hk (fun _ h => h.2)) (fun _ h => h.1)); have n4_ := mkA (KeepBut.trans zk22 hk (.inl rfl)); have n5_ := mkA (hb); have n6_ := mkA (hi); clear BK234; clear BK235; clear HO238; clear HO243; clear HK; clear HB; clear HI0; have BK234 := n0_; have BK235 := n1_; have HO238 := n2_; have HO243 := n3_; have HK := n4_; have HB := n5_; have HI0 := n6_; clear n0_ n1_ n2_ n3_ n4_ n5_ n6_; (try clear hb); (try clear hb2); (try clear hk); (try clear hi); obtain ⟨hcz32_0, hcz32_1, hcz32_2, hcz32_3, hcz32_4, hcz32_5, hfz32_0, hfz32_1, hfz32_2, hfz32_3, hfz32_4, hfz32_5⟩ := cf6 BK235.out; obtain ⟨ASz33_0, cSz33_0, HGz33, hgz33, HSz33_0⟩ := HI0.out; have hcz33_0 := cellS29_0 HGz33; have hcz33_1 := cellS29_1 HGz33; have hcz33_2 := cellS29_2 HGz33; have hfz33_1 := blk_frozen HGz33 1; have hfz33_2 := blk_frozen HGz33 2; clear HGz33 hgz33; have hnb34 := NB234_0.out; have hnc34 := NB0_234.out; obtain ⟨hcz35_0, hcz35_1, hcz35_2, hcz35_3, hcz35_4, hcz35_5, hfz35_0, hfz35_1, hfz35_2, hfz35_3, hfz35_4, hfz35_5⟩ := cf6 BK234.out))); refine bodyPost_ret (results_cell_row rfl _ _ gb234 45 #[.slice Ao24 t236.length co24, .slice Ao29 t241.length co29, .int .u64 t246, .int .u64 t247, .int .u64 t248, .int .u64 t249] (0, 0) _ rfl (by (with_reducible repeat (first | refine blk_drewN ?_ _ | refine blk_drew ?_ | refine blk_alloc ?_ _)); refine blk_put (cs := #[.slice Ao24 t236.length co24, .slice Ao29 t241.length co29, .int .u64 t246, .int .u64 t247, .int .u64 t248, .int .u64 0]) ?_ 5 _ rfl; (with_reducible repeat (first | refine blk_drewN ?_ _ | refine blk_drew ?_ | refine blk_alloc ?_ _)); refine blk_put (cs := #[.slice Ao24 t236.length co24, .slice Ao29 t241.length co29, .int .u64 t246, .int .u64 t247, .int .u64 0, .int .u64 0]) ?_ 4 _ rfl; (with_reducible repeat (first | refine blk_drewN ?_ _ | refine blk_drew ?_ | refine blk_alloc ?_ _)); refine blk_put (cs := #[.slice Ao24 t236.length co24, .slice Ao29 t241.length co29, .int .u64 t246, .int .u64 0, .int .u64 0, .int .u64 0]) ?_ 3 _ rfl; (with_reducible repeat (first | refine blk_drewN ?_ _ | refine blk_drew ?_ | refine blk_alloc ?_ _)); refine blk_put (cs := #[.slice Ao24 t236.length co24, .slice Ao29 t241.length co29, .int .u64 0, .int .u64 0, .int .u64 0, .int .u64 0]) ?_ 2 _ rfl; (with_reducible repeat (first | refine blk_drewN ?_ _ | refine blk_drew ?_ | refine blk_alloc ?_ _)); refine blk_put (cs := #[.slice Ao24 t236.length co24, .slice none 0 0, .int .u64 0, .int .u64 0, .int .u64 0, .int .u64 0]) ?_ 1 _ rfl; (with_reducible repeat (first | refine blk_drewN ?_ _ | refine blk_drew ?_ | refine blk_alloc ?_ _)); refine blk_put (cs := #[.slice none 0 0, .slice none 0 0, .int .u64 0, .int .u64 0, .int .u64 0, .int .u64 0]) ?_ 0 _ rfl; (with_reducible repeat (first | refine blk_drewN ?_ _ | refine blk_drew ?_ | refine blk_alloc ?_ _)); refine blk_far ?_ NB234_235.out _; (with_reducible repeat (first | refine blk_drewN ?_ _ | refine blk_drew ?_ | refine blk_alloc ?_ _)); refine blk_far ?_ NB234_235.out _; (with_reducible repeat (first | refine blk_drewN ?_ _ | refine blk_drew ?_ | refine blk_alloc ?_ _)); refine blk_far ?_ NB234_235.out _; (with_reducible repeat (first | refine blk_drewN ?_ _ | refine blk_drew ?_ | refine blk_alloc ?_ _)); refine blk_far ?_ NB234_235.out _; (with_reducible repeat (first | refine blk_drewN ?_ _ | refine blk_drew ?_ | refine blk_alloc ?_ _)); exact BK234.out) Try.underlying45 rfl zk11) rfl ?_; exact ⟨t239, HQ.out, _, _, zk7, by (with_reducible repeat (first | apply Kd.R_alloc | apply Kd.R_drewN | apply Kd.R_drew)); exact Kd.R_mono (Kd.R_far (p := ⟨gb234, 5, none⟩) (Kd.R_far (p := ⟨gb234, 4, none⟩) (Kd.R_far (p := ⟨gb234, 3, none⟩) (Kd.R_far (p := ⟨gb234, 2, none⟩) (Kd.R_far (p := ⟨gb234, 1, none⟩) (Kd.R_far (p := ⟨gb234, 0, none⟩) (Kd.R_far (p := ⟨gb235, 5, none⟩) (Kd.R_far (p := ⟨gb235, 4, none⟩) (Kd.R_far (p := ⟨gb235, 3, none⟩) (Kd.R_far (p := ⟨gb235, 2, none⟩) (Kd.R_types (Kd.R_types HO238.out BK235.out zk47) BK234.out zk47) (fun _ hk => hk.1.2) (.int .u64 t246)) (fun _ hk => hk.1.2) (.int .u64 t247)) (fun _ hk => hk.1.2) (.int .u64 t248)) (fun _ hk => hk.1.2) (.int .u64 t249)) (fun _ hk => hk.2) (.slice Ao24 t236.length co24)) (fun _ hk => hk.2) (.slice Ao29 t241.length co29)) (fun _ hk => hk.2) (.int .u64 t246)) (fun _ hk => hk.2) (.int .u64 t247)) (fun _ hk => hk.2) (.int .u64 t248)) (fun _ hk => hk.2) (.int .u64 t249)) (fun _ hk => trivial), by (with_reducible repeat (first | apply Kd.R_alloc | apply Kd.R_drewN | apply Kd.R_drew)); exact Kd.R_mono (Kd.R_far (p := ⟨gb234, 5, none⟩) (Kd.R_far (p := ⟨gb234, 4, none⟩) (Kd.R_far (p := ⟨gb234, 3, none⟩) (Kd.R_far (p := ⟨gb234, 2, none⟩) (Kd.R_far (p := ⟨gb234, 1, none⟩) (Kd.R_far (p := ⟨gb234, 0, none⟩) (Kd.R_far (p := ⟨gb235, 5, none⟩) (Kd.R_far (p := ⟨gb235, 4, none⟩) (Kd.R_far (p := ⟨gb235, 3, none⟩) (Kd.R_far (p := ⟨gb235, 2, none⟩) (Kd.R_types (Kd.R_types HO243.out BK235.out zk47) BK234.out zk47) (fun _ hk => hk.1.2) (.int .u64 t246)) (fun _ hk => hk.1.2) (.int .u64 t247)) (fun _ hk => hk.1.2) (.int .u64 t248)) (fun _ hk => hk.1.2) (.int .u64 t249)) (fun _ hk => hk.2) (.slice Ao24 t236.length co24)) (fun _ hk => hk.2) (.slice Ao29 t241.length co29)) (fun _ hk => hk.2) (.int .u64 t246)) (fun _ hk => hk.2) (.int .u64 t247)) (fun _ hk => hk.2) (.int .u64 t248)) (fun _ hk => hk.2) (.int .u64 t249)) (fun _ hk => trivial), zk31, zk33, zk22⟩
end Go.Proofs.Ytplgffbfepnihaa
namespace Go.Proofs.Ytplgffbfepnihaa
open Go.RowKit Go.Maps Go.Proofs.YtplgffbfepnihaaW.PrintWords Go.Proofs.YtplgffbfepnihaaW.PrintLast Go.Proofs.YtplgffbfepnihaaW.PrintMore Go.Proofs.Ytplgffbfepnihaa.Pure Go.Proofs.Ytplgffbfepnihaa.Q Go.Proofs.Ytplgffbfepnihaa.Hi Go.Proofs.Ytplgffbfepnihaa.Ga
theorem name_calls {P : Program} {f : FuncId} {xs : Array Value} {W : World} {Q : Ending → World → Prop} (h : ∀ WW, Hid (W = WW) → Calls P f xs WW Q) : Calls P f xs W Q := h W (Lib.hid rfl)
end Go.Proofs.Ytplgffbfepnihaa
namespace Go.Proofs.Ytplgffbfepnihaa
open Go.RowKit Go.Maps Go.Proofs.YtplgffbfepnihaaW.PrintWords Go.Proofs.YtplgffbfepnihaaW.PrintLast Go.Proofs.YtplgffbfepnihaaW.PrintMore Go.Proofs.Ytplgffbfepnihaa.Pure Go.Proofs.Ytplgffbfepnihaa.Q Go.Proofs.Ytplgffbfepnihaa.Hi Go.Proofs.Ytplgffbfepnihaa.Ga
def hV (v : SV) : List Int := merged (hzero 7424) v.h
end Go.Proofs.Ytplgffbfepnihaa
namespace Go.Proofs.Ytplgffbfepnihaa
open Go.RowKit Go.Maps Go.Proofs.YtplgffbfepnihaaW.PrintWords Go.Proofs.YtplgffbfepnihaaW.PrintLast Go.Proofs.YtplgffbfepnihaaW.PrintMore Go.Proofs.Ytplgffbfepnihaa.Pure Go.Proofs.Ytplgffbfepnihaa.Q Go.Proofs.Ytplgffbfepnihaa.Hi Go.Proofs.Ytplgffbfepnihaa.Ga
theorem SK.alloc {W : World} {A : Option Addr} {c : Nat} {l : List S70} {B : Option Addr} {d : Nat} {h : List Int} (k : SK W A c l B d h) (o : Obj) : SK (W.alloc o) A c l B d h := k.below (below_alloc (Below.refl _ _) o) (Nat.le_refl _)
theorem SK.zero (W : World) : SK W none 0 zV.h none 0 zV.k := ⟨⟨rfl, by decide, fun h => absurd h (by decide)⟩, Nat.le_refl _, ⟨rfl, by decide, fun h => absurd h (by decide)⟩, Nat.le_refl _, by decide, by decide⟩
theorem box6 {W : World} {x : Nat} {a0 a1 a2 a3 a4 a5 : Value} {T : TypeId} (h : W.heap[x]? = some (.cells #[a0, a1, a2, a3, a4, a5] T (0, 0))) :
  W.cell? ⟨x, 0, none⟩ = some a0 ∧ W.cell? ⟨x, 1, none⟩ = some a1 ∧ W.cell? ⟨x, 2, none⟩ = some a2 ∧ W.cell? ⟨x, 3, none⟩ = some a3 ∧ W.cell? ⟨x, 4, none⟩ = some a4 ∧ W.cell? ⟨x, 5, none⟩ = some a5 :=
 ⟨blk_cell h 0, blk_cell h 1, blk_cell h 2, blk_cell h 3, blk_cell h 4, blk_cell h 5⟩
theorem below_of_alloc {W w' : World} {o : Obj} (hb : Below (W.alloc o).heap.size (W.alloc o) w') : Below W.heap.size W w' := (below_alloc (Below.refl _ _) o).trans (hb.mono (by simp))
theorem new_below {W w' : World} {o : Obj} (hb : Below (W.alloc o).heap.size (W.alloc o) w') : w'.heap[W.heap.size]? = some o := (hb.block _ (by simp)).trans (blk_new W o)
theorem rcheckV {W : World} {A : Option Addr} {c : Nat} {B : Option Addr} {d : Nat} {v : SV} (k : SK W A c v.h B d v.k) (hw : v.wf) {r : Bool} (hr : v.ok = r) :
  Calls Try.prog 32 #[.agg #[.slice A v.h.length c, .slice B v.k.length d, .int .u64 v.g.n, .int .u64 v.g.nans, .int .u64 v.g.lo, .int .u64 v.g.hi]] W fun e w' => e = .returned (.bool r) ∧ Below W.heap.size W w' := by
 subst hr; exact sk_rcheck k v.g hw.2.2
theorem copyV {W : World} {A : Option Addr} {c : Nat} {B : Option Addr} {d : Nat} {v : SV} (k : SK W A c v.h B d v.k) :
  Calls Try.prog 34 #[.agg #[.slice A v.h.length c, .slice B v.k.length d, .int .u64 v.g.n, .int .u64 v.g.nans, .int .u64 v.g.lo, .int .u64 v.g.hi]] W fun e w' =>
   ∃ A' c' B' d', e = .returned (.agg #[.slice A' v.h.length c', .slice B' v.k.length d', .int .u64 v.g.n, .int .u64 v.g.nans, .int .u64 v.g.lo, .int .u64 v.g.hi]) ∧ SK w' A' c' v.h B' d' v.k ∧ Below W.heap.size W w' := sk_copy k v.g.n v.g.nans v.g.lo v.g.hi
theorem rsameV {W : World} {A : Option Addr} {c : Nat} {B : Option Addr} {d : Nat} {v : SV} (k : SK W A c v.h B d v.k) {A' : Option Addr} {c' : Nat} {B' : Option Addr} {d' : Nat} (k' : SK W A' c' v.h B' d' v.k) :
  Calls Try.prog 20 #[.agg #[.slice A v.h.length c, .slice B v.k.length d, .int .u64 v.g.n, .int .u64 v.g.nans, .int .u64 v.g.lo, .int .u64 v.g.hi], .agg #[.slice A' v.h.length c', .slice B' v.k.length d', .int .u64 v.g.n, .int .u64 v.g.nans, .int .u64 v.g.lo, .int .u64 v.g.hi]] W fun e w' => e = .returned (.bool true) ∧ Below W.heap.size W w' := by
 have h := sk_rsame k v.g k' v.g
 rwa [sameS_self] at h
end Go.Proofs.Ytplgffbfepnihaa
namespace Go.Proofs.Ytplgffbfepnihaa
open Go.RowKit Go.Maps Go.Proofs.YtplgffbfepnihaaW.PrintWords Go.Proofs.YtplgffbfepnihaaW.PrintLast Go.Proofs.YtplgffbfepnihaaW.PrintMore Go.Proofs.Ytplgffbfepnihaa.Pure Go.Proofs.Ytplgffbfepnihaa.Q Go.Proofs.Ytplgffbfepnihaa.Hi Go.Proofs.Ytplgffbfepnihaa.Ga
theorem aw_b0 : bks (ofH []) = [] := bks_merged (l := []) (fun b hb => by simp at hb) rfl
theorem aw_b : bks (ofH [⟨300, ⟨#[97]⟩, 0⟩]) = [⟨278, 1⟩] := by
 have e : bks (hadd (hzero 7424) 278 1) = insB 278 1 (bks (hzero 7424)) := (bks_add hzero_good 278 zk6 1 zk6).symm; have e0 : bks (hzero 7424) = [] := aw_b0; rw [e0] at e; exact e
theorem aw_k0 : ofK [] = [] := rfl
theorem aw_g0 : ofG [] = gzero := rfl
theorem aw_f : fnvV ⟨#[97]⟩ = 12638187200555641996 := by
 have f1 : fnv_Of.f 2 ⟨#[97]⟩ = some 12638187200555641996 := by decide +kernel
 show (fnv_Of.f 2 ⟨#[97]⟩).getD 0 = _; rw [f1]; rfl
theorem aw_k : ofK [⟨300, ⟨#[97]⟩, 0⟩] = [12638187200555641996] := by
 show khash [] (fnvV ⟨#[97]⟩) = _; rw [aw_f]; rfl
theorem aw_c (w : World) : Kd.C k81 (w.alloc (.cells #[.int .u64 300, .string ⟨#[97]⟩, .int .u64 0] 81)) (some ⟨w.heap.size, 0, none⟩) 1 [⟨300, ⟨#[97]⟩, 0⟩] := by
 have h := blk_new w (.cells #[.int .u64 300, .string ⟨#[97]⟩, .int .u64 0] 81); refine ⟨rfl, zk47, fun _ => ⟨_, rfl, fun j p hp => ?_⟩⟩
 cases j with
 | succ j => simp at hp
 | zero =>
  obtain rfl : (⟨300, ⟨#[97]⟩, 0⟩ : S81) = p := zk200
  refine ⟨[.int .u64 300, .string ⟨#[97]⟩, .int .u64 0], rfl, k81_mk _ _, fun i u hu => ?_⟩
  have e : (⟨w.heap.size, 0, none⟩ : Addr).add (0 * k81.sz + i) = ⟨w.heap.size, i, none⟩ := by
   simp [Addr.add]; omega
  rw [e, blk_cell h i, ← hu]; simp
theorem aw_g : ofG [⟨300, ⟨#[97]⟩, 0⟩] = ⟨1, 0, 0, 0⟩ := by
 show gadd gzero 0 = _; have n0 : nanB 0 = false := zk47
 unfold gadd; rw [n0]; rfl
theorem of_one (w : World) : Calls Try.prog 19 #[.slice (some ⟨w.heap.size, 0, none⟩) 1 1] (w.alloc (.cells #[.int .u64 300, .string ⟨#[97]⟩, .int .u64 0] 81)) fun e w' =>
  ∃ A c A' c', e = .returned (.agg #[.slice A 1 c, .slice A' 1 c', .int .u64 1, .int .u64 0, .int .u64 0, .int .u64 0]) ∧ 1 ≤ c ∧ 1 ≤ c' ∧ Kd.C k70 w' A 1 [⟨278, 1⟩] ∧ Kd.C (Kd.int .u64) w' A' 1 [12638187200555641996] ∧ Below w.heap.size w w' := by
 have h := of_any (some ⟨w.heap.size, 0, none⟩) 1 [⟨300, ⟨#[97]⟩, 0⟩] _ (aw_c w) (fun o ho => by
  rw [List.mem_singleton] at ho; subst ho
  exact ⟨⟨zk47, zk47⟩, (by have hM : maxLen = 9223372036854775807 := rfl; have hs : (⟨#[97]⟩ : ByteArray).size = 1 := rfl; show (⟨#[97]⟩ : ByteArray).size ≤ maxLen; omega), ⟨zk47, zk47⟩⟩) zk47
 rw [aw_b, aw_k, aw_g] at h; refine h.mono fun e w' ⟨A, c, A', c', he, h1, h2, hR, hS, hb⟩ => ⟨A, c, A', c', he, h1, h2, (Kd.R_reads' hR).2.2, (Kd.R_reads' hS).2.2, ?_⟩
 exact (below_alloc (Below.refl _ _) _).trans (hb.mono zk56)
theorem of_nil (w : World) : Calls Try.prog 19 #[.slice none 0 0] w fun e w' =>
  ∃ A c A' c', e = .returned (.agg #[.slice A 0 c, .slice A' 0 c', .int .u64 0, .int .u64 0, .int .u64 0, .int .u64 0]) ∧ Kd.C k70 w' A 0 [] ∧ Kd.C (Kd.int .u64) w' A' 0 [] ∧ Below w.heap.size w w' := by
 have h := of_any none 0 [] w ⟨rfl, zk47, fun h => absurd h zk47⟩ (fun o ho => by simp at ho) zk47; rw [aw_b0, aw_k0, aw_g0] at h; exact h.mono fun e w' ⟨A, c, A', c', he, h1, h2, hR, hS, hb⟩ => ⟨A, c, A', c', he, (Kd.R_reads' hR).2.2, (Kd.R_reads' hS).2.2, hb⟩
theorem emp_nil (B : Option Addr) (d : Nat) (B' : Option Addr) (d' : Nat) (w : World) (hC : Kd.C k70 w B 0 []) (hK : Kd.C (Kd.int .u64) w B' 0 []) :
  Calls Try.prog 23 #[.agg #[.slice B 0 d, .slice B' 0 d', .int .u64 0, .int .u64 0, .int .u64 0, .int .u64 0]] w fun e w' => e = .returned (.bool true) ∧ Below w.heap.size w w' :=
 pair_Empty.calls B d [] B' d' [] 0 0 0 0 true w hC (Nat.zero_le _) hK (Nat.zero_le _) rfl
theorem emp_one (B : Option Addr) (d : Nat) (B' : Option Addr) (d' : Nat) (w : World) (h1 : 1 ≤ d) (h2 : 1 ≤ d') (hC : Kd.C k70 w B 1 [⟨278, 1⟩]) (hK : Kd.C (Kd.int .u64) w B' 1 [12638187200555641996]) :
  Calls Try.prog 23 #[.agg #[.slice B 1 d, .slice B' 1 d', .int .u64 1, .int .u64 0, .int .u64 0, .int .u64 0]] w fun e w' => e = .returned (.bool false) ∧ Below w.heap.size w w' :=
 pair_Empty.calls B d [⟨278, 1⟩] B' d' [12638187200555641996] 1 0 0 0 false w hC h1 hK h2 rfl
theorem first75 {w : World} {A : Option Addr} (h : Kd.C k70 w A 1 [⟨278, 1⟩]) : ∃ ad, A = some ad ∧ w.cell? ad = some (.int .i64 278) := by
 obtain ⟨ad, e, hc⟩ := h.2.2 zk47; obtain ⟨cs, hl, hK, hcs⟩ := hc 0 ⟨278, 1⟩ rfl; refine ⟨ad, e, ?_⟩; have hk := k70_open hK; subst hk; have h0 := hcs 0 _ rfl; have e0 : ad.add (0 * k70.sz + 0) = ad := by obtain ⟨b, o, p⟩ := ad; cases p <;> simp [Addr.add]
 rwa [e0] at h0
set_option maxHeartbeats 4000000 in
set_option maxRecDepth 100000 in
theorem awake_p (w : World) : Calls Try.prog 18 #[] w fun e w' => e = .returned (.bool true) ∧ Below w.heap.size w w' := by
 go_enter Try.func18, Try.ntmps18
 go_wp2_with (first
  | (go_at_call 19; (with_reducible refine (of_one _).mono ?_); rintro e w1 ⟨A, c, A', c', rfl, h1, h2, hC, hK, hb1⟩; have HC := Lib.hid hC; have HK := Lib.hid hK; have H1 := Lib.hid h1; have H2 := Lib.hid h2; clear hC hK h1 h2)
  | (go_at_call 19; (with_reducible refine (of_nil _).mono ?_); rintro e w2 ⟨B, d, B', d', rfl, hC2, hK2, hb2⟩; have HC2 := Lib.hid hC2; have HK2 := Lib.hid hK2; clear hC2 hK2; have hB2 := (below_alloc (Below.refl w1.heap.size w1) _).trans (hb2.mono zk56); have hx2 := (hb2.block w1.heap.size zk56).trans (blk_new w1 _); have HB2 := Lib.hid hB2; have HX2 := Lib.hid hx2; clear hb2 hB2 hx2)
  | (go_at_call 23; (with_reducible refine (emp_nil B d B' d' _ HC2.out HK2.out).mono ?_); rintro e w3 ⟨rfl, hb3⟩; have hx3 := (hb3.block w1.heap.size (blk_lt HX2.out)).trans HX2.out; have hB3 := HB2.out.trans (hb3.mono HB2.out.size); have c0 : w3.cell? ⟨w1.heap.size, 0, none⟩ = some (.slice A 1 c) := blk_cell hx3 0; have c1 : w3.cell? ⟨w1.heap.size, 1, none⟩ = some (.slice A' 1 c') := blk_cell hx3 1; have c2 : w3.cell? ⟨w1.heap.size, 2, none⟩ = some (.int .u64 1) := blk_cell hx3 2; have c3 : w3.cell? ⟨w1.heap.size, 3, none⟩ = some (.int .u64 0) := blk_cell hx3 3; have c4 : w3.cell? ⟨w1.heap.size, 4, none⟩ = some (.int .u64 0) := blk_cell hx3 4; have c5 : w3.cell? ⟨w1.heap.size, 5, none⟩ = some (.int .u64 0) := blk_cell hx3 5; have HB3 := Lib.hid hB3; have HX3 := Lib.hid hx3; clear hb3 hB3 hx3 HB2 HX2)
  | (go_at_call 23; (with_reducible refine (emp_one A c A' c' _ H1.out H2.out (Kd.C_below HC.out HB3.out) (Kd.C_below HK.out HB3.out)).mono ?_); rintro e w4 ⟨rfl, hb4⟩; have hx4 := (hb4.block w1.heap.size (blk_lt HX3.out)).trans HX3.out; have hB4 := HB3.out.trans (hb4.mono HB3.out.size); clear c0 c1 c2 c3 c4 c5; have c0 : w4.cell? ⟨w1.heap.size, 0, none⟩ = some (.slice A 1 c) := blk_cell hx4 0; have c1 : w4.cell? ⟨w1.heap.size, 1, none⟩ = some (.slice A' 1 c') := blk_cell hx4 1; have c2 : w4.cell? ⟨w1.heap.size, 2, none⟩ = some (.int .u64 1) := blk_cell hx4 2; have c3 : w4.cell? ⟨w1.heap.size, 3, none⟩ = some (.int .u64 0) := blk_cell hx4 3; have c4 : w4.cell? ⟨w1.heap.size, 4, none⟩ = some (.int .u64 0) := blk_cell hx4 4; have c5 : w4.cell? ⟨w1.heap.size, 5, none⟩ = some (.int .u64 0) := blk_cell hx4 5; obtain ⟨ad, rfl, q0⟩ := first75 (Kd.C_below HC.out hB4); have HB4 := Lib.hid hB4; clear hb4 hB4 hx4 HB3 HX3))
 go_ret
 exact ⟨rfl, hb1.trans (HB4.out.mono hb1.size)⟩
end Go.Proofs.Ytplgffbfepnihaa
namespace Go.Proofs.Ytplgffbfepnihaa
open Go.RowKit Go.Maps Go.Deep Go.Proofs.YtplgffbfepnihaaW.PrintWords Go.Proofs.YtplgffbfepnihaaW.PrintLast Go.Proofs.YtplgffbfepnihaaW.PrintMore Go.Proofs.Ytplgffbfepnihaa.Pure Go.Proofs.Ytplgffbfepnihaa.Q Go.Proofs.Ytplgffbfepnihaa.Hi Go.Proofs.Ytplgffbfepnihaa.Vt Go.Proofs.Ytplgffbfepnihaa.Hb Go.Proofs.Ytplgffbfepnihaa.Ga Go.Proofs.Ytplgffbfepnihaa.Bp
theorem riseGo_le (b : List Int) : ∀ (c p : Nat) (acc l : List Int) (q : Nat), riseGo b c p acc = some (l, q) → l.length = acc.length + c := by
 intro c
 induction c with
 | zero => intro p acc l q h; rw [riseGo] at h; cases h; rfl
 | succ c ih =>
  intro p acc l q h; rw [riseGo] at h; split at h
  ·cases h
  ·split at h
   case isTrue h0 => have := ih _ _ _ _ h; rw [this, h0]; simp; omega
   case isFalse =>
    split at h
    ·cases h
    ·have := ih _ _ _ _ h; rw [this, List.length_append, List.length_singleton]; omega
theorem riseAt_le {b : List Int} {a : Int} {most : Nat} {l : List Int} {q : Nat} (h : riseAt b a most = some (l, q)) : l.length ≤ most := by
 unfold riseAt at h; split at h
 ·cases h
 ·split at h
  ·cases h
  case isFalse c => have := riseGo_le b _ _ _ _ _ h; simp at this; omega
theorem pairAt_sk {b : List Int} (hby : WBy b) {a : Int} {v : SV} {q : Nat} (h : pairAt b a = some (v, q)) : v.h.length ≤ 7424 ∧ v.k.length ≤ 1024 := by
 unfold pairAt at h; split at h
 ·cases h
 case h_2 l p e0 =>
  split at h
  ·cases h
  case h_2 k p2 e1 =>
   split at h
   ·cases h
   case h_2 g q2 e2 => cases h; exact ⟨chk_len (getH_ok hby e0).1, riseAt_le e1⟩
theorem rise_was (b : List Int) (q : Int) : varveref04_R_Rise.f 40 b q true 1024 = some ([], q, true) := by
 unfold varveref04_R_Rise.f
 rw [show varveref04_R_Count.f 40 b q true 1024 = some (0, q, true) from by
  unfold varveref04_R_Count.f; rw [rnum_bad b q 40 zk47, Option.bind_some]
  simp only [↓reduceIte], Option.bind_some]
 exact rrise_bad 40 zk47 _ _ _ b q
def RpPost (b : List Int) (o : Option (SV × Nat)) (W : World) (e : Ending) (w' : World) : Prop :=
 Below W.heap.size W w' ∧
 (∀ v q, o = some (v, q) → ∃ A c B d, e = .returned (.agg #[.slice A v.h.length c, .slice B v.k.length d, .int .u64 v.g.n, .int .u64 v.g.nans, .int .u64 v.g.lo, .int .u64 v.g.hi]) ∧ SK w' A c v.h B d v.k ∧ (∃ D d, w'.heap[W.heap.size]? = some (.cells #[.slice D b.length d, .int .i64 (q : Int), .bool false] 29))) ∧
 (o = none → (∃ A c B d, e = .returned (.agg #[.slice A 0 c, .slice B 0 d, .int .u64 0, .int .u64 0, .int .u64 0, .int .u64 0])) ∧ (∃ q D d, w'.heap[W.heap.size]? = some (.cells #[.slice D b.length d, .int .i64 q, .bool true] 29)))
theorem isBad {w W : World} {g : Nat} {b : List Int} {q : Int} (h : IsS29 w W g b q true) : ∃ q D d, W.heap[g]? = some (.cells #[.slice D b.length d, .int .i64 q, .bool true] 29) := by obtain ⟨D, d, hh, -, -⟩ := h; exact ⟨q, D, d, hh⟩
theorem rpget_c {w W : World} {A : Option Addr} {c : Nat} {b : List Int} (hby : WBy b) (hcap : b.length ≤ c) (a : Int) (hC : Kd.C (Kd.int .u8) w A b.length b) (hb : Below w.heap.size w W) :
  Calls Try.prog 37 #[.pointer (some ⟨W.heap.size, 0, none⟩)] (W.alloc (.cells #[.slice A b.length c, .int .i64 a, .bool false] 29)) (RpPost b (pairAt b a) W) := by
 have hI : IsS29 w (W.alloc (.cells #[.slice A b.length c, .int .i64 a, .bool false] 29)) W.heap.size b a false := ⟨A, c, heap_alloc_new W _, ⟨hb.size, hcap⟩, hC⟩
 have hB := below_alloc hb (.cells #[.slice A b.length c, .int .i64 a, .bool false] 29)
 have hbb : ∀ w', Below w.heap.size w w' → KeepBut (W.alloc (.cells #[.slice A b.length c, .int .i64 a, .bool false] 29)) w' W.heap.size none → Below W.heap.size W w' := fun w' h1 h2 => by
  have h3 := below_alloc (Below.refl W.heap.size W) (.cells #[.slice A b.length c, .int .i64 a, .bool false] 29); exact ⟨h1.os.trans hb.os.symm, h1.tape.trans hb.tape.symm, h1.output.trans hb.output.symm, Nat.le_trans h3.size h2.1, fun i hi => (h2.2 i (Nat.lt_of_lt_of_le hi h3.size) zk6 zk56).trans (h3.block i hi)⟩
 cases h0 : getH b a with
 | none =>
  have hn : pairAt b a = none := by unfold pairAt; rw [h0]
  rw [hn]; refine (rpGet_all 40 60 W.heap.size b a false (fun _ => True) [] true [] (fun q => q) true 0 0 0 0 (fun q => q) true w _ hI hB (fun W' hI' hB' => ?_) (fun q _ => rise_was b q) (fun q _ => rget09_bad b q 60 zk47)).mono ?_
  ·refine (refGet_any hby a hI' hB').mono fun e w' ⟨_, h2⟩ => ?_; rw [refH_eq hby a] at h2; obtain ⟨q, he, hs⟩ := h2 h0; exact ⟨q, trivial, _, he, Kd.R_nil _ _ _ _ _, hs.1, hs.2.1, hs.2.2⟩
  ·rintro e w' ⟨q, -, v0, v1, he, hR, hS, hi, hb', hk'⟩; simp only [↓reduceIte] at he hR hS; obtain ⟨A1, c1, rfl, -, -⟩ := Kd.R_reads hR; obtain ⟨B1, c2, rfl, -, -⟩ := Kd.R_reads hS; exact ⟨hbb _ hb' hk', fun _ _ h => (by cases h), fun _ => ⟨⟨_, _, _, _, he⟩, isBad hi⟩⟩
 | some x =>
  obtain ⟨l, p⟩ := x
  have A2 : ∀ W', IsS29 w W' W.heap.size b a false → Below w.heap.size w W' → Calls Try.prog 11 #[.pointer (some ⟨W.heap.size, 0, none⟩)] W' fun e w' => ∃ q : Int, q = (p : Int) ∧ ∃ v0_ : Value, e = .returned (v0_) ∧ Kd.R k70 70 w' W'.heap.size (fun _ => True) v0_ l ∧ IsS29 w w' W.heap.size b q false ∧ Below w.heap.size w w' ∧ KeepBut W' w' W.heap.size none := fun W' hI' hB' =>
   (refGet_any hby a hI' hB').mono fun e w' ⟨h1, _⟩ => by
    rw [refH_eq hby a] at h1; obtain ⟨v, he, hR, hs⟩ := h1 l p h0; exact ⟨p, rfl, v, he, hR, hs.1, hs.2.1, hs.2.2⟩
  obtain ⟨k, g1, g2⟩ := rrise_eq hby (p : Int) 1024 zk47
  cases h1 : riseAt b (p : Int) 1024 with
  | none =>
   have hn : pairAt b a = none := by unfold pairAt; rw [h0]; simp only; rw [h1]
   rw [hn]; obtain ⟨q2, e2⟩ := g2 h1; refine (rpGet_all k 60 W.heap.size b a false (fun q => q = (p : Int)) l false [] (fun _ => q2) true 0 0 0 0 (fun _ => q2) true w _ hI hB A2 (fun q hq => by rw [hq]; exact e2) (fun q _ => rget09_bad b q2 60 zk47)).mono ?_; rintro e w' ⟨q, -, v0, v1, he, hR, hS, hi, hb', hk'⟩; simp only [↓reduceIte] at he hR hS; obtain ⟨A1, c1, rfl, -, -⟩ := Kd.R_reads hR; obtain ⟨B1, c2, rfl, -, -⟩ := Kd.R_reads hS; exact ⟨hbb _ hb' hk', fun _ _ h => (by cases h), fun _ => ⟨⟨_, _, _, _, he⟩, isBad hi⟩⟩
  | some y =>
   obtain ⟨ks, p2⟩ := y; have e2 := g1 ks p2 h1; obtain ⟨f1, f2⟩ := rget09_eq hby (p2 : Int) 60 zk47
   cases h2 : gaugeAt b (p2 : Int) with
   | none =>
    have hn : pairAt b a = none := by unfold pairAt; rw [h0]; simp only; rw [h1]; simp only; rw [h2]
    rw [hn]; obtain ⟨q3, e3⟩ := f2 h2; refine (rpGet_all k 60 W.heap.size b a false (fun q => q = (p : Int)) l false ks (fun _ => (p2 : Int)) false 0 0 0 0 (fun _ => q3) true w _ hI hB A2 (fun q hq => by rw [hq]; exact e2) (fun q _ => e3)).mono ?_; rintro e w' ⟨q, -, v0, v1, he, hR, hS, hi, hb', hk'⟩; simp only [↓reduceIte] at he hR hS; obtain ⟨A1, c1, rfl, -, -⟩ := Kd.R_reads hR; obtain ⟨B1, c2, rfl, -, -⟩ := Kd.R_reads hS; exact ⟨hbb _ hb' hk', fun _ _ h => (by cases h), fun _ => ⟨⟨_, _, _, _, he⟩, isBad hi⟩⟩
   | some z =>
    obtain ⟨g, q3⟩ := z; have hn : pairAt b a = some (⟨l, ks, g⟩, q3) := by unfold pairAt; rw [h0]; simp only; rw [h1]; simp only; rw [h2]
    have hsk := pairAt_sk hby hn; simp only at hsk; rw [hn]; refine (rpGet_all k 60 W.heap.size b a false (fun q => q = (p : Int)) l false ks (fun _ => (p2 : Int)) false g.n g.nans g.lo g.hi (fun _ => (q3 : Int)) false w _ hI hB A2 (fun q hq => by rw [hq]; exact e2) (fun q _ => f1 g q3 h2)).mono ?_; rintro e w' ⟨q, -, v0, v1, he, hR, hS, hi, hb', hk'⟩; simp only [Bool.false_eq_true, if_false] at he hR hS; obtain ⟨A1, c1, rfl, d1, d2⟩ := Kd.R_reads hR; obtain ⟨B1, c2, rfl, d3, d4⟩ := Kd.R_reads hS; obtain ⟨D, d, hh, -, -⟩ := hi; exact ⟨hbb _ hb' hk', fun v q h => (by cases h; exact ⟨A1, c1, B1, c2, he, ⟨d2, d1, d4, d3, zk109, zk109⟩, D, d, hh⟩), fun h => (by cases h)⟩
structure BK (W : World) (A : Option Addr) (c : Nat) (b : List Int) : Prop where
 c1 : Kd.C (Kd.int .u8) W A b.length b
 l1 : b.length ≤ c
theorem BK.below {W W' : World} {A : Option Addr} {c : Nat} {b : List Int} (k : BK W A c b) {n : Nat} (hb : Below n W W') (hn : W.heap.size ≤ n) : BK W' A c b := ⟨Kd.C_below k.c1 (hb.mono hn), k.l1⟩
theorem BK.alloc {W : World} {A : Option Addr} {c : Nat} {b : List Int} (k : BK W A c b) (o : Obj) : BK (W.alloc o) A c b := k.below (below_alloc (Below.refl _ _) o) (Nat.le_refl _)
theorem bytesB {W : World} {A : Option Addr} {c : Nat} {b : List Int} (k : BK W A c b) (hl : b.length ≤ 1048576) :
  Calls Try.prog 10 #[.slice A b.length c] W fun e w' => ∃ A' c', e = .returned (.slice A' b.length c') ∧ BK w' A' c' b ∧ Below W.heap.size W w' :=
 (hbytes_c zk6 k.c1 k.l1 (Below.refl _ _)).mono fun _ _ ⟨A', c', he, h1, h2, hb⟩ => ⟨A', c', he, ⟨h2, h1⟩, hb⟩
theorem pputB {W : World} {A : Option Addr} {c : Nat} {b : List Int} (k : BK W A c b) {A1 : Option Addr} {c1 : Nat} {B1 : Option Addr} {d1 : Nat} {v : SV} (s : SK W A1 c1 v.h B1 d1 v.k) (hw : v.wf) (ho : v.ok = true) (hl : b.length ≤ 1048576) {X : List Int} (hX : b ++ pairB v = X) :
  Calls Try.prog 33 #[.slice A b.length c, .agg #[.slice A1 v.h.length c1, .slice B1 v.k.length d1, .int .u64 v.g.n, .int .u64 v.g.nans, .int .u64 v.g.lo, .int .u64 v.g.hi]] W fun e w' => ∃ A' c', e = .returned (.slice A' X.length c') ∧ BK w' A' c' X ∧ Below W.heap.size W w' := by
 subst hX
 exact (pair_Put.calls A c b A1 c1 v.h B1 d1 v.k v.g.n v.g.nans v.g.lo v.g.hi _ W k.c1 k.l1 s.c1 s.l1 s.c2 s.l2 (pairPut_eq v hw ho b zk6)).mono fun _ _ ⟨x, he, hR, hb⟩ => by
  obtain ⟨A', c', rfl, h1, h2⟩ := Kd.R_reads hR; exact ⟨A', c', he, ⟨h2, h1⟩, hb⟩
theorem rputB {W : World} {A : Option Addr} {c : Nat} {B : Option Addr} {d : Nat} {v : SV} (s : SK W A c v.h B d v.k) (hw : v.wf) (ho : v.ok = true) {Y : List Int} (hY : pairB v = Y) :
  Calls Try.prog 36 #[.agg #[.slice A v.h.length c, .slice B v.k.length d, .int .u64 v.g.n, .int .u64 v.g.nans, .int .u64 v.g.lo, .int .u64 v.g.hi]] W fun e w' => ∃ A' c', e = .returned (.slice A' Y.length c') ∧ BK w' A' c' Y ∧ Below W.heap.size W w' := by
 subst hY
 exact (varveref10_Put.calls 9000 A c v.h B d v.k v.g.n v.g.nans v.g.lo v.g.hi _ W s.c1 s.l1 s.c2 s.l2 (ref10Put_eq v hw ho)).mono fun _ _ ⟨x, he, hR, hb⟩ => by
  obtain ⟨A', c', rfl, h1, h2⟩ := Kd.R_reads hR; exact ⟨A', c', he, ⟨h2, h1⟩, hb⟩
theorem pgetB_yes {W : World} {A : Option Addr} {c : Nat} {b : List Int} (k : BK W A c b) (hby : WBy b) {a : Int} {v : SV} {q : Nat} (h : pairAt b a = some (v, q)) :
  Calls Try.prog 35 #[.slice A b.length c, .int .i64 a] W fun e w' => ∃ A' c' B' d', e = .returned (.tuple #[.agg #[.slice A' v.h.length c', .slice B' v.k.length d', .int .u64 v.g.n, .int .u64 v.g.nans, .int .u64 v.g.lo, .int .u64 v.g.hi], .int .i64 (q : Int), .bool true]) ∧ SK w' A' c' v.h B' d' v.k ∧ Below W.heap.size W w' := by
 have e := pairGet_eq hby a; rw [h] at e; have hs := pairAt_sk hby h
 exact (pair_Get.calls A c b a _ _ _ _ _ _ _ _ W k.c1 k.l1 e).mono fun _ _ ⟨x, y, he, hR, hS, hb⟩ => by
  obtain ⟨A', c', rfl, h1, h2⟩ := Kd.R_reads hR; obtain ⟨B', d', rfl, h3, h4⟩ := Kd.R_reads hS; exact ⟨A', c', B', d', he, ⟨h2, h1, h4, h3, zk6, zk6⟩, hb⟩
theorem pgetB_no {W : World} {A : Option Addr} {c : Nat} {b : List Int} (k : BK W A c b) (hby : WBy b) {a : Int} (h : pairAt b a = none) :
  Calls Try.prog 35 #[.slice A b.length c, .int .i64 a] W fun e w' => ∃ A' c' B' d', e = .returned (.tuple #[.agg #[.slice A' 0 c', .slice B' 0 d', .int .u64 0, .int .u64 0, .int .u64 0, .int .u64 0], .int .i64 0, .bool false]) ∧ SK w' A' c' [] B' d' [] ∧ Below W.heap.size W w' := by
 have e := pairGet_eq hby a; rw [h] at e
 exact (pair_Get.calls A c b a _ _ _ _ _ _ _ _ W k.c1 k.l1 e).mono fun _ _ ⟨x, y, he, hR, hS, hb⟩ => by
  obtain ⟨A', c', rfl, h1, h2⟩ := Kd.R_reads hR; obtain ⟨B', d', rfl, h3, h4⟩ := Kd.R_reads hS; exact ⟨A', c', B', d', he, ⟨h2, h1, h4, h3, zk47, zk47⟩, hb⟩
theorem rsameZ {W : World} {A : Option Addr} {c : Nat} {B : Option Addr} {d : Nat} (k : SK W A c [] B d []) :
  Calls Try.prog 20 #[.agg #[.slice A 0 c, .slice B 0 d, .int .u64 0, .int .u64 0, .int .u64 0, .int .u64 0], .agg #[.slice none 0 0, .slice none 0 0, .int .u64 0, .int .u64 0, .int .u64 0, .int .u64 0]] W fun e w' => e = .returned (.bool true) ∧ Below W.heap.size W w' :=
 rsameV (v := zV) k (SK.zero W)
theorem rgetB_yes {W : World} {A : Option Addr} {c : Nat} {b : List Int} (k : BK W A c b) (hby : WBy b) {a : Int} {v : SV} {q : Nat} (h : pairAt b a = some (v, q)) {g : Nat} (hg : g = W.heap.size) :
  Calls Try.prog 37 #[.pointer (some ⟨g, 0, none⟩)] (W.alloc (.cells #[.slice A b.length c, .int .i64 a, .bool false] 29)) fun e w' => ∃ A' c' B' d', e = .returned (.agg #[.slice A' v.h.length c', .slice B' v.k.length d', .int .u64 v.g.n, .int .u64 v.g.nans, .int .u64 v.g.lo, .int .u64 v.g.hi]) ∧ SK w' A' c' v.h B' d' v.k ∧
   (∃ D d, w'.heap[g]? = some (.cells #[.slice D b.length d, .int .i64 (q : Int), .bool false] 29)) ∧ Below W.heap.size W w' := by
 subst hg
 exact (rpget_c hby k.l1 a k.c1 (Below.refl _ _)).mono fun _ _ ⟨hb, h1, _⟩ => by
  obtain ⟨A', c', B', d', he, hs, hh⟩ := h1 v q h; exact ⟨A', c', B', d', he, hs, hh, hb⟩
theorem rgetB_no {W : World} {A : Option Addr} {c : Nat} {b : List Int} (k : BK W A c b) (hby : WBy b) {a : Int} (h : pairAt b a = none) {g : Nat} (hg : g = W.heap.size) :
  Calls Try.prog 37 #[.pointer (some ⟨g, 0, none⟩)] (W.alloc (.cells #[.slice A b.length c, .int .i64 a, .bool false] 29)) fun e w' => ∃ A' c' B' d', e = .returned (.agg #[.slice A' 0 c', .slice B' 0 d', .int .u64 0, .int .u64 0, .int .u64 0, .int .u64 0]) ∧
   (∃ q D d, w'.heap[g]? = some (.cells #[.slice D b.length d, .int .i64 q, .bool true] 29)) ∧ Below W.heap.size W w' := by
 subst hg
 exact (rpget_c hby k.l1 a k.c1 (Below.refl _ _)).mono fun _ _ ⟨hb, _, h2⟩ => by
  obtain ⟨⟨A', c', B', d', he⟩, hh⟩ := h2 h; exact ⟨A', c', B', d', he, hh, hb⟩
end Go.Proofs.Ytplgffbfepnihaa
namespace Go.Proofs.Ytplgffbfepnihaa
open Go.RowKit Go.ChangeShapes Go.WideShapes Go.Deep Go.Proofs.YtplgffbfepnihaaW.PrintWords
theorem opens22 : Opens Try.prog 22 (Kd.slice 5 (Kd.int .u8)) (fun b => Pure.WBy b ∧ b.length ≤ 140737488351232) :=
 Opens.imp (opens_slice (B := 1) Try.underlying22 zk11 zk11 (opens_int Try.underlying5)) fun y h => ⟨⟨zk6, fun x hx => by
  have := h.2.2 x hx; simp [Lit.wf, IntKind.min, IntKind.max, IntKind.bits, IntKind.signed] at this
  omega⟩, zk6⟩
end Go.Proofs.Ytplgffbfepnihaa
namespace Go.Proofs.Ytplgffbfepnihaa
open Go.RowKit Go.ChangeShapes Go.WideShapes Go.Deep Go.Proofs.YtplgffbfepnihaaW.PrintWords
theorem bulk_one {H : Type} (d : DataW H) : 1 ≤ Rows.uptoBulk d := by
 cases d with
 | lit l => cases l <;> simp [Rows.uptoBulk]
 | _ => simp [Rows.uptoBulk]
theorem bulk_all {H : Type} : ∀ l : List (DataW H), l.length ≤ Rows.uptoBulkAll l
 | [] => by simp [Rows.uptoBulkAll]
 | x :: r => by have := bulk_one x; have := bulk_all r; simp only [Rows.uptoBulkAll, List.length_cons]; omega
theorem bulk_len {P : Program} {t e : TypeId} (ht : P.underlying t = some (.slice e)) {H : Type} {enc : TypeId × Value → H} {W : World} {base : Nat} {spare : Nat → Bool} {held : Bool} {A : Option Addr} {n c : Nat} {x : DataW H} {p : List MemPlace}
  (hx : DataW.Trod enc P W base spare held t (.slice A n c) x p) : n ≤ Rows.uptoBulk x := by
 obtain ⟨fuel, hf⟩ := hx
 rcases open_slice ht hf with ⟨h, _⟩ | ⟨a, len, cap, m, k, D, Pl, h, _, _, _, _, he, _⟩
 ·simp [Value.cells] at h; omega
 ·simp [Value.cells] at h; obtain ⟨-, rfl, -⟩ := h; have e : x = .slice ((List.range n).map D) ((List.range (m - n)).map fun j => D (n + j)) := congrArg Prod.fst he; rw [e, Rows.uptoBulk]; have := bulk_all ((List.range n).map D); rw [List.length_map, List.length_range] at this; omega
theorem bulk_hk {H : Type} {l : List (DataW H)} (hk : Rows.uptoSmall H l = true) : Rows.uptoBulkAll l ≤ 1048576 := of_decide_eq_true hk
end Go.Proofs.Ytplgffbfepnihaa
