/- What the laws of this folder share, part 1: walks of functions over their Go text, and plain lemmas. Conditions: as each lemma says. -/
import Derived.Test.YtlkhdbfhnpbbhaaJnM0
set_option linter.unusedVariables false
set_option linter.unusedSimpArgs false
namespace Go.Proofs.Ytlkhdbfhnpbbhaa.Ix
open Go.RowKit Go.Proofs.YtlkhdbfhnpbbhaaW.PrintWords Go.Proofs.YtlkhdbfhnpbbhaaW.PrintLast Go.Proofs.YtlkhdbfhnpbbhaaW.PrintMore
attribute [local go_sem] gtr_swap leq_swap
mutual
def label_Check.j0 : Nat → List (S41) → Bool → Option (Bool)
 | 0, _, _ => none
 | k + 1, x0, x12 => if x12 = true then (some false) else (label_Check.l0 k x0 x0 (x0.length : Int) 0)
def label_Check.l0 : Nat → List (S41) → List (S41) → Int → Int → Option (Bool)
 | 0, _, _, _, _ => none
 | k + 1, x0, x13, x14, x15 => if x15 < x14 then (if 0 ≤ x15 then (if x15 < (x13.length : Int) then ((label_Name.f k ((rd_T41 x13 x15).f0)).bind fun t103 => (if t103 = true then (if (((rd_T41 x13 x15).f1).size : Int) < 1 then (some false) else (if (((rd_T41 x13 x15).f1).size : Int) > 64 then (some false) else (if x15 > 0 then (if 0 ≤ (wrap64 (x15 - 1)) then (if (wrap64 (x15 - 1)) < (x0.length : Int) then (if ((Op.bytesLess (((rd_T41 x0 (wrap64 (x15 - 1))).f0).toList) (((rd_T41 x13 x15).f0).toList)) = true) then (label_Check.l0 k x0 x13 x14 (wrap64 (x15 + 1))) else (some false)) else (none)) else (none)) else (label_Check.l0 k x0 x13 x14 (wrap64 (x15 + 1)))))) else (some false))) else (none)) else (none)) else (some true)
end
def label_Check.f (k : Nat) (l0 : List (S41)) : Option (Bool) := if (l0.length : Int) < 1 then (label_Check.j0 k l0 true) else (label_Check.j0 k l0 (decide ((l0.length : Int) > 8)))
def label_Check.T6 : Bool × List (List Nat × List Nat) := (true, [([], []), ([0], [0]), ([1], [1]), ([2], [2]), ([3, 2], [3]), ([4], [4]), ([5, 4], [4, 5]), ([6, 4], [4, 6]), ([7, 4], [4, 7]), ([4, 8], [4, 8]), ([9, 4], [9]), ([10], [10]), ([11, 10], [10, 11]), ([12, 10], [10, 12]), ([13, 10], [10, 13]), ([10, 14], [10, 14]), ([15, 10], [15]), ([16], [16]), ([17, 16], [16, 17]), ([18, 16, 16], [16, 18]), ([19], [19]), ([20, 19], [19, 20]), ([19], [19]), ([19], [19]), ([23, 19], [19, 23]), ([22, 24, 19], [19, 22, 24]), ([25, 19], [19, 25]), ([26, 19], [19, 26]), ([21, 27, 19], [19, 21, 27]), ([19, 28, 16], [16, 19, 28]), ([16, 29], [16, 29])])
def label_Check.B6 : List Nat := [0, 1, 3, 7, 15, 31, 63, 127, 255, 511, 1023, 2047, 4095, 8191, 16383, 32767, 65535, 131071, 262143, 524287, 1048575, 2097151, 1048575, 1048575, 9437183, 30408703, 63963135, 131071999, 268435455, 536870911, 1073741823]
theorem label_Check.tab6 : rtab .any (opsOf Try.f35 6) = label_Check.T6 := by kernel_rfl
theorem label_Check.bits6 : waitsOk label_Check.T6.2 label_Check.B6 = true := by kernel_rfl
set_option maxHeartbeats 8000000 in
set_option maxRecDepth 100000 in
theorem label_Check.calls (k : Nat) (A0 : Option Addr) (c0 : Nat) (l0 : List (S41)) (r : Bool) (w : World) (hr0 : Kd.C k41 w A0 l0.length l0) (hc0 : l0.length ≤ c0) (h : label_Check.f k l0 = some r) :
  Calls Try.prog 35 #[.slice A0 l0.length c0] w fun e w' => e = .returned (.bool r) ∧ Below w.heap.size w w' := by
 have hu41 := Try.underlying41; have HR0 := mkA hr0; have HC0 := mkA hc0; clear hr0 hc0; have HB := mkA (Below.refl w.heap.size w); have H : (if (l0.length : Int) < 1 then (label_Check.j0 k l0 true) else (label_Check.j0 k l0 (decide ((l0.length : Int) > 8)))) = some r := h; clear h; have HC2 := mkA H; clear H; go_enter Try.func35, Try.ntmps35; go_upto_region 1 with (fail)
 go_cut [12] (fun v12 wc => ∃ (kq : Nat) (x12_1 : Bool), v12 = .bool x12_1 ∧ Aside0 (label_Check.j0 kq l0 x12_1 = some r) ∧ Aside0 (kq ≤ k) ∧ Aside0 (Below w.heap.size w wc))
 case first =>
  have H := HC2.out; clear HC2; by_cases c3 : (l0.length : Int) < 1
  ·rw [if_pos c3] at H
   have c3b0 : decide ((l0.length : Int) < 1) = true := decide_eq_true c3; have c3b1 : decide (l0.length < 1) = true := decide_eq_true zk12; clear c3; (first | rw [c3b0] | (simp only [i64_w, i32_w]; rw [c3b0]) | skip); have H' := mkA H; clear H; go_wp2; go_meet
   case rel => exact ⟨_, (true), zk6, H', ⟨zk31⟩, ⟨zk1⟩⟩
  ·rw [if_neg c3] at H
   have c3b0 : decide ((l0.length : Int) < 1) = false := decide_eq_false c3; have c3b1 : decide (l0.length < 1) = false := decide_eq_false zk12; clear c3; (first | rw [c3b0] | (simp only [i64_w, i32_w]; rw [c3b0]) | skip); have H' := mkA H; clear H; go_wp2; go_meet
   case rel => exact ⟨_, (decide ((l0.length : Int) > 8)), zk6, H', ⟨zk31⟩, ⟨zk1⟩⟩
 case rest =>
  clear HC2; (try clear p2); (try clear c3); (try clear c3b0); (try clear c3b1); obtain ⟨kq, x12_1, rfl, HA, HJ1, HB⟩ := hcut
  cases kq with
  | zero => exact absurd HA.out (by simp [label_Check.j0])
  | succ kj1 =>
   have H := HA.out; clear HA; simp only [label_Check.j0] at H; by_cases c4 : x12_1 = true
   ·subst c4
    have H1 : (some false) = some r := zk29
    clear H; have H := H1; clear H1; obtain rfl := Option.some.inj H; go_wp2; go_ret
    exact ⟨zk4, zk1⟩
   ·replace c4 := Bool.eq_false_iff.mpr c4
    subst c4; have H1 : (label_Check.l0 kj1 l0 l0 (l0.length : Int) 0) = some r := zk23
    clear H; have H := H1; clear H1; have H' := mkA H; clear H; go_wp2; go_loopg [15] kj1 (fun kq v15 w' => ∃ (x15_2 : Int), v15 = .int .i64 x15_2 ∧ Aside0 (label_Check.l0 kq l0 l0 (l0.length : Int) x15_2 = some r) ∧ Aside0 (kq ≤ kj1) ∧ Aside0 (Below w.heap.size w w'))
    case atStart => exact ⟨(0), zk6, H', ⟨Nat.le_refl _⟩, ⟨zk1⟩⟩
    case round =>
     clear H'; (try clear p2); (try clear c3); (try clear c3b0); (try clear c3b1); (try clear c4); (try clear p2); obtain ⟨x15_2, rfl, HA, HK2, HB⟩ := hrel
     cases gk with
     | zero => exact absurd HA.out (by simp [label_Check.l0])
     | succ k2 =>
      have H := HA.out; clear HA; simp only [label_Check.l0] at H; by_cases c5 : x15_2 < (l0.length : Int)
      ·rw [if_pos c5] at H
       have c5b0 : decide (x15_2 < (l0.length : Int)) = true := decide_eq_true c5; clear c5; by_cases c6 : 0 ≤ x15_2
       ·rw [if_pos c6] at H
        have c6b0 : decide (0 ≤ x15_2) = true := decide_eq_true c6; clear c6; by_cases c7 : x15_2 < (l0.length : Int)
        ·rw [if_pos c7] at H
         have c7b0 : decide (x15_2 < (l0.length : Int)) = true := decide_eq_true c7; clear c7; replace H := Option.bind_eq_some_iff.mp H; obtain ⟨t103, A80, H⟩ := H; replace H : (if t103 = true then (if (((rd_T41 l0 x15_2).f1).size : Int) < 1 then (some false) else (if (((rd_T41 l0 x15_2).f1).size : Int) > 64 then (some false) else (if x15_2 > 0 then (if 0 ≤ (wrap64 (x15_2 - 1)) then (if (wrap64 (x15_2 - 1)) < (l0.length : Int) then (if ((Op.bytesLess (((rd_T41 l0 (wrap64 (x15_2 - 1))).f0).toList) (((rd_T41 l0 x15_2).f0).toList)) = true) then (label_Check.l0 k2 l0 l0 (l0.length : Int) (wrap64 (x15_2 + 1))) else (some false)) else (none)) else (none)) else (label_Check.l0 k2 l0 l0 (l0.length : Int) (wrap64 (x15_2 + 1)))))) else (some false)) = some r := H; have A8 := mkA A80; clear A80; by_cases c9 : t103 = true
         ·subst c9
          have H1 : (if (((rd_T41 l0 x15_2).f1).size : Int) < 1 then (some false) else (if (((rd_T41 l0 x15_2).f1).size : Int) > 64 then (some false) else (if x15_2 > 0 then (if 0 ≤ (wrap64 (x15_2 - 1)) then (if (wrap64 (x15_2 - 1)) < (l0.length : Int) then (if ((Op.bytesLess (((rd_T41 l0 (wrap64 (x15_2 - 1))).f0).toList) (((rd_T41 l0 x15_2).f0).toList)) = true) then (label_Check.l0 k2 l0 l0 (l0.length : Int) (wrap64 (x15_2 + 1))) else (some false)) else (none)) else (none)) else (label_Check.l0 k2 l0 l0 (l0.length : Int) (wrap64 (x15_2 + 1)))))) = some r := zk29
          clear H; have H := H1; clear H1; by_cases c10 : (((rd_T41 l0 x15_2).f1).size : Int) < 1
          ·rw [if_pos c10] at H
           have c10b0 : decide ((((rd_T41 l0 x15_2).f1).size : Int) < 1) = true := decide_eq_true c10; have c10b1 : decide (((rd_T41 l0 x15_2).f1).size < 1) = true := decide_eq_true zk12; clear c10; obtain rfl := Option.some.inj H; have p101 : 0 ≤ (x15_2 : Int) := of_decide_eq_true zk2; have q101 : x15_2 < (l0.length : Int) := of_decide_eq_true zk2; obtain ⟨ad101, e101, hx101_0, hx101_1⟩ := at_T41 HR0.out x15_2 p101 q101; cases e101; replace hx101_0 := (HB.out.cell (World.block_lt_of_cell? w _ hx101_0)).trans hx101_0; replace hx101_1 := (HB.out.cell (World.block_lt_of_cell? w _ hx101_1)).trans hx101_1; replace p101 := eq_true p101; replace q101 := eq_true q101; (try go_wp2_with (first | ((with_reducible refine gate_dst (N := 4) rfl ?_); (try (refine gate_guard zk16 ?_; dsimp only)); refine box_event ?hg (N := 4) ?hd (cs := #[.string (⟨#[]⟩ : ByteArray), .string (⟨#[]⟩ : ByteArray)]) (t := 41) ?hr ?_; (case hd => exact zk16); (case hg => exact zk16); (case hr => exact zk9); intro gb102 hg w11 hbox hb; have n0_ := mkA (below_step zk1 hb); have n1_ := mkA (hbox); have n2_ := mkA ((by rw [hg]; exact (below_size zk1) : w.heap.size ≤ gb102)); have n3_ := mkA ((by rw [hg]; exact (below_size zk1) : w.heap.size ≤ gb102)); clear HB; have HB := n0_; have BK102 := n1_; have GW102 := n2_; have GE102 := n3_; clear n0_ n1_ n2_ n3_; clear hb hbox hg; obtain ⟨hcz12_0, hcz12_1, hfz12_0, hfz12_1⟩ := cf2 BK102.out))); have n0_ : Aside0 (((w11.setCell ⟨gb102, 0, none⟩ (.string ((rd_T41 l0 x15_2).f0))).setCell ⟨gb102, 1, none⟩ (.string ((rd_T41 l0 x15_2).f1))).heap[gb102]? = some (.cells #[.string ((rd_T41 l0 x15_2).f0), .string ((rd_T41 l0 x15_2).f1)] 41 (0, 0))) := ⟨zk14⟩
           have n1_ : Aside0 (Below w.heap.size w ((w11.setCell ⟨gb102, 0, none⟩ (.string ((rd_T41 l0 x15_2).f0))).setCell ⟨gb102, 1, none⟩ (.string ((rd_T41 l0 x15_2).f1)))) := ⟨zk18⟩
           (try clear BK102); (try clear HB); generalize ((w11.setCell ⟨gb102, 0, none⟩ (.string ((rd_T41 l0 x15_2).f0))).setCell ⟨gb102, 1, none⟩ (.string ((rd_T41 l0 x15_2).f1))) = w13 at n0_ n1_ ⊢; have BK102 := n0_; have HB := n1_; clear n0_ n1_; have n0_ := mkA (blk_drew BK102.out); have n1_ := mkA (below_drew1 HB.out); clear BK102; clear HB; have BK102 := n0_; have HB := n1_; clear n0_ n1_; refine start_ (n := 31) (S := fun w' => w'.cell? ⟨gb102, 0, none⟩ = some (.string ((rd_T41 l0 x15_2).f0)) ∧ w'.cell? ⟨gb102, 1, none⟩ = some (.string ((rd_T41 l0 x15_2).f1))) (ds := []) #[false, false, false, false, false, false, false, false, false, false, false, false, false, false, false, false, false, false, false, false, false, false, false, false, false, false, false, false, false, false, false] zk3 rfl rfl ⟨(blk_cell BK102.out 0).trans rfl, (blk_cell BK102.out 1).trans rfl⟩ (fun hHeld => ?_); refine with_tabW label_Check.tab6 label_Check.bits6 (fun HT_ HW_ => ?_); generalize w13.drew = w14 at BK102 HB hHeld ⊢; refine pure_ (i := 0) (N := some 20) (v := ?_) (a' := ?_) #[true, false, false, false, false, false, false, false, false, false, false, false, false, false, false, false, false, false, false, false, false, false, false, false, false, false, false, false, false, false, false] rfl rfl (any_of HT_.out zk3) (fun _ _ _ h => h) (Or.inl ⟨zk16, ?_⟩) ?_ ?_; rotate_left
           ·exact zk95
           rotate_left
           ·exact zk94
           refine take_ (i := 1) (N := some 21) (v := ?_) (a' := ?_) #[true, true, false, false, false, false, false, false, false, false, false, false, false, false, false, false, false, false, false, false, false, false, false, false, false, false, false, false, false, false, false] rfl rfl (take_ofW HT_.out HW_.out zk3) (fun _ _ _ h => h) (Or.inl ⟨zk16, ?_⟩) hHeld ?_ ?_; rotate_left
           ·exact zk101
           rotate_left
           ·exact zk94
           refine one_ (i := 2) (N := some 22) #[true, true, true, false, false, false, false, false, false, false, false, false, false, false, false, false, false, false, false, false, false, false, false, false, false, false, false, false, false, false, false] rfl rfl (one_of HT_.out zk3) zk40 (fun K hK => ?_); refine goes_ Try.func54 zk3 rfl #[.string ((rd_T41 l0 x15_2).f0)] zk16 rfl rfl zk5 ?_; (with_reducible refine (label_Name.calls k2 ((rd_T41 l0 x15_2).f0) true _ A8.out).mono ?_); rintro e w' ⟨rfl, ⟨nd, rfl⟩⟩; refine ⟨_, rfl, ?_⟩; refine hK.out _ _ ⟨(blk_cell BK102.out 0).trans rfl, (blk_cell BK102.out 1).trans rfl⟩ (fun hHeld => ?_); clear hK K; refine norm_ (a' := ?_) ?_ ?_; rotate_left
           ·exact zk97
           refine pure_ (i := 3) (N := some 23) (v := ?_) (a' := ?_) #[true, true, true, true, false, false, false, false, false, false, false, false, false, false, false, false, false, false, false, false, false, false, false, false, false, false, false, false, false, false, false] rfl rfl (any_of HT_.out zk3) (fun _ _ _ h => h) (Or.inl ⟨zk16, ?_⟩) ?_ ?_; rotate_left
           ·exact zk95
           rotate_left
           ·exact zk94
           refine pure_ (i := 4) (N := some 24) (v := ?_) (a' := ?_) #[true, true, true, true, true, false, false, false, false, false, false, false, false, false, false, false, false, false, false, false, false, false, false, false, false, false, false, false, false, false, false] rfl rfl (any_of HT_.out zk3) (fun _ _ _ h => h) (Or.inl ⟨zk16, ?_⟩) ?_ ?_; rotate_left
           ·exact zk95
           rotate_left
           ·exact zk94
           refine pure_ (i := 5) (N := some 25) (v := ?_) (a' := ?_) #[true, true, true, true, true, true, false, false, false, false, false, false, false, false, false, false, false, false, false, false, false, false, false, false, false, false, false, false, false, false, false] rfl rfl (any_of HT_.out zk3) (fun _ _ _ h => h) (Or.inl ⟨zk16, ?_⟩) ?_ ?_; rotate_left
           ·exact zk95
           rotate_left
           ·exact zk94
           refine take_ (i := 6) (N := some 26) (v := ?_) (a' := ?_) #[true, true, true, true, true, true, true, false, false, false, false, false, false, false, false, false, false, false, false, false, false, false, false, false, false, false, false, false, false, false, false] rfl rfl (take_ofW HT_.out HW_.out zk3) (fun _ _ _ h => h) (Or.inl ⟨zk16, ?_⟩) hHeld ?_ ?_; rotate_left
           ·exact zk101
           rotate_left
           ·exact zk94
           refine pure_ (i := 7) (N := some 27) (v := ?_) (a' := ?_) #[true, true, true, true, true, true, true, true, false, false, false, false, false, false, false, false, false, false, false, false, false, false, false, false, false, false, false, false, false, false, false] rfl rfl (any_of HT_.out zk3) (fun _ _ _ h => h) (Or.inl ⟨zk16, ?_⟩) ?_ ?_; rotate_left
           ·exact zk95
           rotate_left
           ·exact zk94
           refine pure_ (i := 8) (N := some 28) (v := ?_) (a' := ?_) #[true, true, true, true, true, true, true, true, true, false, false, false, false, false, false, false, false, false, false, false, false, false, false, false, false, false, false, false, false, false, false] rfl rfl (any_of HT_.out zk3) (fun _ _ _ h => h) (Or.inl ⟨zk16, ?_⟩) ?_ ?_; rotate_left
           ·exact zk95
           rotate_left
           ·exact zk94
           refine pure_ (i := 9) (N := some 29) (v := ?_) (a' := ?_) #[true, true, true, true, true, true, true, true, true, true, false, false, false, false, false, false, false, false, false, false, false, false, false, false, false, false, false, false, false, false, false] rfl rfl (any_of HT_.out zk3) (fun _ _ _ h => h) (Or.inl ⟨zk16, ?_⟩) ?_ ?_; rotate_left
           ·exact zk95
           rotate_left
           ·exact zk94
           refine pure_ (i := 10) (N := some 30) (v := ?_) (a' := ?_) #[true, true, true, true, true, true, true, true, true, true, true, false, false, false, false, false, false, false, false, false, false, false, false, false, false, false, false, false, false, false, false] rfl rfl (any_of HT_.out zk3) (fun _ _ _ h => h) (Or.inl ⟨zk16, ?_⟩) ?_ ?_; rotate_left
           ·exact zk95
           rotate_left
           ·exact zk94
           refine pure_ (i := 11) (N := some 31) (v := undef) (a' := ?_) #[true, true, true, true, true, true, true, true, true, true, true, true, false, false, false, false, false, false, false, false, false, false, false, false, false, false, false, false, false, false, false] rfl rfl (any_of HT_.out zk3) (fun _ _ _ h => h) (Or.inr ⟨zk16, rfl⟩) ?_ ?_; rotate_left
           ·exact zk94
           refine pure_ (i := 12) (N := some 32) (v := undef) (a' := ?_) #[true, true, true, true, true, true, true, true, true, true, true, true, true, false, false, false, false, false, false, false, false, false, false, false, false, false, false, false, false, false, false] rfl rfl (any_of HT_.out zk3) (fun _ _ _ h => h) (Or.inr ⟨zk16, rfl⟩) ?_ ?_; rotate_left
           ·exact zk94
           refine pure_ (i := 13) (N := some 33) (v := undef) (a' := ?_) #[true, true, true, true, true, true, true, true, true, true, true, true, true, true, false, false, false, false, false, false, false, false, false, false, false, false, false, false, false, false, false] rfl rfl (any_of HT_.out zk3) (fun _ _ _ h => h) (Or.inr ⟨zk16, rfl⟩) ?_ ?_; rotate_left
           ·exact zk94
           refine pure_ (i := 14) (N := some 34) (v := undef) (a' := ?_) #[true, true, true, true, true, true, true, true, true, true, true, true, true, true, true, false, false, false, false, false, false, false, false, false, false, false, false, false, false, false, false] rfl rfl (any_of HT_.out zk3) (fun _ _ _ h => h) (Or.inr ⟨zk16, rfl⟩) ?_ ?_; rotate_left
           ·exact zk94
           refine pure_ (i := 15) (N := some 35) (v := ?_) (a' := ?_) #[true, true, true, true, true, true, true, true, true, true, true, true, true, true, true, true, false, false, false, false, false, false, false, false, false, false, false, false, false, false, false] rfl rfl (any_of HT_.out zk3) (fun _ _ _ h => h) (Or.inl ⟨zk16, ?_⟩) ?_ ?_; rotate_left
           ·exact zk95
           rotate_left
           ·exact zk94
           refine pure_ (i := 16) (N := some 36) (v := ?_) (a' := ?_) #[true, true, true, true, true, true, true, true, true, true, true, true, true, true, true, true, true, false, false, false, false, false, false, false, false, false, false, false, false, false, false] rfl rfl (any_of HT_.out zk3) (fun _ _ _ h => h) (Or.inl ⟨zk16, ?_⟩) ?_ ?_; rotate_left
           ·exact zk95
           rotate_left
           ·exact zk94
           refine pure_ (i := 17) (N := some 37) (v := undef) (a' := ?_) #[true, true, true, true, true, true, true, true, true, true, true, true, true, true, true, true, true, true, false, false, false, false, false, false, false, false, false, false, false, false, false] rfl rfl (any_of HT_.out zk3) (fun _ _ _ h => h) (Or.inr ⟨zk16, rfl⟩) ?_ ?_; rotate_left
           ·exact zk94
           refine pure_ (i := 18) (N := some 38) (v := undef) (a' := ?_) #[true, true, true, true, true, true, true, true, true, true, true, true, true, true, true, true, true, true, true, false, false, false, false, false, false, false, false, false, false, false, false] rfl rfl (any_of HT_.out zk3) (fun _ _ _ h => h) (Or.inr ⟨zk16, rfl⟩) ?_ ?_; rotate_left
           ·exact zk94
           refine pure_ (i := 19) (N := some 39) (v := undef) (a' := ?_) #[true, true, true, true, true, true, true, true, true, true, true, true, true, true, true, true, true, true, true, true, false, false, false, false, false, false, false, false, false, false, false] rfl rfl (any_of HT_.out zk3) (fun _ _ _ h => h) (Or.inr ⟨zk16, rfl⟩) ?_ ?_; rotate_left
           ·exact zk94
           refine pure_ (i := 20) (N := some 40) (v := undef) (a' := ?_) #[true, true, true, true, true, true, true, true, true, true, true, true, true, true, true, true, true, true, true, true, true, false, false, false, false, false, false, false, false, false, false] rfl rfl (any_of HT_.out zk3) (fun _ _ _ h => h) (Or.inr ⟨zk16, rfl⟩) ?_ ?_; rotate_left
           ·exact zk94
           refine pure_ (i := 21) (N := some 41) (v := undef) (a' := ?_) #[true, true, true, true, true, true, true, true, true, true, true, true, true, true, true, true, true, true, true, true, true, true, false, false, false, false, false, false, false, false, false] rfl rfl (any_of HT_.out zk3) (fun _ _ _ h => h) (Or.inr ⟨zk16, rfl⟩) ?_ ?_; rotate_left
           ·exact zk94
           refine pure_ (i := 22) (N := some 42) (v := undef) (a' := ?_) #[true, true, true, true, true, true, true, true, true, true, true, true, true, true, true, true, true, true, true, true, true, true, true, false, false, false, false, false, false, false, false] rfl rfl (any_of HT_.out zk3) (fun _ _ _ h => h) (Or.inr ⟨zk16, rfl⟩) ?_ ?_; rotate_left
           ·exact zk94
           refine pure_ (i := 23) (N := some 43) (v := undef) (a' := ?_) #[true, true, true, true, true, true, true, true, true, true, true, true, true, true, true, true, true, true, true, true, true, true, true, true, false, false, false, false, false, false, false] rfl rfl (any_of HT_.out zk3) (fun _ _ _ h => h) (Or.inr ⟨zk16, rfl⟩) ?_ ?_; rotate_left
           ·exact zk94
           refine pure_ (i := 24) (N := some 44) (v := undef) (a' := ?_) #[true, true, true, true, true, true, true, true, true, true, true, true, true, true, true, true, true, true, true, true, true, true, true, true, true, false, false, false, false, false, false] rfl rfl (any_of HT_.out zk3) (fun _ _ _ h => h) (Or.inr ⟨zk16, rfl⟩) ?_ ?_; rotate_left
           ·exact zk94
           refine pure_ (i := 25) (N := some 45) (v := undef) (a' := ?_) #[true, true, true, true, true, true, true, true, true, true, true, true, true, true, true, true, true, true, true, true, true, true, true, true, true, true, false, false, false, false, false] rfl rfl (any_of HT_.out zk3) (fun _ _ _ h => h) (Or.inr ⟨zk16, rfl⟩) ?_ ?_; rotate_left
           ·exact zk94
           refine pure_ (i := 26) (N := some 46) (v := undef) (a' := ?_) #[true, true, true, true, true, true, true, true, true, true, true, true, true, true, true, true, true, true, true, true, true, true, true, true, true, true, true, false, false, false, false] rfl rfl (any_of HT_.out zk3) (fun _ _ _ h => h) (Or.inr ⟨zk16, rfl⟩) ?_ ?_; rotate_left
           ·exact zk94
           refine pure_ (i := 27) (N := some 47) (v := undef) (a' := ?_) #[true, true, true, true, true, true, true, true, true, true, true, true, true, true, true, true, true, true, true, true, true, true, true, true, true, true, true, true, false, false, false] rfl rfl (any_of HT_.out zk3) (fun _ _ _ h => h) (Or.inr ⟨zk16, rfl⟩) ?_ ?_; rotate_left
           ·exact zk94
           refine pure_ (i := 28) (N := some 48) (v := undef) (a' := ?_) #[true, true, true, true, true, true, true, true, true, true, true, true, true, true, true, true, true, true, true, true, true, true, true, true, true, true, true, true, true, false, false] rfl rfl (any_of HT_.out zk3) (fun _ _ _ h => h) (Or.inr ⟨zk16, rfl⟩) ?_ ?_; rotate_left
           ·exact zk94
           refine pure_ (i := 29) (N := some 49) (v := undef) (a' := ?_) #[true, true, true, true, true, true, true, true, true, true, true, true, true, true, true, true, true, true, true, true, true, true, true, true, true, true, true, true, true, true, false] rfl rfl (any_of HT_.out zk3) (fun _ _ _ h => h) (Or.inr ⟨zk16, rfl⟩) ?_ ?_; rotate_left
           ·exact zk94
           refine pure_ (i := 30) (N := some 50) (v := ?_) (a' := ?_) #[true, true, true, true, true, true, true, true, true, true, true, true, true, true, true, true, true, true, true, true, true, true, true, true, true, true, true, true, true, true, true] rfl rfl (any_of HT_.out zk3) (fun _ _ _ h => h) (Or.inl ⟨zk16, ?_⟩) ?_ ?_; rotate_left
           ·exact zk95
           rotate_left
           ·exact zk94
           refine done_ (done_of HT_.out zk3) ?_; (try go_wp2); go_ret
           exact ⟨zk4, zk18⟩
          ·rw [if_neg c10] at H
           have c10b0 : decide ((((rd_T41 l0 x15_2).f1).size : Int) < 1) = false := decide_eq_false c10; have c10b1 : decide (((rd_T41 l0 x15_2).f1).size < 1) = false := decide_eq_false zk12; clear c10; by_cases c15 : (((rd_T41 l0 x15_2).f1).size : Int) > 64
           ·rw [if_pos c15] at H
            have c15b0 : decide (64 < (((rd_T41 l0 x15_2).f1).size : Int)) = true := decide_eq_true c15; have c15b1 : decide (64 < ((rd_T41 l0 x15_2).f1).size) = true := decide_eq_true zk12; clear c15; obtain rfl := Option.some.inj H; have p101 : 0 ≤ (x15_2 : Int) := of_decide_eq_true zk2; have q101 : x15_2 < (l0.length : Int) := of_decide_eq_true zk2; obtain ⟨ad101, e101, hx101_0, hx101_1⟩ := at_T41 HR0.out x15_2 p101 q101; cases e101; replace hx101_0 := (HB.out.cell (World.block_lt_of_cell? w _ hx101_0)).trans hx101_0; replace hx101_1 := (HB.out.cell (World.block_lt_of_cell? w _ hx101_1)).trans hx101_1; replace p101 := eq_true p101; replace q101 := eq_true q101; (try go_wp2_with (first | ((with_reducible refine gate_dst (N := 4) rfl ?_); (try (refine gate_guard zk16 ?_; dsimp only)); refine box_event ?hg (N := 4) ?hd (cs := #[.string (⟨#[]⟩ : ByteArray), .string (⟨#[]⟩ : ByteArray)]) (t := 41) ?hr ?_; (case hd => exact zk16); (case hg => exact zk16); (case hr => exact zk9); intro gb102 hg w16 hbox hb; have n0_ := mkA (below_step zk1 hb); have n1_ := mkA (hbox); have n2_ := mkA ((by rw [hg]; exact (below_size zk1) : w.heap.size ≤ gb102)); have n3_ := mkA ((by rw [hg]; exact (below_size zk1) : w.heap.size ≤ gb102)); clear HB; have HB := n0_; have BK102 := n1_; have GW102 := n2_; have GE102 := n3_; clear n0_ n1_ n2_ n3_; clear hb hbox hg; obtain ⟨hcz17_0, hcz17_1, hfz17_0, hfz17_1⟩ := cf2 BK102.out))); have n0_ : Aside0 (((w16.setCell ⟨gb102, 0, none⟩ (.string ((rd_T41 l0 x15_2).f0))).setCell ⟨gb102, 1, none⟩ (.string ((rd_T41 l0 x15_2).f1))).heap[gb102]? = some (.cells #[.string ((rd_T41 l0 x15_2).f0), .string ((rd_T41 l0 x15_2).f1)] 41 (0, 0))) := ⟨zk14⟩
            have n1_ : Aside0 (Below w.heap.size w ((w16.setCell ⟨gb102, 0, none⟩ (.string ((rd_T41 l0 x15_2).f0))).setCell ⟨gb102, 1, none⟩ (.string ((rd_T41 l0 x15_2).f1)))) := ⟨zk18⟩
            (try clear BK102); (try clear HB); generalize ((w16.setCell ⟨gb102, 0, none⟩ (.string ((rd_T41 l0 x15_2).f0))).setCell ⟨gb102, 1, none⟩ (.string ((rd_T41 l0 x15_2).f1))) = w18 at n0_ n1_ ⊢; have BK102 := n0_; have HB := n1_; clear n0_ n1_; have n0_ := mkA (blk_drew BK102.out); have n1_ := mkA (below_drew1 HB.out); clear BK102; clear HB; have BK102 := n0_; have HB := n1_; clear n0_ n1_; refine start_ (n := 31) (S := fun w' => w'.cell? ⟨gb102, 0, none⟩ = some (.string ((rd_T41 l0 x15_2).f0)) ∧ w'.cell? ⟨gb102, 1, none⟩ = some (.string ((rd_T41 l0 x15_2).f1))) (ds := []) #[false, false, false, false, false, false, false, false, false, false, false, false, false, false, false, false, false, false, false, false, false, false, false, false, false, false, false, false, false, false, false] zk3 rfl rfl ⟨(blk_cell BK102.out 0).trans rfl, (blk_cell BK102.out 1).trans rfl⟩ (fun hHeld => ?_); refine with_tabW label_Check.tab6 label_Check.bits6 (fun HT_ HW_ => ?_); generalize w18.drew = w19 at BK102 HB hHeld ⊢; refine pure_ (i := 0) (N := some 20) (v := ?_) (a' := ?_) #[true, false, false, false, false, false, false, false, false, false, false, false, false, false, false, false, false, false, false, false, false, false, false, false, false, false, false, false, false, false, false] rfl rfl (any_of HT_.out zk3) (fun _ _ _ h => h) (Or.inl ⟨zk16, ?_⟩) ?_ ?_; rotate_left
            ·exact zk95
            rotate_left
            ·exact zk94
            refine take_ (i := 1) (N := some 21) (v := ?_) (a' := ?_) #[true, true, false, false, false, false, false, false, false, false, false, false, false, false, false, false, false, false, false, false, false, false, false, false, false, false, false, false, false, false, false] rfl rfl (take_ofW HT_.out HW_.out zk3) (fun _ _ _ h => h) (Or.inl ⟨zk16, ?_⟩) hHeld ?_ ?_; rotate_left
            ·exact zk101
            rotate_left
            ·exact zk94
            refine one_ (i := 2) (N := some 22) #[true, true, true, false, false, false, false, false, false, false, false, false, false, false, false, false, false, false, false, false, false, false, false, false, false, false, false, false, false, false, false] rfl rfl (one_of HT_.out zk3) zk40 (fun K hK => ?_); refine goes_ Try.func54 zk3 rfl #[.string ((rd_T41 l0 x15_2).f0)] zk16 rfl rfl zk5 ?_; (with_reducible refine (label_Name.calls k2 ((rd_T41 l0 x15_2).f0) true _ A8.out).mono ?_); rintro e w' ⟨rfl, ⟨nd, rfl⟩⟩; refine ⟨_, rfl, ?_⟩; refine hK.out _ _ ⟨(blk_cell BK102.out 0).trans rfl, (blk_cell BK102.out 1).trans rfl⟩ (fun hHeld => ?_); clear hK K; refine norm_ (a' := ?_) ?_ ?_; rotate_left
            ·exact zk97
            refine pure_ (i := 3) (N := some 23) (v := ?_) (a' := ?_) #[true, true, true, true, false, false, false, false, false, false, false, false, false, false, false, false, false, false, false, false, false, false, false, false, false, false, false, false, false, false, false] rfl rfl (any_of HT_.out zk3) (fun _ _ _ h => h) (Or.inl ⟨zk16, ?_⟩) ?_ ?_; rotate_left
            ·exact zk95
            rotate_left
            ·exact zk94
            refine pure_ (i := 4) (N := some 24) (v := ?_) (a' := ?_) #[true, true, true, true, true, false, false, false, false, false, false, false, false, false, false, false, false, false, false, false, false, false, false, false, false, false, false, false, false, false, false] rfl rfl (any_of HT_.out zk3) (fun _ _ _ h => h) (Or.inl ⟨zk16, ?_⟩) ?_ ?_; rotate_left
            ·exact zk95
            rotate_left
            ·exact zk94
            refine pure_ (i := 5) (N := some 25) (v := ?_) (a' := ?_) #[true, true, true, true, true, true, false, false, false, false, false, false, false, false, false, false, false, false, false, false, false, false, false, false, false, false, false, false, false, false, false] rfl rfl (any_of HT_.out zk3) (fun _ _ _ h => h) (Or.inl ⟨zk16, ?_⟩) ?_ ?_; rotate_left
            ·exact zk95
            rotate_left
            ·exact zk94
            refine take_ (i := 6) (N := some 26) (v := ?_) (a' := ?_) #[true, true, true, true, true, true, true, false, false, false, false, false, false, false, false, false, false, false, false, false, false, false, false, false, false, false, false, false, false, false, false] rfl rfl (take_ofW HT_.out HW_.out zk3) (fun _ _ _ h => h) (Or.inl ⟨zk16, ?_⟩) hHeld ?_ ?_; rotate_left
            ·exact zk101
            rotate_left
            ·exact zk94
            refine pure_ (i := 7) (N := some 27) (v := ?_) (a' := ?_) #[true, true, true, true, true, true, true, true, false, false, false, false, false, false, false, false, false, false, false, false, false, false, false, false, false, false, false, false, false, false, false] rfl rfl (any_of HT_.out zk3) (fun _ _ _ h => h) (Or.inl ⟨zk16, ?_⟩) ?_ ?_; rotate_left
            ·exact zk95
            rotate_left
            ·exact zk94
            refine pure_ (i := 8) (N := some 28) (v := ?_) (a' := ?_) #[true, true, true, true, true, true, true, true, true, false, false, false, false, false, false, false, false, false, false, false, false, false, false, false, false, false, false, false, false, false, false] rfl rfl (any_of HT_.out zk3) (fun _ _ _ h => h) (Or.inl ⟨zk16, ?_⟩) ?_ ?_; rotate_left
            ·exact zk95
            rotate_left
            ·exact zk94
            refine pure_ (i := 9) (N := some 29) (v := ?_) (a' := ?_) #[true, true, true, true, true, true, true, true, true, true, false, false, false, false, false, false, false, false, false, false, false, false, false, false, false, false, false, false, false, false, false] rfl rfl (any_of HT_.out zk3) (fun _ _ _ h => h) (Or.inl ⟨zk16, ?_⟩) ?_ ?_; rotate_left
            ·exact zk95
            rotate_left
            ·exact zk94
            refine pure_ (i := 10) (N := some 30) (v := ?_) (a' := ?_) #[true, true, true, true, true, true, true, true, true, true, true, false, false, false, false, false, false, false, false, false, false, false, false, false, false, false, false, false, false, false, false] rfl rfl (any_of HT_.out zk3) (fun _ _ _ h => h) (Or.inl ⟨zk16, ?_⟩) ?_ ?_; rotate_left
            ·exact zk95
            rotate_left
            ·exact zk94
            refine pure_ (i := 11) (N := some 31) (v := ?_) (a' := ?_) #[true, true, true, true, true, true, true, true, true, true, true, true, false, false, false, false, false, false, false, false, false, false, false, false, false, false, false, false, false, false, false] rfl rfl (any_of HT_.out zk3) (fun _ _ _ h => h) (Or.inl ⟨zk16, ?_⟩) ?_ ?_; rotate_left
            ·exact zk95
            rotate_left
            ·exact zk94
            refine take_ (i := 12) (N := some 32) (v := ?_) (a' := ?_) #[true, true, true, true, true, true, true, true, true, true, true, true, true, false, false, false, false, false, false, false, false, false, false, false, false, false, false, false, false, false, false] rfl rfl (take_ofW HT_.out HW_.out zk3) (fun _ _ _ h => h) (Or.inl ⟨zk16, ?_⟩) hHeld ?_ ?_; rotate_left
            ·exact zk101
            rotate_left
            ·exact zk94
            refine pure_ (i := 13) (N := some 33) (v := ?_) (a' := ?_) #[true, true, true, true, true, true, true, true, true, true, true, true, true, true, false, false, false, false, false, false, false, false, false, false, false, false, false, false, false, false, false] rfl rfl (any_of HT_.out zk3) (fun _ _ _ h => h) (Or.inl ⟨zk16, ?_⟩) ?_ ?_; rotate_left
            ·exact zk95
            rotate_left
            ·exact zk94
            refine pure_ (i := 14) (N := some 34) (v := ?_) (a' := ?_) #[true, true, true, true, true, true, true, true, true, true, true, true, true, true, true, false, false, false, false, false, false, false, false, false, false, false, false, false, false, false, false] rfl rfl (any_of HT_.out zk3) (fun _ _ _ h => h) (Or.inl ⟨zk16, ?_⟩) ?_ ?_; rotate_left
            ·exact zk95
            rotate_left
            ·exact zk94
            refine pure_ (i := 15) (N := some 35) (v := ?_) (a' := ?_) #[true, true, true, true, true, true, true, true, true, true, true, true, true, true, true, true, false, false, false, false, false, false, false, false, false, false, false, false, false, false, false] rfl rfl (any_of HT_.out zk3) (fun _ _ _ h => h) (Or.inl ⟨zk16, ?_⟩) ?_ ?_; rotate_left
            ·exact zk95
            rotate_left
            ·exact zk94
            refine pure_ (i := 16) (N := some 36) (v := ?_) (a' := ?_) #[true, true, true, true, true, true, true, true, true, true, true, true, true, true, true, true, true, false, false, false, false, false, false, false, false, false, false, false, false, false, false] rfl rfl (any_of HT_.out zk3) (fun _ _ _ h => h) (Or.inl ⟨zk16, ?_⟩) ?_ ?_; rotate_left
            ·exact zk95
            rotate_left
            ·exact zk94
            refine pure_ (i := 17) (N := some 37) (v := undef) (a' := ?_) #[true, true, true, true, true, true, true, true, true, true, true, true, true, true, true, true, true, true, false, false, false, false, false, false, false, false, false, false, false, false, false] rfl rfl (any_of HT_.out zk3) (fun _ _ _ h => h) (Or.inr ⟨zk16, rfl⟩) ?_ ?_; rotate_left
            ·exact zk94
            refine pure_ (i := 18) (N := some 38) (v := undef) (a' := ?_) #[true, true, true, true, true, true, true, true, true, true, true, true, true, true, true, true, true, true, true, false, false, false, false, false, false, false, false, false, false, false, false] rfl rfl (any_of HT_.out zk3) (fun _ _ _ h => h) (Or.inr ⟨zk16, rfl⟩) ?_ ?_; rotate_left
            ·exact zk94
            refine pure_ (i := 19) (N := some 39) (v := undef) (a' := ?_) #[true, true, true, true, true, true, true, true, true, true, true, true, true, true, true, true, true, true, true, true, false, false, false, false, false, false, false, false, false, false, false] rfl rfl (any_of HT_.out zk3) (fun _ _ _ h => h) (Or.inr ⟨zk16, rfl⟩) ?_ ?_; rotate_left
            ·exact zk94
            refine pure_ (i := 20) (N := some 40) (v := undef) (a' := ?_) #[true, true, true, true, true, true, true, true, true, true, true, true, true, true, true, true, true, true, true, true, true, false, false, false, false, false, false, false, false, false, false] rfl rfl (any_of HT_.out zk3) (fun _ _ _ h => h) (Or.inr ⟨zk16, rfl⟩) ?_ ?_; rotate_left
            ·exact zk94
            refine pure_ (i := 21) (N := some 41) (v := undef) (a' := ?_) #[true, true, true, true, true, true, true, true, true, true, true, true, true, true, true, true, true, true, true, true, true, true, false, false, false, false, false, false, false, false, false] rfl rfl (any_of HT_.out zk3) (fun _ _ _ h => h) (Or.inr ⟨zk16, rfl⟩) ?_ ?_; rotate_left
            ·exact zk94
            refine pure_ (i := 22) (N := some 42) (v := undef) (a' := ?_) #[true, true, true, true, true, true, true, true, true, true, true, true, true, true, true, true, true, true, true, true, true, true, true, false, false, false, false, false, false, false, false] rfl rfl (any_of HT_.out zk3) (fun _ _ _ h => h) (Or.inr ⟨zk16, rfl⟩) ?_ ?_; rotate_left
            ·exact zk94
            refine pure_ (i := 23) (N := some 43) (v := undef) (a' := ?_) #[true, true, true, true, true, true, true, true, true, true, true, true, true, true, true, true, true, true, true, true, true, true, true, true, false, false, false, false, false, false, false] rfl rfl (any_of HT_.out zk3) (fun _ _ _ h => h) (Or.inr ⟨zk16, rfl⟩) ?_ ?_; rotate_left
            ·exact zk94
            refine pure_ (i := 24) (N := some 44) (v := undef) (a' := ?_) #[true, true, true, true, true, true, true, true, true, true, true, true, true, true, true, true, true, true, true, true, true, true, true, true, true, false, false, false, false, false, false] rfl rfl (any_of HT_.out zk3) (fun _ _ _ h => h) (Or.inr ⟨zk16, rfl⟩) ?_ ?_; rotate_left
            ·exact zk94
            refine pure_ (i := 25) (N := some 45) (v := undef) (a' := ?_) #[true, true, true, true, true, true, true, true, true, true, true, true, true, true, true, true, true, true, true, true, true, true, true, true, true, true, false, false, false, false, false] rfl rfl (any_of HT_.out zk3) (fun _ _ _ h => h) (Or.inr ⟨zk16, rfl⟩) ?_ ?_; rotate_left
            ·exact zk94
            refine pure_ (i := 26) (N := some 46) (v := undef) (a' := ?_) #[true, true, true, true, true, true, true, true, true, true, true, true, true, true, true, true, true, true, true, true, true, true, true, true, true, true, true, false, false, false, false] rfl rfl (any_of HT_.out zk3) (fun _ _ _ h => h) (Or.inr ⟨zk16, rfl⟩) ?_ ?_; rotate_left
            ·exact zk94
            refine pure_ (i := 27) (N := some 47) (v := undef) (a' := ?_) #[true, true, true, true, true, true, true, true, true, true, true, true, true, true, true, true, true, true, true, true, true, true, true, true, true, true, true, true, false, false, false] rfl rfl (any_of HT_.out zk3) (fun _ _ _ h => h) (Or.inr ⟨zk16, rfl⟩) ?_ ?_; rotate_left
            ·exact zk94
            refine pure_ (i := 28) (N := some 48) (v := undef) (a' := ?_) #[true, true, true, true, true, true, true, true, true, true, true, true, true, true, true, true, true, true, true, true, true, true, true, true, true, true, true, true, true, false, false] rfl rfl (any_of HT_.out zk3) (fun _ _ _ h => h) (Or.inr ⟨zk16, rfl⟩) ?_ ?_; rotate_left
            ·exact zk94
            refine pure_ (i := 29) (N := some 49) (v := undef) (a' := ?_) #[true, true, true, true, true, true, true, true, true, true, true, true, true, true, true, true, true, true, true, true, true, true, true, true, true, true, true, true, true, true, false] rfl rfl (any_of HT_.out zk3) (fun _ _ _ h => h) (Or.inr ⟨zk16, rfl⟩) ?_ ?_; rotate_left
            ·exact zk94
            refine pure_ (i := 30) (N := some 50) (v := ?_) (a' := ?_) #[true, true, true, true, true, true, true, true, true, true, true, true, true, true, true, true, true, true, true, true, true, true, true, true, true, true, true, true, true, true, true] rfl rfl (any_of HT_.out zk3) (fun _ _ _ h => h) (Or.inl ⟨zk16, ?_⟩) ?_ ?_; rotate_left
            ·exact zk95
            rotate_left
            ·exact zk94
            refine done_ (done_of HT_.out zk3) ?_; (try go_wp2); go_ret
            exact ⟨zk4, zk18⟩
           ·rw [if_neg c15] at H
            have c15b0 : decide (64 < (((rd_T41 l0 x15_2).f1).size : Int)) = false := decide_eq_false c15; have c15b1 : decide (64 < ((rd_T41 l0 x15_2).f1).size) = false := decide_eq_false zk12; clear c15; by_cases c20 : x15_2 > 0
            ·rw [if_pos c20] at H
             have c20b0 : decide (0 < x15_2) = true := decide_eq_true c20; clear c20; obtain ⟨ji21, hji21⟩ : ∃ j_ : Int, (wrap64 (x15_2 - 1)) = j_ := ⟨_, rfl⟩
             replace H : (if 0 ≤ (ji21) then (if (ji21) < (l0.length : Int) then (if ((Op.bytesLess (((rd_T41 l0 (ji21)).f0).toList) (((rd_T41 l0 x15_2).f0).toList)) = true) then (label_Check.l0 k2 l0 l0 (l0.length : Int) (wrap64 (x15_2 + 1))) else (some false)) else (none)) else (none)) = some r := by first | (rw [hji21] at H; exact H) | (simp only [hji21] at H ⊢; exact H)
             (try rw [hji21] at A8); have hji21w : (IntKind.i64.wrap (x15_2 - 1)) = ji21 := (i64_w _).trans hji21; by_cases c22 : 0 ≤ (ji21)
             ·rw [if_pos c22] at H
              have c22b0 : decide (0 ≤ (ji21)) = true := decide_eq_true c22; clear c22; by_cases c23 : (ji21) < (l0.length : Int)
              ·rw [if_pos c23] at H
               have c23b0 : decide ((ji21) < (l0.length : Int)) = true := decide_eq_true c23; clear c23; by_cases c24 : ((Op.bytesLess (((rd_T41 l0 (ji21)).f0).toList) (((rd_T41 l0 x15_2).f0).toList)) = true)
               ·rw [if_pos c24] at H
                have c24b0 : (Op.bytesLess (((rd_T41 l0 (ji21)).f0).toList) (((rd_T41 l0 x15_2).f0).toList)) = true := c24; clear c24; have H' := mkA H; clear H; have p101 : 0 ≤ (x15_2 : Int) := of_decide_eq_true zk2; have q101 : x15_2 < (l0.length : Int) := of_decide_eq_true zk2; obtain ⟨ad101, e101, hx101_0, hx101_1⟩ := at_T41 HR0.out x15_2 p101 q101; cases e101; replace hx101_0 := (HB.out.cell (World.block_lt_of_cell? w _ hx101_0)).trans hx101_0; replace hx101_1 := (HB.out.cell (World.block_lt_of_cell? w _ hx101_1)).trans hx101_1; replace p101 := eq_true p101; replace q101 := eq_true q101; (try go_wp2_with (first | ((with_reducible refine gate_dst (N := 4) rfl ?_); (try (refine gate_guard zk16 ?_; dsimp only)); refine box_event ?hg (N := 4) ?hd (cs := #[.string (⟨#[]⟩ : ByteArray), .string (⟨#[]⟩ : ByteArray)]) (t := 41) ?hr ?_; (case hd => exact zk16); (case hg => exact zk16); (case hr => exact zk9); intro gb102 hg w25 hbox hb; have n0_ := mkA (below_step zk1 hb); have n1_ := mkA (hbox); have n2_ := mkA ((by rw [hg]; exact (below_size zk1) : w.heap.size ≤ gb102)); have n3_ := mkA ((by rw [hg]; exact (below_size zk1) : w.heap.size ≤ gb102)); clear HB; have HB := n0_; have BK102 := n1_; have GW102 := n2_; have GE102 := n3_; clear n0_ n1_ n2_ n3_; clear hb hbox hg; obtain ⟨hcz26_0, hcz26_1, hfz26_0, hfz26_1⟩ := cf2 BK102.out))); have n0_ : Aside0 (((w25.setCell ⟨gb102, 0, none⟩ (.string ((rd_T41 l0 x15_2).f0))).setCell ⟨gb102, 1, none⟩ (.string ((rd_T41 l0 x15_2).f1))).heap[gb102]? = some (.cells #[.string ((rd_T41 l0 x15_2).f0), .string ((rd_T41 l0 x15_2).f1)] 41 (0, 0))) := ⟨zk14⟩
                have n1_ : Aside0 (Below w.heap.size w ((w25.setCell ⟨gb102, 0, none⟩ (.string ((rd_T41 l0 x15_2).f0))).setCell ⟨gb102, 1, none⟩ (.string ((rd_T41 l0 x15_2).f1)))) := ⟨zk18⟩
                (try clear BK102); (try clear HB); generalize ((w25.setCell ⟨gb102, 0, none⟩ (.string ((rd_T41 l0 x15_2).f0))).setCell ⟨gb102, 1, none⟩ (.string ((rd_T41 l0 x15_2).f1))) = w27 at n0_ n1_ ⊢; have BK102 := n0_; have HB := n1_; clear n0_ n1_; have n0_ := mkA (blk_drew BK102.out); have n1_ := mkA (below_drew1 HB.out); clear BK102; clear HB; have BK102 := n0_; have HB := n1_; clear n0_ n1_; have p104 : 0 ≤ ((ji21) : Int) := of_decide_eq_true zk2; have q104 : (ji21) < (l0.length : Int) := of_decide_eq_true zk2; obtain ⟨ad104, e104, hx104_0, hx104_1⟩ := at_T41 HR0.out (ji21) p104 q104; have hw104_1 := hx104_1; have hw104_0 := hx104_0; obtain rfl : ad101 = ad104 := (by injection e104)
                replace hx104_0 := (HB.out.cell (World.block_lt_of_cell? w _ hx104_0)).trans hx104_0; replace hx104_1 := (HB.out.cell (World.block_lt_of_cell? w _ hx104_1)).trans hx104_1; replace p104 := eq_true p104; replace q104 := eq_true q104; refine start_ (n := 31) (S := fun w' => w'.cell? ⟨gb102, 0, none⟩ = some (.string ((rd_T41 l0 x15_2).f0)) ∧ w'.cell? ⟨gb102, 1, none⟩ = some (.string ((rd_T41 l0 x15_2).f1)) ∧ w'.cell? (ad101.add (((ji21)).toNat * 2)) = some (.string ((rd_T41 l0 (ji21)).f0)) ∧ w'.cell? ⟨(ad101.add (((ji21)).toNat * 2)).block, (ad101.add (((ji21)).toNat * 2)).off + 1, none⟩ = some (.string ((rd_T41 l0 (ji21)).f1))) (ds := []) #[false, false, false, false, false, false, false, false, false, false, false, false, false, false, false, false, false, false, false, false, false, false, false, false, false, false, false, false, false, false, false] zk3 rfl rfl ⟨(blk_cell BK102.out 0).trans rfl, (blk_cell BK102.out 1).trans rfl, ((HB.out.cell (World.block_lt_of_cell? w _ hw104_0)).trans hw104_0), ((HB.out.cell (World.block_lt_of_cell? w _ hw104_1)).trans hw104_1)⟩ (fun hHeld => ?_); refine with_tabW label_Check.tab6 label_Check.bits6 (fun HT_ HW_ => ?_); generalize w27.drew = w28 at BK102 HB hx104_0 hx104_1 hHeld ⊢; refine pure_ (i := 0) (N := some 20) (v := ?_) (a' := ?_) #[true, false, false, false, false, false, false, false, false, false, false, false, false, false, false, false, false, false, false, false, false, false, false, false, false, false, false, false, false, false, false] rfl rfl (any_of HT_.out zk3) (fun _ _ _ h => h) (Or.inl ⟨zk16, ?_⟩) ?_ ?_; rotate_left
                ·exact zk95
                rotate_left
                ·exact zk94
                refine take_ (i := 1) (N := some 21) (v := ?_) (a' := ?_) #[true, true, false, false, false, false, false, false, false, false, false, false, false, false, false, false, false, false, false, false, false, false, false, false, false, false, false, false, false, false, false] rfl rfl (take_ofW HT_.out HW_.out zk3) (fun _ _ _ h => h) (Or.inl ⟨zk16, ?_⟩) hHeld ?_ ?_; rotate_left
                ·exact zk100
                rotate_left
                ·exact zk94
                refine one_ (i := 2) (N := some 22) #[true, true, true, false, false, false, false, false, false, false, false, false, false, false, false, false, false, false, false, false, false, false, false, false, false, false, false, false, false, false, false] rfl rfl (one_of HT_.out zk3) zk40 (fun K hK => ?_); refine goes_ Try.func54 zk3 rfl #[.string ((rd_T41 l0 x15_2).f0)] zk16 rfl rfl zk5 ?_; (with_reducible refine (label_Name.calls k2 ((rd_T41 l0 x15_2).f0) true _ A8.out).mono ?_); rintro e w' ⟨rfl, ⟨nd, rfl⟩⟩; refine ⟨_, rfl, ?_⟩; refine hK.out _ _ ⟨(blk_cell BK102.out 0).trans rfl, (blk_cell BK102.out 1).trans rfl, ((HB.out.cell (World.block_lt_of_cell? w _ hw104_0)).trans hw104_0), ((HB.out.cell (World.block_lt_of_cell? w _ hw104_1)).trans hw104_1)⟩ (fun hHeld => ?_); clear hK K; refine norm_ (a' := ?_) ?_ ?_; rotate_left
                ·exact zk97
                refine pure_ (i := 3) (N := some 23) (v := ?_) (a' := ?_) #[true, true, true, true, false, false, false, false, false, false, false, false, false, false, false, false, false, false, false, false, false, false, false, false, false, false, false, false, false, false, false] rfl rfl (any_of HT_.out zk3) (fun _ _ _ h => h) (Or.inl ⟨zk16, ?_⟩) ?_ ?_; rotate_left
                ·exact zk95
                rotate_left
                ·exact zk94
                refine pure_ (i := 4) (N := some 24) (v := ?_) (a' := ?_) #[true, true, true, true, true, false, false, false, false, false, false, false, false, false, false, false, false, false, false, false, false, false, false, false, false, false, false, false, false, false, false] rfl rfl (any_of HT_.out zk3) (fun _ _ _ h => h) (Or.inl ⟨zk16, ?_⟩) ?_ ?_; rotate_left
                ·exact zk95
                rotate_left
                ·exact zk94
                refine pure_ (i := 5) (N := some 25) (v := ?_) (a' := ?_) #[true, true, true, true, true, true, false, false, false, false, false, false, false, false, false, false, false, false, false, false, false, false, false, false, false, false, false, false, false, false, false] rfl rfl (any_of HT_.out zk3) (fun _ _ _ h => h) (Or.inl ⟨zk16, ?_⟩) ?_ ?_; rotate_left
                ·exact zk95
                rotate_left
                ·exact zk94
                refine take_ (i := 6) (N := some 26) (v := ?_) (a' := ?_) #[true, true, true, true, true, true, true, false, false, false, false, false, false, false, false, false, false, false, false, false, false, false, false, false, false, false, false, false, false, false, false] rfl rfl (take_ofW HT_.out HW_.out zk3) (fun _ _ _ h => h) (Or.inl ⟨zk16, ?_⟩) hHeld ?_ ?_; rotate_left
                ·exact zk100
                rotate_left
                ·exact zk94
                refine pure_ (i := 7) (N := some 27) (v := ?_) (a' := ?_) #[true, true, true, true, true, true, true, true, false, false, false, false, false, false, false, false, false, false, false, false, false, false, false, false, false, false, false, false, false, false, false] rfl rfl (any_of HT_.out zk3) (fun _ _ _ h => h) (Or.inl ⟨zk16, ?_⟩) ?_ ?_; rotate_left
                ·exact zk95
                rotate_left
                ·exact zk94
                refine pure_ (i := 8) (N := some 28) (v := ?_) (a' := ?_) #[true, true, true, true, true, true, true, true, true, false, false, false, false, false, false, false, false, false, false, false, false, false, false, false, false, false, false, false, false, false, false] rfl rfl (any_of HT_.out zk3) (fun _ _ _ h => h) (Or.inl ⟨zk16, ?_⟩) ?_ ?_; rotate_left
                ·exact zk95
                rotate_left
                ·exact zk94
                refine pure_ (i := 9) (N := some 29) (v := ?_) (a' := ?_) #[true, true, true, true, true, true, true, true, true, true, false, false, false, false, false, false, false, false, false, false, false, false, false, false, false, false, false, false, false, false, false] rfl rfl (any_of HT_.out zk3) (fun _ _ _ h => h) (Or.inl ⟨zk16, ?_⟩) ?_ ?_; rotate_left
                ·exact zk95
                rotate_left
                ·exact zk94
                refine pure_ (i := 10) (N := some 30) (v := ?_) (a' := ?_) #[true, true, true, true, true, true, true, true, true, true, true, false, false, false, false, false, false, false, false, false, false, false, false, false, false, false, false, false, false, false, false] rfl rfl (any_of HT_.out zk3) (fun _ _ _ h => h) (Or.inl ⟨zk16, ?_⟩) ?_ ?_; rotate_left
                ·exact zk95
                rotate_left
                ·exact zk94
                refine pure_ (i := 11) (N := some 31) (v := ?_) (a' := ?_) #[true, true, true, true, true, true, true, true, true, true, true, true, false, false, false, false, false, false, false, false, false, false, false, false, false, false, false, false, false, false, false] rfl rfl (any_of HT_.out zk3) (fun _ _ _ h => h) (Or.inl ⟨zk16, ?_⟩) ?_ ?_; rotate_left
                ·exact zk95
                rotate_left
                ·exact zk94
                refine take_ (i := 12) (N := some 32) (v := ?_) (a' := ?_) #[true, true, true, true, true, true, true, true, true, true, true, true, true, false, false, false, false, false, false, false, false, false, false, false, false, false, false, false, false, false, false] rfl rfl (take_ofW HT_.out HW_.out zk3) (fun _ _ _ h => h) (Or.inl ⟨zk16, ?_⟩) hHeld ?_ ?_; rotate_left
                ·exact zk100
                rotate_left
                ·exact zk94
                refine pure_ (i := 13) (N := some 33) (v := ?_) (a' := ?_) #[true, true, true, true, true, true, true, true, true, true, true, true, true, true, false, false, false, false, false, false, false, false, false, false, false, false, false, false, false, false, false] rfl rfl (any_of HT_.out zk3) (fun _ _ _ h => h) (Or.inl ⟨zk16, ?_⟩) ?_ ?_; rotate_left
                ·exact zk95
                rotate_left
                ·exact zk94
                refine pure_ (i := 14) (N := some 34) (v := ?_) (a' := ?_) #[true, true, true, true, true, true, true, true, true, true, true, true, true, true, true, false, false, false, false, false, false, false, false, false, false, false, false, false, false, false, false] rfl rfl (any_of HT_.out zk3) (fun _ _ _ h => h) (Or.inl ⟨zk16, ?_⟩) ?_ ?_; rotate_left
                ·exact zk95
                rotate_left
                ·exact zk94
                refine pure_ (i := 15) (N := some 35) (v := ?_) (a' := ?_) #[true, true, true, true, true, true, true, true, true, true, true, true, true, true, true, true, false, false, false, false, false, false, false, false, false, false, false, false, false, false, false] rfl rfl (any_of HT_.out zk3) (fun _ _ _ h => h) (Or.inl ⟨zk16, ?_⟩) ?_ ?_; rotate_left
                ·exact zk95
                rotate_left
                ·exact zk94
                refine pure_ (i := 16) (N := some 36) (v := ?_) (a' := ?_) #[true, true, true, true, true, true, true, true, true, true, true, true, true, true, true, true, true, false, false, false, false, false, false, false, false, false, false, false, false, false, false] rfl rfl (any_of HT_.out zk3) (fun _ _ _ h => h) (Or.inl ⟨zk16, ?_⟩) ?_ ?_; rotate_left
                ·exact zk95
                rotate_left
                ·exact zk94
                refine pure_ (i := 17) (N := some 37) (v := ?_) (a' := ?_) #[true, true, true, true, true, true, true, true, true, true, true, true, true, true, true, true, true, true, false, false, false, false, false, false, false, false, false, false, false, false, false] rfl rfl (any_of HT_.out zk3) (fun _ _ _ h => h) (Or.inl ⟨zk16, ?_⟩) ?_ ?_; rotate_left
                ·exact zk95
                rotate_left
                ·exact zk94
                refine pure_ (i := 18) (N := some 38) (v := ?_) (a' := ?_) #[true, true, true, true, true, true, true, true, true, true, true, true, true, true, true, true, true, true, true, false, false, false, false, false, false, false, false, false, false, false, false] rfl rfl (any_of HT_.out zk3) (fun _ _ _ h => h) (Or.inl ⟨zk16, ?_⟩) ?_ ?_; rotate_left
                ·exact zk95
                rotate_left
                ·exact zk94
                refine pure_ (i := 19) (N := some 39) (v := ?_) (a' := ?_) #[true, true, true, true, true, true, true, true, true, true, true, true, true, true, true, true, true, true, true, true, false, false, false, false, false, false, false, false, false, false, false] rfl rfl (any_of HT_.out zk3) (fun _ _ _ h => h) (Or.inl ⟨zk16, ?_⟩) ?_ ?_; rotate_left
                ·exact zk95
                rotate_left
                ·exact zk94
                refine pure_ (i := 20) (N := some 40) (v := ?_) (a' := ?_) #[true, true, true, true, true, true, true, true, true, true, true, true, true, true, true, true, true, true, true, true, true, false, false, false, false, false, false, false, false, false, false] rfl rfl (any_of HT_.out zk3) (fun _ _ _ h => h) (Or.inl ⟨zk16, ?_⟩) ?_ ?_; rotate_left
                ·exact zk95
                rotate_left
                ·exact zk94
                refine pure_ (i := 22) (N := some 42) (v := ?_) (a' := ?_) #[true, true, true, true, true, true, true, true, true, true, true, true, true, true, true, true, true, true, true, true, true, false, true, false, false, false, false, false, false, false, false] rfl rfl (any_of HT_.out zk3) (fun _ _ _ h => h) (Or.inl ⟨zk16, ?_⟩) ?_ ?_; rotate_left
                ·exact zk95
                rotate_left
                ·exact zk94
                refine pure_ (i := 23) (N := some 43) (v := ?_) (a' := ?_) #[true, true, true, true, true, true, true, true, true, true, true, true, true, true, true, true, true, true, true, true, true, false, true, true, false, false, false, false, false, false, false] rfl rfl (any_of HT_.out zk3) (fun _ _ _ h => h) (Or.inl ⟨zk16, ?_⟩) ?_ ?_; rotate_left
                ·exact zk95
                rotate_left
                ·exact zk94
                refine pure_ (i := 24) (N := some 44) (v := ?_) (a' := ?_) #[true, true, true, true, true, true, true, true, true, true, true, true, true, true, true, true, true, true, true, true, true, false, true, true, true, false, false, false, false, false, false] rfl rfl (any_of HT_.out zk3) (fun _ _ _ h => h) (Or.inl ⟨zk16, ?_⟩) ?_ ?_; rotate_left
                ·exact zk95
                rotate_left
                ·exact zk94
                refine pure_ (i := 25) (N := some 45) (v := ?_) (a' := ?_) #[true, true, true, true, true, true, true, true, true, true, true, true, true, true, true, true, true, true, true, true, true, false, true, true, true, true, false, false, false, false, false] rfl rfl (any_of HT_.out zk3) (fun _ _ _ h => h) (Or.inl ⟨zk16, ?_⟩) ?_ ?_; rotate_left
                ·exact zk95
                rotate_left
                ·exact zk94
                refine pure_ (i := 26) (N := some 46) (v := ?_) (a' := ?_) #[true, true, true, true, true, true, true, true, true, true, true, true, true, true, true, true, true, true, true, true, true, false, true, true, true, true, true, false, false, false, false] rfl rfl (any_of HT_.out zk3) (fun _ _ _ h => h) (Or.inl ⟨zk16, ?_⟩) ?_ ?_; rotate_left
                ·exact zk95
                rotate_left
                ·exact zk94
                refine take_ (i := 21) (N := some 41) (v := ?_) (a' := ?_) #[true, true, true, true, true, true, true, true, true, true, true, true, true, true, true, true, true, true, true, true, true, true, true, true, true, true, true, false, false, false, false] rfl rfl (take_ofW HT_.out HW_.out zk3) (fun _ _ _ h => h) (Or.inl ⟨zk16, ?_⟩) hHeld ?_ ?_; rotate_left
                ·exact zk100
                rotate_left
                ·exact zk94
                refine take_ (i := 27) (N := some 47) (v := ?_) (a' := ?_) #[true, true, true, true, true, true, true, true, true, true, true, true, true, true, true, true, true, true, true, true, true, true, true, true, true, true, true, true, false, false, false] rfl rfl (take_ofW HT_.out HW_.out zk3) (fun _ _ _ h => h) (Or.inl ⟨zk16, ?_⟩) hHeld ?_ ?_; rotate_left
                ·exact zk100
                rotate_left
                ·exact zk94
                refine pure_ (i := 28) (N := some 48) (v := ?_) (a' := ?_) #[true, true, true, true, true, true, true, true, true, true, true, true, true, true, true, true, true, true, true, true, true, true, true, true, true, true, true, true, true, false, false] rfl rfl (any_of HT_.out zk3) (fun _ _ _ h => h) (Or.inl ⟨zk16, ?_⟩) ?_ ?_; rotate_left
                ·exact zk95
                rotate_left
                ·exact zk94
                refine pure_ (i := 29) (N := some 49) (v := ?_) (a' := ?_) #[true, true, true, true, true, true, true, true, true, true, true, true, true, true, true, true, true, true, true, true, true, true, true, true, true, true, true, true, true, true, false] rfl rfl (any_of HT_.out zk3) (fun _ _ _ h => h) (Or.inl ⟨zk16, ?_⟩) ?_ ?_; rotate_left
                ·exact zk95
                rotate_left
                ·exact zk94
                refine pure_ (i := 30) (N := some 50) (v := ?_) (a' := ?_) #[true, true, true, true, true, true, true, true, true, true, true, true, true, true, true, true, true, true, true, true, true, true, true, true, true, true, true, true, true, true, true] rfl rfl (any_of HT_.out zk3) (fun _ _ _ h => h) (Or.inl ⟨zk16, ?_⟩) ?_ ?_; rotate_left
                ·exact zk95
                rotate_left
                ·exact zk94
                refine done_ (done_of HT_.out zk3) ?_; (try go_wp2); go_roundg k2
                case measure => have := HJ1.out; have := HK2.out; omega
                case rel => exact ⟨(wrap64 (x15_2 + 1)), zk6, H', ⟨zk32⟩, ⟨zk18⟩⟩
               ·rw [if_neg c24] at H
                have c24b0 : (Op.bytesLess (((rd_T41 l0 (ji21)).f0).toList) (((rd_T41 l0 x15_2).f0).toList)) = false := by simpa using c24
                clear c24; obtain rfl := Option.some.inj H; have p101 : 0 ≤ (x15_2 : Int) := of_decide_eq_true zk2; have q101 : x15_2 < (l0.length : Int) := of_decide_eq_true zk2; obtain ⟨ad101, e101, hx101_0, hx101_1⟩ := at_T41 HR0.out x15_2 p101 q101; cases e101; replace hx101_0 := (HB.out.cell (World.block_lt_of_cell? w _ hx101_0)).trans hx101_0; replace hx101_1 := (HB.out.cell (World.block_lt_of_cell? w _ hx101_1)).trans hx101_1; replace p101 := eq_true p101; replace q101 := eq_true q101; (try go_wp2_with (first | ((with_reducible refine gate_dst (N := 4) rfl ?_); (try (refine gate_guard zk16 ?_; dsimp only)); refine box_event ?hg (N := 4) ?hd (cs := #[.string (⟨#[]⟩ : ByteArray), .string (⟨#[]⟩ : ByteArray)]) (t := 41) ?hr ?_; (case hd => exact zk16); (case hg => exact zk16); (case hr => exact zk9); intro gb102 hg w29 hbox hb; have n0_ := mkA (below_step zk1 hb); have n1_ := mkA (hbox); have n2_ := mkA ((by rw [hg]; exact (below_size zk1) : w.heap.size ≤ gb102)); have n3_ := mkA ((by rw [hg]; exact (below_size zk1) : w.heap.size ≤ gb102)); clear HB; have HB := n0_; have BK102 := n1_; have GW102 := n2_; have GE102 := n3_; clear n0_ n1_ n2_ n3_; clear hb hbox hg; obtain ⟨hcz30_0, hcz30_1, hfz30_0, hfz30_1⟩ := cf2 BK102.out))); have n0_ : Aside0 (((w29.setCell ⟨gb102, 0, none⟩ (.string ((rd_T41 l0 x15_2).f0))).setCell ⟨gb102, 1, none⟩ (.string ((rd_T41 l0 x15_2).f1))).heap[gb102]? = some (.cells #[.string ((rd_T41 l0 x15_2).f0), .string ((rd_T41 l0 x15_2).f1)] 41 (0, 0))) := ⟨zk14⟩
                have n1_ : Aside0 (Below w.heap.size w ((w29.setCell ⟨gb102, 0, none⟩ (.string ((rd_T41 l0 x15_2).f0))).setCell ⟨gb102, 1, none⟩ (.string ((rd_T41 l0 x15_2).f1)))) := ⟨zk18⟩
                (try clear BK102); (try clear HB); generalize ((w29.setCell ⟨gb102, 0, none⟩ (.string ((rd_T41 l0 x15_2).f0))).setCell ⟨gb102, 1, none⟩ (.string ((rd_T41 l0 x15_2).f1))) = w31 at n0_ n1_ ⊢; have BK102 := n0_; have HB := n1_; clear n0_ n1_; have n0_ := mkA (blk_drew BK102.out); have n1_ := mkA (below_drew1 HB.out); clear BK102; clear HB; have BK102 := n0_; have HB := n1_; clear n0_ n1_; have p104 : 0 ≤ ((ji21) : Int) := of_decide_eq_true zk2; have q104 : (ji21) < (l0.length : Int) := of_decide_eq_true zk2; obtain ⟨ad104, e104, hx104_0, hx104_1⟩ := at_T41 HR0.out (ji21) p104 q104; have hw104_1 := hx104_1; have hw104_0 := hx104_0; obtain rfl : ad101 = ad104 := (by injection e104)
                replace hx104_0 := (HB.out.cell (World.block_lt_of_cell? w _ hx104_0)).trans hx104_0; replace hx104_1 := (HB.out.cell (World.block_lt_of_cell? w _ hx104_1)).trans hx104_1; replace p104 := eq_true p104; replace q104 := eq_true q104; refine start_ (n := 31) (S := fun w' => w'.cell? ⟨gb102, 0, none⟩ = some (.string ((rd_T41 l0 x15_2).f0)) ∧ w'.cell? ⟨gb102, 1, none⟩ = some (.string ((rd_T41 l0 x15_2).f1)) ∧ w'.cell? (ad101.add (((ji21)).toNat * 2)) = some (.string ((rd_T41 l0 (ji21)).f0)) ∧ w'.cell? ⟨(ad101.add (((ji21)).toNat * 2)).block, (ad101.add (((ji21)).toNat * 2)).off + 1, none⟩ = some (.string ((rd_T41 l0 (ji21)).f1))) (ds := []) #[false, false, false, false, false, false, false, false, false, false, false, false, false, false, false, false, false, false, false, false, false, false, false, false, false, false, false, false, false, false, false] zk3 rfl rfl ⟨(blk_cell BK102.out 0).trans rfl, (blk_cell BK102.out 1).trans rfl, ((HB.out.cell (World.block_lt_of_cell? w _ hw104_0)).trans hw104_0), ((HB.out.cell (World.block_lt_of_cell? w _ hw104_1)).trans hw104_1)⟩ (fun hHeld => ?_); refine with_tabW label_Check.tab6 label_Check.bits6 (fun HT_ HW_ => ?_); generalize w31.drew = w32 at BK102 HB hx104_0 hx104_1 hHeld ⊢; refine pure_ (i := 0) (N := some 20) (v := ?_) (a' := ?_) #[true, false, false, false, false, false, false, false, false, false, false, false, false, false, false, false, false, false, false, false, false, false, false, false, false, false, false, false, false, false, false] rfl rfl (any_of HT_.out zk3) (fun _ _ _ h => h) (Or.inl ⟨zk16, ?_⟩) ?_ ?_; rotate_left
                ·exact zk95
                rotate_left
                ·exact zk94
                refine take_ (i := 1) (N := some 21) (v := ?_) (a' := ?_) #[true, true, false, false, false, false, false, false, false, false, false, false, false, false, false, false, false, false, false, false, false, false, false, false, false, false, false, false, false, false, false] rfl rfl (take_ofW HT_.out HW_.out zk3) (fun _ _ _ h => h) (Or.inl ⟨zk16, ?_⟩) hHeld ?_ ?_; rotate_left
                ·exact zk100
                rotate_left
                ·exact zk94
                refine one_ (i := 2) (N := some 22) #[true, true, true, false, false, false, false, false, false, false, false, false, false, false, false, false, false, false, false, false, false, false, false, false, false, false, false, false, false, false, false] rfl rfl (one_of HT_.out zk3) zk40 (fun K hK => ?_); refine goes_ Try.func54 zk3 rfl #[.string ((rd_T41 l0 x15_2).f0)] zk16 rfl rfl zk5 ?_; (with_reducible refine (label_Name.calls k2 ((rd_T41 l0 x15_2).f0) true _ A8.out).mono ?_); rintro e w' ⟨rfl, ⟨nd, rfl⟩⟩; refine ⟨_, rfl, ?_⟩; refine hK.out _ _ ⟨(blk_cell BK102.out 0).trans rfl, (blk_cell BK102.out 1).trans rfl, ((HB.out.cell (World.block_lt_of_cell? w _ hw104_0)).trans hw104_0), ((HB.out.cell (World.block_lt_of_cell? w _ hw104_1)).trans hw104_1)⟩ (fun hHeld => ?_); clear hK K; refine norm_ (a' := ?_) ?_ ?_; rotate_left
                ·exact zk97
                refine pure_ (i := 3) (N := some 23) (v := ?_) (a' := ?_) #[true, true, true, true, false, false, false, false, false, false, false, false, false, false, false, false, false, false, false, false, false, false, false, false, false, false, false, false, false, false, false] rfl rfl (any_of HT_.out zk3) (fun _ _ _ h => h) (Or.inl ⟨zk16, ?_⟩) ?_ ?_; rotate_left
                ·exact zk95
                rotate_left
                ·exact zk94
                refine pure_ (i := 4) (N := some 24) (v := ?_) (a' := ?_) #[true, true, true, true, true, false, false, false, false, false, false, false, false, false, false, false, false, false, false, false, false, false, false, false, false, false, false, false, false, false, false] rfl rfl (any_of HT_.out zk3) (fun _ _ _ h => h) (Or.inl ⟨zk16, ?_⟩) ?_ ?_; rotate_left
                ·exact zk95
                rotate_left
                ·exact zk94
                refine pure_ (i := 5) (N := some 25) (v := ?_) (a' := ?_) #[true, true, true, true, true, true, false, false, false, false, false, false, false, false, false, false, false, false, false, false, false, false, false, false, false, false, false, false, false, false, false] rfl rfl (any_of HT_.out zk3) (fun _ _ _ h => h) (Or.inl ⟨zk16, ?_⟩) ?_ ?_; rotate_left
                ·exact zk95
                rotate_left
                ·exact zk94
                refine take_ (i := 6) (N := some 26) (v := ?_) (a' := ?_) #[true, true, true, true, true, true, true, false, false, false, false, false, false, false, false, false, false, false, false, false, false, false, false, false, false, false, false, false, false, false, false] rfl rfl (take_ofW HT_.out HW_.out zk3) (fun _ _ _ h => h) (Or.inl ⟨zk16, ?_⟩) hHeld ?_ ?_; rotate_left
                ·exact zk100
                rotate_left
                ·exact zk94
                refine pure_ (i := 7) (N := some 27) (v := ?_) (a' := ?_) #[true, true, true, true, true, true, true, true, false, false, false, false, false, false, false, false, false, false, false, false, false, false, false, false, false, false, false, false, false, false, false] rfl rfl (any_of HT_.out zk3) (fun _ _ _ h => h) (Or.inl ⟨zk16, ?_⟩) ?_ ?_; rotate_left
                ·exact zk95
                rotate_left
                ·exact zk94
                refine pure_ (i := 8) (N := some 28) (v := ?_) (a' := ?_) #[true, true, true, true, true, true, true, true, true, false, false, false, false, false, false, false, false, false, false, false, false, false, false, false, false, false, false, false, false, false, false] rfl rfl (any_of HT_.out zk3) (fun _ _ _ h => h) (Or.inl ⟨zk16, ?_⟩) ?_ ?_; rotate_left
                ·exact zk95
                rotate_left
                ·exact zk94
                refine pure_ (i := 9) (N := some 29) (v := ?_) (a' := ?_) #[true, true, true, true, true, true, true, true, true, true, false, false, false, false, false, false, false, false, false, false, false, false, false, false, false, false, false, false, false, false, false] rfl rfl (any_of HT_.out zk3) (fun _ _ _ h => h) (Or.inl ⟨zk16, ?_⟩) ?_ ?_; rotate_left
                ·exact zk95
                rotate_left
                ·exact zk94
                refine pure_ (i := 10) (N := some 30) (v := ?_) (a' := ?_) #[true, true, true, true, true, true, true, true, true, true, true, false, false, false, false, false, false, false, false, false, false, false, false, false, false, false, false, false, false, false, false] rfl rfl (any_of HT_.out zk3) (fun _ _ _ h => h) (Or.inl ⟨zk16, ?_⟩) ?_ ?_; rotate_left
                ·exact zk95
                rotate_left
                ·exact zk94
                refine pure_ (i := 11) (N := some 31) (v := ?_) (a' := ?_) #[true, true, true, true, true, true, true, true, true, true, true, true, false, false, false, false, false, false, false, false, false, false, false, false, false, false, false, false, false, false, false] rfl rfl (any_of HT_.out zk3) (fun _ _ _ h => h) (Or.inl ⟨zk16, ?_⟩) ?_ ?_; rotate_left
                ·exact zk95
                rotate_left
                ·exact zk94
                refine take_ (i := 12) (N := some 32) (v := ?_) (a' := ?_) #[true, true, true, true, true, true, true, true, true, true, true, true, true, false, false, false, false, false, false, false, false, false, false, false, false, false, false, false, false, false, false] rfl rfl (take_ofW HT_.out HW_.out zk3) (fun _ _ _ h => h) (Or.inl ⟨zk16, ?_⟩) hHeld ?_ ?_; rotate_left
                ·exact zk100
                rotate_left
                ·exact zk94
                refine pure_ (i := 13) (N := some 33) (v := ?_) (a' := ?_) #[true, true, true, true, true, true, true, true, true, true, true, true, true, true, false, false, false, false, false, false, false, false, false, false, false, false, false, false, false, false, false] rfl rfl (any_of HT_.out zk3) (fun _ _ _ h => h) (Or.inl ⟨zk16, ?_⟩) ?_ ?_; rotate_left
                ·exact zk95
                rotate_left
                ·exact zk94
                refine pure_ (i := 14) (N := some 34) (v := ?_) (a' := ?_) #[true, true, true, true, true, true, true, true, true, true, true, true, true, true, true, false, false, false, false, false, false, false, false, false, false, false, false, false, false, false, false] rfl rfl (any_of HT_.out zk3) (fun _ _ _ h => h) (Or.inl ⟨zk16, ?_⟩) ?_ ?_; rotate_left
                ·exact zk95
                rotate_left
                ·exact zk94
                refine pure_ (i := 15) (N := some 35) (v := ?_) (a' := ?_) #[true, true, true, true, true, true, true, true, true, true, true, true, true, true, true, true, false, false, false, false, false, false, false, false, false, false, false, false, false, false, false] rfl rfl (any_of HT_.out zk3) (fun _ _ _ h => h) (Or.inl ⟨zk16, ?_⟩) ?_ ?_; rotate_left
                ·exact zk95
                rotate_left
                ·exact zk94
                refine pure_ (i := 16) (N := some 36) (v := ?_) (a' := ?_) #[true, true, true, true, true, true, true, true, true, true, true, true, true, true, true, true, true, false, false, false, false, false, false, false, false, false, false, false, false, false, false] rfl rfl (any_of HT_.out zk3) (fun _ _ _ h => h) (Or.inl ⟨zk16, ?_⟩) ?_ ?_; rotate_left
                ·exact zk95
                rotate_left
                ·exact zk94
                refine pure_ (i := 17) (N := some 37) (v := ?_) (a' := ?_) #[true, true, true, true, true, true, true, true, true, true, true, true, true, true, true, true, true, true, false, false, false, false, false, false, false, false, false, false, false, false, false] rfl rfl (any_of HT_.out zk3) (fun _ _ _ h => h) (Or.inl ⟨zk16, ?_⟩) ?_ ?_; rotate_left
                ·exact zk95
                rotate_left
                ·exact zk94
                refine pure_ (i := 18) (N := some 38) (v := ?_) (a' := ?_) #[true, true, true, true, true, true, true, true, true, true, true, true, true, true, true, true, true, true, true, false, false, false, false, false, false, false, false, false, false, false, false] rfl rfl (any_of HT_.out zk3) (fun _ _ _ h => h) (Or.inl ⟨zk16, ?_⟩) ?_ ?_; rotate_left
                ·exact zk95
                rotate_left
                ·exact zk94
                refine pure_ (i := 19) (N := some 39) (v := ?_) (a' := ?_) #[true, true, true, true, true, true, true, true, true, true, true, true, true, true, true, true, true, true, true, true, false, false, false, false, false, false, false, false, false, false, false] rfl rfl (any_of HT_.out zk3) (fun _ _ _ h => h) (Or.inl ⟨zk16, ?_⟩) ?_ ?_; rotate_left
                ·exact zk95
                rotate_left
                ·exact zk94
                refine pure_ (i := 20) (N := some 40) (v := ?_) (a' := ?_) #[true, true, true, true, true, true, true, true, true, true, true, true, true, true, true, true, true, true, true, true, true, false, false, false, false, false, false, false, false, false, false] rfl rfl (any_of HT_.out zk3) (fun _ _ _ h => h) (Or.inl ⟨zk16, ?_⟩) ?_ ?_; rotate_left
                ·exact zk95
                rotate_left
                ·exact zk94
                refine pure_ (i := 22) (N := some 42) (v := ?_) (a' := ?_) #[true, true, true, true, true, true, true, true, true, true, true, true, true, true, true, true, true, true, true, true, true, false, true, false, false, false, false, false, false, false, false] rfl rfl (any_of HT_.out zk3) (fun _ _ _ h => h) (Or.inl ⟨zk16, ?_⟩) ?_ ?_; rotate_left
                ·exact zk95
                rotate_left
                ·exact zk94
                refine pure_ (i := 23) (N := some 43) (v := ?_) (a' := ?_) #[true, true, true, true, true, true, true, true, true, true, true, true, true, true, true, true, true, true, true, true, true, false, true, true, false, false, false, false, false, false, false] rfl rfl (any_of HT_.out zk3) (fun _ _ _ h => h) (Or.inl ⟨zk16, ?_⟩) ?_ ?_; rotate_left
                ·exact zk95
                rotate_left
                ·exact zk94
                refine pure_ (i := 24) (N := some 44) (v := ?_) (a' := ?_) #[true, true, true, true, true, true, true, true, true, true, true, true, true, true, true, true, true, true, true, true, true, false, true, true, true, false, false, false, false, false, false] rfl rfl (any_of HT_.out zk3) (fun _ _ _ h => h) (Or.inl ⟨zk16, ?_⟩) ?_ ?_; rotate_left
                ·exact zk95
                rotate_left
                ·exact zk94
                refine pure_ (i := 25) (N := some 45) (v := ?_) (a' := ?_) #[true, true, true, true, true, true, true, true, true, true, true, true, true, true, true, true, true, true, true, true, true, false, true, true, true, true, false, false, false, false, false] rfl rfl (any_of HT_.out zk3) (fun _ _ _ h => h) (Or.inl ⟨zk16, ?_⟩) ?_ ?_; rotate_left
                ·exact zk95
                rotate_left
                ·exact zk94
                refine pure_ (i := 26) (N := some 46) (v := ?_) (a' := ?_) #[true, true, true, true, true, true, true, true, true, true, true, true, true, true, true, true, true, true, true, true, true, false, true, true, true, true, true, false, false, false, false] rfl rfl (any_of HT_.out zk3) (fun _ _ _ h => h) (Or.inl ⟨zk16, ?_⟩) ?_ ?_; rotate_left
                ·exact zk95
                rotate_left
                ·exact zk94
                refine take_ (i := 21) (N := some 41) (v := ?_) (a' := ?_) #[true, true, true, true, true, true, true, true, true, true, true, true, true, true, true, true, true, true, true, true, true, true, true, true, true, true, true, false, false, false, false] rfl rfl (take_ofW HT_.out HW_.out zk3) (fun _ _ _ h => h) (Or.inl ⟨zk16, ?_⟩) hHeld ?_ ?_; rotate_left
                ·exact zk100
                rotate_left
                ·exact zk94
                refine take_ (i := 27) (N := some 47) (v := ?_) (a' := ?_) #[true, true, true, true, true, true, true, true, true, true, true, true, true, true, true, true, true, true, true, true, true, true, true, true, true, true, true, true, false, false, false] rfl rfl (take_ofW HT_.out HW_.out zk3) (fun _ _ _ h => h) (Or.inl ⟨zk16, ?_⟩) hHeld ?_ ?_; rotate_left
                ·exact zk100
                rotate_left
                ·exact zk94
                refine pure_ (i := 28) (N := some 48) (v := ?_) (a' := ?_) #[true, true, true, true, true, true, true, true, true, true, true, true, true, true, true, true, true, true, true, true, true, true, true, true, true, true, true, true, true, false, false] rfl rfl (any_of HT_.out zk3) (fun _ _ _ h => h) (Or.inl ⟨zk16, ?_⟩) ?_ ?_; rotate_left
                ·exact zk95
                rotate_left
                ·exact zk94
                refine pure_ (i := 29) (N := some 49) (v := ?_) (a' := ?_) #[true, true, true, true, true, true, true, true, true, true, true, true, true, true, true, true, true, true, true, true, true, true, true, true, true, true, true, true, true, true, false] rfl rfl (any_of HT_.out zk3) (fun _ _ _ h => h) (Or.inl ⟨zk16, ?_⟩) ?_ ?_; rotate_left
                ·exact zk95
                rotate_left
                ·exact zk94
                refine pure_ (i := 30) (N := some 50) (v := ?_) (a' := ?_) #[true, true, true, true, true, true, true, true, true, true, true, true, true, true, true, true, true, true, true, true, true, true, true, true, true, true, true, true, true, true, true] rfl rfl (any_of HT_.out zk3) (fun _ _ _ h => h) (Or.inl ⟨zk16, ?_⟩) ?_ ?_; rotate_left
                ·exact zk95
                rotate_left
                ·exact zk94
                refine done_ (done_of HT_.out zk3) ?_; (try go_wp2); go_ret
                exact ⟨by first | rfl | (simp [errW_none, errW_some] <;> rfl) | (simp only [← hji21]; first | rfl | (simp [errW_none, errW_some] <;> rfl)) | (simp [*, errW_none, errW_some] <;> rfl), zk18⟩
              ·rw [if_neg c23] at H; exact absurd H zk30
             ·rw [if_neg c22] at H; exact absurd H zk30
            ·rw [if_neg c20] at H
             have c20b0 : decide (0 < x15_2) = false := decide_eq_false c20; clear c20; have H' := mkA H; clear H; have p101 : 0 ≤ (x15_2 : Int) := of_decide_eq_true zk2; have q101 : x15_2 < (l0.length : Int) := of_decide_eq_true zk2; obtain ⟨ad101, e101, hx101_0, hx101_1⟩ := at_T41 HR0.out x15_2 p101 q101; cases e101; replace hx101_0 := (HB.out.cell (World.block_lt_of_cell? w _ hx101_0)).trans hx101_0; replace hx101_1 := (HB.out.cell (World.block_lt_of_cell? w _ hx101_1)).trans hx101_1; replace p101 := eq_true p101; replace q101 := eq_true q101; (try go_wp2_with (first | ((with_reducible refine gate_dst (N := 4) rfl ?_); (try (refine gate_guard zk16 ?_; dsimp only)); refine box_event ?hg (N := 4) ?hd (cs := #[.string (⟨#[]⟩ : ByteArray), .string (⟨#[]⟩ : ByteArray)]) (t := 41) ?hr ?_; (case hd => exact zk16); (case hg => exact zk16); (case hr => exact zk9); intro gb102 hg w33 hbox hb; have n0_ := mkA (below_step zk1 hb); have n1_ := mkA (hbox); have n2_ := mkA ((by rw [hg]; exact (below_size zk1) : w.heap.size ≤ gb102)); have n3_ := mkA ((by rw [hg]; exact (below_size zk1) : w.heap.size ≤ gb102)); clear HB; have HB := n0_; have BK102 := n1_; have GW102 := n2_; have GE102 := n3_; clear n0_ n1_ n2_ n3_; clear hb hbox hg; obtain ⟨hcz34_0, hcz34_1, hfz34_0, hfz34_1⟩ := cf2 BK102.out))); have n0_ : Aside0 (((w33.setCell ⟨gb102, 0, none⟩ (.string ((rd_T41 l0 x15_2).f0))).setCell ⟨gb102, 1, none⟩ (.string ((rd_T41 l0 x15_2).f1))).heap[gb102]? = some (.cells #[.string ((rd_T41 l0 x15_2).f0), .string ((rd_T41 l0 x15_2).f1)] 41 (0, 0))) := ⟨zk14⟩
             have n1_ : Aside0 (Below w.heap.size w ((w33.setCell ⟨gb102, 0, none⟩ (.string ((rd_T41 l0 x15_2).f0))).setCell ⟨gb102, 1, none⟩ (.string ((rd_T41 l0 x15_2).f1)))) := ⟨zk18⟩
             (try clear BK102); (try clear HB); generalize ((w33.setCell ⟨gb102, 0, none⟩ (.string ((rd_T41 l0 x15_2).f0))).setCell ⟨gb102, 1, none⟩ (.string ((rd_T41 l0 x15_2).f1))) = w35 at n0_ n1_ ⊢; have BK102 := n0_; have HB := n1_; clear n0_ n1_; have n0_ := mkA (blk_drew BK102.out); have n1_ := mkA (below_drew1 HB.out); clear BK102; clear HB; have BK102 := n0_; have HB := n1_; clear n0_ n1_; refine start_ (n := 31) (S := fun w' => w'.cell? ⟨gb102, 0, none⟩ = some (.string ((rd_T41 l0 x15_2).f0)) ∧ w'.cell? ⟨gb102, 1, none⟩ = some (.string ((rd_T41 l0 x15_2).f1))) (ds := []) #[false, false, false, false, false, false, false, false, false, false, false, false, false, false, false, false, false, false, false, false, false, false, false, false, false, false, false, false, false, false, false] zk3 rfl rfl ⟨(blk_cell BK102.out 0).trans rfl, (blk_cell BK102.out 1).trans rfl⟩ (fun hHeld => ?_); refine with_tabW label_Check.tab6 label_Check.bits6 (fun HT_ HW_ => ?_); generalize w35.drew = w36 at BK102 HB hHeld ⊢; refine pure_ (i := 0) (N := some 20) (v := ?_) (a' := ?_) #[true, false, false, false, false, false, false, false, false, false, false, false, false, false, false, false, false, false, false, false, false, false, false, false, false, false, false, false, false, false, false] rfl rfl (any_of HT_.out zk3) (fun _ _ _ h => h) (Or.inl ⟨zk16, ?_⟩) ?_ ?_; rotate_left
             ·exact zk95
             rotate_left
             ·exact zk94
             refine take_ (i := 1) (N := some 21) (v := ?_) (a' := ?_) #[true, true, false, false, false, false, false, false, false, false, false, false, false, false, false, false, false, false, false, false, false, false, false, false, false, false, false, false, false, false, false] rfl rfl (take_ofW HT_.out HW_.out zk3) (fun _ _ _ h => h) (Or.inl ⟨zk16, ?_⟩) hHeld ?_ ?_; rotate_left
             ·exact zk101
             rotate_left
             ·exact zk94
             refine one_ (i := 2) (N := some 22) #[true, true, true, false, false, false, false, false, false, false, false, false, false, false, false, false, false, false, false, false, false, false, false, false, false, false, false, false, false, false, false] rfl rfl (one_of HT_.out zk3) zk40 (fun K hK => ?_); refine goes_ Try.func54 zk3 rfl #[.string ((rd_T41 l0 x15_2).f0)] zk16 rfl rfl zk5 ?_; (with_reducible refine (label_Name.calls k2 ((rd_T41 l0 x15_2).f0) true _ A8.out).mono ?_); rintro e w' ⟨rfl, ⟨nd, rfl⟩⟩; refine ⟨_, rfl, ?_⟩; refine hK.out _ _ ⟨(blk_cell BK102.out 0).trans rfl, (blk_cell BK102.out 1).trans rfl⟩ (fun hHeld => ?_); clear hK K; refine norm_ (a' := ?_) ?_ ?_; rotate_left
             ·exact zk97
             refine pure_ (i := 3) (N := some 23) (v := ?_) (a' := ?_) #[true, true, true, true, false, false, false, false, false, false, false, false, false, false, false, false, false, false, false, false, false, false, false, false, false, false, false, false, false, false, false] rfl rfl (any_of HT_.out zk3) (fun _ _ _ h => h) (Or.inl ⟨zk16, ?_⟩) ?_ ?_; rotate_left
             ·exact zk95
             rotate_left
             ·exact zk94
             refine pure_ (i := 4) (N := some 24) (v := ?_) (a' := ?_) #[true, true, true, true, true, false, false, false, false, false, false, false, false, false, false, false, false, false, false, false, false, false, false, false, false, false, false, false, false, false, false] rfl rfl (any_of HT_.out zk3) (fun _ _ _ h => h) (Or.inl ⟨zk16, ?_⟩) ?_ ?_; rotate_left
             ·exact zk95
             rotate_left
             ·exact zk94
             refine pure_ (i := 5) (N := some 25) (v := ?_) (a' := ?_) #[true, true, true, true, true, true, false, false, false, false, false, false, false, false, false, false, false, false, false, false, false, false, false, false, false, false, false, false, false, false, false] rfl rfl (any_of HT_.out zk3) (fun _ _ _ h => h) (Or.inl ⟨zk16, ?_⟩) ?_ ?_; rotate_left
             ·exact zk95
             rotate_left
             ·exact zk94
             refine take_ (i := 6) (N := some 26) (v := ?_) (a' := ?_) #[true, true, true, true, true, true, true, false, false, false, false, false, false, false, false, false, false, false, false, false, false, false, false, false, false, false, false, false, false, false, false] rfl rfl (take_ofW HT_.out HW_.out zk3) (fun _ _ _ h => h) (Or.inl ⟨zk16, ?_⟩) hHeld ?_ ?_; rotate_left
             ·exact zk101
             rotate_left
             ·exact zk94
             refine pure_ (i := 7) (N := some 27) (v := ?_) (a' := ?_) #[true, true, true, true, true, true, true, true, false, false, false, false, false, false, false, false, false, false, false, false, false, false, false, false, false, false, false, false, false, false, false] rfl rfl (any_of HT_.out zk3) (fun _ _ _ h => h) (Or.inl ⟨zk16, ?_⟩) ?_ ?_; rotate_left
             ·exact zk95
             rotate_left
             ·exact zk94
             refine pure_ (i := 8) (N := some 28) (v := ?_) (a' := ?_) #[true, true, true, true, true, true, true, true, true, false, false, false, false, false, false, false, false, false, false, false, false, false, false, false, false, false, false, false, false, false, false] rfl rfl (any_of HT_.out zk3) (fun _ _ _ h => h) (Or.inl ⟨zk16, ?_⟩) ?_ ?_; rotate_left
             ·exact zk95
             rotate_left
             ·exact zk94
             refine pure_ (i := 9) (N := some 29) (v := ?_) (a' := ?_) #[true, true, true, true, true, true, true, true, true, true, false, false, false, false, false, false, false, false, false, false, false, false, false, false, false, false, false, false, false, false, false] rfl rfl (any_of HT_.out zk3) (fun _ _ _ h => h) (Or.inl ⟨zk16, ?_⟩) ?_ ?_; rotate_left
             ·exact zk95
             rotate_left
             ·exact zk94
             refine pure_ (i := 10) (N := some 30) (v := ?_) (a' := ?_) #[true, true, true, true, true, true, true, true, true, true, true, false, false, false, false, false, false, false, false, false, false, false, false, false, false, false, false, false, false, false, false] rfl rfl (any_of HT_.out zk3) (fun _ _ _ h => h) (Or.inl ⟨zk16, ?_⟩) ?_ ?_; rotate_left
             ·exact zk95
             rotate_left
             ·exact zk94
             refine pure_ (i := 11) (N := some 31) (v := ?_) (a' := ?_) #[true, true, true, true, true, true, true, true, true, true, true, true, false, false, false, false, false, false, false, false, false, false, false, false, false, false, false, false, false, false, false] rfl rfl (any_of HT_.out zk3) (fun _ _ _ h => h) (Or.inl ⟨zk16, ?_⟩) ?_ ?_; rotate_left
             ·exact zk95
             rotate_left
             ·exact zk94
             refine take_ (i := 12) (N := some 32) (v := ?_) (a' := ?_) #[true, true, true, true, true, true, true, true, true, true, true, true, true, false, false, false, false, false, false, false, false, false, false, false, false, false, false, false, false, false, false] rfl rfl (take_ofW HT_.out HW_.out zk3) (fun _ _ _ h => h) (Or.inl ⟨zk16, ?_⟩) hHeld ?_ ?_; rotate_left
             ·exact zk101
             rotate_left
             ·exact zk94
             refine pure_ (i := 13) (N := some 33) (v := ?_) (a' := ?_) #[true, true, true, true, true, true, true, true, true, true, true, true, true, true, false, false, false, false, false, false, false, false, false, false, false, false, false, false, false, false, false] rfl rfl (any_of HT_.out zk3) (fun _ _ _ h => h) (Or.inl ⟨zk16, ?_⟩) ?_ ?_; rotate_left
             ·exact zk95
             rotate_left
             ·exact zk94
             refine pure_ (i := 14) (N := some 34) (v := ?_) (a' := ?_) #[true, true, true, true, true, true, true, true, true, true, true, true, true, true, true, false, false, false, false, false, false, false, false, false, false, false, false, false, false, false, false] rfl rfl (any_of HT_.out zk3) (fun _ _ _ h => h) (Or.inl ⟨zk16, ?_⟩) ?_ ?_; rotate_left
             ·exact zk95
             rotate_left
             ·exact zk94
             refine pure_ (i := 15) (N := some 35) (v := ?_) (a' := ?_) #[true, true, true, true, true, true, true, true, true, true, true, true, true, true, true, true, false, false, false, false, false, false, false, false, false, false, false, false, false, false, false] rfl rfl (any_of HT_.out zk3) (fun _ _ _ h => h) (Or.inl ⟨zk16, ?_⟩) ?_ ?_; rotate_left
             ·exact zk95
             rotate_left
             ·exact zk94
             refine pure_ (i := 16) (N := some 36) (v := ?_) (a' := ?_) #[true, true, true, true, true, true, true, true, true, true, true, true, true, true, true, true, true, false, false, false, false, false, false, false, false, false, false, false, false, false, false] rfl rfl (any_of HT_.out zk3) (fun _ _ _ h => h) (Or.inl ⟨zk16, ?_⟩) ?_ ?_; rotate_left
             ·exact zk95
             rotate_left
             ·exact zk94
             refine pure_ (i := 17) (N := some 37) (v := ?_) (a' := ?_) #[true, true, true, true, true, true, true, true, true, true, true, true, true, true, true, true, true, true, false, false, false, false, false, false, false, false, false, false, false, false, false] rfl rfl (any_of HT_.out zk3) (fun _ _ _ h => h) (Or.inl ⟨zk16, ?_⟩) ?_ ?_; rotate_left
             ·exact zk95
             rotate_left
             ·exact zk94
             refine pure_ (i := 18) (N := some 38) (v := ?_) (a' := ?_) #[true, true, true, true, true, true, true, true, true, true, true, true, true, true, true, true, true, true, true, false, false, false, false, false, false, false, false, false, false, false, false] rfl rfl (any_of HT_.out zk3) (fun _ _ _ h => h) (Or.inl ⟨zk16, ?_⟩) ?_ ?_; rotate_left
             ·exact zk95
             rotate_left
             ·exact zk94
             refine pure_ (i := 19) (N := some 39) (v := ?_) (a' := ?_) #[true, true, true, true, true, true, true, true, true, true, true, true, true, true, true, true, true, true, true, true, false, false, false, false, false, false, false, false, false, false, false] rfl rfl (any_of HT_.out zk3) (fun _ _ _ h => h) (Or.inl ⟨zk16, ?_⟩) ?_ ?_; rotate_left
             ·exact zk95
             rotate_left
             ·exact zk94
             refine pure_ (i := 20) (N := some 40) (v := undef) (a' := ?_) #[true, true, true, true, true, true, true, true, true, true, true, true, true, true, true, true, true, true, true, true, true, false, false, false, false, false, false, false, false, false, false] rfl rfl (any_of HT_.out zk3) (fun _ _ _ h => h) (Or.inr ⟨zk16, rfl⟩) ?_ ?_; rotate_left
             ·exact zk94
             refine pure_ (i := 21) (N := some 41) (v := undef) (a' := ?_) #[true, true, true, true, true, true, true, true, true, true, true, true, true, true, true, true, true, true, true, true, true, true, false, false, false, false, false, false, false, false, false] rfl rfl (any_of HT_.out zk3) (fun _ _ _ h => h) (Or.inr ⟨zk16, rfl⟩) ?_ ?_; rotate_left
             ·exact zk94
             refine pure_ (i := 22) (N := some 42) (v := undef) (a' := ?_) #[true, true, true, true, true, true, true, true, true, true, true, true, true, true, true, true, true, true, true, true, true, true, true, false, false, false, false, false, false, false, false] rfl rfl (any_of HT_.out zk3) (fun _ _ _ h => h) (Or.inr ⟨zk16, rfl⟩) ?_ ?_; rotate_left
             ·exact zk94
             refine pure_ (i := 23) (N := some 43) (v := undef) (a' := ?_) #[true, true, true, true, true, true, true, true, true, true, true, true, true, true, true, true, true, true, true, true, true, true, true, true, false, false, false, false, false, false, false] rfl rfl (any_of HT_.out zk3) (fun _ _ _ h => h) (Or.inr ⟨zk16, rfl⟩) ?_ ?_; rotate_left
             ·exact zk94
             refine pure_ (i := 24) (N := some 44) (v := undef) (a' := ?_) #[true, true, true, true, true, true, true, true, true, true, true, true, true, true, true, true, true, true, true, true, true, true, true, true, true, false, false, false, false, false, false] rfl rfl (any_of HT_.out zk3) (fun _ _ _ h => h) (Or.inr ⟨zk16, rfl⟩) ?_ ?_; rotate_left
             ·exact zk94
             refine pure_ (i := 25) (N := some 45) (v := undef) (a' := ?_) #[true, true, true, true, true, true, true, true, true, true, true, true, true, true, true, true, true, true, true, true, true, true, true, true, true, true, false, false, false, false, false] rfl rfl (any_of HT_.out zk3) (fun _ _ _ h => h) (Or.inr ⟨zk16, rfl⟩) ?_ ?_; rotate_left
             ·exact zk94
             refine pure_ (i := 26) (N := some 46) (v := undef) (a' := ?_) #[true, true, true, true, true, true, true, true, true, true, true, true, true, true, true, true, true, true, true, true, true, true, true, true, true, true, true, false, false, false, false] rfl rfl (any_of HT_.out zk3) (fun _ _ _ h => h) (Or.inr ⟨zk16, rfl⟩) ?_ ?_; rotate_left
             ·exact zk94
             refine pure_ (i := 27) (N := some 47) (v := undef) (a' := ?_) #[true, true, true, true, true, true, true, true, true, true, true, true, true, true, true, true, true, true, true, true, true, true, true, true, true, true, true, true, false, false, false] rfl rfl (any_of HT_.out zk3) (fun _ _ _ h => h) (Or.inr ⟨zk16, rfl⟩) ?_ ?_; rotate_left
             ·exact zk94
             refine pure_ (i := 28) (N := some 48) (v := undef) (a' := ?_) #[true, true, true, true, true, true, true, true, true, true, true, true, true, true, true, true, true, true, true, true, true, true, true, true, true, true, true, true, true, false, false] rfl rfl (any_of HT_.out zk3) (fun _ _ _ h => h) (Or.inr ⟨zk16, rfl⟩) ?_ ?_; rotate_left
             ·exact zk94
             refine pure_ (i := 29) (N := some 49) (v := ?_) (a' := ?_) #[true, true, true, true, true, true, true, true, true, true, true, true, true, true, true, true, true, true, true, true, true, true, true, true, true, true, true, true, true, true, false] rfl rfl (any_of HT_.out zk3) (fun _ _ _ h => h) (Or.inl ⟨zk16, ?_⟩) ?_ ?_; rotate_left
             ·exact zk95
             rotate_left
             ·exact zk94
             refine pure_ (i := 30) (N := some 50) (v := ?_) (a' := ?_) #[true, true, true, true, true, true, true, true, true, true, true, true, true, true, true, true, true, true, true, true, true, true, true, true, true, true, true, true, true, true, true] rfl rfl (any_of HT_.out zk3) (fun _ _ _ h => h) (Or.inl ⟨zk16, ?_⟩) ?_ ?_; rotate_left
             ·exact zk95
             rotate_left
             ·exact zk94
             refine done_ (done_of HT_.out zk3) ?_; (try go_wp2); go_roundg k2
             case measure => have := HJ1.out; have := HK2.out; omega
             case rel => exact ⟨(wrap64 (x15_2 + 1)), zk6, H', ⟨zk32⟩, ⟨zk18⟩⟩
         ·replace c9 := Bool.eq_false_iff.mpr c9
          subst c9; have H1 : (some false) = some r := zk23
          clear H; have H := H1; clear H1; obtain rfl := Option.some.inj H; have p101 : 0 ≤ (x15_2 : Int) := of_decide_eq_true zk2; have q101 : x15_2 < (l0.length : Int) := of_decide_eq_true zk2; obtain ⟨ad101, e101, hx101_0, hx101_1⟩ := at_T41 HR0.out x15_2 p101 q101; cases e101; replace hx101_0 := (HB.out.cell (World.block_lt_of_cell? w _ hx101_0)).trans hx101_0; replace hx101_1 := (HB.out.cell (World.block_lt_of_cell? w _ hx101_1)).trans hx101_1; replace p101 := eq_true p101; replace q101 := eq_true q101; (try go_wp2_with (first | ((with_reducible refine gate_dst (N := 4) rfl ?_); (try (refine gate_guard zk16 ?_; dsimp only)); refine box_event ?hg (N := 4) ?hd (cs := #[.string (⟨#[]⟩ : ByteArray), .string (⟨#[]⟩ : ByteArray)]) (t := 41) ?hr ?_; (case hd => exact zk16); (case hg => exact zk16); (case hr => exact zk9); intro gb102 hg w37 hbox hb; have n0_ := mkA (below_step zk1 hb); have n1_ := mkA (hbox); have n2_ := mkA ((by rw [hg]; exact (below_size zk1) : w.heap.size ≤ gb102)); have n3_ := mkA ((by rw [hg]; exact (below_size zk1) : w.heap.size ≤ gb102)); clear HB; have HB := n0_; have BK102 := n1_; have GW102 := n2_; have GE102 := n3_; clear n0_ n1_ n2_ n3_; clear hb hbox hg; obtain ⟨hcz38_0, hcz38_1, hfz38_0, hfz38_1⟩ := cf2 BK102.out))); have n0_ : Aside0 (((w37.setCell ⟨gb102, 0, none⟩ (.string ((rd_T41 l0 x15_2).f0))).setCell ⟨gb102, 1, none⟩ (.string ((rd_T41 l0 x15_2).f1))).heap[gb102]? = some (.cells #[.string ((rd_T41 l0 x15_2).f0), .string ((rd_T41 l0 x15_2).f1)] 41 (0, 0))) := ⟨zk14⟩
          have n1_ : Aside0 (Below w.heap.size w ((w37.setCell ⟨gb102, 0, none⟩ (.string ((rd_T41 l0 x15_2).f0))).setCell ⟨gb102, 1, none⟩ (.string ((rd_T41 l0 x15_2).f1)))) := ⟨zk18⟩
          (try clear BK102); (try clear HB); generalize ((w37.setCell ⟨gb102, 0, none⟩ (.string ((rd_T41 l0 x15_2).f0))).setCell ⟨gb102, 1, none⟩ (.string ((rd_T41 l0 x15_2).f1))) = w39 at n0_ n1_ ⊢; have BK102 := n0_; have HB := n1_; clear n0_ n1_; have n0_ := mkA (blk_drew BK102.out); have n1_ := mkA (below_drew1 HB.out); clear BK102; clear HB; have BK102 := n0_; have HB := n1_; clear n0_ n1_; refine start_ (n := 31) (S := fun w' => w'.cell? ⟨gb102, 0, none⟩ = some (.string ((rd_T41 l0 x15_2).f0)) ∧ w'.cell? ⟨gb102, 1, none⟩ = some (.string ((rd_T41 l0 x15_2).f1))) (ds := []) #[false, false, false, false, false, false, false, false, false, false, false, false, false, false, false, false, false, false, false, false, false, false, false, false, false, false, false, false, false, false, false] zk3 rfl rfl ⟨(blk_cell BK102.out 0).trans rfl, (blk_cell BK102.out 1).trans rfl⟩ (fun hHeld => ?_); refine with_tabW label_Check.tab6 label_Check.bits6 (fun HT_ HW_ => ?_); generalize w39.drew = w40 at BK102 HB hHeld ⊢; refine pure_ (i := 0) (N := some 20) (v := ?_) (a' := ?_) #[true, false, false, false, false, false, false, false, false, false, false, false, false, false, false, false, false, false, false, false, false, false, false, false, false, false, false, false, false, false, false] rfl rfl (any_of HT_.out zk3) (fun _ _ _ h => h) (Or.inl ⟨zk16, ?_⟩) ?_ ?_; rotate_left
          ·exact zk95
          rotate_left
          ·exact zk94
          refine take_ (i := 1) (N := some 21) (v := ?_) (a' := ?_) #[true, true, false, false, false, false, false, false, false, false, false, false, false, false, false, false, false, false, false, false, false, false, false, false, false, false, false, false, false, false, false] rfl rfl (take_ofW HT_.out HW_.out zk3) (fun _ _ _ h => h) (Or.inl ⟨zk16, ?_⟩) hHeld ?_ ?_; rotate_left
          ·exact zk101
          rotate_left
          ·exact zk94
          refine one_ (i := 2) (N := some 22) #[true, true, true, false, false, false, false, false, false, false, false, false, false, false, false, false, false, false, false, false, false, false, false, false, false, false, false, false, false, false, false] rfl rfl (one_of HT_.out zk3) zk40 (fun K hK => ?_); refine goes_ Try.func54 zk3 rfl #[.string ((rd_T41 l0 x15_2).f0)] zk16 rfl rfl zk5 ?_; (with_reducible refine (label_Name.calls k2 ((rd_T41 l0 x15_2).f0) false _ A8.out).mono ?_); rintro e w' ⟨rfl, ⟨nd, rfl⟩⟩; refine ⟨_, rfl, ?_⟩; refine hK.out _ _ ⟨(blk_cell BK102.out 0).trans rfl, (blk_cell BK102.out 1).trans rfl⟩ (fun hHeld => ?_); clear hK K; refine norm_ (a' := ?_) ?_ ?_; rotate_left
          ·exact zk97
          refine pure_ (i := 3) (N := some 23) (v := ?_) (a' := ?_) #[true, true, true, true, false, false, false, false, false, false, false, false, false, false, false, false, false, false, false, false, false, false, false, false, false, false, false, false, false, false, false] rfl rfl (any_of HT_.out zk3) (fun _ _ _ h => h) (Or.inl ⟨zk16, ?_⟩) ?_ ?_; rotate_left
          ·exact zk95
          rotate_left
          ·exact zk94
          refine pure_ (i := 4) (N := some 24) (v := ?_) (a' := ?_) #[true, true, true, true, true, false, false, false, false, false, false, false, false, false, false, false, false, false, false, false, false, false, false, false, false, false, false, false, false, false, false] rfl rfl (any_of HT_.out zk3) (fun _ _ _ h => h) (Or.inl ⟨zk16, ?_⟩) ?_ ?_; rotate_left
          ·exact zk95
          rotate_left
          ·exact zk94
          refine pure_ (i := 5) (N := some 25) (v := undef) (a' := ?_) #[true, true, true, true, true, true, false, false, false, false, false, false, false, false, false, false, false, false, false, false, false, false, false, false, false, false, false, false, false, false, false] rfl rfl (any_of HT_.out zk3) (fun _ _ _ h => h) (Or.inr ⟨zk16, rfl⟩) ?_ ?_; rotate_left
          ·exact zk94
          refine pure_ (i := 6) (N := some 26) (v := undef) (a' := ?_) #[true, true, true, true, true, true, true, false, false, false, false, false, false, false, false, false, false, false, false, false, false, false, false, false, false, false, false, false, false, false, false] rfl rfl (any_of HT_.out zk3) (fun _ _ _ h => h) (Or.inr ⟨zk16, rfl⟩) ?_ ?_; rotate_left
          ·exact zk94
          refine pure_ (i := 7) (N := some 27) (v := undef) (a' := ?_) #[true, true, true, true, true, true, true, true, false, false, false, false, false, false, false, false, false, false, false, false, false, false, false, false, false, false, false, false, false, false, false] rfl rfl (any_of HT_.out zk3) (fun _ _ _ h => h) (Or.inr ⟨zk16, rfl⟩) ?_ ?_; rotate_left
          ·exact zk94
          refine pure_ (i := 8) (N := some 28) (v := undef) (a' := ?_) #[true, true, true, true, true, true, true, true, true, false, false, false, false, false, false, false, false, false, false, false, false, false, false, false, false, false, false, false, false, false, false] rfl rfl (any_of HT_.out zk3) (fun _ _ _ h => h) (Or.inr ⟨zk16, rfl⟩) ?_ ?_; rotate_left
          ·exact zk94
          refine pure_ (i := 9) (N := some 29) (v := ?_) (a' := ?_) #[true, true, true, true, true, true, true, true, true, true, false, false, false, false, false, false, false, false, false, false, false, false, false, false, false, false, false, false, false, false, false] rfl rfl (any_of HT_.out zk3) (fun _ _ _ h => h) (Or.inl ⟨zk16, ?_⟩) ?_ ?_; rotate_left
          ·exact zk95
          rotate_left
          ·exact zk94
          refine pure_ (i := 10) (N := some 30) (v := ?_) (a' := ?_) #[true, true, true, true, true, true, true, true, true, true, true, false, false, false, false, false, false, false, false, false, false, false, false, false, false, false, false, false, false, false, false] rfl rfl (any_of HT_.out zk3) (fun _ _ _ h => h) (Or.inl ⟨zk16, ?_⟩) ?_ ?_; rotate_left
          ·exact zk95
          rotate_left
          ·exact zk94
          refine pure_ (i := 11) (N := some 31) (v := undef) (a' := ?_) #[true, true, true, true, true, true, true, true, true, true, true, true, false, false, false, false, false, false, false, false, false, false, false, false, false, false, false, false, false, false, false] rfl rfl (any_of HT_.out zk3) (fun _ _ _ h => h) (Or.inr ⟨zk16, rfl⟩) ?_ ?_; rotate_left
          ·exact zk94
          refine pure_ (i := 12) (N := some 32) (v := undef) (a' := ?_) #[true, true, true, true, true, true, true, true, true, true, true, true, true, false, false, false, false, false, false, false, false, false, false, false, false, false, false, false, false, false, false] rfl rfl (any_of HT_.out zk3) (fun _ _ _ h => h) (Or.inr ⟨zk16, rfl⟩) ?_ ?_; rotate_left
          ·exact zk94
          refine pure_ (i := 13) (N := some 33) (v := undef) (a' := ?_) #[true, true, true, true, true, true, true, true, true, true, true, true, true, true, false, false, false, false, false, false, false, false, false, false, false, false, false, false, false, false, false] rfl rfl (any_of HT_.out zk3) (fun _ _ _ h => h) (Or.inr ⟨zk16, rfl⟩) ?_ ?_; rotate_left
          ·exact zk94
          refine pure_ (i := 14) (N := some 34) (v := undef) (a' := ?_) #[true, true, true, true, true, true, true, true, true, true, true, true, true, true, true, false, false, false, false, false, false, false, false, false, false, false, false, false, false, false, false] rfl rfl (any_of HT_.out zk3) (fun _ _ _ h => h) (Or.inr ⟨zk16, rfl⟩) ?_ ?_; rotate_left
          ·exact zk94
          refine pure_ (i := 15) (N := some 35) (v := ?_) (a' := ?_) #[true, true, true, true, true, true, true, true, true, true, true, true, true, true, true, true, false, false, false, false, false, false, false, false, false, false, false, false, false, false, false] rfl rfl (any_of HT_.out zk3) (fun _ _ _ h => h) (Or.inl ⟨zk16, ?_⟩) ?_ ?_; rotate_left
          ·exact zk95
          rotate_left
          ·exact zk94
          refine pure_ (i := 16) (N := some 36) (v := ?_) (a' := ?_) #[true, true, true, true, true, true, true, true, true, true, true, true, true, true, true, true, true, false, false, false, false, false, false, false, false, false, false, false, false, false, false] rfl rfl (any_of HT_.out zk3) (fun _ _ _ h => h) (Or.inl ⟨zk16, ?_⟩) ?_ ?_; rotate_left
          ·exact zk95
          rotate_left
          ·exact zk94
          refine pure_ (i := 17) (N := some 37) (v := undef) (a' := ?_) #[true, true, true, true, true, true, true, true, true, true, true, true, true, true, true, true, true, true, false, false, false, false, false, false, false, false, false, false, false, false, false] rfl rfl (any_of HT_.out zk3) (fun _ _ _ h => h) (Or.inr ⟨zk16, rfl⟩) ?_ ?_; rotate_left
          ·exact zk94
          refine pure_ (i := 18) (N := some 38) (v := undef) (a' := ?_) #[true, true, true, true, true, true, true, true, true, true, true, true, true, true, true, true, true, true, true, false, false, false, false, false, false, false, false, false, false, false, false] rfl rfl (any_of HT_.out zk3) (fun _ _ _ h => h) (Or.inr ⟨zk16, rfl⟩) ?_ ?_; rotate_left
          ·exact zk94
          refine pure_ (i := 19) (N := some 39) (v := undef) (a' := ?_) #[true, true, true, true, true, true, true, true, true, true, true, true, true, true, true, true, true, true, true, true, false, false, false, false, false, false, false, false, false, false, false] rfl rfl (any_of HT_.out zk3) (fun _ _ _ h => h) (Or.inr ⟨zk16, rfl⟩) ?_ ?_; rotate_left
          ·exact zk94
          refine pure_ (i := 20) (N := some 40) (v := undef) (a' := ?_) #[true, true, true, true, true, true, true, true, true, true, true, true, true, true, true, true, true, true, true, true, true, false, false, false, false, false, false, false, false, false, false] rfl rfl (any_of HT_.out zk3) (fun _ _ _ h => h) (Or.inr ⟨zk16, rfl⟩) ?_ ?_; rotate_left
          ·exact zk94
          refine pure_ (i := 21) (N := some 41) (v := undef) (a' := ?_) #[true, true, true, true, true, true, true, true, true, true, true, true, true, true, true, true, true, true, true, true, true, true, false, false, false, false, false, false, false, false, false] rfl rfl (any_of HT_.out zk3) (fun _ _ _ h => h) (Or.inr ⟨zk16, rfl⟩) ?_ ?_; rotate_left
          ·exact zk94
          refine pure_ (i := 22) (N := some 42) (v := undef) (a' := ?_) #[true, true, true, true, true, true, true, true, true, true, true, true, true, true, true, true, true, true, true, true, true, true, true, false, false, false, false, false, false, false, false] rfl rfl (any_of HT_.out zk3) (fun _ _ _ h => h) (Or.inr ⟨zk16, rfl⟩) ?_ ?_; rotate_left
          ·exact zk94
          refine pure_ (i := 23) (N := some 43) (v := undef) (a' := ?_) #[true, true, true, true, true, true, true, true, true, true, true, true, true, true, true, true, true, true, true, true, true, true, true, true, false, false, false, false, false, false, false] rfl rfl (any_of HT_.out zk3) (fun _ _ _ h => h) (Or.inr ⟨zk16, rfl⟩) ?_ ?_; rotate_left
          ·exact zk94
          refine pure_ (i := 24) (N := some 44) (v := undef) (a' := ?_) #[true, true, true, true, true, true, true, true, true, true, true, true, true, true, true, true, true, true, true, true, true, true, true, true, true, false, false, false, false, false, false] rfl rfl (any_of HT_.out zk3) (fun _ _ _ h => h) (Or.inr ⟨zk16, rfl⟩) ?_ ?_; rotate_left
          ·exact zk94
          refine pure_ (i := 25) (N := some 45) (v := undef) (a' := ?_) #[true, true, true, true, true, true, true, true, true, true, true, true, true, true, true, true, true, true, true, true, true, true, true, true, true, true, false, false, false, false, false] rfl rfl (any_of HT_.out zk3) (fun _ _ _ h => h) (Or.inr ⟨zk16, rfl⟩) ?_ ?_; rotate_left
          ·exact zk94
          refine pure_ (i := 26) (N := some 46) (v := undef) (a' := ?_) #[true, true, true, true, true, true, true, true, true, true, true, true, true, true, true, true, true, true, true, true, true, true, true, true, true, true, true, false, false, false, false] rfl rfl (any_of HT_.out zk3) (fun _ _ _ h => h) (Or.inr ⟨zk16, rfl⟩) ?_ ?_; rotate_left
          ·exact zk94
          refine pure_ (i := 27) (N := some 47) (v := undef) (a' := ?_) #[true, true, true, true, true, true, true, true, true, true, true, true, true, true, true, true, true, true, true, true, true, true, true, true, true, true, true, true, false, false, false] rfl rfl (any_of HT_.out zk3) (fun _ _ _ h => h) (Or.inr ⟨zk16, rfl⟩) ?_ ?_; rotate_left
          ·exact zk94
          refine pure_ (i := 28) (N := some 48) (v := undef) (a' := ?_) #[true, true, true, true, true, true, true, true, true, true, true, true, true, true, true, true, true, true, true, true, true, true, true, true, true, true, true, true, true, false, false] rfl rfl (any_of HT_.out zk3) (fun _ _ _ h => h) (Or.inr ⟨zk16, rfl⟩) ?_ ?_; rotate_left
          ·exact zk94
          refine pure_ (i := 29) (N := some 49) (v := undef) (a' := ?_) #[true, true, true, true, true, true, true, true, true, true, true, true, true, true, true, true, true, true, true, true, true, true, true, true, true, true, true, true, true, true, false] rfl rfl (any_of HT_.out zk3) (fun _ _ _ h => h) (Or.inr ⟨zk16, rfl⟩) ?_ ?_; rotate_left
          ·exact zk94
          refine pure_ (i := 30) (N := some 50) (v := ?_) (a' := ?_) #[true, true, true, true, true, true, true, true, true, true, true, true, true, true, true, true, true, true, true, true, true, true, true, true, true, true, true, true, true, true, true] rfl rfl (any_of HT_.out zk3) (fun _ _ _ h => h) (Or.inl ⟨zk16, ?_⟩) ?_ ?_; rotate_left
          ·exact zk95
          rotate_left
          ·exact zk94
          refine done_ (done_of HT_.out zk3) ?_; (try go_wp2); go_ret
          exact ⟨zk4, zk18⟩
        ·exact zk125
       ·exact zk108
      ·rw [if_neg c5] at H
       have c5b0 : decide (x15_2 < (l0.length : Int)) = false := decide_eq_false c5; clear c5; obtain rfl := Option.some.inj H; go_wp2; go_ret
       exact ⟨zk4, zk1⟩
end Go.Proofs.Ytlkhdbfhnpbbhaa.Ix
namespace Go.Proofs.Ytlkhdbfhnpbbhaa.Ix
open Go.RowKit Go.Proofs.YtlkhdbfhnpbbhaaW.PrintWords Go.Proofs.YtlkhdbfhnpbbhaaW.PrintLast Go.Proofs.YtlkhdbfhnpbbhaaW.PrintMore
mutual
def label_Quoted.l0 : Nat → ByteArray → List Int → Int → Int → Option (ByteArray)
 | 0, _, _, _, _ => none
 | k + 1, x0, x3, x8, x9 => if x9 < x8 then (if 0 ≤ x9 then (if x9 < (x0.size : Int) then (if (bt x0 x9) = 34 then (label_Quoted.j1 k x0 x3 (bt x0 x9) x8 x9 true) else (label_Quoted.j1 k x0 x3 (bt x0 x9) x8 x9 ((bt x0 x9) == 92))) else (none)) else (none)) else (if x3.length < 140737488355328 then (some (strOfNums (x3 ++ [34]))) else (none))
def label_Quoted.j1 : Nat → ByteArray → List Int → Int → Int → Int → Bool → Option (ByteArray)
 | 0, _, _, _, _, _, _ => none
 | k + 1, x0, x3, x5, x8, x9, x19 => if x19 = true then ((some (([92, x5] : List Int) : List Int)).bind fun y111 => (if x3.length + y111.length < 140737488355328 then (label_Quoted.l0 k x0 (x3 ++ y111) x8 (wrap64 (x9 + 1))) else (none))) else (if x5 < 32 then (if 0 ≤ (x5 / 16) then (if (x5 / 16) < 16 then (if 0 ≤ (Go.bits .and .u8 x5 15) then (if (Go.bits .and .u8 x5 15) < 16 then ((some (([92, 120, bt (⟨#[48, 49, 50, 51, 52, 53, 54, 55, 56, 57, 97, 98, 99, 100, 101, 102]⟩ : ByteArray) (x5 / 16), bt (⟨#[48, 49, 50, 51, 52, 53, 54, 55, 56, 57, 97, 98, 99, 100, 101, 102]⟩ : ByteArray) (Go.bits .and .u8 x5 15)] : List Int) : List Int)).bind fun y117 => (if x3.length + y117.length < 140737488355328 then (label_Quoted.l0 k x0 (x3 ++ y117) x8 (wrap64 (x9 + 1))) else (none))) else (none)) else (none)) else (none)) else (none)) else (if x5 ≥ 127 then (if 0 ≤ (x5 / 16) then (if (x5 / 16) < 16 then (if 0 ≤ (Go.bits .and .u8 x5 15) then (if (Go.bits .and .u8 x5 15) < 16 then ((some (([92, 120, bt (⟨#[48, 49, 50, 51, 52, 53, 54, 55, 56, 57, 97, 98, 99, 100, 101, 102]⟩ : ByteArray) (x5 / 16), bt (⟨#[48, 49, 50, 51, 52, 53, 54, 55, 56, 57, 97, 98, 99, 100, 101, 102]⟩ : ByteArray) (Go.bits .and .u8 x5 15)] : List Int) : List Int)).bind fun y123 => (if x3.length + y123.length < 140737488355328 then (label_Quoted.l0 k x0 (x3 ++ y123) x8 (wrap64 (x9 + 1))) else (none))) else (none)) else (none)) else (none)) else (none)) else (if x3.length < 140737488355328 then (label_Quoted.l0 k x0 (x3 ++ [x5]) x8 (wrap64 (x9 + 1))) else (none))))
end
def label_Quoted.f (k : Nat) (a0 : ByteArray) : Option (ByteArray) := label_Quoted.l0 k a0 (([34] : List Int)) (a0.size : Int) 0
def label_Quoted.T10 : Bool × List (List Nat × List Nat) := (true, [([], []), ([], []), ([1], [1]), ([2], [2]), ([], []), ([4], [4]), ([5], [5]), ([3, 6], [3, 6]), ([0, 7], [0, 7]), ([8, 8, 0, 1, 2, 3, 4, 5, 6, 7, 8], [0, 8])])
def label_Quoted.B10 : List Nat := [0, 0, 2, 6, 0, 16, 48, 126, 255, 511]
theorem label_Quoted.tab10 : rtab .any (opsOf Try.f55 10) = label_Quoted.T10 := by kernel_rfl
theorem label_Quoted.bits10 : waitsOk label_Quoted.T10.2 label_Quoted.B10 = true := by kernel_rfl
set_option maxHeartbeats 8000000 in
set_option maxRecDepth 100000 in
theorem label_Quoted.calls (k : Nat) (a0 : ByteArray) (r : ByteArray) (w : World) (h : label_Quoted.f k a0 = some r) :
  Calls Try.prog 55 #[.string a0] w fun e w' => e = .returned (.string r) ∧ Below w.heap.size w w' := by
 have HB := mkA (Below.refl w.heap.size w); have H : (label_Quoted.l0 k a0 (([34] : List Int)) (a0.size : Int) 0) = some r := h; clear h; obtain ⟨y105, hy105⟩ : ∃ y_ : List Int, y_ = (([34] : List Int)) := ⟨_, rfl⟩
 replace H : (label_Quoted.l0 k a0 y105 (a0.size : Int) 0) = some r := by first | (rw [hy105]; with_reducible exact H) | (have H2_ := (Option.bind_some _ _).symm.trans H; rw [hy105]; with_reducible exact H2_) | (have H2_ := (Option.bind_some _ _).symm.trans H; with_reducible exact H2_) | with_reducible exact H | (rw [hy105]; exact H) | exact H
 have Ny105 := mkA hy105; clear hy105; have H' := mkA H; clear H; go_enter Try.func55, Try.ntmps55; (go_wp2_with (first | ((with_reducible refine gate_dst (N := 6) rfl ?_); refine Kd.R_lit (Kd.int .u8) _ 5 ?hg (N := 6) ?hd (xs := ([34] : List Int)) (inner := [.int .u8 34]) (ok := fun _ => True) (okp := fun _ => True) ?hr ?hp (fun _ hk => hk) trivial (Below.refl _ _) (Nat.le_refl _) zk30 ?_; (case hd => exact zk16); (case hg => exact zk16); (case hr => exact zk9); (case hp => exact (Reps.one (show Kd.M (Kd.int .u8) _ _ _ 34 [.int .u8 34] from rfl) (Reps.none _ _))); intro v106 w2 ho3 hb hg_ hnew_; clear hg_ hnew_; (first | rw [← Ny105.out] at ho3 | (simp only [Int.reduceToNat] at ho3; rw [← Ny105.out] at ho3)); have n0_ := mkA (Kd.R_lower ho3 (below_size zk1)); have n1_ := mkA (below_step zk1 hb); clear HB; have HO107 := n0_; have HB := n1_; clear n0_ n1_; clear hb ho3))); go_loopg [3, 9] k (fun kq v3 v9 w' => ∃ (x3_1 : List Int) (x9_1 : Int), v9 = .int .i64 x9_1 ∧ Aside0 (label_Quoted.l0 kq a0 x3_1 (a0.size : Int) x9_1 = some r) ∧ Aside0 (kq ≤ k) ∧ Aside0 (Kd.R (Kd.int .u8) 5 w' w.heap.size (fun _ => True) v3 x3_1) ∧ Aside0 (Below w.heap.size w w'))
 case atStart => exact ⟨(y105), (0), zk6, H', ⟨Nat.le_refl _⟩, ⟨by (with_reducible repeat (first | apply Kd.R_alloc | apply Kd.R_drewN | apply Kd.R_drew)); exact HO107.out⟩, ⟨zk1⟩⟩
 case round =>
  clear H'; (try clear p2); obtain ⟨x3_1, x9_1, rfl, HA, HK1, HO_3, HB⟩ := hrel
  cases gk with
  | zero => exact absurd HA.out (by simp [label_Quoted.l0])
  | succ k1 =>
   have H := HA.out; clear HA; simp only [label_Quoted.l0] at H; by_cases c4 : x9_1 < (a0.size : Int)
   ·rw [if_pos c4] at H
    have c4b0 : decide (x9_1 < (a0.size : Int)) = true := decide_eq_true c4; clear c4; by_cases c5 : 0 ≤ x9_1
    ·rw [if_pos c5] at H
     have c5b0 : decide (0 ≤ x9_1) = true := decide_eq_true c5; clear c5; by_cases c6 : x9_1 < (a0.size : Int)
     ·rw [if_pos c6] at H
      have c6b0 : decide (x9_1 < (a0.size : Int)) = true := decide_eq_true c6; clear c6; have HC8 := mkA H; clear H; have p7 : 0 ≤ (x9_1 : Int) := of_decide_eq_true zk2; have q7 : x9_1 < (a0.size : Int) := of_decide_eq_true zk2; have hx7 := bt_at a0 x9_1; replace p7 := eq_true p7; replace q7 := eq_true q7; go_upto_region 7 with (fail)
      go_cut [19] (fun v19 wc => ∃ (kq : Nat) (x19_7 : Bool), v19 = .bool x19_7 ∧ Aside0 (label_Quoted.j1 kq a0 x3_1 (bt a0 x9_1) (a0.size : Int) x9_1 x19_7 = some r) ∧ Aside0 (kq ≤ k1) ∧ Aside0 (Kd.R (Kd.int .u8) 5 wc w.heap.size (fun _ => True) u3 x3_1) ∧ Aside0 (Below w.heap.size w wc))
      case first =>
       have H := HC8.out; clear HC8; by_cases c9 : (bt a0 x9_1) = 34
       ·rw [if_pos c9] at H
        have c9b0 : ((bt a0 x9_1) == 34) = true := beq_iff_eq.mpr c9; have c9b1 : ((bt a0 x9_1) != 34) = false := bne_eq_false_iff_eq.mpr c9; clear c9; (first | rw [c9b0] | (simp only [i64_w, i32_w]; rw [c9b0]) | skip); have H' := mkA H; clear H; go_wp2; go_meet
        case rel => exact ⟨_, (true), zk6, H', ⟨zk60⟩, ⟨zk22⟩, ⟨zk1⟩⟩
       ·rw [if_neg c9] at H
        have c9b0 : ((bt a0 x9_1) == 34) = false := beq_eq_false_iff_ne.mpr c9; have c9b1 : ((bt a0 x9_1) != 34) = true := bne_iff_ne.mpr c9; (first | rw [c9b0] | (simp only [i64_w, i32_w]; rw [c9b0]) | skip); have H' := mkA H; clear H; go_wp2; go_meet
        case rel => exact ⟨_, (((bt a0 x9_1) == 92)), zk6, H', ⟨zk60⟩, ⟨zk22⟩, ⟨zk1⟩⟩
      case rest =>
       clear HC8; (try clear p2); (try clear c4); (try clear c4b0); (try clear c5); (try clear c5b0); (try clear c6); (try clear c6b0); (try clear p7); (try clear q7); (try clear hx7); (try clear c9); (try clear c9b0); (try clear c9b1); (try clear p2); (try clear p7); (try clear q7); obtain ⟨kq, x19_7, rfl, HA, HJ7, HO_3, HB⟩ := hcut
       cases kq with
       | zero => exact absurd HA.out (by simp [label_Quoted.j1])
       | succ kj7 =>
        have H := HA.out; clear HA; simp only [label_Quoted.j1] at H; by_cases c10 : x19_7 = true
        ·subst c10
         have H1 : ((some (([92, (bt a0 x9_1)] : List Int) : List Int)).bind fun y111 => (if x3_1.length + y111.length < 140737488355328 then (label_Quoted.l0 kj7 a0 (x3_1 ++ y111) (a0.size : Int) (wrap64 (x9_1 + 1))) else (none))) = some r := zk29
         clear H; have H := H1; clear H1; obtain ⟨y111, hy111⟩ : ∃ y_ : List Int, y_ = (([92, (bt a0 x9_1)] : List Int)) := ⟨_, rfl⟩
         replace H : (if x3_1.length + y111.length < 140737488355328 then (label_Quoted.l0 kj7 a0 (x3_1 ++ y111) (a0.size : Int) (wrap64 (x9_1 + 1))) else (none)) = some r := by first | (rw [hy111]; with_reducible exact H) | (have H2_ := (Option.bind_some _ _).symm.trans H; rw [hy111]; with_reducible exact H2_) | (have H2_ := (Option.bind_some _ _).symm.trans H; with_reducible exact H2_) | with_reducible exact H | (rw [hy111]; exact H) | exact H
         have Ny111 := mkA hy111; clear hy111; by_cases c11 : x3_1.length + y111.length < 140737488355328
         ·rw [if_pos c11] at H
          have LMc11 := mkA c11; clear c11; obtain ⟨y114, hy114⟩ : ∃ y_ : List Int, y_ = (x3_1 ++ y111) := ⟨_, rfl⟩
          replace H : (label_Quoted.l0 kj7 a0 y114 (a0.size : Int) (wrap64 (x9_1 + 1))) = some r := by first | (rw [hy114]; with_reducible exact H) | (have H2_ := (Option.bind_some _ _).symm.trans H; rw [hy114]; with_reducible exact H2_) | (have H2_ := (Option.bind_some _ _).symm.trans H; with_reducible exact H2_) | with_reducible exact H | (rw [hy114]; exact H) | exact H
          have Ny114 := mkA hy114; clear hy114; have H' := mkA H; clear H; (go_wp2_with (first | ((with_reducible refine gate_dst (N := 28) rfl ?_); refine Kd.R_lit (Kd.int .u8) _ 5 ?hg (N := 28) ?hd (xs := ([92, (bt a0 x9_1)] : List Int)) (inner := [.int .u8 92, .int .u8 (bt a0 x9_1)]) (ok := fun _ => True) (okp := fun _ => True) ?hr ?hp (fun _ hk => hk) trivial (Below.refl _ _) (Nat.le_refl _) zk30 ?_; (case hd => exact zk16); (case hg => exact zk16); (case hr => exact zk9); (case hp => exact (Reps.one (show Kd.M (Kd.int .u8) _ _ _ 92 [.int .u8 92] from rfl) (Reps.one (show Kd.M (Kd.int .u8) _ _ _ (bt a0 x9_1) [.int .u8 (bt a0 x9_1)] from rfl) (Reps.none _ _)))); intro v112 w12 ho13 hb hg_ hnew_; clear hg_ hnew_; (first | rw [← Ny111.out] at ho13 | (simp only [Int.reduceToNat] at ho13; rw [← Ny111.out] at ho13)); have n0_ := mkA (Kd.R_elder' zk22 (Kd.R_base ho13) hb); have n1_ := mkA (Kd.R_lower (Kd.R_new' ho13 (Kd.R_lt zk22)) (below_size zk1)); have n2_ := mkA (below_step zk1 hb); clear HO_3; clear HB; have HO_3 := n0_; have HO113 := n1_; have HB := n2_; clear n0_ n1_ n2_; clear hb ho13; obtain ⟨Ao15, co15, eo15⟩ := Kd.R_slice HO113.out; subst eo15) | ((with_reducible refine gate_builtin (b := .append) (xs := #[.tmp 26, .tmp 28]) rfl ?_); at_builtin; refine Kd.R_append_rows (Kd.int .u8) (w0 := w) w.heap.size rfl (.tmp 26) (.tmp 28) 106 5 (.int .u8 0) 1 rfl Try.underlying106 info5 rfl zk40 zk12 u3 x3_1 y111 _ _ _ (fun k_ => some k_ ≠ (.slice Ao15 y111.length co15 : Value).ownBlock) (fun _ => False) rfl rfl ?aO ?aR (fun _ _ h => h) (fun _ h => h.elim) ?aF ?aB ?aS ?aL ?_; (case aR => repeat (first | exact (Kd.R_reads' HO113.out).2.2 | (with_reducible refine Kd.C_alloc ?_ _) | (with_reducible refine Kd.C_drewN ?_ _) | (with_reducible refine Kd.C_drew ?_))); (case aB => exact zk27); (case aF => exact (fun k_ hk => Kd.fresh' (Kd.R_lt zk61) k_ hk)); (case aO => exact zk37); (case aS => exact zk26); (case aL => have := LMc11.out; omega); intro v115 w14 ho hb hg hat; rw [← Ny114.out] at ho; have n0_ := mkA (Kd.R_after (ok := (fun _ => True)) zk61 hg hat); have n1_ := mkA (hb); have n2_ := mkA (ho); clear HO113; clear HB; clear HO_3; have HO113 := n0_; have HB := n1_; have HO116 := n2_; clear n0_ n1_ n2_; clear ho hb hg hat))); go_roundg kj7
          case measure => have := HK1.out; have := HJ7.out; omega
          case rel => exact ⟨(y114), (wrap64 (x9_1 + 1)), zk6, H', ⟨zk78⟩, ⟨by (with_reducible repeat (first | apply Kd.R_alloc | apply Kd.R_drewN | apply Kd.R_drew)); exact Kd.R_mono HO116.out (fun _ hk => trivial)⟩, ⟨zk1⟩⟩
         ·exact zk123
        ·replace c10 := Bool.eq_false_iff.mpr c10
         subst c10; have H1 : (if (bt a0 x9_1) < 32 then (if 0 ≤ ((bt a0 x9_1) / 16) then (if ((bt a0 x9_1) / 16) < 16 then (if 0 ≤ (Go.bits .and .u8 (bt a0 x9_1) 15) then (if (Go.bits .and .u8 (bt a0 x9_1) 15) < 16 then ((some (([92, 120, bt (⟨#[48, 49, 50, 51, 52, 53, 54, 55, 56, 57, 97, 98, 99, 100, 101, 102]⟩ : ByteArray) ((bt a0 x9_1) / 16), bt (⟨#[48, 49, 50, 51, 52, 53, 54, 55, 56, 57, 97, 98, 99, 100, 101, 102]⟩ : ByteArray) (Go.bits .and .u8 (bt a0 x9_1) 15)] : List Int) : List Int)).bind fun y117 => (if x3_1.length + y117.length < 140737488355328 then (label_Quoted.l0 kj7 a0 (x3_1 ++ y117) (a0.size : Int) (wrap64 (x9_1 + 1))) else (none))) else (none)) else (none)) else (none)) else (none)) else (if (bt a0 x9_1) ≥ 127 then (if 0 ≤ ((bt a0 x9_1) / 16) then (if ((bt a0 x9_1) / 16) < 16 then (if 0 ≤ (Go.bits .and .u8 (bt a0 x9_1) 15) then (if (Go.bits .and .u8 (bt a0 x9_1) 15) < 16 then ((some (([92, 120, bt (⟨#[48, 49, 50, 51, 52, 53, 54, 55, 56, 57, 97, 98, 99, 100, 101, 102]⟩ : ByteArray) ((bt a0 x9_1) / 16), bt (⟨#[48, 49, 50, 51, 52, 53, 54, 55, 56, 57, 97, 98, 99, 100, 101, 102]⟩ : ByteArray) (Go.bits .and .u8 (bt a0 x9_1) 15)] : List Int) : List Int)).bind fun y123 => (if x3_1.length + y123.length < 140737488355328 then (label_Quoted.l0 kj7 a0 (x3_1 ++ y123) (a0.size : Int) (wrap64 (x9_1 + 1))) else (none))) else (none)) else (none)) else (none)) else (none)) else (if x3_1.length < 140737488355328 then (label_Quoted.l0 kj7 a0 (x3_1 ++ [(bt a0 x9_1)]) (a0.size : Int) (wrap64 (x9_1 + 1))) else (none)))) = some r := zk23
         clear H; have H := H1; clear H1; by_cases c16 : (bt a0 x9_1) < 32
         ·rw [if_pos c16] at H
          have c16b0 : decide ((bt a0 x9_1) < 32) = true := decide_eq_true c16; clear c16; obtain ⟨ji17, hji17⟩ : ∃ j_ : Int, ((bt a0 x9_1) / 16) = j_ := ⟨_, rfl⟩
          replace H : (if 0 ≤ (ji17) then (if (ji17) < 16 then (if 0 ≤ (Go.bits .and .u8 (bt a0 x9_1) 15) then (if (Go.bits .and .u8 (bt a0 x9_1) 15) < 16 then ((some (([92, 120, bt (⟨#[48, 49, 50, 51, 52, 53, 54, 55, 56, 57, 97, 98, 99, 100, 101, 102]⟩ : ByteArray) (ji17), bt (⟨#[48, 49, 50, 51, 52, 53, 54, 55, 56, 57, 97, 98, 99, 100, 101, 102]⟩ : ByteArray) (Go.bits .and .u8 (bt a0 x9_1) 15)] : List Int) : List Int)).bind fun y117 => (if x3_1.length + y117.length < 140737488355328 then (label_Quoted.l0 kj7 a0 (x3_1 ++ y117) (a0.size : Int) (wrap64 (x9_1 + 1))) else (none))) else (none)) else (none)) else (none)) else (none)) = some r := by first | (rw [hji17] at H; exact H) | (simp only [hji17] at H ⊢; exact H)
          by_cases c18 : 0 ≤ (ji17)
          ·rw [if_pos c18] at H
           have c18b0 : decide (0 ≤ (ji17)) = true := decide_eq_true c18; clear c18; by_cases c19 : (ji17) < 16
           ·rw [if_pos c19] at H
            have c19b0 : decide ((ji17) < 16) = true := decide_eq_true c19; clear c19; by_cases c21 : 0 ≤ (Go.bits .and .u8 (bt a0 x9_1) 15)
            ·rw [if_pos c21] at H
             have c21b0 : decide (0 ≤ (Go.bits .and .u8 (bt a0 x9_1) 15)) = true := decide_eq_true c21; clear c21; by_cases c22 : (Go.bits .and .u8 (bt a0 x9_1) 15) < 16
             ·rw [if_pos c22] at H
              have c22b0 : decide ((Go.bits .and .u8 (bt a0 x9_1) 15) < 16) = true := decide_eq_true c22; clear c22; obtain ⟨y117, hy117⟩ : ∃ y_ : List Int, y_ = (([92, 120, bt (⟨#[48, 49, 50, 51, 52, 53, 54, 55, 56, 57, 97, 98, 99, 100, 101, 102]⟩ : ByteArray) (ji17), bt (⟨#[48, 49, 50, 51, 52, 53, 54, 55, 56, 57, 97, 98, 99, 100, 101, 102]⟩ : ByteArray) (Go.bits .and .u8 (bt a0 x9_1) 15)] : List Int)) := ⟨_, rfl⟩
              replace H : (if x3_1.length + y117.length < 140737488355328 then (label_Quoted.l0 kj7 a0 (x3_1 ++ y117) (a0.size : Int) (wrap64 (x9_1 + 1))) else (none)) = some r := by first | (rw [hy117]; with_reducible exact H) | (have H2_ := (Option.bind_some _ _).symm.trans H; rw [hy117]; with_reducible exact H2_) | (have H2_ := (Option.bind_some _ _).symm.trans H; with_reducible exact H2_) | with_reducible exact H | (rw [hy117]; exact H) | exact H
              have Ny117 := mkA hy117; clear hy117; by_cases c24 : x3_1.length + y117.length < 140737488355328
              ·rw [if_pos c24] at H
               have LMc24 := mkA c24; clear c24; obtain ⟨y120, hy120⟩ : ∃ y_ : List Int, y_ = (x3_1 ++ y117) := ⟨_, rfl⟩
               replace H : (label_Quoted.l0 kj7 a0 y120 (a0.size : Int) (wrap64 (x9_1 + 1))) = some r := by first | (rw [hy120]; with_reducible exact H) | (have H2_ := (Option.bind_some _ _).symm.trans H; rw [hy120]; with_reducible exact H2_) | (have H2_ := (Option.bind_some _ _).symm.trans H; with_reducible exact H2_) | with_reducible exact H | (rw [hy120]; exact H) | exact H
               have Ny120 := mkA hy120; clear hy120; have H' := mkA H; clear H; (try go_wp2); have n0_ := mkA (Kd.R_drew HO_3.out); have n1_ := mkA (below_drew1 HB.out); clear HO_3; clear HB; have HO_3 := n0_; have HB := n1_; clear n0_ n1_; have p20 : 0 ≤ ((ji17) : Int) := of_decide_eq_true zk2; have q20 : (ji17) < (16 : Int) := of_decide_eq_true zk2; have hx20 := bt_at (⟨#[48, 49, 50, 51, 52, 53, 54, 55, 56, 57, 97, 98, 99, 100, 101, 102]⟩ : ByteArray) (ji17); replace p20 := eq_true p20; replace q20 := eq_true q20; have p23 : 0 ≤ ((Go.bits .and .u8 (bt a0 x9_1) 15) : Int) := of_decide_eq_true zk2; have q23 : (Go.bits .and .u8 (bt a0 x9_1) 15) < (16 : Int) := of_decide_eq_true zk2; have hx23 := bt_at (⟨#[48, 49, 50, 51, 52, 53, 54, 55, 56, 57, 97, 98, 99, 100, 101, 102]⟩ : ByteArray) (Go.bits .and .u8 (bt a0 x9_1) 15); replace p23 := eq_true p23; replace q23 := eq_true q23; refine start_ (n := 10) (S := fun w' => True) (ds := []) #[false, false, false, false, false, false, false, false, false, false] zk3 rfl rfl trivial (fun hHeld => ?_); refine with_tabW label_Quoted.tab10 label_Quoted.bits10 (fun HT_ HW_ => ?_); generalize wc.drew = w25 at HO_3 HB hHeld ⊢; refine pure_ (i := 0) (N := some 37) (v := ?_) (a' := ?_) #[true, false, false, false, false, false, false, false, false, false] rfl rfl (any_of HT_.out zk3) (fun _ _ _ h => h) (Or.inl ⟨zk16, ?_⟩) ?_ ?_; rotate_left
               ·exact zk95
               rotate_left
               ·exact zk94
               refine pure_ (i := 1) (N := some 38) (v := ?_) (a' := ?_) #[true, true, false, false, false, false, false, false, false, false] rfl rfl (any_of HT_.out zk3) (fun _ _ _ h => h) (Or.inl ⟨zk16, ?_⟩) ?_ ?_; rotate_left
               ·exact zk95
               rotate_left
               ·exact zk94
               refine pure_ (i := 2) (N := some 39) (v := ?_) (a' := ?_) #[true, true, true, false, false, false, false, false, false, false] rfl rfl (any_of HT_.out zk3) (fun _ _ _ h => h) (Or.inl ⟨zk16, ?_⟩) ?_ ?_; rotate_left
               ·exact zk95
               rotate_left
               ·exact zk94
               refine pure_ (i := 4) (N := some 41) (v := ?_) (a' := ?_) #[true, true, true, false, true, false, false, false, false, false] rfl rfl (any_of HT_.out zk3) (fun _ _ _ h => h) (Or.inl ⟨zk16, ?_⟩) ?_ ?_; rotate_left
               ·exact zk95
               rotate_left
               ·exact zk94
               refine pure_ (i := 5) (N := some 42) (v := ?_) (a' := ?_) #[true, true, true, false, true, true, false, false, false, false] rfl rfl (any_of HT_.out zk3) (fun _ _ _ h => h) (Or.inl ⟨zk16, ?_⟩) ?_ ?_; rotate_left
               ·exact zk95
               rotate_left
               ·exact zk94
               refine take_ (i := 3) (N := some 40) (v := ?_) (a' := ?_) #[true, true, true, true, true, true, false, false, false, false] rfl rfl (take_ofW HT_.out HW_.out zk3) (fun _ _ _ h => h) (Or.inl ⟨zk16, ?_⟩) hHeld ?_ ?_; rotate_left
               ·exact zk124
               rotate_left
               ·exact zk94
               refine take_ (i := 6) (N := some 43) (v := ?_) (a' := ?_) #[true, true, true, true, true, true, true, false, false, false] rfl rfl (take_ofW HT_.out HW_.out zk3) (fun _ _ _ h => h) (Or.inl ⟨zk16, ?_⟩) hHeld ?_ ?_; rotate_left
               ·exact zk124
               rotate_left
               ·exact zk94
               refine one_ (i := 7) (N := some 44) #[true, true, true, true, true, true, true, true, false, false] rfl rfl (one_of HT_.out zk3) zk40 (fun K hK => ?_); refine Kd.R_lit_step (Kd.int .u8) _ 5 ?hg (N := 44) ?hd (xs := ([92, 120, bt (⟨#[48, 49, 50, 51, 52, 53, 54, 55, 56, 57, 97, 98, 99, 100, 101, 102]⟩ : ByteArray) (ji17), bt (⟨#[48, 49, 50, 51, 52, 53, 54, 55, 56, 57, 97, 98, 99, 100, 101, 102]⟩ : ByteArray) (Go.bits .and .u8 (bt a0 x9_1) 15)] : List Int)) (inner := [.int .u8 92, .int .u8 120, .int .u8 (bt (⟨#[48, 49, 50, 51, 52, 53, 54, 55, 56, 57, 97, 98, 99, 100, 101, 102]⟩ : ByteArray) (ji17)), .int .u8 (bt (⟨#[48, 49, 50, 51, 52, 53, 54, 55, 56, 57, 97, 98, 99, 100, 101, 102]⟩ : ByteArray) (Go.bits .and .u8 (bt a0 x9_1) 15))]) (ok := fun _ => True) (okp := fun _ => True) ?hr ?hp (fun _ hk => hk) trivial (Below.refl _ _) (Nat.le_refl _) zk30 ?_; (case hd => exact zk16); (case hg => exact zk16); (case hr => exact zk9); (case hp => exact (Reps.one (show Kd.M (Kd.int .u8) _ _ _ 92 [.int .u8 92] from rfl) (Reps.one (show Kd.M (Kd.int .u8) _ _ _ 120 [.int .u8 120] from rfl) (Reps.one (show Kd.M (Kd.int .u8) _ _ _ (bt (⟨#[48, 49, 50, 51, 52, 53, 54, 55, 56, 57, 97, 98, 99, 100, 101, 102]⟩ : ByteArray) (ji17)) [.int .u8 (bt (⟨#[48, 49, 50, 51, 52, 53, 54, 55, 56, 57, 97, 98, 99, 100, 101, 102]⟩ : ByteArray) (ji17))] from rfl) (Reps.one (show Kd.M (Kd.int .u8) _ _ _ (bt (⟨#[48, 49, 50, 51, 52, 53, 54, 55, 56, 57, 97, 98, 99, 100, 101, 102]⟩ : ByteArray) (Go.bits .and .u8 (bt a0 x9_1) 15)) [.int .u8 (bt (⟨#[48, 49, 50, 51, 52, 53, 54, 55, 56, 57, 97, 98, 99, 100, 101, 102]⟩ : ByteArray) (Go.bits .and .u8 (bt a0 x9_1) 15))] from rfl) (Reps.none _ _)))))); intro v118 w26 ho27 hb hg_ hnew_; clear hg_ hnew_; (first | rw [← Ny117.out] at ho27 | (simp only [Int.reduceToNat] at ho27; rw [← Ny117.out] at ho27)); have n0_ := mkA (Kd.R_elder' zk22 (Kd.R_base ho27) hb); have n1_ := mkA (Kd.R_lower (Kd.R_new' ho27 (Kd.R_lt zk22)) (below_size zk1)); have n2_ := mkA (below_step zk1 hb); clear HO_3; clear HB; have HO_3 := n0_; have HO119 := n1_; have HB := n2_; clear n0_ n1_ n2_; clear hb ho27; obtain ⟨Ao29, co29, eo29⟩ := Kd.R_slice HO119.out; (first | subst eo29 | (injection eo29 with f1_ f2_ f3_; have f4_ := f1_.symm; have f5_ := f3_.symm; clear f1_ f2_ f3_; subst f4_; subst f5_)); refine hK.out _ _ trivial (fun hHeld => ?_); clear hK K; refine norm_ (a' := ?_) ?_ ?_; rotate_left
               ·exact zk109
               refine one_ (i := 8) (N := some 45) #[true, true, true, true, true, true, true, true, true, false] rfl rfl (one_of HT_.out zk3) zk40 (fun K hK => ?_); refine Kd.R_append_rows_step (Kd.int .u8) (w0 := w) w.heap.size zk16 (.tmp 37) (.tmp 44) 106 5 (.int .u8 0) 1 rfl Try.underlying106 info5 rfl zk40 zk12 u3 x3_1 y117 _ _ _ (fun k_ => some k_ ≠ (.slice Ao29 y117.length co29 : Value).ownBlock) (fun _ => False) rfl rfl ?aO ?aR (fun _ _ h => h) (fun _ h => h.elim) ?aF ?aB ?aS ?aL ?_; (case aR => repeat (first | exact (Kd.R_reads' HO119.out).2.2 | (with_reducible refine Kd.C_alloc ?_ _) | (with_reducible refine Kd.C_drewN ?_ _) | (with_reducible refine Kd.C_drew ?_))); (case aB => exact zk27); (case aF => exact (fun k_ hk => Kd.fresh' (Kd.R_lt zk62) k_ hk)); (case aO => exact zk37); (case aS => exact zk26); (case aL => have := LMc24.out; omega); intro v121 w28 ho hb hg hat; rw [← Ny120.out] at ho; have n0_ := mkA (Kd.R_after (ok := (fun _ => True)) zk62 hg hat); have n1_ := mkA (hb); have n2_ := mkA (ho); clear HO119; clear HB; clear HO_3; have HO119 := n0_; have HB := n1_; have HO122 := n2_; clear n0_ n1_ n2_; clear ho hb hg hat; refine hK.out _ _ trivial (fun hHeld => ?_); clear hK K; refine norm_ (a' := ?_) ?_ ?_; rotate_left
               ·exact zk102
               refine pure_ (i := 9) (N := some 3) (v := ?_) (a' := ?_) #[true, true, true, true, true, true, true, true, true, true] rfl rfl (any_of HT_.out zk3) (fun _ _ _ h => h) (Or.inl ⟨zk16, ?_⟩) ?_ ?_; rotate_left
               ·exact zk95
               rotate_left
               ·exact zk94
               refine done_ (done_of HT_.out zk3) ?_; (try go_wp2); go_roundg kj7
               case measure => have := HK1.out; have := HJ7.out; omega
               case rel => exact ⟨(y120), (wrap64 (x9_1 + 1)), zk6, H', ⟨zk78⟩, ⟨by (with_reducible repeat (first | apply Kd.R_alloc | apply Kd.R_drewN | apply Kd.R_drew)); exact Kd.R_mono HO122.out (fun _ hk => trivial)⟩, ⟨zk1⟩⟩
              ·rw [if_neg c24] at H; exact absurd H zk30
             ·rw [if_neg c22] at H; exact absurd H zk30
            ·rw [if_neg c21] at H; exact absurd H zk30
           ·rw [if_neg c19] at H; exact absurd H zk30
          ·rw [if_neg c18] at H; exact absurd H zk30
         ·rw [if_neg c16] at H
          have c16b0 : decide ((bt a0 x9_1) < 32) = false := decide_eq_false c16; clear c16; by_cases c30 : (bt a0 x9_1) ≥ 127
          ·rw [if_pos c30] at H
           have c30b0 : decide (127 ≤ (bt a0 x9_1)) = true := decide_eq_true c30; clear c30; obtain ⟨ji31, hji31⟩ : ∃ j_ : Int, ((bt a0 x9_1) / 16) = j_ := ⟨_, rfl⟩
           replace H : (if 0 ≤ (ji31) then (if (ji31) < 16 then (if 0 ≤ (Go.bits .and .u8 (bt a0 x9_1) 15) then (if (Go.bits .and .u8 (bt a0 x9_1) 15) < 16 then ((some (([92, 120, bt (⟨#[48, 49, 50, 51, 52, 53, 54, 55, 56, 57, 97, 98, 99, 100, 101, 102]⟩ : ByteArray) (ji31), bt (⟨#[48, 49, 50, 51, 52, 53, 54, 55, 56, 57, 97, 98, 99, 100, 101, 102]⟩ : ByteArray) (Go.bits .and .u8 (bt a0 x9_1) 15)] : List Int) : List Int)).bind fun y123 => (if x3_1.length + y123.length < 140737488355328 then (label_Quoted.l0 kj7 a0 (x3_1 ++ y123) (a0.size : Int) (wrap64 (x9_1 + 1))) else (none))) else (none)) else (none)) else (none)) else (none)) = some r := by first | (rw [hji31] at H; exact H) | (simp only [hji31] at H ⊢; exact H)
           by_cases c32 : 0 ≤ (ji31)
           ·rw [if_pos c32] at H
            have c32b0 : decide (0 ≤ (ji31)) = true := decide_eq_true c32; clear c32; by_cases c33 : (ji31) < 16
            ·rw [if_pos c33] at H
             have c33b0 : decide ((ji31) < 16) = true := decide_eq_true c33; clear c33; by_cases c35 : 0 ≤ (Go.bits .and .u8 (bt a0 x9_1) 15)
             ·rw [if_pos c35] at H
              have c35b0 : decide (0 ≤ (Go.bits .and .u8 (bt a0 x9_1) 15)) = true := decide_eq_true c35; clear c35; by_cases c36 : (Go.bits .and .u8 (bt a0 x9_1) 15) < 16
              ·rw [if_pos c36] at H
               have c36b0 : decide ((Go.bits .and .u8 (bt a0 x9_1) 15) < 16) = true := decide_eq_true c36; clear c36; obtain ⟨y123, hy123⟩ : ∃ y_ : List Int, y_ = (([92, 120, bt (⟨#[48, 49, 50, 51, 52, 53, 54, 55, 56, 57, 97, 98, 99, 100, 101, 102]⟩ : ByteArray) (ji31), bt (⟨#[48, 49, 50, 51, 52, 53, 54, 55, 56, 57, 97, 98, 99, 100, 101, 102]⟩ : ByteArray) (Go.bits .and .u8 (bt a0 x9_1) 15)] : List Int)) := ⟨_, rfl⟩
               replace H : (if x3_1.length + y123.length < 140737488355328 then (label_Quoted.l0 kj7 a0 (x3_1 ++ y123) (a0.size : Int) (wrap64 (x9_1 + 1))) else (none)) = some r := by first | (rw [hy123]; with_reducible exact H) | (have H2_ := (Option.bind_some _ _).symm.trans H; rw [hy123]; with_reducible exact H2_) | (have H2_ := (Option.bind_some _ _).symm.trans H; with_reducible exact H2_) | with_reducible exact H | (rw [hy123]; exact H) | exact H
               have Ny123 := mkA hy123; clear hy123; by_cases c38 : x3_1.length + y123.length < 140737488355328
               ·rw [if_pos c38] at H
                have LMc38 := mkA c38; clear c38; obtain ⟨y126, hy126⟩ : ∃ y_ : List Int, y_ = (x3_1 ++ y123) := ⟨_, rfl⟩
                replace H : (label_Quoted.l0 kj7 a0 y126 (a0.size : Int) (wrap64 (x9_1 + 1))) = some r := by first | (rw [hy126]; with_reducible exact H) | (have H2_ := (Option.bind_some _ _).symm.trans H; rw [hy126]; with_reducible exact H2_) | (have H2_ := (Option.bind_some _ _).symm.trans H; with_reducible exact H2_) | with_reducible exact H | (rw [hy126]; exact H) | exact H
                have Ny126 := mkA hy126; clear hy126; have H' := mkA H; clear H; (try go_wp2); have n0_ := mkA (Kd.R_drew HO_3.out); have n1_ := mkA (below_drew1 HB.out); clear HO_3; clear HB; have HO_3 := n0_; have HB := n1_; clear n0_ n1_; have p34 : 0 ≤ ((ji31) : Int) := of_decide_eq_true zk2; have q34 : (ji31) < (16 : Int) := of_decide_eq_true zk2; have hx34 := bt_at (⟨#[48, 49, 50, 51, 52, 53, 54, 55, 56, 57, 97, 98, 99, 100, 101, 102]⟩ : ByteArray) (ji31); replace p34 := eq_true p34; replace q34 := eq_true q34; have p37 : 0 ≤ ((Go.bits .and .u8 (bt a0 x9_1) 15) : Int) := of_decide_eq_true zk2; have q37 : (Go.bits .and .u8 (bt a0 x9_1) 15) < (16 : Int) := of_decide_eq_true zk2; have hx37 := bt_at (⟨#[48, 49, 50, 51, 52, 53, 54, 55, 56, 57, 97, 98, 99, 100, 101, 102]⟩ : ByteArray) (Go.bits .and .u8 (bt a0 x9_1) 15); replace p37 := eq_true p37; replace q37 := eq_true q37; refine start_ (n := 10) (S := fun w' => True) (ds := []) #[false, false, false, false, false, false, false, false, false, false] zk3 rfl rfl trivial (fun hHeld => ?_); refine with_tabW label_Quoted.tab10 label_Quoted.bits10 (fun HT_ HW_ => ?_); generalize wc.drew = w39 at HO_3 HB hHeld ⊢; refine pure_ (i := 0) (N := some 37) (v := ?_) (a' := ?_) #[true, false, false, false, false, false, false, false, false, false] rfl rfl (any_of HT_.out zk3) (fun _ _ _ h => h) (Or.inl ⟨zk16, ?_⟩) ?_ ?_; rotate_left
                ·exact zk95
                rotate_left
                ·exact zk94
                refine pure_ (i := 1) (N := some 38) (v := ?_) (a' := ?_) #[true, true, false, false, false, false, false, false, false, false] rfl rfl (any_of HT_.out zk3) (fun _ _ _ h => h) (Or.inl ⟨zk16, ?_⟩) ?_ ?_; rotate_left
                ·exact zk95
                rotate_left
                ·exact zk94
                refine pure_ (i := 2) (N := some 39) (v := ?_) (a' := ?_) #[true, true, true, false, false, false, false, false, false, false] rfl rfl (any_of HT_.out zk3) (fun _ _ _ h => h) (Or.inl ⟨zk16, ?_⟩) ?_ ?_; rotate_left
                ·exact zk95
                rotate_left
                ·exact zk94
                refine pure_ (i := 4) (N := some 41) (v := ?_) (a' := ?_) #[true, true, true, false, true, false, false, false, false, false] rfl rfl (any_of HT_.out zk3) (fun _ _ _ h => h) (Or.inl ⟨zk16, ?_⟩) ?_ ?_; rotate_left
                ·exact zk95
                rotate_left
                ·exact zk94
                refine pure_ (i := 5) (N := some 42) (v := ?_) (a' := ?_) #[true, true, true, false, true, true, false, false, false, false] rfl rfl (any_of HT_.out zk3) (fun _ _ _ h => h) (Or.inl ⟨zk16, ?_⟩) ?_ ?_; rotate_left
                ·exact zk95
                rotate_left
                ·exact zk94
                refine take_ (i := 3) (N := some 40) (v := ?_) (a' := ?_) #[true, true, true, true, true, true, false, false, false, false] rfl rfl (take_ofW HT_.out HW_.out zk3) (fun _ _ _ h => h) (Or.inl ⟨zk16, ?_⟩) hHeld ?_ ?_; rotate_left
                ·exact zk124
                rotate_left
                ·exact zk94
                refine take_ (i := 6) (N := some 43) (v := ?_) (a' := ?_) #[true, true, true, true, true, true, true, false, false, false] rfl rfl (take_ofW HT_.out HW_.out zk3) (fun _ _ _ h => h) (Or.inl ⟨zk16, ?_⟩) hHeld ?_ ?_; rotate_left
                ·exact zk124
                rotate_left
                ·exact zk94
                refine one_ (i := 7) (N := some 44) #[true, true, true, true, true, true, true, true, false, false] rfl rfl (one_of HT_.out zk3) zk40 (fun K hK => ?_); refine Kd.R_lit_step (Kd.int .u8) _ 5 ?hg (N := 44) ?hd (xs := ([92, 120, bt (⟨#[48, 49, 50, 51, 52, 53, 54, 55, 56, 57, 97, 98, 99, 100, 101, 102]⟩ : ByteArray) (ji31), bt (⟨#[48, 49, 50, 51, 52, 53, 54, 55, 56, 57, 97, 98, 99, 100, 101, 102]⟩ : ByteArray) (Go.bits .and .u8 (bt a0 x9_1) 15)] : List Int)) (inner := [.int .u8 92, .int .u8 120, .int .u8 (bt (⟨#[48, 49, 50, 51, 52, 53, 54, 55, 56, 57, 97, 98, 99, 100, 101, 102]⟩ : ByteArray) (ji31)), .int .u8 (bt (⟨#[48, 49, 50, 51, 52, 53, 54, 55, 56, 57, 97, 98, 99, 100, 101, 102]⟩ : ByteArray) (Go.bits .and .u8 (bt a0 x9_1) 15))]) (ok := fun _ => True) (okp := fun _ => True) ?hr ?hp (fun _ hk => hk) trivial (Below.refl _ _) (Nat.le_refl _) zk30 ?_; (case hd => exact zk16); (case hg => exact zk16); (case hr => exact zk9); (case hp => exact (Reps.one (show Kd.M (Kd.int .u8) _ _ _ 92 [.int .u8 92] from rfl) (Reps.one (show Kd.M (Kd.int .u8) _ _ _ 120 [.int .u8 120] from rfl) (Reps.one (show Kd.M (Kd.int .u8) _ _ _ (bt (⟨#[48, 49, 50, 51, 52, 53, 54, 55, 56, 57, 97, 98, 99, 100, 101, 102]⟩ : ByteArray) (ji31)) [.int .u8 (bt (⟨#[48, 49, 50, 51, 52, 53, 54, 55, 56, 57, 97, 98, 99, 100, 101, 102]⟩ : ByteArray) (ji31))] from rfl) (Reps.one (show Kd.M (Kd.int .u8) _ _ _ (bt (⟨#[48, 49, 50, 51, 52, 53, 54, 55, 56, 57, 97, 98, 99, 100, 101, 102]⟩ : ByteArray) (Go.bits .and .u8 (bt a0 x9_1) 15)) [.int .u8 (bt (⟨#[48, 49, 50, 51, 52, 53, 54, 55, 56, 57, 97, 98, 99, 100, 101, 102]⟩ : ByteArray) (Go.bits .and .u8 (bt a0 x9_1) 15))] from rfl) (Reps.none _ _)))))); intro v124 w40 ho41 hb hg_ hnew_; clear hg_ hnew_; (first | rw [← Ny123.out] at ho41 | (simp only [Int.reduceToNat] at ho41; rw [← Ny123.out] at ho41)); have n0_ := mkA (Kd.R_elder' zk22 (Kd.R_base ho41) hb); have n1_ := mkA (Kd.R_lower (Kd.R_new' ho41 (Kd.R_lt zk22)) (below_size zk1)); have n2_ := mkA (below_step zk1 hb); clear HO_3; clear HB; have HO_3 := n0_; have HO125 := n1_; have HB := n2_; clear n0_ n1_ n2_; clear hb ho41; obtain ⟨Ao43, co43, eo43⟩ := Kd.R_slice HO125.out; (first | subst eo43 | (injection eo43 with f1_ f2_ f3_; have f4_ := f1_.symm; have f5_ := f3_.symm; clear f1_ f2_ f3_; subst f4_; subst f5_)); refine hK.out _ _ trivial (fun hHeld => ?_); clear hK K; refine norm_ (a' := ?_) ?_ ?_; rotate_left
                ·exact zk109
                refine one_ (i := 8) (N := some 45) #[true, true, true, true, true, true, true, true, true, false] rfl rfl (one_of HT_.out zk3) zk40 (fun K hK => ?_); refine Kd.R_append_rows_step (Kd.int .u8) (w0 := w) w.heap.size zk16 (.tmp 37) (.tmp 44) 106 5 (.int .u8 0) 1 rfl Try.underlying106 info5 rfl zk40 zk12 u3 x3_1 y123 _ _ _ (fun k_ => some k_ ≠ (.slice Ao43 y123.length co43 : Value).ownBlock) (fun _ => False) rfl rfl ?aO ?aR (fun _ _ h => h) (fun _ h => h.elim) ?aF ?aB ?aS ?aL ?_; (case aR => repeat (first | exact (Kd.R_reads' HO125.out).2.2 | (with_reducible refine Kd.C_alloc ?_ _) | (with_reducible refine Kd.C_drewN ?_ _) | (with_reducible refine Kd.C_drew ?_))); (case aB => exact zk27); (case aF => exact (fun k_ hk => Kd.fresh' (Kd.R_lt zk63) k_ hk)); (case aO => exact zk37); (case aS => exact zk26); (case aL => have := LMc38.out; omega); intro v127 w42 ho hb hg hat; rw [← Ny126.out] at ho; have n0_ := mkA (Kd.R_after (ok := (fun _ => True)) zk63 hg hat); have n1_ := mkA (hb); have n2_ := mkA (ho); clear HO125; clear HB; clear HO_3; have HO125 := n0_; have HB := n1_; have HO128 := n2_; clear n0_ n1_ n2_; clear ho hb hg hat; refine hK.out _ _ trivial (fun hHeld => ?_); clear hK K; refine norm_ (a' := ?_) ?_ ?_; rotate_left
                ·exact zk102
                refine pure_ (i := 9) (N := some 3) (v := ?_) (a' := ?_) #[true, true, true, true, true, true, true, true, true, true] rfl rfl (any_of HT_.out zk3) (fun _ _ _ h => h) (Or.inl ⟨zk16, ?_⟩) ?_ ?_; rotate_left
                ·exact zk95
                rotate_left
                ·exact zk94
                refine done_ (done_of HT_.out zk3) ?_; (try go_wp2); go_roundg kj7
                case measure => have := HK1.out; have := HJ7.out; omega
                case rel => exact ⟨(y126), (wrap64 (x9_1 + 1)), zk6, H', ⟨zk78⟩, ⟨by (with_reducible repeat (first | apply Kd.R_alloc | apply Kd.R_drewN | apply Kd.R_drew)); exact Kd.R_mono HO128.out (fun _ hk => trivial)⟩, ⟨zk1⟩⟩
               ·rw [if_neg c38] at H; exact absurd H zk30
              ·rw [if_neg c36] at H; exact absurd H zk30
             ·rw [if_neg c35] at H; exact absurd H zk30
            ·rw [if_neg c33] at H; exact absurd H zk30
           ·rw [if_neg c32] at H; exact absurd H zk30
          ·rw [if_neg c30] at H
           have c30b0 : decide (127 ≤ (bt a0 x9_1)) = false := decide_eq_false c30; clear c30; by_cases c44 : x3_1.length < 140737488355328
           ·rw [if_pos c44] at H
            have LMc44 := mkA c44; clear c44; obtain ⟨y129, hy129⟩ : ∃ y_ : List Int, y_ = (x3_1 ++ [(bt a0 x9_1)]) := ⟨_, rfl⟩
            replace H : (label_Quoted.l0 kj7 a0 y129 (a0.size : Int) (wrap64 (x9_1 + 1))) = some r := by first | (rw [hy129]; with_reducible exact H) | (have H2_ := (Option.bind_some _ _).symm.trans H; rw [hy129]; with_reducible exact H2_) | (have H2_ := (Option.bind_some _ _).symm.trans H; with_reducible exact H2_) | with_reducible exact H | (rw [hy129]; exact H) | exact H
            have Ny129 := mkA hy129; clear hy129; have H' := mkA H; clear H; (go_wp2_with (first | ((with_reducible refine gate_builtin (b := .append) (xs := #[.tmp 15, .tmp 17]) rfl ?_); at_builtin; refine Kd.R_append (Kd.int .u8) (w0 := w) w.heap.size rfl (.tmp 15) (.tmp 17) 106 5 (.int .u8 0) 1 rfl Try.underlying106 info5 rfl zk40 zk12 u3 x3_1 (bt a0 x9_1) [.int .u8 (bt a0 x9_1)] (fun _ => True) (fun _ => False) rfl rfl ?aP (fun _ hk => hk.elim) ?aF ?aO ?aB ?aS ?aL ?_; (case aP => exact rfl); (case aB => exact zk27); (case aF => exact zk79); (case aO => exact zk49); (case aS => exact zk26); (case aL => have := LMc44.out; omega); intro v130 w45 ho hb hg hat; rw [← Ny129.out] at ho; have n0_ := mkA (hb); have n1_ := mkA (ho); clear HB; clear HO_3; have HB := n0_; have HO131 := n1_; clear n0_ n1_; clear ho hb hg hat))); go_roundg kj7
            case measure => have := HK1.out; have := HJ7.out; omega
            case rel => exact ⟨(y129), (wrap64 (x9_1 + 1)), zk6, H', ⟨zk78⟩, ⟨by (with_reducible repeat (first | apply Kd.R_alloc | apply Kd.R_drewN | apply Kd.R_drew)); exact HO131.out⟩, ⟨zk1⟩⟩
           ·rw [if_neg c44] at H; exact absurd H zk30
     ·exact zk108
    ·exact zk107
   ·rw [if_neg c4] at H
    have c4b0 : decide (x9_1 < (a0.size : Int)) = false := decide_eq_false c4; clear c4; by_cases c46 : x3_1.length < 140737488355328
    ·rw [if_pos c46] at H
     have LMc46 := mkA c46; clear c46; obtain ⟨y108, hy108⟩ : ∃ y_ : List Int, y_ = (x3_1 ++ [34]) := ⟨_, rfl⟩
     replace H : (some (strOfNums y108)) = some r := by first | (rw [hy108]; with_reducible exact H) | (have H2_ := (Option.bind_some _ _).symm.trans H; rw [hy108]; with_reducible exact H2_) | (have H2_ := (Option.bind_some _ _).symm.trans H; with_reducible exact H2_) | with_reducible exact H | (rw [hy108]; exact H) | exact H
     have Ny108 := mkA hy108; clear hy108; obtain rfl := Option.some.inj H; (go_wp2_with (first | ((with_reducible refine gate_builtin (b := .append) (xs := #[.tmp 47, .tmp 48]) rfl ?_); at_builtin; refine Kd.R_append (Kd.int .u8) (w0 := w) w.heap.size rfl (.tmp 47) (.tmp 48) 106 5 (.int .u8 0) 1 rfl Try.underlying106 info5 rfl zk40 zk12 u3 x3_1 34 [.int .u8 34] (fun _ => True) (fun _ => False) rfl rfl ?aP (fun _ hk => hk.elim) ?aF ?aO ?aB ?aS ?aL ?_; (case aP => exact rfl); (case aB => exact zk27); (case aF => exact zk79); (case aO => exact zk49); (case aS => exact zk26); (case aL => have := LMc46.out; omega); intro v109 w47 ho hb hg hat; rw [← Ny108.out] at ho; have n0_ := mkA (hb); have n1_ := mkA (ho); clear HB; clear HO_3; have HB := n0_; have HO110 := n1_; clear n0_ n1_; clear ho hb hg hat; have hcv48 := own_string (P := Try.prog) Try.underlying106 Try.underlying5 Try.underlying9 (Kd.own_of_R HO110.out)))); go_ret
     exact ⟨zk4, zk1⟩
    ·rw [if_neg c46] at H; exact absurd H zk30
def label_Value.l0 : Nat → ByteArray → List (S41) → Int → Int → Option (ByteArray)
 | 0, _, _, _, _ => none
 | k + 1, x1, x7, x8, x9 => if x9 < x8 then (if 0 ≤ x9 then (if x9 < (x7.length : Int) then (if ((rd_T41 x7 x9).f0).toList = x1.toList then (some ((rd_T41 x7 x9).f1)) else (label_Value.l0 k x1 x7 x8 (wrap64 (x9 + 1)))) else (none)) else (none)) else (some (⟨#[]⟩ : ByteArray))
def label_Value.f (k : Nat) (l0 : List (S41)) (a1 : ByteArray) : Option (ByteArray) := label_Value.l0 k a1 l0 (l0.length : Int) 0
set_option maxHeartbeats 8000000 in
set_option maxRecDepth 100000 in
theorem label_Value.calls (k : Nat) (A0 : Option Addr) (c0 : Nat) (l0 : List (S41)) (a1 : ByteArray) (r : ByteArray) (w : World) (hr0 : Kd.C k41 w A0 l0.length l0) (hc0 : l0.length ≤ c0) (h : label_Value.f k l0 a1 = some r) :
  Calls Try.prog 42 #[.slice A0 l0.length c0, .string a1] w fun e w' => e = .returned (.string r) ∧ Below w.heap.size w w' := by
 have hu41 := Try.underlying41; have HR0 := mkA hr0; have HC0 := mkA hc0; clear hr0 hc0; have HB := mkA (Below.refl w.heap.size w); have H : (label_Value.l0 k a1 l0 (l0.length : Int) 0) = some r := h; clear h; have H' := mkA H; clear H; go_enter Try.func42, Try.ntmps42; go_wp2; go_loopg [9] k (fun kq v9 w' => ∃ (x9_1 : Int), v9 = .int .i64 x9_1 ∧ Aside0 (label_Value.l0 kq a1 l0 (l0.length : Int) x9_1 = some r) ∧ Aside0 (kq ≤ k) ∧ Aside0 (Below w.heap.size w w'))
 case atStart => exact ⟨(0), zk6, H', ⟨Nat.le_refl _⟩, ⟨zk1⟩⟩
 case round =>
  clear H'; (try clear p2); obtain ⟨x9_1, rfl, HA, HK1, HB⟩ := hrel
  cases gk with
  | zero => exact absurd HA.out (by simp [label_Value.l0])
  | succ k1 =>
   have H := HA.out; clear HA; simp only [label_Value.l0] at H; by_cases c3 : x9_1 < (l0.length : Int)
   ·rw [if_pos c3] at H
    have c3b0 : decide (x9_1 < (l0.length : Int)) = true := decide_eq_true c3; clear c3; by_cases c4 : 0 ≤ x9_1
    ·rw [if_pos c4] at H
     have c4b0 : decide (0 ≤ x9_1) = true := decide_eq_true c4; clear c4; by_cases c5 : x9_1 < (l0.length : Int)
     ·rw [if_pos c5] at H
      have c5b0 : decide (x9_1 < (l0.length : Int)) = true := decide_eq_true c5; clear c5; by_cases c6 : ((rd_T41 l0 x9_1).f0).toList = a1.toList
      ·rw [if_pos c6] at H
       have c6b0 : (((rd_T41 l0 x9_1).f0).toList == a1.toList) = true := beq_iff_eq.mpr c6; have c6b1 : (((rd_T41 l0 x9_1).f0).toList != a1.toList) = false := bne_eq_false_iff_eq.mpr c6; clear c6; obtain rfl := Option.some.inj H; have p132 : 0 ≤ (x9_1 : Int) := of_decide_eq_true zk2; have q132 : x9_1 < (l0.length : Int) := of_decide_eq_true zk2; obtain ⟨ad132, e132, hx132_0, hx132_1⟩ := at_T41 HR0.out x9_1 p132 q132; cases e132; replace hx132_0 := (HB.out.cell (World.block_lt_of_cell? w _ hx132_0)).trans hx132_0; replace hx132_1 := (HB.out.cell (World.block_lt_of_cell? w _ hx132_1)).trans hx132_1; replace p132 := eq_true p132; replace q132 := eq_true q132; (go_wp2_with (first | ((with_reducible refine gate_dst (N := 6) rfl ?_); refine box_event ?hg (N := 6) ?hd (cs := #[.string (⟨#[]⟩ : ByteArray), .string (⟨#[]⟩ : ByteArray)]) (t := 41) ?hr ?_; (case hd => exact zk16); (case hg => exact zk16); (case hr => exact zk9); intro gb133 hg w7 hbox hb; have n0_ := mkA (below_step zk1 hb); have n1_ := mkA (hbox); have n2_ := mkA ((by rw [hg]; exact (below_size zk1) : w.heap.size ≤ gb133)); have n3_ := mkA ((by rw [hg]; exact (below_size zk1) : w.heap.size ≤ gb133)); clear HB; have HB := n0_; have BK133 := n1_; have GW133 := n2_; have GE133 := n3_; clear n0_ n1_ n2_ n3_; clear hb hbox hg; obtain ⟨hcz8_0, hcz8_1, hfz8_0, hfz8_1⟩ := cf2 BK133.out))); go_ret
       exact ⟨zk4, zk50⟩
      ·rw [if_neg c6] at H
       have c6b0 : (((rd_T41 l0 x9_1).f0).toList == a1.toList) = false := beq_eq_false_iff_ne.mpr c6; have c6b1 : (((rd_T41 l0 x9_1).f0).toList != a1.toList) = true := bne_iff_ne.mpr c6; have H' := mkA H; clear H; have p132 : 0 ≤ (x9_1 : Int) := of_decide_eq_true zk2; have q132 : x9_1 < (l0.length : Int) := of_decide_eq_true zk2; obtain ⟨ad132, e132, hx132_0, hx132_1⟩ := at_T41 HR0.out x9_1 p132 q132; cases e132; replace hx132_0 := (HB.out.cell (World.block_lt_of_cell? w _ hx132_0)).trans hx132_0; replace hx132_1 := (HB.out.cell (World.block_lt_of_cell? w _ hx132_1)).trans hx132_1; replace p132 := eq_true p132; replace q132 := eq_true q132; (go_wp2_with (first | ((with_reducible refine gate_dst (N := 6) rfl ?_); refine box_event ?hg (N := 6) ?hd (cs := #[.string (⟨#[]⟩ : ByteArray), .string (⟨#[]⟩ : ByteArray)]) (t := 41) ?hr ?_; (case hd => exact zk16); (case hg => exact zk16); (case hr => exact zk9); intro gb133 hg w9 hbox hb; have n0_ := mkA (below_step zk1 hb); have n1_ := mkA (hbox); have n2_ := mkA ((by rw [hg]; exact (below_size zk1) : w.heap.size ≤ gb133)); have n3_ := mkA ((by rw [hg]; exact (below_size zk1) : w.heap.size ≤ gb133)); clear HB; have HB := n0_; have BK133 := n1_; have GW133 := n2_; have GE133 := n3_; clear n0_ n1_ n2_ n3_; clear hb hbox hg; obtain ⟨hcz10_0, hcz10_1, hfz10_0, hfz10_1⟩ := cf2 BK133.out))); go_roundg k1
       case measure => have := HK1.out; omega
       case rel => exact ⟨(wrap64 (x9_1 + 1)), zk6, H', ⟨zk42⟩, ⟨zk50⟩⟩
     ·exact zk107
    ·exact zk126
   ·rw [if_neg c3] at H
    have c3b0 : decide (x9_1 < (l0.length : Int)) = false := decide_eq_false c3; clear c3; obtain rfl := Option.some.inj H; go_wp2; go_ret
    exact ⟨zk4, zk1⟩
attribute [local go_sem] gtr_swap leq_swap
def varveref11_texts.f (a0 : ByteArray) (a1 : ByteArray) : Option (Int) := if (Op.bytesLess a0.toList a1.toList) = true then (some (-1)) else (if (Op.bytesLess a1.toList a0.toList) = true then (some 1) else (some 0))
set_option maxHeartbeats 8000000 in
set_option maxRecDepth 100000 in
theorem varveref11_texts.calls (a0 : ByteArray) (a1 : ByteArray) (r : Int) (w : World) (h : varveref11_texts.f a0 a1 = some r) :
  Calls Try.prog 57 #[.string a0, .string a1] w fun e w' => e = .returned (.int .i64 r) ∧ Drawn0 w w' := by
 have H : (if (Op.bytesLess a0.toList a1.toList) = true then (some (-1)) else (if (Op.bytesLess a1.toList a0.toList) = true then (some 1) else (some 0))) = some r := h; clear h; by_cases c3 : (Op.bytesLess a0.toList a1.toList) = true
 ·rw [if_pos c3] at H
  have c3b0 : (Op.bytesLess a0.toList a1.toList) = true := c3; clear c3; obtain rfl := Option.some.inj H; go_enter Try.func57, Try.ntmps57; go_wp2; go_ret
  exact zk128
 ·rw [if_neg c3] at H
  have c3b0 : (Op.bytesLess a0.toList a1.toList) = false := by simpa using c3
  clear c3; by_cases c4 : (Op.bytesLess a1.toList a0.toList) = true
  ·rw [if_pos c4] at H
   have c4b0 : (Op.bytesLess a1.toList a0.toList) = true := c4; clear c4; obtain rfl := Option.some.inj H; go_enter Try.func57, Try.ntmps57; go_wp2; go_ret
   exact zk128
  ·rw [if_neg c4] at H
   have c4b0 : (Op.bytesLess a1.toList a0.toList) = false := by simpa using c4
   clear c4; obtain rfl := Option.some.inj H; go_enter Try.func57, Try.ntmps57; go_wp2; go_ret
   exact zk128
end Go.Proofs.Ytlkhdbfhnpbbhaa.Ix
