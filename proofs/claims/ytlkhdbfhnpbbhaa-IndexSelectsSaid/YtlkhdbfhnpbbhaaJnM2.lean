/- What the laws of this folder share, part 2: walks of functions over their Go text, and plain lemmas. Conditions: as each lemma says. -/
import Derived.Test.YtlkhdbfhnpbbhaaJnM1
set_option linter.unusedVariables false
set_option linter.unusedSimpArgs false
namespace Go.Proofs.Ytlkhdbfhnpbbhaa.Ix
open Go.RowKit Go.Proofs.YtlkhdbfhnpbbhaaW.PrintWords Go.Proofs.YtlkhdbfhnpbbhaaW.PrintLast Go.Proofs.YtlkhdbfhnpbbhaaW.PrintMore
mutual
def varveref11_Cmp.l0 : Nat → List (S41) → List (S41) → Int → Option (Int)
 | 0, _, _, _ => none
 | k + 1, x0, x1, x5 => if x5 < (x0.length : Int) then (varveref11_Cmp.j1 k x0 x1 x5 (decide (x5 < (x1.length : Int)))) else (varveref11_Cmp.j1 k x0 x1 x5 false)
def varveref11_Cmp.j1 : Nat → List (S41) → List (S41) → Int → Bool → Option (Int)
 | 0, _, _, _, _ => none
 | k + 1, x0, x1, x5, x17 => if x17 = true then (if 0 ≤ x5 then (if x5 < (x0.length : Int) then (if x5 < (x1.length : Int) then ((varveref11_texts.f ((rd_T41 x0 x5).f0) ((rd_T41 x1 x5).f0)).bind fun t136 => (if t136 = 0 then ((varveref11_texts.f ((rd_T41 x0 x5).f1) ((rd_T41 x1 x5).f1)).bind fun t139 => (if t139 = 0 then (varveref11_Cmp.l0 k x0 x1 (wrap64 (x5 + 1))) else (some t139))) else (some t136))) else (none)) else (none)) else (none)) else (if (x0.length : Int) < (x1.length : Int) then (some (-1)) else (if (x0.length : Int) > (x1.length : Int) then (some 1) else (some 0)))
end
def varveref11_Cmp.f (k : Nat) (l0 : List (S41)) (l1 : List (S41)) : Option (Int) := varveref11_Cmp.l0 k l0 l1 0
set_option maxHeartbeats 8000000 in
set_option maxRecDepth 100000 in
theorem varveref11_Cmp.calls (k : Nat) (A0 : Option Addr) (c0 : Nat) (l0 : List (S41)) (A1 : Option Addr) (c1 : Nat) (l1 : List (S41)) (r : Int) (w : World) (hr0 : Kd.C k41 w A0 l0.length l0) (hc0 : l0.length ≤ c0) (hr1 : Kd.C k41 w A1 l1.length l1) (hc1 : l1.length ≤ c1) (h : varveref11_Cmp.f k l0 l1 = some r) :
  Calls Try.prog 37 #[.slice A0 l0.length c0, .slice A1 l1.length c1] w fun e w' => e = .returned (.int .i64 r) ∧ Drawn0 w w' := by
 have HR0 := mkA hr0; have HC0 := mkA hc0; clear hr0 hc0; have HR1 := mkA hr1; have HC1 := mkA hc1; clear hr1 hc1; have H : (varveref11_Cmp.l0 k l0 l1 0) = some r := h; clear h; have H' := mkA H; clear H; go_enter Try.func37, Try.ntmps37; go_wp2; (repeat (go_quiet (fail); try go_wp2)); go_loopg [5] k (fun kq v5 w' => ∃ (x5_1 : Int), v5 = .int .i64 x5_1 ∧ Aside0 (varveref11_Cmp.l0 kq l0 l1 x5_1 = some r) ∧ Aside0 (kq ≤ k) ∧ Drawn0 w w')
 case atStart => exact ⟨(0), zk6, H', ⟨Nat.le_refl _⟩, zk7⟩
 case round =>
  clear H'; (try clear c1); (try clear p2); obtain ⟨x5_1, rfl, HA, HK1, ⟨m1, rfl⟩⟩ := hrel
  cases gk with
  | zero => exact absurd HA.out (by simp [varveref11_Cmp.l0])
  | succ k1 =>
   have H := HA.out; clear HA; simp only [varveref11_Cmp.l0] at H; have HC3 := mkA H; clear H; go_upto_region 2 with (fail)
   repeat (go_quiet (fail); go_upto_region 2 with (fail))
   go_cut [17] (fun v17 wc => ∃ (kq : Nat) (x17_2 : Bool), v17 = .bool x17_2 ∧ Aside0 (varveref11_Cmp.j1 kq l0 l1 x5_1 x17_2 = some r) ∧ Aside0 (kq ≤ k1) ∧ Drawn0 w wc)
   case first =>
    have H := HC3.out; clear HC3; by_cases c4 : x5_1 < (l0.length : Int)
    ·rw [if_pos c4] at H
     have c4b0 : decide (x5_1 < (l0.length : Int)) = true := decide_eq_true c4; clear c4; (first | rw [c4b0] | (simp only [i64_w, i32_w]; rw [c4b0]) | skip); have H' := mkA H; clear H; go_wp2; (repeat (go_quiet (fail); try go_wp2)); go_meet
     case rel => exact ⟨_, (decide (x5_1 < (l1.length : Int))), zk6, H', ⟨zk60⟩, zk7⟩
    ·rw [if_neg c4] at H
     have c4b0 : decide (x5_1 < (l0.length : Int)) = false := decide_eq_false c4; clear c4; (first | rw [c4b0] | (simp only [i64_w, i32_w]; rw [c4b0]) | skip); have H' := mkA H; clear H; go_wp2; (repeat (go_quiet (fail); try go_wp2)); go_meet
     case rel => exact ⟨_, (false), zk6, H', ⟨zk60⟩, zk7⟩
   case rest =>
    clear HC3; (try clear c1); (try clear p2); (try clear c3); (try clear c4); (try clear c4b0); (try clear p2); obtain ⟨kq, x17_2, rfl, HA, HJ2, ⟨mc2, rfl⟩⟩ := hcut
    cases kq with
    | zero => exact absurd HA.out (by simp [varveref11_Cmp.j1])
    | succ kj2 =>
     have H := HA.out; clear HA; simp only [varveref11_Cmp.j1] at H; by_cases c5 : x17_2 = true
     ·subst c5
      have H1 : (if 0 ≤ x5_1 then (if x5_1 < (l0.length : Int) then (if x5_1 < (l1.length : Int) then ((varveref11_texts.f ((rd_T41 l0 x5_1).f0) ((rd_T41 l1 x5_1).f0)).bind fun t136 => (if t136 = 0 then ((varveref11_texts.f ((rd_T41 l0 x5_1).f1) ((rd_T41 l1 x5_1).f1)).bind fun t139 => (if t139 = 0 then (varveref11_Cmp.l0 kj2 l0 l1 (wrap64 (x5_1 + 1))) else (some t139))) else (some t136))) else (none)) else (none)) else (none)) = some r := zk29
      clear H; have H := H1; clear H1; by_cases c6 : 0 ≤ x5_1
      ·rw [if_pos c6] at H
       have c6b0 : decide (0 ≤ x5_1) = true := decide_eq_true c6; clear c6; by_cases c7 : x5_1 < (l0.length : Int)
       ·rw [if_pos c7] at H
        have c7b0 : decide (x5_1 < (l0.length : Int)) = true := decide_eq_true c7; clear c7; by_cases c8 : x5_1 < (l1.length : Int)
        ·rw [if_pos c8] at H
         have c8b0 : decide (x5_1 < (l1.length : Int)) = true := decide_eq_true c8; clear c8; replace H := Option.bind_eq_some_iff.mp H; obtain ⟨t136, A90, H⟩ := H; replace H : (if t136 = 0 then ((varveref11_texts.f ((rd_T41 l0 x5_1).f1) ((rd_T41 l1 x5_1).f1)).bind fun t139 => (if t139 = 0 then (varveref11_Cmp.l0 kj2 l0 l1 (wrap64 (x5_1 + 1))) else (some t139))) else (some t136)) = some r := H; have A9 := mkA A90; clear A90; by_cases c10 : t136 = 0
         ·rw [if_pos c10] at H
          have c10b0 : (t136 == 0) = true := beq_iff_eq.mpr c10; have c10b1 : (t136 != 0) = false := bne_eq_false_iff_eq.mpr c10; clear c10; replace H := Option.bind_eq_some_iff.mp H; obtain ⟨t139, A110, H⟩ := H; replace H : (if t139 = 0 then (varveref11_Cmp.l0 kj2 l0 l1 (wrap64 (x5_1 + 1))) else (some t139)) = some r := H; have A11 := mkA A110; clear A110; by_cases c12 : t139 = 0
          ·rw [if_pos c12] at H
           have c12b0 : (t139 == 0) = true := beq_iff_eq.mpr c12; have c12b1 : (t139 != 0) = false := bne_eq_false_iff_eq.mpr c12; clear c12; have H' := mkA H; clear H; have p134 : 0 ≤ (x5_1 : Int) := of_decide_eq_true zk2; have q134 : x5_1 < (l0.length : Int) := of_decide_eq_true zk2; obtain ⟨ad134, e134, hx134_0, hx134_1⟩ := at_T41 HR0.out x5_1 p134 q134; cases e134; replace p134 := eq_true p134; replace q134 := eq_true q134; have p135 : 0 ≤ (x5_1 : Int) := of_decide_eq_true zk2; have q135 : x5_1 < (l1.length : Int) := of_decide_eq_true zk2; obtain ⟨ad135, e135, hx135_0, hx135_1⟩ := at_T41 HR1.out x5_1 p135 q135; cases e135; replace p135 := eq_true p135; replace q135 := eq_true q135; (go_wp2_with (first | (go_at_call 57; (with_reducible refine (varveref11_texts.calls ((rd_T41 l0 x5_1).f0) ((rd_T41 l1 x5_1).f0) t136 _ A9.out).mono ?_); rintro e w' ⟨rfl, ⟨nd, rfl⟩⟩; (try first | exact ⟨rfl, _, World.drewN_drewN _ _ _⟩ | exact ⟨rfl, _, Eq.trans (World.drewN_drewN _ _ _) (congrArg (World.drewN _) (Nat.add_assoc _ _ _))⟩); have p137 : 0 ≤ (x5_1 : Int) := of_decide_eq_true zk2; have q137 : x5_1 < (l0.length : Int) := of_decide_eq_true zk2; obtain ⟨ad137, e137, hx137_0, hx137_1⟩ := at_T41 HR0.out x5_1 p137 q137; obtain rfl : ad134 = ad137 := zk92; replace p137 := eq_true p137; replace q137 := eq_true q137; have p138 : 0 ≤ (x5_1 : Int) := of_decide_eq_true zk2; have q138 : x5_1 < (l1.length : Int) := of_decide_eq_true zk2; obtain ⟨ad138, e138, hx138_0, hx138_1⟩ := at_T41 HR1.out x5_1 p138 q138; obtain rfl : ad135 = ad138 := zk93; replace p138 := eq_true p138; replace q138 := eq_true q138) | (go_at_call 57; (with_reducible refine (varveref11_texts.calls ((rd_T41 l0 x5_1).f1) ((rd_T41 l1 x5_1).f1) t139 _ A11.out).mono ?_); rintro e w' ⟨rfl, ⟨nd, rfl⟩⟩; (try first | exact ⟨rfl, _, World.drewN_drewN _ _ _⟩ | exact ⟨rfl, _, Eq.trans (World.drewN_drewN _ _ _) (congrArg (World.drewN _) (Nat.add_assoc _ _ _))⟩)))); (repeat (go_quiet (first | (go_at_call 57; (with_reducible refine (varveref11_texts.calls ((rd_T41 l0 x5_1).f0) ((rd_T41 l1 x5_1).f0) t136 _ A9.out).mono ?_); rintro e w' ⟨rfl, ⟨nd, rfl⟩⟩; (try first | exact ⟨rfl, _, World.drewN_drewN _ _ _⟩ | exact ⟨rfl, _, Eq.trans (World.drewN_drewN _ _ _) (congrArg (World.drewN _) (Nat.add_assoc _ _ _))⟩); have p137 : 0 ≤ (x5_1 : Int) := of_decide_eq_true zk2; have q137 : x5_1 < (l0.length : Int) := of_decide_eq_true zk2; obtain ⟨ad137, e137, hx137_0, hx137_1⟩ := at_T41 HR0.out x5_1 p137 q137; obtain rfl : ad134 = ad137 := zk92; replace p137 := eq_true p137; replace q137 := eq_true q137; have p138 : 0 ≤ (x5_1 : Int) := of_decide_eq_true zk2; have q138 : x5_1 < (l1.length : Int) := of_decide_eq_true zk2; obtain ⟨ad138, e138, hx138_0, hx138_1⟩ := at_T41 HR1.out x5_1 p138 q138; obtain rfl : ad135 = ad138 := zk93; replace p138 := eq_true p138; replace q138 := eq_true q138) | (go_at_call 57; (with_reducible refine (varveref11_texts.calls ((rd_T41 l0 x5_1).f1) ((rd_T41 l1 x5_1).f1) t139 _ A11.out).mono ?_); rintro e w' ⟨rfl, ⟨nd, rfl⟩⟩; (try first | exact ⟨rfl, _, World.drewN_drewN _ _ _⟩ | exact ⟨rfl, _, Eq.trans (World.drewN_drewN _ _ _) (congrArg (World.drewN _) (Nat.add_assoc _ _ _))⟩))); try go_wp2_with (first | (go_at_call 57; (with_reducible refine (varveref11_texts.calls ((rd_T41 l0 x5_1).f0) ((rd_T41 l1 x5_1).f0) t136 _ A9.out).mono ?_); rintro e w' ⟨rfl, ⟨nd, rfl⟩⟩; (try first | exact ⟨rfl, _, World.drewN_drewN _ _ _⟩ | exact ⟨rfl, _, Eq.trans (World.drewN_drewN _ _ _) (congrArg (World.drewN _) (Nat.add_assoc _ _ _))⟩); have p137 : 0 ≤ (x5_1 : Int) := of_decide_eq_true zk2; have q137 : x5_1 < (l0.length : Int) := of_decide_eq_true zk2; obtain ⟨ad137, e137, hx137_0, hx137_1⟩ := at_T41 HR0.out x5_1 p137 q137; obtain rfl : ad134 = ad137 := zk92; replace p137 := eq_true p137; replace q137 := eq_true q137; have p138 : 0 ≤ (x5_1 : Int) := of_decide_eq_true zk2; have q138 : x5_1 < (l1.length : Int) := of_decide_eq_true zk2; obtain ⟨ad138, e138, hx138_0, hx138_1⟩ := at_T41 HR1.out x5_1 p138 q138; obtain rfl : ad135 = ad138 := zk93; replace p138 := eq_true p138; replace q138 := eq_true q138) | (go_at_call 57; (with_reducible refine (varveref11_texts.calls ((rd_T41 l0 x5_1).f1) ((rd_T41 l1 x5_1).f1) t139 _ A11.out).mono ?_); rintro e w' ⟨rfl, ⟨nd, rfl⟩⟩; (try first | exact ⟨rfl, _, World.drewN_drewN _ _ _⟩ | exact ⟨rfl, _, Eq.trans (World.drewN_drewN _ _ _) (congrArg (World.drewN _) (Nat.add_assoc _ _ _))⟩))))); go_roundg kj2
           case measure => have := HK1.out; have := HJ2.out; omega
           case rel => exact ⟨(wrap64 (x5_1 + 1)), zk6, H', ⟨by have := HK1.out; have := HJ2.out; omega⟩, zk7⟩
          ·rw [if_neg c12] at H
           have c12b0 : (t139 == 0) = false := beq_eq_false_iff_ne.mpr c12; have c12b1 : (t139 != 0) = true := bne_iff_ne.mpr c12; obtain rfl := Option.some.inj H; have p134 : 0 ≤ (x5_1 : Int) := of_decide_eq_true zk2; have q134 : x5_1 < (l0.length : Int) := of_decide_eq_true zk2; obtain ⟨ad134, e134, hx134_0, hx134_1⟩ := at_T41 HR0.out x5_1 p134 q134; cases e134; replace p134 := eq_true p134; replace q134 := eq_true q134; have p135 : 0 ≤ (x5_1 : Int) := of_decide_eq_true zk2; have q135 : x5_1 < (l1.length : Int) := of_decide_eq_true zk2; obtain ⟨ad135, e135, hx135_0, hx135_1⟩ := at_T41 HR1.out x5_1 p135 q135; cases e135; replace p135 := eq_true p135; replace q135 := eq_true q135; (go_wp2_with (first | (go_at_call 57; (with_reducible refine (varveref11_texts.calls ((rd_T41 l0 x5_1).f0) ((rd_T41 l1 x5_1).f0) t136 _ A9.out).mono ?_); rintro e w' ⟨rfl, ⟨nd, rfl⟩⟩; (try first | exact ⟨rfl, _, World.drewN_drewN _ _ _⟩ | exact ⟨rfl, _, Eq.trans (World.drewN_drewN _ _ _) (congrArg (World.drewN _) (Nat.add_assoc _ _ _))⟩); have p137 : 0 ≤ (x5_1 : Int) := of_decide_eq_true zk2; have q137 : x5_1 < (l0.length : Int) := of_decide_eq_true zk2; obtain ⟨ad137, e137, hx137_0, hx137_1⟩ := at_T41 HR0.out x5_1 p137 q137; obtain rfl : ad134 = ad137 := zk92; replace p137 := eq_true p137; replace q137 := eq_true q137; have p138 : 0 ≤ (x5_1 : Int) := of_decide_eq_true zk2; have q138 : x5_1 < (l1.length : Int) := of_decide_eq_true zk2; obtain ⟨ad138, e138, hx138_0, hx138_1⟩ := at_T41 HR1.out x5_1 p138 q138; obtain rfl : ad135 = ad138 := zk93; replace p138 := eq_true p138; replace q138 := eq_true q138) | (go_at_call 57; (with_reducible refine (varveref11_texts.calls ((rd_T41 l0 x5_1).f1) ((rd_T41 l1 x5_1).f1) t139 _ A11.out).mono ?_); rintro e w' ⟨rfl, ⟨nd, rfl⟩⟩; (try first | exact ⟨rfl, _, World.drewN_drewN _ _ _⟩ | exact ⟨rfl, _, Eq.trans (World.drewN_drewN _ _ _) (congrArg (World.drewN _) (Nat.add_assoc _ _ _))⟩)))); (repeat (go_quiet (first | (go_at_call 57; (with_reducible refine (varveref11_texts.calls ((rd_T41 l0 x5_1).f0) ((rd_T41 l1 x5_1).f0) t136 _ A9.out).mono ?_); rintro e w' ⟨rfl, ⟨nd, rfl⟩⟩; (try first | exact ⟨rfl, _, World.drewN_drewN _ _ _⟩ | exact ⟨rfl, _, Eq.trans (World.drewN_drewN _ _ _) (congrArg (World.drewN _) (Nat.add_assoc _ _ _))⟩); have p137 : 0 ≤ (x5_1 : Int) := of_decide_eq_true zk2; have q137 : x5_1 < (l0.length : Int) := of_decide_eq_true zk2; obtain ⟨ad137, e137, hx137_0, hx137_1⟩ := at_T41 HR0.out x5_1 p137 q137; obtain rfl : ad134 = ad137 := zk92; replace p137 := eq_true p137; replace q137 := eq_true q137; have p138 : 0 ≤ (x5_1 : Int) := of_decide_eq_true zk2; have q138 : x5_1 < (l1.length : Int) := of_decide_eq_true zk2; obtain ⟨ad138, e138, hx138_0, hx138_1⟩ := at_T41 HR1.out x5_1 p138 q138; obtain rfl : ad135 = ad138 := zk93; replace p138 := eq_true p138; replace q138 := eq_true q138) | (go_at_call 57; (with_reducible refine (varveref11_texts.calls ((rd_T41 l0 x5_1).f1) ((rd_T41 l1 x5_1).f1) t139 _ A11.out).mono ?_); rintro e w' ⟨rfl, ⟨nd, rfl⟩⟩; (try first | exact ⟨rfl, _, World.drewN_drewN _ _ _⟩ | exact ⟨rfl, _, Eq.trans (World.drewN_drewN _ _ _) (congrArg (World.drewN _) (Nat.add_assoc _ _ _))⟩))); try go_wp2_with (first | (go_at_call 57; (with_reducible refine (varveref11_texts.calls ((rd_T41 l0 x5_1).f0) ((rd_T41 l1 x5_1).f0) t136 _ A9.out).mono ?_); rintro e w' ⟨rfl, ⟨nd, rfl⟩⟩; (try first | exact ⟨rfl, _, World.drewN_drewN _ _ _⟩ | exact ⟨rfl, _, Eq.trans (World.drewN_drewN _ _ _) (congrArg (World.drewN _) (Nat.add_assoc _ _ _))⟩); have p137 : 0 ≤ (x5_1 : Int) := of_decide_eq_true zk2; have q137 : x5_1 < (l0.length : Int) := of_decide_eq_true zk2; obtain ⟨ad137, e137, hx137_0, hx137_1⟩ := at_T41 HR0.out x5_1 p137 q137; obtain rfl : ad134 = ad137 := zk92; replace p137 := eq_true p137; replace q137 := eq_true q137; have p138 : 0 ≤ (x5_1 : Int) := of_decide_eq_true zk2; have q138 : x5_1 < (l1.length : Int) := of_decide_eq_true zk2; obtain ⟨ad138, e138, hx138_0, hx138_1⟩ := at_T41 HR1.out x5_1 p138 q138; obtain rfl : ad135 = ad138 := zk93; replace p138 := eq_true p138; replace q138 := eq_true q138) | (go_at_call 57; (with_reducible refine (varveref11_texts.calls ((rd_T41 l0 x5_1).f1) ((rd_T41 l1 x5_1).f1) t139 _ A11.out).mono ?_); rintro e w' ⟨rfl, ⟨nd, rfl⟩⟩; (try first | exact ⟨rfl, _, World.drewN_drewN _ _ _⟩ | exact ⟨rfl, _, Eq.trans (World.drewN_drewN _ _ _) (congrArg (World.drewN _) (Nat.add_assoc _ _ _))⟩))))); go_ret
           exact zk128
         ·rw [if_neg c10] at H
          have c10b0 : (t136 == 0) = false := beq_eq_false_iff_ne.mpr c10; have c10b1 : (t136 != 0) = true := bne_iff_ne.mpr c10; obtain rfl := Option.some.inj H; have p134 : 0 ≤ (x5_1 : Int) := of_decide_eq_true zk2; have q134 : x5_1 < (l0.length : Int) := of_decide_eq_true zk2; obtain ⟨ad134, e134, hx134_0, hx134_1⟩ := at_T41 HR0.out x5_1 p134 q134; cases e134; replace p134 := eq_true p134; replace q134 := eq_true q134; have p135 : 0 ≤ (x5_1 : Int) := of_decide_eq_true zk2; have q135 : x5_1 < (l1.length : Int) := of_decide_eq_true zk2; obtain ⟨ad135, e135, hx135_0, hx135_1⟩ := at_T41 HR1.out x5_1 p135 q135; cases e135; replace p135 := eq_true p135; replace q135 := eq_true q135; (go_wp2_with (first | (go_at_call 57; (with_reducible refine (varveref11_texts.calls ((rd_T41 l0 x5_1).f0) ((rd_T41 l1 x5_1).f0) t136 _ A9.out).mono ?_); rintro e w' ⟨rfl, ⟨nd, rfl⟩⟩; (try first | exact ⟨rfl, _, World.drewN_drewN _ _ _⟩ | exact ⟨rfl, _, Eq.trans (World.drewN_drewN _ _ _) (congrArg (World.drewN _) (Nat.add_assoc _ _ _))⟩)))); (repeat (go_quiet (first | (go_at_call 57; (with_reducible refine (varveref11_texts.calls ((rd_T41 l0 x5_1).f0) ((rd_T41 l1 x5_1).f0) t136 _ A9.out).mono ?_); rintro e w' ⟨rfl, ⟨nd, rfl⟩⟩; (try first | exact ⟨rfl, _, World.drewN_drewN _ _ _⟩ | exact ⟨rfl, _, Eq.trans (World.drewN_drewN _ _ _) (congrArg (World.drewN _) (Nat.add_assoc _ _ _))⟩))); try go_wp2_with (first | (go_at_call 57; (with_reducible refine (varveref11_texts.calls ((rd_T41 l0 x5_1).f0) ((rd_T41 l1 x5_1).f0) t136 _ A9.out).mono ?_); rintro e w' ⟨rfl, ⟨nd, rfl⟩⟩; (try first | exact ⟨rfl, _, World.drewN_drewN _ _ _⟩ | exact ⟨rfl, _, Eq.trans (World.drewN_drewN _ _ _) (congrArg (World.drewN _) (Nat.add_assoc _ _ _))⟩))))); go_ret
          exact zk128
        ·rw [if_neg c8] at H; exact absurd H zk30
       ·exact zk125
      ·exact zk108
     ·replace c5 := Bool.eq_false_iff.mpr c5
      subst c5; have H1 : (if (l0.length : Int) < (l1.length : Int) then (some (-1)) else (if (l0.length : Int) > (l1.length : Int) then (some 1) else (some 0))) = some r := zk23
      clear H; have H := H1; clear H1; by_cases c13 : (l0.length : Int) < (l1.length : Int)
      ·rw [if_pos c13] at H
       have c13b0 : decide ((l0.length : Int) < (l1.length : Int)) = true := decide_eq_true c13; have c13b1 : decide (l0.length < l1.length) = true := decide_eq_true (Int.ofNat_lt.mp c13); clear c13; obtain rfl := Option.some.inj H; go_wp2; (repeat (go_quiet (fail); try go_wp2)); go_ret
       exact zk128
      ·rw [if_neg c13] at H
       have c13b0 : decide ((l0.length : Int) < (l1.length : Int)) = false := decide_eq_false c13; have c13b1 : decide (l0.length < l1.length) = false := decide_eq_false (fun h => c13 (Int.ofNat_lt.mpr h)); clear c13; by_cases c14 : (l0.length : Int) > (l1.length : Int)
       ·rw [if_pos c14] at H
        have c14b0 : decide ((l1.length : Int) < (l0.length : Int)) = true := decide_eq_true c14; have c14b1 : decide (l1.length < l0.length) = true := decide_eq_true (Int.ofNat_lt.mp c14); clear c14; obtain rfl := Option.some.inj H; go_wp2; (repeat (go_quiet (fail); try go_wp2)); go_ret
        exact zk128
       ·rw [if_neg c14] at H
        have c14b0 : decide ((l1.length : Int) < (l0.length : Int)) = false := decide_eq_false c14; have c14b1 : decide (l1.length < l0.length) = false := decide_eq_false (fun h => c14 (Int.ofNat_lt.mpr h)); clear c14; obtain rfl := Option.some.inj H; go_wp2; (repeat (go_quiet (fail); try go_wp2)); go_ret
        exact zk128
def varveref11_Name.l0 : Nat → ByteArray → Int → Option (Bool)
 | 0, _, _ => none
 | k + 1, x0, x3 => if x3 < (x0.size : Int) then (if 0 ≤ x3 then (if (bt x0 x3) = 95 then (varveref11_Name.l0 k x0 (wrap64 (x3 + 1))) else (if (bt x0 x3) < 97 then (if (bt x0 x3) < 48 then (some false) else (if (bt x0 x3) > 57 then (some false) else (if x3 = 0 then (some false) else (varveref11_Name.l0 k x0 (wrap64 (x3 + 1)))))) else (if (bt x0 x3) > 122 then (if (bt x0 x3) < 48 then (some false) else (if (bt x0 x3) > 57 then (some false) else (if x3 = 0 then (some false) else (varveref11_Name.l0 k x0 (wrap64 (x3 + 1)))))) else (varveref11_Name.l0 k x0 (wrap64 (x3 + 1)))))) else (none)) else (if (x0.size : Int) ≥ 1 then (some (decide ((x0.size : Int) ≤ 32))) else (some false))
def varveref11_Name.f (k : Nat) (a0 : ByteArray) : Option (Bool) := varveref11_Name.l0 k a0 0
set_option maxHeartbeats 8000000 in
set_option maxRecDepth 100000 in
theorem varveref11_Name.calls (k : Nat) (a0 : ByteArray) (r : Bool) (w : World) (h : varveref11_Name.f k a0 = some r) :
  Calls Try.prog 38 #[.string a0] w fun e w' => e = .returned (.bool r) ∧ Drawn0 w w' := by
 have H : (varveref11_Name.l0 k a0 0) = some r := h; clear h; have H' := mkA H; clear H; go_enter Try.func38, Try.ntmps38; go_wp2; go_loopg [3] k (fun kq v3 w' => ∃ (x3_1 : Int), v3 = .int .i64 x3_1 ∧ Aside0 (varveref11_Name.l0 kq a0 x3_1 = some r) ∧ Aside0 (kq ≤ k) ∧ Drawn0 w w')
 case atStart => exact ⟨(0), zk6, H', ⟨Nat.le_refl _⟩, zk7⟩
 case round =>
  clear H'; obtain ⟨x3_1, rfl, HA, HK1, ⟨m1, rfl⟩⟩ := hrel
  cases gk with
  | zero => exact absurd HA.out (by simp [varveref11_Name.l0])
  | succ k1 =>
   have H := HA.out; clear HA; simp only [varveref11_Name.l0] at H; by_cases c2 : x3_1 < (a0.size : Int)
   ·rw [if_pos c2] at H
    have c2b0 : decide (x3_1 < (a0.size : Int)) = true := decide_eq_true c2; clear c2; by_cases c3 : 0 ≤ x3_1
    ·rw [if_pos c3] at H
     have c3b0 : decide (0 ≤ x3_1) = true := decide_eq_true c3; clear c3; by_cases c5 : (bt a0 x3_1) = 95
     ·rw [if_pos c5] at H
      have c5b0 : ((bt a0 x3_1) == 95) = true := beq_iff_eq.mpr c5; have c5b1 : ((bt a0 x3_1) != 95) = false := bne_eq_false_iff_eq.mpr c5; clear c5; have H' := mkA H; clear H; have p4 : 0 ≤ (x3_1 : Int) := of_decide_eq_true zk2; have q4 : x3_1 < (a0.size : Int) := of_decide_eq_true zk2; have hx4 := bt_at a0 x3_1; replace p4 := eq_true p4; replace q4 := eq_true q4; go_wp2; go_roundg k1
      case measure => have := HK1.out; omega
      case rel => exact ⟨(wrap64 (x3_1 + 1)), zk6, H', ⟨zk42⟩, zk7⟩
     ·rw [if_neg c5] at H
      have c5b0 : ((bt a0 x3_1) == 95) = false := beq_eq_false_iff_ne.mpr c5; have c5b1 : ((bt a0 x3_1) != 95) = true := bne_iff_ne.mpr c5; by_cases c6 : (bt a0 x3_1) < 97
      ·rw [if_pos c6] at H
       have c6b0 : decide ((bt a0 x3_1) < 97) = true := decide_eq_true c6; clear c6; by_cases c7 : (bt a0 x3_1) < 48
       ·rw [if_pos c7] at H
        have c7b0 : decide ((bt a0 x3_1) < 48) = true := decide_eq_true c7; clear c7; obtain rfl := Option.some.inj H; have p4 : 0 ≤ (x3_1 : Int) := of_decide_eq_true zk2; have q4 : x3_1 < (a0.size : Int) := of_decide_eq_true zk2; have hx4 := bt_at a0 x3_1; replace p4 := eq_true p4; replace q4 := eq_true q4; go_wp2; go_ret
        exact zk128
       ·rw [if_neg c7] at H
        have c7b0 : decide ((bt a0 x3_1) < 48) = false := decide_eq_false c7; clear c7; by_cases c8 : (bt a0 x3_1) > 57
        ·rw [if_pos c8] at H
         have c8b0 : decide (57 < (bt a0 x3_1)) = true := decide_eq_true c8; clear c8; obtain rfl := Option.some.inj H; have p4 : 0 ≤ (x3_1 : Int) := of_decide_eq_true zk2; have q4 : x3_1 < (a0.size : Int) := of_decide_eq_true zk2; have hx4 := bt_at a0 x3_1; replace p4 := eq_true p4; replace q4 := eq_true q4; go_wp2; go_ret
         exact zk128
        ·rw [if_neg c8] at H
         have c8b0 : decide (57 < (bt a0 x3_1)) = false := decide_eq_false c8; clear c8; by_cases c9 : x3_1 = 0
         ·rw [if_pos c9] at H
          have c9b0 : (x3_1 == 0) = true := beq_iff_eq.mpr c9; have c9b1 : (x3_1 != 0) = false := bne_eq_false_iff_eq.mpr c9; clear c9; obtain rfl := Option.some.inj H; have p4 : 0 ≤ (x3_1 : Int) := of_decide_eq_true zk2; have q4 : x3_1 < (a0.size : Int) := of_decide_eq_true zk2; have hx4 := bt_at a0 x3_1; replace p4 := eq_true p4; replace q4 := eq_true q4; go_wp2; go_ret
          exact zk128
         ·rw [if_neg c9] at H
          have c9b0 : (x3_1 == 0) = false := beq_eq_false_iff_ne.mpr c9; have c9b1 : (x3_1 != 0) = true := bne_iff_ne.mpr c9; have H' := mkA H; clear H; have p4 : 0 ≤ (x3_1 : Int) := of_decide_eq_true zk2; have q4 : x3_1 < (a0.size : Int) := of_decide_eq_true zk2; have hx4 := bt_at a0 x3_1; replace p4 := eq_true p4; replace q4 := eq_true q4; go_wp2; go_roundg k1
          case measure => have := HK1.out; omega
          case rel => exact ⟨(wrap64 (x3_1 + 1)), zk6, H', ⟨zk42⟩, zk7⟩
      ·rw [if_neg c6] at H
       have c6b0 : decide ((bt a0 x3_1) < 97) = false := decide_eq_false c6; clear c6; by_cases c10 : (bt a0 x3_1) > 122
       ·rw [if_pos c10] at H
        have c10b0 : decide (122 < (bt a0 x3_1)) = true := decide_eq_true c10; clear c10; by_cases c11 : (bt a0 x3_1) < 48
        ·rw [if_pos c11] at H
         have c11b0 : decide ((bt a0 x3_1) < 48) = true := decide_eq_true c11; clear c11; obtain rfl := Option.some.inj H; have p4 : 0 ≤ (x3_1 : Int) := of_decide_eq_true zk2; have q4 : x3_1 < (a0.size : Int) := of_decide_eq_true zk2; have hx4 := bt_at a0 x3_1; replace p4 := eq_true p4; replace q4 := eq_true q4; go_wp2; go_ret
         exact zk128
        ·rw [if_neg c11] at H
         have c11b0 : decide ((bt a0 x3_1) < 48) = false := decide_eq_false c11; clear c11; by_cases c12 : (bt a0 x3_1) > 57
         ·rw [if_pos c12] at H
          have c12b0 : decide (57 < (bt a0 x3_1)) = true := decide_eq_true c12; clear c12; obtain rfl := Option.some.inj H; have p4 : 0 ≤ (x3_1 : Int) := of_decide_eq_true zk2; have q4 : x3_1 < (a0.size : Int) := of_decide_eq_true zk2; have hx4 := bt_at a0 x3_1; replace p4 := eq_true p4; replace q4 := eq_true q4; go_wp2; go_ret
          exact zk128
         ·rw [if_neg c12] at H
          have c12b0 : decide (57 < (bt a0 x3_1)) = false := decide_eq_false c12; clear c12; by_cases c13 : x3_1 = 0
          ·rw [if_pos c13] at H
           have c13b0 : (x3_1 == 0) = true := beq_iff_eq.mpr c13; have c13b1 : (x3_1 != 0) = false := bne_eq_false_iff_eq.mpr c13; clear c13; obtain rfl := Option.some.inj H; have p4 : 0 ≤ (x3_1 : Int) := of_decide_eq_true zk2; have q4 : x3_1 < (a0.size : Int) := of_decide_eq_true zk2; have hx4 := bt_at a0 x3_1; replace p4 := eq_true p4; replace q4 := eq_true q4; go_wp2; go_ret
           exact zk128
          ·rw [if_neg c13] at H
           have c13b0 : (x3_1 == 0) = false := beq_eq_false_iff_ne.mpr c13; have c13b1 : (x3_1 != 0) = true := bne_iff_ne.mpr c13; have H' := mkA H; clear H; have p4 : 0 ≤ (x3_1 : Int) := of_decide_eq_true zk2; have q4 : x3_1 < (a0.size : Int) := of_decide_eq_true zk2; have hx4 := bt_at a0 x3_1; replace p4 := eq_true p4; replace q4 := eq_true q4; go_wp2; go_roundg k1
           case measure => have := HK1.out; omega
           case rel => exact ⟨(wrap64 (x3_1 + 1)), zk6, H', ⟨zk42⟩, zk7⟩
       ·rw [if_neg c10] at H
        have c10b0 : decide (122 < (bt a0 x3_1)) = false := decide_eq_false c10; clear c10; have H' := mkA H; clear H; have p4 : 0 ≤ (x3_1 : Int) := of_decide_eq_true zk2; have q4 : x3_1 < (a0.size : Int) := of_decide_eq_true zk2; have hx4 := bt_at a0 x3_1; replace p4 := eq_true p4; replace q4 := eq_true q4; go_wp2; go_roundg k1
        case measure => have := HK1.out; omega
        case rel => exact ⟨(wrap64 (x3_1 + 1)), zk6, H', ⟨zk42⟩, zk7⟩
    ·exact zk127
   ·rw [if_neg c2] at H
    have c2b0 : decide (x3_1 < (a0.size : Int)) = false := decide_eq_false c2; clear c2; by_cases c14 : (a0.size : Int) ≥ 1
    ·rw [if_pos c14] at H
     have c14b0 : decide (1 ≤ (a0.size : Int)) = true := decide_eq_true c14; have c14b1 : decide (1 ≤ a0.size) = true := decide_eq_true zk12; clear c14; obtain rfl := Option.some.inj H; go_wp2; go_ret
     exact zk128
    ·rw [if_neg c14] at H
     have c14b0 : decide (1 ≤ (a0.size : Int)) = false := decide_eq_false c14; have c14b1 : decide (1 ≤ a0.size) = false := decide_eq_false zk12; clear c14; obtain rfl := Option.some.inj H; go_wp2; go_ret
     exact zk128
end Go.Proofs.Ytlkhdbfhnpbbhaa.Ix
namespace Go.Proofs.Ytlkhdbfhnpbbhaa.Ix
open Go.RowKit Go.Proofs.YtlkhdbfhnpbbhaaW.PrintWords Go.Proofs.YtlkhdbfhnpbbhaaW.PrintLast Go.Proofs.YtlkhdbfhnpbbhaaW.PrintMore
attribute [local go_sem] gtr_swap leq_swap
def varveref11_Check.l0 : Nat → List (S41) → Int → Option (Bool)
 | 0, _, _ => none
 | k + 1, x0, x3 => if x3 < (x0.length : Int) then (if 0 ≤ x3 then ((varveref11_Name.f k ((rd_T41 x0 x3).f0)).bind fun t141 => (if t141 = true then (if (((rd_T41 x0 x3).f1).size : Int) < 1 then (some false) else (if (((rd_T41 x0 x3).f1).size : Int) > 64 then (some false) else (if x3 > 0 then (if 0 ≤ (wrap64 (x3 - 1)) then (if (wrap64 (x3 - 1)) < (x0.length : Int) then (if ((Op.bytesLess (((rd_T41 x0 (wrap64 (x3 - 1))).f0).toList) (((rd_T41 x0 x3).f0).toList)) = true) then (varveref11_Check.l0 k x0 (wrap64 (x3 + 1))) else (some false)) else (none)) else (none)) else (varveref11_Check.l0 k x0 (wrap64 (x3 + 1)))))) else (some false))) else (none)) else (if (x0.length : Int) ≥ 1 then (some (decide ((x0.length : Int) ≤ 8))) else (some false))
def varveref11_Check.f (k : Nat) (l0 : List (S41)) : Option (Bool) := varveref11_Check.l0 k l0 0
def varveref11_Check.T4 : Bool × List (List Nat × List Nat) := (true, [([], []), ([], []), ([0, 1], [0, 1]), ([2], [2]), ([3], [3]), ([4], [4]), ([5], [5]), ([6, 5], [6]), ([7], [7]), ([7], [7]), ([8, 9, 7], [7, 8, 9]), ([10, 7], [7, 10]), ([11, 7], [7, 11]), ([12, 7], [7, 12]), ([13, 7], [7, 13]), ([7, 14], [7, 14]), ([15, 7], [15]), ([16], [16]), ([16], [16]), ([17, 18, 16], [16, 17, 18]), ([19, 16], [16, 19]), ([20, 16], [16, 20]), ([21, 16], [16, 21]), ([22, 16], [16, 22]), ([16, 23], [16, 23]), ([24, 16], [24]), ([25], [25]), ([26, 25], [25, 26]), ([27, 25, 25], [25, 27]), ([28], [28]), ([28], [28]), ([29, 30, 28], [28, 29, 30]), ([31, 28], [28, 31]), ([32, 28], [28, 32]), ([28], [28]), ([28], [28]), ([35, 28], [28, 35]), ([34, 36, 28], [28, 34, 36]), ([37, 28], [28, 37]), ([38, 28], [28, 38]), ([33, 39, 28], [28, 33, 39]), ([28, 40, 25], [25, 28, 40]), ([25, 41], [25, 41])])
def varveref11_Check.B4 : List Nat := [0, 0, 3, 7, 15, 31, 63, 127, 255, 255, 1023, 2047, 4095, 8191, 16383, 32767, 65535, 131071, 131071, 524287, 1048575, 2097151, 4194303, 8388607, 16777215, 33554431, 67108863, 134217727, 268435455, 536870911, 536870911, 2147483647, 4294967295, 8589934591, 536870911, 536870911, 34896609279, 120795955199, 258234908671, 533112815615, 1099511627775, 2199023255551, 4398046511103]
theorem varveref11_Check.tab4 : rtab .any (opsOf Try.f14 4) = varveref11_Check.T4 := by kernel_rfl
theorem varveref11_Check.bits4 : waitsOk varveref11_Check.T4.2 varveref11_Check.B4 = true := by kernel_rfl
set_option maxHeartbeats 8000000 in
set_option maxRecDepth 100000 in
theorem varveref11_Check.calls (k : Nat) (A0 : Option Addr) (c0 : Nat) (l0 : List (S41)) (r : Bool) (w : World) (hr0 : Kd.C k41 w A0 l0.length l0) (hc0 : l0.length ≤ c0) (h : varveref11_Check.f k l0 = some r) :
  Calls Try.prog 14 #[.slice A0 l0.length c0] w fun e w' => e = .returned (.bool r) ∧ Below w.heap.size w w' := by
 have HR0 := mkA hr0; have HC0 := mkA hc0; clear hr0 hc0; have HB := mkA (Below.refl w.heap.size w); have H : (varveref11_Check.l0 k l0 0) = some r := h; clear h; have H' := mkA H; clear H; go_enter Try.func14, Try.ntmps14; go_wp2; go_loopg [3] k (fun kq v3 w' => ∃ (x3_1 : Int), v3 = .int .i64 x3_1 ∧ Aside0 (varveref11_Check.l0 kq l0 x3_1 = some r) ∧ Aside0 (kq ≤ k) ∧ Aside0 (Below w.heap.size w w'))
 case atStart => exact ⟨(0), zk6, H', ⟨Nat.le_refl _⟩, ⟨zk1⟩⟩
 case round =>
  clear H'; (try clear c1); obtain ⟨x3_1, rfl, HA, HK1, HB⟩ := hrel
  cases gk with
  | zero => exact absurd HA.out (by simp [varveref11_Check.l0])
  | succ k1 =>
   have H := HA.out; clear HA; simp only [varveref11_Check.l0] at H; by_cases c2 : x3_1 < (l0.length : Int)
   ·rw [if_pos c2] at H
    have c2b0 : decide (x3_1 < (l0.length : Int)) = true := decide_eq_true c2; clear c2; by_cases c3 : 0 ≤ x3_1
    ·rw [if_pos c3] at H
     have c3b0 : decide (0 ≤ x3_1) = true := decide_eq_true c3; clear c3; replace H := Option.bind_eq_some_iff.mp H; obtain ⟨t141, A40, H⟩ := H; replace H : (if t141 = true then (if (((rd_T41 l0 x3_1).f1).size : Int) < 1 then (some false) else (if (((rd_T41 l0 x3_1).f1).size : Int) > 64 then (some false) else (if x3_1 > 0 then (if 0 ≤ (wrap64 (x3_1 - 1)) then (if (wrap64 (x3_1 - 1)) < (l0.length : Int) then (if ((Op.bytesLess (((rd_T41 l0 (wrap64 (x3_1 - 1))).f0).toList) (((rd_T41 l0 x3_1).f0).toList)) = true) then (varveref11_Check.l0 k1 l0 (wrap64 (x3_1 + 1))) else (some false)) else (none)) else (none)) else (varveref11_Check.l0 k1 l0 (wrap64 (x3_1 + 1)))))) else (some false)) = some r := H; have A4 := mkA A40; clear A40; by_cases c5 : t141 = true
     ·subst c5
      have H1 : (if (((rd_T41 l0 x3_1).f1).size : Int) < 1 then (some false) else (if (((rd_T41 l0 x3_1).f1).size : Int) > 64 then (some false) else (if x3_1 > 0 then (if 0 ≤ (wrap64 (x3_1 - 1)) then (if (wrap64 (x3_1 - 1)) < (l0.length : Int) then (if ((Op.bytesLess (((rd_T41 l0 (wrap64 (x3_1 - 1))).f0).toList) (((rd_T41 l0 x3_1).f0).toList)) = true) then (varveref11_Check.l0 k1 l0 (wrap64 (x3_1 + 1))) else (some false)) else (none)) else (none)) else (varveref11_Check.l0 k1 l0 (wrap64 (x3_1 + 1)))))) = some r := zk29
      clear H; have H := H1; clear H1; by_cases c6 : (((rd_T41 l0 x3_1).f1).size : Int) < 1
      ·rw [if_pos c6] at H
       have c6b0 : decide ((((rd_T41 l0 x3_1).f1).size : Int) < 1) = true := decide_eq_true c6; have c6b1 : decide (((rd_T41 l0 x3_1).f1).size < 1) = true := decide_eq_true zk12; clear c6; obtain rfl := Option.some.inj H; (try go_wp2); have n0_ := mkA (below_drew1 HB.out); clear HB; have HB := n0_; clear n0_; have p140 : 0 ≤ (x3_1 : Int) := of_decide_eq_true zk2; have q140 : x3_1 < (l0.length : Int) := of_decide_eq_true zk2; obtain ⟨ad140, e140, hx140_0, hx140_1⟩ := at_T41 HR0.out x3_1 p140 q140; have hw140_1 := hx140_1; have hw140_0 := hx140_0; cases e140; replace hx140_0 := (HB.out.cell (World.block_lt_of_cell? w _ hx140_0)).trans hx140_0; replace hx140_1 := (HB.out.cell (World.block_lt_of_cell? w _ hx140_1)).trans hx140_1; replace p140 := eq_true p140; replace q140 := eq_true q140; have p142 : 0 ≤ (x3_1 : Int) := of_decide_eq_true zk2; have q142 : x3_1 < (l0.length : Int) := of_decide_eq_true zk2; obtain ⟨ad142, e142, hx142_0, hx142_1⟩ := at_T41 HR0.out x3_1 p142 q142; have hw142_1 := hx142_1; have hw142_0 := hx142_0; obtain rfl : ad140 = ad142 := (by injection e142)
       replace hx142_0 := (HB.out.cell (World.block_lt_of_cell? w _ hx142_0)).trans hx142_0; replace hx142_1 := (HB.out.cell (World.block_lt_of_cell? w _ hx142_1)).trans hx142_1; replace p142 := eq_true p142; replace q142 := eq_true q142; refine start_ (n := 43) (S := fun w' => w'.cell? (ad140.add ((x3_1).toNat * 2)) = some (.string ((rd_T41 l0 x3_1).f0)) ∧ w'.cell? ⟨(ad140.add ((x3_1).toNat * 2)).block, (ad140.add ((x3_1).toNat * 2)).off + 1, none⟩ = some (.string ((rd_T41 l0 x3_1).f1)) ∧ w'.cell? (ad140.add ((x3_1).toNat * 2)) = some (.string ((rd_T41 l0 x3_1).f0)) ∧ w'.cell? ⟨(ad140.add ((x3_1).toNat * 2)).block, (ad140.add ((x3_1).toNat * 2)).off + 1, none⟩ = some (.string ((rd_T41 l0 x3_1).f1))) (ds := []) #[false, false, false, false, false, false, false, false, false, false, false, false, false, false, false, false, false, false, false, false, false, false, false, false, false, false, false, false, false, false, false, false, false, false, false, false, false, false, false, false, false, false, false] zk3 rfl rfl ⟨((HB.out.cell (World.block_lt_of_cell? w _ hw140_0)).trans hw140_0), ((HB.out.cell (World.block_lt_of_cell? w _ hw140_1)).trans hw140_1), ((HB.out.cell (World.block_lt_of_cell? w _ hw142_0)).trans hw142_0), ((HB.out.cell (World.block_lt_of_cell? w _ hw142_1)).trans hw142_1)⟩ (fun hHeld => ?_); refine with_tabW varveref11_Check.tab4 varveref11_Check.bits4 (fun HT_ HW_ => ?_); generalize wr.drew = w7 at HB hx140_0 hx140_1 hx142_0 hx142_1 hHeld ⊢; refine pure_ (i := 0) (N := some 10) (v := ?_) (a' := ?_) #[true, false, false, false, false, false, false, false, false, false, false, false, false, false, false, false, false, false, false, false, false, false, false, false, false, false, false, false, false, false, false, false, false, false, false, false, false, false, false, false, false, false, false] rfl rfl (any_of HT_.out zk3) (fun _ _ _ h => h) (Or.inl ⟨zk16, ?_⟩) ?_ ?_; rotate_left
       ·exact zk95
       rotate_left
       ·exact zk94
       refine pure_ (i := 1) (N := some 11) (v := ?_) (a' := ?_) #[true, true, false, false, false, false, false, false, false, false, false, false, false, false, false, false, false, false, false, false, false, false, false, false, false, false, false, false, false, false, false, false, false, false, false, false, false, false, false, false, false, false, false] rfl rfl (any_of HT_.out zk3) (fun _ _ _ h => h) (Or.inl ⟨zk16, ?_⟩) ?_ ?_; rotate_left
       ·exact zk95
       rotate_left
       ·exact zk94
       refine pure_ (i := 2) (N := some 12) (v := ?_) (a' := ?_) #[true, true, true, false, false, false, false, false, false, false, false, false, false, false, false, false, false, false, false, false, false, false, false, false, false, false, false, false, false, false, false, false, false, false, false, false, false, false, false, false, false, false, false] rfl rfl (any_of HT_.out zk3) (fun _ _ _ h => h) (Or.inl ⟨zk16, ?_⟩) ?_ ?_; rotate_left
       ·exact zk95
       rotate_left
       ·exact zk94
       refine pure_ (i := 3) (N := some 13) (v := ?_) (a' := ?_) #[true, true, true, true, false, false, false, false, false, false, false, false, false, false, false, false, false, false, false, false, false, false, false, false, false, false, false, false, false, false, false, false, false, false, false, false, false, false, false, false, false, false, false] rfl rfl (any_of HT_.out zk3) (fun _ _ _ h => h) (Or.inl ⟨zk16, ?_⟩) ?_ ?_; rotate_left
       ·exact zk95
       rotate_left
       ·exact zk94
       refine take_ (i := 4) (N := some 14) (v := ?_) (a' := ?_) #[true, true, true, true, true, false, false, false, false, false, false, false, false, false, false, false, false, false, false, false, false, false, false, false, false, false, false, false, false, false, false, false, false, false, false, false, false, false, false, false, false, false, false] rfl rfl (take_ofW HT_.out HW_.out zk3) (fun _ _ _ h => h) (Or.inl ⟨zk16, ?_⟩) hHeld ?_ ?_; rotate_left
       ·exact zk100
       rotate_left
       ·exact zk94
       refine one_ (i := 5) (N := some 15) #[true, true, true, true, true, true, false, false, false, false, false, false, false, false, false, false, false, false, false, false, false, false, false, false, false, false, false, false, false, false, false, false, false, false, false, false, false, false, false, false, false, false, false] rfl rfl (one_of HT_.out zk3) zk40 (fun K hK => ?_); refine goes_ Try.func38 zk3 rfl #[.string ((rd_T41 l0 x3_1).f0)] zk16 rfl rfl zk5 ?_; (with_reducible refine (varveref11_Name.calls k1 ((rd_T41 l0 x3_1).f0) true _ A4.out).mono ?_); rintro e w' ⟨rfl, ⟨nd, rfl⟩⟩; refine ⟨_, rfl, ?_⟩; refine hK.out _ _ ⟨((HB.out.cell (World.block_lt_of_cell? w _ hw140_0)).trans hw140_0), ((HB.out.cell (World.block_lt_of_cell? w _ hw140_1)).trans hw140_1), ((HB.out.cell (World.block_lt_of_cell? w _ hw142_0)).trans hw142_0), ((HB.out.cell (World.block_lt_of_cell? w _ hw142_1)).trans hw142_1)⟩ (fun hHeld => ?_); clear hK K; refine norm_ (a' := ?_) ?_ ?_; rotate_left
       ·exact zk98
       refine pure_ (i := 6) (N := some 16) (v := ?_) (a' := ?_) #[true, true, true, true, true, true, true, false, false, false, false, false, false, false, false, false, false, false, false, false, false, false, false, false, false, false, false, false, false, false, false, false, false, false, false, false, false, false, false, false, false, false, false] rfl rfl (any_of HT_.out zk3) (fun _ _ _ h => h) (Or.inl ⟨zk16, ?_⟩) ?_ ?_; rotate_left
       ·exact zk95
       rotate_left
       ·exact zk94
       refine pure_ (i := 7) (N := some 17) (v := ?_) (a' := ?_) #[true, true, true, true, true, true, true, true, false, false, false, false, false, false, false, false, false, false, false, false, false, false, false, false, false, false, false, false, false, false, false, false, false, false, false, false, false, false, false, false, false, false, false] rfl rfl (any_of HT_.out zk3) (fun _ _ _ h => h) (Or.inl ⟨zk16, ?_⟩) ?_ ?_; rotate_left
       ·exact zk95
       rotate_left
       ·exact zk94
       refine pure_ (i := 8) (N := some 18) (v := ?_) (a' := ?_) #[true, true, true, true, true, true, true, true, true, false, false, false, false, false, false, false, false, false, false, false, false, false, false, false, false, false, false, false, false, false, false, false, false, false, false, false, false, false, false, false, false, false, false] rfl rfl (any_of HT_.out zk3) (fun _ _ _ h => h) (Or.inl ⟨zk16, ?_⟩) ?_ ?_; rotate_left
       ·exact zk95
       rotate_left
       ·exact zk94
       refine pure_ (i := 9) (N := some 19) (v := ?_) (a' := ?_) #[true, true, true, true, true, true, true, true, true, true, false, false, false, false, false, false, false, false, false, false, false, false, false, false, false, false, false, false, false, false, false, false, false, false, false, false, false, false, false, false, false, false, false] rfl rfl (any_of HT_.out zk3) (fun _ _ _ h => h) (Or.inl ⟨zk16, ?_⟩) ?_ ?_; rotate_left
       ·exact zk95
       rotate_left
       ·exact zk94
       refine pure_ (i := 10) (N := some 20) (v := ?_) (a' := ?_) #[true, true, true, true, true, true, true, true, true, true, true, false, false, false, false, false, false, false, false, false, false, false, false, false, false, false, false, false, false, false, false, false, false, false, false, false, false, false, false, false, false, false, false] rfl rfl (any_of HT_.out zk3) (fun _ _ _ h => h) (Or.inl ⟨zk16, ?_⟩) ?_ ?_; rotate_left
       ·exact zk95
       rotate_left
       ·exact zk94
       refine pure_ (i := 11) (N := some 21) (v := ?_) (a' := ?_) #[true, true, true, true, true, true, true, true, true, true, true, true, false, false, false, false, false, false, false, false, false, false, false, false, false, false, false, false, false, false, false, false, false, false, false, false, false, false, false, false, false, false, false] rfl rfl (any_of HT_.out zk3) (fun _ _ _ h => h) (Or.inl ⟨zk16, ?_⟩) ?_ ?_; rotate_left
       ·exact zk95
       rotate_left
       ·exact zk94
       refine take_ (i := 12) (N := some 22) (v := ?_) (a' := ?_) #[true, true, true, true, true, true, true, true, true, true, true, true, true, false, false, false, false, false, false, false, false, false, false, false, false, false, false, false, false, false, false, false, false, false, false, false, false, false, false, false, false, false, false] rfl rfl (take_ofW HT_.out HW_.out zk3) (fun _ _ _ h => h) (Or.inl ⟨zk16, ?_⟩) hHeld ?_ ?_; rotate_left
       ·exact zk100
       rotate_left
       ·exact zk94
       refine pure_ (i := 13) (N := some 23) (v := ?_) (a' := ?_) #[true, true, true, true, true, true, true, true, true, true, true, true, true, true, false, false, false, false, false, false, false, false, false, false, false, false, false, false, false, false, false, false, false, false, false, false, false, false, false, false, false, false, false] rfl rfl (any_of HT_.out zk3) (fun _ _ _ h => h) (Or.inl ⟨zk16, ?_⟩) ?_ ?_; rotate_left
       ·exact zk95
       rotate_left
       ·exact zk94
       refine pure_ (i := 14) (N := some 24) (v := ?_) (a' := ?_) #[true, true, true, true, true, true, true, true, true, true, true, true, true, true, true, false, false, false, false, false, false, false, false, false, false, false, false, false, false, false, false, false, false, false, false, false, false, false, false, false, false, false, false] rfl rfl (any_of HT_.out zk3) (fun _ _ _ h => h) (Or.inl ⟨zk16, ?_⟩) ?_ ?_; rotate_left
       ·exact zk95
       rotate_left
       ·exact zk94
       refine pure_ (i := 15) (N := some 25) (v := ?_) (a' := ?_) #[true, true, true, true, true, true, true, true, true, true, true, true, true, true, true, true, false, false, false, false, false, false, false, false, false, false, false, false, false, false, false, false, false, false, false, false, false, false, false, false, false, false, false] rfl rfl (any_of HT_.out zk3) (fun _ _ _ h => h) (Or.inl ⟨zk16, ?_⟩) ?_ ?_; rotate_left
       ·exact zk95
       rotate_left
       ·exact zk94
       refine pure_ (i := 16) (N := some 26) (v := ?_) (a' := ?_) #[true, true, true, true, true, true, true, true, true, true, true, true, true, true, true, true, true, false, false, false, false, false, false, false, false, false, false, false, false, false, false, false, false, false, false, false, false, false, false, false, false, false, false] rfl rfl (any_of HT_.out zk3) (fun _ _ _ h => h) (Or.inl ⟨zk16, ?_⟩) ?_ ?_; rotate_left
       ·exact zk95
       rotate_left
       ·exact zk94
       refine pure_ (i := 17) (N := some 27) (v := undef) (a' := ?_) #[true, true, true, true, true, true, true, true, true, true, true, true, true, true, true, true, true, true, false, false, false, false, false, false, false, false, false, false, false, false, false, false, false, false, false, false, false, false, false, false, false, false, false] rfl rfl (any_of HT_.out zk3) (fun _ _ _ h => h) (Or.inr ⟨zk16, rfl⟩) ?_ ?_; rotate_left
       ·exact zk94
       refine pure_ (i := 18) (N := some 28) (v := undef) (a' := ?_) #[true, true, true, true, true, true, true, true, true, true, true, true, true, true, true, true, true, true, true, false, false, false, false, false, false, false, false, false, false, false, false, false, false, false, false, false, false, false, false, false, false, false, false] rfl rfl (any_of HT_.out zk3) (fun _ _ _ h => h) (Or.inr ⟨zk16, rfl⟩) ?_ ?_; rotate_left
       ·exact zk94
       refine pure_ (i := 19) (N := some 29) (v := undef) (a' := ?_) #[true, true, true, true, true, true, true, true, true, true, true, true, true, true, true, true, true, true, true, true, false, false, false, false, false, false, false, false, false, false, false, false, false, false, false, false, false, false, false, false, false, false, false] rfl rfl (any_of HT_.out zk3) (fun _ _ _ h => h) (Or.inr ⟨zk16, rfl⟩) ?_ ?_; rotate_left
       ·exact zk94
       refine pure_ (i := 20) (N := some 30) (v := undef) (a' := ?_) #[true, true, true, true, true, true, true, true, true, true, true, true, true, true, true, true, true, true, true, true, true, false, false, false, false, false, false, false, false, false, false, false, false, false, false, false, false, false, false, false, false, false, false] rfl rfl (any_of HT_.out zk3) (fun _ _ _ h => h) (Or.inr ⟨zk16, rfl⟩) ?_ ?_; rotate_left
       ·exact zk94
       refine pure_ (i := 21) (N := some 31) (v := undef) (a' := ?_) #[true, true, true, true, true, true, true, true, true, true, true, true, true, true, true, true, true, true, true, true, true, true, false, false, false, false, false, false, false, false, false, false, false, false, false, false, false, false, false, false, false, false, false] rfl rfl (any_of HT_.out zk3) (fun _ _ _ h => h) (Or.inr ⟨zk16, rfl⟩) ?_ ?_; rotate_left
       ·exact zk94
       refine pure_ (i := 22) (N := some 32) (v := undef) (a' := ?_) #[true, true, true, true, true, true, true, true, true, true, true, true, true, true, true, true, true, true, true, true, true, true, true, false, false, false, false, false, false, false, false, false, false, false, false, false, false, false, false, false, false, false, false] rfl rfl (any_of HT_.out zk3) (fun _ _ _ h => h) (Or.inr ⟨zk16, rfl⟩) ?_ ?_; rotate_left
       ·exact zk94
       refine pure_ (i := 23) (N := some 33) (v := undef) (a' := ?_) #[true, true, true, true, true, true, true, true, true, true, true, true, true, true, true, true, true, true, true, true, true, true, true, true, false, false, false, false, false, false, false, false, false, false, false, false, false, false, false, false, false, false, false] rfl rfl (any_of HT_.out zk3) (fun _ _ _ h => h) (Or.inr ⟨zk16, rfl⟩) ?_ ?_; rotate_left
       ·exact zk94
       refine pure_ (i := 24) (N := some 34) (v := ?_) (a' := ?_) #[true, true, true, true, true, true, true, true, true, true, true, true, true, true, true, true, true, true, true, true, true, true, true, true, true, false, false, false, false, false, false, false, false, false, false, false, false, false, false, false, false, false, false] rfl rfl (any_of HT_.out zk3) (fun _ _ _ h => h) (Or.inl ⟨zk16, ?_⟩) ?_ ?_; rotate_left
       ·exact zk95
       rotate_left
       ·exact zk94
       refine pure_ (i := 25) (N := some 35) (v := ?_) (a' := ?_) #[true, true, true, true, true, true, true, true, true, true, true, true, true, true, true, true, true, true, true, true, true, true, true, true, true, true, false, false, false, false, false, false, false, false, false, false, false, false, false, false, false, false, false] rfl rfl (any_of HT_.out zk3) (fun _ _ _ h => h) (Or.inl ⟨zk16, ?_⟩) ?_ ?_; rotate_left
       ·exact zk95
       rotate_left
       ·exact zk94
       refine pure_ (i := 26) (N := some 36) (v := undef) (a' := ?_) #[true, true, true, true, true, true, true, true, true, true, true, true, true, true, true, true, true, true, true, true, true, true, true, true, true, true, true, false, false, false, false, false, false, false, false, false, false, false, false, false, false, false, false] rfl rfl (any_of HT_.out zk3) (fun _ _ _ h => h) (Or.inr ⟨zk16, rfl⟩) ?_ ?_; rotate_left
       ·exact zk94
       refine pure_ (i := 27) (N := some 37) (v := undef) (a' := ?_) #[true, true, true, true, true, true, true, true, true, true, true, true, true, true, true, true, true, true, true, true, true, true, true, true, true, true, true, true, false, false, false, false, false, false, false, false, false, false, false, false, false, false, false] rfl rfl (any_of HT_.out zk3) (fun _ _ _ h => h) (Or.inr ⟨zk16, rfl⟩) ?_ ?_; rotate_left
       ·exact zk94
       refine pure_ (i := 28) (N := some 38) (v := undef) (a' := ?_) #[true, true, true, true, true, true, true, true, true, true, true, true, true, true, true, true, true, true, true, true, true, true, true, true, true, true, true, true, true, false, false, false, false, false, false, false, false, false, false, false, false, false, false] rfl rfl (any_of HT_.out zk3) (fun _ _ _ h => h) (Or.inr ⟨zk16, rfl⟩) ?_ ?_; rotate_left
       ·exact zk94
       refine pure_ (i := 29) (N := some 39) (v := undef) (a' := ?_) #[true, true, true, true, true, true, true, true, true, true, true, true, true, true, true, true, true, true, true, true, true, true, true, true, true, true, true, true, true, true, false, false, false, false, false, false, false, false, false, false, false, false, false] rfl rfl (any_of HT_.out zk3) (fun _ _ _ h => h) (Or.inr ⟨zk16, rfl⟩) ?_ ?_; rotate_left
       ·exact zk94
       refine pure_ (i := 30) (N := some 40) (v := undef) (a' := ?_) #[true, true, true, true, true, true, true, true, true, true, true, true, true, true, true, true, true, true, true, true, true, true, true, true, true, true, true, true, true, true, true, false, false, false, false, false, false, false, false, false, false, false, false] rfl rfl (any_of HT_.out zk3) (fun _ _ _ h => h) (Or.inr ⟨zk16, rfl⟩) ?_ ?_; rotate_left
       ·exact zk94
       refine pure_ (i := 31) (N := some 41) (v := undef) (a' := ?_) #[true, true, true, true, true, true, true, true, true, true, true, true, true, true, true, true, true, true, true, true, true, true, true, true, true, true, true, true, true, true, true, true, false, false, false, false, false, false, false, false, false, false, false] rfl rfl (any_of HT_.out zk3) (fun _ _ _ h => h) (Or.inr ⟨zk16, rfl⟩) ?_ ?_; rotate_left
       ·exact zk94
       refine pure_ (i := 32) (N := some 42) (v := undef) (a' := ?_) #[true, true, true, true, true, true, true, true, true, true, true, true, true, true, true, true, true, true, true, true, true, true, true, true, true, true, true, true, true, true, true, true, true, false, false, false, false, false, false, false, false, false, false] rfl rfl (any_of HT_.out zk3) (fun _ _ _ h => h) (Or.inr ⟨zk16, rfl⟩) ?_ ?_; rotate_left
       ·exact zk94
       refine pure_ (i := 33) (N := some 43) (v := undef) (a' := ?_) #[true, true, true, true, true, true, true, true, true, true, true, true, true, true, true, true, true, true, true, true, true, true, true, true, true, true, true, true, true, true, true, true, true, true, false, false, false, false, false, false, false, false, false] rfl rfl (any_of HT_.out zk3) (fun _ _ _ h => h) (Or.inr ⟨zk16, rfl⟩) ?_ ?_; rotate_left
       ·exact zk94
       refine pure_ (i := 34) (N := some 44) (v := undef) (a' := ?_) #[true, true, true, true, true, true, true, true, true, true, true, true, true, true, true, true, true, true, true, true, true, true, true, true, true, true, true, true, true, true, true, true, true, true, true, false, false, false, false, false, false, false, false] rfl rfl (any_of HT_.out zk3) (fun _ _ _ h => h) (Or.inr ⟨zk16, rfl⟩) ?_ ?_; rotate_left
       ·exact zk94
       refine pure_ (i := 35) (N := some 45) (v := undef) (a' := ?_) #[true, true, true, true, true, true, true, true, true, true, true, true, true, true, true, true, true, true, true, true, true, true, true, true, true, true, true, true, true, true, true, true, true, true, true, true, false, false, false, false, false, false, false] rfl rfl (any_of HT_.out zk3) (fun _ _ _ h => h) (Or.inr ⟨zk16, rfl⟩) ?_ ?_; rotate_left
       ·exact zk94
       refine pure_ (i := 36) (N := some 46) (v := undef) (a' := ?_) #[true, true, true, true, true, true, true, true, true, true, true, true, true, true, true, true, true, true, true, true, true, true, true, true, true, true, true, true, true, true, true, true, true, true, true, true, true, false, false, false, false, false, false] rfl rfl (any_of HT_.out zk3) (fun _ _ _ h => h) (Or.inr ⟨zk16, rfl⟩) ?_ ?_; rotate_left
       ·exact zk94
       refine pure_ (i := 37) (N := some 47) (v := undef) (a' := ?_) #[true, true, true, true, true, true, true, true, true, true, true, true, true, true, true, true, true, true, true, true, true, true, true, true, true, true, true, true, true, true, true, true, true, true, true, true, true, true, false, false, false, false, false] rfl rfl (any_of HT_.out zk3) (fun _ _ _ h => h) (Or.inr ⟨zk16, rfl⟩) ?_ ?_; rotate_left
       ·exact zk94
       refine pure_ (i := 38) (N := some 48) (v := undef) (a' := ?_) #[true, true, true, true, true, true, true, true, true, true, true, true, true, true, true, true, true, true, true, true, true, true, true, true, true, true, true, true, true, true, true, true, true, true, true, true, true, true, true, false, false, false, false] rfl rfl (any_of HT_.out zk3) (fun _ _ _ h => h) (Or.inr ⟨zk16, rfl⟩) ?_ ?_; rotate_left
       ·exact zk94
       refine pure_ (i := 39) (N := some 49) (v := undef) (a' := ?_) #[true, true, true, true, true, true, true, true, true, true, true, true, true, true, true, true, true, true, true, true, true, true, true, true, true, true, true, true, true, true, true, true, true, true, true, true, true, true, true, true, false, false, false] rfl rfl (any_of HT_.out zk3) (fun _ _ _ h => h) (Or.inr ⟨zk16, rfl⟩) ?_ ?_; rotate_left
       ·exact zk94
       refine pure_ (i := 40) (N := some 50) (v := undef) (a' := ?_) #[true, true, true, true, true, true, true, true, true, true, true, true, true, true, true, true, true, true, true, true, true, true, true, true, true, true, true, true, true, true, true, true, true, true, true, true, true, true, true, true, true, false, false] rfl rfl (any_of HT_.out zk3) (fun _ _ _ h => h) (Or.inr ⟨zk16, rfl⟩) ?_ ?_; rotate_left
       ·exact zk94
       refine pure_ (i := 41) (N := some 51) (v := undef) (a' := ?_) #[true, true, true, true, true, true, true, true, true, true, true, true, true, true, true, true, true, true, true, true, true, true, true, true, true, true, true, true, true, true, true, true, true, true, true, true, true, true, true, true, true, true, false] rfl rfl (any_of HT_.out zk3) (fun _ _ _ h => h) (Or.inr ⟨zk16, rfl⟩) ?_ ?_; rotate_left
       ·exact zk94
       refine pure_ (i := 42) (N := some 52) (v := ?_) (a' := ?_) #[true, true, true, true, true, true, true, true, true, true, true, true, true, true, true, true, true, true, true, true, true, true, true, true, true, true, true, true, true, true, true, true, true, true, true, true, true, true, true, true, true, true, true] rfl rfl (any_of HT_.out zk3) (fun _ _ _ h => h) (Or.inl ⟨zk16, ?_⟩) ?_ ?_; rotate_left
       ·exact zk95
       rotate_left
       ·exact zk94
       refine done_ (done_of HT_.out zk3) ?_; (try go_wp2); go_ret
       exact ⟨zk4, zk1⟩
      ·rw [if_neg c6] at H
       have c6b0 : decide ((((rd_T41 l0 x3_1).f1).size : Int) < 1) = false := decide_eq_false c6; have c6b1 : decide (((rd_T41 l0 x3_1).f1).size < 1) = false := decide_eq_false zk12; clear c6; by_cases c8 : (((rd_T41 l0 x3_1).f1).size : Int) > 64
       ·rw [if_pos c8] at H
        have c8b0 : decide (64 < (((rd_T41 l0 x3_1).f1).size : Int)) = true := decide_eq_true c8; have c8b1 : decide (64 < ((rd_T41 l0 x3_1).f1).size) = true := decide_eq_true zk12; clear c8; obtain rfl := Option.some.inj H; (try go_wp2); have n0_ := mkA (below_drew1 HB.out); clear HB; have HB := n0_; clear n0_; have p140 : 0 ≤ (x3_1 : Int) := of_decide_eq_true zk2; have q140 : x3_1 < (l0.length : Int) := of_decide_eq_true zk2; obtain ⟨ad140, e140, hx140_0, hx140_1⟩ := at_T41 HR0.out x3_1 p140 q140; have hw140_1 := hx140_1; have hw140_0 := hx140_0; cases e140; replace hx140_0 := (HB.out.cell (World.block_lt_of_cell? w _ hx140_0)).trans hx140_0; replace hx140_1 := (HB.out.cell (World.block_lt_of_cell? w _ hx140_1)).trans hx140_1; replace p140 := eq_true p140; replace q140 := eq_true q140; have p142 : 0 ≤ (x3_1 : Int) := of_decide_eq_true zk2; have q142 : x3_1 < (l0.length : Int) := of_decide_eq_true zk2; obtain ⟨ad142, e142, hx142_0, hx142_1⟩ := at_T41 HR0.out x3_1 p142 q142; have hw142_1 := hx142_1; have hw142_0 := hx142_0; obtain rfl : ad140 = ad142 := (by injection e142)
        replace hx142_0 := (HB.out.cell (World.block_lt_of_cell? w _ hx142_0)).trans hx142_0; replace hx142_1 := (HB.out.cell (World.block_lt_of_cell? w _ hx142_1)).trans hx142_1; replace p142 := eq_true p142; replace q142 := eq_true q142; have p143 : 0 ≤ (x3_1 : Int) := of_decide_eq_true zk2; have q143 : x3_1 < (l0.length : Int) := of_decide_eq_true zk2; obtain ⟨ad143, e143, hx143_0, hx143_1⟩ := at_T41 HR0.out x3_1 p143 q143; have hw143_1 := hx143_1; have hw143_0 := hx143_0; obtain rfl : ad140 = ad143 := (by injection e143)
        replace hx143_0 := (HB.out.cell (World.block_lt_of_cell? w _ hx143_0)).trans hx143_0; replace hx143_1 := (HB.out.cell (World.block_lt_of_cell? w _ hx143_1)).trans hx143_1; replace p143 := eq_true p143; replace q143 := eq_true q143; refine start_ (n := 43) (S := fun w' => w'.cell? (ad140.add ((x3_1).toNat * 2)) = some (.string ((rd_T41 l0 x3_1).f0)) ∧ w'.cell? ⟨(ad140.add ((x3_1).toNat * 2)).block, (ad140.add ((x3_1).toNat * 2)).off + 1, none⟩ = some (.string ((rd_T41 l0 x3_1).f1)) ∧ w'.cell? (ad140.add ((x3_1).toNat * 2)) = some (.string ((rd_T41 l0 x3_1).f0)) ∧ w'.cell? ⟨(ad140.add ((x3_1).toNat * 2)).block, (ad140.add ((x3_1).toNat * 2)).off + 1, none⟩ = some (.string ((rd_T41 l0 x3_1).f1)) ∧ w'.cell? (ad140.add ((x3_1).toNat * 2)) = some (.string ((rd_T41 l0 x3_1).f0)) ∧ w'.cell? ⟨(ad140.add ((x3_1).toNat * 2)).block, (ad140.add ((x3_1).toNat * 2)).off + 1, none⟩ = some (.string ((rd_T41 l0 x3_1).f1))) (ds := []) #[false, false, false, false, false, false, false, false, false, false, false, false, false, false, false, false, false, false, false, false, false, false, false, false, false, false, false, false, false, false, false, false, false, false, false, false, false, false, false, false, false, false, false] zk3 rfl rfl ⟨((HB.out.cell (World.block_lt_of_cell? w _ hw140_0)).trans hw140_0), ((HB.out.cell (World.block_lt_of_cell? w _ hw140_1)).trans hw140_1), ((HB.out.cell (World.block_lt_of_cell? w _ hw142_0)).trans hw142_0), ((HB.out.cell (World.block_lt_of_cell? w _ hw142_1)).trans hw142_1), ((HB.out.cell (World.block_lt_of_cell? w _ hw143_0)).trans hw143_0), ((HB.out.cell (World.block_lt_of_cell? w _ hw143_1)).trans hw143_1)⟩ (fun hHeld => ?_); refine with_tabW varveref11_Check.tab4 varveref11_Check.bits4 (fun HT_ HW_ => ?_); generalize wr.drew = w9 at HB hx140_0 hx140_1 hx142_0 hx142_1 hx143_0 hx143_1 hHeld ⊢; refine pure_ (i := 0) (N := some 10) (v := ?_) (a' := ?_) #[true, false, false, false, false, false, false, false, false, false, false, false, false, false, false, false, false, false, false, false, false, false, false, false, false, false, false, false, false, false, false, false, false, false, false, false, false, false, false, false, false, false, false] rfl rfl (any_of HT_.out zk3) (fun _ _ _ h => h) (Or.inl ⟨zk16, ?_⟩) ?_ ?_; rotate_left
        ·exact zk95
        rotate_left
        ·exact zk94
        refine pure_ (i := 1) (N := some 11) (v := ?_) (a' := ?_) #[true, true, false, false, false, false, false, false, false, false, false, false, false, false, false, false, false, false, false, false, false, false, false, false, false, false, false, false, false, false, false, false, false, false, false, false, false, false, false, false, false, false, false] rfl rfl (any_of HT_.out zk3) (fun _ _ _ h => h) (Or.inl ⟨zk16, ?_⟩) ?_ ?_; rotate_left
        ·exact zk95
        rotate_left
        ·exact zk94
        refine pure_ (i := 2) (N := some 12) (v := ?_) (a' := ?_) #[true, true, true, false, false, false, false, false, false, false, false, false, false, false, false, false, false, false, false, false, false, false, false, false, false, false, false, false, false, false, false, false, false, false, false, false, false, false, false, false, false, false, false] rfl rfl (any_of HT_.out zk3) (fun _ _ _ h => h) (Or.inl ⟨zk16, ?_⟩) ?_ ?_; rotate_left
        ·exact zk95
        rotate_left
        ·exact zk94
        refine pure_ (i := 3) (N := some 13) (v := ?_) (a' := ?_) #[true, true, true, true, false, false, false, false, false, false, false, false, false, false, false, false, false, false, false, false, false, false, false, false, false, false, false, false, false, false, false, false, false, false, false, false, false, false, false, false, false, false, false] rfl rfl (any_of HT_.out zk3) (fun _ _ _ h => h) (Or.inl ⟨zk16, ?_⟩) ?_ ?_; rotate_left
        ·exact zk95
        rotate_left
        ·exact zk94
        refine take_ (i := 4) (N := some 14) (v := ?_) (a' := ?_) #[true, true, true, true, true, false, false, false, false, false, false, false, false, false, false, false, false, false, false, false, false, false, false, false, false, false, false, false, false, false, false, false, false, false, false, false, false, false, false, false, false, false, false] rfl rfl (take_ofW HT_.out HW_.out zk3) (fun _ _ _ h => h) (Or.inl ⟨zk16, ?_⟩) hHeld ?_ ?_; rotate_left
        ·exact zk105
        rotate_left
        ·exact zk94
        refine one_ (i := 5) (N := some 15) #[true, true, true, true, true, true, false, false, false, false, false, false, false, false, false, false, false, false, false, false, false, false, false, false, false, false, false, false, false, false, false, false, false, false, false, false, false, false, false, false, false, false, false] rfl rfl (one_of HT_.out zk3) zk40 (fun K hK => ?_); refine goes_ Try.func38 zk3 rfl #[.string ((rd_T41 l0 x3_1).f0)] zk16 rfl rfl zk5 ?_; (with_reducible refine (varveref11_Name.calls k1 ((rd_T41 l0 x3_1).f0) true _ A4.out).mono ?_); rintro e w' ⟨rfl, ⟨nd, rfl⟩⟩; refine ⟨_, rfl, ?_⟩; refine hK.out _ _ ⟨((HB.out.cell (World.block_lt_of_cell? w _ hw140_0)).trans hw140_0), ((HB.out.cell (World.block_lt_of_cell? w _ hw140_1)).trans hw140_1), ((HB.out.cell (World.block_lt_of_cell? w _ hw142_0)).trans hw142_0), ((HB.out.cell (World.block_lt_of_cell? w _ hw142_1)).trans hw142_1), ((HB.out.cell (World.block_lt_of_cell? w _ hw143_0)).trans hw143_0), ((HB.out.cell (World.block_lt_of_cell? w _ hw143_1)).trans hw143_1)⟩ (fun hHeld => ?_); clear hK K; refine norm_ (a' := ?_) ?_ ?_; rotate_left
        ·exact zk98
        refine pure_ (i := 6) (N := some 16) (v := ?_) (a' := ?_) #[true, true, true, true, true, true, true, false, false, false, false, false, false, false, false, false, false, false, false, false, false, false, false, false, false, false, false, false, false, false, false, false, false, false, false, false, false, false, false, false, false, false, false] rfl rfl (any_of HT_.out zk3) (fun _ _ _ h => h) (Or.inl ⟨zk16, ?_⟩) ?_ ?_; rotate_left
        ·exact zk95
        rotate_left
        ·exact zk94
        refine pure_ (i := 7) (N := some 17) (v := ?_) (a' := ?_) #[true, true, true, true, true, true, true, true, false, false, false, false, false, false, false, false, false, false, false, false, false, false, false, false, false, false, false, false, false, false, false, false, false, false, false, false, false, false, false, false, false, false, false] rfl rfl (any_of HT_.out zk3) (fun _ _ _ h => h) (Or.inl ⟨zk16, ?_⟩) ?_ ?_; rotate_left
        ·exact zk95
        rotate_left
        ·exact zk94
        refine pure_ (i := 8) (N := some 18) (v := ?_) (a' := ?_) #[true, true, true, true, true, true, true, true, true, false, false, false, false, false, false, false, false, false, false, false, false, false, false, false, false, false, false, false, false, false, false, false, false, false, false, false, false, false, false, false, false, false, false] rfl rfl (any_of HT_.out zk3) (fun _ _ _ h => h) (Or.inl ⟨zk16, ?_⟩) ?_ ?_; rotate_left
        ·exact zk95
        rotate_left
        ·exact zk94
        refine pure_ (i := 9) (N := some 19) (v := ?_) (a' := ?_) #[true, true, true, true, true, true, true, true, true, true, false, false, false, false, false, false, false, false, false, false, false, false, false, false, false, false, false, false, false, false, false, false, false, false, false, false, false, false, false, false, false, false, false] rfl rfl (any_of HT_.out zk3) (fun _ _ _ h => h) (Or.inl ⟨zk16, ?_⟩) ?_ ?_; rotate_left
        ·exact zk95
        rotate_left
        ·exact zk94
        refine pure_ (i := 10) (N := some 20) (v := ?_) (a' := ?_) #[true, true, true, true, true, true, true, true, true, true, true, false, false, false, false, false, false, false, false, false, false, false, false, false, false, false, false, false, false, false, false, false, false, false, false, false, false, false, false, false, false, false, false] rfl rfl (any_of HT_.out zk3) (fun _ _ _ h => h) (Or.inl ⟨zk16, ?_⟩) ?_ ?_; rotate_left
        ·exact zk95
        rotate_left
        ·exact zk94
        refine pure_ (i := 11) (N := some 21) (v := ?_) (a' := ?_) #[true, true, true, true, true, true, true, true, true, true, true, true, false, false, false, false, false, false, false, false, false, false, false, false, false, false, false, false, false, false, false, false, false, false, false, false, false, false, false, false, false, false, false] rfl rfl (any_of HT_.out zk3) (fun _ _ _ h => h) (Or.inl ⟨zk16, ?_⟩) ?_ ?_; rotate_left
        ·exact zk95
        rotate_left
        ·exact zk94
        refine take_ (i := 12) (N := some 22) (v := ?_) (a' := ?_) #[true, true, true, true, true, true, true, true, true, true, true, true, true, false, false, false, false, false, false, false, false, false, false, false, false, false, false, false, false, false, false, false, false, false, false, false, false, false, false, false, false, false, false] rfl rfl (take_ofW HT_.out HW_.out zk3) (fun _ _ _ h => h) (Or.inl ⟨zk16, ?_⟩) hHeld ?_ ?_; rotate_left
        ·exact zk105
        rotate_left
        ·exact zk94
        refine pure_ (i := 13) (N := some 23) (v := ?_) (a' := ?_) #[true, true, true, true, true, true, true, true, true, true, true, true, true, true, false, false, false, false, false, false, false, false, false, false, false, false, false, false, false, false, false, false, false, false, false, false, false, false, false, false, false, false, false] rfl rfl (any_of HT_.out zk3) (fun _ _ _ h => h) (Or.inl ⟨zk16, ?_⟩) ?_ ?_; rotate_left
        ·exact zk95
        rotate_left
        ·exact zk94
        refine pure_ (i := 14) (N := some 24) (v := ?_) (a' := ?_) #[true, true, true, true, true, true, true, true, true, true, true, true, true, true, true, false, false, false, false, false, false, false, false, false, false, false, false, false, false, false, false, false, false, false, false, false, false, false, false, false, false, false, false] rfl rfl (any_of HT_.out zk3) (fun _ _ _ h => h) (Or.inl ⟨zk16, ?_⟩) ?_ ?_; rotate_left
        ·exact zk95
        rotate_left
        ·exact zk94
        refine pure_ (i := 15) (N := some 25) (v := ?_) (a' := ?_) #[true, true, true, true, true, true, true, true, true, true, true, true, true, true, true, true, false, false, false, false, false, false, false, false, false, false, false, false, false, false, false, false, false, false, false, false, false, false, false, false, false, false, false] rfl rfl (any_of HT_.out zk3) (fun _ _ _ h => h) (Or.inl ⟨zk16, ?_⟩) ?_ ?_; rotate_left
        ·exact zk95
        rotate_left
        ·exact zk94
        refine pure_ (i := 16) (N := some 26) (v := ?_) (a' := ?_) #[true, true, true, true, true, true, true, true, true, true, true, true, true, true, true, true, true, false, false, false, false, false, false, false, false, false, false, false, false, false, false, false, false, false, false, false, false, false, false, false, false, false, false] rfl rfl (any_of HT_.out zk3) (fun _ _ _ h => h) (Or.inl ⟨zk16, ?_⟩) ?_ ?_; rotate_left
        ·exact zk95
        rotate_left
        ·exact zk94
        refine pure_ (i := 17) (N := some 27) (v := ?_) (a' := ?_) #[true, true, true, true, true, true, true, true, true, true, true, true, true, true, true, true, true, true, false, false, false, false, false, false, false, false, false, false, false, false, false, false, false, false, false, false, false, false, false, false, false, false, false] rfl rfl (any_of HT_.out zk3) (fun _ _ _ h => h) (Or.inl ⟨zk16, ?_⟩) ?_ ?_; rotate_left
        ·exact zk95
        rotate_left
        ·exact zk94
        refine pure_ (i := 18) (N := some 28) (v := ?_) (a' := ?_) #[true, true, true, true, true, true, true, true, true, true, true, true, true, true, true, true, true, true, true, false, false, false, false, false, false, false, false, false, false, false, false, false, false, false, false, false, false, false, false, false, false, false, false] rfl rfl (any_of HT_.out zk3) (fun _ _ _ h => h) (Or.inl ⟨zk16, ?_⟩) ?_ ?_; rotate_left
        ·exact zk95
        rotate_left
        ·exact zk94
        refine pure_ (i := 19) (N := some 29) (v := ?_) (a' := ?_) #[true, true, true, true, true, true, true, true, true, true, true, true, true, true, true, true, true, true, true, true, false, false, false, false, false, false, false, false, false, false, false, false, false, false, false, false, false, false, false, false, false, false, false] rfl rfl (any_of HT_.out zk3) (fun _ _ _ h => h) (Or.inl ⟨zk16, ?_⟩) ?_ ?_; rotate_left
        ·exact zk95
        rotate_left
        ·exact zk94
        refine pure_ (i := 20) (N := some 30) (v := ?_) (a' := ?_) #[true, true, true, true, true, true, true, true, true, true, true, true, true, true, true, true, true, true, true, true, true, false, false, false, false, false, false, false, false, false, false, false, false, false, false, false, false, false, false, false, false, false, false] rfl rfl (any_of HT_.out zk3) (fun _ _ _ h => h) (Or.inl ⟨zk16, ?_⟩) ?_ ?_; rotate_left
        ·exact zk95
        rotate_left
        ·exact zk94
        refine take_ (i := 21) (N := some 31) (v := ?_) (a' := ?_) #[true, true, true, true, true, true, true, true, true, true, true, true, true, true, true, true, true, true, true, true, true, true, false, false, false, false, false, false, false, false, false, false, false, false, false, false, false, false, false, false, false, false, false] rfl rfl (take_ofW HT_.out HW_.out zk3) (fun _ _ _ h => h) (Or.inl ⟨zk16, ?_⟩) hHeld ?_ ?_; rotate_left
        ·exact zk105
        rotate_left
        ·exact zk94
        refine pure_ (i := 22) (N := some 32) (v := ?_) (a' := ?_) #[true, true, true, true, true, true, true, true, true, true, true, true, true, true, true, true, true, true, true, true, true, true, true, false, false, false, false, false, false, false, false, false, false, false, false, false, false, false, false, false, false, false, false] rfl rfl (any_of HT_.out zk3) (fun _ _ _ h => h) (Or.inl ⟨zk16, ?_⟩) ?_ ?_; rotate_left
        ·exact zk95
        rotate_left
        ·exact zk94
        refine pure_ (i := 23) (N := some 33) (v := ?_) (a' := ?_) #[true, true, true, true, true, true, true, true, true, true, true, true, true, true, true, true, true, true, true, true, true, true, true, true, false, false, false, false, false, false, false, false, false, false, false, false, false, false, false, false, false, false, false] rfl rfl (any_of HT_.out zk3) (fun _ _ _ h => h) (Or.inl ⟨zk16, ?_⟩) ?_ ?_; rotate_left
        ·exact zk95
        rotate_left
        ·exact zk94
        refine pure_ (i := 24) (N := some 34) (v := ?_) (a' := ?_) #[true, true, true, true, true, true, true, true, true, true, true, true, true, true, true, true, true, true, true, true, true, true, true, true, true, false, false, false, false, false, false, false, false, false, false, false, false, false, false, false, false, false, false] rfl rfl (any_of HT_.out zk3) (fun _ _ _ h => h) (Or.inl ⟨zk16, ?_⟩) ?_ ?_; rotate_left
        ·exact zk95
        rotate_left
        ·exact zk94
        refine pure_ (i := 25) (N := some 35) (v := ?_) (a' := ?_) #[true, true, true, true, true, true, true, true, true, true, true, true, true, true, true, true, true, true, true, true, true, true, true, true, true, true, false, false, false, false, false, false, false, false, false, false, false, false, false, false, false, false, false] rfl rfl (any_of HT_.out zk3) (fun _ _ _ h => h) (Or.inl ⟨zk16, ?_⟩) ?_ ?_; rotate_left
        ·exact zk95
        rotate_left
        ·exact zk94
        refine pure_ (i := 26) (N := some 36) (v := undef) (a' := ?_) #[true, true, true, true, true, true, true, true, true, true, true, true, true, true, true, true, true, true, true, true, true, true, true, true, true, true, true, false, false, false, false, false, false, false, false, false, false, false, false, false, false, false, false] rfl rfl (any_of HT_.out zk3) (fun _ _ _ h => h) (Or.inr ⟨zk16, rfl⟩) ?_ ?_; rotate_left
        ·exact zk94
        refine pure_ (i := 27) (N := some 37) (v := undef) (a' := ?_) #[true, true, true, true, true, true, true, true, true, true, true, true, true, true, true, true, true, true, true, true, true, true, true, true, true, true, true, true, false, false, false, false, false, false, false, false, false, false, false, false, false, false, false] rfl rfl (any_of HT_.out zk3) (fun _ _ _ h => h) (Or.inr ⟨zk16, rfl⟩) ?_ ?_; rotate_left
        ·exact zk94
        refine pure_ (i := 28) (N := some 38) (v := undef) (a' := ?_) #[true, true, true, true, true, true, true, true, true, true, true, true, true, true, true, true, true, true, true, true, true, true, true, true, true, true, true, true, true, false, false, false, false, false, false, false, false, false, false, false, false, false, false] rfl rfl (any_of HT_.out zk3) (fun _ _ _ h => h) (Or.inr ⟨zk16, rfl⟩) ?_ ?_; rotate_left
        ·exact zk94
        refine pure_ (i := 29) (N := some 39) (v := undef) (a' := ?_) #[true, true, true, true, true, true, true, true, true, true, true, true, true, true, true, true, true, true, true, true, true, true, true, true, true, true, true, true, true, true, false, false, false, false, false, false, false, false, false, false, false, false, false] rfl rfl (any_of HT_.out zk3) (fun _ _ _ h => h) (Or.inr ⟨zk16, rfl⟩) ?_ ?_; rotate_left
        ·exact zk94
        refine pure_ (i := 30) (N := some 40) (v := undef) (a' := ?_) #[true, true, true, true, true, true, true, true, true, true, true, true, true, true, true, true, true, true, true, true, true, true, true, true, true, true, true, true, true, true, true, false, false, false, false, false, false, false, false, false, false, false, false] rfl rfl (any_of HT_.out zk3) (fun _ _ _ h => h) (Or.inr ⟨zk16, rfl⟩) ?_ ?_; rotate_left
        ·exact zk94
        refine pure_ (i := 31) (N := some 41) (v := undef) (a' := ?_) #[true, true, true, true, true, true, true, true, true, true, true, true, true, true, true, true, true, true, true, true, true, true, true, true, true, true, true, true, true, true, true, true, false, false, false, false, false, false, false, false, false, false, false] rfl rfl (any_of HT_.out zk3) (fun _ _ _ h => h) (Or.inr ⟨zk16, rfl⟩) ?_ ?_; rotate_left
        ·exact zk94
        refine pure_ (i := 32) (N := some 42) (v := undef) (a' := ?_) #[true, true, true, true, true, true, true, true, true, true, true, true, true, true, true, true, true, true, true, true, true, true, true, true, true, true, true, true, true, true, true, true, true, false, false, false, false, false, false, false, false, false, false] rfl rfl (any_of HT_.out zk3) (fun _ _ _ h => h) (Or.inr ⟨zk16, rfl⟩) ?_ ?_; rotate_left
        ·exact zk94
        refine pure_ (i := 33) (N := some 43) (v := undef) (a' := ?_) #[true, true, true, true, true, true, true, true, true, true, true, true, true, true, true, true, true, true, true, true, true, true, true, true, true, true, true, true, true, true, true, true, true, true, false, false, false, false, false, false, false, false, false] rfl rfl (any_of HT_.out zk3) (fun _ _ _ h => h) (Or.inr ⟨zk16, rfl⟩) ?_ ?_; rotate_left
        ·exact zk94
        refine pure_ (i := 34) (N := some 44) (v := undef) (a' := ?_) #[true, true, true, true, true, true, true, true, true, true, true, true, true, true, true, true, true, true, true, true, true, true, true, true, true, true, true, true, true, true, true, true, true, true, true, false, false, false, false, false, false, false, false] rfl rfl (any_of HT_.out zk3) (fun _ _ _ h => h) (Or.inr ⟨zk16, rfl⟩) ?_ ?_; rotate_left
        ·exact zk94
        refine pure_ (i := 35) (N := some 45) (v := undef) (a' := ?_) #[true, true, true, true, true, true, true, true, true, true, true, true, true, true, true, true, true, true, true, true, true, true, true, true, true, true, true, true, true, true, true, true, true, true, true, true, false, false, false, false, false, false, false] rfl rfl (any_of HT_.out zk3) (fun _ _ _ h => h) (Or.inr ⟨zk16, rfl⟩) ?_ ?_; rotate_left
        ·exact zk94
        refine pure_ (i := 36) (N := some 46) (v := undef) (a' := ?_) #[true, true, true, true, true, true, true, true, true, true, true, true, true, true, true, true, true, true, true, true, true, true, true, true, true, true, true, true, true, true, true, true, true, true, true, true, true, false, false, false, false, false, false] rfl rfl (any_of HT_.out zk3) (fun _ _ _ h => h) (Or.inr ⟨zk16, rfl⟩) ?_ ?_; rotate_left
        ·exact zk94
        refine pure_ (i := 37) (N := some 47) (v := undef) (a' := ?_) #[true, true, true, true, true, true, true, true, true, true, true, true, true, true, true, true, true, true, true, true, true, true, true, true, true, true, true, true, true, true, true, true, true, true, true, true, true, true, false, false, false, false, false] rfl rfl (any_of HT_.out zk3) (fun _ _ _ h => h) (Or.inr ⟨zk16, rfl⟩) ?_ ?_; rotate_left
        ·exact zk94
        refine pure_ (i := 38) (N := some 48) (v := undef) (a' := ?_) #[true, true, true, true, true, true, true, true, true, true, true, true, true, true, true, true, true, true, true, true, true, true, true, true, true, true, true, true, true, true, true, true, true, true, true, true, true, true, true, false, false, false, false] rfl rfl (any_of HT_.out zk3) (fun _ _ _ h => h) (Or.inr ⟨zk16, rfl⟩) ?_ ?_; rotate_left
        ·exact zk94
        refine pure_ (i := 39) (N := some 49) (v := undef) (a' := ?_) #[true, true, true, true, true, true, true, true, true, true, true, true, true, true, true, true, true, true, true, true, true, true, true, true, true, true, true, true, true, true, true, true, true, true, true, true, true, true, true, true, false, false, false] rfl rfl (any_of HT_.out zk3) (fun _ _ _ h => h) (Or.inr ⟨zk16, rfl⟩) ?_ ?_; rotate_left
        ·exact zk94
        refine pure_ (i := 40) (N := some 50) (v := undef) (a' := ?_) #[true, true, true, true, true, true, true, true, true, true, true, true, true, true, true, true, true, true, true, true, true, true, true, true, true, true, true, true, true, true, true, true, true, true, true, true, true, true, true, true, true, false, false] rfl rfl (any_of HT_.out zk3) (fun _ _ _ h => h) (Or.inr ⟨zk16, rfl⟩) ?_ ?_; rotate_left
        ·exact zk94
        refine pure_ (i := 41) (N := some 51) (v := undef) (a' := ?_) #[true, true, true, true, true, true, true, true, true, true, true, true, true, true, true, true, true, true, true, true, true, true, true, true, true, true, true, true, true, true, true, true, true, true, true, true, true, true, true, true, true, true, false] rfl rfl (any_of HT_.out zk3) (fun _ _ _ h => h) (Or.inr ⟨zk16, rfl⟩) ?_ ?_; rotate_left
        ·exact zk94
        refine pure_ (i := 42) (N := some 52) (v := ?_) (a' := ?_) #[true, true, true, true, true, true, true, true, true, true, true, true, true, true, true, true, true, true, true, true, true, true, true, true, true, true, true, true, true, true, true, true, true, true, true, true, true, true, true, true, true, true, true] rfl rfl (any_of HT_.out zk3) (fun _ _ _ h => h) (Or.inl ⟨zk16, ?_⟩) ?_ ?_; rotate_left
        ·exact zk95
        rotate_left
        ·exact zk94
        refine done_ (done_of HT_.out zk3) ?_; (try go_wp2); go_ret
        exact ⟨zk4, zk1⟩
       ·rw [if_neg c8] at H
        have c8b0 : decide (64 < (((rd_T41 l0 x3_1).f1).size : Int)) = false := decide_eq_false c8; have c8b1 : decide (64 < ((rd_T41 l0 x3_1).f1).size) = false := decide_eq_false zk12; clear c8; by_cases c10 : x3_1 > 0
        ·rw [if_pos c10] at H
         have c10b0 : decide (0 < x3_1) = true := decide_eq_true c10; clear c10; obtain ⟨ji11, hji11⟩ : ∃ j_ : Int, (wrap64 (x3_1 - 1)) = j_ := ⟨_, rfl⟩
         replace H : (if 0 ≤ (ji11) then (if (ji11) < (l0.length : Int) then (if ((Op.bytesLess (((rd_T41 l0 (ji11)).f0).toList) (((rd_T41 l0 x3_1).f0).toList)) = true) then (varveref11_Check.l0 k1 l0 (wrap64 (x3_1 + 1))) else (some false)) else (none)) else (none)) = some r := by first | (rw [hji11] at H; exact H) | (simp only [hji11] at H ⊢; exact H)
         (try rw [hji11] at A4); have hji11w : (IntKind.i64.wrap (x3_1 - 1)) = ji11 := (i64_w _).trans hji11; by_cases c12 : 0 ≤ (ji11)
         ·rw [if_pos c12] at H
          have c12b0 : decide (0 ≤ (ji11)) = true := decide_eq_true c12; clear c12; by_cases c13 : (ji11) < (l0.length : Int)
          ·rw [if_pos c13] at H
           have c13b0 : decide ((ji11) < (l0.length : Int)) = true := decide_eq_true c13; clear c13; by_cases c14 : ((Op.bytesLess (((rd_T41 l0 (ji11)).f0).toList) (((rd_T41 l0 x3_1).f0).toList)) = true)
           ·rw [if_pos c14] at H
            have c14b0 : (Op.bytesLess (((rd_T41 l0 (ji11)).f0).toList) (((rd_T41 l0 x3_1).f0).toList)) = true := c14; clear c14; have H' := mkA H; clear H; (try go_wp2); have n0_ := mkA (below_drew1 HB.out); clear HB; have HB := n0_; clear n0_; have p140 : 0 ≤ (x3_1 : Int) := of_decide_eq_true zk2; have q140 : x3_1 < (l0.length : Int) := of_decide_eq_true zk2; obtain ⟨ad140, e140, hx140_0, hx140_1⟩ := at_T41 HR0.out x3_1 p140 q140; have hw140_1 := hx140_1; have hw140_0 := hx140_0; cases e140; replace hx140_0 := (HB.out.cell (World.block_lt_of_cell? w _ hx140_0)).trans hx140_0; replace hx140_1 := (HB.out.cell (World.block_lt_of_cell? w _ hx140_1)).trans hx140_1; replace p140 := eq_true p140; replace q140 := eq_true q140; have p142 : 0 ≤ (x3_1 : Int) := of_decide_eq_true zk2; have q142 : x3_1 < (l0.length : Int) := of_decide_eq_true zk2; obtain ⟨ad142, e142, hx142_0, hx142_1⟩ := at_T41 HR0.out x3_1 p142 q142; have hw142_1 := hx142_1; have hw142_0 := hx142_0; obtain rfl : ad140 = ad142 := (by injection e142)
            replace hx142_0 := (HB.out.cell (World.block_lt_of_cell? w _ hx142_0)).trans hx142_0; replace hx142_1 := (HB.out.cell (World.block_lt_of_cell? w _ hx142_1)).trans hx142_1; replace p142 := eq_true p142; replace q142 := eq_true q142; have p143 : 0 ≤ (x3_1 : Int) := of_decide_eq_true zk2; have q143 : x3_1 < (l0.length : Int) := of_decide_eq_true zk2; obtain ⟨ad143, e143, hx143_0, hx143_1⟩ := at_T41 HR0.out x3_1 p143 q143; have hw143_1 := hx143_1; have hw143_0 := hx143_0; obtain rfl : ad140 = ad143 := (by injection e143)
            replace hx143_0 := (HB.out.cell (World.block_lt_of_cell? w _ hx143_0)).trans hx143_0; replace hx143_1 := (HB.out.cell (World.block_lt_of_cell? w _ hx143_1)).trans hx143_1; replace p143 := eq_true p143; replace q143 := eq_true q143; have p144 : 0 ≤ (x3_1 : Int) := of_decide_eq_true zk2; have q144 : x3_1 < (l0.length : Int) := of_decide_eq_true zk2; obtain ⟨ad144, e144, hx144_0, hx144_1⟩ := at_T41 HR0.out x3_1 p144 q144; have hw144_1 := hx144_1; have hw144_0 := hx144_0; obtain rfl : ad140 = ad144 := (by injection e144)
            replace hx144_0 := (HB.out.cell (World.block_lt_of_cell? w _ hx144_0)).trans hx144_0; replace hx144_1 := (HB.out.cell (World.block_lt_of_cell? w _ hx144_1)).trans hx144_1; replace p144 := eq_true p144; replace q144 := eq_true q144; have p145 : 0 ≤ ((ji11) : Int) := of_decide_eq_true zk2; have q145 : (ji11) < (l0.length : Int) := of_decide_eq_true zk2; obtain ⟨ad145, e145, hx145_0, hx145_1⟩ := at_T41 HR0.out (ji11) p145 q145; have hw145_1 := hx145_1; have hw145_0 := hx145_0; obtain rfl : ad140 = ad145 := (by injection e145)
            replace hx145_0 := (HB.out.cell (World.block_lt_of_cell? w _ hx145_0)).trans hx145_0; replace hx145_1 := (HB.out.cell (World.block_lt_of_cell? w _ hx145_1)).trans hx145_1; replace p145 := eq_true p145; replace q145 := eq_true q145; refine start_ (n := 43) (S := fun w' => w'.cell? (ad140.add ((x3_1).toNat * 2)) = some (.string ((rd_T41 l0 x3_1).f0)) ∧ w'.cell? ⟨(ad140.add ((x3_1).toNat * 2)).block, (ad140.add ((x3_1).toNat * 2)).off + 1, none⟩ = some (.string ((rd_T41 l0 x3_1).f1)) ∧ w'.cell? (ad140.add ((x3_1).toNat * 2)) = some (.string ((rd_T41 l0 x3_1).f0)) ∧ w'.cell? ⟨(ad140.add ((x3_1).toNat * 2)).block, (ad140.add ((x3_1).toNat * 2)).off + 1, none⟩ = some (.string ((rd_T41 l0 x3_1).f1)) ∧ w'.cell? (ad140.add ((x3_1).toNat * 2)) = some (.string ((rd_T41 l0 x3_1).f0)) ∧ w'.cell? ⟨(ad140.add ((x3_1).toNat * 2)).block, (ad140.add ((x3_1).toNat * 2)).off + 1, none⟩ = some (.string ((rd_T41 l0 x3_1).f1)) ∧ w'.cell? (ad140.add ((x3_1).toNat * 2)) = some (.string ((rd_T41 l0 x3_1).f0)) ∧ w'.cell? ⟨(ad140.add ((x3_1).toNat * 2)).block, (ad140.add ((x3_1).toNat * 2)).off + 1, none⟩ = some (.string ((rd_T41 l0 x3_1).f1)) ∧ w'.cell? (ad140.add (((ji11)).toNat * 2)) = some (.string ((rd_T41 l0 (ji11)).f0)) ∧ w'.cell? ⟨(ad140.add (((ji11)).toNat * 2)).block, (ad140.add (((ji11)).toNat * 2)).off + 1, none⟩ = some (.string ((rd_T41 l0 (ji11)).f1))) (ds := []) #[false, false, false, false, false, false, false, false, false, false, false, false, false, false, false, false, false, false, false, false, false, false, false, false, false, false, false, false, false, false, false, false, false, false, false, false, false, false, false, false, false, false, false] zk3 rfl rfl ⟨((HB.out.cell (World.block_lt_of_cell? w _ hw140_0)).trans hw140_0), ((HB.out.cell (World.block_lt_of_cell? w _ hw140_1)).trans hw140_1), ((HB.out.cell (World.block_lt_of_cell? w _ hw142_0)).trans hw142_0), ((HB.out.cell (World.block_lt_of_cell? w _ hw142_1)).trans hw142_1), ((HB.out.cell (World.block_lt_of_cell? w _ hw143_0)).trans hw143_0), ((HB.out.cell (World.block_lt_of_cell? w _ hw143_1)).trans hw143_1), ((HB.out.cell (World.block_lt_of_cell? w _ hw144_0)).trans hw144_0), ((HB.out.cell (World.block_lt_of_cell? w _ hw144_1)).trans hw144_1), ((HB.out.cell (World.block_lt_of_cell? w _ hw145_0)).trans hw145_0), ((HB.out.cell (World.block_lt_of_cell? w _ hw145_1)).trans hw145_1)⟩ (fun hHeld => ?_); refine with_tabW varveref11_Check.tab4 varveref11_Check.bits4 (fun HT_ HW_ => ?_); generalize wr.drew = w15 at HB hx140_0 hx140_1 hx142_0 hx142_1 hx143_0 hx143_1 hx144_0 hx144_1 hx145_0 hx145_1 hHeld ⊢; refine pure_ (i := 0) (N := some 10) (v := ?_) (a' := ?_) #[true, false, false, false, false, false, false, false, false, false, false, false, false, false, false, false, false, false, false, false, false, false, false, false, false, false, false, false, false, false, false, false, false, false, false, false, false, false, false, false, false, false, false] rfl rfl (any_of HT_.out zk3) (fun _ _ _ h => h) (Or.inl ⟨zk16, ?_⟩) ?_ ?_; rotate_left
            ·exact zk95
            rotate_left
            ·exact zk94
            refine pure_ (i := 1) (N := some 11) (v := ?_) (a' := ?_) #[true, true, false, false, false, false, false, false, false, false, false, false, false, false, false, false, false, false, false, false, false, false, false, false, false, false, false, false, false, false, false, false, false, false, false, false, false, false, false, false, false, false, false] rfl rfl (any_of HT_.out zk3) (fun _ _ _ h => h) (Or.inl ⟨zk16, ?_⟩) ?_ ?_; rotate_left
            ·exact zk95
            rotate_left
            ·exact zk94
            refine pure_ (i := 2) (N := some 12) (v := ?_) (a' := ?_) #[true, true, true, false, false, false, false, false, false, false, false, false, false, false, false, false, false, false, false, false, false, false, false, false, false, false, false, false, false, false, false, false, false, false, false, false, false, false, false, false, false, false, false] rfl rfl (any_of HT_.out zk3) (fun _ _ _ h => h) (Or.inl ⟨zk16, ?_⟩) ?_ ?_; rotate_left
            ·exact zk95
            rotate_left
            ·exact zk94
            refine pure_ (i := 3) (N := some 13) (v := ?_) (a' := ?_) #[true, true, true, true, false, false, false, false, false, false, false, false, false, false, false, false, false, false, false, false, false, false, false, false, false, false, false, false, false, false, false, false, false, false, false, false, false, false, false, false, false, false, false] rfl rfl (any_of HT_.out zk3) (fun _ _ _ h => h) (Or.inl ⟨zk16, ?_⟩) ?_ ?_; rotate_left
            ·exact zk95
            rotate_left
            ·exact zk94
            refine take_ (i := 4) (N := some 14) (v := ?_) (a' := ?_) #[true, true, true, true, true, false, false, false, false, false, false, false, false, false, false, false, false, false, false, false, false, false, false, false, false, false, false, false, false, false, false, false, false, false, false, false, false, false, false, false, false, false, false] rfl rfl (take_ofW HT_.out HW_.out zk3) (fun _ _ _ h => h) (Or.inl ⟨zk16, ?_⟩) hHeld ?_ ?_; rotate_left
            ·exact zk96
            rotate_left
            ·exact zk94
            refine one_ (i := 5) (N := some 15) #[true, true, true, true, true, true, false, false, false, false, false, false, false, false, false, false, false, false, false, false, false, false, false, false, false, false, false, false, false, false, false, false, false, false, false, false, false, false, false, false, false, false, false] rfl rfl (one_of HT_.out zk3) zk40 (fun K hK => ?_); refine goes_ Try.func38 zk3 rfl #[.string ((rd_T41 l0 x3_1).f0)] zk16 rfl rfl zk5 ?_; (with_reducible refine (varveref11_Name.calls k1 ((rd_T41 l0 x3_1).f0) true _ A4.out).mono ?_); rintro e w' ⟨rfl, ⟨nd, rfl⟩⟩; refine ⟨_, rfl, ?_⟩; refine hK.out _ _ ⟨((HB.out.cell (World.block_lt_of_cell? w _ hw140_0)).trans hw140_0), ((HB.out.cell (World.block_lt_of_cell? w _ hw140_1)).trans hw140_1), ((HB.out.cell (World.block_lt_of_cell? w _ hw142_0)).trans hw142_0), ((HB.out.cell (World.block_lt_of_cell? w _ hw142_1)).trans hw142_1), ((HB.out.cell (World.block_lt_of_cell? w _ hw143_0)).trans hw143_0), ((HB.out.cell (World.block_lt_of_cell? w _ hw143_1)).trans hw143_1), ((HB.out.cell (World.block_lt_of_cell? w _ hw144_0)).trans hw144_0), ((HB.out.cell (World.block_lt_of_cell? w _ hw144_1)).trans hw144_1), ((HB.out.cell (World.block_lt_of_cell? w _ hw145_0)).trans hw145_0), ((HB.out.cell (World.block_lt_of_cell? w _ hw145_1)).trans hw145_1)⟩ (fun hHeld => ?_); clear hK K; refine norm_ (a' := ?_) ?_ ?_; rotate_left
            ·exact zk98
            refine pure_ (i := 6) (N := some 16) (v := ?_) (a' := ?_) #[true, true, true, true, true, true, true, false, false, false, false, false, false, false, false, false, false, false, false, false, false, false, false, false, false, false, false, false, false, false, false, false, false, false, false, false, false, false, false, false, false, false, false] rfl rfl (any_of HT_.out zk3) (fun _ _ _ h => h) (Or.inl ⟨zk16, ?_⟩) ?_ ?_; rotate_left
            ·exact zk95
            rotate_left
            ·exact zk94
            refine pure_ (i := 7) (N := some 17) (v := ?_) (a' := ?_) #[true, true, true, true, true, true, true, true, false, false, false, false, false, false, false, false, false, false, false, false, false, false, false, false, false, false, false, false, false, false, false, false, false, false, false, false, false, false, false, false, false, false, false] rfl rfl (any_of HT_.out zk3) (fun _ _ _ h => h) (Or.inl ⟨zk16, ?_⟩) ?_ ?_; rotate_left
            ·exact zk95
            rotate_left
            ·exact zk94
            refine pure_ (i := 8) (N := some 18) (v := ?_) (a' := ?_) #[true, true, true, true, true, true, true, true, true, false, false, false, false, false, false, false, false, false, false, false, false, false, false, false, false, false, false, false, false, false, false, false, false, false, false, false, false, false, false, false, false, false, false] rfl rfl (any_of HT_.out zk3) (fun _ _ _ h => h) (Or.inl ⟨zk16, ?_⟩) ?_ ?_; rotate_left
            ·exact zk95
            rotate_left
            ·exact zk94
            refine pure_ (i := 9) (N := some 19) (v := ?_) (a' := ?_) #[true, true, true, true, true, true, true, true, true, true, false, false, false, false, false, false, false, false, false, false, false, false, false, false, false, false, false, false, false, false, false, false, false, false, false, false, false, false, false, false, false, false, false] rfl rfl (any_of HT_.out zk3) (fun _ _ _ h => h) (Or.inl ⟨zk16, ?_⟩) ?_ ?_; rotate_left
            ·exact zk95
            rotate_left
            ·exact zk94
            refine pure_ (i := 10) (N := some 20) (v := ?_) (a' := ?_) #[true, true, true, true, true, true, true, true, true, true, true, false, false, false, false, false, false, false, false, false, false, false, false, false, false, false, false, false, false, false, false, false, false, false, false, false, false, false, false, false, false, false, false] rfl rfl (any_of HT_.out zk3) (fun _ _ _ h => h) (Or.inl ⟨zk16, ?_⟩) ?_ ?_; rotate_left
            ·exact zk95
            rotate_left
            ·exact zk94
            refine pure_ (i := 11) (N := some 21) (v := ?_) (a' := ?_) #[true, true, true, true, true, true, true, true, true, true, true, true, false, false, false, false, false, false, false, false, false, false, false, false, false, false, false, false, false, false, false, false, false, false, false, false, false, false, false, false, false, false, false] rfl rfl (any_of HT_.out zk3) (fun _ _ _ h => h) (Or.inl ⟨zk16, ?_⟩) ?_ ?_; rotate_left
            ·exact zk95
            rotate_left
            ·exact zk94
            refine take_ (i := 12) (N := some 22) (v := ?_) (a' := ?_) #[true, true, true, true, true, true, true, true, true, true, true, true, true, false, false, false, false, false, false, false, false, false, false, false, false, false, false, false, false, false, false, false, false, false, false, false, false, false, false, false, false, false, false] rfl rfl (take_ofW HT_.out HW_.out zk3) (fun _ _ _ h => h) (Or.inl ⟨zk16, ?_⟩) hHeld ?_ ?_; rotate_left
            ·exact zk96
            rotate_left
            ·exact zk94
            refine pure_ (i := 13) (N := some 23) (v := ?_) (a' := ?_) #[true, true, true, true, true, true, true, true, true, true, true, true, true, true, false, false, false, false, false, false, false, false, false, false, false, false, false, false, false, false, false, false, false, false, false, false, false, false, false, false, false, false, false] rfl rfl (any_of HT_.out zk3) (fun _ _ _ h => h) (Or.inl ⟨zk16, ?_⟩) ?_ ?_; rotate_left
            ·exact zk95
            rotate_left
            ·exact zk94
            refine pure_ (i := 14) (N := some 24) (v := ?_) (a' := ?_) #[true, true, true, true, true, true, true, true, true, true, true, true, true, true, true, false, false, false, false, false, false, false, false, false, false, false, false, false, false, false, false, false, false, false, false, false, false, false, false, false, false, false, false] rfl rfl (any_of HT_.out zk3) (fun _ _ _ h => h) (Or.inl ⟨zk16, ?_⟩) ?_ ?_; rotate_left
            ·exact zk95
            rotate_left
            ·exact zk94
            refine pure_ (i := 15) (N := some 25) (v := ?_) (a' := ?_) #[true, true, true, true, true, true, true, true, true, true, true, true, true, true, true, true, false, false, false, false, false, false, false, false, false, false, false, false, false, false, false, false, false, false, false, false, false, false, false, false, false, false, false] rfl rfl (any_of HT_.out zk3) (fun _ _ _ h => h) (Or.inl ⟨zk16, ?_⟩) ?_ ?_; rotate_left
            ·exact zk95
            rotate_left
            ·exact zk94
            refine pure_ (i := 16) (N := some 26) (v := ?_) (a' := ?_) #[true, true, true, true, true, true, true, true, true, true, true, true, true, true, true, true, true, false, false, false, false, false, false, false, false, false, false, false, false, false, false, false, false, false, false, false, false, false, false, false, false, false, false] rfl rfl (any_of HT_.out zk3) (fun _ _ _ h => h) (Or.inl ⟨zk16, ?_⟩) ?_ ?_; rotate_left
            ·exact zk95
            rotate_left
            ·exact zk94
            refine pure_ (i := 17) (N := some 27) (v := ?_) (a' := ?_) #[true, true, true, true, true, true, true, true, true, true, true, true, true, true, true, true, true, true, false, false, false, false, false, false, false, false, false, false, false, false, false, false, false, false, false, false, false, false, false, false, false, false, false] rfl rfl (any_of HT_.out zk3) (fun _ _ _ h => h) (Or.inl ⟨zk16, ?_⟩) ?_ ?_; rotate_left
            ·exact zk95
            rotate_left
            ·exact zk94
            refine pure_ (i := 18) (N := some 28) (v := ?_) (a' := ?_) #[true, true, true, true, true, true, true, true, true, true, true, true, true, true, true, true, true, true, true, false, false, false, false, false, false, false, false, false, false, false, false, false, false, false, false, false, false, false, false, false, false, false, false] rfl rfl (any_of HT_.out zk3) (fun _ _ _ h => h) (Or.inl ⟨zk16, ?_⟩) ?_ ?_; rotate_left
            ·exact zk95
            rotate_left
            ·exact zk94
            refine pure_ (i := 19) (N := some 29) (v := ?_) (a' := ?_) #[true, true, true, true, true, true, true, true, true, true, true, true, true, true, true, true, true, true, true, true, false, false, false, false, false, false, false, false, false, false, false, false, false, false, false, false, false, false, false, false, false, false, false] rfl rfl (any_of HT_.out zk3) (fun _ _ _ h => h) (Or.inl ⟨zk16, ?_⟩) ?_ ?_; rotate_left
            ·exact zk95
            rotate_left
            ·exact zk94
            refine pure_ (i := 20) (N := some 30) (v := ?_) (a' := ?_) #[true, true, true, true, true, true, true, true, true, true, true, true, true, true, true, true, true, true, true, true, true, false, false, false, false, false, false, false, false, false, false, false, false, false, false, false, false, false, false, false, false, false, false] rfl rfl (any_of HT_.out zk3) (fun _ _ _ h => h) (Or.inl ⟨zk16, ?_⟩) ?_ ?_; rotate_left
            ·exact zk95
            rotate_left
            ·exact zk94
            refine take_ (i := 21) (N := some 31) (v := ?_) (a' := ?_) #[true, true, true, true, true, true, true, true, true, true, true, true, true, true, true, true, true, true, true, true, true, true, false, false, false, false, false, false, false, false, false, false, false, false, false, false, false, false, false, false, false, false, false] rfl rfl (take_ofW HT_.out HW_.out zk3) (fun _ _ _ h => h) (Or.inl ⟨zk16, ?_⟩) hHeld ?_ ?_; rotate_left
            ·exact zk96
            rotate_left
            ·exact zk94
            refine pure_ (i := 22) (N := some 32) (v := ?_) (a' := ?_) #[true, true, true, true, true, true, true, true, true, true, true, true, true, true, true, true, true, true, true, true, true, true, true, false, false, false, false, false, false, false, false, false, false, false, false, false, false, false, false, false, false, false, false] rfl rfl (any_of HT_.out zk3) (fun _ _ _ h => h) (Or.inl ⟨zk16, ?_⟩) ?_ ?_; rotate_left
            ·exact zk95
            rotate_left
            ·exact zk94
            refine pure_ (i := 23) (N := some 33) (v := ?_) (a' := ?_) #[true, true, true, true, true, true, true, true, true, true, true, true, true, true, true, true, true, true, true, true, true, true, true, true, false, false, false, false, false, false, false, false, false, false, false, false, false, false, false, false, false, false, false] rfl rfl (any_of HT_.out zk3) (fun _ _ _ h => h) (Or.inl ⟨zk16, ?_⟩) ?_ ?_; rotate_left
            ·exact zk95
            rotate_left
            ·exact zk94
            refine pure_ (i := 24) (N := some 34) (v := ?_) (a' := ?_) #[true, true, true, true, true, true, true, true, true, true, true, true, true, true, true, true, true, true, true, true, true, true, true, true, true, false, false, false, false, false, false, false, false, false, false, false, false, false, false, false, false, false, false] rfl rfl (any_of HT_.out zk3) (fun _ _ _ h => h) (Or.inl ⟨zk16, ?_⟩) ?_ ?_; rotate_left
            ·exact zk95
            rotate_left
            ·exact zk94
            refine pure_ (i := 25) (N := some 35) (v := ?_) (a' := ?_) #[true, true, true, true, true, true, true, true, true, true, true, true, true, true, true, true, true, true, true, true, true, true, true, true, true, true, false, false, false, false, false, false, false, false, false, false, false, false, false, false, false, false, false] rfl rfl (any_of HT_.out zk3) (fun _ _ _ h => h) (Or.inl ⟨zk16, ?_⟩) ?_ ?_; rotate_left
            ·exact zk95
            rotate_left
            ·exact zk94
            refine pure_ (i := 26) (N := some 36) (v := ?_) (a' := ?_) #[true, true, true, true, true, true, true, true, true, true, true, true, true, true, true, true, true, true, true, true, true, true, true, true, true, true, true, false, false, false, false, false, false, false, false, false, false, false, false, false, false, false, false] rfl rfl (any_of HT_.out zk3) (fun _ _ _ h => h) (Or.inl ⟨zk16, ?_⟩) ?_ ?_; rotate_left
            ·exact zk95
            rotate_left
            ·exact zk94
            refine pure_ (i := 27) (N := some 37) (v := ?_) (a' := ?_) #[true, true, true, true, true, true, true, true, true, true, true, true, true, true, true, true, true, true, true, true, true, true, true, true, true, true, true, true, false, false, false, false, false, false, false, false, false, false, false, false, false, false, false] rfl rfl (any_of HT_.out zk3) (fun _ _ _ h => h) (Or.inl ⟨zk16, ?_⟩) ?_ ?_; rotate_left
            ·exact zk95
            rotate_left
            ·exact zk94
            refine pure_ (i := 28) (N := some 38) (v := ?_) (a' := ?_) #[true, true, true, true, true, true, true, true, true, true, true, true, true, true, true, true, true, true, true, true, true, true, true, true, true, true, true, true, true, false, false, false, false, false, false, false, false, false, false, false, false, false, false] rfl rfl (any_of HT_.out zk3) (fun _ _ _ h => h) (Or.inl ⟨zk16, ?_⟩) ?_ ?_; rotate_left
            ·exact zk95
            rotate_left
            ·exact zk94
            refine pure_ (i := 29) (N := some 39) (v := ?_) (a' := ?_) #[true, true, true, true, true, true, true, true, true, true, true, true, true, true, true, true, true, true, true, true, true, true, true, true, true, true, true, true, true, true, false, false, false, false, false, false, false, false, false, false, false, false, false] rfl rfl (any_of HT_.out zk3) (fun _ _ _ h => h) (Or.inl ⟨zk16, ?_⟩) ?_ ?_; rotate_left
            ·exact zk95
            rotate_left
            ·exact zk94
            refine pure_ (i := 30) (N := some 40) (v := ?_) (a' := ?_) #[true, true, true, true, true, true, true, true, true, true, true, true, true, true, true, true, true, true, true, true, true, true, true, true, true, true, true, true, true, true, true, false, false, false, false, false, false, false, false, false, false, false, false] rfl rfl (any_of HT_.out zk3) (fun _ _ _ h => h) (Or.inl ⟨zk16, ?_⟩) ?_ ?_; rotate_left
            ·exact zk95
            rotate_left
            ·exact zk94
            refine pure_ (i := 31) (N := some 41) (v := ?_) (a' := ?_) #[true, true, true, true, true, true, true, true, true, true, true, true, true, true, true, true, true, true, true, true, true, true, true, true, true, true, true, true, true, true, true, true, false, false, false, false, false, false, false, false, false, false, false] rfl rfl (any_of HT_.out zk3) (fun _ _ _ h => h) (Or.inl ⟨zk16, ?_⟩) ?_ ?_; rotate_left
            ·exact zk95
            rotate_left
            ·exact zk94
            refine pure_ (i := 32) (N := some 42) (v := ?_) (a' := ?_) #[true, true, true, true, true, true, true, true, true, true, true, true, true, true, true, true, true, true, true, true, true, true, true, true, true, true, true, true, true, true, true, true, true, false, false, false, false, false, false, false, false, false, false] rfl rfl (any_of HT_.out zk3) (fun _ _ _ h => h) (Or.inl ⟨zk16, ?_⟩) ?_ ?_; rotate_left
            ·exact zk95
            rotate_left
            ·exact zk94
            refine pure_ (i := 34) (N := some 44) (v := ?_) (a' := ?_) #[true, true, true, true, true, true, true, true, true, true, true, true, true, true, true, true, true, true, true, true, true, true, true, true, true, true, true, true, true, true, true, true, true, false, true, false, false, false, false, false, false, false, false] rfl rfl (any_of HT_.out zk3) (fun _ _ _ h => h) (Or.inl ⟨zk16, ?_⟩) ?_ ?_; rotate_left
            ·exact zk95
            rotate_left
            ·exact zk94
            refine pure_ (i := 35) (N := some 45) (v := ?_) (a' := ?_) #[true, true, true, true, true, true, true, true, true, true, true, true, true, true, true, true, true, true, true, true, true, true, true, true, true, true, true, true, true, true, true, true, true, false, true, true, false, false, false, false, false, false, false] rfl rfl (any_of HT_.out zk3) (fun _ _ _ h => h) (Or.inl ⟨zk16, ?_⟩) ?_ ?_; rotate_left
            ·exact zk95
            rotate_left
            ·exact zk94
            refine pure_ (i := 36) (N := some 46) (v := ?_) (a' := ?_) #[true, true, true, true, true, true, true, true, true, true, true, true, true, true, true, true, true, true, true, true, true, true, true, true, true, true, true, true, true, true, true, true, true, false, true, true, true, false, false, false, false, false, false] rfl rfl (any_of HT_.out zk3) (fun _ _ _ h => h) (Or.inl ⟨zk16, ?_⟩) ?_ ?_; rotate_left
            ·exact zk95
            rotate_left
            ·exact zk94
            refine pure_ (i := 37) (N := some 47) (v := ?_) (a' := ?_) #[true, true, true, true, true, true, true, true, true, true, true, true, true, true, true, true, true, true, true, true, true, true, true, true, true, true, true, true, true, true, true, true, true, false, true, true, true, true, false, false, false, false, false] rfl rfl (any_of HT_.out zk3) (fun _ _ _ h => h) (Or.inl ⟨zk16, ?_⟩) ?_ ?_; rotate_left
            ·exact zk95
            rotate_left
            ·exact zk94
            refine pure_ (i := 38) (N := some 48) (v := ?_) (a' := ?_) #[true, true, true, true, true, true, true, true, true, true, true, true, true, true, true, true, true, true, true, true, true, true, true, true, true, true, true, true, true, true, true, true, true, false, true, true, true, true, true, false, false, false, false] rfl rfl (any_of HT_.out zk3) (fun _ _ _ h => h) (Or.inl ⟨zk16, ?_⟩) ?_ ?_; rotate_left
            ·exact zk95
            rotate_left
            ·exact zk94
            refine take_ (i := 33) (N := some 43) (v := ?_) (a' := ?_) #[true, true, true, true, true, true, true, true, true, true, true, true, true, true, true, true, true, true, true, true, true, true, true, true, true, true, true, true, true, true, true, true, true, true, true, true, true, true, true, false, false, false, false] rfl rfl (take_ofW HT_.out HW_.out zk3) (fun _ _ _ h => h) (Or.inl ⟨zk16, ?_⟩) hHeld ?_ ?_; rotate_left
            ·exact zk96
            rotate_left
            ·exact zk94
            refine take_ (i := 39) (N := some 49) (v := ?_) (a' := ?_) #[true, true, true, true, true, true, true, true, true, true, true, true, true, true, true, true, true, true, true, true, true, true, true, true, true, true, true, true, true, true, true, true, true, true, true, true, true, true, true, true, false, false, false] rfl rfl (take_ofW HT_.out HW_.out zk3) (fun _ _ _ h => h) (Or.inl ⟨zk16, ?_⟩) hHeld ?_ ?_; rotate_left
            ·exact zk96
            rotate_left
            ·exact zk94
            refine pure_ (i := 40) (N := some 50) (v := ?_) (a' := ?_) #[true, true, true, true, true, true, true, true, true, true, true, true, true, true, true, true, true, true, true, true, true, true, true, true, true, true, true, true, true, true, true, true, true, true, true, true, true, true, true, true, true, false, false] rfl rfl (any_of HT_.out zk3) (fun _ _ _ h => h) (Or.inl ⟨zk16, ?_⟩) ?_ ?_; rotate_left
            ·exact zk95
            rotate_left
            ·exact zk94
            refine pure_ (i := 41) (N := some 51) (v := ?_) (a' := ?_) #[true, true, true, true, true, true, true, true, true, true, true, true, true, true, true, true, true, true, true, true, true, true, true, true, true, true, true, true, true, true, true, true, true, true, true, true, true, true, true, true, true, true, false] rfl rfl (any_of HT_.out zk3) (fun _ _ _ h => h) (Or.inl ⟨zk16, ?_⟩) ?_ ?_; rotate_left
            ·exact zk95
            rotate_left
            ·exact zk94
            refine pure_ (i := 42) (N := some 52) (v := ?_) (a' := ?_) #[true, true, true, true, true, true, true, true, true, true, true, true, true, true, true, true, true, true, true, true, true, true, true, true, true, true, true, true, true, true, true, true, true, true, true, true, true, true, true, true, true, true, true] rfl rfl (any_of HT_.out zk3) (fun _ _ _ h => h) (Or.inl ⟨zk16, ?_⟩) ?_ ?_; rotate_left
            ·exact zk95
            rotate_left
            ·exact zk94
            refine done_ (done_of HT_.out zk3) ?_; (try go_wp2); go_roundg k1
            case measure => have := HK1.out; omega
            case rel => exact ⟨(wrap64 (x3_1 + 1)), zk6, H', ⟨zk42⟩, ⟨zk1⟩⟩
           ·rw [if_neg c14] at H
            have c14b0 : (Op.bytesLess (((rd_T41 l0 (ji11)).f0).toList) (((rd_T41 l0 x3_1).f0).toList)) = false := by simpa using c14
            clear c14; obtain rfl := Option.some.inj H; (try go_wp2); have n0_ := mkA (below_drew1 HB.out); clear HB; have HB := n0_; clear n0_; have p140 : 0 ≤ (x3_1 : Int) := of_decide_eq_true zk2; have q140 : x3_1 < (l0.length : Int) := of_decide_eq_true zk2; obtain ⟨ad140, e140, hx140_0, hx140_1⟩ := at_T41 HR0.out x3_1 p140 q140; have hw140_1 := hx140_1; have hw140_0 := hx140_0; cases e140; replace hx140_0 := (HB.out.cell (World.block_lt_of_cell? w _ hx140_0)).trans hx140_0; replace hx140_1 := (HB.out.cell (World.block_lt_of_cell? w _ hx140_1)).trans hx140_1; replace p140 := eq_true p140; replace q140 := eq_true q140; have p142 : 0 ≤ (x3_1 : Int) := of_decide_eq_true zk2; have q142 : x3_1 < (l0.length : Int) := of_decide_eq_true zk2; obtain ⟨ad142, e142, hx142_0, hx142_1⟩ := at_T41 HR0.out x3_1 p142 q142; have hw142_1 := hx142_1; have hw142_0 := hx142_0; obtain rfl : ad140 = ad142 := (by injection e142)
            replace hx142_0 := (HB.out.cell (World.block_lt_of_cell? w _ hx142_0)).trans hx142_0; replace hx142_1 := (HB.out.cell (World.block_lt_of_cell? w _ hx142_1)).trans hx142_1; replace p142 := eq_true p142; replace q142 := eq_true q142; have p143 : 0 ≤ (x3_1 : Int) := of_decide_eq_true zk2; have q143 : x3_1 < (l0.length : Int) := of_decide_eq_true zk2; obtain ⟨ad143, e143, hx143_0, hx143_1⟩ := at_T41 HR0.out x3_1 p143 q143; have hw143_1 := hx143_1; have hw143_0 := hx143_0; obtain rfl : ad140 = ad143 := (by injection e143)
            replace hx143_0 := (HB.out.cell (World.block_lt_of_cell? w _ hx143_0)).trans hx143_0; replace hx143_1 := (HB.out.cell (World.block_lt_of_cell? w _ hx143_1)).trans hx143_1; replace p143 := eq_true p143; replace q143 := eq_true q143; have p144 : 0 ≤ (x3_1 : Int) := of_decide_eq_true zk2; have q144 : x3_1 < (l0.length : Int) := of_decide_eq_true zk2; obtain ⟨ad144, e144, hx144_0, hx144_1⟩ := at_T41 HR0.out x3_1 p144 q144; have hw144_1 := hx144_1; have hw144_0 := hx144_0; obtain rfl : ad140 = ad144 := (by injection e144)
            replace hx144_0 := (HB.out.cell (World.block_lt_of_cell? w _ hx144_0)).trans hx144_0; replace hx144_1 := (HB.out.cell (World.block_lt_of_cell? w _ hx144_1)).trans hx144_1; replace p144 := eq_true p144; replace q144 := eq_true q144; have p145 : 0 ≤ ((ji11) : Int) := of_decide_eq_true zk2; have q145 : (ji11) < (l0.length : Int) := of_decide_eq_true zk2; obtain ⟨ad145, e145, hx145_0, hx145_1⟩ := at_T41 HR0.out (ji11) p145 q145; have hw145_1 := hx145_1; have hw145_0 := hx145_0; obtain rfl : ad140 = ad145 := (by injection e145)
            replace hx145_0 := (HB.out.cell (World.block_lt_of_cell? w _ hx145_0)).trans hx145_0; replace hx145_1 := (HB.out.cell (World.block_lt_of_cell? w _ hx145_1)).trans hx145_1; replace p145 := eq_true p145; replace q145 := eq_true q145; refine start_ (n := 43) (S := fun w' => w'.cell? (ad140.add ((x3_1).toNat * 2)) = some (.string ((rd_T41 l0 x3_1).f0)) ∧ w'.cell? ⟨(ad140.add ((x3_1).toNat * 2)).block, (ad140.add ((x3_1).toNat * 2)).off + 1, none⟩ = some (.string ((rd_T41 l0 x3_1).f1)) ∧ w'.cell? (ad140.add ((x3_1).toNat * 2)) = some (.string ((rd_T41 l0 x3_1).f0)) ∧ w'.cell? ⟨(ad140.add ((x3_1).toNat * 2)).block, (ad140.add ((x3_1).toNat * 2)).off + 1, none⟩ = some (.string ((rd_T41 l0 x3_1).f1)) ∧ w'.cell? (ad140.add ((x3_1).toNat * 2)) = some (.string ((rd_T41 l0 x3_1).f0)) ∧ w'.cell? ⟨(ad140.add ((x3_1).toNat * 2)).block, (ad140.add ((x3_1).toNat * 2)).off + 1, none⟩ = some (.string ((rd_T41 l0 x3_1).f1)) ∧ w'.cell? (ad140.add ((x3_1).toNat * 2)) = some (.string ((rd_T41 l0 x3_1).f0)) ∧ w'.cell? ⟨(ad140.add ((x3_1).toNat * 2)).block, (ad140.add ((x3_1).toNat * 2)).off + 1, none⟩ = some (.string ((rd_T41 l0 x3_1).f1)) ∧ w'.cell? (ad140.add (((ji11)).toNat * 2)) = some (.string ((rd_T41 l0 (ji11)).f0)) ∧ w'.cell? ⟨(ad140.add (((ji11)).toNat * 2)).block, (ad140.add (((ji11)).toNat * 2)).off + 1, none⟩ = some (.string ((rd_T41 l0 (ji11)).f1))) (ds := []) #[false, false, false, false, false, false, false, false, false, false, false, false, false, false, false, false, false, false, false, false, false, false, false, false, false, false, false, false, false, false, false, false, false, false, false, false, false, false, false, false, false, false, false] zk3 rfl rfl ⟨((HB.out.cell (World.block_lt_of_cell? w _ hw140_0)).trans hw140_0), ((HB.out.cell (World.block_lt_of_cell? w _ hw140_1)).trans hw140_1), ((HB.out.cell (World.block_lt_of_cell? w _ hw142_0)).trans hw142_0), ((HB.out.cell (World.block_lt_of_cell? w _ hw142_1)).trans hw142_1), ((HB.out.cell (World.block_lt_of_cell? w _ hw143_0)).trans hw143_0), ((HB.out.cell (World.block_lt_of_cell? w _ hw143_1)).trans hw143_1), ((HB.out.cell (World.block_lt_of_cell? w _ hw144_0)).trans hw144_0), ((HB.out.cell (World.block_lt_of_cell? w _ hw144_1)).trans hw144_1), ((HB.out.cell (World.block_lt_of_cell? w _ hw145_0)).trans hw145_0), ((HB.out.cell (World.block_lt_of_cell? w _ hw145_1)).trans hw145_1)⟩ (fun hHeld => ?_); refine with_tabW varveref11_Check.tab4 varveref11_Check.bits4 (fun HT_ HW_ => ?_); generalize wr.drew = w16 at HB hx140_0 hx140_1 hx142_0 hx142_1 hx143_0 hx143_1 hx144_0 hx144_1 hx145_0 hx145_1 hHeld ⊢; refine pure_ (i := 0) (N := some 10) (v := ?_) (a' := ?_) #[true, false, false, false, false, false, false, false, false, false, false, false, false, false, false, false, false, false, false, false, false, false, false, false, false, false, false, false, false, false, false, false, false, false, false, false, false, false, false, false, false, false, false] rfl rfl (any_of HT_.out zk3) (fun _ _ _ h => h) (Or.inl ⟨zk16, ?_⟩) ?_ ?_; rotate_left
            ·exact zk95
            rotate_left
            ·exact zk94
            refine pure_ (i := 1) (N := some 11) (v := ?_) (a' := ?_) #[true, true, false, false, false, false, false, false, false, false, false, false, false, false, false, false, false, false, false, false, false, false, false, false, false, false, false, false, false, false, false, false, false, false, false, false, false, false, false, false, false, false, false] rfl rfl (any_of HT_.out zk3) (fun _ _ _ h => h) (Or.inl ⟨zk16, ?_⟩) ?_ ?_; rotate_left
            ·exact zk95
            rotate_left
            ·exact zk94
            refine pure_ (i := 2) (N := some 12) (v := ?_) (a' := ?_) #[true, true, true, false, false, false, false, false, false, false, false, false, false, false, false, false, false, false, false, false, false, false, false, false, false, false, false, false, false, false, false, false, false, false, false, false, false, false, false, false, false, false, false] rfl rfl (any_of HT_.out zk3) (fun _ _ _ h => h) (Or.inl ⟨zk16, ?_⟩) ?_ ?_; rotate_left
            ·exact zk95
            rotate_left
            ·exact zk94
            refine pure_ (i := 3) (N := some 13) (v := ?_) (a' := ?_) #[true, true, true, true, false, false, false, false, false, false, false, false, false, false, false, false, false, false, false, false, false, false, false, false, false, false, false, false, false, false, false, false, false, false, false, false, false, false, false, false, false, false, false] rfl rfl (any_of HT_.out zk3) (fun _ _ _ h => h) (Or.inl ⟨zk16, ?_⟩) ?_ ?_; rotate_left
            ·exact zk95
            rotate_left
            ·exact zk94
            refine take_ (i := 4) (N := some 14) (v := ?_) (a' := ?_) #[true, true, true, true, true, false, false, false, false, false, false, false, false, false, false, false, false, false, false, false, false, false, false, false, false, false, false, false, false, false, false, false, false, false, false, false, false, false, false, false, false, false, false] rfl rfl (take_ofW HT_.out HW_.out zk3) (fun _ _ _ h => h) (Or.inl ⟨zk16, ?_⟩) hHeld ?_ ?_; rotate_left
            ·exact zk96
            rotate_left
            ·exact zk94
            refine one_ (i := 5) (N := some 15) #[true, true, true, true, true, true, false, false, false, false, false, false, false, false, false, false, false, false, false, false, false, false, false, false, false, false, false, false, false, false, false, false, false, false, false, false, false, false, false, false, false, false, false] rfl rfl (one_of HT_.out zk3) zk40 (fun K hK => ?_); refine goes_ Try.func38 zk3 rfl #[.string ((rd_T41 l0 x3_1).f0)] zk16 rfl rfl zk5 ?_; (with_reducible refine (varveref11_Name.calls k1 ((rd_T41 l0 x3_1).f0) true _ A4.out).mono ?_); rintro e w' ⟨rfl, ⟨nd, rfl⟩⟩; refine ⟨_, rfl, ?_⟩; refine hK.out _ _ ⟨((HB.out.cell (World.block_lt_of_cell? w _ hw140_0)).trans hw140_0), ((HB.out.cell (World.block_lt_of_cell? w _ hw140_1)).trans hw140_1), ((HB.out.cell (World.block_lt_of_cell? w _ hw142_0)).trans hw142_0), ((HB.out.cell (World.block_lt_of_cell? w _ hw142_1)).trans hw142_1), ((HB.out.cell (World.block_lt_of_cell? w _ hw143_0)).trans hw143_0), ((HB.out.cell (World.block_lt_of_cell? w _ hw143_1)).trans hw143_1), ((HB.out.cell (World.block_lt_of_cell? w _ hw144_0)).trans hw144_0), ((HB.out.cell (World.block_lt_of_cell? w _ hw144_1)).trans hw144_1), ((HB.out.cell (World.block_lt_of_cell? w _ hw145_0)).trans hw145_0), ((HB.out.cell (World.block_lt_of_cell? w _ hw145_1)).trans hw145_1)⟩ (fun hHeld => ?_); clear hK K; refine norm_ (a' := ?_) ?_ ?_; rotate_left
            ·exact zk98
            refine pure_ (i := 6) (N := some 16) (v := ?_) (a' := ?_) #[true, true, true, true, true, true, true, false, false, false, false, false, false, false, false, false, false, false, false, false, false, false, false, false, false, false, false, false, false, false, false, false, false, false, false, false, false, false, false, false, false, false, false] rfl rfl (any_of HT_.out zk3) (fun _ _ _ h => h) (Or.inl ⟨zk16, ?_⟩) ?_ ?_; rotate_left
            ·exact zk95
            rotate_left
            ·exact zk94
            refine pure_ (i := 7) (N := some 17) (v := ?_) (a' := ?_) #[true, true, true, true, true, true, true, true, false, false, false, false, false, false, false, false, false, false, false, false, false, false, false, false, false, false, false, false, false, false, false, false, false, false, false, false, false, false, false, false, false, false, false] rfl rfl (any_of HT_.out zk3) (fun _ _ _ h => h) (Or.inl ⟨zk16, ?_⟩) ?_ ?_; rotate_left
            ·exact zk95
            rotate_left
            ·exact zk94
            refine pure_ (i := 8) (N := some 18) (v := ?_) (a' := ?_) #[true, true, true, true, true, true, true, true, true, false, false, false, false, false, false, false, false, false, false, false, false, false, false, false, false, false, false, false, false, false, false, false, false, false, false, false, false, false, false, false, false, false, false] rfl rfl (any_of HT_.out zk3) (fun _ _ _ h => h) (Or.inl ⟨zk16, ?_⟩) ?_ ?_; rotate_left
            ·exact zk95
            rotate_left
            ·exact zk94
            refine pure_ (i := 9) (N := some 19) (v := ?_) (a' := ?_) #[true, true, true, true, true, true, true, true, true, true, false, false, false, false, false, false, false, false, false, false, false, false, false, false, false, false, false, false, false, false, false, false, false, false, false, false, false, false, false, false, false, false, false] rfl rfl (any_of HT_.out zk3) (fun _ _ _ h => h) (Or.inl ⟨zk16, ?_⟩) ?_ ?_; rotate_left
            ·exact zk95
            rotate_left
            ·exact zk94
            refine pure_ (i := 10) (N := some 20) (v := ?_) (a' := ?_) #[true, true, true, true, true, true, true, true, true, true, true, false, false, false, false, false, false, false, false, false, false, false, false, false, false, false, false, false, false, false, false, false, false, false, false, false, false, false, false, false, false, false, false] rfl rfl (any_of HT_.out zk3) (fun _ _ _ h => h) (Or.inl ⟨zk16, ?_⟩) ?_ ?_; rotate_left
            ·exact zk95
            rotate_left
            ·exact zk94
            refine pure_ (i := 11) (N := some 21) (v := ?_) (a' := ?_) #[true, true, true, true, true, true, true, true, true, true, true, true, false, false, false, false, false, false, false, false, false, false, false, false, false, false, false, false, false, false, false, false, false, false, false, false, false, false, false, false, false, false, false] rfl rfl (any_of HT_.out zk3) (fun _ _ _ h => h) (Or.inl ⟨zk16, ?_⟩) ?_ ?_; rotate_left
            ·exact zk95
            rotate_left
            ·exact zk94
            refine take_ (i := 12) (N := some 22) (v := ?_) (a' := ?_) #[true, true, true, true, true, true, true, true, true, true, true, true, true, false, false, false, false, false, false, false, false, false, false, false, false, false, false, false, false, false, false, false, false, false, false, false, false, false, false, false, false, false, false] rfl rfl (take_ofW HT_.out HW_.out zk3) (fun _ _ _ h => h) (Or.inl ⟨zk16, ?_⟩) hHeld ?_ ?_; rotate_left
            ·exact zk96
            rotate_left
            ·exact zk94
            refine pure_ (i := 13) (N := some 23) (v := ?_) (a' := ?_) #[true, true, true, true, true, true, true, true, true, true, true, true, true, true, false, false, false, false, false, false, false, false, false, false, false, false, false, false, false, false, false, false, false, false, false, false, false, false, false, false, false, false, false] rfl rfl (any_of HT_.out zk3) (fun _ _ _ h => h) (Or.inl ⟨zk16, ?_⟩) ?_ ?_; rotate_left
            ·exact zk95
            rotate_left
            ·exact zk94
            refine pure_ (i := 14) (N := some 24) (v := ?_) (a' := ?_) #[true, true, true, true, true, true, true, true, true, true, true, true, true, true, true, false, false, false, false, false, false, false, false, false, false, false, false, false, false, false, false, false, false, false, false, false, false, false, false, false, false, false, false] rfl rfl (any_of HT_.out zk3) (fun _ _ _ h => h) (Or.inl ⟨zk16, ?_⟩) ?_ ?_; rotate_left
            ·exact zk95
            rotate_left
            ·exact zk94
            refine pure_ (i := 15) (N := some 25) (v := ?_) (a' := ?_) #[true, true, true, true, true, true, true, true, true, true, true, true, true, true, true, true, false, false, false, false, false, false, false, false, false, false, false, false, false, false, false, false, false, false, false, false, false, false, false, false, false, false, false] rfl rfl (any_of HT_.out zk3) (fun _ _ _ h => h) (Or.inl ⟨zk16, ?_⟩) ?_ ?_; rotate_left
            ·exact zk95
            rotate_left
            ·exact zk94
            refine pure_ (i := 16) (N := some 26) (v := ?_) (a' := ?_) #[true, true, true, true, true, true, true, true, true, true, true, true, true, true, true, true, true, false, false, false, false, false, false, false, false, false, false, false, false, false, false, false, false, false, false, false, false, false, false, false, false, false, false] rfl rfl (any_of HT_.out zk3) (fun _ _ _ h => h) (Or.inl ⟨zk16, ?_⟩) ?_ ?_; rotate_left
            ·exact zk95
            rotate_left
            ·exact zk94
            refine pure_ (i := 17) (N := some 27) (v := ?_) (a' := ?_) #[true, true, true, true, true, true, true, true, true, true, true, true, true, true, true, true, true, true, false, false, false, false, false, false, false, false, false, false, false, false, false, false, false, false, false, false, false, false, false, false, false, false, false] rfl rfl (any_of HT_.out zk3) (fun _ _ _ h => h) (Or.inl ⟨zk16, ?_⟩) ?_ ?_; rotate_left
            ·exact zk95
            rotate_left
            ·exact zk94
            refine pure_ (i := 18) (N := some 28) (v := ?_) (a' := ?_) #[true, true, true, true, true, true, true, true, true, true, true, true, true, true, true, true, true, true, true, false, false, false, false, false, false, false, false, false, false, false, false, false, false, false, false, false, false, false, false, false, false, false, false] rfl rfl (any_of HT_.out zk3) (fun _ _ _ h => h) (Or.inl ⟨zk16, ?_⟩) ?_ ?_; rotate_left
            ·exact zk95
            rotate_left
            ·exact zk94
            refine pure_ (i := 19) (N := some 29) (v := ?_) (a' := ?_) #[true, true, true, true, true, true, true, true, true, true, true, true, true, true, true, true, true, true, true, true, false, false, false, false, false, false, false, false, false, false, false, false, false, false, false, false, false, false, false, false, false, false, false] rfl rfl (any_of HT_.out zk3) (fun _ _ _ h => h) (Or.inl ⟨zk16, ?_⟩) ?_ ?_; rotate_left
            ·exact zk95
            rotate_left
            ·exact zk94
            refine pure_ (i := 20) (N := some 30) (v := ?_) (a' := ?_) #[true, true, true, true, true, true, true, true, true, true, true, true, true, true, true, true, true, true, true, true, true, false, false, false, false, false, false, false, false, false, false, false, false, false, false, false, false, false, false, false, false, false, false] rfl rfl (any_of HT_.out zk3) (fun _ _ _ h => h) (Or.inl ⟨zk16, ?_⟩) ?_ ?_; rotate_left
            ·exact zk95
            rotate_left
            ·exact zk94
            refine take_ (i := 21) (N := some 31) (v := ?_) (a' := ?_) #[true, true, true, true, true, true, true, true, true, true, true, true, true, true, true, true, true, true, true, true, true, true, false, false, false, false, false, false, false, false, false, false, false, false, false, false, false, false, false, false, false, false, false] rfl rfl (take_ofW HT_.out HW_.out zk3) (fun _ _ _ h => h) (Or.inl ⟨zk16, ?_⟩) hHeld ?_ ?_; rotate_left
            ·exact zk96
            rotate_left
            ·exact zk94
            refine pure_ (i := 22) (N := some 32) (v := ?_) (a' := ?_) #[true, true, true, true, true, true, true, true, true, true, true, true, true, true, true, true, true, true, true, true, true, true, true, false, false, false, false, false, false, false, false, false, false, false, false, false, false, false, false, false, false, false, false] rfl rfl (any_of HT_.out zk3) (fun _ _ _ h => h) (Or.inl ⟨zk16, ?_⟩) ?_ ?_; rotate_left
            ·exact zk95
            rotate_left
            ·exact zk94
            refine pure_ (i := 23) (N := some 33) (v := ?_) (a' := ?_) #[true, true, true, true, true, true, true, true, true, true, true, true, true, true, true, true, true, true, true, true, true, true, true, true, false, false, false, false, false, false, false, false, false, false, false, false, false, false, false, false, false, false, false] rfl rfl (any_of HT_.out zk3) (fun _ _ _ h => h) (Or.inl ⟨zk16, ?_⟩) ?_ ?_; rotate_left
            ·exact zk95
            rotate_left
            ·exact zk94
            refine pure_ (i := 24) (N := some 34) (v := ?_) (a' := ?_) #[true, true, true, true, true, true, true, true, true, true, true, true, true, true, true, true, true, true, true, true, true, true, true, true, true, false, false, false, false, false, false, false, false, false, false, false, false, false, false, false, false, false, false] rfl rfl (any_of HT_.out zk3) (fun _ _ _ h => h) (Or.inl ⟨zk16, ?_⟩) ?_ ?_; rotate_left
            ·exact zk95
            rotate_left
            ·exact zk94
            refine pure_ (i := 25) (N := some 35) (v := ?_) (a' := ?_) #[true, true, true, true, true, true, true, true, true, true, true, true, true, true, true, true, true, true, true, true, true, true, true, true, true, true, false, false, false, false, false, false, false, false, false, false, false, false, false, false, false, false, false] rfl rfl (any_of HT_.out zk3) (fun _ _ _ h => h) (Or.inl ⟨zk16, ?_⟩) ?_ ?_; rotate_left
            ·exact zk95
            rotate_left
            ·exact zk94
            refine pure_ (i := 26) (N := some 36) (v := ?_) (a' := ?_) #[true, true, true, true, true, true, true, true, true, true, true, true, true, true, true, true, true, true, true, true, true, true, true, true, true, true, true, false, false, false, false, false, false, false, false, false, false, false, false, false, false, false, false] rfl rfl (any_of HT_.out zk3) (fun _ _ _ h => h) (Or.inl ⟨zk16, ?_⟩) ?_ ?_; rotate_left
            ·exact zk95
            rotate_left
            ·exact zk94
            refine pure_ (i := 27) (N := some 37) (v := ?_) (a' := ?_) #[true, true, true, true, true, true, true, true, true, true, true, true, true, true, true, true, true, true, true, true, true, true, true, true, true, true, true, true, false, false, false, false, false, false, false, false, false, false, false, false, false, false, false] rfl rfl (any_of HT_.out zk3) (fun _ _ _ h => h) (Or.inl ⟨zk16, ?_⟩) ?_ ?_; rotate_left
            ·exact zk95
            rotate_left
            ·exact zk94
            refine pure_ (i := 28) (N := some 38) (v := ?_) (a' := ?_) #[true, true, true, true, true, true, true, true, true, true, true, true, true, true, true, true, true, true, true, true, true, true, true, true, true, true, true, true, true, false, false, false, false, false, false, false, false, false, false, false, false, false, false] rfl rfl (any_of HT_.out zk3) (fun _ _ _ h => h) (Or.inl ⟨zk16, ?_⟩) ?_ ?_; rotate_left
            ·exact zk95
            rotate_left
            ·exact zk94
            refine pure_ (i := 29) (N := some 39) (v := ?_) (a' := ?_) #[true, true, true, true, true, true, true, true, true, true, true, true, true, true, true, true, true, true, true, true, true, true, true, true, true, true, true, true, true, true, false, false, false, false, false, false, false, false, false, false, false, false, false] rfl rfl (any_of HT_.out zk3) (fun _ _ _ h => h) (Or.inl ⟨zk16, ?_⟩) ?_ ?_; rotate_left
            ·exact zk95
            rotate_left
            ·exact zk94
            refine pure_ (i := 30) (N := some 40) (v := ?_) (a' := ?_) #[true, true, true, true, true, true, true, true, true, true, true, true, true, true, true, true, true, true, true, true, true, true, true, true, true, true, true, true, true, true, true, false, false, false, false, false, false, false, false, false, false, false, false] rfl rfl (any_of HT_.out zk3) (fun _ _ _ h => h) (Or.inl ⟨zk16, ?_⟩) ?_ ?_; rotate_left
            ·exact zk95
            rotate_left
            ·exact zk94
            refine pure_ (i := 31) (N := some 41) (v := ?_) (a' := ?_) #[true, true, true, true, true, true, true, true, true, true, true, true, true, true, true, true, true, true, true, true, true, true, true, true, true, true, true, true, true, true, true, true, false, false, false, false, false, false, false, false, false, false, false] rfl rfl (any_of HT_.out zk3) (fun _ _ _ h => h) (Or.inl ⟨zk16, ?_⟩) ?_ ?_; rotate_left
            ·exact zk95
            rotate_left
            ·exact zk94
            refine pure_ (i := 32) (N := some 42) (v := ?_) (a' := ?_) #[true, true, true, true, true, true, true, true, true, true, true, true, true, true, true, true, true, true, true, true, true, true, true, true, true, true, true, true, true, true, true, true, true, false, false, false, false, false, false, false, false, false, false] rfl rfl (any_of HT_.out zk3) (fun _ _ _ h => h) (Or.inl ⟨zk16, ?_⟩) ?_ ?_; rotate_left
            ·exact zk95
            rotate_left
            ·exact zk94
            refine pure_ (i := 34) (N := some 44) (v := ?_) (a' := ?_) #[true, true, true, true, true, true, true, true, true, true, true, true, true, true, true, true, true, true, true, true, true, true, true, true, true, true, true, true, true, true, true, true, true, false, true, false, false, false, false, false, false, false, false] rfl rfl (any_of HT_.out zk3) (fun _ _ _ h => h) (Or.inl ⟨zk16, ?_⟩) ?_ ?_; rotate_left
            ·exact zk95
            rotate_left
            ·exact zk94
            refine pure_ (i := 35) (N := some 45) (v := ?_) (a' := ?_) #[true, true, true, true, true, true, true, true, true, true, true, true, true, true, true, true, true, true, true, true, true, true, true, true, true, true, true, true, true, true, true, true, true, false, true, true, false, false, false, false, false, false, false] rfl rfl (any_of HT_.out zk3) (fun _ _ _ h => h) (Or.inl ⟨zk16, ?_⟩) ?_ ?_; rotate_left
            ·exact zk95
            rotate_left
            ·exact zk94
            refine pure_ (i := 36) (N := some 46) (v := ?_) (a' := ?_) #[true, true, true, true, true, true, true, true, true, true, true, true, true, true, true, true, true, true, true, true, true, true, true, true, true, true, true, true, true, true, true, true, true, false, true, true, true, false, false, false, false, false, false] rfl rfl (any_of HT_.out zk3) (fun _ _ _ h => h) (Or.inl ⟨zk16, ?_⟩) ?_ ?_; rotate_left
            ·exact zk95
            rotate_left
            ·exact zk94
            refine pure_ (i := 37) (N := some 47) (v := ?_) (a' := ?_) #[true, true, true, true, true, true, true, true, true, true, true, true, true, true, true, true, true, true, true, true, true, true, true, true, true, true, true, true, true, true, true, true, true, false, true, true, true, true, false, false, false, false, false] rfl rfl (any_of HT_.out zk3) (fun _ _ _ h => h) (Or.inl ⟨zk16, ?_⟩) ?_ ?_; rotate_left
            ·exact zk95
            rotate_left
            ·exact zk94
            refine pure_ (i := 38) (N := some 48) (v := ?_) (a' := ?_) #[true, true, true, true, true, true, true, true, true, true, true, true, true, true, true, true, true, true, true, true, true, true, true, true, true, true, true, true, true, true, true, true, true, false, true, true, true, true, true, false, false, false, false] rfl rfl (any_of HT_.out zk3) (fun _ _ _ h => h) (Or.inl ⟨zk16, ?_⟩) ?_ ?_; rotate_left
            ·exact zk95
            rotate_left
            ·exact zk94
            refine take_ (i := 33) (N := some 43) (v := ?_) (a' := ?_) #[true, true, true, true, true, true, true, true, true, true, true, true, true, true, true, true, true, true, true, true, true, true, true, true, true, true, true, true, true, true, true, true, true, true, true, true, true, true, true, false, false, false, false] rfl rfl (take_ofW HT_.out HW_.out zk3) (fun _ _ _ h => h) (Or.inl ⟨zk16, ?_⟩) hHeld ?_ ?_; rotate_left
            ·exact zk96
            rotate_left
            ·exact zk94
            refine take_ (i := 39) (N := some 49) (v := ?_) (a' := ?_) #[true, true, true, true, true, true, true, true, true, true, true, true, true, true, true, true, true, true, true, true, true, true, true, true, true, true, true, true, true, true, true, true, true, true, true, true, true, true, true, true, false, false, false] rfl rfl (take_ofW HT_.out HW_.out zk3) (fun _ _ _ h => h) (Or.inl ⟨zk16, ?_⟩) hHeld ?_ ?_; rotate_left
            ·exact zk96
            rotate_left
            ·exact zk94
            refine pure_ (i := 40) (N := some 50) (v := ?_) (a' := ?_) #[true, true, true, true, true, true, true, true, true, true, true, true, true, true, true, true, true, true, true, true, true, true, true, true, true, true, true, true, true, true, true, true, true, true, true, true, true, true, true, true, true, false, false] rfl rfl (any_of HT_.out zk3) (fun _ _ _ h => h) (Or.inl ⟨zk16, ?_⟩) ?_ ?_; rotate_left
            ·exact zk95
            rotate_left
            ·exact zk94
            refine pure_ (i := 41) (N := some 51) (v := ?_) (a' := ?_) #[true, true, true, true, true, true, true, true, true, true, true, true, true, true, true, true, true, true, true, true, true, true, true, true, true, true, true, true, true, true, true, true, true, true, true, true, true, true, true, true, true, true, false] rfl rfl (any_of HT_.out zk3) (fun _ _ _ h => h) (Or.inl ⟨zk16, ?_⟩) ?_ ?_; rotate_left
            ·exact zk95
            rotate_left
            ·exact zk94
            refine pure_ (i := 42) (N := some 52) (v := ?_) (a' := ?_) #[true, true, true, true, true, true, true, true, true, true, true, true, true, true, true, true, true, true, true, true, true, true, true, true, true, true, true, true, true, true, true, true, true, true, true, true, true, true, true, true, true, true, true] rfl rfl (any_of HT_.out zk3) (fun _ _ _ h => h) (Or.inl ⟨zk16, ?_⟩) ?_ ?_; rotate_left
            ·exact zk95
            rotate_left
            ·exact zk94
            refine done_ (done_of HT_.out zk3) ?_; (try go_wp2); go_ret
            exact ⟨by first | rfl | (simp [errW_none, errW_some] <;> rfl) | (simp only [← hji11]; first | rfl | (simp [errW_none, errW_some] <;> rfl)) | (simp [*, errW_none, errW_some] <;> rfl), zk1⟩
          ·rw [if_neg c13] at H; exact absurd H zk30
         ·rw [if_neg c12] at H; exact absurd H zk30
        ·rw [if_neg c10] at H
         have c10b0 : decide (0 < x3_1) = false := decide_eq_false c10; clear c10; have H' := mkA H; clear H; (try go_wp2); have n0_ := mkA (below_drew1 HB.out); clear HB; have HB := n0_; clear n0_; have p140 : 0 ≤ (x3_1 : Int) := of_decide_eq_true zk2; have q140 : x3_1 < (l0.length : Int) := of_decide_eq_true zk2; obtain ⟨ad140, e140, hx140_0, hx140_1⟩ := at_T41 HR0.out x3_1 p140 q140; have hw140_1 := hx140_1; have hw140_0 := hx140_0; cases e140; replace hx140_0 := (HB.out.cell (World.block_lt_of_cell? w _ hx140_0)).trans hx140_0; replace hx140_1 := (HB.out.cell (World.block_lt_of_cell? w _ hx140_1)).trans hx140_1; replace p140 := eq_true p140; replace q140 := eq_true q140; have p142 : 0 ≤ (x3_1 : Int) := of_decide_eq_true zk2; have q142 : x3_1 < (l0.length : Int) := of_decide_eq_true zk2; obtain ⟨ad142, e142, hx142_0, hx142_1⟩ := at_T41 HR0.out x3_1 p142 q142; have hw142_1 := hx142_1; have hw142_0 := hx142_0; obtain rfl : ad140 = ad142 := (by injection e142)
         replace hx142_0 := (HB.out.cell (World.block_lt_of_cell? w _ hx142_0)).trans hx142_0; replace hx142_1 := (HB.out.cell (World.block_lt_of_cell? w _ hx142_1)).trans hx142_1; replace p142 := eq_true p142; replace q142 := eq_true q142; have p143 : 0 ≤ (x3_1 : Int) := of_decide_eq_true zk2; have q143 : x3_1 < (l0.length : Int) := of_decide_eq_true zk2; obtain ⟨ad143, e143, hx143_0, hx143_1⟩ := at_T41 HR0.out x3_1 p143 q143; have hw143_1 := hx143_1; have hw143_0 := hx143_0; obtain rfl : ad140 = ad143 := (by injection e143)
         replace hx143_0 := (HB.out.cell (World.block_lt_of_cell? w _ hx143_0)).trans hx143_0; replace hx143_1 := (HB.out.cell (World.block_lt_of_cell? w _ hx143_1)).trans hx143_1; replace p143 := eq_true p143; replace q143 := eq_true q143; refine start_ (n := 43) (S := fun w' => w'.cell? (ad140.add ((x3_1).toNat * 2)) = some (.string ((rd_T41 l0 x3_1).f0)) ∧ w'.cell? ⟨(ad140.add ((x3_1).toNat * 2)).block, (ad140.add ((x3_1).toNat * 2)).off + 1, none⟩ = some (.string ((rd_T41 l0 x3_1).f1)) ∧ w'.cell? (ad140.add ((x3_1).toNat * 2)) = some (.string ((rd_T41 l0 x3_1).f0)) ∧ w'.cell? ⟨(ad140.add ((x3_1).toNat * 2)).block, (ad140.add ((x3_1).toNat * 2)).off + 1, none⟩ = some (.string ((rd_T41 l0 x3_1).f1)) ∧ w'.cell? (ad140.add ((x3_1).toNat * 2)) = some (.string ((rd_T41 l0 x3_1).f0)) ∧ w'.cell? ⟨(ad140.add ((x3_1).toNat * 2)).block, (ad140.add ((x3_1).toNat * 2)).off + 1, none⟩ = some (.string ((rd_T41 l0 x3_1).f1))) (ds := []) #[false, false, false, false, false, false, false, false, false, false, false, false, false, false, false, false, false, false, false, false, false, false, false, false, false, false, false, false, false, false, false, false, false, false, false, false, false, false, false, false, false, false, false] zk3 rfl rfl ⟨((HB.out.cell (World.block_lt_of_cell? w _ hw140_0)).trans hw140_0), ((HB.out.cell (World.block_lt_of_cell? w _ hw140_1)).trans hw140_1), ((HB.out.cell (World.block_lt_of_cell? w _ hw142_0)).trans hw142_0), ((HB.out.cell (World.block_lt_of_cell? w _ hw142_1)).trans hw142_1), ((HB.out.cell (World.block_lt_of_cell? w _ hw143_0)).trans hw143_0), ((HB.out.cell (World.block_lt_of_cell? w _ hw143_1)).trans hw143_1)⟩ (fun hHeld => ?_); refine with_tabW varveref11_Check.tab4 varveref11_Check.bits4 (fun HT_ HW_ => ?_); generalize wr.drew = w17 at HB hx140_0 hx140_1 hx142_0 hx142_1 hx143_0 hx143_1 hHeld ⊢; refine pure_ (i := 0) (N := some 10) (v := ?_) (a' := ?_) #[true, false, false, false, false, false, false, false, false, false, false, false, false, false, false, false, false, false, false, false, false, false, false, false, false, false, false, false, false, false, false, false, false, false, false, false, false, false, false, false, false, false, false] rfl rfl (any_of HT_.out zk3) (fun _ _ _ h => h) (Or.inl ⟨zk16, ?_⟩) ?_ ?_; rotate_left
         ·exact zk95
         rotate_left
         ·exact zk94
         refine pure_ (i := 1) (N := some 11) (v := ?_) (a' := ?_) #[true, true, false, false, false, false, false, false, false, false, false, false, false, false, false, false, false, false, false, false, false, false, false, false, false, false, false, false, false, false, false, false, false, false, false, false, false, false, false, false, false, false, false] rfl rfl (any_of HT_.out zk3) (fun _ _ _ h => h) (Or.inl ⟨zk16, ?_⟩) ?_ ?_; rotate_left
         ·exact zk95
         rotate_left
         ·exact zk94
         refine pure_ (i := 2) (N := some 12) (v := ?_) (a' := ?_) #[true, true, true, false, false, false, false, false, false, false, false, false, false, false, false, false, false, false, false, false, false, false, false, false, false, false, false, false, false, false, false, false, false, false, false, false, false, false, false, false, false, false, false] rfl rfl (any_of HT_.out zk3) (fun _ _ _ h => h) (Or.inl ⟨zk16, ?_⟩) ?_ ?_; rotate_left
         ·exact zk95
         rotate_left
         ·exact zk94
         refine pure_ (i := 3) (N := some 13) (v := ?_) (a' := ?_) #[true, true, true, true, false, false, false, false, false, false, false, false, false, false, false, false, false, false, false, false, false, false, false, false, false, false, false, false, false, false, false, false, false, false, false, false, false, false, false, false, false, false, false] rfl rfl (any_of HT_.out zk3) (fun _ _ _ h => h) (Or.inl ⟨zk16, ?_⟩) ?_ ?_; rotate_left
         ·exact zk95
         rotate_left
         ·exact zk94
         refine take_ (i := 4) (N := some 14) (v := ?_) (a' := ?_) #[true, true, true, true, true, false, false, false, false, false, false, false, false, false, false, false, false, false, false, false, false, false, false, false, false, false, false, false, false, false, false, false, false, false, false, false, false, false, false, false, false, false, false] rfl rfl (take_ofW HT_.out HW_.out zk3) (fun _ _ _ h => h) (Or.inl ⟨zk16, ?_⟩) hHeld ?_ ?_; rotate_left
         ·exact zk105
         rotate_left
         ·exact zk94
         refine one_ (i := 5) (N := some 15) #[true, true, true, true, true, true, false, false, false, false, false, false, false, false, false, false, false, false, false, false, false, false, false, false, false, false, false, false, false, false, false, false, false, false, false, false, false, false, false, false, false, false, false] rfl rfl (one_of HT_.out zk3) zk40 (fun K hK => ?_); refine goes_ Try.func38 zk3 rfl #[.string ((rd_T41 l0 x3_1).f0)] zk16 rfl rfl zk5 ?_; (with_reducible refine (varveref11_Name.calls k1 ((rd_T41 l0 x3_1).f0) true _ A4.out).mono ?_); rintro e w' ⟨rfl, ⟨nd, rfl⟩⟩; refine ⟨_, rfl, ?_⟩; refine hK.out _ _ ⟨((HB.out.cell (World.block_lt_of_cell? w _ hw140_0)).trans hw140_0), ((HB.out.cell (World.block_lt_of_cell? w _ hw140_1)).trans hw140_1), ((HB.out.cell (World.block_lt_of_cell? w _ hw142_0)).trans hw142_0), ((HB.out.cell (World.block_lt_of_cell? w _ hw142_1)).trans hw142_1), ((HB.out.cell (World.block_lt_of_cell? w _ hw143_0)).trans hw143_0), ((HB.out.cell (World.block_lt_of_cell? w _ hw143_1)).trans hw143_1)⟩ (fun hHeld => ?_); clear hK K; refine norm_ (a' := ?_) ?_ ?_; rotate_left
         ·exact zk98
         refine pure_ (i := 6) (N := some 16) (v := ?_) (a' := ?_) #[true, true, true, true, true, true, true, false, false, false, false, false, false, false, false, false, false, false, false, false, false, false, false, false, false, false, false, false, false, false, false, false, false, false, false, false, false, false, false, false, false, false, false] rfl rfl (any_of HT_.out zk3) (fun _ _ _ h => h) (Or.inl ⟨zk16, ?_⟩) ?_ ?_; rotate_left
         ·exact zk95
         rotate_left
         ·exact zk94
         refine pure_ (i := 7) (N := some 17) (v := ?_) (a' := ?_) #[true, true, true, true, true, true, true, true, false, false, false, false, false, false, false, false, false, false, false, false, false, false, false, false, false, false, false, false, false, false, false, false, false, false, false, false, false, false, false, false, false, false, false] rfl rfl (any_of HT_.out zk3) (fun _ _ _ h => h) (Or.inl ⟨zk16, ?_⟩) ?_ ?_; rotate_left
         ·exact zk95
         rotate_left
         ·exact zk94
         refine pure_ (i := 8) (N := some 18) (v := ?_) (a' := ?_) #[true, true, true, true, true, true, true, true, true, false, false, false, false, false, false, false, false, false, false, false, false, false, false, false, false, false, false, false, false, false, false, false, false, false, false, false, false, false, false, false, false, false, false] rfl rfl (any_of HT_.out zk3) (fun _ _ _ h => h) (Or.inl ⟨zk16, ?_⟩) ?_ ?_; rotate_left
         ·exact zk95
         rotate_left
         ·exact zk94
         refine pure_ (i := 9) (N := some 19) (v := ?_) (a' := ?_) #[true, true, true, true, true, true, true, true, true, true, false, false, false, false, false, false, false, false, false, false, false, false, false, false, false, false, false, false, false, false, false, false, false, false, false, false, false, false, false, false, false, false, false] rfl rfl (any_of HT_.out zk3) (fun _ _ _ h => h) (Or.inl ⟨zk16, ?_⟩) ?_ ?_; rotate_left
         ·exact zk95
         rotate_left
         ·exact zk94
         refine pure_ (i := 10) (N := some 20) (v := ?_) (a' := ?_) #[true, true, true, true, true, true, true, true, true, true, true, false, false, false, false, false, false, false, false, false, false, false, false, false, false, false, false, false, false, false, false, false, false, false, false, false, false, false, false, false, false, false, false] rfl rfl (any_of HT_.out zk3) (fun _ _ _ h => h) (Or.inl ⟨zk16, ?_⟩) ?_ ?_; rotate_left
         ·exact zk95
         rotate_left
         ·exact zk94
         refine pure_ (i := 11) (N := some 21) (v := ?_) (a' := ?_) #[true, true, true, true, true, true, true, true, true, true, true, true, false, false, false, false, false, false, false, false, false, false, false, false, false, false, false, false, false, false, false, false, false, false, false, false, false, false, false, false, false, false, false] rfl rfl (any_of HT_.out zk3) (fun _ _ _ h => h) (Or.inl ⟨zk16, ?_⟩) ?_ ?_; rotate_left
         ·exact zk95
         rotate_left
         ·exact zk94
         refine take_ (i := 12) (N := some 22) (v := ?_) (a' := ?_) #[true, true, true, true, true, true, true, true, true, true, true, true, true, false, false, false, false, false, false, false, false, false, false, false, false, false, false, false, false, false, false, false, false, false, false, false, false, false, false, false, false, false, false] rfl rfl (take_ofW HT_.out HW_.out zk3) (fun _ _ _ h => h) (Or.inl ⟨zk16, ?_⟩) hHeld ?_ ?_; rotate_left
         ·exact zk105
         rotate_left
         ·exact zk94
         refine pure_ (i := 13) (N := some 23) (v := ?_) (a' := ?_) #[true, true, true, true, true, true, true, true, true, true, true, true, true, true, false, false, false, false, false, false, false, false, false, false, false, false, false, false, false, false, false, false, false, false, false, false, false, false, false, false, false, false, false] rfl rfl (any_of HT_.out zk3) (fun _ _ _ h => h) (Or.inl ⟨zk16, ?_⟩) ?_ ?_; rotate_left
         ·exact zk95
         rotate_left
         ·exact zk94
         refine pure_ (i := 14) (N := some 24) (v := ?_) (a' := ?_) #[true, true, true, true, true, true, true, true, true, true, true, true, true, true, true, false, false, false, false, false, false, false, false, false, false, false, false, false, false, false, false, false, false, false, false, false, false, false, false, false, false, false, false] rfl rfl (any_of HT_.out zk3) (fun _ _ _ h => h) (Or.inl ⟨zk16, ?_⟩) ?_ ?_; rotate_left
         ·exact zk95
         rotate_left
         ·exact zk94
         refine pure_ (i := 15) (N := some 25) (v := ?_) (a' := ?_) #[true, true, true, true, true, true, true, true, true, true, true, true, true, true, true, true, false, false, false, false, false, false, false, false, false, false, false, false, false, false, false, false, false, false, false, false, false, false, false, false, false, false, false] rfl rfl (any_of HT_.out zk3) (fun _ _ _ h => h) (Or.inl ⟨zk16, ?_⟩) ?_ ?_; rotate_left
         ·exact zk95
         rotate_left
         ·exact zk94
         refine pure_ (i := 16) (N := some 26) (v := ?_) (a' := ?_) #[true, true, true, true, true, true, true, true, true, true, true, true, true, true, true, true, true, false, false, false, false, false, false, false, false, false, false, false, false, false, false, false, false, false, false, false, false, false, false, false, false, false, false] rfl rfl (any_of HT_.out zk3) (fun _ _ _ h => h) (Or.inl ⟨zk16, ?_⟩) ?_ ?_; rotate_left
         ·exact zk95
         rotate_left
         ·exact zk94
         refine pure_ (i := 17) (N := some 27) (v := ?_) (a' := ?_) #[true, true, true, true, true, true, true, true, true, true, true, true, true, true, true, true, true, true, false, false, false, false, false, false, false, false, false, false, false, false, false, false, false, false, false, false, false, false, false, false, false, false, false] rfl rfl (any_of HT_.out zk3) (fun _ _ _ h => h) (Or.inl ⟨zk16, ?_⟩) ?_ ?_; rotate_left
         ·exact zk95
         rotate_left
         ·exact zk94
         refine pure_ (i := 18) (N := some 28) (v := ?_) (a' := ?_) #[true, true, true, true, true, true, true, true, true, true, true, true, true, true, true, true, true, true, true, false, false, false, false, false, false, false, false, false, false, false, false, false, false, false, false, false, false, false, false, false, false, false, false] rfl rfl (any_of HT_.out zk3) (fun _ _ _ h => h) (Or.inl ⟨zk16, ?_⟩) ?_ ?_; rotate_left
         ·exact zk95
         rotate_left
         ·exact zk94
         refine pure_ (i := 19) (N := some 29) (v := ?_) (a' := ?_) #[true, true, true, true, true, true, true, true, true, true, true, true, true, true, true, true, true, true, true, true, false, false, false, false, false, false, false, false, false, false, false, false, false, false, false, false, false, false, false, false, false, false, false] rfl rfl (any_of HT_.out zk3) (fun _ _ _ h => h) (Or.inl ⟨zk16, ?_⟩) ?_ ?_; rotate_left
         ·exact zk95
         rotate_left
         ·exact zk94
         refine pure_ (i := 20) (N := some 30) (v := ?_) (a' := ?_) #[true, true, true, true, true, true, true, true, true, true, true, true, true, true, true, true, true, true, true, true, true, false, false, false, false, false, false, false, false, false, false, false, false, false, false, false, false, false, false, false, false, false, false] rfl rfl (any_of HT_.out zk3) (fun _ _ _ h => h) (Or.inl ⟨zk16, ?_⟩) ?_ ?_; rotate_left
         ·exact zk95
         rotate_left
         ·exact zk94
         refine take_ (i := 21) (N := some 31) (v := ?_) (a' := ?_) #[true, true, true, true, true, true, true, true, true, true, true, true, true, true, true, true, true, true, true, true, true, true, false, false, false, false, false, false, false, false, false, false, false, false, false, false, false, false, false, false, false, false, false] rfl rfl (take_ofW HT_.out HW_.out zk3) (fun _ _ _ h => h) (Or.inl ⟨zk16, ?_⟩) hHeld ?_ ?_; rotate_left
         ·exact zk105
         rotate_left
         ·exact zk94
         refine pure_ (i := 22) (N := some 32) (v := ?_) (a' := ?_) #[true, true, true, true, true, true, true, true, true, true, true, true, true, true, true, true, true, true, true, true, true, true, true, false, false, false, false, false, false, false, false, false, false, false, false, false, false, false, false, false, false, false, false] rfl rfl (any_of HT_.out zk3) (fun _ _ _ h => h) (Or.inl ⟨zk16, ?_⟩) ?_ ?_; rotate_left
         ·exact zk95
         rotate_left
         ·exact zk94
         refine pure_ (i := 23) (N := some 33) (v := ?_) (a' := ?_) #[true, true, true, true, true, true, true, true, true, true, true, true, true, true, true, true, true, true, true, true, true, true, true, true, false, false, false, false, false, false, false, false, false, false, false, false, false, false, false, false, false, false, false] rfl rfl (any_of HT_.out zk3) (fun _ _ _ h => h) (Or.inl ⟨zk16, ?_⟩) ?_ ?_; rotate_left
         ·exact zk95
         rotate_left
         ·exact zk94
         refine pure_ (i := 24) (N := some 34) (v := ?_) (a' := ?_) #[true, true, true, true, true, true, true, true, true, true, true, true, true, true, true, true, true, true, true, true, true, true, true, true, true, false, false, false, false, false, false, false, false, false, false, false, false, false, false, false, false, false, false] rfl rfl (any_of HT_.out zk3) (fun _ _ _ h => h) (Or.inl ⟨zk16, ?_⟩) ?_ ?_; rotate_left
         ·exact zk95
         rotate_left
         ·exact zk94
         refine pure_ (i := 25) (N := some 35) (v := ?_) (a' := ?_) #[true, true, true, true, true, true, true, true, true, true, true, true, true, true, true, true, true, true, true, true, true, true, true, true, true, true, false, false, false, false, false, false, false, false, false, false, false, false, false, false, false, false, false] rfl rfl (any_of HT_.out zk3) (fun _ _ _ h => h) (Or.inl ⟨zk16, ?_⟩) ?_ ?_; rotate_left
         ·exact zk95
         rotate_left
         ·exact zk94
         refine pure_ (i := 26) (N := some 36) (v := ?_) (a' := ?_) #[true, true, true, true, true, true, true, true, true, true, true, true, true, true, true, true, true, true, true, true, true, true, true, true, true, true, true, false, false, false, false, false, false, false, false, false, false, false, false, false, false, false, false] rfl rfl (any_of HT_.out zk3) (fun _ _ _ h => h) (Or.inl ⟨zk16, ?_⟩) ?_ ?_; rotate_left
         ·exact zk95
         rotate_left
         ·exact zk94
         refine pure_ (i := 27) (N := some 37) (v := ?_) (a' := ?_) #[true, true, true, true, true, true, true, true, true, true, true, true, true, true, true, true, true, true, true, true, true, true, true, true, true, true, true, true, false, false, false, false, false, false, false, false, false, false, false, false, false, false, false] rfl rfl (any_of HT_.out zk3) (fun _ _ _ h => h) (Or.inl ⟨zk16, ?_⟩) ?_ ?_; rotate_left
         ·exact zk95
         rotate_left
         ·exact zk94
         refine pure_ (i := 28) (N := some 38) (v := ?_) (a' := ?_) #[true, true, true, true, true, true, true, true, true, true, true, true, true, true, true, true, true, true, true, true, true, true, true, true, true, true, true, true, true, false, false, false, false, false, false, false, false, false, false, false, false, false, false] rfl rfl (any_of HT_.out zk3) (fun _ _ _ h => h) (Or.inl ⟨zk16, ?_⟩) ?_ ?_; rotate_left
         ·exact zk95
         rotate_left
         ·exact zk94
         refine pure_ (i := 29) (N := some 39) (v := undef) (a' := ?_) #[true, true, true, true, true, true, true, true, true, true, true, true, true, true, true, true, true, true, true, true, true, true, true, true, true, true, true, true, true, true, false, false, false, false, false, false, false, false, false, false, false, false, false] rfl rfl (any_of HT_.out zk3) (fun _ _ _ h => h) (Or.inr ⟨zk16, rfl⟩) ?_ ?_; rotate_left
         ·exact zk94
         refine pure_ (i := 30) (N := some 40) (v := undef) (a' := ?_) #[true, true, true, true, true, true, true, true, true, true, true, true, true, true, true, true, true, true, true, true, true, true, true, true, true, true, true, true, true, true, true, false, false, false, false, false, false, false, false, false, false, false, false] rfl rfl (any_of HT_.out zk3) (fun _ _ _ h => h) (Or.inr ⟨zk16, rfl⟩) ?_ ?_; rotate_left
         ·exact zk94
         refine pure_ (i := 31) (N := some 41) (v := undef) (a' := ?_) #[true, true, true, true, true, true, true, true, true, true, true, true, true, true, true, true, true, true, true, true, true, true, true, true, true, true, true, true, true, true, true, true, false, false, false, false, false, false, false, false, false, false, false] rfl rfl (any_of HT_.out zk3) (fun _ _ _ h => h) (Or.inr ⟨zk16, rfl⟩) ?_ ?_; rotate_left
         ·exact zk94
         refine pure_ (i := 32) (N := some 42) (v := undef) (a' := ?_) #[true, true, true, true, true, true, true, true, true, true, true, true, true, true, true, true, true, true, true, true, true, true, true, true, true, true, true, true, true, true, true, true, true, false, false, false, false, false, false, false, false, false, false] rfl rfl (any_of HT_.out zk3) (fun _ _ _ h => h) (Or.inr ⟨zk16, rfl⟩) ?_ ?_; rotate_left
         ·exact zk94
         refine pure_ (i := 33) (N := some 43) (v := undef) (a' := ?_) #[true, true, true, true, true, true, true, true, true, true, true, true, true, true, true, true, true, true, true, true, true, true, true, true, true, true, true, true, true, true, true, true, true, true, false, false, false, false, false, false, false, false, false] rfl rfl (any_of HT_.out zk3) (fun _ _ _ h => h) (Or.inr ⟨zk16, rfl⟩) ?_ ?_; rotate_left
         ·exact zk94
         refine pure_ (i := 34) (N := some 44) (v := undef) (a' := ?_) #[true, true, true, true, true, true, true, true, true, true, true, true, true, true, true, true, true, true, true, true, true, true, true, true, true, true, true, true, true, true, true, true, true, true, true, false, false, false, false, false, false, false, false] rfl rfl (any_of HT_.out zk3) (fun _ _ _ h => h) (Or.inr ⟨zk16, rfl⟩) ?_ ?_; rotate_left
         ·exact zk94
         refine pure_ (i := 35) (N := some 45) (v := undef) (a' := ?_) #[true, true, true, true, true, true, true, true, true, true, true, true, true, true, true, true, true, true, true, true, true, true, true, true, true, true, true, true, true, true, true, true, true, true, true, true, false, false, false, false, false, false, false] rfl rfl (any_of HT_.out zk3) (fun _ _ _ h => h) (Or.inr ⟨zk16, rfl⟩) ?_ ?_; rotate_left
         ·exact zk94
         refine pure_ (i := 36) (N := some 46) (v := undef) (a' := ?_) #[true, true, true, true, true, true, true, true, true, true, true, true, true, true, true, true, true, true, true, true, true, true, true, true, true, true, true, true, true, true, true, true, true, true, true, true, true, false, false, false, false, false, false] rfl rfl (any_of HT_.out zk3) (fun _ _ _ h => h) (Or.inr ⟨zk16, rfl⟩) ?_ ?_; rotate_left
         ·exact zk94
         refine pure_ (i := 37) (N := some 47) (v := undef) (a' := ?_) #[true, true, true, true, true, true, true, true, true, true, true, true, true, true, true, true, true, true, true, true, true, true, true, true, true, true, true, true, true, true, true, true, true, true, true, true, true, true, false, false, false, false, false] rfl rfl (any_of HT_.out zk3) (fun _ _ _ h => h) (Or.inr ⟨zk16, rfl⟩) ?_ ?_; rotate_left
         ·exact zk94
         refine pure_ (i := 38) (N := some 48) (v := undef) (a' := ?_) #[true, true, true, true, true, true, true, true, true, true, true, true, true, true, true, true, true, true, true, true, true, true, true, true, true, true, true, true, true, true, true, true, true, true, true, true, true, true, true, false, false, false, false] rfl rfl (any_of HT_.out zk3) (fun _ _ _ h => h) (Or.inr ⟨zk16, rfl⟩) ?_ ?_; rotate_left
         ·exact zk94
         refine pure_ (i := 39) (N := some 49) (v := undef) (a' := ?_) #[true, true, true, true, true, true, true, true, true, true, true, true, true, true, true, true, true, true, true, true, true, true, true, true, true, true, true, true, true, true, true, true, true, true, true, true, true, true, true, true, false, false, false] rfl rfl (any_of HT_.out zk3) (fun _ _ _ h => h) (Or.inr ⟨zk16, rfl⟩) ?_ ?_; rotate_left
         ·exact zk94
         refine pure_ (i := 40) (N := some 50) (v := undef) (a' := ?_) #[true, true, true, true, true, true, true, true, true, true, true, true, true, true, true, true, true, true, true, true, true, true, true, true, true, true, true, true, true, true, true, true, true, true, true, true, true, true, true, true, true, false, false] rfl rfl (any_of HT_.out zk3) (fun _ _ _ h => h) (Or.inr ⟨zk16, rfl⟩) ?_ ?_; rotate_left
         ·exact zk94
         refine pure_ (i := 41) (N := some 51) (v := ?_) (a' := ?_) #[true, true, true, true, true, true, true, true, true, true, true, true, true, true, true, true, true, true, true, true, true, true, true, true, true, true, true, true, true, true, true, true, true, true, true, true, true, true, true, true, true, true, false] rfl rfl (any_of HT_.out zk3) (fun _ _ _ h => h) (Or.inl ⟨zk16, ?_⟩) ?_ ?_; rotate_left
         ·exact zk95
         rotate_left
         ·exact zk94
         refine pure_ (i := 42) (N := some 52) (v := ?_) (a' := ?_) #[true, true, true, true, true, true, true, true, true, true, true, true, true, true, true, true, true, true, true, true, true, true, true, true, true, true, true, true, true, true, true, true, true, true, true, true, true, true, true, true, true, true, true] rfl rfl (any_of HT_.out zk3) (fun _ _ _ h => h) (Or.inl ⟨zk16, ?_⟩) ?_ ?_; rotate_left
         ·exact zk95
         rotate_left
         ·exact zk94
         refine done_ (done_of HT_.out zk3) ?_; (try go_wp2); go_roundg k1
         case measure => have := HK1.out; omega
         case rel => exact ⟨(wrap64 (x3_1 + 1)), zk6, H', ⟨zk42⟩, ⟨zk1⟩⟩
     ·replace c5 := Bool.eq_false_iff.mpr c5
      subst c5; have H1 : (some false) = some r := zk23
      clear H; have H := H1; clear H1; obtain rfl := Option.some.inj H; (try go_wp2); have n0_ := mkA (below_drew1 HB.out); clear HB; have HB := n0_; clear n0_; have p140 : 0 ≤ (x3_1 : Int) := of_decide_eq_true zk2; have q140 : x3_1 < (l0.length : Int) := of_decide_eq_true zk2; obtain ⟨ad140, e140, hx140_0, hx140_1⟩ := at_T41 HR0.out x3_1 p140 q140; have hw140_1 := hx140_1; have hw140_0 := hx140_0; cases e140; replace hx140_0 := (HB.out.cell (World.block_lt_of_cell? w _ hx140_0)).trans hx140_0; replace hx140_1 := (HB.out.cell (World.block_lt_of_cell? w _ hx140_1)).trans hx140_1; replace p140 := eq_true p140; replace q140 := eq_true q140; refine start_ (n := 43) (S := fun w' => w'.cell? (ad140.add ((x3_1).toNat * 2)) = some (.string ((rd_T41 l0 x3_1).f0)) ∧ w'.cell? ⟨(ad140.add ((x3_1).toNat * 2)).block, (ad140.add ((x3_1).toNat * 2)).off + 1, none⟩ = some (.string ((rd_T41 l0 x3_1).f1))) (ds := []) #[false, false, false, false, false, false, false, false, false, false, false, false, false, false, false, false, false, false, false, false, false, false, false, false, false, false, false, false, false, false, false, false, false, false, false, false, false, false, false, false, false, false, false] zk3 rfl rfl ⟨((HB.out.cell (World.block_lt_of_cell? w _ hw140_0)).trans hw140_0), ((HB.out.cell (World.block_lt_of_cell? w _ hw140_1)).trans hw140_1)⟩ (fun hHeld => ?_); refine with_tabW varveref11_Check.tab4 varveref11_Check.bits4 (fun HT_ HW_ => ?_); generalize wr.drew = w18 at HB hx140_0 hx140_1 hHeld ⊢; refine pure_ (i := 0) (N := some 10) (v := ?_) (a' := ?_) #[true, false, false, false, false, false, false, false, false, false, false, false, false, false, false, false, false, false, false, false, false, false, false, false, false, false, false, false, false, false, false, false, false, false, false, false, false, false, false, false, false, false, false] rfl rfl (any_of HT_.out zk3) (fun _ _ _ h => h) (Or.inl ⟨zk16, ?_⟩) ?_ ?_; rotate_left
      ·exact zk95
      rotate_left
      ·exact zk94
      refine pure_ (i := 1) (N := some 11) (v := ?_) (a' := ?_) #[true, true, false, false, false, false, false, false, false, false, false, false, false, false, false, false, false, false, false, false, false, false, false, false, false, false, false, false, false, false, false, false, false, false, false, false, false, false, false, false, false, false, false] rfl rfl (any_of HT_.out zk3) (fun _ _ _ h => h) (Or.inl ⟨zk16, ?_⟩) ?_ ?_; rotate_left
      ·exact zk95
      rotate_left
      ·exact zk94
      refine pure_ (i := 2) (N := some 12) (v := ?_) (a' := ?_) #[true, true, true, false, false, false, false, false, false, false, false, false, false, false, false, false, false, false, false, false, false, false, false, false, false, false, false, false, false, false, false, false, false, false, false, false, false, false, false, false, false, false, false] rfl rfl (any_of HT_.out zk3) (fun _ _ _ h => h) (Or.inl ⟨zk16, ?_⟩) ?_ ?_; rotate_left
      ·exact zk95
      rotate_left
      ·exact zk94
      refine pure_ (i := 3) (N := some 13) (v := ?_) (a' := ?_) #[true, true, true, true, false, false, false, false, false, false, false, false, false, false, false, false, false, false, false, false, false, false, false, false, false, false, false, false, false, false, false, false, false, false, false, false, false, false, false, false, false, false, false] rfl rfl (any_of HT_.out zk3) (fun _ _ _ h => h) (Or.inl ⟨zk16, ?_⟩) ?_ ?_; rotate_left
      ·exact zk95
      rotate_left
      ·exact zk94
      refine take_ (i := 4) (N := some 14) (v := ?_) (a' := ?_) #[true, true, true, true, true, false, false, false, false, false, false, false, false, false, false, false, false, false, false, false, false, false, false, false, false, false, false, false, false, false, false, false, false, false, false, false, false, false, false, false, false, false, false] rfl rfl (take_ofW HT_.out HW_.out zk3) (fun _ _ _ h => h) (Or.inl ⟨zk16, ?_⟩) hHeld ?_ ?_; rotate_left
      ·exact zk101
      rotate_left
      ·exact zk94
      refine one_ (i := 5) (N := some 15) #[true, true, true, true, true, true, false, false, false, false, false, false, false, false, false, false, false, false, false, false, false, false, false, false, false, false, false, false, false, false, false, false, false, false, false, false, false, false, false, false, false, false, false] rfl rfl (one_of HT_.out zk3) zk40 (fun K hK => ?_); refine goes_ Try.func38 zk3 rfl #[.string ((rd_T41 l0 x3_1).f0)] zk16 rfl rfl zk5 ?_; (with_reducible refine (varveref11_Name.calls k1 ((rd_T41 l0 x3_1).f0) false _ A4.out).mono ?_); rintro e w' ⟨rfl, ⟨nd, rfl⟩⟩; refine ⟨_, rfl, ?_⟩; refine hK.out _ _ ⟨((HB.out.cell (World.block_lt_of_cell? w _ hw140_0)).trans hw140_0), ((HB.out.cell (World.block_lt_of_cell? w _ hw140_1)).trans hw140_1)⟩ (fun hHeld => ?_); clear hK K; refine norm_ (a' := ?_) ?_ ?_; rotate_left
      ·exact zk98
      refine pure_ (i := 6) (N := some 16) (v := ?_) (a' := ?_) #[true, true, true, true, true, true, true, false, false, false, false, false, false, false, false, false, false, false, false, false, false, false, false, false, false, false, false, false, false, false, false, false, false, false, false, false, false, false, false, false, false, false, false] rfl rfl (any_of HT_.out zk3) (fun _ _ _ h => h) (Or.inl ⟨zk16, ?_⟩) ?_ ?_; rotate_left
      ·exact zk95
      rotate_left
      ·exact zk94
      refine pure_ (i := 7) (N := some 17) (v := ?_) (a' := ?_) #[true, true, true, true, true, true, true, true, false, false, false, false, false, false, false, false, false, false, false, false, false, false, false, false, false, false, false, false, false, false, false, false, false, false, false, false, false, false, false, false, false, false, false] rfl rfl (any_of HT_.out zk3) (fun _ _ _ h => h) (Or.inl ⟨zk16, ?_⟩) ?_ ?_; rotate_left
      ·exact zk95
      rotate_left
      ·exact zk94
      refine pure_ (i := 8) (N := some 18) (v := undef) (a' := ?_) #[true, true, true, true, true, true, true, true, true, false, false, false, false, false, false, false, false, false, false, false, false, false, false, false, false, false, false, false, false, false, false, false, false, false, false, false, false, false, false, false, false, false, false] rfl rfl (any_of HT_.out zk3) (fun _ _ _ h => h) (Or.inr ⟨zk16, rfl⟩) ?_ ?_; rotate_left
      ·exact zk94
      refine pure_ (i := 9) (N := some 19) (v := undef) (a' := ?_) #[true, true, true, true, true, true, true, true, true, true, false, false, false, false, false, false, false, false, false, false, false, false, false, false, false, false, false, false, false, false, false, false, false, false, false, false, false, false, false, false, false, false, false] rfl rfl (any_of HT_.out zk3) (fun _ _ _ h => h) (Or.inr ⟨zk16, rfl⟩) ?_ ?_; rotate_left
      ·exact zk94
      refine pure_ (i := 10) (N := some 20) (v := undef) (a' := ?_) #[true, true, true, true, true, true, true, true, true, true, true, false, false, false, false, false, false, false, false, false, false, false, false, false, false, false, false, false, false, false, false, false, false, false, false, false, false, false, false, false, false, false, false] rfl rfl (any_of HT_.out zk3) (fun _ _ _ h => h) (Or.inr ⟨zk16, rfl⟩) ?_ ?_; rotate_left
      ·exact zk94
      refine pure_ (i := 11) (N := some 21) (v := undef) (a' := ?_) #[true, true, true, true, true, true, true, true, true, true, true, true, false, false, false, false, false, false, false, false, false, false, false, false, false, false, false, false, false, false, false, false, false, false, false, false, false, false, false, false, false, false, false] rfl rfl (any_of HT_.out zk3) (fun _ _ _ h => h) (Or.inr ⟨zk16, rfl⟩) ?_ ?_; rotate_left
      ·exact zk94
      refine pure_ (i := 12) (N := some 22) (v := undef) (a' := ?_) #[true, true, true, true, true, true, true, true, true, true, true, true, true, false, false, false, false, false, false, false, false, false, false, false, false, false, false, false, false, false, false, false, false, false, false, false, false, false, false, false, false, false, false] rfl rfl (any_of HT_.out zk3) (fun _ _ _ h => h) (Or.inr ⟨zk16, rfl⟩) ?_ ?_; rotate_left
      ·exact zk94
      refine pure_ (i := 13) (N := some 23) (v := undef) (a' := ?_) #[true, true, true, true, true, true, true, true, true, true, true, true, true, true, false, false, false, false, false, false, false, false, false, false, false, false, false, false, false, false, false, false, false, false, false, false, false, false, false, false, false, false, false] rfl rfl (any_of HT_.out zk3) (fun _ _ _ h => h) (Or.inr ⟨zk16, rfl⟩) ?_ ?_; rotate_left
      ·exact zk94
      refine pure_ (i := 14) (N := some 24) (v := undef) (a' := ?_) #[true, true, true, true, true, true, true, true, true, true, true, true, true, true, true, false, false, false, false, false, false, false, false, false, false, false, false, false, false, false, false, false, false, false, false, false, false, false, false, false, false, false, false] rfl rfl (any_of HT_.out zk3) (fun _ _ _ h => h) (Or.inr ⟨zk16, rfl⟩) ?_ ?_; rotate_left
      ·exact zk94
      refine pure_ (i := 15) (N := some 25) (v := ?_) (a' := ?_) #[true, true, true, true, true, true, true, true, true, true, true, true, true, true, true, true, false, false, false, false, false, false, false, false, false, false, false, false, false, false, false, false, false, false, false, false, false, false, false, false, false, false, false] rfl rfl (any_of HT_.out zk3) (fun _ _ _ h => h) (Or.inl ⟨zk16, ?_⟩) ?_ ?_; rotate_left
      ·exact zk95
      rotate_left
      ·exact zk94
      refine pure_ (i := 16) (N := some 26) (v := ?_) (a' := ?_) #[true, true, true, true, true, true, true, true, true, true, true, true, true, true, true, true, true, false, false, false, false, false, false, false, false, false, false, false, false, false, false, false, false, false, false, false, false, false, false, false, false, false, false] rfl rfl (any_of HT_.out zk3) (fun _ _ _ h => h) (Or.inl ⟨zk16, ?_⟩) ?_ ?_; rotate_left
      ·exact zk95
      rotate_left
      ·exact zk94
      refine pure_ (i := 17) (N := some 27) (v := undef) (a' := ?_) #[true, true, true, true, true, true, true, true, true, true, true, true, true, true, true, true, true, true, false, false, false, false, false, false, false, false, false, false, false, false, false, false, false, false, false, false, false, false, false, false, false, false, false] rfl rfl (any_of HT_.out zk3) (fun _ _ _ h => h) (Or.inr ⟨zk16, rfl⟩) ?_ ?_; rotate_left
      ·exact zk94
      refine pure_ (i := 18) (N := some 28) (v := undef) (a' := ?_) #[true, true, true, true, true, true, true, true, true, true, true, true, true, true, true, true, true, true, true, false, false, false, false, false, false, false, false, false, false, false, false, false, false, false, false, false, false, false, false, false, false, false, false] rfl rfl (any_of HT_.out zk3) (fun _ _ _ h => h) (Or.inr ⟨zk16, rfl⟩) ?_ ?_; rotate_left
      ·exact zk94
      refine pure_ (i := 19) (N := some 29) (v := undef) (a' := ?_) #[true, true, true, true, true, true, true, true, true, true, true, true, true, true, true, true, true, true, true, true, false, false, false, false, false, false, false, false, false, false, false, false, false, false, false, false, false, false, false, false, false, false, false] rfl rfl (any_of HT_.out zk3) (fun _ _ _ h => h) (Or.inr ⟨zk16, rfl⟩) ?_ ?_; rotate_left
      ·exact zk94
      refine pure_ (i := 20) (N := some 30) (v := undef) (a' := ?_) #[true, true, true, true, true, true, true, true, true, true, true, true, true, true, true, true, true, true, true, true, true, false, false, false, false, false, false, false, false, false, false, false, false, false, false, false, false, false, false, false, false, false, false] rfl rfl (any_of HT_.out zk3) (fun _ _ _ h => h) (Or.inr ⟨zk16, rfl⟩) ?_ ?_; rotate_left
      ·exact zk94
      refine pure_ (i := 21) (N := some 31) (v := undef) (a' := ?_) #[true, true, true, true, true, true, true, true, true, true, true, true, true, true, true, true, true, true, true, true, true, true, false, false, false, false, false, false, false, false, false, false, false, false, false, false, false, false, false, false, false, false, false] rfl rfl (any_of HT_.out zk3) (fun _ _ _ h => h) (Or.inr ⟨zk16, rfl⟩) ?_ ?_; rotate_left
      ·exact zk94
      refine pure_ (i := 22) (N := some 32) (v := undef) (a' := ?_) #[true, true, true, true, true, true, true, true, true, true, true, true, true, true, true, true, true, true, true, true, true, true, true, false, false, false, false, false, false, false, false, false, false, false, false, false, false, false, false, false, false, false, false] rfl rfl (any_of HT_.out zk3) (fun _ _ _ h => h) (Or.inr ⟨zk16, rfl⟩) ?_ ?_; rotate_left
      ·exact zk94
      refine pure_ (i := 23) (N := some 33) (v := undef) (a' := ?_) #[true, true, true, true, true, true, true, true, true, true, true, true, true, true, true, true, true, true, true, true, true, true, true, true, false, false, false, false, false, false, false, false, false, false, false, false, false, false, false, false, false, false, false] rfl rfl (any_of HT_.out zk3) (fun _ _ _ h => h) (Or.inr ⟨zk16, rfl⟩) ?_ ?_; rotate_left
      ·exact zk94
      refine pure_ (i := 24) (N := some 34) (v := ?_) (a' := ?_) #[true, true, true, true, true, true, true, true, true, true, true, true, true, true, true, true, true, true, true, true, true, true, true, true, true, false, false, false, false, false, false, false, false, false, false, false, false, false, false, false, false, false, false] rfl rfl (any_of HT_.out zk3) (fun _ _ _ h => h) (Or.inl ⟨zk16, ?_⟩) ?_ ?_; rotate_left
      ·exact zk95
      rotate_left
      ·exact zk94
      refine pure_ (i := 25) (N := some 35) (v := ?_) (a' := ?_) #[true, true, true, true, true, true, true, true, true, true, true, true, true, true, true, true, true, true, true, true, true, true, true, true, true, true, false, false, false, false, false, false, false, false, false, false, false, false, false, false, false, false, false] rfl rfl (any_of HT_.out zk3) (fun _ _ _ h => h) (Or.inl ⟨zk16, ?_⟩) ?_ ?_; rotate_left
      ·exact zk95
      rotate_left
      ·exact zk94
      refine pure_ (i := 26) (N := some 36) (v := undef) (a' := ?_) #[true, true, true, true, true, true, true, true, true, true, true, true, true, true, true, true, true, true, true, true, true, true, true, true, true, true, true, false, false, false, false, false, false, false, false, false, false, false, false, false, false, false, false] rfl rfl (any_of HT_.out zk3) (fun _ _ _ h => h) (Or.inr ⟨zk16, rfl⟩) ?_ ?_; rotate_left
      ·exact zk94
      refine pure_ (i := 27) (N := some 37) (v := undef) (a' := ?_) #[true, true, true, true, true, true, true, true, true, true, true, true, true, true, true, true, true, true, true, true, true, true, true, true, true, true, true, true, false, false, false, false, false, false, false, false, false, false, false, false, false, false, false] rfl rfl (any_of HT_.out zk3) (fun _ _ _ h => h) (Or.inr ⟨zk16, rfl⟩) ?_ ?_; rotate_left
      ·exact zk94
      refine pure_ (i := 28) (N := some 38) (v := undef) (a' := ?_) #[true, true, true, true, true, true, true, true, true, true, true, true, true, true, true, true, true, true, true, true, true, true, true, true, true, true, true, true, true, false, false, false, false, false, false, false, false, false, false, false, false, false, false] rfl rfl (any_of HT_.out zk3) (fun _ _ _ h => h) (Or.inr ⟨zk16, rfl⟩) ?_ ?_; rotate_left
      ·exact zk94
      refine pure_ (i := 29) (N := some 39) (v := undef) (a' := ?_) #[true, true, true, true, true, true, true, true, true, true, true, true, true, true, true, true, true, true, true, true, true, true, true, true, true, true, true, true, true, true, false, false, false, false, false, false, false, false, false, false, false, false, false] rfl rfl (any_of HT_.out zk3) (fun _ _ _ h => h) (Or.inr ⟨zk16, rfl⟩) ?_ ?_; rotate_left
      ·exact zk94
      refine pure_ (i := 30) (N := some 40) (v := undef) (a' := ?_) #[true, true, true, true, true, true, true, true, true, true, true, true, true, true, true, true, true, true, true, true, true, true, true, true, true, true, true, true, true, true, true, false, false, false, false, false, false, false, false, false, false, false, false] rfl rfl (any_of HT_.out zk3) (fun _ _ _ h => h) (Or.inr ⟨zk16, rfl⟩) ?_ ?_; rotate_left
      ·exact zk94
      refine pure_ (i := 31) (N := some 41) (v := undef) (a' := ?_) #[true, true, true, true, true, true, true, true, true, true, true, true, true, true, true, true, true, true, true, true, true, true, true, true, true, true, true, true, true, true, true, true, false, false, false, false, false, false, false, false, false, false, false] rfl rfl (any_of HT_.out zk3) (fun _ _ _ h => h) (Or.inr ⟨zk16, rfl⟩) ?_ ?_; rotate_left
      ·exact zk94
      refine pure_ (i := 32) (N := some 42) (v := undef) (a' := ?_) #[true, true, true, true, true, true, true, true, true, true, true, true, true, true, true, true, true, true, true, true, true, true, true, true, true, true, true, true, true, true, true, true, true, false, false, false, false, false, false, false, false, false, false] rfl rfl (any_of HT_.out zk3) (fun _ _ _ h => h) (Or.inr ⟨zk16, rfl⟩) ?_ ?_; rotate_left
      ·exact zk94
      refine pure_ (i := 33) (N := some 43) (v := undef) (a' := ?_) #[true, true, true, true, true, true, true, true, true, true, true, true, true, true, true, true, true, true, true, true, true, true, true, true, true, true, true, true, true, true, true, true, true, true, false, false, false, false, false, false, false, false, false] rfl rfl (any_of HT_.out zk3) (fun _ _ _ h => h) (Or.inr ⟨zk16, rfl⟩) ?_ ?_; rotate_left
      ·exact zk94
      refine pure_ (i := 34) (N := some 44) (v := undef) (a' := ?_) #[true, true, true, true, true, true, true, true, true, true, true, true, true, true, true, true, true, true, true, true, true, true, true, true, true, true, true, true, true, true, true, true, true, true, true, false, false, false, false, false, false, false, false] rfl rfl (any_of HT_.out zk3) (fun _ _ _ h => h) (Or.inr ⟨zk16, rfl⟩) ?_ ?_; rotate_left
      ·exact zk94
      refine pure_ (i := 35) (N := some 45) (v := undef) (a' := ?_) #[true, true, true, true, true, true, true, true, true, true, true, true, true, true, true, true, true, true, true, true, true, true, true, true, true, true, true, true, true, true, true, true, true, true, true, true, false, false, false, false, false, false, false] rfl rfl (any_of HT_.out zk3) (fun _ _ _ h => h) (Or.inr ⟨zk16, rfl⟩) ?_ ?_; rotate_left
      ·exact zk94
      refine pure_ (i := 36) (N := some 46) (v := undef) (a' := ?_) #[true, true, true, true, true, true, true, true, true, true, true, true, true, true, true, true, true, true, true, true, true, true, true, true, true, true, true, true, true, true, true, true, true, true, true, true, true, false, false, false, false, false, false] rfl rfl (any_of HT_.out zk3) (fun _ _ _ h => h) (Or.inr ⟨zk16, rfl⟩) ?_ ?_; rotate_left
      ·exact zk94
      refine pure_ (i := 37) (N := some 47) (v := undef) (a' := ?_) #[true, true, true, true, true, true, true, true, true, true, true, true, true, true, true, true, true, true, true, true, true, true, true, true, true, true, true, true, true, true, true, true, true, true, true, true, true, true, false, false, false, false, false] rfl rfl (any_of HT_.out zk3) (fun _ _ _ h => h) (Or.inr ⟨zk16, rfl⟩) ?_ ?_; rotate_left
      ·exact zk94
      refine pure_ (i := 38) (N := some 48) (v := undef) (a' := ?_) #[true, true, true, true, true, true, true, true, true, true, true, true, true, true, true, true, true, true, true, true, true, true, true, true, true, true, true, true, true, true, true, true, true, true, true, true, true, true, true, false, false, false, false] rfl rfl (any_of HT_.out zk3) (fun _ _ _ h => h) (Or.inr ⟨zk16, rfl⟩) ?_ ?_; rotate_left
      ·exact zk94
      refine pure_ (i := 39) (N := some 49) (v := undef) (a' := ?_) #[true, true, true, true, true, true, true, true, true, true, true, true, true, true, true, true, true, true, true, true, true, true, true, true, true, true, true, true, true, true, true, true, true, true, true, true, true, true, true, true, false, false, false] rfl rfl (any_of HT_.out zk3) (fun _ _ _ h => h) (Or.inr ⟨zk16, rfl⟩) ?_ ?_; rotate_left
      ·exact zk94
      refine pure_ (i := 40) (N := some 50) (v := undef) (a' := ?_) #[true, true, true, true, true, true, true, true, true, true, true, true, true, true, true, true, true, true, true, true, true, true, true, true, true, true, true, true, true, true, true, true, true, true, true, true, true, true, true, true, true, false, false] rfl rfl (any_of HT_.out zk3) (fun _ _ _ h => h) (Or.inr ⟨zk16, rfl⟩) ?_ ?_; rotate_left
      ·exact zk94
      refine pure_ (i := 41) (N := some 51) (v := undef) (a' := ?_) #[true, true, true, true, true, true, true, true, true, true, true, true, true, true, true, true, true, true, true, true, true, true, true, true, true, true, true, true, true, true, true, true, true, true, true, true, true, true, true, true, true, true, false] rfl rfl (any_of HT_.out zk3) (fun _ _ _ h => h) (Or.inr ⟨zk16, rfl⟩) ?_ ?_; rotate_left
      ·exact zk94
      refine pure_ (i := 42) (N := some 52) (v := ?_) (a' := ?_) #[true, true, true, true, true, true, true, true, true, true, true, true, true, true, true, true, true, true, true, true, true, true, true, true, true, true, true, true, true, true, true, true, true, true, true, true, true, true, true, true, true, true, true] rfl rfl (any_of HT_.out zk3) (fun _ _ _ h => h) (Or.inl ⟨zk16, ?_⟩) ?_ ?_; rotate_left
      ·exact zk95
      rotate_left
      ·exact zk94
      refine done_ (done_of HT_.out zk3) ?_; (try go_wp2); go_ret
      exact ⟨zk4, zk1⟩
    ·exact zk127
   ·rw [if_neg c2] at H
    have c2b0 : decide (x3_1 < (l0.length : Int)) = false := decide_eq_false c2; clear c2; by_cases c19 : (l0.length : Int) ≥ 1
    ·rw [if_pos c19] at H
     have c19b0 : decide (1 ≤ (l0.length : Int)) = true := decide_eq_true c19; have c19b1 : decide (1 ≤ l0.length) = true := decide_eq_true zk12; clear c19; obtain rfl := Option.some.inj H; go_wp2; go_ret
     exact ⟨zk4, zk1⟩
    ·rw [if_neg c19] at H
     have c19b0 : decide (1 ≤ (l0.length : Int)) = false := decide_eq_false c19; have c19b1 : decide (1 ≤ l0.length) = false := decide_eq_false zk12; clear c19; obtain rfl := Option.some.inj H; go_wp2; go_ret
     exact ⟨zk4, zk1⟩
end Go.Proofs.Ytlkhdbfhnpbbhaa.Ix
