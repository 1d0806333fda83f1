/- What the laws of this folder share, part 4: walks of functions over their Go text, and plain lemmas. Conditions: as each lemma says. -/
import Derived.WalkKit
import Derived.Test.YtlkhdbfhnpbbhaaProg
import Derived.Test.YtlkhdbfhnpbbhaaRows
import Derived.Below
import Derived.Deep.Draws
import Derived.Deep.AppendLies
import Derived.Maps.AppendAt
import Derived.OwnWalk
import Derived.Laws.BytesArg
import Derived.Laws.MakeOwn
import Derived.Laws.OwnMore
import Derived.Deep.OwnRows
import Derived.Tactics
import Derived.Lib.ConvBytes
import Derived.Laws.Slices
import Derived.KernelRfl
import Derived.RowKit3
import Derived.Deep.LoopGhost
import Derived.Deep.QuietTactic
import Derived.BigQuiet
import Derived.WideLaws
import Derived.Deep.DeepCutAuto
import Derived.Deep.CutBlock
import Derived.Deep.RegionHeld3
import Derived.Laws.Rows
import Derived.Lib.AppendStr
import Derived.ArgAppend
import Derived.Laws.IdiomCopy
import Derived.OrdersHeld
import Derived.Laws.BitsLemmas
import Derived.RowKit
import Derived.RangeFuncNested
import Derived.RangeFuncBound
import Derived.RangeFuncCalls
import Derived.RangeFuncLeaves
import Derived.LoopNIn
import Derived.Scope
import Derived.Shelf.Abstract
import Derived.Shelf.RegionOpen
import Derived.OwnWalkIn
import Derived.TacticsInMore
import Derived.LoopIn
import Derived.OneCell
import Derived.Lib.Hide
import Derived.RangeFuncBox
import Derived.Test.YtlkhdbfhnpbbhaaJnM3
set_option linter.unusedVariables false
set_option linter.unusedSimpArgs false
namespace Go.Proofs.Ytlkhdbfhnpbbhaa.Mx
open Go.RowKit Go.Proofs.YtlkhdbfhnpbbhaaW.PrintWords Go.Proofs.YtlkhdbfhnpbbhaaW.PrintLast Go.Proofs.YtlkhdbfhnpbbhaaW.PrintMore Go.Proofs.Ytlkhdbfhnpbbhaa.Ix
mutual
def varveref12_Eval.l0 : Nat → ByteArray → Int → Int → ByteArray → ByteArray → List ByteArray → List (S54) → Option (Bool)
 | 0, _, _, _, _, _, _, _ => none
 | k + 1, x5, x6, x121000, x121001, x121002, x121003, x121004 => if x6 < (x121003.length : Int) then (if 0 ≤ x6 then (if (rdOf ByteArray.empty x121003 x6).toList = x5.toList then (some true) else (varveref12_Eval.l0 k x5 (wrap64 (x6 + 1)) x121000 x121001 x121002 x121003 x121004)) else (none)) else (some false)
def varveref12_Eval.j1 : Nat → List (S41) → Int → Bool → Int → ByteArray → ByteArray → List ByteArray → List (S54) → Option (Bool)
 | 0, _, _, _, _, _, _, _, _ => none
 | k + 1, x1, x13, x62, x121000, x121001, x121002, x121003, x121004 => if x62 = true then (varveref12_Eval.l1 k x1 0 x121000 x121001 x121002 x121003 x121004) else (if x13 = 7 then (if 0 < (x121004.length : Int) then ((varveref12_Eval.f k ((rd_T54 x121004 0).f0) ((rd_T54 x121004 0).f1) ((rd_T54 x121004 0).f2) ((rd_T54 x121004 0).f3) ((rd_T54 x121004 0).f4) x1).bind fun t126 => (some (!t126))) else (none)) else (some false))
def varveref12_Eval.l1 : Nat → List (S41) → Int → Int → ByteArray → ByteArray → List ByteArray → List (S54) → Option (Bool)
 | 0, _, _, _, _, _, _, _ => none
 | k + 1, x1, x7, x121000, x121001, x121002, x121003, x121004 => if x7 < (x121004.length : Int) then (if 0 ≤ x7 then ((varveref12_Eval.f k ((rd_T54 x121004 x7).f0) ((rd_T54 x121004 x7).f1) ((rd_T54 x121004 x7).f2) ((rd_T54 x121004 x7).f3) ((rd_T54 x121004 x7).f4) x1).bind fun t124 => (if (t124 == (x121000 == 6)) = true then (some (x121000 == 6)) else (varveref12_Eval.l1 k x1 (wrap64 (x7 + 1)) x121000 x121001 x121002 x121003 x121004))) else (none)) else (some (x121000 == 5))
def varveref12_Eval.f : Nat → Int → ByteArray → ByteArray → List ByteArray → List (S54) → List (S41) → Option (Bool)
 | 0, _, _, _, _, _, _ => none
 | k + 1, a0_0, a0_1, a0_2, l0_3, l0_4, l1 => (varveref11_Value.f k l1 a0_1).bind fun t121 => (if a0_0 = 0 then (some true) else (if a0_0 = 1 then (some (t121.toList == a0_2.toList)) else (if a0_0 = 2 then (some (t121.toList != a0_2.toList)) else (if a0_0 = 3 then (if (t121.size : Int) ≥ (a0_2.size : Int) then (if 0 ≤ (a0_2.size : Int) then (if (a0_2.size : Int) ≤ (t121.size : Int) then (some ((t121.extract 0 ((a0_2.size : Int) : Int).toNat).toList == a0_2.toList)) else (none)) else (none)) else (some false)) else (if a0_0 = 4 then (varveref12_Eval.l0 k t121 0 a0_0 a0_1 a0_2 l0_3 l0_4) else (if a0_0 = 5 then (varveref12_Eval.j1 k l1 a0_0 (a0_0 == 5) a0_0 a0_1 a0_2 l0_3 l0_4) else (varveref12_Eval.j1 k l1 a0_0 (a0_0 == 6) a0_0 a0_1 a0_2 l0_3 l0_4)))))))
end
def varveref12_Eval.T10 : Bool × List (List Nat × List Nat) := (true, [([], []), ([0], [0]), ([], []), ([2], [2]), ([3], [3]), ([1, 4], [1, 4]), ([5], [5]), ([6], [6]), ([6], [6]), ([8, 6], [6, 8]), ([9, 6], [6, 9]), ([7, 10, 6], [6, 7, 10]), ([6], [6]), ([12, 6], [6, 12]), ([11, 13, 6], [6, 11, 13]), ([6, 14], [6, 14]), ([15, 6, 0, 1, 2, 3, 4, 5, 6, 7, 8, 9, 10, 11, 12, 13, 14, 15], [15])])
def varveref12_Eval.B10 : List Nat := [0, 1, 0, 4, 12, 31, 63, 127, 127, 383, 895, 2047, 127, 4223, 16383, 32767, 65535]
theorem varveref12_Eval.tab10 : rtab .any (opsOf Try.f48 10) = varveref12_Eval.T10 := by kernel_rfl
theorem varveref12_Eval.bits10 : waitsOk varveref12_Eval.T10.2 varveref12_Eval.B10 = true := by kernel_rfl
def varveref12_Eval.T23 : Bool × List (List Nat × List Nat) := (true, [([], []), ([0], [0]), ([], []), ([1, 2], [1, 2]), ([3], [3]), ([], []), ([4, 5], [4, 5]), ([], []), ([7], [7]), ([8], [8]), ([6, 9], [6, 9])])
def varveref12_Eval.B23 : List Nat := [0, 1, 0, 7, 15, 0, 63, 0, 128, 384, 1023]
theorem varveref12_Eval.tab23 : rtab .any (opsOf Try.f48 23) = varveref12_Eval.T23 := by kernel_rfl
theorem varveref12_Eval.bits23 : waitsOk varveref12_Eval.T23.2 varveref12_Eval.B23 = true := by kernel_rfl
set_option maxHeartbeats 8000000 in
set_option maxRecDepth 100000 in
theorem varveref12_Eval.calls (k : Nat) : ∀ (a0_0 : Int) (a0_1 : ByteArray) (a0_2 : ByteArray) (A0_3 : Option Addr) (c0_3 : Nat) (l0_3 : List ByteArray) (A0_4 : Option Addr) (c0_4 : Nat) (l0_4 : List (S54)) (A1 : Option Addr) (c1 : Nat) (l1 : List (S41)) (r : Bool) (w : World) (hr0_3 : Kd.C Kd.string w A0_3 l0_3.length l0_3) (hc0_3 : l0_3.length ≤ c0_3) (hr0_4 : Kd.C k54 w A0_4 l0_4.length l0_4) (hc0_4 : l0_4.length ≤ c0_4) (hr1 : Kd.C k41 w A1 l1.length l1) (hc1 : l1.length ≤ c1) (h : varveref12_Eval.f k a0_0 a0_1 a0_2 l0_3 l0_4 l1 = some r),
  Calls Try.prog 48 #[.agg #[.int .i64 a0_0, .string a0_1, .string a0_2, .slice A0_3 l0_3.length c0_3, .slice A0_4 l0_4.length c0_4], .slice A1 l1.length c1] w fun e w' => e = .returned (.bool r) ∧ Below w.heap.size w w' := by
 induction k using Nat.strongRecOn with
 | _ k ih =>
 intro a0_0 a0_1 a0_2 A0_3 c0_3 l0_3 A0_4 c0_4 l0_4 A1 c1 l1 r w hr0_3 hc0_3 hr0_4 hc0_4 hr1 hc1 h
 cases k with
 | zero => exact absurd h (by simp [varveref12_Eval.f])
 | succ k =>
 simp only [varveref12_Eval.f] at h; have hu54 := Try.underlying54; have HR0_3 := mkA hr0_3; have HC0_3 := mkA hc0_3; clear hr0_3 hc0_3; have HR0_4 := mkA hr0_4; have HC0_4 := mkA hc0_4; clear hr0_4 hc0_4; have HR1 := mkA hr1; have HC1 := mkA hc1; clear hr1 hc1; have HB := mkA (Below.refl w.heap.size w); have H : ((varveref11_Value.f k l1 a0_1).bind fun t121 => (if a0_0 = 0 then (some true) else (if a0_0 = 1 then (some (t121.toList == a0_2.toList)) else (if a0_0 = 2 then (some (t121.toList != a0_2.toList)) else (if a0_0 = 3 then (if (t121.size : Int) ≥ (a0_2.size : Int) then (if 0 ≤ (a0_2.size : Int) then (if (a0_2.size : Int) ≤ (t121.size : Int) then (some ((t121.extract 0 ((a0_2.size : Int) : Int).toNat).toList == a0_2.toList)) else (none)) else (none)) else (some false)) else (if a0_0 = 4 then (varveref12_Eval.l0 k t121 0 a0_0 a0_1 a0_2 l0_3 l0_4) else (if a0_0 = 5 then (varveref12_Eval.j1 k l1 a0_0 (a0_0 == 5) a0_0 a0_1 a0_2 l0_3 l0_4) else (varveref12_Eval.j1 k l1 a0_0 (a0_0 == 6) a0_0 a0_1 a0_2 l0_3 l0_4)))))))) = some r := h; clear h; replace H := Option.bind_eq_some_iff.mp H; obtain ⟨t121, A30, H⟩ := H; replace H : (if a0_0 = 0 then (some true) else (if a0_0 = 1 then (some (t121.toList == a0_2.toList)) else (if a0_0 = 2 then (some (t121.toList != a0_2.toList)) else (if a0_0 = 3 then (if (t121.size : Int) ≥ (a0_2.size : Int) then (if 0 ≤ (a0_2.size : Int) then (if (a0_2.size : Int) ≤ (t121.size : Int) then (some ((t121.extract 0 ((a0_2.size : Int) : Int).toNat).toList == a0_2.toList)) else (none)) else (none)) else (some false)) else (if a0_0 = 4 then (varveref12_Eval.l0 k t121 0 a0_0 a0_1 a0_2 l0_3 l0_4) else (if a0_0 = 5 then (varveref12_Eval.j1 k l1 a0_0 (a0_0 == 5) a0_0 a0_1 a0_2 l0_3 l0_4) else (varveref12_Eval.j1 k l1 a0_0 (a0_0 == 6) a0_0 a0_1 a0_2 l0_3 l0_4))))))) = some r := H; have A3 := mkA A30; clear A30; by_cases c4 : a0_0 = 0
 ·rw [if_pos c4] at H
  have c4b0 : (a0_0 == 0) = true := beq_iff_eq.mpr c4; have c4b1 : (a0_0 != 0) = false := bne_eq_false_iff_eq.mpr c4; clear c4; obtain rfl := Option.some.inj H; go_enter Try.func48, Try.ntmps48; (go_wp2_with (first | ((with_reducible refine gate_dst (N := 2) rfl ?_); (try (refine gate_guard zk16 ?_; dsimp only)); refine box_event ?hg (N := 2) ?hd (cs := #[.int .i64 a0_0, .string a0_1, .string a0_2, .slice A0_3 l0_3.length c0_3, .slice A0_4 l0_4.length c0_4]) (t := 54) ?hr ?_; (case hd => exact zk16); (case hg => exact zk16); (case hr => exact zk9); intro gb120 hg w5 hbox hb; have n0_ := mkA (below_step zk1 hb); have n1_ := mkA (hbox); have n2_ := mkA ((by rw [hg]; exact (below_size zk1) : w.heap.size ≤ gb120)); have n3_ := mkA ((by rw [hg]; exact (below_size zk1) : w.heap.size ≤ gb120)); clear HB; have HB := n0_; have BK120 := n1_; have GW120 := n2_; have GE120 := n3_; clear n0_ n1_ n2_ n3_; clear hb hbox hg; obtain ⟨hcz6_0, hcz6_1, hcz6_2, hcz6_3, hcz6_4, hfz6_0, hfz6_1, hfz6_2, hfz6_3, hfz6_4⟩ := cf5 BK120.out) | ((with_reducible refine gate_callee (f := 43) rfl ?_); refine goesL_ (some 11) rfl rfl Try.func43 zk3 rfl #[.slice A1 l1.length c1, .string a0_1] rfl zk5 ?_; (with_reducible refine (varveref11_Value.calls k _ _ l1 a0_1 t121 _ ?side1 ?side2 A3.out).mono ?_); (case side1 => exact zk13); (case side2 => exact HC1.out); rintro e w' ⟨rfl, ⟨nd, rfl⟩⟩; refine ⟨_, rfl, ?_⟩))); go_ret
  exact ⟨zk4, zk11⟩
 ·rw [if_neg c4] at H
  have c4b0 : (a0_0 == 0) = false := beq_eq_false_iff_ne.mpr c4; have c4b1 : (a0_0 != 0) = true := bne_iff_ne.mpr c4; by_cases c7 : a0_0 = 1
  ·rw [if_pos c7] at H
   have c7b0 : (a0_0 == 1) = true := beq_iff_eq.mpr c7; have c7b1 : (a0_0 != 1) = false := bne_eq_false_iff_eq.mpr c7; clear c7; obtain rfl := Option.some.inj H; go_enter Try.func48, Try.ntmps48; (go_wp2_with (first | ((with_reducible refine gate_dst (N := 2) rfl ?_); (try (refine gate_guard zk16 ?_; dsimp only)); refine box_event ?hg (N := 2) ?hd (cs := #[.int .i64 a0_0, .string a0_1, .string a0_2, .slice A0_3 l0_3.length c0_3, .slice A0_4 l0_4.length c0_4]) (t := 54) ?hr ?_; (case hd => exact zk16); (case hg => exact zk16); (case hr => exact zk9); intro gb120 hg w8 hbox hb; have n0_ := mkA (below_step zk1 hb); have n1_ := mkA (hbox); have n2_ := mkA ((by rw [hg]; exact (below_size zk1) : w.heap.size ≤ gb120)); have n3_ := mkA ((by rw [hg]; exact (below_size zk1) : w.heap.size ≤ gb120)); clear HB; have HB := n0_; have BK120 := n1_; have GW120 := n2_; have GE120 := n3_; clear n0_ n1_ n2_ n3_; clear hb hbox hg; obtain ⟨hcz9_0, hcz9_1, hcz9_2, hcz9_3, hcz9_4, hfz9_0, hfz9_1, hfz9_2, hfz9_3, hfz9_4⟩ := cf5 BK120.out) | ((with_reducible refine gate_callee (f := 43) rfl ?_); refine goesL_ (some 11) rfl rfl Try.func43 zk3 rfl #[.slice A1 l1.length c1, .string a0_1] rfl zk5 ?_; (with_reducible refine (varveref11_Value.calls k _ _ l1 a0_1 t121 _ ?side1 ?side2 A3.out).mono ?_); (case side1 => exact zk13); (case side2 => exact HC1.out); rintro e w' ⟨rfl, ⟨nd, rfl⟩⟩; refine ⟨_, rfl, ?_⟩))); go_ret
   exact ⟨zk4, zk11⟩
  ·rw [if_neg c7] at H
   have c7b0 : (a0_0 == 1) = false := beq_eq_false_iff_ne.mpr c7; have c7b1 : (a0_0 != 1) = true := bne_iff_ne.mpr c7; by_cases c10 : a0_0 = 2
   ·rw [if_pos c10] at H
    have c10b0 : (a0_0 == 2) = true := beq_iff_eq.mpr c10; have c10b1 : (a0_0 != 2) = false := bne_eq_false_iff_eq.mpr c10; clear c10; obtain rfl := Option.some.inj H; go_enter Try.func48, Try.ntmps48; (go_wp2_with (first | ((with_reducible refine gate_dst (N := 2) rfl ?_); (try (refine gate_guard zk16 ?_; dsimp only)); refine box_event ?hg (N := 2) ?hd (cs := #[.int .i64 a0_0, .string a0_1, .string a0_2, .slice A0_3 l0_3.length c0_3, .slice A0_4 l0_4.length c0_4]) (t := 54) ?hr ?_; (case hd => exact zk16); (case hg => exact zk16); (case hr => exact zk9); intro gb120 hg w11 hbox hb; have n0_ := mkA (below_step zk1 hb); have n1_ := mkA (hbox); have n2_ := mkA ((by rw [hg]; exact (below_size zk1) : w.heap.size ≤ gb120)); have n3_ := mkA ((by rw [hg]; exact (below_size zk1) : w.heap.size ≤ gb120)); clear HB; have HB := n0_; have BK120 := n1_; have GW120 := n2_; have GE120 := n3_; clear n0_ n1_ n2_ n3_; clear hb hbox hg; obtain ⟨hcz12_0, hcz12_1, hcz12_2, hcz12_3, hcz12_4, hfz12_0, hfz12_1, hfz12_2, hfz12_3, hfz12_4⟩ := cf5 BK120.out) | ((with_reducible refine gate_callee (f := 43) rfl ?_); refine goesL_ (some 11) rfl rfl Try.func43 zk3 rfl #[.slice A1 l1.length c1, .string a0_1] rfl zk5 ?_; (with_reducible refine (varveref11_Value.calls k _ _ l1 a0_1 t121 _ ?side1 ?side2 A3.out).mono ?_); (case side1 => exact zk13); (case side2 => exact HC1.out); rintro e w' ⟨rfl, ⟨nd, rfl⟩⟩; refine ⟨_, rfl, ?_⟩))); go_ret
    exact ⟨zk4, zk11⟩
   ·rw [if_neg c10] at H
    have c10b0 : (a0_0 == 2) = false := beq_eq_false_iff_ne.mpr c10; have c10b1 : (a0_0 != 2) = true := bne_iff_ne.mpr c10; by_cases c13 : a0_0 = 3
    ·rw [if_pos c13] at H
     have c13b0 : (a0_0 == 3) = true := beq_iff_eq.mpr c13; have c13b1 : (a0_0 != 3) = false := bne_eq_false_iff_eq.mpr c13; clear c13; by_cases c14 : (t121.size : Int) ≥ (a0_2.size : Int)
     ·rw [if_pos c14] at H
      have c14b0 : decide ((a0_2.size : Int) ≤ (t121.size : Int)) = true := decide_eq_true c14; have c14b1 : decide (a0_2.size ≤ t121.size) = true := decide_eq_true (Int.ofNat_le.mp c14); clear c14; by_cases c15 : 0 ≤ (a0_2.size : Int)
      ·rw [if_pos c15] at H
       have c15b0 := eq_true c15; have c15b1 : decide (0 ≤ (a0_2.size : Int)) = true := decide_eq_true c15; clear c15; by_cases c16 : (a0_2.size : Int) ≤ (t121.size : Int)
       ·rw [if_pos c16] at H
        have c16b0 := eq_true c16; have c16b1 : decide ((a0_2.size : Int) ≤ (t121.size : Int)) = true := decide_eq_true c16; clear c16; obtain rfl := Option.some.inj H; go_enter Try.func48, Try.ntmps48; (try go_wp2_with (first | ((with_reducible refine gate_dst (N := 2) rfl ?_); (try (refine gate_guard zk16 ?_; dsimp only)); refine box_event ?hg (N := 2) ?hd (cs := #[.int .i64 a0_0, .string a0_1, .string a0_2, .slice A0_3 l0_3.length c0_3, .slice A0_4 l0_4.length c0_4]) (t := 54) ?hr ?_; (case hd => exact zk16); (case hg => exact zk16); (case hr => exact zk9); intro gb120 hg w17 hbox hb; have n0_ := mkA (below_step zk1 hb); have n1_ := mkA (hbox); have n2_ := mkA ((by rw [hg]; exact (below_size zk1) : w.heap.size ≤ gb120)); have n3_ := mkA ((by rw [hg]; exact (below_size zk1) : w.heap.size ≤ gb120)); clear HB; have HB := n0_; have BK120 := n1_; have GW120 := n2_; have GE120 := n3_; clear n0_ n1_ n2_ n3_; clear hb hbox hg; obtain ⟨hcz18_0, hcz18_1, hcz18_2, hcz18_3, hcz18_4, hfz18_0, hfz18_1, hfz18_2, hfz18_3, hfz18_4⟩ := cf5 BK120.out) | ((with_reducible refine gate_callee (f := 43) rfl ?_); refine goesL_ (some 11) rfl rfl Try.func43 zk3 rfl #[.slice A1 l1.length c1, .string a0_1] rfl zk5 ?_; (with_reducible refine (varveref11_Value.calls k _ _ l1 a0_1 t121 _ ?side1 ?side2 A3.out).mono ?_); (case side1 => exact zk13); (case side2 => exact HC1.out); rintro e w' ⟨rfl, ⟨nd, rfl⟩⟩; refine ⟨_, rfl, ?_⟩))); (try (rw [drewN_self w17]; generalize hq_ : World.drewN w17 _ = w17; have n0_ : Aside0 (w17.heap[gb120]? = some (.cells #[.int .i64 a0_0, .string a0_1, .string a0_2, .slice A0_3 l0_3.length c0_3, .slice A0_4 l0_4.length c0_4] 54 (0, 0))) := ⟨zk52⟩; have n1_ : Aside0 (Below w.heap.size w w17) := ⟨zk43⟩; clear BK120 HB hq_; have BK120 := n0_; have HB := n1_; clear n0_ n1_)); have n0_ := mkA (blk_drew BK120.out); have n1_ := mkA (below_drew1 HB.out); clear BK120; clear HB; have BK120 := n0_; have HB := n1_; clear n0_ n1_; refine start_ (n := 17) (S := fun w' => w'.cell? ⟨gb120, 0, none⟩ = some (.int .i64 a0_0) ∧ w'.cell? ⟨gb120, 1, none⟩ = some (.string a0_1) ∧ w'.cell? ⟨gb120, 2, none⟩ = some (.string a0_2) ∧ w'.cell? ⟨gb120, 3, none⟩ = some (.slice A0_3 l0_3.length c0_3) ∧ w'.cell? ⟨gb120, 4, none⟩ = some (.slice A0_4 l0_4.length c0_4)) (ds := []) #[false, false, false, false, false, false, false, false, false, false, false, false, false, false, false, false, false] zk3 rfl rfl ⟨(blk_cell BK120.out 0).trans rfl, (blk_cell BK120.out 1).trans rfl, (blk_cell BK120.out 2).trans rfl, (blk_cell BK120.out 3).trans rfl, (blk_cell BK120.out 4).trans rfl⟩ (fun hHeld => ?_); refine with_tabW varveref12_Eval.tab10 varveref12_Eval.bits10 (fun HT_ HW_ => ?_); generalize w17.drew = w19 at BK120 HB hHeld ⊢; refine pure_ (i := 0) (N := some 30) (v := ?_) (a' := ?_) #[true, false, false, false, false, false, false, false, false, false, false, false, false, false, false, false, false] rfl rfl (any_of HT_.out zk3) (fun _ _ _ h => h) (Or.inl ⟨zk16, ?_⟩) ?_ ?_; rotate_left
        ·exact zk95
        rotate_left
        ·exact zk94
        refine pure_ (i := 1) (N := some 31) (v := ?_) (a' := ?_) #[true, true, false, false, false, false, false, false, false, false, false, false, false, false, false, false, false] rfl rfl (any_of HT_.out zk3) (fun _ _ _ h => h) (Or.inl ⟨zk16, ?_⟩) ?_ ?_; rotate_left
        ·exact zk95
        rotate_left
        ·exact zk94
        refine pure_ (i := 2) (N := some 32) (v := ?_) (a' := ?_) #[true, true, true, false, false, false, false, false, false, false, false, false, false, false, false, false, false] rfl rfl (any_of HT_.out zk3) (fun _ _ _ h => h) (Or.inl ⟨zk16, ?_⟩) ?_ ?_; rotate_left
        ·exact zk95
        rotate_left
        ·exact zk94
        refine take_ (i := 3) (N := some 33) (v := ?_) (a' := ?_) #[true, true, true, true, false, false, false, false, false, false, false, false, false, false, false, false, false] rfl rfl (take_ofW HT_.out HW_.out zk3) (fun _ _ _ h => h) (Or.inl ⟨zk16, ?_⟩) hHeld ?_ ?_; rotate_left
        ·exact zk113
        rotate_left
        ·exact zk94
        refine pure_ (i := 4) (N := some 34) (v := ?_) (a' := ?_) #[true, true, true, true, true, false, false, false, false, false, false, false, false, false, false, false, false] rfl rfl (any_of HT_.out zk3) (fun _ _ _ h => h) (Or.inl ⟨zk16, ?_⟩) ?_ ?_; rotate_left
        ·exact zk95
        rotate_left
        ·exact zk94
        refine pure_ (i := 5) (N := some 35) (v := ?_) (a' := ?_) #[true, true, true, true, true, true, false, false, false, false, false, false, false, false, false, false, false] rfl rfl (any_of HT_.out zk3) (fun _ _ _ h => h) (Or.inl ⟨zk16, ?_⟩) ?_ ?_; rotate_left
        ·exact zk95
        rotate_left
        ·exact zk94
        refine pure_ (i := 6) (N := some 36) (v := ?_) (a' := ?_) #[true, true, true, true, true, true, true, false, false, false, false, false, false, false, false, false, false] rfl rfl (any_of HT_.out zk3) (fun _ _ _ h => h) (Or.inl ⟨zk16, ?_⟩) ?_ ?_; rotate_left
        ·exact zk95
        rotate_left
        ·exact zk94
        refine pure_ (i := 7) (N := some 37) (v := ?_) (a' := ?_) #[true, true, true, true, true, true, true, true, false, false, false, false, false, false, false, false, false] rfl rfl (any_of HT_.out zk3) (fun _ _ _ h => h) (Or.inl ⟨zk16, ?_⟩) ?_ ?_; rotate_left
        ·exact zk95
        rotate_left
        ·exact zk94
        refine pure_ (i := 8) (N := some 38) (v := ?_) (a' := ?_) #[true, true, true, true, true, true, true, true, true, false, false, false, false, false, false, false, false] rfl rfl (any_of HT_.out zk3) (fun _ _ _ h => h) (Or.inl ⟨zk16, ?_⟩) ?_ ?_; rotate_left
        ·exact zk95
        rotate_left
        ·exact zk94
        refine pure_ (i := 12) (N := some 42) (v := ?_) (a' := ?_) #[true, true, true, true, true, true, true, true, true, false, false, false, true, false, false, false, false] rfl rfl (any_of HT_.out zk3) (fun _ _ _ h => h) (Or.inl ⟨zk16, ?_⟩) ?_ ?_; rotate_left
        ·exact zk95
        rotate_left
        ·exact zk94
        refine take_ (i := 9) (N := some 39) (v := ?_) (a' := ?_) #[true, true, true, true, true, true, true, true, true, true, false, false, true, false, false, false, false] rfl rfl (take_ofW HT_.out HW_.out zk3) (fun _ _ _ h => h) (Or.inl ⟨zk16, ?_⟩) hHeld ?_ ?_; rotate_left
        ·exact zk113
        rotate_left
        ·exact zk94
        refine pure_ (i := 10) (N := some 40) (v := ?_) (a' := ?_) #[true, true, true, true, true, true, true, true, true, true, true, false, true, false, false, false, false] rfl rfl (any_of HT_.out zk3) (fun _ _ _ h => h) (Or.inl ⟨zk16, ?_⟩) ?_ ?_; rotate_left
        ·exact zk95
        rotate_left
        ·exact zk94
        refine pure_ (i := 11) (N := some 41) (v := ?_) (a' := ?_) #[true, true, true, true, true, true, true, true, true, true, true, true, true, false, false, false, false] rfl rfl (any_of HT_.out zk3) (fun _ _ _ h => h) (Or.inl ⟨zk16, ?_⟩) ?_ ?_; rotate_left
        ·exact zk95
        rotate_left
        ·exact zk94
        refine take_ (i := 13) (N := some 43) (v := ?_) (a' := ?_) #[true, true, true, true, true, true, true, true, true, true, true, true, true, true, false, false, false] rfl rfl (take_ofW HT_.out HW_.out zk3) (fun _ _ _ h => h) (Or.inl ⟨zk16, ?_⟩) hHeld ?_ ?_; rotate_left
        ·exact zk113
        rotate_left
        ·exact zk94
        refine pure_ (i := 14) (N := some 44) (v := ?_) (a' := ?_) #[true, true, true, true, true, true, true, true, true, true, true, true, true, true, true, false, false] rfl rfl (any_of HT_.out zk3) (fun _ _ _ h => h) (Or.inl ⟨zk16, ?_⟩) ?_ ?_; rotate_left
        ·exact zk95
        rotate_left
        ·exact zk94
        refine pure_ (i := 15) (N := some 45) (v := ?_) (a' := ?_) #[true, true, true, true, true, true, true, true, true, true, true, true, true, true, true, true, false] rfl rfl (any_of HT_.out zk3) (fun _ _ _ h => h) (Or.inl ⟨zk16, ?_⟩) ?_ ?_; rotate_left
        ·exact zk95
        rotate_left
        ·exact zk94
        refine pure_ (i := 16) (N := some 4) (v := ?_) (a' := ?_) #[true, true, true, true, true, true, true, true, true, true, true, true, true, true, true, true, true] rfl rfl (any_of HT_.out zk3) (fun _ _ _ h => h) (Or.inl ⟨zk16, ?_⟩) ?_ ?_; rotate_left
        ·exact zk95
        rotate_left
        ·exact zk94
        refine done_ (done_of HT_.out zk3) ?_; (try go_wp2); go_ret
        exact ⟨zk4, zk11⟩
       ·rw [if_neg c16] at H; exact absurd H zk30
      ·rw [if_neg c15] at H; exact absurd H zk30
     ·rw [if_neg c14] at H
      have c14b0 : decide ((a0_2.size : Int) ≤ (t121.size : Int)) = false := decide_eq_false c14; have c14b1 : decide (a0_2.size ≤ t121.size) = false := decide_eq_false (fun h => c14 (Int.ofNat_le.mpr h)); clear c14; obtain rfl := Option.some.inj H; go_enter Try.func48, Try.ntmps48; (try go_wp2_with (first | ((with_reducible refine gate_dst (N := 2) rfl ?_); (try (refine gate_guard zk16 ?_; dsimp only)); refine box_event ?hg (N := 2) ?hd (cs := #[.int .i64 a0_0, .string a0_1, .string a0_2, .slice A0_3 l0_3.length c0_3, .slice A0_4 l0_4.length c0_4]) (t := 54) ?hr ?_; (case hd => exact zk16); (case hg => exact zk16); (case hr => exact zk9); intro gb120 hg w20 hbox hb; have n0_ := mkA (below_step zk1 hb); have n1_ := mkA (hbox); have n2_ := mkA ((by rw [hg]; exact (below_size zk1) : w.heap.size ≤ gb120)); have n3_ := mkA ((by rw [hg]; exact (below_size zk1) : w.heap.size ≤ gb120)); clear HB; have HB := n0_; have BK120 := n1_; have GW120 := n2_; have GE120 := n3_; clear n0_ n1_ n2_ n3_; clear hb hbox hg; obtain ⟨hcz21_0, hcz21_1, hcz21_2, hcz21_3, hcz21_4, hfz21_0, hfz21_1, hfz21_2, hfz21_3, hfz21_4⟩ := cf5 BK120.out) | ((with_reducible refine gate_callee (f := 43) rfl ?_); refine goesL_ (some 11) rfl rfl Try.func43 zk3 rfl #[.slice A1 l1.length c1, .string a0_1] rfl zk5 ?_; (with_reducible refine (varveref11_Value.calls k _ _ l1 a0_1 t121 _ ?side1 ?side2 A3.out).mono ?_); (case side1 => exact zk13); (case side2 => exact HC1.out); rintro e w' ⟨rfl, ⟨nd, rfl⟩⟩; refine ⟨_, rfl, ?_⟩))); (try (rw [drewN_self w20]; generalize hq_ : World.drewN w20 _ = w20; have n0_ : Aside0 (w20.heap[gb120]? = some (.cells #[.int .i64 a0_0, .string a0_1, .string a0_2, .slice A0_3 l0_3.length c0_3, .slice A0_4 l0_4.length c0_4] 54 (0, 0))) := ⟨zk52⟩; have n1_ : Aside0 (Below w.heap.size w w20) := ⟨zk43⟩; clear BK120 HB hq_; have BK120 := n0_; have HB := n1_; clear n0_ n1_)); have n0_ := mkA (blk_drew BK120.out); have n1_ := mkA (below_drew1 HB.out); clear BK120; clear HB; have BK120 := n0_; have HB := n1_; clear n0_ n1_; refine start_ (n := 17) (S := fun w' => w'.cell? ⟨gb120, 0, none⟩ = some (.int .i64 a0_0) ∧ w'.cell? ⟨gb120, 1, none⟩ = some (.string a0_1) ∧ w'.cell? ⟨gb120, 2, none⟩ = some (.string a0_2) ∧ w'.cell? ⟨gb120, 3, none⟩ = some (.slice A0_3 l0_3.length c0_3) ∧ w'.cell? ⟨gb120, 4, none⟩ = some (.slice A0_4 l0_4.length c0_4)) (ds := []) #[false, false, false, false, false, false, false, false, false, false, false, false, false, false, false, false, false] zk3 rfl rfl ⟨(blk_cell BK120.out 0).trans rfl, (blk_cell BK120.out 1).trans rfl, (blk_cell BK120.out 2).trans rfl, (blk_cell BK120.out 3).trans rfl, (blk_cell BK120.out 4).trans rfl⟩ (fun hHeld => ?_); refine with_tabW varveref12_Eval.tab10 varveref12_Eval.bits10 (fun HT_ HW_ => ?_); generalize w20.drew = w22 at BK120 HB hHeld ⊢; refine pure_ (i := 0) (N := some 30) (v := ?_) (a' := ?_) #[true, false, false, false, false, false, false, false, false, false, false, false, false, false, false, false, false] rfl rfl (any_of HT_.out zk3) (fun _ _ _ h => h) (Or.inl ⟨zk16, ?_⟩) ?_ ?_; rotate_left
      ·exact zk95
      rotate_left
      ·exact zk94
      refine pure_ (i := 1) (N := some 31) (v := ?_) (a' := ?_) #[true, true, false, false, false, false, false, false, false, false, false, false, false, false, false, false, false] rfl rfl (any_of HT_.out zk3) (fun _ _ _ h => h) (Or.inl ⟨zk16, ?_⟩) ?_ ?_; rotate_left
      ·exact zk95
      rotate_left
      ·exact zk94
      refine pure_ (i := 2) (N := some 32) (v := ?_) (a' := ?_) #[true, true, true, false, false, false, false, false, false, false, false, false, false, false, false, false, false] rfl rfl (any_of HT_.out zk3) (fun _ _ _ h => h) (Or.inl ⟨zk16, ?_⟩) ?_ ?_; rotate_left
      ·exact zk95
      rotate_left
      ·exact zk94
      refine take_ (i := 3) (N := some 33) (v := ?_) (a' := ?_) #[true, true, true, true, false, false, false, false, false, false, false, false, false, false, false, false, false] rfl rfl (take_ofW HT_.out HW_.out zk3) (fun _ _ _ h => h) (Or.inl ⟨zk16, ?_⟩) hHeld ?_ ?_; rotate_left
      ·exact zk113
      rotate_left
      ·exact zk94
      refine pure_ (i := 4) (N := some 34) (v := ?_) (a' := ?_) #[true, true, true, true, true, false, false, false, false, false, false, false, false, false, false, false, false] rfl rfl (any_of HT_.out zk3) (fun _ _ _ h => h) (Or.inl ⟨zk16, ?_⟩) ?_ ?_; rotate_left
      ·exact zk95
      rotate_left
      ·exact zk94
      refine pure_ (i := 5) (N := some 35) (v := ?_) (a' := ?_) #[true, true, true, true, true, true, false, false, false, false, false, false, false, false, false, false, false] rfl rfl (any_of HT_.out zk3) (fun _ _ _ h => h) (Or.inl ⟨zk16, ?_⟩) ?_ ?_; rotate_left
      ·exact zk95
      rotate_left
      ·exact zk94
      refine pure_ (i := 6) (N := some 36) (v := ?_) (a' := ?_) #[true, true, true, true, true, true, true, false, false, false, false, false, false, false, false, false, false] rfl rfl (any_of HT_.out zk3) (fun _ _ _ h => h) (Or.inl ⟨zk16, ?_⟩) ?_ ?_; rotate_left
      ·exact zk95
      rotate_left
      ·exact zk94
      refine pure_ (i := 7) (N := some 37) (v := undef) (a' := ?_) #[true, true, true, true, true, true, true, true, false, false, false, false, false, false, false, false, false] rfl rfl (any_of HT_.out zk3) (fun _ _ _ h => h) (Or.inr ⟨zk16, rfl⟩) ?_ ?_; rotate_left
      ·exact zk94
      refine pure_ (i := 8) (N := some 38) (v := undef) (a' := ?_) #[true, true, true, true, true, true, true, true, true, false, false, false, false, false, false, false, false] rfl rfl (any_of HT_.out zk3) (fun _ _ _ h => h) (Or.inr ⟨zk16, rfl⟩) ?_ ?_; rotate_left
      ·exact zk94
      refine pure_ (i := 9) (N := some 39) (v := undef) (a' := ?_) #[true, true, true, true, true, true, true, true, true, true, false, false, false, false, false, false, false] rfl rfl (any_of HT_.out zk3) (fun _ _ _ h => h) (Or.inr ⟨zk16, rfl⟩) ?_ ?_; rotate_left
      ·exact zk94
      refine pure_ (i := 10) (N := some 40) (v := undef) (a' := ?_) #[true, true, true, true, true, true, true, true, true, true, true, false, false, false, false, false, false] rfl rfl (any_of HT_.out zk3) (fun _ _ _ h => h) (Or.inr ⟨zk16, rfl⟩) ?_ ?_; rotate_left
      ·exact zk94
      refine pure_ (i := 11) (N := some 41) (v := undef) (a' := ?_) #[true, true, true, true, true, true, true, true, true, true, true, true, false, false, false, false, false] rfl rfl (any_of HT_.out zk3) (fun _ _ _ h => h) (Or.inr ⟨zk16, rfl⟩) ?_ ?_; rotate_left
      ·exact zk94
      refine pure_ (i := 12) (N := some 42) (v := undef) (a' := ?_) #[true, true, true, true, true, true, true, true, true, true, true, true, true, false, false, false, false] rfl rfl (any_of HT_.out zk3) (fun _ _ _ h => h) (Or.inr ⟨zk16, rfl⟩) ?_ ?_; rotate_left
      ·exact zk94
      refine pure_ (i := 13) (N := some 43) (v := undef) (a' := ?_) #[true, true, true, true, true, true, true, true, true, true, true, true, true, true, false, false, false] rfl rfl (any_of HT_.out zk3) (fun _ _ _ h => h) (Or.inr ⟨zk16, rfl⟩) ?_ ?_; rotate_left
      ·exact zk94
      refine pure_ (i := 14) (N := some 44) (v := undef) (a' := ?_) #[true, true, true, true, true, true, true, true, true, true, true, true, true, true, true, false, false] rfl rfl (any_of HT_.out zk3) (fun _ _ _ h => h) (Or.inr ⟨zk16, rfl⟩) ?_ ?_; rotate_left
      ·exact zk94
      refine pure_ (i := 15) (N := some 45) (v := ?_) (a' := ?_) #[true, true, true, true, true, true, true, true, true, true, true, true, true, true, true, true, false] rfl rfl (any_of HT_.out zk3) (fun _ _ _ h => h) (Or.inl ⟨zk16, ?_⟩) ?_ ?_; rotate_left
      ·exact zk95
      rotate_left
      ·exact zk94
      refine pure_ (i := 16) (N := some 4) (v := ?_) (a' := ?_) #[true, true, true, true, true, true, true, true, true, true, true, true, true, true, true, true, true] rfl rfl (any_of HT_.out zk3) (fun _ _ _ h => h) (Or.inl ⟨zk16, ?_⟩) ?_ ?_; rotate_left
      ·exact zk95
      rotate_left
      ·exact zk94
      refine done_ (done_of HT_.out zk3) ?_; (try go_wp2); go_ret
      exact ⟨zk4, zk11⟩
    ·rw [if_neg c13] at H
     have c13b0 : (a0_0 == 3) = false := beq_eq_false_iff_ne.mpr c13; have c13b1 : (a0_0 != 3) = true := bne_iff_ne.mpr c13; by_cases c23 : a0_0 = 4
     ·rw [if_pos c23] at H
      have c23b0 : (a0_0 == 4) = true := beq_iff_eq.mpr c23; have c23b1 : (a0_0 != 4) = false := bne_eq_false_iff_eq.mpr c23; clear c23; have H' := mkA H; clear H; go_enter Try.func48, Try.ntmps48; (go_wp2_with (first | ((with_reducible refine gate_dst (N := 2) rfl ?_); (try (refine gate_guard zk16 ?_; dsimp only)); refine box_event ?hg (N := 2) ?hd (cs := #[.int .i64 a0_0, .string a0_1, .string a0_2, .slice A0_3 l0_3.length c0_3, .slice A0_4 l0_4.length c0_4]) (t := 54) ?hr ?_; (case hd => exact zk16); (case hg => exact zk16); (case hr => exact zk9); intro gb120 hg w24 hbox hb; have n0_ := mkA (below_step zk1 hb); have n1_ := mkA (hbox); have n2_ := mkA ((by rw [hg]; exact (below_size zk1) : w.heap.size ≤ gb120)); have n3_ := mkA ((by rw [hg]; exact (below_size zk1) : w.heap.size ≤ gb120)); clear HB; have HB := n0_; have BK120 := n1_; have GW120 := n2_; have GE120 := n3_; clear n0_ n1_ n2_ n3_; clear hb hbox hg; obtain ⟨hcz25_0, hcz25_1, hcz25_2, hcz25_3, hcz25_4, hfz25_0, hfz25_1, hfz25_2, hfz25_3, hfz25_4⟩ := cf5 BK120.out) | ((with_reducible refine gate_callee (f := 43) rfl ?_); refine goesL_ (some 11) rfl rfl Try.func43 zk3 rfl #[.slice A1 l1.length c1, .string a0_1] rfl zk5 ?_; (with_reducible refine (varveref11_Value.calls k _ _ l1 a0_1 t121 _ ?side1 ?side2 A3.out).mono ?_); (case side1 => exact zk13); (case side2 => exact HC1.out); rintro e w' ⟨rfl, ⟨nd, rfl⟩⟩; refine ⟨_, rfl, ?_⟩))); go_loopg [6] k (fun kq v6 w' => ∃ (x6_1 : Int), v6 = .int .i64 x6_1 ∧ Aside0 (varveref12_Eval.l0 kq t121 x6_1 a0_0 a0_1 a0_2 l0_3 l0_4 = some r) ∧ Aside0 (kq ≤ k) ∧ Aside0 (w'.heap[gb120]? = some (.cells #[.int .i64 a0_0, .string a0_1, .string a0_2, (.slice A0_3 l0_3.length c0_3), (.slice A0_4 l0_4.length c0_4)] 54 (0, 0))) ∧ Aside0 (Below w.heap.size w w'))
      case atStart => exact ⟨(0), zk6, H', ⟨Nat.le_refl _⟩, ⟨zk25⟩, ⟨zk11⟩⟩
      case round =>
       clear H'; (try clear c1); (try clear c2); (try clear p2); (try clear c4); (try clear c4b0); (try clear c4b1); (try clear c7); (try clear c7b0); (try clear c7b1); (try clear c10); (try clear c10b0); (try clear c10b1); (try clear c13); (try clear c13b0); (try clear c13b1); (try clear c14); (try clear c14b0); (try clear c14b1); (try clear c15); (try clear c15b0); (try clear c15b1); (try clear c16); (try clear c16b0); (try clear c16b1); (try clear c23); (try clear c23b0); (try clear c23b1); (try clear hcz12_0); (try clear hcz12_1); (try clear hcz12_2); (try clear hcz12_3); (try clear hcz12_4); (try clear hcz18_0); (try clear hcz18_1); (try clear hcz18_2); (try clear hcz18_3); (try clear hcz18_4); (try clear hcz21_0); (try clear hcz21_1); (try clear hcz21_2); (try clear hcz21_3); (try clear hcz21_4); (try clear hcz25_0); (try clear hcz25_1); (try clear hcz25_2); (try clear hcz25_3); (try clear hcz25_4); (try clear hcz6_0); (try clear hcz6_1); (try clear hcz6_2); (try clear hcz6_3); (try clear hcz6_4); (try clear hcz9_0); (try clear hcz9_1); (try clear hcz9_2); (try clear hcz9_3); (try clear hcz9_4); (try clear hfz12_0); (try clear hfz12_1); (try clear hfz12_2); (try clear hfz12_3); (try clear hfz12_4); (try clear hfz18_0); (try clear hfz18_1); (try clear hfz18_2); (try clear hfz18_3); (try clear hfz18_4); (try clear hfz21_0); (try clear hfz21_1); (try clear hfz21_2); (try clear hfz21_3); (try clear hfz21_4); (try clear hfz25_0); (try clear hfz25_1); (try clear hfz25_2); (try clear hfz25_3); (try clear hfz25_4); (try clear hfz6_0); (try clear hfz6_1); (try clear hfz6_2); (try clear hfz6_3); (try clear hfz6_4); (try clear hfz9_0); (try clear hfz9_1); (try clear hfz9_2); (try clear hfz9_3); (try clear hfz9_4); obtain ⟨x6_1, rfl, HA, HK1, BK120, HB⟩ := hrel
       cases gk with
       | zero => exact absurd HA.out (by simp [varveref12_Eval.l0])
       | succ k1 =>
        have H := HA.out; clear HA; simp only [varveref12_Eval.l0] at H; by_cases c26 : x6_1 < (l0_3.length : Int)
        ·rw [if_pos c26] at H
         have c26b0 : decide (x6_1 < (l0_3.length : Int)) = true := decide_eq_true c26; clear c26; by_cases c27 : 0 ≤ x6_1
         ·rw [if_pos c27] at H
          have c27b0 : decide (0 ≤ x6_1) = true := decide_eq_true c27; clear c27; by_cases c28 : (rdOf ByteArray.empty l0_3 x6_1).toList = t121.toList
          ·rw [if_pos c28] at H
           have c28b0 : ((rdOf ByteArray.empty l0_3 x6_1).toList == t121.toList) = true := beq_iff_eq.mpr c28; have c28b1 : ((rdOf ByteArray.empty l0_3 x6_1).toList != t121.toList) = false := bne_eq_false_iff_eq.mpr c28; clear c28; obtain rfl := Option.some.inj H; obtain ⟨hcz29_0, hcz29_1, hcz29_2, hcz29_3, hcz29_4, hfz29_0, hfz29_1, hfz29_2, hfz29_3, hfz29_4⟩ := cf5 BK120.out; have p122 : 0 ≤ (x6_1 : Int) := of_decide_eq_true zk2; have q122 : x6_1 < (l0_3.length : Int) := of_decide_eq_true zk2; obtain ⟨ad122, e122, hx122_0⟩ := Kd.at_string HR0_3.out x6_1 p122 q122; cases e122; replace hx122_0 := (HB.out.cell (World.block_lt_of_cell? w _ hx122_0)).trans hx122_0; replace p122 := eq_true p122; replace q122 := eq_true q122; go_wp2; go_ret
           exact ⟨zk4, zk11⟩
          ·rw [if_neg c28] at H
           have c28b0 : ((rdOf ByteArray.empty l0_3 x6_1).toList == t121.toList) = false := beq_eq_false_iff_ne.mpr c28; have c28b1 : ((rdOf ByteArray.empty l0_3 x6_1).toList != t121.toList) = true := bne_iff_ne.mpr c28; have H' := mkA H; clear H; obtain ⟨hcz30_0, hcz30_1, hcz30_2, hcz30_3, hcz30_4, hfz30_0, hfz30_1, hfz30_2, hfz30_3, hfz30_4⟩ := cf5 BK120.out; have p122 : 0 ≤ (x6_1 : Int) := of_decide_eq_true zk2; have q122 : x6_1 < (l0_3.length : Int) := of_decide_eq_true zk2; obtain ⟨ad122, e122, hx122_0⟩ := Kd.at_string HR0_3.out x6_1 p122 q122; cases e122; replace hx122_0 := (HB.out.cell (World.block_lt_of_cell? w _ hx122_0)).trans hx122_0; replace p122 := eq_true p122; replace q122 := eq_true q122; go_wp2; go_roundg k1
           case measure => have := HK1.out; omega
           case rel => exact ⟨(wrap64 (x6_1 + 1)), zk6, H', ⟨zk42⟩, ⟨zk25⟩, ⟨zk11⟩⟩
         ·rw [if_neg c27] at H; exact absurd H zk30
        ·rw [if_neg c26] at H
         have c26b0 : decide (x6_1 < (l0_3.length : Int)) = false := decide_eq_false c26; clear c26; obtain rfl := Option.some.inj H; obtain ⟨hcz31_0, hcz31_1, hcz31_2, hcz31_3, hcz31_4, hfz31_0, hfz31_1, hfz31_2, hfz31_3, hfz31_4⟩ := cf5 BK120.out; go_wp2; go_ret
         exact ⟨zk4, zk11⟩
     ·rw [if_neg c23] at H
      have c23b0 : (a0_0 == 4) = false := beq_eq_false_iff_ne.mpr c23; have c23b1 : (a0_0 != 4) = true := bne_iff_ne.mpr c23; have HC32 := mkA H; clear H; go_enter Try.func48, Try.ntmps48; go_upto_if 62 with (first | ((with_reducible refine gate_dst (N := 2) rfl ?_); (try (refine gate_guard zk16 ?_; dsimp only)); refine box_event ?hg (N := 2) ?hd (cs := #[.int .i64 a0_0, .string a0_1, .string a0_2, .slice A0_3 l0_3.length c0_3, .slice A0_4 l0_4.length c0_4]) (t := 54) ?hr ?_; (case hd => exact zk16); (case hg => exact zk16); (case hr => exact zk9); intro gb120 hg w33 hbox hb; have n0_ := mkA (below_step zk1 hb); have n1_ := mkA (hbox); have n2_ := mkA ((by rw [hg]; exact (below_size zk1) : w.heap.size ≤ gb120)); have n3_ := mkA ((by rw [hg]; exact (below_size zk1) : w.heap.size ≤ gb120)); clear HB; have HB := n0_; have BK120 := n1_; have GW120 := n2_; have GE120 := n3_; clear n0_ n1_ n2_ n3_; clear hb hbox hg; obtain ⟨hcz34_0, hcz34_1, hcz34_2, hcz34_3, hcz34_4, hfz34_0, hfz34_1, hfz34_2, hfz34_3, hfz34_4⟩ := cf5 BK120.out) | ((with_reducible refine gate_callee (f := 43) rfl ?_); refine goesL_ (some 11) rfl rfl Try.func43 zk3 rfl #[.slice A1 l1.length c1, .string a0_1] rfl zk5 ?_; (with_reducible refine (varveref11_Value.calls k _ _ l1 a0_1 t121 _ ?side1 ?side2 A3.out).mono ?_); (case side1 => exact zk13); (case side2 => exact HC1.out); rintro e w' ⟨rfl, ⟨nd, rfl⟩⟩; refine ⟨_, rfl, ?_⟩))
      (try simp only [Act.put, List.setIfInBounds_toArray, List.set_cons_zero, List.set_cons_succ]); go_cut [62] (fun v62 wc => ∃ (kq : Nat) (x62_31 : Bool), v62 = .bool x62_31 ∧ Aside0 (varveref12_Eval.j1 kq l1 a0_0 x62_31 a0_0 a0_1 a0_2 l0_3 l0_4 = some r) ∧ Aside0 (kq ≤ k) ∧ Aside0 (wc.heap[gb120]? = some (.cells #[.int .i64 a0_0, .string a0_1, .string a0_2, (.slice A0_3 l0_3.length c0_3), (.slice A0_4 l0_4.length c0_4)] 54 (0, 0))) ∧ Aside0 (Below w.heap.size w wc))
      case first =>
       have H := HC32.out; clear HC32; by_cases c35 : a0_0 = 5
       ·rw [if_pos c35] at H
        have c35b0 : (a0_0 == 5) = true := beq_iff_eq.mpr c35; have c35b1 : (a0_0 != 5) = false := bne_eq_false_iff_eq.mpr c35; clear c35; (first | rw [c35b0] | (simp only [i64_w, i32_w]; rw [c35b0]) | skip); have H' := mkA H; clear H; go_wp2; go_meet
        case rel => exact ⟨_, ((a0_0 == 5)), zk6, H', ⟨zk31⟩, ⟨zk25⟩, ⟨zk11⟩⟩
       ·rw [if_neg c35] at H
        have c35b0 : (a0_0 == 5) = false := beq_eq_false_iff_ne.mpr c35; have c35b1 : (a0_0 != 5) = true := bne_iff_ne.mpr c35; (first | rw [c35b0] | (simp only [i64_w, i32_w]; rw [c35b0]) | skip); have H' := mkA H; clear H; go_wp2; go_meet
        case rel => exact ⟨_, ((a0_0 == 6)), zk6, H', ⟨zk31⟩, ⟨zk25⟩, ⟨zk11⟩⟩
      case rest =>
       clear HC32; (try clear c1); (try clear p1); (try clear q1); (try clear hx1); (try clear c2); (try clear p2); (try clear c3); (try clear c4); (try clear c4b0); (try clear c4b1); (try clear p6); (try clear c7); (try clear c7b0); (try clear c7b1); (try clear c10); (try clear c10b0); (try clear c10b1); (try clear p12); (try clear q12); (try clear hx12); (try clear c13); (try clear c13b0); (try clear c13b1); (try clear c14); (try clear c14b0); (try clear c14b1); (try clear c15); (try clear c15b0); (try clear c15b1); (try clear c16); (try clear c16b0); (try clear c16b1); (try clear c23); (try clear c23b0); (try clear c23b1); (try clear c26); (try clear c26b0); (try clear c27); (try clear c27b0); (try clear c28); (try clear c28b0); (try clear c28b1); (try clear c35); (try clear c35b0); (try clear c35b1); (try clear hcz12_0); (try clear hcz12_1); (try clear hcz12_2); (try clear hcz12_3); (try clear hcz12_4); (try clear hcz18_0); (try clear hcz18_1); (try clear hcz18_2); (try clear hcz18_3); (try clear hcz18_4); (try clear hcz21_0); (try clear hcz21_1); (try clear hcz21_2); (try clear hcz21_3); (try clear hcz21_4); (try clear hcz25_0); (try clear hcz25_1); (try clear hcz25_2); (try clear hcz25_3); (try clear hcz25_4); (try clear hcz29_0); (try clear hcz29_1); (try clear hcz29_2); (try clear hcz29_3); (try clear hcz29_4); (try clear hcz30_0); (try clear hcz30_1); (try clear hcz30_2); (try clear hcz30_3); (try clear hcz30_4); (try clear hcz31_0); (try clear hcz31_1); (try clear hcz31_2); (try clear hcz31_3); (try clear hcz31_4); (try clear hcz34_0); (try clear hcz34_1); (try clear hcz34_2); (try clear hcz34_3); (try clear hcz34_4); (try clear hcz6_0); (try clear hcz6_1); (try clear hcz6_2); (try clear hcz6_3); (try clear hcz6_4); (try clear hcz9_0); (try clear hcz9_1); (try clear hcz9_2); (try clear hcz9_3); (try clear hcz9_4); (try clear hfz12_0); (try clear hfz12_1); (try clear hfz12_2); (try clear hfz12_3); (try clear hfz12_4); (try clear hfz18_0); (try clear hfz18_1); (try clear hfz18_2); (try clear hfz18_3); (try clear hfz18_4); (try clear hfz21_0); (try clear hfz21_1); (try clear hfz21_2); (try clear hfz21_3); (try clear hfz21_4); (try clear hfz25_0); (try clear hfz25_1); (try clear hfz25_2); (try clear hfz25_3); (try clear hfz25_4); (try clear hfz29_0); (try clear hfz29_1); (try clear hfz29_2); (try clear hfz29_3); (try clear hfz29_4); (try clear hfz30_0); (try clear hfz30_1); (try clear hfz30_2); (try clear hfz30_3); (try clear hfz30_4); (try clear hfz31_0); (try clear hfz31_1); (try clear hfz31_2); (try clear hfz31_3); (try clear hfz31_4); (try clear hfz34_0); (try clear hfz34_1); (try clear hfz34_2); (try clear hfz34_3); (try clear hfz34_4); (try clear hfz6_0); (try clear hfz6_1); (try clear hfz6_2); (try clear hfz6_3); (try clear hfz6_4); (try clear hfz9_0); (try clear hfz9_1); (try clear hfz9_2); (try clear hfz9_3); (try clear hfz9_4); (try clear hx122_0); (try clear p122); (try clear p2); (try clear q122); obtain ⟨kq, x62_31, rfl, HA, HJ31, BK120, HB⟩ := hcut
       cases kq with
       | zero => exact absurd HA.out (by simp [varveref12_Eval.j1])
       | succ kj31 =>
        have H := HA.out; clear HA; simp only [varveref12_Eval.j1] at H; by_cases c36 : x62_31 = true
        ·subst c36
         have H1 : (varveref12_Eval.l1 kj31 l1 0 a0_0 a0_1 a0_2 l0_3 l0_4) = some r := zk29
         clear H; have H := H1; clear H1; have H' := mkA H; clear H; go_wp2; go_loopg [7] kj31 (fun kq v7 w' => ∃ (x7_2 : Int), v7 = .int .i64 x7_2 ∧ Aside0 (varveref12_Eval.l1 kq l1 x7_2 a0_0 a0_1 a0_2 l0_3 l0_4 = some r) ∧ Aside0 (kq ≤ kj31) ∧ Aside0 (w'.heap[gb120]? = some (.cells #[.int .i64 a0_0, .string a0_1, .string a0_2, (.slice A0_3 l0_3.length c0_3), (.slice A0_4 l0_4.length c0_4)] 54 (0, 0))) ∧ Aside0 (Below w.heap.size w w'))
         case atStart => exact ⟨(0), zk6, H', ⟨Nat.le_refl _⟩, ⟨zk25⟩, ⟨zk11⟩⟩
         case round =>
          clear H'; (try clear c1); (try clear p1); (try clear q1); (try clear hx1); (try clear c2); (try clear p2); (try clear c3); (try clear c4); (try clear c4b0); (try clear c4b1); (try clear p6); (try clear c7); (try clear c7b0); (try clear c7b1); (try clear c10); (try clear c10b0); (try clear c10b1); (try clear p12); (try clear q12); (try clear hx12); (try clear c13); (try clear c13b0); (try clear c13b1); (try clear c14); (try clear c14b0); (try clear c14b1); (try clear c15); (try clear c15b0); (try clear c15b1); (try clear c16); (try clear c16b0); (try clear c16b1); (try clear c23); (try clear c23b0); (try clear c23b1); (try clear c26); (try clear c26b0); (try clear c27); (try clear c27b0); (try clear c28); (try clear c28b0); (try clear c28b1); (try clear c35); (try clear c35b0); (try clear c35b1); (try clear c36); (try clear hcz12_0); (try clear hcz12_1); (try clear hcz12_2); (try clear hcz12_3); (try clear hcz12_4); (try clear hcz18_0); (try clear hcz18_1); (try clear hcz18_2); (try clear hcz18_3); (try clear hcz18_4); (try clear hcz21_0); (try clear hcz21_1); (try clear hcz21_2); (try clear hcz21_3); (try clear hcz21_4); (try clear hcz25_0); (try clear hcz25_1); (try clear hcz25_2); (try clear hcz25_3); (try clear hcz25_4); (try clear hcz29_0); (try clear hcz29_1); (try clear hcz29_2); (try clear hcz29_3); (try clear hcz29_4); (try clear hcz30_0); (try clear hcz30_1); (try clear hcz30_2); (try clear hcz30_3); (try clear hcz30_4); (try clear hcz31_0); (try clear hcz31_1); (try clear hcz31_2); (try clear hcz31_3); (try clear hcz31_4); (try clear hcz34_0); (try clear hcz34_1); (try clear hcz34_2); (try clear hcz34_3); (try clear hcz34_4); (try clear hcz6_0); (try clear hcz6_1); (try clear hcz6_2); (try clear hcz6_3); (try clear hcz6_4); (try clear hcz9_0); (try clear hcz9_1); (try clear hcz9_2); (try clear hcz9_3); (try clear hcz9_4); (try clear hfz12_0); (try clear hfz12_1); (try clear hfz12_2); (try clear hfz12_3); (try clear hfz12_4); (try clear hfz18_0); (try clear hfz18_1); (try clear hfz18_2); (try clear hfz18_3); (try clear hfz18_4); (try clear hfz21_0); (try clear hfz21_1); (try clear hfz21_2); (try clear hfz21_3); (try clear hfz21_4); (try clear hfz25_0); (try clear hfz25_1); (try clear hfz25_2); (try clear hfz25_3); (try clear hfz25_4); (try clear hfz29_0); (try clear hfz29_1); (try clear hfz29_2); (try clear hfz29_3); (try clear hfz29_4); (try clear hfz30_0); (try clear hfz30_1); (try clear hfz30_2); (try clear hfz30_3); (try clear hfz30_4); (try clear hfz31_0); (try clear hfz31_1); (try clear hfz31_2); (try clear hfz31_3); (try clear hfz31_4); (try clear hfz34_0); (try clear hfz34_1); (try clear hfz34_2); (try clear hfz34_3); (try clear hfz34_4); (try clear hfz6_0); (try clear hfz6_1); (try clear hfz6_2); (try clear hfz6_3); (try clear hfz6_4); (try clear hfz9_0); (try clear hfz9_1); (try clear hfz9_2); (try clear hfz9_3); (try clear hfz9_4); (try clear hx122_0); (try clear p1); (try clear p12); (try clear p122); (try clear p2); (try clear p6); (try clear q1); (try clear q12); (try clear q122); obtain ⟨x7_2, rfl, HA, HK2, BK120, HB⟩ := hrel
          cases gk with
          | zero => exact absurd HA.out (by simp [varveref12_Eval.l1])
          | succ k2 =>
           have H := HA.out; clear HA; simp only [varveref12_Eval.l1] at H; by_cases c37 : x7_2 < (l0_4.length : Int)
           ·rw [if_pos c37] at H
            have c37b0 : decide (x7_2 < (l0_4.length : Int)) = true := decide_eq_true c37; clear c37; by_cases c38 : 0 ≤ x7_2
            ·rw [if_pos c38] at H
             have c38b0 : decide (0 ≤ x7_2) = true := decide_eq_true c38; clear c38; replace H := Option.bind_eq_some_iff.mp H; obtain ⟨t124, A390, H⟩ := H; replace H : (if (t124 == (a0_0 == 6)) = true then (some (a0_0 == 6)) else (varveref12_Eval.l1 k2 l1 (wrap64 (x7_2 + 1)) a0_0 a0_1 a0_2 l0_3 l0_4)) = some r := H; have A39 := mkA A390; clear A390; by_cases c40 : (t124 == (a0_0 == 6)) = true
             ·rw [if_pos c40] at H
              have c40b0 : (t124 == (a0_0 == 6)) = true := c40; (try (have c40b1 : decide (t124 = (a0_0 == 6)) = true := zk91)); (try (have c40b2 : (t124 == (a0_0 == 6)) = true := zk91)); clear c40; obtain rfl := Option.some.inj H; obtain ⟨hcz41_0, hcz41_1, hcz41_2, hcz41_3, hcz41_4, hfz41_0, hfz41_1, hfz41_2, hfz41_3, hfz41_4⟩ := cf5 BK120.out; (try go_wp2); have n0_ := mkA (blk_drew BK120.out); have n1_ := mkA (below_drew1 HB.out); clear BK120; clear HB; have BK120 := n0_; have HB := n1_; clear n0_ n1_; have p123 : 0 ≤ (x7_2 : Int) := of_decide_eq_true zk2; have q123 : x7_2 < (l0_4.length : Int) := of_decide_eq_true zk2; obtain ⟨ad123, A123_3, c123_3, A123_4, c123_4, e123, hx123_0, hx123_1, hx123_2, hx123_3, hx123_4, hl123_3, hi123_3, hl123_4, hi123_4⟩ := at_T54 HR0_4.out x7_2 p123 q123; have hw123_4 := hx123_4; have hw123_3 := hx123_3; have hw123_2 := hx123_2; have hw123_1 := hx123_1; have hw123_0 := hx123_0; cases e123; replace hx123_0 := (HB.out.cell (World.block_lt_of_cell? w _ hx123_0)).trans hx123_0; replace hx123_1 := (HB.out.cell (World.block_lt_of_cell? w _ hx123_1)).trans hx123_1; replace hx123_2 := (HB.out.cell (World.block_lt_of_cell? w _ hx123_2)).trans hx123_2; replace hx123_3 := (HB.out.cell (World.block_lt_of_cell? w _ hx123_3)).trans hx123_3; replace hx123_4 := (HB.out.cell (World.block_lt_of_cell? w _ hx123_4)).trans hx123_4; have HR123_3 := mkA hi123_3; have HC123_3 := mkA hl123_3; clear hi123_3 hl123_3; have HR123_4 := mkA hi123_4; have HC123_4 := mkA hl123_4; clear hi123_4 hl123_4; replace p123 := eq_true p123; replace q123 := eq_true q123; refine start_ (n := 11) (S := fun w' => w'.cell? ⟨gb120, 0, none⟩ = some (.int .i64 a0_0) ∧ w'.cell? ⟨gb120, 1, none⟩ = some (.string a0_1) ∧ w'.cell? ⟨gb120, 2, none⟩ = some (.string a0_2) ∧ w'.cell? ⟨gb120, 3, none⟩ = some (.slice A0_3 l0_3.length c0_3) ∧ w'.cell? ⟨gb120, 4, none⟩ = some (.slice (some ad123) l0_4.length c0_4) ∧ w'.cell? (ad123.add ((x7_2).toNat * 5)) = some (.int .i64 ((rd_T54 l0_4 x7_2).f0)) ∧ w'.cell? ⟨(ad123.add ((x7_2).toNat * 5)).block, (ad123.add ((x7_2).toNat * 5)).off + 1, none⟩ = some (.string ((rd_T54 l0_4 x7_2).f1)) ∧ w'.cell? ⟨(ad123.add ((x7_2).toNat * 5)).block, (ad123.add ((x7_2).toNat * 5)).off + 2, none⟩ = some (.string ((rd_T54 l0_4 x7_2).f2)) ∧ w'.cell? ⟨(ad123.add ((x7_2).toNat * 5)).block, (ad123.add ((x7_2).toNat * 5)).off + 3, none⟩ = some (.slice A123_3 ((rd_T54 l0_4 x7_2).f3).length c123_3) ∧ w'.cell? ⟨(ad123.add ((x7_2).toNat * 5)).block, (ad123.add ((x7_2).toNat * 5)).off + 4, none⟩ = some (.slice A123_4 ((rd_T54 l0_4 x7_2).f4).length c123_4)) (ds := []) #[false, false, false, false, false, false, false, false, false, false, false] zk3 rfl rfl ⟨(blk_cell BK120.out 0).trans rfl, (blk_cell BK120.out 1).trans rfl, (blk_cell BK120.out 2).trans rfl, (blk_cell BK120.out 3).trans rfl, (blk_cell BK120.out 4).trans rfl, ((HB.out.cell (World.block_lt_of_cell? w _ hw123_0)).trans hw123_0), ((HB.out.cell (World.block_lt_of_cell? w _ hw123_1)).trans hw123_1), ((HB.out.cell (World.block_lt_of_cell? w _ hw123_2)).trans hw123_2), ((HB.out.cell (World.block_lt_of_cell? w _ hw123_3)).trans hw123_3), ((HB.out.cell (World.block_lt_of_cell? w _ hw123_4)).trans hw123_4)⟩ (fun hHeld => ?_); refine with_tabW varveref12_Eval.tab23 varveref12_Eval.bits23 (fun HT_ HW_ => ?_); generalize wr.drew = w42 at BK120 HB HR123_3 HR123_4 hx123_0 hx123_1 hx123_2 hx123_3 hx123_4 hHeld ⊢; refine pure_ (i := 0) (N := some 72) (v := ?_) (a' := ?_) #[true, false, false, false, false, false, false, false, false, false, false] rfl rfl (any_of HT_.out zk3) (fun _ _ _ h => h) (Or.inl ⟨zk16, ?_⟩) ?_ ?_; rotate_left
              ·exact zk95
              rotate_left
              ·exact zk94
              refine pure_ (i := 2) (N := some 74) (v := ?_) (a' := ?_) #[true, false, true, false, false, false, false, false, false, false, false] rfl rfl (any_of HT_.out zk3) (fun _ _ _ h => h) (Or.inl ⟨zk16, ?_⟩) ?_ ?_; rotate_left
              ·exact zk95
              rotate_left
              ·exact zk94
              refine pure_ (i := 5) (N := some 77) (v := ?_) (a' := ?_) #[true, false, true, false, false, true, false, false, false, false, false] rfl rfl (any_of HT_.out zk3) (fun _ _ _ h => h) (Or.inl ⟨zk16, ?_⟩) ?_ ?_; rotate_left
              ·exact zk95
              rotate_left
              ·exact zk94
              refine pure_ (i := 7) (N := some 79) (v := ?_) (a' := ?_) #[true, false, true, false, false, true, false, true, false, false, false] rfl rfl (any_of HT_.out zk3) (fun _ _ _ h => h) (Or.inl ⟨zk16, ?_⟩) ?_ ?_; rotate_left
              ·exact zk95
              rotate_left
              ·exact zk94
              refine take_ (i := 1) (N := some 73) (v := ?_) (a' := ?_) #[true, true, true, false, false, true, false, true, false, false, false] rfl rfl (take_ofW HT_.out HW_.out zk3) (fun _ _ _ h => h) (Or.inl ⟨zk16, ?_⟩) hHeld ?_ ?_; rotate_left
              ·exact zk96
              rotate_left
              ·exact zk94
              refine pure_ (i := 3) (N := some 75) (v := ?_) (a' := ?_) #[true, true, true, true, false, true, false, true, false, false, false] rfl rfl (any_of HT_.out zk3) (fun _ _ _ h => h) (Or.inl ⟨zk16, ?_⟩) ?_ ?_; rotate_left
              ·exact zk95
              rotate_left
              ·exact zk94
              refine take_ (i := 4) (N := some 76) (v := ?_) (a' := ?_) #[true, true, true, true, true, true, false, true, false, false, false] rfl rfl (take_ofW HT_.out HW_.out zk3) (fun _ _ _ h => h) (Or.inl ⟨zk16, ?_⟩) hHeld ?_ ?_; rotate_left
              ·exact zk96
              rotate_left
              ·exact zk94
              refine take_ (i := 8) (N := some 80) (v := ?_) (a' := ?_) #[true, true, true, true, true, true, false, true, true, false, false] rfl rfl (take_ofW HT_.out HW_.out zk3) (fun _ _ _ h => h) (Or.inl ⟨zk16, ?_⟩) hHeld ?_ ?_; rotate_left
              ·exact zk96
              rotate_left
              ·exact zk94
              refine pure_ (i := 9) (N := some 81) (v := ?_) (a' := ?_) #[true, true, true, true, true, true, false, true, true, true, false] rfl rfl (any_of HT_.out zk3) (fun _ _ _ h => h) (Or.inl ⟨zk16, ?_⟩) ?_ ?_; rotate_left
              ·exact zk95
              rotate_left
              ·exact zk94
              refine one_ (i := 6) (N := some 78) #[true, true, true, true, true, true, true, true, true, true, false] rfl rfl (one_of HT_.out zk3) zk40 (fun K hK => ?_); refine goes_ Try.func48 zk3 rfl #[.agg #[.int .i64 ((rd_T54 l0_4 x7_2).f0), .string ((rd_T54 l0_4 x7_2).f1), .string ((rd_T54 l0_4 x7_2).f2), .slice A123_3 ((rd_T54 l0_4 x7_2).f3).length c123_3, .slice A123_4 ((rd_T54 l0_4 x7_2).f4).length c123_4], .slice A1 l1.length c1] zk16 rfl rfl zk5 ?_; (with_reducible refine (ih k2 zk86 ((rd_T54 l0_4 x7_2).f0) ((rd_T54 l0_4 x7_2).f1) ((rd_T54 l0_4 x7_2).f2) _ _ ((rd_T54 l0_4 x7_2).f3) _ _ ((rd_T54 l0_4 x7_2).f4) _ _ l1 t124 _ ?side1 ?side2 ?side3 ?side4 ?side5 ?side6 A39.out).mono ?_); (case side1 => exact zk44); (case side2 => exact HC123_3.out); (case side3 => exact zk45); (case side4 => exact HC123_4.out); (case side5 => exact zk13); (case side6 => exact HC1.out); rintro e w43 ⟨rfl, hb⟩; refine ⟨_, rfl, ?_⟩; have n0_ := mkA (blk_below (g := gb120) (o := .cells #[.int .i64 a0_0, .string a0_1, .string a0_2, .slice A0_3 l0_3.length c0_3, .slice (some ad123) l0_4.length c0_4] 54 (0, 0)) zk25 hb); have n1_ := mkA (below_step zk11 hb); clear BK120; clear HB; have BK120 := n0_; have HB := n1_; clear n0_ n1_; (try clear hb); (try clear hb2); (try clear hk); (try clear hi); refine hK.out _ _ ⟨(blk_cell BK120.out 0).trans rfl, (blk_cell BK120.out 1).trans rfl, (blk_cell BK120.out 2).trans rfl, (blk_cell BK120.out 3).trans rfl, (blk_cell BK120.out 4).trans rfl, ((HB.out.cell (World.block_lt_of_cell? w _ hw123_0)).trans hw123_0), ((HB.out.cell (World.block_lt_of_cell? w _ hw123_1)).trans hw123_1), ((HB.out.cell (World.block_lt_of_cell? w _ hw123_2)).trans hw123_2), ((HB.out.cell (World.block_lt_of_cell? w _ hw123_3)).trans hw123_3), ((HB.out.cell (World.block_lt_of_cell? w _ hw123_4)).trans hw123_4)⟩ (fun hHeld => ?_); clear hK K; refine norm_ (a' := ?_) ?_ ?_; rotate_left
              ·exact zk110
              refine pure_ (i := 10) (N := some 82) (v := ?_) (a' := ?_) #[true, true, true, true, true, true, true, true, true, true, true] rfl rfl (any_of HT_.out zk3) (fun _ _ _ h => h) (Or.inl ⟨zk16, ?_⟩) ?_ ?_; rotate_left
              ·exact zk95
              rotate_left
              ·exact zk94
              refine done_ (done_of HT_.out zk3) ?_; obtain ⟨hcz44_0, hcz44_1, hcz44_2, hcz44_3, hcz44_4, hfz44_0, hfz44_1, hfz44_2, hfz44_3, hfz44_4⟩ := cf5 BK120.out; (try go_wp2); go_ret
              exact ⟨zk4, zk11⟩
             ·rw [if_neg c40] at H
              have c40b0 : (t124 == (a0_0 == 6)) = false := zk91
              (try (have c40b1 : decide (t124 = (a0_0 == 6)) = false := zk91)); (try (have c40b2 : (t124 == (a0_0 == 6)) = false := zk91)); (try (have c40b3 : ¬ (t124 = (a0_0 == 6)) := zk91)); clear c40; have H' := mkA H; clear H; obtain ⟨hcz45_0, hcz45_1, hcz45_2, hcz45_3, hcz45_4, hfz45_0, hfz45_1, hfz45_2, hfz45_3, hfz45_4⟩ := cf5 BK120.out; (try go_wp2); have n0_ := mkA (blk_drew BK120.out); have n1_ := mkA (below_drew1 HB.out); clear BK120; clear HB; have BK120 := n0_; have HB := n1_; clear n0_ n1_; have p123 : 0 ≤ (x7_2 : Int) := of_decide_eq_true zk2; have q123 : x7_2 < (l0_4.length : Int) := of_decide_eq_true zk2; obtain ⟨ad123, A123_3, c123_3, A123_4, c123_4, e123, hx123_0, hx123_1, hx123_2, hx123_3, hx123_4, hl123_3, hi123_3, hl123_4, hi123_4⟩ := at_T54 HR0_4.out x7_2 p123 q123; have hw123_4 := hx123_4; have hw123_3 := hx123_3; have hw123_2 := hx123_2; have hw123_1 := hx123_1; have hw123_0 := hx123_0; cases e123; replace hx123_0 := (HB.out.cell (World.block_lt_of_cell? w _ hx123_0)).trans hx123_0; replace hx123_1 := (HB.out.cell (World.block_lt_of_cell? w _ hx123_1)).trans hx123_1; replace hx123_2 := (HB.out.cell (World.block_lt_of_cell? w _ hx123_2)).trans hx123_2; replace hx123_3 := (HB.out.cell (World.block_lt_of_cell? w _ hx123_3)).trans hx123_3; replace hx123_4 := (HB.out.cell (World.block_lt_of_cell? w _ hx123_4)).trans hx123_4; have HR123_3 := mkA hi123_3; have HC123_3 := mkA hl123_3; clear hi123_3 hl123_3; have HR123_4 := mkA hi123_4; have HC123_4 := mkA hl123_4; clear hi123_4 hl123_4; replace p123 := eq_true p123; replace q123 := eq_true q123; refine start_ (n := 11) (S := fun w' => w'.cell? ⟨gb120, 0, none⟩ = some (.int .i64 a0_0) ∧ w'.cell? ⟨gb120, 1, none⟩ = some (.string a0_1) ∧ w'.cell? ⟨gb120, 2, none⟩ = some (.string a0_2) ∧ w'.cell? ⟨gb120, 3, none⟩ = some (.slice A0_3 l0_3.length c0_3) ∧ w'.cell? ⟨gb120, 4, none⟩ = some (.slice (some ad123) l0_4.length c0_4) ∧ w'.cell? (ad123.add ((x7_2).toNat * 5)) = some (.int .i64 ((rd_T54 l0_4 x7_2).f0)) ∧ w'.cell? ⟨(ad123.add ((x7_2).toNat * 5)).block, (ad123.add ((x7_2).toNat * 5)).off + 1, none⟩ = some (.string ((rd_T54 l0_4 x7_2).f1)) ∧ w'.cell? ⟨(ad123.add ((x7_2).toNat * 5)).block, (ad123.add ((x7_2).toNat * 5)).off + 2, none⟩ = some (.string ((rd_T54 l0_4 x7_2).f2)) ∧ w'.cell? ⟨(ad123.add ((x7_2).toNat * 5)).block, (ad123.add ((x7_2).toNat * 5)).off + 3, none⟩ = some (.slice A123_3 ((rd_T54 l0_4 x7_2).f3).length c123_3) ∧ w'.cell? ⟨(ad123.add ((x7_2).toNat * 5)).block, (ad123.add ((x7_2).toNat * 5)).off + 4, none⟩ = some (.slice A123_4 ((rd_T54 l0_4 x7_2).f4).length c123_4)) (ds := []) #[false, false, false, false, false, false, false, false, false, false, false] zk3 rfl rfl ⟨(blk_cell BK120.out 0).trans rfl, (blk_cell BK120.out 1).trans rfl, (blk_cell BK120.out 2).trans rfl, (blk_cell BK120.out 3).trans rfl, (blk_cell BK120.out 4).trans rfl, ((HB.out.cell (World.block_lt_of_cell? w _ hw123_0)).trans hw123_0), ((HB.out.cell (World.block_lt_of_cell? w _ hw123_1)).trans hw123_1), ((HB.out.cell (World.block_lt_of_cell? w _ hw123_2)).trans hw123_2), ((HB.out.cell (World.block_lt_of_cell? w _ hw123_3)).trans hw123_3), ((HB.out.cell (World.block_lt_of_cell? w _ hw123_4)).trans hw123_4)⟩ (fun hHeld => ?_); refine with_tabW varveref12_Eval.tab23 varveref12_Eval.bits23 (fun HT_ HW_ => ?_); generalize wr.drew = w46 at BK120 HB HR123_3 HR123_4 hx123_0 hx123_1 hx123_2 hx123_3 hx123_4 hHeld ⊢; refine pure_ (i := 0) (N := some 72) (v := ?_) (a' := ?_) #[true, false, false, false, false, false, false, false, false, false, false] rfl rfl (any_of HT_.out zk3) (fun _ _ _ h => h) (Or.inl ⟨zk16, ?_⟩) ?_ ?_; rotate_left
              ·exact zk95
              rotate_left
              ·exact zk94
              refine pure_ (i := 2) (N := some 74) (v := ?_) (a' := ?_) #[true, false, true, false, false, false, false, false, false, false, false] rfl rfl (any_of HT_.out zk3) (fun _ _ _ h => h) (Or.inl ⟨zk16, ?_⟩) ?_ ?_; rotate_left
              ·exact zk95
              rotate_left
              ·exact zk94
              refine pure_ (i := 5) (N := some 77) (v := ?_) (a' := ?_) #[true, false, true, false, false, true, false, false, false, false, false] rfl rfl (any_of HT_.out zk3) (fun _ _ _ h => h) (Or.inl ⟨zk16, ?_⟩) ?_ ?_; rotate_left
              ·exact zk95
              rotate_left
              ·exact zk94
              refine pure_ (i := 7) (N := some 79) (v := ?_) (a' := ?_) #[true, false, true, false, false, true, false, true, false, false, false] rfl rfl (any_of HT_.out zk3) (fun _ _ _ h => h) (Or.inl ⟨zk16, ?_⟩) ?_ ?_; rotate_left
              ·exact zk95
              rotate_left
              ·exact zk94
              refine take_ (i := 1) (N := some 73) (v := ?_) (a' := ?_) #[true, true, true, false, false, true, false, true, false, false, false] rfl rfl (take_ofW HT_.out HW_.out zk3) (fun _ _ _ h => h) (Or.inl ⟨zk16, ?_⟩) hHeld ?_ ?_; rotate_left
              ·exact zk96
              rotate_left
              ·exact zk94
              refine pure_ (i := 3) (N := some 75) (v := ?_) (a' := ?_) #[true, true, true, true, false, true, false, true, false, false, false] rfl rfl (any_of HT_.out zk3) (fun _ _ _ h => h) (Or.inl ⟨zk16, ?_⟩) ?_ ?_; rotate_left
              ·exact zk95
              rotate_left
              ·exact zk94
              refine take_ (i := 4) (N := some 76) (v := ?_) (a' := ?_) #[true, true, true, true, true, true, false, true, false, false, false] rfl rfl (take_ofW HT_.out HW_.out zk3) (fun _ _ _ h => h) (Or.inl ⟨zk16, ?_⟩) hHeld ?_ ?_; rotate_left
              ·exact zk96
              rotate_left
              ·exact zk94
              refine take_ (i := 8) (N := some 80) (v := ?_) (a' := ?_) #[true, true, true, true, true, true, false, true, true, false, false] rfl rfl (take_ofW HT_.out HW_.out zk3) (fun _ _ _ h => h) (Or.inl ⟨zk16, ?_⟩) hHeld ?_ ?_; rotate_left
              ·exact zk96
              rotate_left
              ·exact zk94
              refine pure_ (i := 9) (N := some 81) (v := ?_) (a' := ?_) #[true, true, true, true, true, true, false, true, true, true, false] rfl rfl (any_of HT_.out zk3) (fun _ _ _ h => h) (Or.inl ⟨zk16, ?_⟩) ?_ ?_; rotate_left
              ·exact zk95
              rotate_left
              ·exact zk94
              refine one_ (i := 6) (N := some 78) #[true, true, true, true, true, true, true, true, true, true, false] rfl rfl (one_of HT_.out zk3) zk40 (fun K hK => ?_); refine goes_ Try.func48 zk3 rfl #[.agg #[.int .i64 ((rd_T54 l0_4 x7_2).f0), .string ((rd_T54 l0_4 x7_2).f1), .string ((rd_T54 l0_4 x7_2).f2), .slice A123_3 ((rd_T54 l0_4 x7_2).f3).length c123_3, .slice A123_4 ((rd_T54 l0_4 x7_2).f4).length c123_4], .slice A1 l1.length c1] zk16 rfl rfl zk5 ?_; (with_reducible refine (ih k2 zk86 ((rd_T54 l0_4 x7_2).f0) ((rd_T54 l0_4 x7_2).f1) ((rd_T54 l0_4 x7_2).f2) _ _ ((rd_T54 l0_4 x7_2).f3) _ _ ((rd_T54 l0_4 x7_2).f4) _ _ l1 t124 _ ?side1 ?side2 ?side3 ?side4 ?side5 ?side6 A39.out).mono ?_); (case side1 => exact zk44); (case side2 => exact HC123_3.out); (case side3 => exact zk45); (case side4 => exact HC123_4.out); (case side5 => exact zk13); (case side6 => exact HC1.out); rintro e w47 ⟨rfl, hb⟩; refine ⟨_, rfl, ?_⟩; have n0_ := mkA (blk_below (g := gb120) (o := .cells #[.int .i64 a0_0, .string a0_1, .string a0_2, .slice A0_3 l0_3.length c0_3, .slice (some ad123) l0_4.length c0_4] 54 (0, 0)) zk25 hb); have n1_ := mkA (below_step zk11 hb); clear BK120; clear HB; have BK120 := n0_; have HB := n1_; clear n0_ n1_; (try clear hb); (try clear hb2); (try clear hk); (try clear hi); refine hK.out _ _ ⟨(blk_cell BK120.out 0).trans rfl, (blk_cell BK120.out 1).trans rfl, (blk_cell BK120.out 2).trans rfl, (blk_cell BK120.out 3).trans rfl, (blk_cell BK120.out 4).trans rfl, ((HB.out.cell (World.block_lt_of_cell? w _ hw123_0)).trans hw123_0), ((HB.out.cell (World.block_lt_of_cell? w _ hw123_1)).trans hw123_1), ((HB.out.cell (World.block_lt_of_cell? w _ hw123_2)).trans hw123_2), ((HB.out.cell (World.block_lt_of_cell? w _ hw123_3)).trans hw123_3), ((HB.out.cell (World.block_lt_of_cell? w _ hw123_4)).trans hw123_4)⟩ (fun hHeld => ?_); clear hK K; refine norm_ (a' := ?_) ?_ ?_; rotate_left
              ·exact zk110
              refine pure_ (i := 10) (N := some 82) (v := ?_) (a' := ?_) #[true, true, true, true, true, true, true, true, true, true, true] rfl rfl (any_of HT_.out zk3) (fun _ _ _ h => h) (Or.inl ⟨zk16, ?_⟩) ?_ ?_; rotate_left
              ·exact zk95
              rotate_left
              ·exact zk94
              refine done_ (done_of HT_.out zk3) ?_; (try go_wp2); go_roundg k2
              case measure => have := HJ31.out; have := HK2.out; omega
              case rel => exact ⟨(wrap64 (x7_2 + 1)), zk6, H', ⟨zk86⟩, ⟨zk25⟩, ⟨zk11⟩⟩
            ·rw [if_neg c38] at H; exact absurd H zk30
           ·rw [if_neg c37] at H
            have c37b0 : decide (x7_2 < (l0_4.length : Int)) = false := decide_eq_false c37; clear c37; obtain rfl := Option.some.inj H; obtain ⟨hcz48_0, hcz48_1, hcz48_2, hcz48_3, hcz48_4, hfz48_0, hfz48_1, hfz48_2, hfz48_3, hfz48_4⟩ := cf5 BK120.out; go_wp2; go_ret
            exact ⟨zk4, zk11⟩
        ·replace c36 := Bool.eq_false_iff.mpr c36
         subst c36; have H1 : (if a0_0 = 7 then (if 0 < (l0_4.length : Int) then ((varveref12_Eval.f kj31 ((rd_T54 l0_4 0).f0) ((rd_T54 l0_4 0).f1) ((rd_T54 l0_4 0).f2) ((rd_T54 l0_4 0).f3) ((rd_T54 l0_4 0).f4) l1).bind fun t126 => (some (!t126))) else (none)) else (some false)) = some r := zk23
         clear H; have H := H1; clear H1; by_cases c49 : a0_0 = 7
         ·rw [if_pos c49] at H
          have c49b0 : (a0_0 == 7) = true := beq_iff_eq.mpr c49; have c49b1 : (a0_0 != 7) = false := bne_eq_false_iff_eq.mpr c49; clear c49; by_cases c50 : 0 < (l0_4.length : Int)
          ·rw [if_pos c50] at H
           have c50b0 : decide (0 < (l0_4.length : Int)) = true := decide_eq_true c50; have c50b1 : decide (0 < l0_4.length) = true := decide_eq_true zk12; clear c50; replace H := Option.bind_eq_some_iff.mp H; obtain ⟨t126, A510, H⟩ := H; replace H : (some (!t126)) = some r := H; have A51 := mkA A510; clear A510; obtain rfl := Option.some.inj H; obtain ⟨hcz52_0, hcz52_1, hcz52_2, hcz52_3, hcz52_4, hfz52_0, hfz52_1, hfz52_2, hfz52_3, hfz52_4⟩ := cf5 BK120.out; have p125 : 0 ≤ (0 : Int) := zk12
           have q125 : 0 < (l0_4.length : Int) := of_decide_eq_true zk2; obtain ⟨ad125, A125_3, c125_3, A125_4, c125_4, e125, hx125_0, hx125_1, hx125_2, hx125_3, hx125_4, hl125_3, hi125_3, hl125_4, hi125_4⟩ := at_T54 HR0_4.out 0 p125 q125; cases e125; have qi125 : (0 < l0_4.length) = True := eq_true zk12; (try rw [show ((0 : Int)).toNat = 0 from rfl] at hx125_0); (try rw [show 0 * 5 = 0 from rfl] at hx125_0); (try rw [Addr.add_zero'] at hx125_0); (try rw [show ((0 : Int)).toNat = 0 from rfl] at hx125_1); (try rw [show 0 * 5 = 0 from rfl] at hx125_1); (try rw [Addr.add_zero'] at hx125_1); (try rw [show ((0 : Int)).toNat = 0 from rfl] at hx125_2); (try rw [show 0 * 5 = 0 from rfl] at hx125_2); (try rw [Addr.add_zero'] at hx125_2); (try rw [show ((0 : Int)).toNat = 0 from rfl] at hx125_3); (try rw [show 0 * 5 = 0 from rfl] at hx125_3); (try rw [Addr.add_zero'] at hx125_3); (try rw [show ((0 : Int)).toNat = 0 from rfl] at hx125_4); (try rw [show 0 * 5 = 0 from rfl] at hx125_4); (try rw [Addr.add_zero'] at hx125_4); replace hx125_0 := (HB.out.cell (World.block_lt_of_cell? w _ hx125_0)).trans hx125_0; replace hx125_1 := (HB.out.cell (World.block_lt_of_cell? w _ hx125_1)).trans hx125_1; replace hx125_2 := (HB.out.cell (World.block_lt_of_cell? w _ hx125_2)).trans hx125_2; replace hx125_3 := (HB.out.cell (World.block_lt_of_cell? w _ hx125_3)).trans hx125_3; replace hx125_4 := (HB.out.cell (World.block_lt_of_cell? w _ hx125_4)).trans hx125_4; have HR125_3 := mkA hi125_3; have HC125_3 := mkA hl125_3; clear hi125_3 hl125_3; have HR125_4 := mkA hi125_4; have HC125_4 := mkA hl125_4; clear hi125_4 hl125_4; replace p125 := eq_true p125; replace q125 := eq_true q125; (go_wp2_with (first | ((with_reducible refine gate_callee (f := 48) rfl ?_); refine goesL_ (some 96) rfl rfl Try.func48 zk3 rfl #[.agg #[.int .i64 ((rd_T54 l0_4 0).f0), .string ((rd_T54 l0_4 0).f1), .string ((rd_T54 l0_4 0).f2), .slice A125_3 ((rd_T54 l0_4 0).f3).length c125_3, .slice A125_4 ((rd_T54 l0_4 0).f4).length c125_4], .slice A1 l1.length c1] rfl zk5 ?_; (with_reducible refine (ih kj31 (by have := HJ31.out; omega) ((rd_T54 l0_4 0).f0) ((rd_T54 l0_4 0).f1) ((rd_T54 l0_4 0).f2) _ _ ((rd_T54 l0_4 0).f3) _ _ ((rd_T54 l0_4 0).f4) _ _ l1 t126 _ ?side1 ?side2 ?side3 ?side4 ?side5 ?side6 A51.out).mono ?_); (case side1 => repeat (first | exact (Kd.C_below HR125_3.out HB.out) | (with_reducible refine Kd.C_alloc ?_ _) | (with_reducible refine Kd.C_drewN ?_ _) | (with_reducible refine Kd.C_drew ?_))); (case side2 => exact HC125_3.out); (case side3 => repeat (first | exact (Kd.C_below HR125_4.out HB.out) | (with_reducible refine Kd.C_alloc ?_ _) | (with_reducible refine Kd.C_drewN ?_ _) | (with_reducible refine Kd.C_drew ?_))); (case side4 => exact HC125_4.out); (case side5 => exact zk13); (case side6 => exact HC1.out); rintro e w53 ⟨rfl, hb⟩; refine ⟨_, rfl, ?_⟩; have n0_ := mkA (blk_below (g := gb120) (o := .cells #[.int .i64 a0_0, .string a0_1, .string a0_2, .slice A0_3 l0_3.length c0_3, .slice (some ad125) l0_4.length c0_4] 54 (0, 0)) zk25 hb); have n1_ := mkA (below_step zk11 hb); clear BK120; clear HB; have BK120 := n0_; have HB := n1_; clear n0_ n1_; (try clear hb); (try clear hb2); (try clear hk); (try clear hi)))); go_ret
           exact ⟨zk4, zk11⟩
          ·rw [if_neg c50] at H; exact absurd H zk30
         ·rw [if_neg c49] at H
          have c49b0 : (a0_0 == 7) = false := beq_eq_false_iff_ne.mpr c49; have c49b1 : (a0_0 != 7) = true := bne_iff_ne.mpr c49; obtain rfl := Option.some.inj H; go_wp2; go_ret
          exact ⟨zk4, zk11⟩
end Go.Proofs.Ytlkhdbfhnpbbhaa.Mx
namespace Go.Proofs.Ytlkhdbfhnpbbhaa.Mx
open Go.RowKit Go.Proofs.YtlkhdbfhnpbbhaaW.PrintWords Go.Proofs.YtlkhdbfhnpbbhaaW.PrintLast Go.Proofs.YtlkhdbfhnpbbhaaW.PrintMore Go.Proofs.Ytlkhdbfhnpbbhaa.Ix
def varveref12_bare.f (a0_0 : Int) (a0_1 : ByteArray) (a0_2 : ByteArray) (l0_3 : List ByteArray) (l0_4 : List (S54)) (a1 : Bool) (a2 : Bool) (a3 : Bool) : Option (Bool) := if a1 = true then (if a2 = true then (if a3 = true then (some true) else (some ((l0_4.length : Int) == 0))) else (if (l0_3.length : Int) = 0 then (if a3 = true then (some true) else (some ((l0_4.length : Int) == 0))) else (some false))) else (if a0_2.toList = ([] : List UInt8) then (if a2 = true then (if a3 = true then (some true) else (some ((l0_4.length : Int) == 0))) else (if a0_1.toList = ([] : List UInt8) then (if (l0_3.length : Int) = 0 then (if a3 = true then (some true) else (some ((l0_4.length : Int) == 0))) else (some false)) else (some false))) else (some false))
set_option maxHeartbeats 8000000 in
set_option maxRecDepth 100000 in
theorem varveref12_bare.calls (a0_0 : Int) (a0_1 : ByteArray) (a0_2 : ByteArray) (A0_3 : Option Addr) (c0_3 : Nat) (l0_3 : List ByteArray) (A0_4 : Option Addr) (c0_4 : Nat) (l0_4 : List (S54)) (a1 : Bool) (a2 : Bool) (a3 : Bool) (r : Bool) (w : World) (hr0_3 : Kd.C Kd.string w A0_3 l0_3.length l0_3) (hc0_3 : l0_3.length ≤ c0_3) (hr0_4 : Kd.C k54 w A0_4 l0_4.length l0_4) (hc0_4 : l0_4.length ≤ c0_4) (h : varveref12_bare.f a0_0 a0_1 a0_2 l0_3 l0_4 a1 a2 a3 = some r) :
  Calls Try.prog 61 #[.agg #[.int .i64 a0_0, .string a0_1, .string a0_2, .slice A0_3 l0_3.length c0_3, .slice A0_4 l0_4.length c0_4], .bool a1, .bool a2, .bool a3] w fun e w' => e = .returned (.bool r) ∧ Below w.heap.size w w' := by
 have hu54 := Try.underlying54; have HR0_3 := mkA hr0_3; have HC0_3 := mkA hc0_3; clear hr0_3 hc0_3; have HR0_4 := mkA hr0_4; have HC0_4 := mkA hc0_4; clear hr0_4 hc0_4; have HB := mkA (Below.refl w.heap.size w); have H : (if a1 = true then (if a2 = true then (if a3 = true then (some true) else (some ((l0_4.length : Int) == 0))) else (if (l0_3.length : Int) = 0 then (if a3 = true then (some true) else (some ((l0_4.length : Int) == 0))) else (some false))) else (if a0_2.toList = ([] : List UInt8) then (if a2 = true then (if a3 = true then (some true) else (some ((l0_4.length : Int) == 0))) else (if a0_1.toList = ([] : List UInt8) then (if (l0_3.length : Int) = 0 then (if a3 = true then (some true) else (some ((l0_4.length : Int) == 0))) else (some false)) else (some false))) else (some false))) = some r := h; clear h; by_cases c5 : a1 = true
 ·subst c5
  have H1 : (if a2 = true then (if a3 = true then (some true) else (some ((l0_4.length : Int) == 0))) else (if (l0_3.length : Int) = 0 then (if a3 = true then (some true) else (some ((l0_4.length : Int) == 0))) else (some false))) = some r := zk29
  clear H; have H := H1; clear H1; by_cases c6 : a2 = true
  ·subst c6
   have H1 : (if a3 = true then (some true) else (some ((l0_4.length : Int) == 0))) = some r := zk29
   clear H; have H := H1; clear H1; by_cases c7 : a3 = true
   ·subst c7
    have H1 : (some true) = some r := zk29
    clear H; have H := H1; clear H1; obtain rfl := Option.some.inj H; go_enter Try.func61, Try.ntmps61; (go_wp2_with (first | ((with_reducible refine gate_dst (N := 4) rfl ?_); (try (refine gate_guard zk16 ?_; dsimp only)); refine box_event ?hg (N := 4) ?hd (cs := #[.int .i64 a0_0, .string a0_1, .string a0_2, .slice A0_3 l0_3.length c0_3, .slice A0_4 l0_4.length c0_4]) (t := 54) ?hr ?_; (case hd => exact zk16); (case hg => exact zk16); (case hr => exact zk9); intro gb127 hg w8 hbox hb; have n0_ := mkA (below_step zk1 hb); have n1_ := mkA (hbox); have n2_ := mkA ((by rw [hg]; exact (below_size zk1) : w.heap.size ≤ gb127)); have n3_ := mkA ((by rw [hg]; exact (below_size zk1) : w.heap.size ≤ gb127)); clear HB; have HB := n0_; have BK127 := n1_; have GW127 := n2_; have GE127 := n3_; clear n0_ n1_ n2_ n3_; clear hb hbox hg))); go_ret
    exact zk129
   ·replace c7 := Bool.eq_false_iff.mpr c7
    subst c7; have H1 : (some ((l0_4.length : Int) == 0)) = some r := zk23
    clear H; have H := H1; clear H1; obtain rfl := Option.some.inj H; go_enter Try.func61, Try.ntmps61; (go_wp2_with (first | ((with_reducible refine gate_dst (N := 4) rfl ?_); (try (refine gate_guard zk16 ?_; dsimp only)); refine box_event ?hg (N := 4) ?hd (cs := #[.int .i64 a0_0, .string a0_1, .string a0_2, .slice A0_3 l0_3.length c0_3, .slice A0_4 l0_4.length c0_4]) (t := 54) ?hr ?_; (case hd => exact zk16); (case hg => exact zk16); (case hr => exact zk9); intro gb127 hg w9 hbox hb; have n0_ := mkA (below_step zk1 hb); have n1_ := mkA (hbox); have n2_ := mkA ((by rw [hg]; exact (below_size zk1) : w.heap.size ≤ gb127)); have n3_ := mkA ((by rw [hg]; exact (below_size zk1) : w.heap.size ≤ gb127)); clear HB; have HB := n0_; have BK127 := n1_; have GW127 := n2_; have GE127 := n3_; clear n0_ n1_ n2_ n3_; clear hb hbox hg; obtain ⟨hcz10_0, hcz10_1, hcz10_2, hcz10_3, hcz10_4, hfz10_0, hfz10_1, hfz10_2, hfz10_3, hfz10_4⟩ := cf5 BK127.out))); go_ret
    exact zk129
  ·replace c6 := Bool.eq_false_iff.mpr c6
   subst c6; have H1 : (if (l0_3.length : Int) = 0 then (if a3 = true then (some true) else (some ((l0_4.length : Int) == 0))) else (some false)) = some r := zk23
   clear H; have H := H1; clear H1; by_cases c11 : (l0_3.length : Int) = 0
   ·rw [if_pos c11] at H
    have c11b0 : ((l0_3.length : Int) == 0) = true := beq_iff_eq.mpr c11; have c11b1 : ((l0_3.length : Int) != 0) = false := bne_eq_false_iff_eq.mpr c11; clear c11; by_cases c12 : a3 = true
    ·subst c12
     have H1 : (some true) = some r := zk29
     clear H; have H := H1; clear H1; obtain rfl := Option.some.inj H; go_enter Try.func61, Try.ntmps61; (go_wp2_with (first | ((with_reducible refine gate_dst (N := 4) rfl ?_); (try (refine gate_guard zk16 ?_; dsimp only)); refine box_event ?hg (N := 4) ?hd (cs := #[.int .i64 a0_0, .string a0_1, .string a0_2, .slice A0_3 l0_3.length c0_3, .slice A0_4 l0_4.length c0_4]) (t := 54) ?hr ?_; (case hd => exact zk16); (case hg => exact zk16); (case hr => exact zk9); intro gb127 hg w13 hbox hb; have n0_ := mkA (below_step zk1 hb); have n1_ := mkA (hbox); have n2_ := mkA ((by rw [hg]; exact (below_size zk1) : w.heap.size ≤ gb127)); have n3_ := mkA ((by rw [hg]; exact (below_size zk1) : w.heap.size ≤ gb127)); clear HB; have HB := n0_; have BK127 := n1_; have GW127 := n2_; have GE127 := n3_; clear n0_ n1_ n2_ n3_; clear hb hbox hg; obtain ⟨hcz14_0, hcz14_1, hcz14_2, hcz14_3, hcz14_4, hfz14_0, hfz14_1, hfz14_2, hfz14_3, hfz14_4⟩ := cf5 BK127.out))); go_ret
     exact zk129
    ·replace c12 := Bool.eq_false_iff.mpr c12
     subst c12; have H1 : (some ((l0_4.length : Int) == 0)) = some r := zk23
     clear H; have H := H1; clear H1; obtain rfl := Option.some.inj H; go_enter Try.func61, Try.ntmps61; (go_wp2_with (first | ((with_reducible refine gate_dst (N := 4) rfl ?_); (try (refine gate_guard zk16 ?_; dsimp only)); refine box_event ?hg (N := 4) ?hd (cs := #[.int .i64 a0_0, .string a0_1, .string a0_2, .slice A0_3 l0_3.length c0_3, .slice A0_4 l0_4.length c0_4]) (t := 54) ?hr ?_; (case hd => exact zk16); (case hg => exact zk16); (case hr => exact zk9); intro gb127 hg w15 hbox hb; have n0_ := mkA (below_step zk1 hb); have n1_ := mkA (hbox); have n2_ := mkA ((by rw [hg]; exact (below_size zk1) : w.heap.size ≤ gb127)); have n3_ := mkA ((by rw [hg]; exact (below_size zk1) : w.heap.size ≤ gb127)); clear HB; have HB := n0_; have BK127 := n1_; have GW127 := n2_; have GE127 := n3_; clear n0_ n1_ n2_ n3_; clear hb hbox hg; obtain ⟨hcz16_0, hcz16_1, hcz16_2, hcz16_3, hcz16_4, hfz16_0, hfz16_1, hfz16_2, hfz16_3, hfz16_4⟩ := cf5 BK127.out))); go_ret
     exact zk129
   ·rw [if_neg c11] at H
    have c11b0 : ((l0_3.length : Int) == 0) = false := beq_eq_false_iff_ne.mpr c11; have c11b1 : ((l0_3.length : Int) != 0) = true := bne_iff_ne.mpr c11; have c11b2 : ¬ (l0_3 = []) := fun h_ => c11 (by rw [h_]; rfl); obtain rfl := Option.some.inj H; go_enter Try.func61, Try.ntmps61; (go_wp2_with (first | ((with_reducible refine gate_dst (N := 4) rfl ?_); (try (refine gate_guard zk16 ?_; dsimp only)); refine box_event ?hg (N := 4) ?hd (cs := #[.int .i64 a0_0, .string a0_1, .string a0_2, .slice A0_3 l0_3.length c0_3, .slice A0_4 l0_4.length c0_4]) (t := 54) ?hr ?_; (case hd => exact zk16); (case hg => exact zk16); (case hr => exact zk9); intro gb127 hg w17 hbox hb; have n0_ := mkA (below_step zk1 hb); have n1_ := mkA (hbox); have n2_ := mkA ((by rw [hg]; exact (below_size zk1) : w.heap.size ≤ gb127)); have n3_ := mkA ((by rw [hg]; exact (below_size zk1) : w.heap.size ≤ gb127)); clear HB; have HB := n0_; have BK127 := n1_; have GW127 := n2_; have GE127 := n3_; clear n0_ n1_ n2_ n3_; clear hb hbox hg; obtain ⟨hcz18_0, hcz18_1, hcz18_2, hcz18_3, hcz18_4, hfz18_0, hfz18_1, hfz18_2, hfz18_3, hfz18_4⟩ := cf5 BK127.out))); go_ret
    exact zk129
 ·replace c5 := Bool.eq_false_iff.mpr c5
  subst c5; have H1 : (if a0_2.toList = ([] : List UInt8) then (if a2 = true then (if a3 = true then (some true) else (some ((l0_4.length : Int) == 0))) else (if a0_1.toList = ([] : List UInt8) then (if (l0_3.length : Int) = 0 then (if a3 = true then (some true) else (some ((l0_4.length : Int) == 0))) else (some false)) else (some false))) else (some false)) = some r := zk23
  clear H; have H := H1; clear H1; by_cases c19 : a0_2.toList = ([] : List UInt8)
  ·rw [if_pos c19] at H
   have c19b0 : (a0_2.toList == ([] : List UInt8)) = true := beq_iff_eq.mpr c19; have c19b1 : (a0_2.toList != ([] : List UInt8)) = false := bne_eq_false_iff_eq.mpr c19; clear c19; by_cases c20 : a2 = true
   ·subst c20
    have H1 : (if a3 = true then (some true) else (some ((l0_4.length : Int) == 0))) = some r := zk29
    clear H; have H := H1; clear H1; by_cases c21 : a3 = true
    ·subst c21
     have H1 : (some true) = some r := zk29
     clear H; have H := H1; clear H1; obtain rfl := Option.some.inj H; go_enter Try.func61, Try.ntmps61; (go_wp2_with (first | ((with_reducible refine gate_dst (N := 4) rfl ?_); (try (refine gate_guard zk16 ?_; dsimp only)); refine box_event ?hg (N := 4) ?hd (cs := #[.int .i64 a0_0, .string a0_1, .string a0_2, .slice A0_3 l0_3.length c0_3, .slice A0_4 l0_4.length c0_4]) (t := 54) ?hr ?_; (case hd => exact zk16); (case hg => exact zk16); (case hr => exact zk9); intro gb127 hg w22 hbox hb; have n0_ := mkA (below_step zk1 hb); have n1_ := mkA (hbox); have n2_ := mkA ((by rw [hg]; exact (below_size zk1) : w.heap.size ≤ gb127)); have n3_ := mkA ((by rw [hg]; exact (below_size zk1) : w.heap.size ≤ gb127)); clear HB; have HB := n0_; have BK127 := n1_; have GW127 := n2_; have GE127 := n3_; clear n0_ n1_ n2_ n3_; clear hb hbox hg; obtain ⟨hcz23_0, hcz23_1, hcz23_2, hcz23_3, hcz23_4, hfz23_0, hfz23_1, hfz23_2, hfz23_3, hfz23_4⟩ := cf5 BK127.out))); go_ret
     exact zk129
    ·replace c21 := Bool.eq_false_iff.mpr c21
     subst c21; have H1 : (some ((l0_4.length : Int) == 0)) = some r := zk23
     clear H; have H := H1; clear H1; obtain rfl := Option.some.inj H; go_enter Try.func61, Try.ntmps61; (go_wp2_with (first | ((with_reducible refine gate_dst (N := 4) rfl ?_); (try (refine gate_guard zk16 ?_; dsimp only)); refine box_event ?hg (N := 4) ?hd (cs := #[.int .i64 a0_0, .string a0_1, .string a0_2, .slice A0_3 l0_3.length c0_3, .slice A0_4 l0_4.length c0_4]) (t := 54) ?hr ?_; (case hd => exact zk16); (case hg => exact zk16); (case hr => exact zk9); intro gb127 hg w24 hbox hb; have n0_ := mkA (below_step zk1 hb); have n1_ := mkA (hbox); have n2_ := mkA ((by rw [hg]; exact (below_size zk1) : w.heap.size ≤ gb127)); have n3_ := mkA ((by rw [hg]; exact (below_size zk1) : w.heap.size ≤ gb127)); clear HB; have HB := n0_; have BK127 := n1_; have GW127 := n2_; have GE127 := n3_; clear n0_ n1_ n2_ n3_; clear hb hbox hg; obtain ⟨hcz25_0, hcz25_1, hcz25_2, hcz25_3, hcz25_4, hfz25_0, hfz25_1, hfz25_2, hfz25_3, hfz25_4⟩ := cf5 BK127.out))); go_ret
     exact zk129
   ·replace c20 := Bool.eq_false_iff.mpr c20
    subst c20; have H1 : (if a0_1.toList = ([] : List UInt8) then (if (l0_3.length : Int) = 0 then (if a3 = true then (some true) else (some ((l0_4.length : Int) == 0))) else (some false)) else (some false)) = some r := zk23
    clear H; have H := H1; clear H1; by_cases c26 : a0_1.toList = ([] : List UInt8)
    ·rw [if_pos c26] at H
     have c26b0 : (a0_1.toList == ([] : List UInt8)) = true := beq_iff_eq.mpr c26; have c26b1 : (a0_1.toList != ([] : List UInt8)) = false := bne_eq_false_iff_eq.mpr c26; clear c26; by_cases c27 : (l0_3.length : Int) = 0
     ·rw [if_pos c27] at H
      have c27b0 : ((l0_3.length : Int) == 0) = true := beq_iff_eq.mpr c27; have c27b1 : ((l0_3.length : Int) != 0) = false := bne_eq_false_iff_eq.mpr c27; clear c27; by_cases c28 : a3 = true
      ·subst c28
       have H1 : (some true) = some r := zk29
       clear H; have H := H1; clear H1; obtain rfl := Option.some.inj H; go_enter Try.func61, Try.ntmps61; (go_wp2_with (first | ((with_reducible refine gate_dst (N := 4) rfl ?_); (try (refine gate_guard zk16 ?_; dsimp only)); refine box_event ?hg (N := 4) ?hd (cs := #[.int .i64 a0_0, .string a0_1, .string a0_2, .slice A0_3 l0_3.length c0_3, .slice A0_4 l0_4.length c0_4]) (t := 54) ?hr ?_; (case hd => exact zk16); (case hg => exact zk16); (case hr => exact zk9); intro gb127 hg w29 hbox hb; have n0_ := mkA (below_step zk1 hb); have n1_ := mkA (hbox); have n2_ := mkA ((by rw [hg]; exact (below_size zk1) : w.heap.size ≤ gb127)); have n3_ := mkA ((by rw [hg]; exact (below_size zk1) : w.heap.size ≤ gb127)); clear HB; have HB := n0_; have BK127 := n1_; have GW127 := n2_; have GE127 := n3_; clear n0_ n1_ n2_ n3_; clear hb hbox hg; obtain ⟨hcz30_0, hcz30_1, hcz30_2, hcz30_3, hcz30_4, hfz30_0, hfz30_1, hfz30_2, hfz30_3, hfz30_4⟩ := cf5 BK127.out))); go_ret
       exact zk129
      ·replace c28 := Bool.eq_false_iff.mpr c28
       subst c28; have H1 : (some ((l0_4.length : Int) == 0)) = some r := zk23
       clear H; have H := H1; clear H1; obtain rfl := Option.some.inj H; go_enter Try.func61, Try.ntmps61; (go_wp2_with (first | ((with_reducible refine gate_dst (N := 4) rfl ?_); (try (refine gate_guard zk16 ?_; dsimp only)); refine box_event ?hg (N := 4) ?hd (cs := #[.int .i64 a0_0, .string a0_1, .string a0_2, .slice A0_3 l0_3.length c0_3, .slice A0_4 l0_4.length c0_4]) (t := 54) ?hr ?_; (case hd => exact zk16); (case hg => exact zk16); (case hr => exact zk9); intro gb127 hg w31 hbox hb; have n0_ := mkA (below_step zk1 hb); have n1_ := mkA (hbox); have n2_ := mkA ((by rw [hg]; exact (below_size zk1) : w.heap.size ≤ gb127)); have n3_ := mkA ((by rw [hg]; exact (below_size zk1) : w.heap.size ≤ gb127)); clear HB; have HB := n0_; have BK127 := n1_; have GW127 := n2_; have GE127 := n3_; clear n0_ n1_ n2_ n3_; clear hb hbox hg; obtain ⟨hcz32_0, hcz32_1, hcz32_2, hcz32_3, hcz32_4, hfz32_0, hfz32_1, hfz32_2, hfz32_3, hfz32_4⟩ := cf5 BK127.out))); go_ret
       exact zk129
     ·rw [if_neg c27] at H
      have c27b0 : ((l0_3.length : Int) == 0) = false := beq_eq_false_iff_ne.mpr c27; have c27b1 : ((l0_3.length : Int) != 0) = true := bne_iff_ne.mpr c27; have c27b2 : ¬ (l0_3 = []) := fun h_ => c27 (by rw [h_]; rfl); obtain rfl := Option.some.inj H; go_enter Try.func61, Try.ntmps61; (go_wp2_with (first | ((with_reducible refine gate_dst (N := 4) rfl ?_); (try (refine gate_guard zk16 ?_; dsimp only)); refine box_event ?hg (N := 4) ?hd (cs := #[.int .i64 a0_0, .string a0_1, .string a0_2, .slice A0_3 l0_3.length c0_3, .slice A0_4 l0_4.length c0_4]) (t := 54) ?hr ?_; (case hd => exact zk16); (case hg => exact zk16); (case hr => exact zk9); intro gb127 hg w33 hbox hb; have n0_ := mkA (below_step zk1 hb); have n1_ := mkA (hbox); have n2_ := mkA ((by rw [hg]; exact (below_size zk1) : w.heap.size ≤ gb127)); have n3_ := mkA ((by rw [hg]; exact (below_size zk1) : w.heap.size ≤ gb127)); clear HB; have HB := n0_; have BK127 := n1_; have GW127 := n2_; have GE127 := n3_; clear n0_ n1_ n2_ n3_; clear hb hbox hg; obtain ⟨hcz34_0, hcz34_1, hcz34_2, hcz34_3, hcz34_4, hfz34_0, hfz34_1, hfz34_2, hfz34_3, hfz34_4⟩ := cf5 BK127.out))); go_ret
      exact zk129
    ·rw [if_neg c26] at H
     have c26b0 : (a0_1.toList == ([] : List UInt8)) = false := beq_eq_false_iff_ne.mpr c26; have c26b1 : (a0_1.toList != ([] : List UInt8)) = true := bne_iff_ne.mpr c26; obtain rfl := Option.some.inj H; go_enter Try.func61, Try.ntmps61; (go_wp2_with (first | ((with_reducible refine gate_dst (N := 4) rfl ?_); (try (refine gate_guard zk16 ?_; dsimp only)); refine box_event ?hg (N := 4) ?hd (cs := #[.int .i64 a0_0, .string a0_1, .string a0_2, .slice A0_3 l0_3.length c0_3, .slice A0_4 l0_4.length c0_4]) (t := 54) ?hr ?_; (case hd => exact zk16); (case hg => exact zk16); (case hr => exact zk9); intro gb127 hg w35 hbox hb; have n0_ := mkA (below_step zk1 hb); have n1_ := mkA (hbox); have n2_ := mkA ((by rw [hg]; exact (below_size zk1) : w.heap.size ≤ gb127)); have n3_ := mkA ((by rw [hg]; exact (below_size zk1) : w.heap.size ≤ gb127)); clear HB; have HB := n0_; have BK127 := n1_; have GW127 := n2_; have GE127 := n3_; clear n0_ n1_ n2_ n3_; clear hb hbox hg; obtain ⟨hcz36_0, hcz36_1, hcz36_2, hcz36_3, hcz36_4, hfz36_0, hfz36_1, hfz36_2, hfz36_3, hfz36_4⟩ := cf5 BK127.out))); go_ret
     exact zk129
  ·rw [if_neg c19] at H
   have c19b0 : (a0_2.toList == ([] : List UInt8)) = false := beq_eq_false_iff_ne.mpr c19; have c19b1 : (a0_2.toList != ([] : List UInt8)) = true := bne_iff_ne.mpr c19; obtain rfl := Option.some.inj H; go_enter Try.func61, Try.ntmps61; (go_wp2_with (first | ((with_reducible refine gate_dst (N := 4) rfl ?_); (try (refine gate_guard zk16 ?_; dsimp only)); refine box_event ?hg (N := 4) ?hd (cs := #[.int .i64 a0_0, .string a0_1, .string a0_2, .slice A0_3 l0_3.length c0_3, .slice A0_4 l0_4.length c0_4]) (t := 54) ?hr ?_; (case hd => exact zk16); (case hg => exact zk16); (case hr => exact zk9); intro gb127 hg w37 hbox hb; have n0_ := mkA (below_step zk1 hb); have n1_ := mkA (hbox); have n2_ := mkA ((by rw [hg]; exact (below_size zk1) : w.heap.size ≤ gb127)); have n3_ := mkA ((by rw [hg]; exact (below_size zk1) : w.heap.size ≤ gb127)); clear HB; have HB := n0_; have BK127 := n1_; have GW127 := n2_; have GE127 := n3_; clear n0_ n1_ n2_ n3_; clear hb hbox hg; obtain ⟨hcz38_0, hcz38_1, hcz38_2, hcz38_3, hcz38_4, hfz38_0, hfz38_1, hfz38_2, hfz38_3, hfz38_4⟩ := cf5 BK127.out))); go_ret
   exact zk129
attribute [local go_sem] gtr_swap leq_swap
mutual
def varveref12_values.j0 : Nat → List ByteArray → Bool → Option (Bool)
 | 0, _, _ => none
 | k + 1, x0, x11 => if x11 = true then (some false) else (varveref12_values.l0 k x0 0)
def varveref12_values.l0 : Nat → List ByteArray → Int → Option (Bool)
 | 0, _, _ => none
 | k + 1, x0, x3 => if x3 < (x0.length : Int) then (if 0 ≤ x3 then (if ((rdOf ByteArray.empty x0 x3).size : Int) > 64 then (some false) else (if x3 > 0 then (if 0 ≤ (wrap64 (x3 - 1)) then (if (wrap64 (x3 - 1)) < (x0.length : Int) then (if ((Op.bytesLess ((rdOf ByteArray.empty x0 (wrap64 (x3 - 1))).toList) ((rdOf ByteArray.empty x0 x3).toList)) = true) then (varveref12_values.l0 k x0 (wrap64 (x3 + 1))) else (some false)) else (none)) else (none)) else (varveref12_values.l0 k x0 (wrap64 (x3 + 1))))) else (none)) else (some true)
end
def varveref12_values.f (k : Nat) (l0 : List ByteArray) : Option (Bool) := if (l0.length : Int) < 1 then (varveref12_values.j0 k l0 true) else (varveref12_values.j0 k l0 (decide ((l0.length : Int) > 16)))
set_option maxHeartbeats 8000000 in
set_option maxRecDepth 100000 in
theorem varveref12_values.calls (k : Nat) (A0 : Option Addr) (c0 : Nat) (l0 : List ByteArray) (r : Bool) (w : World) (hr0 : Kd.C Kd.string w A0 l0.length l0) (hc0 : l0.length ≤ c0) (h : varveref12_values.f k l0 = some r) :
  Calls Try.prog 63 #[.slice A0 l0.length c0] w fun e w' => e = .returned (.bool r) ∧ Drawn0 w w' := by
 have HR0 := mkA hr0; have HC0 := mkA hc0; clear hr0 hc0; have H : (if (l0.length : Int) < 1 then (varveref12_values.j0 k l0 true) else (varveref12_values.j0 k l0 (decide ((l0.length : Int) > 16)))) = some r := h; clear h; have HC2 := mkA H; clear H; go_enter Try.func63, Try.ntmps63; go_upto_region 1 with (fail)
 repeat (go_quiet (fail); go_upto_region 1 with (fail))
 go_cut [11] (fun v11 wc => ∃ (kq : Nat) (x11_1 : Bool), v11 = .bool x11_1 ∧ Aside0 (varveref12_values.j0 kq l0 x11_1 = some r) ∧ Aside0 (kq ≤ k) ∧ Drawn0 w wc)
 case first =>
  have H := HC2.out; clear HC2; by_cases c3 : (l0.length : Int) < 1
  ·rw [if_pos c3] at H
   have c3b0 : decide ((l0.length : Int) < 1) = true := decide_eq_true c3; have c3b1 : decide (l0.length < 1) = true := decide_eq_true zk12; clear c3; (first | rw [c3b0] | (simp only [i64_w, i32_w]; rw [c3b0]) | skip); have H' := mkA H; clear H; go_wp2; (repeat (go_quiet (fail); try go_wp2)); go_meet
   case rel => exact ⟨_, (true), zk6, H', ⟨zk31⟩, zk7⟩
  ·rw [if_neg c3] at H
   have c3b0 : decide ((l0.length : Int) < 1) = false := decide_eq_false c3; have c3b1 : decide (l0.length < 1) = false := decide_eq_false zk12; clear c3; (first | rw [c3b0] | (simp only [i64_w, i32_w]; rw [c3b0]) | skip); have H' := mkA H; clear H; go_wp2; (repeat (go_quiet (fail); try go_wp2)); go_meet
   case rel => exact ⟨_, (decide ((l0.length : Int) > 16)), zk6, H', ⟨zk31⟩, zk7⟩
 case rest =>
  clear HC2; (try clear p2); (try clear c3); (try clear c3b0); (try clear c3b1); obtain ⟨kq, x11_1, rfl, HA, HJ1, ⟨mc1, rfl⟩⟩ := hcut
  cases kq with
  | zero => exact absurd HA.out (by simp [varveref12_values.j0])
  | succ kj1 =>
   have H := HA.out; clear HA; simp only [varveref12_values.j0] at H; by_cases c4 : x11_1 = true
   ·subst c4
    have H1 : (some false) = some r := zk29
    clear H; have H := H1; clear H1; obtain rfl := Option.some.inj H; go_wp2; (repeat (go_quiet (fail); try go_wp2)); go_ret
    exact zk128
   ·replace c4 := Bool.eq_false_iff.mpr c4
    subst c4; have H1 : (varveref12_values.l0 kj1 l0 0) = some r := zk23
    clear H; have H := H1; clear H1; have H' := mkA H; clear H; go_wp2; (repeat (go_quiet (fail); try go_wp2)); go_loopg [3] kj1 (fun kq v3 w' => ∃ (x3_2 : Int), v3 = .int .i64 x3_2 ∧ Aside0 (varveref12_values.l0 kq l0 x3_2 = some r) ∧ Aside0 (kq ≤ kj1) ∧ Drawn0 w w')
    case atStart => exact ⟨(0), zk6, H', ⟨Nat.le_refl _⟩, zk7⟩
    case round =>
     clear H'; (try clear c1); (try clear p2); (try clear c3); (try clear c3b0); (try clear c3b1); (try clear c4); (try clear p2); obtain ⟨x3_2, rfl, HA, HK2, ⟨m2, rfl⟩⟩ := hrel
     cases gk with
     | zero => exact absurd HA.out (by simp [varveref12_values.l0])
     | succ k2 =>
      have H := HA.out; clear HA; simp only [varveref12_values.l0] at H; by_cases c5 : x3_2 < (l0.length : Int)
      ·rw [if_pos c5] at H
       have c5b0 : decide (x3_2 < (l0.length : Int)) = true := decide_eq_true c5; clear c5; by_cases c6 : 0 ≤ x3_2
       ·rw [if_pos c6] at H
        have c6b0 : decide (0 ≤ x3_2) = true := decide_eq_true c6; clear c6; by_cases c7 : ((rdOf ByteArray.empty l0 x3_2).size : Int) > 64
        ·rw [if_pos c7] at H
         have c7b0 : decide (64 < ((rdOf ByteArray.empty l0 x3_2).size : Int)) = true := decide_eq_true c7; have c7b1 : decide (64 < (rdOf ByteArray.empty l0 x3_2).size) = true := decide_eq_true zk12; clear c7; obtain rfl := Option.some.inj H; have p128 : 0 ≤ (x3_2 : Int) := of_decide_eq_true zk2; have q128 : x3_2 < (l0.length : Int) := of_decide_eq_true zk2; obtain ⟨ad128, e128, hx128_0⟩ := Kd.at_string HR0.out x3_2 p128 q128; cases e128; replace p128 := eq_true p128; replace q128 := eq_true q128; go_wp2; (repeat (go_quiet (fail); try go_wp2)); go_ret
         exact zk128
        ·rw [if_neg c7] at H
         have c7b0 : decide (64 < ((rdOf ByteArray.empty l0 x3_2).size : Int)) = false := decide_eq_false c7; have c7b1 : decide (64 < (rdOf ByteArray.empty l0 x3_2).size) = false := decide_eq_false zk12; clear c7; by_cases c8 : x3_2 > 0
         ·rw [if_pos c8] at H
          have c8b0 : decide (0 < x3_2) = true := decide_eq_true c8; clear c8; obtain ⟨ji9, hji9⟩ : ∃ j_ : Int, (wrap64 (x3_2 - 1)) = j_ := ⟨_, rfl⟩
          replace H : (if 0 ≤ (ji9) then (if (ji9) < (l0.length : Int) then (if ((Op.bytesLess ((rdOf ByteArray.empty l0 (ji9)).toList) ((rdOf ByteArray.empty l0 x3_2).toList)) = true) then (varveref12_values.l0 k2 l0 (wrap64 (x3_2 + 1))) else (some false)) else (none)) else (none)) = some r := by first | (rw [hji9] at H; exact H) | (simp only [hji9] at H ⊢; exact H)
          have hji9w : (IntKind.i64.wrap (x3_2 - 1)) = ji9 := (i64_w _).trans hji9; by_cases c10 : 0 ≤ (ji9)
          ·rw [if_pos c10] at H
           have c10b0 : decide (0 ≤ (ji9)) = true := decide_eq_true c10; clear c10; by_cases c11 : (ji9) < (l0.length : Int)
           ·rw [if_pos c11] at H
            have c11b0 : decide ((ji9) < (l0.length : Int)) = true := decide_eq_true c11; clear c11; by_cases c12 : ((Op.bytesLess ((rdOf ByteArray.empty l0 (ji9)).toList) ((rdOf ByteArray.empty l0 x3_2).toList)) = true)
            ·rw [if_pos c12] at H
             have c12b0 : (Op.bytesLess ((rdOf ByteArray.empty l0 (ji9)).toList) ((rdOf ByteArray.empty l0 x3_2).toList)) = true := c12; clear c12; have H' := mkA H; clear H; have p128 : 0 ≤ (x3_2 : Int) := of_decide_eq_true zk2; have q128 : x3_2 < (l0.length : Int) := of_decide_eq_true zk2; obtain ⟨ad128, e128, hx128_0⟩ := Kd.at_string HR0.out x3_2 p128 q128; cases e128; replace p128 := eq_true p128; replace q128 := eq_true q128; have p129 : 0 ≤ (x3_2 : Int) := of_decide_eq_true zk2; have q129 : x3_2 < (l0.length : Int) := of_decide_eq_true zk2; obtain ⟨ad129, e129, hx129_0⟩ := Kd.at_string HR0.out x3_2 p129 q129; obtain rfl : ad128 = ad129 := (by injection e129)
             replace p129 := eq_true p129; replace q129 := eq_true q129; have p130 : 0 ≤ ((ji9) : Int) := of_decide_eq_true zk2; have q130 : (ji9) < (l0.length : Int) := of_decide_eq_true zk2; obtain ⟨ad130, e130, hx130_0⟩ := Kd.at_string HR0.out (ji9) p130 q130; obtain rfl : ad128 = ad130 := (by injection e130)
             replace p130 := eq_true p130; replace q130 := eq_true q130; go_wp2; (repeat (go_quiet (fail); try go_wp2)); go_roundg k2
             case measure => have := HJ1.out; have := HK2.out; omega
             case rel => exact ⟨(wrap64 (x3_2 + 1)), zk6, H', ⟨zk32⟩, zk7⟩
            ·rw [if_neg c12] at H
             have c12b0 : (Op.bytesLess ((rdOf ByteArray.empty l0 (ji9)).toList) ((rdOf ByteArray.empty l0 x3_2).toList)) = false := by simpa using c12
             clear c12; obtain rfl := Option.some.inj H; have p128 : 0 ≤ (x3_2 : Int) := of_decide_eq_true zk2; have q128 : x3_2 < (l0.length : Int) := of_decide_eq_true zk2; obtain ⟨ad128, e128, hx128_0⟩ := Kd.at_string HR0.out x3_2 p128 q128; cases e128; replace p128 := eq_true p128; replace q128 := eq_true q128; have p129 : 0 ≤ (x3_2 : Int) := of_decide_eq_true zk2; have q129 : x3_2 < (l0.length : Int) := of_decide_eq_true zk2; obtain ⟨ad129, e129, hx129_0⟩ := Kd.at_string HR0.out x3_2 p129 q129; obtain rfl : ad128 = ad129 := (by injection e129)
             replace p129 := eq_true p129; replace q129 := eq_true q129; have p130 : 0 ≤ ((ji9) : Int) := of_decide_eq_true zk2; have q130 : (ji9) < (l0.length : Int) := of_decide_eq_true zk2; obtain ⟨ad130, e130, hx130_0⟩ := Kd.at_string HR0.out (ji9) p130 q130; obtain rfl : ad128 = ad130 := (by injection e130)
             replace p130 := eq_true p130; replace q130 := eq_true q130; go_wp2; (repeat (go_quiet (fail); try go_wp2)); go_ret
             exact ⟨by first | rfl | (simp; done) | (simp only [← hji9] <;> (first | rfl | simp)) | (simp [*]; done), zk7⟩
           ·exact zk123
          ·rw [if_neg c10] at H; exact absurd H zk30
         ·rw [if_neg c8] at H
          have c8b0 : decide (0 < x3_2) = false := decide_eq_false c8; clear c8; have H' := mkA H; clear H; have p128 : 0 ≤ (x3_2 : Int) := of_decide_eq_true zk2; have q128 : x3_2 < (l0.length : Int) := of_decide_eq_true zk2; obtain ⟨ad128, e128, hx128_0⟩ := Kd.at_string HR0.out x3_2 p128 q128; cases e128; replace p128 := eq_true p128; replace q128 := eq_true q128; go_wp2; (repeat (go_quiet (fail); try go_wp2)); go_roundg k2
          case measure => have := HJ1.out; have := HK2.out; omega
          case rel => exact ⟨(wrap64 (x3_2 + 1)), zk6, H', ⟨zk32⟩, zk7⟩
       ·exact zk108
      ·rw [if_neg c5] at H
       have c5b0 : decide (x3_2 < (l0.length : Int)) = false := decide_eq_false c5; clear c5; obtain rfl := Option.some.inj H; go_wp2; (repeat (go_quiet (fail); try go_wp2)); go_ret
       exact zk128
end Go.Proofs.Ytlkhdbfhnpbbhaa.Mx
namespace Go.Proofs.Ytlkhdbfhnpbbhaa.Pure
def hexd (k : Int) : Int := if k < 10 then 48 + k else 87 + k
def esc (c : Int) : List Int := if c = 34 ∨ c = 92 then [92, c] else if c < 32 ∨ 127 ≤ c then [92, 120, hexd (c / 16), hexd (c % 16)] else [c]
def IsB (l : List Int) : Prop := ∀ c ∈ l, 0 ≤ c ∧ c < 256
theorem hexd_inj {a b : Int} (ha : 0 ≤ a ∧ a < 16) (hb : 0 ≤ b ∧ b < 16) (h : hexd a = hexd b) : a = b := by
 unfold hexd at h; split at h <;> split at h <;> omega
theorem esc_inj : ∀ (v v' r r' : List Int), IsB v → IsB v' → v.flatMap esc ++ 34 :: r = v'.flatMap esc ++ 34 :: r' → v = v' ∧ r = r'
 | [], [], r, r', _, _, h => by simpa using h
 | [], c :: t, r, r', _, hb, h => by
  exfalso; simp only [List.flatMap_nil, List.nil_append, List.flatMap_cons, List.append_assoc] at h; unfold esc at h; split at h
  ·simp at h
  ·split at h
   ·simp at h
   ·rename_i h1 h2; simp at h; omega
 | c :: t, [], r, r', ha, _, h => by
  exfalso; simp only [List.flatMap_nil, List.nil_append, List.flatMap_cons, List.append_assoc] at h; unfold esc at h; split at h
  ·simp at h
  ·split at h
   ·simp at h
   ·rename_i h1 h2; simp at h; omega
 | c :: t, d :: u, r, r', ha, hb, h => by
  simp only [List.flatMap_cons, List.append_assoc] at h; have hc := ha c List.mem_cons_self; have hd := hb d List.mem_cons_self
  have key : c = d ∧ t.flatMap esc ++ 34 :: r = u.flatMap esc ++ 34 :: r' := by
   have e1 : esc c = if c = 34 ∨ c = 92 then [92, c] else if c < 32 ∨ 127 ≤ c then [92, 120, hexd (c / 16), hexd (c % 16)] else [c] := rfl
   have e2 : esc d = if d = 34 ∨ d = 92 then [92, d] else if d < 32 ∨ 127 ≤ d then [92, 120, hexd (d / 16), hexd (d % 16)] else [d] := rfl
   by_cases c1 : c = 34 ∨ c = 92
   ·rw [if_pos c1] at e1
    by_cases d1 : d = 34 ∨ d = 92
    ·rw [if_pos d1] at e2; rw [e1, e2] at h; simpa using h
    ·rw [if_neg d1] at e2
     by_cases d2 : d < 32 ∨ 127 ≤ d
     ·rw [if_pos d2] at e2; rw [e1, e2] at h; simp at h; omega
     ·rw [if_neg d2] at e2; rw [e1, e2] at h; simp at h; omega
   ·rw [if_neg c1] at e1
    by_cases c2 : c < 32 ∨ 127 ≤ c
    ·rw [if_pos c2] at e1
     by_cases d1 : d = 34 ∨ d = 92
     ·rw [if_pos d1] at e2; rw [e1, e2] at h; simp at h; omega
     ·rw [if_neg d1] at e2
      by_cases d2 : d < 32 ∨ 127 ≤ d
      ·rw [if_pos d2] at e2; rw [e1, e2] at h; simp only [List.cons_append, List.nil_append, List.cons.injEq, true_and] at h; obtain ⟨h1, h2, h3⟩ := h; have := hexd_inj zk12 zk12 h1; have := hexd_inj zk12 zk12 h2; exact ⟨zk12, h3⟩
      ·rw [if_neg d2] at e2; rw [e1, e2] at h; simp at h; omega
    ·rw [if_neg c2] at e1
     by_cases d1 : d = 34 ∨ d = 92
     ·rw [if_pos d1] at e2; rw [e1, e2] at h; simp at h; omega
     ·rw [if_neg d1] at e2
      by_cases d2 : d < 32 ∨ 127 ≤ d
      ·rw [if_pos d2] at e2; rw [e1, e2] at h; simp at h; omega
      ·rw [if_neg d2] at e2; rw [e1, e2] at h; simpa using h
  obtain ⟨rfl, h2⟩ := key; obtain ⟨rfl, rfl⟩ := esc_inj t u r r' (fun x hx => ha x (List.mem_cons_of_mem _ hx)) (fun x hx => hb x (List.mem_cons_of_mem _ hx)) h2; exact ⟨rfl, rfl⟩
def quo (v : List Int) : List Int := 34 :: (v.flatMap esc ++ [34])
def itm (x : List Int × List Int) : List Int := x.1 ++ 61 :: quo x.2
def txt : List (List Int × List Int) → List Int
 | [] => []
 | [x] => itm x
 | x :: y :: r => itm x ++ 44 :: txt (y :: r)
theorem eq_sign : ∀ (a b r s : List Int), 61 ∉ a → 61 ∉ b → a ++ 61 :: r = b ++ 61 :: s → a = b ∧ r = s
 | [], [], r, s, _, _, h => by simpa using h
 | [], c :: t, r, s, _, hb, h => by simp at h; exact absurd (h.1 ▸ List.mem_cons_self) hb
 | c :: t, [], r, s, ha, _, h => by simp at h; exact absurd (h.1 ▸ List.mem_cons_self) ha
 | c :: t, d :: u, r, s, ha, hb, h => by
  simp only [List.cons_append, List.cons.injEq] at h; obtain ⟨rfl, h⟩ := h; obtain ⟨rfl, rfl⟩ := eq_sign t u r s (fun c => ha (List.mem_cons_of_mem _ c)) (fun c => hb (List.mem_cons_of_mem _ c)) h; exact ⟨rfl, rfl⟩
def OkL (x : List Int × List Int) : Prop := 61 ∉ x.1 ∧ IsB x.2
theorem itm_inj {x y : List Int × List Int} {r s : List Int} (hx : OkL x) (hy : OkL y) (h : itm x ++ r = itm y ++ s) : x = y ∧ r = s := by
 obtain ⟨a, v⟩ := x; obtain ⟨b, u⟩ := y; unfold itm quo at h; simp only [List.append_assoc, List.cons_append, List.nil_append] at h; obtain ⟨rfl, h2⟩ := eq_sign _ _ _ _ hx.1 hy.1 h; simp only [List.cons.injEq, true_and] at h2; obtain ⟨h3, rfl⟩ := esc_inj v u r s hx.2 hy.2 h2; exact ⟨by rw [h3], rfl⟩
theorem itm_ne (x : List Int × List Int) : itm x ≠ [] := by unfold itm; simp
theorem txt_cons (x : List Int × List Int) (l : List (List Int × List Int)) : ∃ r, txt (x :: l) = itm x ++ r ∧ (l = [] → r = []) ∧ (∀ y t, l = y :: t → r = 44 :: txt l) := by
 cases l with
 | nil => exact ⟨[], by simp [txt], fun _ => rfl, fun _ _ h => by cases h⟩
 | cons y t => exact ⟨44 :: txt (y :: t), rfl, (fun h => by cases h), fun _ _ _ => rfl⟩
theorem txt_inj : ∀ (l m : List (List Int × List Int)), (∀ x ∈ l, OkL x) → (∀ x ∈ m, OkL x) → txt l = txt m → l = m
 | [], [], _, _, _ => rfl
 | [], y :: m, _, _, h => by
  obtain ⟨r, hr, _⟩ := txt_cons y m; rw [hr] at h; exact absurd (List.append_eq_nil_iff.1 h.symm).1 (itm_ne y)
 | x :: l, [], _, _, h => by
  obtain ⟨r, hr, _⟩ := txt_cons x l; rw [hr] at h; exact absurd (List.append_eq_nil_iff.1 h).1 (itm_ne x)
 | x :: l, y :: m, hl, hm, h => by
  obtain ⟨r, hr, r0, r1⟩ := txt_cons x l; obtain ⟨s, hs, s0, s1⟩ := txt_cons y m; rw [hr, hs] at h; obtain ⟨rfl, rfl⟩ := itm_inj (hl x List.mem_cons_self) (hm y List.mem_cons_self) h
  cases l with
  | nil =>
   cases m with
   | nil => rfl
   | cons z m => rw [r0 rfl] at s1; have := s1 z m rfl; simp at this
  | cons w l =>
   cases m with
   | nil => rw [s0 rfl] at r1; have := r1 w l rfl; simp at this
   | cons z m =>
    have e := (r1 w l rfl).symm.trans (s1 z m rfl); simp only [List.cons.injEq, true_and] at e; rw [txt_inj (w :: l) (z :: m) (fun a ha => hl a (List.mem_cons_of_mem _ ha)) (fun a ha => hm a (List.mem_cons_of_mem _ ha)) e]
end Go.Proofs.Ytlkhdbfhnpbbhaa.Pure
namespace Go.Proofs.Ytlkhdbfhnpbbhaa.Pure
open Go.RowKit Go.Proofs.YtlkhdbfhnpbbhaaW.PrintWords Go.Proofs.YtlkhdbfhnpbbhaaW.PrintLast Go.Proofs.YtlkhdbfhnpbbhaaW.PrintMore Go.Proofs.Ytlkhdbfhnpbbhaa.Ix
theorem w64 {i : Int} (h0 : -9223372036854775808 ≤ i) (h1 : i < 9223372036854775808) : wrap64 i = i := by unfold wrap64; omega
def nb (c : Int) : Bool := decide (c = 95) || (decide (97 ≤ c) && decide (c ≤ 122)) || (decide (48 ≤ c) && decide (c ≤ 57))
def nmFrom (s : ByteArray) : Nat → Nat → Bool
 | 0, _ => true
 | d + 1, i => nb (bt s (i : Int)) && nmFrom s d (i + 1)
def nm (s : ByteArray) : Bool := decide (1 ≤ s.size) && decide (s.size ≤ 32) && !(decide (48 ≤ bt s 0) && decide (bt s 0 ≤ 57)) && nmFrom s s.size 0
theorem name_l0 (s : ByteArray) (hs : s.size ≤ 140737488351232) : ∀ (d i k : Nat), i + d = s.size → d < k → label_Name.l0 k s (s.size : Int) (i : Int) = some (nmFrom s d i)
 | 0, i, k, h, hk => by
  obtain ⟨k, rfl⟩ : ∃ m, k = m + 1 := ⟨k - 1, zk12⟩
  rw [label_Name.l0, if_neg zk12]; rfl
 | d + 1, i, k, h, hk => by
  obtain ⟨k, rfl⟩ : ∃ m, k = m + 1 := ⟨k - 1, zk12⟩
  have ih := name_l0 s hs d (i + 1) k zk12 zk12; rw [Int.natCast_add, Int.natCast_one] at ih; rw [label_Name.l0, if_pos zk12, if_pos zk12, if_pos zk12, w64 zk12 zk12, ih, nmFrom]; generalize bt s (i : Int) = c; unfold nb; by_cases h1 : c < 97
  ·rw [if_pos h1]
   by_cases h2 : c < 48
   ·rw [if_pos h2]
    have : ¬ c = 95 := zk12
    rw [if_neg this]; simp only [this, decide_false, Bool.false_or, show ¬ 97 ≤ c by omega, show ¬ 48 ≤ c by omega, Bool.false_and]
   ·rw [if_neg h2]
    by_cases h3 : c > 57
    ·rw [if_pos h3]
     by_cases h4 : c = 95
     ·rw [if_pos h4]; simp [h4]
     ·rw [if_neg h4]; simp [h4, show ¬ 97 ≤ c by omega, show ¬ c ≤ 57 by omega]
    ·rw [if_neg h3]; simp [show 48 ≤ c by omega, show c ≤ 57 by omega]
  ·rw [if_neg h1]
   by_cases h2 : c > 122
   ·rw [if_pos h2, if_neg zk12, if_pos zk12, if_neg zk12]; simp [show ¬ c = 95 by omega, show ¬ c ≤ 122 by omega, show ¬ c ≤ 57 by omega]
   ·rw [if_neg h2]; simp [show 97 ≤ c by omega, show c ≤ 122 by omega]
theorem name_eq (s : ByteArray) (k : Nat) (hk : 40 ≤ k) : label_Name.f k s = some (nm s) := by
 obtain ⟨k, rfl⟩ : ∃ m, k = m + 1 := ⟨k - 1, zk12⟩
 have jt : label_Name.j0 (k + 1) s true = some false := by rw [label_Name.j0, if_pos rfl]
 unfold label_Name.f nm; by_cases h1 : (s.size : Int) < 1
 ·rw [if_pos h1, jt]; simp [show ¬ 1 ≤ s.size by omega]
 ·rw [if_neg h1]
  by_cases h2 : (s.size : Int) > 32
  ·rw [if_pos h2, jt]; simp [show ¬ s.size ≤ 32 by omega]
  ·rw [if_neg h2, if_pos zk12]
   have l0 := name_l0 s zk12 s.size 0 k zk12 zk12; have jf : label_Name.j0 (k + 1) s false = some (nmFrom s s.size 0) := by rw [label_Name.j0, if_neg zk30]; exact l0
   by_cases h3 : bt s 0 ≥ 48
   ·rw [if_pos h3]
    by_cases h4 : bt s 0 ≤ 57
    ·rw [decide_eq_true h4, jt]; simp [show 48 ≤ bt s 0 from h3, h4]
    ·rw [decide_eq_false h4, jf]; simp [h4, show 1 ≤ s.size by omega, show s.size ≤ 32 by omega]
   ·rw [if_neg h3, jf]; simp [show ¬ 48 ≤ bt s 0 from h3, show 1 ≤ s.size by omega, show s.size ≤ 32 by omega]
theorem rname_l0 (s : ByteArray) (hs : s.size ≤ 140737488351232) : ∀ (d i k : Nat), i + d = s.size → d < k →
  varveref11_Name.l0 k s (i : Int) = some ((decide (d = 0 ∨ i ≠ 0) || !(decide (48 ≤ bt s i) && decide (bt s i ≤ 57))) && nmFrom s d i && decide (1 ≤ s.size) && decide (s.size ≤ 32))
 | 0, i, k, h, hk => by
  obtain ⟨k, rfl⟩ : ∃ m, k = m + 1 := ⟨k - 1, zk12⟩
  rw [varveref11_Name.l0, if_neg zk12]; by_cases h1 : (s.size : Int) ≥ 1
  ·rw [if_pos h1]; simp [nmFrom, show 1 ≤ s.size by omega]; omega
  ·rw [if_neg h1]; simp [nmFrom, show ¬ 1 ≤ s.size by omega]
 | d + 1, i, k, h, hk => by
  obtain ⟨k, rfl⟩ : ∃ m, k = m + 1 := ⟨k - 1, zk12⟩
  have ih := rname_l0 s hs d (i + 1) k zk12 zk12; rw [Int.natCast_add, Int.natCast_one] at ih; rw [varveref11_Name.l0, if_pos zk12, if_pos zk12, w64 zk12 zk12, ih, nmFrom]; simp only [show (d = 0 ∨ i + 1 ≠ 0) from .inr zk12, decide_true, Bool.true_or, Bool.true_and]; generalize bt s (i : Int) = c; generalize nmFrom s d (i + 1) = r; unfold nb; by_cases hi : i = 0
  ·subst hi
   simp only [show ¬ (d + 1 = 0 ∨ (0 : Nat) ≠ 0) by omega, decide_false, Bool.false_or, show ((0 : Nat) : Int) = 0 from rfl, if_true]; by_cases h0 : c = 95
   ·rw [if_pos h0]; simp [h0]
   ·rw [if_neg h0]
    by_cases h1 : c < 97
    ·rw [if_pos h1]
     by_cases h2 : c < 48
     ·rw [if_pos h2]; simp [h0, show ¬ 97 ≤ c by omega, show ¬ 48 ≤ c by omega]
     ·rw [if_neg h2]
      by_cases h3 : c > 57
      ·rw [if_pos h3]; simp [h0, show ¬ 97 ≤ c by omega, show ¬ c ≤ 57 by omega]
      ·rw [if_neg h3]; simp [show 48 ≤ c by omega, show c ≤ 57 by omega]
    ·rw [if_neg h1]
     by_cases h2 : c > 122
     ·exact zk118
     ·rw [if_neg h2]; simp [show 97 ≤ c by omega, show c ≤ 122 by omega, show ¬ c ≤ 57 by omega]
  ·simp only [show (d + 1 = 0 ∨ i ≠ 0) from .inr hi, decide_true, Bool.true_or, Bool.true_and]
   have hi2 : ¬ (i : Int) = 0 := zk12
   by_cases h0 : c = 95
   ·rw [if_pos h0]; simp [h0]
   ·rw [if_neg h0]
    by_cases h1 : c < 97
    ·rw [if_pos h1]
     by_cases h2 : c < 48
     ·rw [if_pos h2]; simp [h0, show ¬ 97 ≤ c by omega, show ¬ 48 ≤ c by omega]
     ·rw [if_neg h2]
      by_cases h3 : c > 57
      ·rw [if_pos h3]; simp [h0, show ¬ 97 ≤ c by omega, show ¬ c ≤ 57 by omega]
      ·rw [if_neg h3, if_neg hi2]; simp [show 48 ≤ c by omega, show c ≤ 57 by omega]
    ·rw [if_neg h1]
     by_cases h2 : c > 122
     ·exact zk118
     ·rw [if_neg h2]; simp [show 97 ≤ c by omega, show c ≤ 122 by omega]
theorem rname_eq (s : ByteArray) (hs : s.size ≤ 140737488351232) (k : Nat) (hk : s.size < k) : varveref11_Name.f k s = some (nm s) := by
 unfold varveref11_Name.f; have h := rname_l0 s hs s.size 0 k zk12 hk; refine h.trans (congrArg some ?_); unfold nm; by_cases h0 : s.size = 0
 ·simp [h0]
 ·simp only [show ¬ (s.size = 0 ∨ (0 : Nat) ≠ 0) by omega, decide_false, Bool.false_or, show ((0 : Nat) : Int) = 0 from rfl]
  generalize nmFrom s s.size 0 = r; generalize decide (1 ≤ s.size) = a; generalize decide (s.size ≤ 32) = b; generalize (!(decide (48 ≤ bt s 0) && decide (bt s 0 ≤ 57))) = e; cases a <;> cases b <;> cases e <;> cases r <;> rfl
end Go.Proofs.Ytlkhdbfhnpbbhaa.Pure
namespace Go.Proofs.Ytlkhdbfhnpbbhaa.Pure
open Go.RowKit Go.Proofs.YtlkhdbfhnpbbhaaW.PrintWords Go.Proofs.YtlkhdbfhnpbbhaaW.PrintLast Go.Proofs.YtlkhdbfhnpbbhaaW.PrintMore Go.Proofs.Ytlkhdbfhnpbbhaa.Ix
abbrev LB := S41
noncomputable instance : DecidableEq LB := fun x y => Classical.propDecidable (x = y)
def lbOk (l : List LB) (i : Nat) : Bool :=
 nm (rd_T41 l (i : Int)).f0 && decide (1 ≤ (rd_T41 l (i : Int)).f1.size) && decide ((rd_T41 l (i : Int)).f1.size ≤ 64) &&
  (decide (i = 0) || Op.bytesLess (rd_T41 l ((i : Int) - 1)).f0.toList (rd_T41 l (i : Int)).f0.toList)
def chkFrom (l : List LB) : Nat → Nat → Bool
 | 0, _ => true
 | d + 1, i => lbOk l i && chkFrom l d (i + 1)
def chk (l : List LB) : Bool := decide (1 ≤ l.length) && decide (l.length ≤ 8) && chkFrom l l.length 0
theorem round_eq (l : List LB) (i : Nat) (hi : i < l.length) (hl : l.length ≤ 140737488351232) (X : Option Bool) (r : Bool) (hX : X = some r) :
  (if nm (rd_T41 l (i : Int)).f0 = true then (if (((rd_T41 l (i : Int)).f1).size : Int) < 1 then (some false) else (if (((rd_T41 l (i : Int)).f1).size : Int) > 64 then (some false) else (if (i : Int) > 0 then (if 0 ≤ (wrap64 ((i : Int) - 1)) then (if (wrap64 ((i : Int) - 1)) < (l.length : Int) then (if ((Op.bytesLess (((rd_T41 l (wrap64 ((i : Int) - 1))).f0).toList) (((rd_T41 l (i : Int)).f0).toList)) = true) then X else (some false)) else (none)) else (none)) else X))) else (some false)) = some (lbOk l i && r) := by
 subst hX; unfold lbOk; by_cases h1 : nm (rd_T41 l (i : Int)).f0 = true
 ·rw [if_pos h1, h1]
  by_cases h2 : (((rd_T41 l (i : Int)).f1).size : Int) < 1
  ·rw [if_pos h2]; simp [show ¬ 1 ≤ (rd_T41 l (i : Int)).f1.size by omega]
  ·rw [if_neg h2, decide_eq_true (show 1 ≤ (rd_T41 l (i : Int)).f1.size by omega)]
   by_cases h3 : (((rd_T41 l (i : Int)).f1).size : Int) > 64
   ·rw [if_pos h3, decide_eq_false (show ¬ (rd_T41 l (i : Int)).f1.size ≤ 64 by omega)]; simp
   ·rw [if_neg h3, decide_eq_true (show (rd_T41 l (i : Int)).f1.size ≤ 64 by omega)]
    by_cases h4 : i = 0
    ·rw [if_neg zk12, decide_eq_true h4]; simp
    ·rw [if_pos zk12, w64 zk12 zk12, if_pos zk12, if_pos zk12, decide_eq_false h4]
     cases Op.bytesLess (rd_T41 l ((i : Int) - 1)).f0.toList (rd_T41 l (i : Int)).f0.toList <;> simp
 ·rw [if_neg h1, eq_false_of_ne_true h1]; simp
theorem check_l0 (l : List LB) (hl : l.length ≤ 140737488351232) : ∀ (d i k : Nat), i + d = l.length → d + 40 < k → label_Check.l0 k l l (l.length : Int) (i : Int) = some (chkFrom l d i)
 | 0, i, k, h, hk => by
  obtain ⟨k, rfl⟩ : ∃ m, k = m + 1 := ⟨k - 1, zk12⟩
  rw [label_Check.l0, if_neg zk12]; rfl
 | d + 1, i, k, h, hk => by
  obtain ⟨k, rfl⟩ : ∃ m, k = m + 1 := ⟨k - 1, zk12⟩
  have ih := check_l0 l hl d (i + 1) k zk12 zk12; rw [Int.natCast_add, Int.natCast_one] at ih; rw [label_Check.l0, if_pos zk12, if_pos zk12, if_pos zk12, name_eq _ _ zk12, Option.bind_some]; refine round_eq l i zk12 hl _ _ ?_; rw [w64 zk12 zk12]; exact ih
theorem check_eq (l : List LB) (k : Nat) (hk : 60 ≤ k) : label_Check.f k l = some (chk l) := by
 obtain ⟨k, rfl⟩ : ∃ m, k = m + 1 := ⟨k - 1, zk12⟩
 unfold label_Check.f chk; by_cases h1 : (l.length : Int) < 1
 ·rw [if_pos h1, label_Check.j0, if_pos rfl]; simp [show ¬ 1 ≤ l.length by omega]
 ·rw [if_neg h1, decide_eq_true (show 1 ≤ l.length by omega)]
  by_cases h2 : (l.length : Int) > 8
  ·rw [decide_eq_true h2, label_Check.j0, if_pos rfl, decide_eq_false (show ¬ l.length ≤ 8 by omega)]; simp
  ·rw [decide_eq_false h2, label_Check.j0, if_neg zk30, decide_eq_true (show l.length ≤ 8 by omega)]; rw [show (0 : Int) = ((0 : Nat) : Int) from rfl, check_l0 l zk12 l.length 0 k zk12 zk12]; simp
theorem rcheck_l0 (l : List LB) (hl : l.length ≤ 140737488351232) (hs : ∀ x ∈ l, x.f0.size ≤ 140737488351232) : ∀ (d i k : Nat), i + d = l.length → d < k → (∀ x ∈ l, x.f0.size + d < k) →
  varveref11_Check.l0 k l (i : Int) = some (chkFrom l d i && decide (1 ≤ l.length) && decide (l.length ≤ 8))
 | 0, i, k, h, hk, _ => by
  obtain ⟨k, rfl⟩ : ∃ m, k = m + 1 := ⟨k - 1, zk12⟩
  rw [varveref11_Check.l0, if_neg zk12]; by_cases h1 : (l.length : Int) ≥ 1
  ·rw [if_pos h1]; simp [chkFrom, show 1 ≤ l.length by omega]; omega
  ·rw [if_neg h1]; simp [chkFrom, show ¬ 1 ≤ l.length by omega]
 | d + 1, i, k, h, hk, hx => by
  obtain ⟨k, rfl⟩ : ∃ m, k = m + 1 := ⟨k - 1, zk12⟩
  have ih := rcheck_l0 l hl hs d (i + 1) k zk12 zk12 (fun x h => by have := hx x h; omega); rw [Int.natCast_add, Int.natCast_one] at ih
  have hm : rd_T41 l (i : Int) ∈ l := by
   unfold rd_T41; rw [Int.toNat_natCast, List.getD_eq_getElem?_getD, List.getElem?_eq_getElem zk12]; exact List.getElem_mem _
  rw [varveref11_Check.l0, if_pos zk12, if_pos zk12, rname_eq _ (hs _ hm) k (by have := hx _ hm; omega), Option.bind_some]; refine (round_eq l i zk12 hl _ _ (show varveref11_Check.l0 k l (wrap64 ((i : Int) + 1)) = some (chkFrom l d (i + 1) && decide (1 ≤ l.length) && decide (l.length ≤ 8)) by rw [w64 zk12 zk12]; exact ih)).trans ?_; rw [chkFrom, Bool.and_assoc, Bool.and_assoc, Bool.and_assoc]
theorem rcheck_eq (l : List LB) (hl : l.length ≤ 140737488351232) (hs : ∀ x ∈ l, x.f0.size ≤ 140737488351232) (k : Nat) (h1 : l.length < k) (h2 : ∀ x ∈ l, x.f0.size + l.length < k) : varveref11_Check.f k l = some (chk l) := by
 unfold varveref11_Check.f; refine (rcheck_l0 l hl hs l.length 0 k zk12 h1 h2).trans (congrArg some ?_); unfold chk; generalize chkFrom l l.length 0 = r; generalize decide (1 ≤ l.length) = a; generalize decide (l.length ≤ 8) = b; cases a <;> cases b <;> cases r <;> rfl
def lbVal (l : List LB) (s : ByteArray) : ByteArray := match l with
 | [] => ⟨#[]⟩
 | x :: t => if x.f0.toList = s.toList then x.f1 else lbVal t s
theorem drop_rd (l : List LB) (i : Nat) (hi : i < l.length) : l.drop i = rd_T41 l (i : Int) :: l.drop (i + 1) := by
 rw [List.drop_eq_getElem_cons hi]; congr 1; simp [rd_T41, hi]
theorem value_l0 (l : List LB) (s : ByteArray) (hl : l.length ≤ 140737488351232) : ∀ (d i k : Nat), i + d = l.length → d < k → label_Value.l0 k s l (l.length : Int) (i : Int) = some (lbVal (l.drop i) s)
 | 0, i, k, h, hk => by
  obtain ⟨k, rfl⟩ : ∃ m, k = m + 1 := ⟨k - 1, zk12⟩
  rw [label_Value.l0, if_neg zk12, List.drop_eq_nil_of_le zk12]; rfl
 | d + 1, i, k, h, hk => by
  obtain ⟨k, rfl⟩ : ∃ m, k = m + 1 := ⟨k - 1, zk12⟩
  have ih := value_l0 l s hl d (i + 1) k zk12 zk12; rw [Int.natCast_add, Int.natCast_one] at ih; rw [label_Value.l0, if_pos zk12, if_pos zk12, if_pos zk12, w64 zk12 zk12, ih, drop_rd l i zk12, lbVal]; split <;> rfl
theorem value_eq (l : List LB) (s : ByteArray) (hl : l.length ≤ 140737488351232) (k : Nat) (hk : l.length < k) : label_Value.f k l s = some (lbVal l s) := value_l0 l s hl l.length 0 k (by omega) hk
theorem rvalue_l0 (l : List LB) (s : ByteArray) (hl : l.length ≤ 140737488351232) : ∀ (d i k : Nat), i + d = l.length → d < k → varveref11_Value.l0 k l s (i : Int) = some (lbVal (l.drop i) s)
 | 0, i, k, h, hk => by
  obtain ⟨k, rfl⟩ : ∃ m, k = m + 1 := ⟨k - 1, zk12⟩
  rw [varveref11_Value.l0, if_neg zk12, List.drop_eq_nil_of_le zk12]; rfl
 | d + 1, i, k, h, hk => by
  obtain ⟨k, rfl⟩ : ∃ m, k = m + 1 := ⟨k - 1, zk12⟩
  have ih := rvalue_l0 l s hl d (i + 1) k zk12 zk12; rw [Int.natCast_add, Int.natCast_one] at ih; rw [varveref11_Value.l0, if_pos zk12, if_pos zk12, w64 zk12 zk12, ih, drop_rd l i zk12, lbVal]; split <;> rfl
theorem rvalue_eq (l : List LB) (s : ByteArray) (hl : l.length ≤ 140737488351232) (k : Nat) (hk : l.length < k) : varveref11_Value.f k l s = some (lbVal l s) := rvalue_l0 l s hl l.length 0 k (by omega) hk
theorem bytes_ext {a b : ByteArray} (h : a.toList = b.toList) : a = b := by
 rw [Lib.toList_data, Lib.toList_data] at h; cases a; cases b; simp at h; simp [h]
theorem lb_ext {x y : LB} (h0 : x.f0.toList = y.f0.toList) (h1 : x.f1.toList = y.f1.toList) : x = y := by
 cases x; cases y; simp only at h0 h1; rw [bytes_ext h0, bytes_ext h1]
theorem sameL_l0 (l m : List LB) (hl : l.length ≤ 140737488351232) (he : l.length = m.length) : ∀ (d i k : Nat), i + d = l.length → d < k → varvelaw00_SameLabels.l0 k l m (i : Int) = some (decide (l.drop i = m.drop i))
 | 0, i, k, h, hk => by
  obtain ⟨k, rfl⟩ : ∃ n, k = n + 1 := ⟨k - 1, zk12⟩
  rw [varvelaw00_SameLabels.l0, if_neg zk12, List.drop_eq_nil_of_le zk12, List.drop_eq_nil_of_le zk12]; rfl
 | d + 1, i, k, h, hk => by
  obtain ⟨k, rfl⟩ : ∃ n, k = n + 1 := ⟨k - 1, zk12⟩
  have ih := sameL_l0 l m hl he d (i + 1) k zk12 zk12; rw [Int.natCast_add, Int.natCast_one] at ih; rw [varvelaw00_SameLabels.l0, if_pos zk12, if_pos zk12, if_pos zk12, w64 zk12 zk12, ih, drop_rd l i zk12, drop_rd m i zk12]; generalize rd_T41 l (i : Int) = x; generalize rd_T41 m (i : Int) = y; by_cases h1 : x.f0.toList = y.f0.toList
  ·by_cases h2 : x.f1.toList = y.f1.toList
   ·obtain rfl := lb_ext h1 h2; rw [if_neg zk30]; simp
   ·rw [if_pos (by simp [h2])]; have : ¬ x = y := fun c => h2 (by rw [c]); simp [this]
  ·rw [if_pos (by simp [h1])]; have : ¬ x = y := fun c => h1 (by rw [c]); simp [this]
theorem sameL_eq (l m : List LB) (hl : l.length ≤ 140737488351232) (k : Nat) (hk : l.length < k) : varvelaw00_SameLabels.f k l m = some (decide (l = m)) := by
 unfold varvelaw00_SameLabels.f; by_cases h : l.length = m.length
 ·rw [if_pos zk12]; exact sameL_l0 l m hl h l.length 0 k zk12 hk
 ·rw [if_neg zk12]; simp [show ¬ l = m from fun c => h (by rw [c])]
end Go.Proofs.Ytlkhdbfhnpbbhaa.Pure
namespace Go.Proofs.Ytlkhdbfhnpbbhaa.Tx
open Go.RowKit Go.Proofs.YtlkhdbfhnpbbhaaW.PrintWords Go.Proofs.YtlkhdbfhnpbbhaaW.PrintLast Go.Proofs.YtlkhdbfhnpbbhaaW.PrintMore Go.Proofs.Ytlkhdbfhnpbbhaa.Ix
theorem info9 : (Try.prog.info? 9).map (fun i => (i.zero, i.size, i.bytes)) = some (some (.string ⟨#[]⟩), 1, 16) := by kernel_rfl
end Go.Proofs.Ytlkhdbfhnpbbhaa.Tx
namespace Go.Proofs.Ytlkhdbfhnpbbhaa.Tx
open Go.RowKit Go.Proofs.YtlkhdbfhnpbbhaaW.PrintWords Go.Proofs.YtlkhdbfhnpbbhaaW.PrintLast Go.Proofs.YtlkhdbfhnpbbhaaW.PrintMore Go.Proofs.Ytlkhdbfhnpbbhaa.Ix
def strings_Join.f (l0 : List ByteArray) (a1 : ByteArray) : Option ByteArray := if (Lib.join (l0.map (·.data.toList)) a1.data.toList).length ≤ 140737488355328 ∧ l0.length ≤ 140737488355328 then some ⟨(Lib.join (l0.map (·.data.toList)) a1.data.toList).toArray⟩ else none
theorem strings_Join.calls {b_ : Nat} {ok_ : Nat → Prop} (A0 : Option Addr) (c0 : Nat) (l0 : List ByteArray) (a1 : ByteArray) (r : ByteArray) (w : World) (hr0 : Kd.R Kd.string 9 w b_ ok_ (.slice A0 l0.length c0) l0) (hc0 : l0.length ≤ c0) (h : strings_Join.f l0 a1 = some r) :
  Calls Try.prog 56 #[.slice A0 l0.length c0, .string a1] w fun e w' => e = .returned (.string r) ∧ Below w.heap.size w w' := by
 unfold strings_Join.f at h; split at h
 case isFalse => cases h
 case isTrue hl =>
  obtain rfl := Option.some.inj h
  cases l0 with
  | nil =>
   refine (Try.strings_Join_none A0 c0 a1 w).mono ?_; rintro e w' ⟨rfl, rfl⟩; exact ⟨rfl, Below.refl _ _⟩
  | cons x t =>
   obtain ⟨inner, ho⟩ := Kd.R_own hr0; have hC := (Kd.R_reads' hr0).2.2
   rcases ho.2 with ⟨hv, h0⟩ | ⟨g, cap, cur, hv, hgb, hgh, _⟩
   ·simp at h0
   ·obtain ⟨rfl, -, rfl⟩ : A0 = some ⟨g, 0, none⟩ ∧ (x :: t).length = (x :: t).length ∧ c0 = cap := by
     injection hv with h1 h2 h3; exact ⟨h1, rfl, h3⟩
    refine Try.strings_Join g 0 c0 (x :: t) a1 w ?_ (Array.getElem?_eq_some_iff.1 hgh).1 hl.2 hc0 hl.1; intro j y hy; have hj : j < (x :: t).length := (List.getElem?_eq_some_iff.1 hy).1; obtain ⟨ad, e, hc⟩ := Kd.at_string hC (j : Int) zk12 zk12; obtain rfl := Option.some.inj e; rw [Int.toNat_natCast] at hc; have hy2 : rdOf ByteArray.empty (x :: t) (j : Int) = y := by simp [rdOf, hy]
    rw [hy2] at hc; rw [← hc]; unfold Addr.add; split
    ·rename_i h; subst h; rfl
    ·rfl
end Go.Proofs.Ytlkhdbfhnpbbhaa.Tx
namespace Go.Proofs.Ytlkhdbfhnpbbhaa.Tx
open Go.RowKit Go.Proofs.YtlkhdbfhnpbbhaaW.PrintWords Go.Proofs.YtlkhdbfhnpbbhaaW.PrintLast Go.Proofs.YtlkhdbfhnpbbhaaW.PrintMore Go.Proofs.Ytlkhdbfhnpbbhaa.Ix
def label_Text.l0 : Nat → List ByteArray → List (S41) → Int → Int → Option (ByteArray)
 | 0, _, _, _, _ => none
 | k + 1, x3, x6, x7, x8 => if x8 < x7 then (if 0 ≤ x8 then (if x8 < (x6.length : Int) then (if ((rd_T41 x6 x8).f0).size + 1 ≤ 9223372036854775807 then ((label_Quoted.f k ((rd_T41 x6 x8).f1)).bind fun t131 => (if (((rd_T41 x6 x8).f0) ++ (⟨#[61]⟩ : ByteArray)).size + t131.size ≤ 9223372036854775807 then (if x3.length < 8796093022208 then (label_Text.l0 k (x3 ++ [(((rd_T41 x6 x8).f0) ++ (⟨#[61]⟩ : ByteArray)) ++ t131]) x6 x7 (wrap64 (x8 + 1))) else (none)) else (none))) else (none)) else (none)) else (none)) else ((strings_Join.f x3 (⟨#[44]⟩ : ByteArray)).bind fun t135 => (some t135))
def label_Text.f (k : Nat) (l0 : List (S41)) : Option (ByteArray) := label_Text.l0 k ([] : List ByteArray) l0 (l0.length : Int) 0
def label_Text.T5 : Bool × List (List Nat × List Nat) := (true, [([], []), ([], []), ([1], [1]), ([2], [2]), ([], []), ([4], [4]), ([5], [5]), ([3, 6], [3, 6]), ([7], [7]), ([0, 8, 6], [0, 8]), ([9, 9, 0, 1, 2, 3, 4, 5, 6, 7, 8, 9], [0, 9])])
def label_Text.B5 : List Nat := [0, 0, 2, 6, 0, 16, 48, 126, 254, 511, 1023]
theorem label_Text.tab5 : rtab .any (opsOf Try.f36 5) = label_Text.T5 := by kernel_rfl
theorem label_Text.bits5 : waitsOk label_Text.T5.2 label_Text.B5 = true := by kernel_rfl
set_option maxHeartbeats 8000000 in
set_option maxRecDepth 100000 in
theorem label_Text.calls (k : Nat) (A0 : Option Addr) (c0 : Nat) (l0 : List (S41)) (r : ByteArray) (w : World) (hr0 : Kd.C k41 w A0 l0.length l0) (hc0 : l0.length ≤ c0) (h : label_Text.f k l0 = some r) :
  Calls Try.prog 36 #[.slice A0 l0.length c0] w fun e w' => e = .returned (.string r) ∧ Below w.heap.size w w' := by
 have hu41 := Try.underlying41; have HR0 := mkA hr0; have HC0 := mkA hc0; clear hr0 hc0; have HB := mkA (Below.refl w.heap.size w); have H : (label_Text.l0 k ([] : List ByteArray) l0 (l0.length : Int) 0) = some r := h; clear h; have H' := mkA H; clear H; go_enter Try.func36, Try.ntmps36; go_wp2; go_loopg [3, 8] k (fun kq v3 v8 w' => ∃ (x3_1 : List ByteArray) (x8_1 : Int), v8 = .int .i64 x8_1 ∧ Aside0 (label_Text.l0 kq x3_1 l0 (l0.length : Int) x8_1 = some r) ∧ Aside0 (kq ≤ k) ∧ Aside0 (Kd.R Kd.string 9 w' w.heap.size (fun _ => True) v3 x3_1) ∧ Aside0 (Below w.heap.size w w'))
 case atStart => exact ⟨(([] : List ByteArray)), (0), zk6, H', ⟨Nat.le_refl _⟩, ⟨by first | exact Kd.R_nil _ _ _ _ _ | exact Kd.N_nil _ _ _ _ _ | exact Kd.V_nil _ _ _ _ _ | exact Kd.Q_nil _ _ _ _ _ | exact Kd.S_nil _ _ _ _ _⟩, ⟨zk1⟩⟩
 case round =>
  clear H'; obtain ⟨x3_1, x8_1, rfl, HA, HK1, HO_3, HB⟩ := hrel
  cases gk with
  | zero => exact absurd HA.out (by simp [label_Text.l0])
  | succ k1 =>
   have H := HA.out; clear HA; simp only [label_Text.l0] at H; by_cases c2 : x8_1 < (l0.length : Int)
   ·rw [if_pos c2] at H
    have c2b0 : decide (x8_1 < (l0.length : Int)) = true := decide_eq_true c2; clear c2; by_cases c3 : 0 ≤ x8_1
    ·rw [if_pos c3] at H
     have c3b0 : decide (0 ≤ x8_1) = true := decide_eq_true c3; clear c3; by_cases c4 : x8_1 < (l0.length : Int)
     ·rw [if_pos c4] at H
      have c4b0 : decide (x8_1 < (l0.length : Int)) = true := decide_eq_true c4; clear c4; by_cases c5 : ((rd_T41 l0 x8_1).f0).size + 1 ≤ 9223372036854775807
      ·rw [if_pos c5] at H
       have c5b0 := eq_true c5; have c5b1 : decide (((rd_T41 l0 x8_1).f0).size + 1 ≤ 9223372036854775807) = true := decide_eq_true c5; (try have c5b2 : (9223372036854775807 < ((rd_T41 l0 x8_1).f0).size + 1) = False := eq_false (Nat.not_lt.2 c5)); replace H := Option.bind_eq_some_iff.mp H; obtain ⟨t131, A60, H⟩ := H; replace H : (if (((rd_T41 l0 x8_1).f0) ++ (⟨#[61]⟩ : ByteArray)).size + t131.size ≤ 9223372036854775807 then (if x3_1.length < 8796093022208 then (label_Text.l0 k1 (x3_1 ++ [(((rd_T41 l0 x8_1).f0) ++ (⟨#[61]⟩ : ByteArray)) ++ t131]) l0 (l0.length : Int) (wrap64 (x8_1 + 1))) else (none)) else (none)) = some r := H; have A6 := mkA A60; clear A60; by_cases c7 : (((rd_T41 l0 x8_1).f0) ++ (⟨#[61]⟩ : ByteArray)).size + t131.size ≤ 9223372036854775807
       ·rw [if_pos c7] at H
        have c7b0 := eq_true c7; have c7b1 : decide ((((rd_T41 l0 x8_1).f0) ++ (⟨#[61]⟩ : ByteArray)).size + t131.size ≤ 9223372036854775807) = true := decide_eq_true c7; (try have c7b2 : (9223372036854775807 < (((rd_T41 l0 x8_1).f0) ++ (⟨#[61]⟩ : ByteArray)).size + t131.size) = False := eq_false (Nat.not_lt.2 c7)); have c7b3 : (9223372036854775807 < ((rd_T41 l0 x8_1).f0).size + 1 + t131.size) = False := eq_false (by have h_ := c7; rw [ByteArray.size_append] at h_; exact Nat.not_lt.2 h_); by_cases c8 : x3_1.length < 8796093022208
        ·rw [if_pos c8] at H
         have LMc8 := mkA c8; clear c8; obtain ⟨y132, hy132⟩ : ∃ y_ : List ByteArray, y_ = (x3_1 ++ [(((rd_T41 l0 x8_1).f0) ++ (⟨#[61]⟩ : ByteArray)) ++ t131]) := ⟨_, rfl⟩
         replace H : (label_Text.l0 k1 y132 l0 (l0.length : Int) (wrap64 (x8_1 + 1))) = some r := by first | (rw [hy132]; with_reducible exact H) | (have H2_ := (Option.bind_some _ _).symm.trans H; rw [hy132]; with_reducible exact H2_) | (have H2_ := (Option.bind_some _ _).symm.trans H; with_reducible exact H2_) | with_reducible exact H | (rw [hy132]; exact H) | exact H
         have Ny132 := mkA hy132; clear hy132; have H' := mkA H; clear H; have p129 : 0 ≤ (x8_1 : Int) := of_decide_eq_true zk2; have q129 : x8_1 < (l0.length : Int) := of_decide_eq_true zk2; obtain ⟨ad129, e129, hx129_0, hx129_1⟩ := at_T41 HR0.out x8_1 p129 q129; cases e129; replace hx129_0 := (HB.out.cell (World.block_lt_of_cell? w _ hx129_0)).trans hx129_0; replace hx129_1 := (HB.out.cell (World.block_lt_of_cell? w _ hx129_1)).trans hx129_1; replace p129 := eq_true p129; replace q129 := eq_true q129; (try go_wp2_with (first | ((with_reducible refine gate_dst (N := 5) rfl ?_); refine box_event ?hg (N := 5) ?hd (cs := #[.string (⟨#[]⟩ : ByteArray), .string (⟨#[]⟩ : ByteArray)]) (t := 41) ?hr ?_; (case hd => exact zk16); (case hg => exact zk16); (case hr => exact zk9); intro gb130 hg w9 hbox hb; have n0_ := mkA (Kd.R_below zk22 hb); have n1_ := mkA (below_step zk1 hb); have n2_ := mkA (hbox); have n3_ := mkA ((by rw [hg]; exact (below_size zk1) : w.heap.size ≤ gb130)); have n4_ := mkA ((by rw [hg]; exact (below_size zk1) : w.heap.size ≤ gb130)); clear HO_3; clear HB; have HO_3 := n0_; have HB := n1_; have BK130 := n2_; have GW130 := n3_; have GE130 := n4_; clear n0_ n1_ n2_ n3_ n4_; clear hb hbox hg; obtain ⟨hcz10_0, hcz10_1, hfz10_0, hfz10_1⟩ := cf2 BK130.out))); have n0_ : Aside0 (Kd.R Kd.string 9 ((w9.setCell ⟨gb130, 0, none⟩ (.string ((rd_T41 l0 x8_1).f0))).setCell ⟨gb130, 1, none⟩ (.string ((rd_T41 l0 x8_1).f1))) w.heap.size (fun _ => True) u3 x3_1) := ⟨by (with_reducible repeat (first | apply Kd.R_alloc | apply Kd.R_drewN | apply Kd.R_drew)); exact Kd.R_mono (Kd.R_far (p := ⟨gb130, 1, none⟩) (Kd.R_far (p := ⟨gb130, 0, none⟩) (Kd.R_types HO_3.out BK130.out zk40) (fun _ hk => hk.2) (.string ((rd_T41 l0 x8_1).f0))) (fun _ hk => hk.2) (.string ((rd_T41 l0 x8_1).f1))) (fun _ hk => trivial)⟩
         have n1_ : Aside0 (((w9.setCell ⟨gb130, 0, none⟩ (.string ((rd_T41 l0 x8_1).f0))).setCell ⟨gb130, 1, none⟩ (.string ((rd_T41 l0 x8_1).f1))).heap[gb130]? = some (.cells #[.string ((rd_T41 l0 x8_1).f0), .string ((rd_T41 l0 x8_1).f1)] 41 (0, 0))) := ⟨by (with_reducible repeat (first | refine blk_drewN ?_ _ | refine blk_drew ?_ | refine blk_alloc ?_ _)); refine blk_put (cs := #[.string ((rd_T41 l0 x8_1).f0), .string (⟨#[]⟩ : ByteArray)]) ?_ 1 _ rfl; (with_reducible repeat (first | refine blk_drewN ?_ _ | refine blk_drew ?_ | refine blk_alloc ?_ _)); refine blk_put (cs := #[.string (⟨#[]⟩ : ByteArray), .string (⟨#[]⟩ : ByteArray)]) ?_ 0 _ rfl; (with_reducible repeat (first | refine blk_drewN ?_ _ | refine blk_drew ?_ | refine blk_alloc ?_ _)); exact BK130.out⟩
         have n2_ : Aside0 (Below w.heap.size w ((w9.setCell ⟨gb130, 0, none⟩ (.string ((rd_T41 l0 x8_1).f0))).setCell ⟨gb130, 1, none⟩ (.string ((rd_T41 l0 x8_1).f1)))) := ⟨zk28⟩
         (try clear HO_3); (try clear BK130); (try clear HB); generalize ((w9.setCell ⟨gb130, 0, none⟩ (.string ((rd_T41 l0 x8_1).f0))).setCell ⟨gb130, 1, none⟩ (.string ((rd_T41 l0 x8_1).f1))) = w11 at n0_ n1_ n2_ ⊢; have HO_3 := n0_; have BK130 := n1_; have HB := n2_; clear n0_ n1_ n2_; have n0_ := mkA (Kd.R_drew HO_3.out); have n1_ := mkA (blk_drew BK130.out); have n2_ := mkA (below_drew1 HB.out); clear HO_3; clear BK130; clear HB; have HO_3 := n0_; have BK130 := n1_; have HB := n2_; clear n0_ n1_ n2_; refine start_ (n := 11) (S := fun w' => w'.cell? ⟨gb130, 0, none⟩ = some (.string ((rd_T41 l0 x8_1).f0)) ∧ w'.cell? ⟨gb130, 1, none⟩ = some (.string ((rd_T41 l0 x8_1).f1))) (ds := []) #[false, false, false, false, false, false, false, false, false, false, false] zk3 rfl rfl ⟨(blk_cell BK130.out 0).trans rfl, (blk_cell BK130.out 1).trans rfl⟩ (fun hHeld => ?_); refine with_tabW label_Text.tab5 label_Text.bits5 (fun HT_ HW_ => ?_); generalize w11.drew = w12 at HO_3 BK130 HB hHeld ⊢; refine pure_ (i := 0) (N := some 12) (v := ?_) (a' := ?_) #[true, false, false, false, false, false, false, false, false, false, false] rfl rfl (any_of HT_.out zk3) (fun _ _ _ h => h) (Or.inl ⟨zk16, ?_⟩) ?_ ?_; rotate_left
         ·exact zk95
         rotate_left
         ·exact zk94
         refine pure_ (i := 1) (N := some 13) (v := ?_) (a' := ?_) #[true, true, false, false, false, false, false, false, false, false, false] rfl rfl (any_of HT_.out zk3) (fun _ _ _ h => h) (Or.inl ⟨zk16, ?_⟩) ?_ ?_; rotate_left
         ·exact zk95
         rotate_left
         ·exact zk94
         refine pure_ (i := 4) (N := some 16) (v := ?_) (a' := ?_) #[true, true, false, false, true, false, false, false, false, false, false] rfl rfl (any_of HT_.out zk3) (fun _ _ _ h => h) (Or.inl ⟨zk16, ?_⟩) ?_ ?_; rotate_left
         ·exact zk95
         rotate_left
         ·exact zk94
         refine take_ (i := 2) (N := some 14) (v := ?_) (a' := ?_) #[true, true, true, false, true, false, false, false, false, false, false] rfl rfl (take_ofW HT_.out HW_.out zk3) (fun _ _ _ h => h) (Or.inl ⟨zk16, ?_⟩) hHeld ?_ ?_; rotate_left
         ·exact zk101
         rotate_left
         ·exact zk94
         refine pure_ (i := 3) (N := some 15) (v := ?_) (a' := ?_) #[true, true, true, true, true, false, false, false, false, false, false] rfl rfl (any_of HT_.out zk3) (fun _ _ _ h => h) (Or.inl ⟨zk16, ?_⟩) ?_ ?_; rotate_left
         ·exact zk95
         rotate_left
         ·exact zk94
         refine take_ (i := 5) (N := some 17) (v := ?_) (a' := ?_) #[true, true, true, true, true, true, false, false, false, false, false] rfl rfl (take_ofW HT_.out HW_.out zk3) (fun _ _ _ h => h) (Or.inl ⟨zk16, ?_⟩) hHeld ?_ ?_; rotate_left
         ·exact zk101
         rotate_left
         ·exact zk94
         refine one_ (i := 6) (N := some 18) #[true, true, true, true, true, true, true, false, false, false, false] rfl rfl (one_of HT_.out zk3) zk40 (fun K hK => ?_); refine goes_ Try.func55 zk3 rfl #[.string ((rd_T41 l0 x8_1).f1)] zk16 rfl rfl zk5 ?_; (with_reducible refine (label_Quoted.calls k1 ((rd_T41 l0 x8_1).f1) t131 _ A6.out).mono ?_); rintro e w13 ⟨rfl, hb⟩; refine ⟨_, rfl, ?_⟩; have n0_ := mkA (Kd.R_below zk22 hb); have n1_ := mkA (blk_below (g := gb130) (o := .cells #[.string ((rd_T41 l0 x8_1).f0), .string ((rd_T41 l0 x8_1).f1)] 41 (0, 0)) zk56 hb); have n2_ := mkA (below_step zk28 hb); clear HO_3; clear BK130; clear HB; have HO_3 := n0_; have BK130 := n1_; have HB := n2_; clear n0_ n1_ n2_; (try clear hb); (try clear hb2); (try clear hk); (try clear hi); refine hK.out _ _ ⟨(blk_cell BK130.out 0).trans rfl, (blk_cell BK130.out 1).trans rfl⟩ (fun hHeld => ?_); clear hK K; refine norm_ (a' := ?_) ?_ ?_; rotate_left
         ·show Act.put _ (some 18) _ = _; simp only [Act.put, List.setIfInBounds_toArray, List.set_cons_zero, List.set_cons_succ, i64_w, i32_w]; rfl
         refine pure_ (i := 7) (N := some 19) (v := ?_) (a' := ?_) #[true, true, true, true, true, true, true, true, false, false, false] rfl rfl (any_of HT_.out zk3) (fun _ _ _ h => h) (Or.inl ⟨zk16, ?_⟩) ?_ ?_; rotate_left
         ·exact zk95
         rotate_left
         ·exact zk94
         refine one_ (i := 8) (N := some 20) #[true, true, true, true, true, true, true, true, true, false, false] rfl rfl (one_of HT_.out zk3) zk40 (fun K hK => ?_); refine value_ (w1 := ?_) (v := ?_) zk16 rfl ?_ ?_; rotate_left 2
         ·go_simp
          constructor
          ·rfl
          ·rfl
         refine hK.out _ _ ⟨(blk_cell (blk_alloc BK130.out _) 0).trans rfl, (blk_cell (blk_alloc BK130.out _) 1).trans rfl⟩ (fun hHeld => ?_); clear hK K; refine norm_ (a' := ?_) ?_ ?_; rotate_left
         ·exact zk103
         refine one_ (i := 9) (N := some 21) #[true, true, true, true, true, true, true, true, true, true, false] rfl rfl (one_of HT_.out zk3) zk40 (fun K hK => ?_); refine Kd.R_append_step Kd.string (w0 := w) w.heap.size zk16 (.tmp 12) (.tmp 20) 51 9 (.string ⟨#[]⟩) 16 rfl Try.underlying51 info9 rfl zk40 zk12 u3 x3_1 ((((rd_T41 l0 x8_1).f0) ++ (⟨#[61]⟩ : ByteArray)) ++ t131) [.string ((((rd_T41 l0 x8_1).f0) ++ (⟨#[61]⟩ : ByteArray)) ++ t131)] (fun _ => True) (fun _ => False) rfl rfl ?aP (fun _ hk => hk.elim) ?aF ?aO ?aB ?aS ?aL ?_; (case aP => exact rfl); (case aB => exact zk28); (case aF => exact zk79); (case aO => exact zk49); (case aS => exact (below_size zk28)); (case aL => have := LMc8.out; omega); intro v133 w14 ho hb hg hat; rw [← Ny132.out] at ho; have n0_ := mkA (blk_grown (g := gb130) (o := .cells #[.string ((rd_T41 l0 x8_1).f0), .string ((rd_T41 l0 x8_1).f1)] 41 (0, 0)) zk56 hg (Kd.R_ne HO_3.out BK130.out zk40)); have n1_ := mkA (hb); have n2_ := mkA (ho); clear BK130; clear HB; clear HO_3; have BK130 := n0_; have HB := n1_; have HO134 := n2_; clear n0_ n1_ n2_; clear ho hb hg hat; refine hK.out _ _ ⟨(blk_cell BK130.out 0).trans rfl, (blk_cell BK130.out 1).trans rfl⟩ (fun hHeld => ?_); clear hK K; refine norm_ (a' := ?_) ?_ ?_; rotate_left
         ·exact zk111
         refine pure_ (i := 10) (N := some 3) (v := ?_) (a' := ?_) #[true, true, true, true, true, true, true, true, true, true, true] rfl rfl (any_of HT_.out zk3) (fun _ _ _ h => h) (Or.inl ⟨zk16, ?_⟩) ?_ ?_; rotate_left
         ·exact zk95
         rotate_left
         ·exact zk94
         refine done_ (done_of HT_.out zk3) ?_; (try go_wp2); go_roundg k1
         case measure => have := HK1.out; omega
         case rel => exact ⟨(y132), (wrap64 (x8_1 + 1)), zk6, H', ⟨zk42⟩, ⟨by (with_reducible repeat (first | apply Kd.R_alloc | apply Kd.R_drewN | apply Kd.R_drew)); exact HO134.out⟩, ⟨zk28⟩⟩
        ·rw [if_neg c8] at H; exact absurd H zk30
       ·exact zk125
      ·exact zk107
     ·exact zk126
    ·exact zk127
   ·rw [if_neg c2] at H
    have c2b0 : decide (x8_1 < (l0.length : Int)) = false := decide_eq_false c2; clear c2; replace H := Option.bind_eq_some_iff.mp H; obtain ⟨t135, A150, H⟩ := H; replace H : (some t135) = some r := H; have A15 := mkA A150; clear A150; obtain rfl := Option.some.inj H; obtain ⟨Ao16, co16, eo16⟩ := Kd.R_slice HO_3.out; subst eo16; (go_wp2_with (first | ((with_reducible refine gate_callee (f := 56) rfl ?_); refine goesL_ (some 24) rfl rfl Try.func56 zk3 rfl #[.slice Ao16 x3_1.length co16, .string (⟨#[44]⟩ : ByteArray)] rfl zk5 ?_; (with_reducible refine (strings_Join.calls (b_ := ?bb_) (ok_ := ?okk_) _ _ x3_1 (⟨#[44]⟩ : ByteArray) t135 _ ?side1 ?side2 A15.out).mono ?_); (case side1 => exact zk22); (case side2 => exact (Kd.R_reads' HO_3.out).2.1); rintro e w17 ⟨rfl, hb⟩; refine ⟨_, rfl, ?_⟩; have n0_ := mkA (Kd.R_below zk22 hb); have n1_ := mkA (below_step zk1 hb); clear HO_3; clear HB; have HO_3 := n0_; have HB := n1_; clear n0_ n1_; (try clear hb); (try clear hb2); (try clear hk); (try clear hi)))); go_ret
    exact ⟨zk4, zk1⟩
end Go.Proofs.Ytlkhdbfhnpbbhaa.Tx
namespace Go.Proofs.Ytlkhdbfhnpbbhaa.Pure
open Go.RowKit Go.Proofs.YtlkhdbfhnpbbhaaW.PrintWords Go.Proofs.YtlkhdbfhnpbbhaaW.PrintLast Go.Proofs.YtlkhdbfhnpbbhaaW.PrintMore Go.Proofs.Ytlkhdbfhnpbbhaa.Ix Go.Proofs.Ytlkhdbfhnpbbhaa.Tx
theorem less_irr : ∀ x : List UInt8, Op.bytesLess x x = false
 | [] => rfl
 | a :: x => by simp only [Op.bytesLess, less_irr x, Bool.and_false, Bool.or_false, decide_eq_false_iff_not]; exact UInt8.lt_irrefl a
theorem texts_eq (a b : ByteArray) : ∃ r, varveref11_texts.f a b = some r ∧ (r = 0 ↔ a = b) := by
 unfold varveref11_texts.f; by_cases h1 : Op.bytesLess a.toList b.toList = true
 ·rw [if_pos h1]; exact ⟨-1, rfl, by simp; rintro rfl; rw [less_irr] at h1; cases h1⟩
 ·rw [if_neg h1]
  by_cases h2 : Op.bytesLess b.toList a.toList = true
  ·rw [if_pos h2]; exact ⟨1, rfl, by simp; rintro rfl; rw [less_irr] at h2; cases h2⟩
  ·rw [if_neg h2]; refine ⟨0, rfl, ?_⟩; simp only [true_iff]; have h := less_swap a.toList b.toList; rw [eq_false_of_ne_true h1, eq_false_of_ne_true h2] at h; simp at h; exact bytes_ext h
theorem cmp_l0 (l m : List LB) (hl : l.length ≤ 140737488351232) (hm : m.length ≤ 140737488351232) : ∀ (d i k : Nat), i + d = l.length → i ≤ m.length → 2 * d + 1 < k → ∃ r, varveref11_Cmp.l0 k l m (i : Int) = some r ∧ (r = 0 ↔ l.drop i = m.drop i)
 | 0, i, k, h, hi, hk => by
  obtain ⟨k, rfl⟩ : ∃ n, k = n + 2 := ⟨k - 2, zk12⟩
  rw [varveref11_Cmp.l0, if_neg zk12, varveref11_Cmp.j1, if_neg zk30, List.drop_eq_nil_of_le (show l.length ≤ i by omega)]; by_cases h1 : (l.length : Int) < (m.length : Int)
  ·rw [if_pos h1]; refine ⟨-1, rfl, zk51⟩
  ·rw [if_neg h1, if_neg zk12, List.drop_eq_nil_of_le zk12]; exact ⟨0, rfl, zk30⟩
 | d + 1, i, k, h, hi, hk => by
  obtain ⟨k, rfl⟩ : ∃ n, k = n + 2 := ⟨k - 2, zk12⟩
  rw [varveref11_Cmp.l0, if_pos zk12, varveref11_Cmp.j1]; by_cases h1 : i < m.length
  ·obtain ⟨r, e, hr⟩ := cmp_l0 l m hl hm d (i + 1) k zk12 zk12 zk12
   rw [Int.natCast_add, Int.natCast_one] at e; obtain ⟨r0, e0, hr0⟩ := texts_eq (rd_T41 l (i : Int)).f0 (rd_T41 m (i : Int)).f0; obtain ⟨r1, e1, hr1⟩ := texts_eq (rd_T41 l (i : Int)).f1 (rd_T41 m (i : Int)).f1; rw [if_pos zk51, if_pos zk12, if_pos zk12, if_pos zk12, e0, Option.bind_some, w64 zk12 zk12, e, drop_rd l i zk12, drop_rd m i zk12]; by_cases c0 : r0 = 0
   ·rw [if_pos c0, e1, Option.bind_some]
    by_cases c1 : r1 = 0
    ·rw [if_pos c1]; have : rd_T41 l (i : Int) = rd_T41 m (i : Int) := lb_ext (by rw [hr0.1 c0]) (by rw [hr1.1 c1]); exact ⟨r, rfl, by rw [this]; simp [hr]⟩
    ·rw [if_neg c1]; exact ⟨r1, rfl, by simp [c1]; intro c; exact absurd (hr1.2 (by rw [c])) c1⟩
   ·rw [if_neg c0]; exact ⟨r0, rfl, by simp [c0]; intro c; exact absurd (hr0.2 (by rw [c])) c0⟩
  ·rw [if_neg zk51, if_neg zk12, if_pos zk12, drop_rd l i zk12, List.drop_eq_nil_of_le (show m.length ≤ i by omega)]; exact ⟨1, rfl, zk30⟩
theorem cmp_eq (l m : List LB) (hl : l.length ≤ 140737488351232) (hm : m.length ≤ 140737488351232) (k : Nat) (hk : 2 * l.length + 1 < k) : ∃ r, varveref11_Cmp.f k l m = some r ∧ (r = 0 ↔ l = m) := by
 obtain ⟨r, e, h⟩ := cmp_l0 l m hl hm l.length 0 k zk12 zk12 hk; exact ⟨r, e, by simpa using h⟩
theorem and15 : ∀ n : Fin 256, Go.bits .and .u8 ((n.val : Nat) : Int) 15 = ((n.val % 16 : Nat) : Int) := by decide +kernel
theorem hex_at : ∀ n : Fin 16, bt (⟨#[48, 49, 50, 51, 52, 53, 54, 55, 56, 57, 97, 98, 99, 100, 101, 102]⟩ : ByteArray) ((n.val : Nat) : Int) = hexd ((n.val : Nat) : Int) := by decide +kernel
theorem bytes_drop (s : ByteArray) (i : Nat) (h : i < s.size) : (bytesOf s).drop i = bt s (i : Int) :: (bytesOf s).drop (i + 1) := by
 have hl := bytesOf_length s; rw [List.drop_eq_getElem_cons zk12, ← rd_bytesOf]; congr 1; simp [rd, show i < (bytesOf s).length by omega]
theorem quoted_l0 (s : ByteArray) (hs : s.size ≤ 1000000) : ∀ (d i k : Nat) (acc : List Int), i + d = s.size → 2 * d < k → acc.length + 4 * d ≤ 10000000 →
  label_Quoted.l0 k s acc (s.size : Int) (i : Int) = some (strOfNums (acc ++ ((bytesOf s).drop i).flatMap esc ++ [34]))
 | 0, i, k, acc, h, hk, ha => by
  obtain ⟨k, rfl⟩ : ∃ n, k = n + 1 := ⟨k - 1, zk12⟩
  rw [label_Quoted.l0, if_neg zk12, if_pos zk12, List.drop_eq_nil_of_le (by rw [bytesOf_length]; omega)]; simp
 | d + 1, i, k, acc, h, hk, ha => by
  obtain ⟨k, rfl⟩ : ∃ n, k = n + 2 := ⟨k - 2, zk12⟩
  have hb := bt_range s (i : Int); rw [bytes_drop s i zk12, List.flatMap_cons]; have ih := fun (x : List Int) (hx : x.length ≤ 4) => quoted_l0 s hs d (i + 1) k (acc ++ x) zk12 zk12 (by rw [List.length_append]; omega); rw [Int.natCast_add, Int.natCast_one] at ih
  have e0 : label_Quoted.l0 (k + 2) s acc (s.size : Int) (i : Int) = label_Quoted.j1 (k + 1) s acc (bt s (i : Int)) (s.size : Int) (i : Int) (decide (bt s (i : Int) = 34 ∨ bt s (i : Int) = 92)) := by
   rw [label_Quoted.l0, if_pos zk12, if_pos zk12, if_pos zk12]; by_cases c : bt s (i : Int) = 34
   ·rw [if_pos c]; simp [c]
   ·rw [if_neg c]; congr 1; rw [Bool.eq_iff_iff]; simp [c]
  rw [e0, label_Quoted.j1]; generalize hc : bt s (i : Int) = c at *; rw [w64 zk12 zk12]; by_cases h1 : c = 34 ∨ c = 92
  ·rw [if_pos (by simpa using h1), Option.bind_some, if_pos zk51, ih [92, c] zk30, esc, if_pos h1]; simp
  ·rw [if_neg (by simpa using h1)]
   have hex : ∀ (X : Option ByteArray), X = some (strOfNums (acc ++ ([92, 120, hexd (c / 16), hexd (c % 16)] ++ ((bytesOf s).drop (i + 1)).flatMap esc) ++ [34])) ∨ True := fun _ => .inr trivial; obtain ⟨n, rfl⟩ := Int.eq_ofNat_of_zero_le hb.1; have hn : n < 256 := zk12
   have b1 : Go.bits .and .u8 (n : Int) 15 = ((n % 16 : Nat) : Int) := and15 ⟨n, hn⟩; have b2 := hex_at ⟨n % 16, zk12⟩; have b3 := hex_at ⟨n / 16, zk12⟩; simp only at b2 b3; have b4 : (n : Int) / 16 = ((n / 16 : Nat) : Int) := zk12
   have b5 : (n : Int) % 16 = ((n % 16 : Nat) : Int) := zk12
   rw [b1, b4, b2, b3]; rw [show esc (n : Int) = if (n : Int) < 32 ∨ 127 ≤ (n : Int) then [92, 120, hexd ((n / 16 : Nat) : Int), hexd ((n % 16 : Nat) : Int)] else [(n : Int)] by rw [esc, if_neg h1, b4, b5]]
   have key : (if acc.length + ([92, 120, hexd ((n / 16 : Nat) : Int), hexd ((n % 16 : Nat) : Int)] : List Int).length < 140737488355328 then label_Quoted.l0 k s (acc ++ [92, 120, hexd ((n / 16 : Nat) : Int), hexd ((n % 16 : Nat) : Int)]) (s.size : Int) ((i : Int) + 1) else none) =
     some (strOfNums (acc ++ ([92, 120, hexd ((n / 16 : Nat) : Int), hexd ((n % 16 : Nat) : Int)] ++ List.flatMap esc (List.drop (i + 1) (bytesOf s))) ++ [34])) := by
    rw [if_pos zk51, ih _ zk30]; simp
   by_cases h2 : (n : Int) < 32
   ·rw [if_pos h2, if_pos zk12, if_pos zk12, if_pos zk12, if_pos zk12, Option.bind_some, key, if_pos (.inl h2)]
   ·rw [if_neg h2]
    by_cases h3 : (n : Int) ≥ 127
    ·rw [if_pos h3, if_pos zk12, if_pos zk12, if_pos zk12, if_pos zk12, Option.bind_some, key, if_pos (.inr h3)]
    ·rw [if_neg h3, if_pos zk12, ih [(n : Int)] zk30, if_neg zk12]; simp
theorem quoted_eq (s : ByteArray) (hs : s.size ≤ 1000000) (k : Nat) (hk : 2 * s.size < k) : label_Quoted.f k s = some (strOfNums (quo (bytesOf s))) := by
 unfold label_Quoted.f; exact (quoted_l0 s hs s.size 0 k [34] zk12 hk zk51).trans (by simp [quo])
end Go.Proofs.Ytlkhdbfhnpbbhaa.Pure
namespace Go.Proofs.Ytlkhdbfhnpbbhaa.Pure
open Go.RowKit Go.Proofs.YtlkhdbfhnpbbhaaW.PrintWords Go.Proofs.YtlkhdbfhnpbbhaaW.PrintLast Go.Proofs.YtlkhdbfhnpbbhaaW.PrintMore Go.Proofs.Ytlkhdbfhnpbbhaa.Ix Go.Proofs.Ytlkhdbfhnpbbhaa.Tx
def itmB (x : LB) : ByteArray := (x.f0 ++ (⟨#[61]⟩ : ByteArray)) ++ strOfNums (quo (bytesOf x.f1))
def textB (l : List LB) : ByteArray := ⟨(Lib.join ((l.map itmB).map (·.data.toList)) ((⟨#[44]⟩ : ByteArray)).data.toList).toArray⟩
def pr (x : LB) : List Int × List Int := (bytesOf x.f0, bytesOf x.f1)
structure LbFine (x : LB) : Prop where
 name : nm x.f0 = true
 size : x.f1.size ≤ 64
theorem nmFrom_at (s : ByteArray) : ∀ (d i : Nat), nmFrom s d i = true → ∀ j, i ≤ j → j < i + d → nb (bt s (j : Int)) = true
 | 0, i, _, j, h1, h2 => zk12
 | d + 1, i, h, j, h1, h2 => by
  rw [nmFrom, Bool.and_eq_true] at h; by_cases e : j = i
  ·rw [e]; exact h.1
  ·exact nmFrom_at s d (i + 1) h.2 j zk12 zk12
theorem fine_okL {x : LB} (h : LbFine x) : OkL (pr x) := by
 have hn := h.name; unfold nm at hn; simp only [Bool.and_eq_true, decide_eq_true_eq] at hn; refine ⟨?_, ?_⟩
 ·intro hm
  obtain ⟨j, hj, e⟩ := List.getElem_of_mem hm; simp only [pr] at hj e; have hl := bytesOf_length x.f0; have h1 := nmFrom_at x.f0 x.f0.size 0 hn.2 j zk12 zk12; rw [← rd_bytesOf] at h1; have h2 : rd (bytesOf x.f0) (j : Int) = 61 := by simp [rd, hj, e]
  rw [h2] at h1; simp [nb] at h1
 ·intro c hc; simp only [pr, bytesOf, List.mem_map] at hc; obtain ⟨b, -, rfl⟩ := hc; have := b.toNat_lt; omega
theorem fine_nsize {x : LB} (h : LbFine x) : x.f0.size ≤ 32 := by
 have hn := h.name; unfold nm at hn; simp only [Bool.and_eq_true, decide_eq_true_eq] at hn; exact hn.1.1.2
theorem chkFrom_at (l : List LB) : ∀ (d i : Nat), chkFrom l d i = true → ∀ j, i ≤ j → j < i + d → lbOk l j = true
 | 0, i, _, j, h1, h2 => zk12
 | d + 1, i, h, j, h1, h2 => by
  rw [chkFrom, Bool.and_eq_true] at h; by_cases e : j = i
  ·rw [e]; exact h.1
  ·exact chkFrom_at l d (i + 1) h.2 j zk12 zk12
theorem chk_fine {l : List LB} (h : chk l = true) : (∀ x ∈ l, LbFine x) ∧ l.length ≤ 8 ∧ 1 ≤ l.length := by
 unfold chk at h; simp only [Bool.and_eq_true, decide_eq_true_eq] at h; refine ⟨fun x hx => ?_, h.1.2, h.1.1⟩; obtain ⟨j, hj, e⟩ := List.getElem_of_mem hx; have h1 := chkFrom_at l l.length 0 h.2 j zk12 zk12; have h2 : rd_T41 l (j : Int) = x := by simp [rd_T41, hj, e]
 unfold lbOk at h1; simp only [Bool.and_eq_true, decide_eq_true_eq] at h1; rw [h2] at h1; exact ⟨h1.1.1.1, h1.1.2⟩
def nums8 (l : List UInt8) : List Int := l.map fun b => (b.toNat : Int)
theorem nums8_str (xs : List Int) (h : ∀ c ∈ xs, 0 ≤ c ∧ c < 256) : nums8 (strOfNums xs).data.toList = xs := by
 rw [strOfNums_data, nums8, List.map_map]
 conv => rhs; rw [← List.map_id xs]
 refine List.map_congr_left fun c hc => ?_; obtain ⟨n, rfl⟩ := Int.eq_ofNat_of_zero_le (h c hc).1; have := (h n hc).2; simp [UInt8.toNat_ofNat']; omega
theorem hexd_byte {k : Int} (h : 0 ≤ k ∧ k < 16) : 0 ≤ hexd k ∧ hexd k < 256 := by unfold hexd; split <;> omega
theorem quo_bytes {v : List Int} (h : IsB v) : IsB (quo v) := by
 intro c hc; simp only [quo, List.mem_cons, List.mem_append, List.mem_flatMap, List.mem_nil_iff, or_false, List.mem_singleton] at hc
 rcases hc with rfl | ⟨x, hx, hc⟩ | rfl
 ·omega
 ·have hb := h x hx
  unfold esc at hc; split at hc
  ·simp at hc; rcases hc with rfl | rfl <;> omega
  ·split at hc
   ·have a1 := hexd_byte (k := x / 16) zk12
    have a2 := hexd_byte (k := x % 16) zk12; simp at hc
    rcases hc with rfl | rfl | rfl | rfl <;> omega
   ·simp at hc; omega
 ·omega
theorem itm_nums {x : LB} (h : LbFine x) : nums8 (itmB x).data.toList = itm (pr x) := by
 have hq : IsB (bytesOf x.f1) := (fine_okL h).2; unfold itmB itm; rw [ByteArray.data_append, ByteArray.data_append, Array.toList_append, Array.toList_append, nums8, List.map_append, List.map_append]; have h1 : List.map (fun b : UInt8 => (b.toNat : Int)) (strOfNums (quo (bytesOf x.f1))).data.toList = quo (bytesOf x.f1) := nums8_str _ (quo_bytes hq); rw [h1]; simp [pr, bytesOf]
theorem join_nums : ∀ l : List LB, (∀ x ∈ l, LbFine x) → nums8 (Lib.join ((l.map itmB).map (·.data.toList)) ((⟨#[44]⟩ : ByteArray)).data.toList) = txt (l.map pr)
 | [], _ => rfl
 | [x], h => by
  have := itm_nums (h x List.mem_cons_self); simp only [List.map_cons, List.map_nil, txt]; rw [← this]; simp [Lib.join, List.intercalate, List.intersperse]
 | x :: y :: t, h => by
  have h1 := itm_nums (h x List.mem_cons_self); have ih := join_nums (y :: t) (fun z hz => h z (List.mem_cons_of_mem _ hz))
  have e : Lib.join (((x :: y :: t).map itmB).map (·.data.toList)) ((⟨#[44]⟩ : ByteArray)).data.toList = (itmB x).data.toList ++ 44 :: Lib.join (((y :: t).map itmB).map (·.data.toList)) ((⟨#[44]⟩ : ByteArray)).data.toList := by
   simp [Lib.join, List.intercalate, List.intersperse]
  rw [e, nums8, List.map_append, List.map_cons]; show nums8 _ ++ _ :: nums8 _ = _; rw [h1, ih]; rfl
theorem text_nums {l : List LB} (h : ∀ x ∈ l, LbFine x) : bytesOf (textB l) = txt (l.map pr) := by
 have := join_nums l h; unfold bytesOf textB; simpa [nums8] using this
theorem map_inj {α β : Type} {f : α → β} (hf : ∀ x y, f x = f y → x = y) : ∀ {a b : List α}, a.map f = b.map f → a = b
 | [], [], _ => rfl
 | [], _ :: _, h => by simp at h
 | _ :: _, [], h => by simp at h
 | x :: a, y :: b, h => by
  simp only [List.map_cons, List.cons.injEq] at h; rw [hf _ _ h.1, map_inj hf h.2]
theorem bytesOf_inj {a b : ByteArray} (h : bytesOf a = bytesOf b) : a = b := by
 refine bytes_ext ?_; rw [Lib.toList_data, Lib.toList_data]; unfold bytesOf at h; exact map_inj (fun x y e => UInt8.toNat_inj.1 (Int.ofNat.inj e)) h
theorem pr_inj {x y : LB} (h : pr x = pr y) : x = y := by
 have h0 := bytesOf_inj (congrArg Prod.fst h); have h1 := bytesOf_inj (congrArg Prod.snd h); exact lb_ext (by rw [h0]) (by rw [h1])
theorem textB_inj {l m : List LB} (hl : chk l = true) (hm : chk m = true) (h : textB l = textB m) : l = m := by
 have h1 := text_nums (chk_fine hl).1; have h2 := text_nums (chk_fine hm).1; rw [h, h2] at h1
 have e := txt_inj (m.map pr) (l.map pr) (by intro x hx; obtain ⟨y, hy, rfl⟩ := List.mem_map.1 hx; exact fine_okL ((chk_fine hm).1 y hy))
  (by intro x hx; obtain ⟨y, hy, rfl⟩ := List.mem_map.1 hx; exact fine_okL ((chk_fine hl).1 y hy)) h1
 exact map_inj (fun x y e => pr_inj e) e.symm
theorem itm_size {x : LB} (h : LbFine x) : (itmB x).size ≤ 400 := by
 have h1 := fine_nsize h; have h2 := h.size
 have hf : ∀ v : List Int, (v.flatMap esc).length ≤ 4 * v.length := by
  intro v
  induction v with
  | nil => simp
  | cons c v ih =>
   have : (esc c).length ≤ 4 := by
    unfold esc; split
    ·simp
    ·split <;> simp
   rw [List.flatMap_cons, List.length_append, List.length_cons]; omega
 have h3 := hf (bytesOf x.f1); rw [bytesOf_length] at h3; unfold itmB; rw [ByteArray.size_append, ByteArray.size_append, strOfNums_size, quo, List.length_cons, List.length_append]; have : (⟨#[61]⟩ : ByteArray).size = 1 := rfl; simp only [List.length_cons, List.length_nil]; omega
theorem join_size : ∀ l : List LB, (∀ x ∈ l, LbFine x) → (Lib.join ((l.map itmB).map (·.data.toList)) ((⟨#[44]⟩ : ByteArray)).data.toList).length ≤ 401 * l.length
 | [], _ => by simp [Lib.join, List.intercalate]
 | [x], h => by
  have := itm_size (h x List.mem_cons_self); rw [← data_length] at this; simp [Lib.join, List.intercalate, List.intersperse] at this ⊢; omega
 | x :: y :: t, h => by
  have h1 := itm_size (h x List.mem_cons_self); rw [← data_length] at h1; have ih := join_size (y :: t) (fun z hz => h z (List.mem_cons_of_mem _ hz))
  have e : Lib.join (((x :: y :: t).map itmB).map (·.data.toList)) ((⟨#[44]⟩ : ByteArray)).data.toList = (itmB x).data.toList ++ 44 :: Lib.join (((y :: t).map itmB).map (·.data.toList)) ((⟨#[44]⟩ : ByteArray)).data.toList := by
   simp [Lib.join, List.intercalate, List.intersperse]
  rw [e, List.length_append, List.length_cons]; simp only [List.length_cons] at ih ⊢; omega
theorem text_l0 (l : List LB) (hf : ∀ x ∈ l, LbFine x) (hl : l.length ≤ 8) : ∀ (d i k : Nat) (acc : List ByteArray), i + d = l.length → d + 140 < k → acc.length = i →
  label_Text.l0 k acc l (l.length : Int) (i : Int) = strings_Join.f (acc ++ (l.drop i).map itmB) (⟨#[44]⟩ : ByteArray)
 | 0, i, k, acc, h, hk, ha => by
  obtain ⟨k, rfl⟩ : ∃ n, k = n + 1 := ⟨k - 1, zk12⟩
  rw [label_Text.l0, if_neg zk12, List.drop_eq_nil_of_le zk12]; simp
 | d + 1, i, k, acc, h, hk, ha => by
  obtain ⟨k, rfl⟩ : ∃ n, k = n + 1 := ⟨k - 1, zk12⟩
  have hm : rd_T41 l (i : Int) ∈ l := by
   unfold rd_T41; rw [Int.toNat_natCast, List.getD_eq_getElem?_getD, List.getElem?_eq_getElem zk12]; exact List.getElem_mem _
  have hx := hf _ hm; have ih := fun (x : ByteArray) => text_l0 l hf hl d (i + 1) k (acc ++ [x]) zk12 zk12 (by simp [ha]); rw [Int.natCast_add, Int.natCast_one] at ih; have s0 := fine_nsize hx; have s1 := itm_size hx; unfold itmB at s1; rw [ByteArray.size_append] at s1
  rw [label_Text.l0, if_pos zk12, if_pos zk12, if_pos zk12, if_pos zk12, quoted_eq _ (by have := hx.size; omega) k (by have := hx.size; omega), Option.bind_some, if_pos zk12, if_pos zk12,
   w64 zk12 zk12, ih, drop_rd l i zk12, List.map_cons]
  simp [itmB]
theorem text_eq {l : List LB} (h : chk l = true) (k : Nat) (hk : 160 ≤ k) : label_Text.f k l = some (textB l) := by
 obtain ⟨hf, hl, h1⟩ := chk_fine h; unfold label_Text.f; refine (text_l0 l hf hl l.length 0 k [] zk12 zk12 rfl).trans ?_; have hs := join_size l hf; unfold strings_Join.f; rw [List.nil_append, List.drop_zero, if_pos ⟨zk12, by rw [List.length_map]; omega⟩]; rfl
end Go.Proofs.Ytlkhdbfhnpbbhaa.Pure
namespace Go.Proofs.Ytlkhdbfhnpbbhaa
open Go Go.RowKit
variable {F : Fence} {n : Nat} {P : Program}
def AbD {β : Type} (D : Nat) (J : β → World → Prop) : Prop :=
 ∀ s A B row, J s A → A.grownBy B row → (∀ r, row = some r → r = D) → J s B
def AbO {β : Type} (m D : Nat) (J : β → World → Prop) : Prop :=
 ∀ s A B row, J s A → A.grownBy B row → (∀ r, row = some r → r = m ∨ r = m + 1 ∨ r = D) → J s B
def Tells {α : Type} (F : Fence) (n : Nat) (P : Program) (gf : Nat) (lb : Array Value) (encs : α → Array Value) (Kp : World → World → Prop) (xs : List α) (w : World) : Prop :=
 ∀ (l : Nat) (J : List α → World → Prop) (W : World), Below w.heap.size w W → W.heap.size = w.heap.size + 2 → AbD (w.heap.size + 2) J →
  (∀ pre x W1, J pre W1 → pre.length < xs.length → w.heap.size + 2 < W1.heap.size → YieldAt F (n - 1) P l (encs x) W1 fun e W' => e = .returned (.bool true) ∧ J (pre ++ [x]) W' ∧ Kp W1 W') →
  J [] W → CallsIn F n P gf (#[.func (.yield l) #[] #[]] ++ lb) W fun e W' => (∃ v, e = .returned v) ∧ J xs W'
def endPost {α : Type} (m : Nat) (Kp : World → World → Prop) (I : List α → World → Prop) (xs : List α) (W : World) : Exit → Act → World → Prop
 | .normal, _, W' => KeepsFrom m W W' ∧ Kp W W' ∧ I xs W'
 | _, _, _ => False
theorem range_tells {α : Type} {g : Operand} {ps : Array Tmp} {assign body : Code} {Q : Exit → Act → World → Prop} {a : Act} {w : World}
  (hro : F.round = none) (h1 : 1 ≤ n) {gf : Nat} {lb : Array Value} (hg : a.eval g = .func (.func gf) #[] lb) (hFg : F.fn gf) (eg : ∀ args w, (callFunc gf args).run P w = .ok (.enter gf args) w)
  {encs : α → Array Value} {Kp : World → World → Prop} {xs : List α} (hseq : Tells F (n - 1) P gf lb encs Kp xs w)
  (hKt : ∀ {A B C : World}, Kp A B → Kp B C → Kp A C) (hKb : ∀ (W : World) (o o' : Obj), W.heap[w.heap.size + 1]? = some o → Kp W (W.putObj (w.heap.size + 1) o'))
  (hps : ∀ x, (encs x).size = ps.size) (I : List α → World → Prop) (hI : AbO w.heap.size (w.heap.size + 2) I) (h0 : I [] w) (a₁ : α → Act)
  (hassign : ∀ (l : Nat) (x : α) (W : World) (K : Act → World → Prop), K (a₁ x) W →
   assign.wpIn (F.inRound l) (n - 1 - 1) P (Exit.then K (fun _ _ _ => False)) { tmps := (ps.zip (encs x)).foldl (fun t (p, v) => t.setIfInBounds p v) a.tmps, defers := [] } W)
  (hbody : ∀ (l : Nat) (pre : List α) (x : α) (W : World), I pre W → pre.length < xs.length → w.heap.size + 2 < W.heap.size →
   body.wpIn (F.inRound l) (n - 1 - 1) P (endPost w.heap.size Kp I (pre ++ [x]) W) (a₁ x) W)
  (hdone : ∀ W : World, I xs W → W.heap[w.heap.size]? = some (.deferred (some [])) → Q .normal { a with defers := { target := .collected w.heap.size, args := #[] } :: a.defers } W) :
  (Code.rangeFunc g ps assign body).wpIn F n P Q a w := by
 refine wpIn_rangeFunc fun fn hfn => ?_; rw [hro]; obtain ⟨rec, hrec⟩ : ∃ rec : LoopState → Loop, rec = fun st => { state := st, pending := none, fn, tmps := a.tmps, params := ps, assign, body, defers := w.heap.size } := ⟨_, rfl⟩
 obtain ⟨W1, hW1⟩ : ∃ W1, (w.alloc (.deferred (some []))).alloc (.loop (rec .ready)) = W1 := ⟨_, rfl⟩
 have hz : W1.heap.size = w.heap.size + 2 := by rw [← hW1]; simp
 have hL : W1.heap[w.heap.size + 1]? = some (.loop (rec .ready)) := by
  have := World.alloc_heap_new (w.alloc (.deferred (some []))) (.loop (rec .ready)); rw [World.size_alloc, hW1] at this; exact this
 have hD : W1.heap[w.heap.size]? = some (.deferred (some [])) := by
  rw [← hW1]; exact (Below.heap_alloc _ _ _ zk30).trans (World.alloc_heap_new w _)
 have hB : Below w.heap.size w W1 := by rw [← hW1]; exact ((Below.refl _ w).alloc (Nat.le_refl _) _).alloc zk30 _
 have hI1 : I [] W1 := by
  rw [← hW1]; exact hI _ _ _ none (hI _ _ _ none h0 (World.grownBy_alloc w _ none) (fun r e => by cases e)) (World.grownBy_alloc _ _ none) (fun r e => by cases e)
 refine ⟨w.heap.size + 1, [{ target := .collected w.heap.size, args := #[] }], W1, { target := .fn (.func gf) lb, args := #[.func (.yield (w.heap.size + 1)) #[] #[]] }, W1, gf,
  #[.func (.yield (w.heap.size + 1)) #[] #[]] ++ lb, W1, ?_, ?_, ?_, ?_, fun _ => h1, ?_⟩
 ·rw [← hW1, hrec]; exact run_enterLoop_outer _ _ _ _ _
 ·simp only [resolve, hg]; simp [go_sem]
 ·intro f' hf'; simp [Target.leads] at hf'; subst hf'; exact hFg
 ·simp [invoke, go_sem, eg]
 ·refine (hseq (w.heap.size + 1) (fun pre W => I pre W ∧ W.heap[w.heap.size + 1]? = some (.loop (rec .ready)) ∧ W.heap[w.heap.size]? = some (.deferred (some []))) W1 hB hz ?_ ?_ ⟨hI1, hL, hD⟩).mono ?_
  ·rintro s A B row ⟨hi, hl, hd⟩ hgr hr; have lt1 := (Array.getElem?_eq_some_iff.1 hl).1; have lt0 := (Array.getElem?_eq_some_iff.1 hd).1; exact ⟨hI _ _ _ _ hi hgr (fun r e => .inr (.inr (hr r e))), (hgr.block _ lt1 (fun e => by have := hr _ e.symm; omega)).trans hl, (hgr.block _ lt0 (fun e => by have := hr _ e.symm; omega)).trans hd⟩
  ·rintro pre x W ⟨hi, hl, hd⟩ hlen hlt2
   have lt1 := (Array.getElem?_eq_some_iff.1 hl).1; have hy := run_yield (P := P) (args := encs x) hl (by rw [hrec]; exact hps x); rw [hrec] at hy; refine ⟨fn, _, assign, body, hy, roundIn_of_wpIn hfn (hassign _ x W _ ?_)⟩; refine ⟨_, run_beginRound hl (by rw [hrec]), ?_⟩; have hl2 : (W.putObj (w.heap.size + 1) (.loop { rec .ready with state := .busy })).heap[w.heap.size + 1]? = some (.loop { rec .ready with state := .busy }) := World.putObj_heap_same lt1; have hd2 : (W.putObj (w.heap.size + 1) (.loop { rec .ready with state := .busy })).heap[w.heap.size]? = some (.deferred (some [])) := (World.putObj_heap_other zk12).trans hd; have hi2 : I pre (W.putObj (w.heap.size + 1) (.loop { rec .ready with state := .busy })) := hI _ _ _ _ hi (grownBy_putObj' W _ _) (fun r e => by cases e; exact .inr (.inl rfl)); refine wpIn_mono (hbody _ pre x _ hi2 hlen (by rw [World.putObj_size]; exact hlt2)) ?_; rintro e a3 W3 hp
   cases e with
   | normal =>
    obtain ⟨hk3, hkp, hi3⟩ := hp; have hl3 := hk3.same _ _ zk12 hl2 rfl; have lt3 := (Array.getElem?_eq_some_iff.1 hl3).1; have hd3 := hk3.same _ _ (Nat.le_refl _) hd2 rfl; refine ⟨_, _, run_endRound none hl3, rfl, ⟨hI _ _ _ _ hi3 (grownBy_putObj' W3 _ _) (fun r e => by cases e; exact .inr (.inl rfl)), ?_, (World.putObj_heap_other zk12).trans hd3⟩, hKt (hKt (hKb _ _ _ hl) hkp) (hKb _ _ _ hl3)⟩; rw [World.putObj_heap_same lt3, hrec]; rfl
   | ret => exact hp.elim
   | exit id => exact hp.elim
   | goto t => exact hp.elim
   | panic ch => exact hp.elim
   | outgrown => exact hp.elim
  ·rintro e W2 ⟨⟨v, rfl⟩, hi, hl, hd⟩; refine ⟨none, _, by have := run_endLoop (P := P) hl (by rw [hrec]; simp); rw [hrec] at this; exact this, hdone _ (hI _ _ _ _ hi (grownBy_putObj' W2 _ _) (fun r e => by cases e; exact .inr (.inl rfl))) ((World.putObj_heap_other zk12).trans hd)⟩
theorem stepR_scope {b : Frame} {a : Act} {k : List Item} {cs : List Frame} {w : World} {c : Code} : step P (lone (b.atR a (.code (.scope c) :: k)) cs w) = .next (lone (b.atR a (.code c :: .inScope c :: k)) cs w) :=
 step_lone_go (by simp [stepG, stepG.exec, Frame.atR])
theorem stepR_inScope {b : Frame} {a : Act} {k : List Item} {cs : List Frame} {w : World} {c : Code} : step P (lone (b.atR a (.inScope c :: k)) cs w) = .next (lone (b.atR a k) cs w) :=
 step_lone_go (by simp [stepG, stepG.exec, Frame.atR])
theorem wpIn_scope {c : Code} {Q : Exit → Act → World → Prop} {a : Act} {w : World} (h : c.wpIn F n P (Exit.noGoto Q) a w) : (Code.scope c).wpIn F n P Q a w := by
 intro b k cs hro hb hr; obtain ⟨e, a₁, w₁, hq, harr⟩ := h b (.inScope c :: k) cs hro hb hr
 cases e with
 | normal => exact ⟨.normal, a₁, w₁, hq, .head (fenced_calm hb hr rfl) stepR_scope (StepsIn.trans harr (.one (fenced_calm hb hr rfl) stepR_inScope))⟩
 | exit id => exact ⟨_, a₁, w₁, hq, .of_steps (.one (fenced_calm hb hr rfl) stepR_scope) ⟨fun k' hk => harr.1 k' (by simpa [exitTo] using hk), fun hr hk => harr.2 hr (by simpa [exitTo] using hk)⟩⟩
 | goto l => exact hq.elim
 | ret => exact ⟨_, a₁, w₁, hq, .of_steps (.one (fenced_calm hb hr rfl) stepR_scope) harr⟩
 | panic ch => exact ⟨_, a₁, w₁, hq, .of_steps (.one (fenced_calm hb hr rfl) stepR_scope) harr⟩
 | outgrown => exact ⟨_, a₁, w₁, hq, .of_steps (.one (fenced_calm hb hr rfl) stepR_scope) harr⟩
end Go.Proofs.Ytlkhdbfhnpbbhaa
namespace Go.Proofs.Ytlkhdbfhnpbbhaa
open Go.RowKit Go.Shelf Go.Proofs.YtlkhdbfhnpbbhaaW.PrintWords Go.Proofs.YtlkhdbfhnpbbhaaW.PrintLast Go.Proofs.YtlkhdbfhnpbbhaaW.PrintMore
attribute [local go_sem] Oper.semAt_some
def KpD (n0 D : Nat) (W W' : World) : Prop := Below n0 W W' ∧ W'.heap[D]? = W.heap[D]?
theorem infoI : (Try.prog.info? 3).map (fun i => (i.zero, i.size, i.bytes)) = some (some (.int .i64 0), 1, 8) := by kernel_rfl
theorem make1 (W : World) : Sem.run Try.prog (Instr.makeSlice 38 (.int .i64 1) (.int .i64 1)) W = .ok (.slice (some ⟨W.heap.size, 0, none⟩) 1 1) (W.alloc (.cells #[.int .i64 0] 3)) := by
 obtain ⟨i, hi, hzz⟩ := Option.map_eq_some_iff.1 infoI; simp only [Prod.mk.injEq] at hzz; obtain ⟨hz0, hz1, hz2⟩ := hzz; have h := run_make (P := Try.prog) W 38 3 i (.int .i64 0) zk3 hi hz0 .i64 .i64 1 1 zk12 zk12 (by rw [hz2]; omega) zk12; rw [hz1, show madeCells (Value.cells (.int .i64 0)) (Int.toNat 1 * 1) = #[.int .i64 0] from by simp [madeCells, Value.cells]; exact ⟨0, rfl, rfl⟩] at h; exact h
def atOf (w : World) (D : Nat) : Nat := (intOf ((w.cell? ⟨D, 0, none⟩).getD undef)).toNat
set_option maxRecDepth 100000 in
set_option maxHeartbeats 4000000 in
theorem most1_tells (F : Fence) (n : Nat) (h48 : F.fn 89) (hro : F.round = none) (hn : 1 ≤ n) (n0 ob kb rb cr : Nat) (A : Option Addr) (c : Nat) (l : List Int) (w : World)
  (hn0 : n0 ≤ w.heap.size) (hob : ob < n0) (hkb : kb < n0) (hrb : rb < n0)
  (h1 : w.cell? ⟨ob, 0, none⟩ = some (.slice (some ⟨rb, 0, none⟩) 1 cr)) (h2 : w.cell? ⟨rb, 0, none⟩ = some (.slice A l.length c)) (h3 : w.cell? ⟨kb, 0, none⟩ = some (.int .i64 1))
  (hl : l.length * 8 ≤ 140737488351232) (hC : ∀ j, j < l.length → ∃ ad, A = some ad ∧ ad.block < n0 ∧ w.cell? (ad.add j) = some (.int .i64 (rd l j))) :
  Tells F n Try.prog 89 #[.pointer (some ⟨ob, 0, none⟩), .pointer (some ⟨kb, 0, none⟩)] (fun x : Int => #[.int .i64 x]) (KpD n0 (w.heap.size + 2)) l w := by
 intro lp J W hB hsz hJ hY h0; have b1 := (hB.mono hn0).cell (p := ⟨ob, 0, none⟩) hob |>.trans h1
 have b2 := (hB.mono hn0).cell (p := ⟨rb, 0, none⟩) hrb |>.trans h2
 have b3 := (hB.mono hn0).cell (p := ⟨kb, 0, none⟩) hkb |>.trans h3
 refine callsIn_of_wp Try.func89 rfl h48 ?_ hro; simp only [Try.ntmps89, List.size_toArray, List.length_cons, List.length_nil, Nat.reduceAdd, Nat.reduceSub, Array.replicate_succ, Array.replicate_zero, List.push_toArray, List.append_toArray, List.nil_append, List.cons_append]; have hmk := make1; have hD : (W.alloc (.cells #[.int .i64 0] 3)).heap[w.heap.size + 2]? = some (.cells #[.int .i64 ((0 : Nat) : Int)] 3 (0, 0)) := hsz ▸ World.alloc_heap_new W _; have hJ0 : J (l.take 0) (W.alloc (.cells #[.int .i64 0] 3)) := hJ _ _ _ none h0 (World.grownBy_alloc W _ none) (fun r e => by cases e); have hB0 : Below n0 W (W.alloc (.cells #[.int .i64 0] 3)) := (Below.refl n0 W).alloc zk12 _; refine wpIn_scope ?_
 gi_wp2
 refine wpIn_label ?_
 gi_wp2
 gi_loopw [5] (fun _ wr => ∃ k : Nat, k ≤ l.length ∧ J (l.take k) wr ∧ Below n0 W wr ∧ wr.heap[w.heap.size + 2]? = some (.cells #[.int .i64 (k : Int)] 3 (0, 0)))
  (fun _ wr => l.length - atOf wr (w.heap.size + 2))
 case atStart => exact ⟨0, Nat.zero_le _, hJ0, hB0, hD⟩
 case round =>
  obtain ⟨k, hk, hJk, hBk, hDk⟩ := hrel; have c1 := hBk.cell (p := ⟨ob, 0, none⟩) hob |>.trans b1
  have c2 := hBk.cell (p := ⟨rb, 0, none⟩) hrb |>.trans b2
  have c3 := hBk.cell (p := ⟨kb, 0, none⟩) hkb |>.trans b3
  have c4 : wr.cell? ⟨w.heap.size + 2, 0, none⟩ = some (.int .i64 (k : Int)) := cell_of_one hDk; have c5 : wr.frozen? ⟨w.heap.size + 2, 0, none⟩ = false := free_of_one hDk; by_cases hlt : k < l.length
  ·obtain ⟨ad, hA, hab, hca⟩ := hC k hlt
   have c6 : wr.cell? (ad.add k) = some (.int .i64 (rd l k)) := (hBk.cell (p := ad.add k) (by unfold Addr.add; split <;> exact hab)).trans (((hB.mono hn0).cell (p := ad.add k) (by unfold Addr.add; split <;> exact hab)).trans hca); subst hA; have hJ1 : J (l.take k) (wr.setCell ⟨w.heap.size + 2, 0, none⟩ (.int .i64 ((k : Int) + 1))) := hJ _ _ _ _ hJk (grownBy_setCell' wr _ _) (fun r e => by cases e; rfl); obtain ⟨fn, tmps, assign, body, hy, hR⟩ := hY (l.take k) (rd l k) _ hJ1 (by rw [List.length_take]; omega) (lt_of_block (one_setCell hDk))
   have e1 : l.take k ++ [rd l k] = l.take (k + 1) := by
    rw [List.take_add_one, List.getElem?_eq_getElem hlt]; simp [rd, hlt]
   have hB1 : Below n0 W (wr.setCell ⟨w.heap.size + 2, 0, none⟩ (.int .i64 ((k : Int) + 1))) := hBk.setCell (p := ⟨w.heap.size + 2, 0, none⟩) (show n0 ≤ w.heap.size + 2 by omega) _; have hD1 : (wr.setCell ⟨w.heap.size + 2, 0, none⟩ (.int .i64 ((k : Int) + 1))).heap[w.heap.size + 2]? = some (.cells #[.int .i64 ((k + 1 : Nat) : Int)] 3 (0, 0)) := one_setCell hDk; have HX := Lib.hid (And.intro e1 (And.intro hB1 hD1)); have HM : atOf wr (w.heap.size + 2) = k := by simp [atOf, c4, intOf]
   have HN := Lib.hid HM; clear e1 hB1 hD1 HM
   gi_wp2
   refine wpIn_loop_rounds 2 ?_; rw [roundsIn_succ]
   gi_wp2
   rw [roundsIn_succ]
   gi_wp2
   refine wpIn_loop_rounds 2 ?_; rw [roundsIn_succ]
   gi_wp2
   rw [roundsIn_succ]
   gi_wp2
   refine hR.mono ?_; rintro e W3 ⟨rfl, hJ3, hk3⟩
   gi_wp2
   obtain ⟨e1, hB1, hD1⟩ := HX.out; have hDe := hk3.2.trans hD1; go_roundw
   case rel => exact ⟨k + 1, hlt, by rw [← e1]; exact hJ3, hB1.trans hk3.1, hDe⟩
   case measure =>
    have : atOf W3 (w.heap.size + 2) = k + 1 := by simp [atOf, cell_of_one hDe, intOf]
    rw [this, HN.out]; omega
  ·obtain rfl : k = l.length := by omega
   rw [List.take_length] at hJk
   gi_wp2
   refine wpIn_loop_rounds 2 ?_; rw [roundsIn_succ]
   gi_wp2
   rw [roundsIn_succ]
   gi_wp2
   simp only [Exit.noGoto]; go_end0
   exact ⟨⟨_, rfl⟩, hJk⟩
end Go.Proofs.Ytlkhdbfhnpbbhaa
namespace Go.Proofs.Ytlkhdbfhnpbbhaa
open Go.RowKit Go.Shelf Go.Proofs.YtlkhdbfhnpbbhaaW.PrintWords Go.Proofs.YtlkhdbfhnpbbhaaW.PrintLast Go.Proofs.YtlkhdbfhnpbbhaaW.PrintMore
attribute [local go_sem] Oper.semAt_some
set_option maxRecDepth 100000 in
set_option maxHeartbeats 4000000 in
theorem postList_in (F : Fence) (n : Nat) (h37 : F.fn 58) (h48 : F.fn 89) (hro : F.round = none) (hn : 3 ≤ n) (ob kb rb cr : Nat) (A : Option Addr) (c : Nat) (l : List Int) (w : World)
  (hob : ob < w.heap.size) (hkb : kb < w.heap.size) (hrb : rb < w.heap.size)
  (h1 : w.cell? ⟨ob, 0, none⟩ = some (.slice (some ⟨rb, 0, none⟩) 1 cr)) (h2 : w.cell? ⟨rb, 0, none⟩ = some (.slice A l.length c)) (h3 : w.cell? ⟨kb, 0, none⟩ = some (.int .i64 1))
  (hl : l.length < 4096) (hC : ∀ j, j < l.length → ∃ ad, A = some ad ∧ ad.block < w.heap.size ∧ w.cell? (ad.add j) = some (.int .i64 (rd l j))) :
  CallsIn F n Try.prog 58 #[.func (.func 89) #[] #[.pointer (some ⟨ob, 0, none⟩), .pointer (some ⟨kb, 0, none⟩)], .int .i64 4096] w
   fun e w' => ∃ v, e = .returned v ∧ w'.ownsRow w.heap.size 3 1 v l.length (l.map (.int .i64)) ∧ Below w.heap.size w w' := by
 have h1n : 1 ≤ n := zk12
 refine callsIn_of_wp_marks Try.func58 rfl h37 ?_ hro; simp only [Try.ntmps58, List.size_toArray, List.length_cons, List.length_nil, Nat.reduceAdd, Nat.reduceSub, Array.replicate_succ, Array.replicate_zero, List.push_toArray, List.append_toArray, List.nil_append, List.cons_append]; have heq : ∀ (cp : Array Value) (W : World), Sem.run Try.prog (binOp .eql 93 (.func (.func 89) #[] cp) .nilFunc) W = .ok (.bool false) W := fun _ _ => rfl
 gi_wp2
 obtain ⟨w1, hw1⟩ : ∃ w1, ((w.alloc (.cells #[.int .i64 4096] 3)).alloc (.cells #[.slice none 0 0] 38)) = w1 := ⟨_, rfl⟩
 have hz : w1.heap.size = w.heap.size + 2 := by rw [← hw1]; simp
 have hbm : Boxed w1 w.heap.size 3 (.int .i64 4096) := by rw [← hw1]; exact (Boxed.new w _ _).alloc _
 have hbl : Boxed w1 (w.heap.size + 1) 38 (.slice none 0 0) := by
  rw [← hw1]; have := Boxed.new (w.alloc (.cells #[.int .i64 4096] 3)) 38 (.slice none 0 0); rw [World.size_alloc] at this; exact this
 have hB1 : Below w.heap.size w w1 := by rw [← hw1]; exact ((Below.refl _ w).alloc (Nat.le_refl _) _).alloc zk30 _
 obtain ⟨i0, hi0, hzz⟩ := Option.map_eq_some_iff.1 infoI; simp only [Prod.mk.injEq] at hzz; obtain ⟨hz0, hz1, hz2⟩ := hzz; rw [hw1]
 refine range_tells hro h1n (gf := 89) (lb := #[.pointer (some ⟨ob, 0, none⟩), .pointer (some ⟨kb, 0, none⟩)]) rfl h48 (enters_of Try.func89 zk3 rfl)
  (Kp := KpD w.heap.size (w1.heap.size + 2)) (xs := l)
  (most1_tells F (n - 1) h48 hro zk12 w.heap.size ob kb rb cr A c l w1 hB1.size hob hkb hrb ((hB1.cell (p := ⟨ob, 0, none⟩) hob).trans h1) ((hB1.cell (p := ⟨rb, 0, none⟩) hrb).trans h2) ((hB1.cell (p := ⟨kb, 0, none⟩) hkb).trans h3) zk12
   (fun j hj => by obtain ⟨ad, e, hlt, hc⟩ := hC j hj; exact ⟨ad, e, hlt, (hB1.cell (p := ad.add j) (by unfold Addr.add; split <;> exact hlt)).trans hc⟩))
  (fun h k => ⟨h.1.trans k.1, k.2.trans h.2⟩)
  (fun W o o' h => ⟨(Below.refl _ W).grown (grownBy_putObj' W _ o') (by have := (Array.getElem?_eq_some_iff.1 h).1; omega) (fun k e => by cases e; omega), World.putObj_heap_other zk12⟩)
  (fun _ => rfl)
  (fun pre W => ∃ v, Boxed W (w.heap.size + 1) 38 v ∧ W.ownsRow (w.heap.size + 5) 3 1 v pre.length (pre.map (.int .i64)) ∧ Boxed W w.heap.size 3 (.int .i64 4096) ∧ Below w.heap.size w W)
  ?hI ⟨_, hbl, World.ownsRow_nil _ _ _ _, hbm, hB1⟩
  (fun x => { tmps := #[.func (.func 89) #[] #[.pointer (some ⟨ob, 0, none⟩), .pointer (some ⟨kb, 0, none⟩)], .int .i64 4096, undef, .pointer (some ⟨w.heap.size, 0, none⟩), .slice none 0 0, .pointer (some ⟨w.heap.size + 1, 0, none⟩), .int .i64 x,
   .func (.func 89) #[] #[.pointer (some ⟨ob, 0, none⟩), .pointer (some ⟨kb, 0, none⟩)], .bool false, .bool false, .int .i64 4096, .bool false, .bool false, undef,
   .func (.func 89) #[] #[.pointer (some ⟨ob, 0, none⟩), .pointer (some ⟨kb, 0, none⟩)], .int .i64 x, undef, undef, undef, undef, undef, undef, undef, undef, undef], defers := [] }) ?assign ?body ?done
 case hI =>
  rintro pre X Y row ⟨v, hv, hr, hm, hb⟩ hg hrow; have hrow' : ∀ r, row = some r → w.heap.size + 2 ≤ r ∧ r < w.heap.size + 5 := fun r e => by have := hrow r e; omega
  refine ⟨v, hv.kept hg (fun e => by have := hrow' _ e.symm; omega), hr.kept hg ?_, hm.kept hg (fun e => by have := hrow' _ e.symm; omega), hb.grown hg hb.size (fun k e => by have := hrow' k e; omega)⟩
  rcases hr.2 with ⟨rfl, _⟩ | ⟨g, cap, cur, rfl, hgb, _⟩
  ·exact .inl rfl
  ·refine .inr fun e' => ?_; have := hrow' g (by simpa [Value.ownBlock] using e'.symm); omega
 case assign =>
  intro lp x W K hK
  gi_wp2
  exact hK
 case body =>
  rintro lp pre x W ⟨v, hv, hr, hm, hb⟩ hlen hD; have hvc := hv.cell; have hmc := hm.cell; have hv0 : Boxed (W.alloc (.cells #[.int .i64 x] 3)) (w.heap.size + 1) 38 v := hv.alloc _; have hm0 : Boxed (W.alloc (.cells #[.int .i64 x] 3)) w.heap.size 3 (.int .i64 4096) := hm.alloc _; have hne : some (w.heap.size + 1) ≠ v.ownBlock := fun e => by have := own_base hr _ e.symm; omega
  have hne2 : some w.heap.size ≠ v.ownBlock := fun e => by have := own_base hr _ e.symm; omega
  gi_wp2_with (gi_at_builtin; go_must (refine wpListIn_append_own _ rfl _ _ 38 rfl (w.heap.size + 5) 3 i0 (.int .i64 0) 1 8 Try.underlying38 hi0 hz0 hz1 hz2 rfl zk40 v pre.length (pre.map (.int .i64)) rfl (hr.alloc _) ⟨W.heap.size, 0, none⟩ 1 1 [.int .i64 x] rfl rfl (cell_one_new _ _ _) (by simp [Value.oneCell']) zk81 zk12 zk51 ?_; intro v' X1 hown' hgrow _; obtain ⟨g', cap', rfl⟩ := ownsRow_succ hown'; have hv1 := hv0.kept hgrow hne; have hm1 := hm0.kept hgrow hne2; have hc1 := hv1.cell; have hf1 := hv1.frozen; have hc2 := hm1.cell))
  simp only [endPost]
  have BW : Below w.heap.size W (X1.setCell ⟨w.heap.size + 1, 0, none⟩ (.slice (some ⟨g', 0, none⟩) (pre.length + 1) cap')) :=
   (((Below.refl _ W).alloc hb.size _).grown hgrow (by simp; have := hb.size; omega) (fun j ej => by have := own_base hr j ej; omega)).setCell (p := ⟨w.heap.size + 1, 0, none⟩) (show w.heap.size ≤ w.heap.size + 1 by omega) _
  refine ⟨?_, ⟨BW, ?_⟩, _, hv1.set _, ?_, hm1.other zk12 _, hb.trans BW⟩
  ·refine KeepsOthers.from (((KeepsOthers.alloc W _).trans (KeepsOthers.of_grownBy hgrow fun j o ej hj => ?_)).trans (KeepsOthers.setCell _ _ _)) _
   rcases (hr.alloc (.cells #[.int .i64 x] 3)).2 with ⟨rfl, _⟩ | ⟨g, cap, cur, rfl, _, hgb, _⟩
   ·simp [Value.ownBlock] at ej
   ·obtain rfl : g = j := by simpa [Value.ownBlock] using ej
    rw [hgb] at hj; cases hj; rfl
  ·exact (Below.heap_setCell X1 ⟨w.heap.size + 1, 0, none⟩ _ _ (by show w1.heap.size + 2 ≠ w.heap.size + 1; omega)).trans ((hgrow.block _ zk51 (fun e => by have := own_base hr _ e.symm; omega)).trans (Below.heap_alloc W _ _ hD))
  ·rw [List.length_append, List.map_append]; exact hown'.kept (grownBy_setCell' X1 _ _) (.inr (fun e => by have := own_base hown' _ e; omega))
 case done =>
  rintro W ⟨v, hv, hr, hm, hb⟩ hK; have hvc := hv.cell
  gi_wp2
  refine ⟨zk30, .inl ⟨_, _, rfl, run_takeDeferred hK, ?_⟩⟩; refine ⟨_, results_tmp rfl _ _ _, v, rfl, ?_, ?_⟩
  ·exact ownsRow_putObj (own_weaken hr zk12) _ hK rfl
  ·exact hb.trans ((Below.refl _ W).grown (grownBy_putObj' W _ _) hb.size (fun k e => by cases e; omega))
end Go.Proofs.Ytlkhdbfhnpbbhaa
