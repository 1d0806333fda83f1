/- What the laws of this folder share, part 4: walks of functions over their Go text, and plain lemmas. Conditions: as each lemma says. -/
import Derived.Test.YtplgffbfepnihaaPzM3
set_option linter.unusedVariables false
set_option linter.unusedSimpArgs false
namespace Go.Proofs.Ytplgffbfepnihaa.Hb
open Go.RowKit Go.Proofs.YtplgffbfepnihaaW.PrintWords Go.Proofs.YtplgffbfepnihaaW.PrintLast Go.Proofs.YtplgffbfepnihaaW.PrintMore Go.Proofs.Ytplgffbfepnihaa.Hi Go.Proofs.Ytplgffbfepnihaa.Q Go.Proofs.Ytplgffbfepnihaa.Vt
def vint_put.l0 : Nat → List Int → Int → Option (List Int)
 | 0, _, _ => none
 | k + 1, x0, x1 => if x1 ≥ 128 then (if x0.length < 140737488355328 then (vint_put.l0 k (x0 ++ [Go.bits .or .u8 ((x1) % 256) 128]) (x1 / 128)) else (none)) else (if x0.length < 140737488355328 then (some (x0 ++ [(x1) % 256])) else (none))
def vint_put.f (k : Nat) (l0 : List Int) (a1 : Int) : Option (List Int) := vint_put.l0 k l0 a1
def plain_Put.f (l0 : List Int) (l1 : List Int) : Option (List Int) := if l0 = [] ∧ l1 ≠ [] ∧ 10 * l1.length + 20 ≤ 140737488355328 ∧ (∀ n ∈ l1, 0 ≤ n ∧ n < 18446744073709551616) then some (encI l1) else none
theorem plain_Put.calls (A0 : Option Addr) (c0 : Nat) (l0 : List Int) (A1 : Option Addr) (c1 : Nat) (l1 : List Int) (r : List Int) (w : World) (hr0 : Kd.C (Kd.int .u8) w A0 l0.length l0) (hc0 : l0.length ≤ c0) (hr1 : Kd.C (Kd.int .u64) w A1 l1.length l1) (hc1 : l1.length ≤ c1) (h : plain_Put.f l0 l1 = some r) :
  Calls Try.prog 95 #[.slice A0 l0.length c0, .slice A1 l1.length c1] w fun e w' => ∃ v0_ : Value, e = .returned (v0_) ∧ Kd.R (Kd.int .u8) 5 w' w.heap.size (fun _ => True) v0_ r ∧ Below w.heap.size w w' := by
 unfold plain_Put.f at h; split at h
 case isTrue hr => obtain ⟨rfl, h1, h2, h3⟩ := hr; obtain rfl := Option.some.inj h; exact (plainPut_any (d := c1) hr0 hc0 hr1 h3 (by simp; omega)).mono fun _ _ ⟨r, he, _, hR, hb⟩ => ⟨r, he, by have := hR h1; rwa [List.nil_append] at this, hb⟩
 case isFalse => cases h
def hist_sparse.l0 : Nat → List Int → Int → List (S70) → Int → Int → Option (List Int)
 | 0, _, _, _, _, _ => none
 | k + 1, x3, x4, x12, x13, x14 => if x14 < x13 then (if 0 ≤ x14 then (if x14 < (x12.length : Int) then ((plain_Put.f ([] : List Int) (([IntKind.u64.wrap (wrap64 (((rd_T70 x12 x14).f0) - x4)), (rd_T70 x12 x14).f1] : List Int))).bind fun t121 => (if x3.length + t121.length < 140737488355328 then (hist_sparse.l0 k (x3 ++ t121) (wrap64 (((rd_T70 x12 x14).f0) + 1)) x12 x13 (wrap64 (x14 + 1))) else (none))) else (none)) else (none)) else (some x3)
def hist_sparse.f (k : Nat) (l0 : List (S70)) : Option (List Int) := (plain_Put.f ([] : List Int) (([0, IntKind.u64.wrap ((l0.length : Int))] : List Int))).bind fun t113 => (hist_sparse.l0 k t113 0 l0 (l0.length : Int) 0)
set_option maxHeartbeats 8000000 in
set_option maxRecDepth 100000 in
theorem hist_sparse.calls (k : Nat) (A0 : Option Addr) (c0 : Nat) (l0 : List (S70)) (r : List Int) (w : World) (hr0 : Kd.C k70 w A0 l0.length l0) (hc0 : l0.length ≤ c0) (h : hist_sparse.f k l0 = some r) :
  Calls Try.prog 73 #[.slice A0 l0.length c0] w fun e w' => ∃ v0_ : Value, e = .returned (v0_) ∧ Kd.R (Kd.int .u8) 5 w' w.heap.size (fun _ => True) v0_ r ∧ Below w.heap.size w w' := by
 have hu70 := Try.underlying70; have HR0 := mkA hr0; have HC0 := mkA hc0; clear hr0 hc0; have HB := mkA (Below.refl w.heap.size w); have H : ((plain_Put.f ([] : List Int) (([0, IntKind.u64.wrap ((l0.length : Int))] : List Int))).bind fun t113 => (hist_sparse.l0 k t113 0 l0 (l0.length : Int) 0)) = some r := h; clear h; obtain ⟨y110, hy110⟩ : ∃ y_ : List Int, y_ = (([0, IntKind.u64.wrap ((l0.length : Int))] : List Int)) := ⟨_, rfl⟩
 replace H : ((plain_Put.f ([] : List Int) y110).bind fun t113 => (hist_sparse.l0 k t113 0 l0 (l0.length : Int) 0)) = some r := zk92
 have Ny110 := mkA hy110; clear hy110; replace H := Option.bind_eq_some_iff.mp H; obtain ⟨t113, A20, H⟩ := H; replace H : (hist_sparse.l0 k t113 0 l0 (l0.length : Int) 0) = some r := H; have A2 := mkA A20; clear A20; have H' := mkA H; clear H; go_enter Try.func73, Try.ntmps73; (go_wp2_with (first | ((with_reducible refine gate_dst (N := 10) rfl ?_); refine Kd.R_lit (Kd.int .u64) _ 41 ?hg (N := 10) ?hd (xs := ([0, IntKind.u64.wrap ((l0.length : Int))] : List Int)) (inner := [.int .u64 0, .int .u64 (IntKind.u64.wrap ((l0.length : Int)))]) (ok := fun _ => True) (okp := fun _ => True) ?hr ?hp (fun _ hk => hk) trivial (Below.refl _ _) (Nat.le_refl _) zk56 ?_; (case hd => exact zk50); (case hg => exact zk50); (case hr => exact zk26); (case hp => exact (Reps.one (show Kd.M (Kd.int .u64) _ _ _ 0 [.int .u64 0] from rfl) (Reps.one (show Kd.M (Kd.int .u64) _ _ _ (IntKind.u64.wrap ((l0.length : Int))) [.int .u64 (IntKind.u64.wrap ((l0.length : Int)))] from rfl) (Reps.none _ _)))); intro v111 w3 ho4 hb hg_ hnew_; clear hg_ hnew_; (first | rw [← Ny110.out] at ho4 | (simp only [Int.reduceToNat] at ho4; rw [← Ny110.out] at ho4)); have n0_ := mkA (Kd.R_lower ho4 (below_size zk1)); have n1_ := mkA (below_step zk1 hb); clear HB; have HO112 := n0_; have HB := n1_; clear n0_ n1_; clear hb ho4; obtain ⟨Ao5, co5, eo5⟩ := Kd.R_slice HO112.out; subst eo5) | ((with_reducible refine gate_callee (f := 95) rfl ?_); refine goesL_ (some 11) rfl rfl Try.func95 zk11 rfl #[.slice none 0 0, .slice Ao5 y110.length co5] rfl zk2 ?_; (refine (plain_Put.calls _ _ ([] : List Int) _ _ y110 t113 _ ?side1 ?side2 ?side3 ?side4 A2.out).mono ?_); (case side1 => exact zk185); (case side2 => exact zk181); (case side3 => repeat (first | exact (Kd.R_reads' HO112.out).2.2 | (with_reducible refine Kd.C_alloc ?_ _) | (with_reducible refine Kd.C_drewN ?_ _) | (with_reducible refine Kd.C_drew ?_))); (case side4 => exact (Kd.R_reads' HO112.out).2.1); rintro e w6 ⟨v114, rfl, ho0, hb⟩; refine ⟨_, rfl, ?_⟩; have n0_ := mkA (Kd.R_below zk133 hb); have n1_ := mkA (Kd.R_lower ho0 (below_size zk1)); have n2_ := mkA (below_step zk1 hb); clear HO112; clear HB; have HO112 := n0_; have HO115 := n1_; have HB := n2_; clear n0_ n1_ n2_; (try clear hb); (try clear hb2); (try clear hk); (try clear hi); (try clear ho0)))); go_loopg [3, 4, 14] k (fun kq v3 v4 v14 w' => ∃ (x3_1 : List Int) (x4_1 : Int) (x14_1 : Int), v4 = .int .i64 x4_1 ∧ v14 = .int .i64 x14_1 ∧ Aside0 (hist_sparse.l0 kq x3_1 x4_1 l0 (l0.length : Int) x14_1 = some r) ∧ Aside0 (kq ≤ k) ∧ Aside0 (Kd.R (Kd.int .u8) 5 w' w.heap.size (fun _ => True) v3 x3_1) ∧ Aside0 (Below w.heap.size w w'))
 case atStart => exact ⟨(t113), (0), (0), zk14, zk14, H', ⟨Nat.le_refl _⟩, ⟨zk134⟩, ⟨zk1⟩⟩
 case round =>
  clear H'; (try clear p2); obtain ⟨x3_1, x4_1, x14_1, rfl, rfl, HA, HK1, HO_3, HB⟩ := hrel
  cases gk with
  | zero => exact absurd HA.out (by simp [hist_sparse.l0])
  | succ k1 =>
   have H := HA.out; clear HA; simp only [hist_sparse.l0] at H; by_cases c7 : x14_1 < (l0.length : Int)
   ·rw [if_pos c7] at H
    have c7b0 : decide (x14_1 < (l0.length : Int)) = true := decide_eq_true c7; clear c7; by_cases c8 : 0 ≤ x14_1
    ·rw [if_pos c8] at H
     have c8b0 : decide (0 ≤ x14_1) = true := decide_eq_true c8; clear c8; by_cases c9 : x14_1 < (l0.length : Int)
     ·rw [if_pos c9] at H
      have c9b0 : decide (x14_1 < (l0.length : Int)) = true := decide_eq_true c9; clear c9; obtain ⟨y118, hy118⟩ : ∃ y_ : List Int, y_ = (([IntKind.u64.wrap (wrap64 (((rd_T70 l0 x14_1).f0) - x4_1)), (rd_T70 l0 x14_1).f1] : List Int)) := ⟨_, rfl⟩
      replace H : ((plain_Put.f ([] : List Int) y118).bind fun t121 => (if x3_1.length + t121.length < 140737488355328 then (hist_sparse.l0 k1 (x3_1 ++ t121) (wrap64 (((rd_T70 l0 x14_1).f0) + 1)) l0 (l0.length : Int) (wrap64 (x14_1 + 1))) else (none))) = some r := by first | (rw [hy118]; with_reducible exact H) | (have H2_ := (Option.bind_some _ _).symm.trans H; rw [hy118]; with_reducible exact H2_) | (have H2_ := (Option.bind_some _ _).symm.trans H; with_reducible exact H2_) | with_reducible exact H | (rw [hy118]; exact H) | exact H
      have Ny118 := mkA hy118; clear hy118; replace H := Option.bind_eq_some_iff.mp H; obtain ⟨t121, A100, H⟩ := H; replace H : (if x3_1.length + t121.length < 140737488355328 then (hist_sparse.l0 k1 (x3_1 ++ t121) (wrap64 (((rd_T70 l0 x14_1).f0) + 1)) l0 (l0.length : Int) (wrap64 (x14_1 + 1))) else (none)) = some r := H; have A10 := mkA A100; clear A100; by_cases c11 : x3_1.length + t121.length < 140737488355328
      ·rw [if_pos c11] at H
       have LMc11 := mkA c11; clear c11; obtain ⟨y124, hy124⟩ : ∃ y_ : List Int, y_ = (x3_1 ++ t121) := ⟨_, rfl⟩
       replace H : (hist_sparse.l0 k1 y124 (wrap64 (((rd_T70 l0 x14_1).f0) + 1)) l0 (l0.length : Int) (wrap64 (x14_1 + 1))) = some r := zk93
       have Ny124 := mkA hy124; clear hy124; have H' := mkA H; clear H; have p116 : 0 ≤ (x14_1 : Int) := of_decide_eq_true zk8; have q116 : x14_1 < (l0.length : Int) := of_decide_eq_true zk8; obtain ⟨ad116, e116, hx116_0, hx116_1⟩ := at_T70 HR0.out x14_1 p116 q116; cases e116; replace hx116_0 := (HB.out.cell (World.block_lt_of_cell? w _ hx116_0)).trans hx116_0; replace hx116_1 := (HB.out.cell (World.block_lt_of_cell? w _ hx116_1)).trans hx116_1; replace p116 := eq_true p116; replace q116 := eq_true q116; (go_wp2_with (first | ((with_reducible refine gate_dst (N := 6) rfl ?_); refine box_event ?hg (N := 6) ?hd (cs := #[.int .i64 0, .int .u64 0]) (t := 70) ?hr ?_; (case hd => exact zk50); (case hg => exact zk50); (case hr => exact zk26); intro gb117 hg w12 hbox hb; have n0_ := mkA (Kd.R_below zk38 hb); have n1_ := mkA (below_step zk1 hb); have n2_ := mkA (hbox); have n3_ := mkA ((by rw [hg]; exact (below_size zk1) : w.heap.size ≤ gb117)); have n4_ := mkA ((by rw [hg]; exact (below_size zk1) : w.heap.size ≤ gb117)); clear HO_3; clear HB; have HO_3 := n0_; have HB := n1_; have BK117 := n2_; have GW117 := n3_; have GE117 := n4_; clear n0_ n1_ n2_ n3_ n4_; clear hb hbox hg; obtain ⟨hcz13_0, hcz13_1, hfz13_0, hfz13_1⟩ := cf2 BK117.out) | ((with_reducible refine gate_dst (N := 26) rfl ?_); refine Kd.R_lit (Kd.int .u64) _ 41 ?hg (N := 26) ?hd (xs := ([IntKind.u64.wrap (wrap64 (((rd_T70 l0 x14_1).f0) - x4_1)), (rd_T70 l0 x14_1).f1] : List Int)) (inner := [.int .u64 (IntKind.u64.wrap (wrap64 (((rd_T70 l0 x14_1).f0) - x4_1))), .int .u64 ((rd_T70 l0 x14_1).f1)]) (ok := fun _ => True) (okp := fun _ => True) ?hr ?hp (fun _ hk => hk) trivial (Below.refl _ _) (Nat.le_refl _) zk56 ?_; (case hd => exact zk50); (case hg => exact zk50); (case hr => exact zk26); (case hp => exact (Reps.one (show Kd.M (Kd.int .u64) _ _ _ (IntKind.u64.wrap (wrap64 (((rd_T70 l0 x14_1).f0) - x4_1))) [.int .u64 (IntKind.u64.wrap (wrap64 (((rd_T70 l0 x14_1).f0) - x4_1)))] from rfl) (Reps.one (show Kd.M (Kd.int .u64) _ _ _ ((rd_T70 l0 x14_1).f1) [.int .u64 ((rd_T70 l0 x14_1).f1)] from rfl) (Reps.none _ _)))); intro v119 w14 ho15 hb hg_ hnew_; clear hg_ hnew_; (first | rw [← Ny118.out] at ho15 | (simp only [Int.reduceToNat] at ho15; rw [← Ny118.out] at ho15)); have n0_ := mkA (Kd.R_below (by (with_reducible repeat (first | apply Kd.R_alloc | apply Kd.R_drewN | apply Kd.R_drew)); exact (Kd.R_mono (Kd.R_far (p := ⟨gb117, 1, none⟩) (Kd.R_far (p := ⟨gb117, 0, none⟩) (Kd.R_types HO_3.out BK117.out zk47) (fun _ hk => hk.2) (.int .i64 ((rd_T70 l0 x14_1).f0))) (fun _ hk => hk.2) (.int .u64 ((rd_T70 l0 x14_1).f1))) (fun _ h_ => h_.1))) hb); have n1_ := mkA (Kd.R_lower ho15 (below_size zk53)); have n2_ := mkA (blk_below (g := gb117) (o := .cells #[.int .i64 ((rd_T70 l0 x14_1).f0), .int .u64 ((rd_T70 l0 x14_1).f1)] 70 (0, 0)) (by (with_reducible repeat (first | refine blk_drewN ?_ _ | refine blk_drew ?_ | refine blk_alloc ?_ _)); refine blk_put (cs := #[.int .i64 ((rd_T70 l0 x14_1).f0), .int .u64 0]) ?_ 1 _ rfl; (with_reducible repeat (first | refine blk_drewN ?_ _ | refine blk_drew ?_ | refine blk_alloc ?_ _)); refine blk_put (cs := #[.int .i64 0, .int .u64 0]) ?_ 0 _ rfl; (with_reducible repeat (first | refine blk_drewN ?_ _ | refine blk_drew ?_ | refine blk_alloc ?_ _)); exact BK117.out) hb); have n3_ := mkA (below_step zk53 hb); clear HO_3; clear BK117; clear HB; have HO_3 := n0_; have HO120 := n1_; have BK117 := n2_; have HB := n3_; clear n0_ n1_ n2_ n3_; clear hb ho15; obtain ⟨Ao16, co16, eo16⟩ := Kd.R_slice HO120.out; subst eo16) | ((with_reducible refine gate_callee (f := 95) rfl ?_); refine goesL_ (some 27) rfl rfl Try.func95 zk11 rfl #[.slice none 0 0, .slice Ao16 y118.length co16] rfl zk2 ?_; (refine (plain_Put.calls _ _ ([] : List Int) _ _ y118 t121 _ ?side1 ?side2 ?side3 ?side4 A10.out).mono ?_); (case side1 => exact zk185); (case side2 => exact zk181); (case side3 => repeat (first | exact (Kd.R_reads' HO120.out).2.2 | (with_reducible refine Kd.C_alloc ?_ _) | (with_reducible refine Kd.C_drewN ?_ _) | (with_reducible refine Kd.C_drew ?_))); (case side4 => exact (Kd.R_reads' HO120.out).2.1); rintro e w17 ⟨v122, rfl, ho0, hb⟩; refine ⟨_, rfl, ?_⟩; have n0_ := mkA (Kd.R_elder' zk38 (Kd.R_base ho0) hb); have n1_ := mkA (Kd.R_below zk169 hb); have n2_ := mkA (Kd.R_lower (Kd.R_new' ho0 (Kd.R_lt zk38)) (below_size zk53)); have n3_ := mkA (blk_below (g := gb117) (o := .cells #[.int .i64 ((rd_T70 l0 x14_1).f0), .int .u64 ((rd_T70 l0 x14_1).f1)] 70 (0, 0)) zk156 hb); have n4_ := mkA (below_step zk53 hb); clear HO_3; clear HO120; clear BK117; clear HB; have HO_3 := n0_; have HO120 := n1_; have HO123 := n2_; have BK117 := n3_; have HB := n4_; clear n0_ n1_ n2_ n3_ n4_; (try clear hb); (try clear hb2); (try clear hk); (try clear hi); (try clear ho0); obtain ⟨Ao19, co19, eo19⟩ := Kd.R_slice HO123.out; subst eo19) | ((with_reducible refine gate_builtin (b := .append) (xs := #[.tmp 18, .tmp 27]) rfl ?_); at_builtin; refine Kd.R_append_rows (Kd.int .u8) (w0 := w) w.heap.size rfl (.tmp 18) (.tmp 27) 22 5 (.int .u8 0) 1 rfl Try.underlying22 info5 rfl zk47 zk6 u3 x3_1 t121 _ _ _ (fun k_ => some k_ ≠ (.slice Ao19 t121.length co19 : Value).ownBlock) (fun _ => False) rfl rfl ?aO ?aR (fun _ _ h => h) (fun _ h => h.elim) ?aF ?aB ?aS ?aL ?_; (case aR => exact zk130); (case aB => exact zk53); (case aF => exact zk135); (case aO => exact zk79); (case aS => exact (below_size zk53)); (case aL => have := LMc11.out; omega); intro v125 w18 ho hb hg hat; rw [← Ny124.out] at ho; have n0_ := mkA (blk_grown (g := gb117) (o := .cells #[.int .i64 ((rd_T70 l0 x14_1).f0), .int .u64 ((rd_T70 l0 x14_1).f1)] 70 (0, 0)) zk156 hg (Kd.R_ne HO_3.out BK117.out zk47)); have n1_ := mkA (Kd.R_over' zk169 (Kd.R_typed zk38) zk47 hg); have n2_ := mkA (Kd.R_after (ok := (fun _ => True)) zk78 hg hat); have n3_ := mkA (hb); have n4_ := mkA (ho); clear BK117; clear HO120; clear HO123; clear HB; clear HO_3; have BK117 := n0_; have HO120 := n1_; have HO123 := n2_; have HB := n3_; have HO126 := n4_; clear n0_ n1_ n2_ n3_ n4_; clear ho hb hg hat; obtain ⟨hcz20_0, hcz20_1, hfz20_0, hfz20_1⟩ := cf2 BK117.out))); go_roundg k1
       case measure => have := HK1.out; omega
       case rel => exact ⟨(y124), (wrap64 (((rd_T70 l0 x14_1).f0) + 1)), (wrap64 (x14_1 + 1)), zk14, zk14, H', ⟨zk150⟩, ⟨by (with_reducible repeat (first | apply Kd.R_alloc | apply Kd.R_drewN | apply Kd.R_drew)); exact Kd.R_mono HO126.out (fun _ hk => trivial)⟩, ⟨zk53⟩⟩
      ·exact zk230
     ·exact zk237
    ·exact zk239
   ·rw [if_neg c7] at H
    have c7b0 : decide (x14_1 < (l0.length : Int)) = false := decide_eq_false c7; clear c7; obtain rfl := Option.some.inj H; go_wp2; go_ret
    exact ⟨_, zk7, zk38, zk1⟩
def hist_dense.l0 : Nat → List Int → Int → List (S70) → Int → Int → Option (List Int)
 | 0, _, _, _, _, _ => none
 | k + 1, x5, x6, x30, x31, x32 => if x32 < x31 then (if 0 ≤ x32 then (if x32 < (x30.length : Int) then (if 0 ≤ (wrap64 (((rd_T70 x30 x32).f0) - x6)) then (if x5.length + (wrap64 (((rd_T70 x30 x32).f0) - x6) : Int).toNat < 140737488355328 then ((some (x5 ++ List.replicate (wrap64 (((rd_T70 x30 x32).f0) - x6) : Int).toNat 0 : List Int)).bind fun y137 => ((plain_Put.f ([] : List Int) (([(rd_T70 x30 x32).f1] : List Int))).bind fun t143 => (if y137.length + t143.length < 140737488355328 then (hist_dense.l0 k (y137 ++ t143) (wrap64 (((rd_T70 x30 x32).f0) + 1)) x30 x31 (wrap64 (x32 + 1))) else (none)))) else (none)) else (none)) else (none)) else (none)) else (some x5)
def hist_dense.f (k : Nat) (l0 : List (S70)) : Option (List Int) := if 0 < (l0.length : Int) then (if 0 ≤ (wrap64 ((l0.length : Int) - 1)) then (if (wrap64 ((l0.length : Int) - 1)) < (l0.length : Int) then ((plain_Put.f ([] : List Int) (([1, IntKind.u64.wrap ((rd_T70 l0 0).f0), IntKind.u64.wrap (wrap64 ((wrap64 (((rd_T70 l0 (wrap64 ((l0.length : Int) - 1))).f0) - ((rd_T70 l0 0).f0))) + 1))] : List Int))).bind fun t132 => (hist_dense.l0 k t132 ((rd_T70 l0 0).f0) l0 (l0.length : Int) 0)) else (none)) else (none)) else (none)
set_option maxHeartbeats 8000000 in
set_option maxRecDepth 100000 in
theorem hist_dense.calls (k : Nat) (A0 : Option Addr) (c0 : Nat) (l0 : List (S70)) (r : List Int) (w : World) (hr0 : Kd.C k70 w A0 l0.length l0) (hc0 : l0.length ≤ c0) (h : hist_dense.f k l0 = some r) :
  Calls Try.prog 74 #[.slice A0 l0.length c0] w fun e w' => ∃ v0_ : Value, e = .returned (v0_) ∧ Kd.R (Kd.int .u8) 5 w' w.heap.size (fun _ => True) v0_ r ∧ Below w.heap.size w w' := by
 have hu70 := Try.underlying70; have HR0 := mkA hr0; have HC0 := mkA hc0; clear hr0 hc0; have HB := mkA (Below.refl w.heap.size w); have H : (if 0 < (l0.length : Int) then (if 0 ≤ (wrap64 ((l0.length : Int) - 1)) then (if (wrap64 ((l0.length : Int) - 1)) < (l0.length : Int) then ((plain_Put.f ([] : List Int) (([1, IntKind.u64.wrap ((rd_T70 l0 0).f0), IntKind.u64.wrap (wrap64 ((wrap64 (((rd_T70 l0 (wrap64 ((l0.length : Int) - 1))).f0) - ((rd_T70 l0 0).f0))) + 1))] : List Int))).bind fun t132 => (hist_dense.l0 k t132 ((rd_T70 l0 0).f0) l0 (l0.length : Int) 0)) else (none)) else (none)) else (none)) = some r := h; clear h; by_cases c2 : 0 < (l0.length : Int)
 ·rw [if_pos c2] at H
  have c2b0 : decide (0 < (l0.length : Int)) = true := decide_eq_true c2; have c2b1 : decide (0 < l0.length) = true := decide_eq_true zk6; clear c2; obtain ⟨ji3, hji3⟩ : ∃ j_ : Int, (wrap64 ((l0.length : Int) - 1)) = j_ := ⟨_, rfl⟩
  replace H : (if 0 ≤ (ji3) then (if (ji3) < (l0.length : Int) then ((plain_Put.f ([] : List Int) (([1, IntKind.u64.wrap ((rd_T70 l0 0).f0), IntKind.u64.wrap (wrap64 ((wrap64 (((rd_T70 l0 (ji3)).f0) - ((rd_T70 l0 0).f0))) + 1))] : List Int))).bind fun t132 => (hist_dense.l0 k t132 ((rd_T70 l0 0).f0) l0 (l0.length : Int) 0)) else (none)) else (none)) = some r := by first | (rw [hji3] at H; exact H) | (simp only [hji3] at H ⊢; exact H)
  have hji3w : (IntKind.i64.wrap ((l0.length : Int) - 1)) = ji3 := (i64_w _).trans hji3; by_cases c4 : 0 ≤ (ji3)
  ·rw [if_pos c4] at H
   have c4b0 : decide (0 ≤ (ji3)) = true := decide_eq_true c4; clear c4; by_cases c5 : (ji3) < (l0.length : Int)
   ·rw [if_pos c5] at H
    have c5b0 : decide ((ji3) < (l0.length : Int)) = true := decide_eq_true c5; clear c5; obtain ⟨y129, hy129⟩ : ∃ y_ : List Int, y_ = (([1, IntKind.u64.wrap ((rd_T70 l0 0).f0), IntKind.u64.wrap (wrap64 ((wrap64 (((rd_T70 l0 (ji3)).f0) - ((rd_T70 l0 0).f0))) + 1))] : List Int)) := ⟨_, rfl⟩
    replace H : ((plain_Put.f ([] : List Int) y129).bind fun t132 => (hist_dense.l0 k t132 ((rd_T70 l0 0).f0) l0 (l0.length : Int) 0)) = some r := by first | (rw [hy129]; with_reducible exact H) | (have H2_ := (Option.bind_some _ _).symm.trans H; rw [hy129]; with_reducible exact H2_) | (have H2_ := (Option.bind_some _ _).symm.trans H; with_reducible exact H2_) | with_reducible exact H | (rw [hy129]; exact H) | exact H
    have Ny129 := mkA hy129; clear hy129; replace H := Option.bind_eq_some_iff.mp H; obtain ⟨t132, A60, H⟩ := H; replace H : (hist_dense.l0 k t132 ((rd_T70 l0 0).f0) l0 (l0.length : Int) 0) = some r := H; have A6 := mkA A60; clear A60; have H' := mkA H; clear H; have p127 : 0 ≤ (0 : Int) := zk6
    have q127 : 0 < (l0.length : Int) := of_decide_eq_true zk8; obtain ⟨ad127, e127, hx127_0, hx127_1⟩ := at_T70 HR0.out 0 p127 q127; cases e127; have qi127 : (0 < l0.length) = True := eq_true zk6; (try rw [show ((0 : Int)).toNat = 0 from rfl] at hx127_0); (try rw [show 0 * 2 = 0 from rfl] at hx127_0); (try rw [Addr.add_zero'] at hx127_0); (try rw [show ((0 : Int)).toNat = 0 from rfl] at hx127_1); (try rw [show 0 * 2 = 0 from rfl] at hx127_1); (try rw [Addr.add_zero'] at hx127_1); replace p127 := eq_true p127; replace q127 := eq_true q127; have p128 : 0 ≤ ((ji3) : Int) := of_decide_eq_true zk8; have q128 : (ji3) < (l0.length : Int) := of_decide_eq_true zk8; obtain ⟨ad128, e128, hx128_0, hx128_1⟩ := at_T70 HR0.out (ji3) p128 q128; obtain rfl : ad127 = ad128 := zk205
    replace p128 := eq_true p128; replace q128 := eq_true q128; go_enter Try.func74, Try.ntmps74; (go_wp2_with (first | ((with_reducible refine gate_dst (N := 27) rfl ?_); refine Kd.R_lit (Kd.int .u64) _ 41 ?hg (N := 27) ?hd (xs := ([1, IntKind.u64.wrap ((rd_T70 l0 0).f0), IntKind.u64.wrap (wrap64 ((wrap64 (((rd_T70 l0 (ji3)).f0) - ((rd_T70 l0 0).f0))) + 1))] : List Int)) (inner := [.int .u64 1, .int .u64 (IntKind.u64.wrap ((rd_T70 l0 0).f0)), .int .u64 (IntKind.u64.wrap (wrap64 ((wrap64 (((rd_T70 l0 (ji3)).f0) - ((rd_T70 l0 0).f0))) + 1)))]) (ok := fun _ => True) (okp := fun _ => True) ?hr ?hp (fun _ hk => hk) trivial (Below.refl _ _) (Nat.le_refl _) zk56 ?_; (case hd => exact zk50); (case hg => exact zk50); (case hr => exact zk26); (case hp => exact zk43); intro v130 w7 ho8 hb hg_ hnew_; clear hg_ hnew_; (first | rw [← Ny129.out] at ho8 | (simp only [Int.reduceToNat] at ho8; rw [← Ny129.out] at ho8)); have n0_ := mkA (Kd.R_lower ho8 (below_size zk1)); have n1_ := mkA (below_step zk1 hb); clear HB; have HO131 := n0_; have HB := n1_; clear n0_ n1_; clear hb ho8; obtain ⟨Ao9, co9, eo9⟩ := Kd.R_slice HO131.out; subst eo9) | (go_at_call 95; (refine (plain_Put.calls _ _ ([] : List Int) _ _ y129 t132 _ ?side1 ?side2 ?side3 ?side4 A6.out).mono ?_); (case side1 => exact zk185); (case side2 => exact zk181); (case side3 => exact zk102); (case side4 => exact (Kd.R_reads' HO131.out).2.1); rintro e w10 ⟨v133, rfl, ho0, hb⟩; have n0_ := mkA (Kd.R_below zk138 hb); have n1_ := mkA (Kd.R_lower ho0 (below_size zk1)); have n2_ := mkA (below_step zk1 hb); clear HO131; clear HB; have HO131 := n0_; have HO134 := n1_; have HB := n2_; clear n0_ n1_ n2_; (try clear hb); (try clear hb2); (try clear hk); (try clear hi); (try clear ho0)))); (repeat (go_quiet (first | ((with_reducible refine gate_dst (N := 27) rfl ?_); refine Kd.R_lit (Kd.int .u64) _ 41 ?hg (N := 27) ?hd (xs := ([1, IntKind.u64.wrap ((rd_T70 l0 0).f0), IntKind.u64.wrap (wrap64 ((wrap64 (((rd_T70 l0 (ji3)).f0) - ((rd_T70 l0 0).f0))) + 1))] : List Int)) (inner := [.int .u64 1, .int .u64 (IntKind.u64.wrap ((rd_T70 l0 0).f0)), .int .u64 (IntKind.u64.wrap (wrap64 ((wrap64 (((rd_T70 l0 (ji3)).f0) - ((rd_T70 l0 0).f0))) + 1)))]) (ok := fun _ => True) (okp := fun _ => True) ?hr ?hp (fun _ hk => hk) trivial (Below.refl _ _) (Nat.le_refl _) zk56 ?_; (case hd => exact zk50); (case hg => exact zk50); (case hr => exact zk26); (case hp => exact zk43); intro v130 w7 ho8 hb hg_ hnew_; clear hg_ hnew_; (first | rw [← Ny129.out] at ho8 | (simp only [Int.reduceToNat] at ho8; rw [← Ny129.out] at ho8)); have n0_ := mkA (Kd.R_lower ho8 (below_size zk1)); have n1_ := mkA (below_step zk1 hb); clear HB; have HO131 := n0_; have HB := n1_; clear n0_ n1_; clear hb ho8; obtain ⟨Ao9, co9, eo9⟩ := Kd.R_slice HO131.out; subst eo9) | (go_at_call 95; (refine (plain_Put.calls _ _ ([] : List Int) _ _ y129 t132 _ ?side1 ?side2 ?side3 ?side4 A6.out).mono ?_); (case side1 => exact zk185); (case side2 => exact zk181); (case side3 => exact zk102); (case side4 => exact (Kd.R_reads' HO131.out).2.1); rintro e w10 ⟨v133, rfl, ho0, hb⟩; have n0_ := mkA (Kd.R_below zk138 hb); have n1_ := mkA (Kd.R_lower ho0 (below_size zk1)); have n2_ := mkA (below_step zk1 hb); clear HO131; clear HB; have HO131 := n0_; have HO134 := n1_; have HB := n2_; clear n0_ n1_ n2_; (try clear hb); (try clear hb2); (try clear hk); (try clear hi); (try clear ho0))); try go_wp2_with (first | ((with_reducible refine gate_dst (N := 27) rfl ?_); refine Kd.R_lit (Kd.int .u64) _ 41 ?hg (N := 27) ?hd (xs := ([1, IntKind.u64.wrap ((rd_T70 l0 0).f0), IntKind.u64.wrap (wrap64 ((wrap64 (((rd_T70 l0 (ji3)).f0) - ((rd_T70 l0 0).f0))) + 1))] : List Int)) (inner := [.int .u64 1, .int .u64 (IntKind.u64.wrap ((rd_T70 l0 0).f0)), .int .u64 (IntKind.u64.wrap (wrap64 ((wrap64 (((rd_T70 l0 (ji3)).f0) - ((rd_T70 l0 0).f0))) + 1)))]) (ok := fun _ => True) (okp := fun _ => True) ?hr ?hp (fun _ hk => hk) trivial (Below.refl _ _) (Nat.le_refl _) zk56 ?_; (case hd => exact zk50); (case hg => exact zk50); (case hr => exact zk26); (case hp => exact zk43); intro v130 w7 ho8 hb hg_ hnew_; clear hg_ hnew_; (first | rw [← Ny129.out] at ho8 | (simp only [Int.reduceToNat] at ho8; rw [← Ny129.out] at ho8)); have n0_ := mkA (Kd.R_lower ho8 (below_size zk1)); have n1_ := mkA (below_step zk1 hb); clear HB; have HO131 := n0_; have HB := n1_; clear n0_ n1_; clear hb ho8; obtain ⟨Ao9, co9, eo9⟩ := Kd.R_slice HO131.out; subst eo9) | (go_at_call 95; (refine (plain_Put.calls _ _ ([] : List Int) _ _ y129 t132 _ ?side1 ?side2 ?side3 ?side4 A6.out).mono ?_); (case side1 => exact zk185); (case side2 => exact zk181); (case side3 => exact zk102); (case side4 => exact (Kd.R_reads' HO131.out).2.1); rintro e w10 ⟨v133, rfl, ho0, hb⟩; have n0_ := mkA (Kd.R_below zk138 hb); have n1_ := mkA (Kd.R_lower ho0 (below_size zk1)); have n2_ := mkA (below_step zk1 hb); clear HO131; clear HB; have HO131 := n0_; have HO134 := n1_; have HB := n2_; clear n0_ n1_ n2_; (try clear hb); (try clear hb2); (try clear hk); (try clear hi); (try clear ho0))))); go_loopg [5, 6, 32] k (fun kq v5 v6 v32 w' => ∃ (x5_1 : List Int) (x6_1 : Int) (x32_1 : Int), v6 = .int .i64 x6_1 ∧ v32 = .int .i64 x32_1 ∧ Aside0 (hist_dense.l0 kq x5_1 x6_1 l0 (l0.length : Int) x32_1 = some r) ∧ Aside0 (kq ≤ k) ∧ Aside0 (Kd.R (Kd.int .u8) 5 w' w.heap.size (fun _ => True) v5 x5_1) ∧ Aside0 (Below w.heap.size w w'))
    case atStart => exact ⟨(t132), ((rd_T70 l0 0).f0), (0), zk14, zk14, H', ⟨Nat.le_refl _⟩, ⟨by (with_reducible repeat (first | apply Kd.R_alloc | apply Kd.R_drewN | apply Kd.R_drew)); exact HO134.out⟩, ⟨zk1⟩⟩
    case round =>
     clear H'; (try clear p1); (try clear q1); (try clear hx1); (try clear qi1); (try clear c2); (try clear c2b0); (try clear c2b1); (try clear p2); (try clear c4); (try clear c4b0); (try clear c5); (try clear c5b0); (try clear p6); (try clear c7); (try clear hx127_0); (try clear hx127_1); (try clear hx128_0); (try clear hx128_1); (try clear p127); (try clear p128); (try clear q127); (try clear q128); obtain ⟨x5_1, x6_1, x32_1, rfl, rfl, HA, HK1, HO_5, HB⟩ := hrel
     cases gk with
     | zero => exact absurd HA.out (by simp [hist_dense.l0])
     | succ k1 =>
      have H := HA.out; clear HA; simp only [hist_dense.l0] at H; by_cases c11 : x32_1 < (l0.length : Int)
      ·rw [if_pos c11] at H
       have c11b0 : decide (x32_1 < (l0.length : Int)) = true := decide_eq_true c11; clear c11; by_cases c12 : 0 ≤ x32_1
       ·rw [if_pos c12] at H
        have c12b0 : decide (0 ≤ x32_1) = true := decide_eq_true c12; clear c12; by_cases c13 : x32_1 < (l0.length : Int)
        ·rw [if_pos c13] at H
         have c13b0 : decide (x32_1 < (l0.length : Int)) = true := decide_eq_true c13; clear c13; obtain ⟨ji14, hji14⟩ : ∃ j_ : Int, (wrap64 (((rd_T70 l0 x32_1).f0) - x6_1)) = j_ := ⟨_, rfl⟩
         replace H : (if 0 ≤ (ji14) then (if x5_1.length + (ji14 : Int).toNat < 140737488355328 then ((some (x5_1 ++ List.replicate (ji14 : Int).toNat 0 : List Int)).bind fun y137 => ((plain_Put.f ([] : List Int) (([(rd_T70 l0 x32_1).f1] : List Int))).bind fun t143 => (if y137.length + t143.length < 140737488355328 then (hist_dense.l0 k1 (y137 ++ t143) (wrap64 (((rd_T70 l0 x32_1).f0) + 1)) l0 (l0.length : Int) (wrap64 (x32_1 + 1))) else (none)))) else (none)) else (none)) = some r := zk148
         have hji14w : (IntKind.i64.wrap (((rd_T70 l0 x32_1).f0) - x6_1)) = ji14 := (i64_w _).trans hji14; by_cases c15 : 0 ≤ (ji14)
         ·rw [if_pos c15] at H
          have c15b0 := eq_true c15; have c15b1 : decide (0 ≤ (ji14)) = true := decide_eq_true c15; clear c15; by_cases c16 : x5_1.length + (ji14 : Int).toNat < 140737488355328
          ·rw [if_pos c16] at H
           have LMc16 := mkA c16; clear c16; obtain ⟨y137, hy137⟩ : ∃ y_ : List Int, y_ = (x5_1 ++ List.replicate (ji14 : Int).toNat 0) := ⟨_, rfl⟩
           replace H : ((plain_Put.f ([] : List Int) (([(rd_T70 l0 x32_1).f1] : List Int))).bind fun t143 => (if y137.length + t143.length < 140737488355328 then (hist_dense.l0 k1 (y137 ++ t143) (wrap64 (((rd_T70 l0 x32_1).f0) + 1)) l0 (l0.length : Int) (wrap64 (x32_1 + 1))) else (none))) = some r := zk94
           have Ny137 := mkA hy137; clear hy137; obtain ⟨y140, hy140⟩ : ∃ y_ : List Int, y_ = (([(rd_T70 l0 x32_1).f1] : List Int)) := ⟨_, rfl⟩
           replace H : ((plain_Put.f ([] : List Int) y140).bind fun t143 => (if y137.length + t143.length < 140737488355328 then (hist_dense.l0 k1 (y137 ++ t143) (wrap64 (((rd_T70 l0 x32_1).f0) + 1)) l0 (l0.length : Int) (wrap64 (x32_1 + 1))) else (none))) = some r := by first | (rw [hy140]; with_reducible exact H) | (have H2_ := (Option.bind_some _ _).symm.trans H; rw [hy140]; with_reducible exact H2_) | (have H2_ := (Option.bind_some _ _).symm.trans H; with_reducible exact H2_) | with_reducible exact H | (rw [hy140]; exact H) | exact H
           have Ny140 := mkA hy140; clear hy140; replace H := Option.bind_eq_some_iff.mp H; obtain ⟨t143, A170, H⟩ := H; replace H : (if y137.length + t143.length < 140737488355328 then (hist_dense.l0 k1 (y137 ++ t143) (wrap64 (((rd_T70 l0 x32_1).f0) + 1)) l0 (l0.length : Int) (wrap64 (x32_1 + 1))) else (none)) = some r := H; have A17 := mkA A170; clear A170; by_cases c18 : y137.length + t143.length < 140737488355328
           ·rw [if_pos c18] at H
            have LMc18 := mkA c18; clear c18; obtain ⟨y146, hy146⟩ : ∃ y_ : List Int, y_ = (y137 ++ t143) := ⟨_, rfl⟩
            replace H : (hist_dense.l0 k1 y146 (wrap64 (((rd_T70 l0 x32_1).f0) + 1)) l0 (l0.length : Int) (wrap64 (x32_1 + 1))) = some r := by first | (rw [hy146]; with_reducible exact H) | (have H2_ := (Option.bind_some _ _).symm.trans H; rw [hy146]; with_reducible exact H2_) | (have H2_ := (Option.bind_some _ _).symm.trans H; with_reducible exact H2_) | with_reducible exact H | (rw [hy146]; exact H) | exact H
            have Ny146 := mkA hy146; clear hy146; have H' := mkA H; clear H; have p135 : 0 ≤ (x32_1 : Int) := of_decide_eq_true zk8; have q135 : x32_1 < (l0.length : Int) := of_decide_eq_true zk8; obtain ⟨ad135, e135, hx135_0, hx135_1⟩ := at_T70 HR0.out x32_1 p135 q135; obtain rfl : ad127 = ad135 := (by injection e135)
            replace hx135_0 := (HB.out.cell (World.block_lt_of_cell? w _ hx135_0)).trans hx135_0; replace hx135_1 := (HB.out.cell (World.block_lt_of_cell? w _ hx135_1)).trans hx135_1; replace p135 := eq_true p135; replace q135 := eq_true q135; (go_wp2_with (first | ((with_reducible refine gate_dst (N := 8) rfl ?_); refine box_event ?hg (N := 8) ?hd (cs := #[.int .i64 0, .int .u64 0]) (t := 70) ?hr ?_; (case hd => exact zk50); (case hg => exact zk50); (case hr => exact zk26); intro gb136 hg w19 hbox hb; have n0_ := mkA (Kd.R_below zk72 hb); have n1_ := mkA (below_step zk1 hb); have n2_ := mkA (hbox); have n3_ := mkA ((by rw [hg]; exact (below_size zk1) : w.heap.size ≤ gb136)); have n4_ := mkA ((by rw [hg]; exact (below_size zk1) : w.heap.size ≤ gb136)); clear HO_5; clear HB; have HO_5 := n0_; have HB := n1_; have BK136 := n2_; have GW136 := n3_; have GE136 := n4_; clear n0_ n1_ n2_ n3_ n4_; clear hb hbox hg; obtain ⟨hcz20_0, hcz20_1, hfz20_0, hfz20_1⟩ := cf2 BK136.out) | (at_builtin; refine Kd.R_append_zeros (Kd.int .u8) (w0 := w) w.heap.size rfl (.tmp 36) (.tmp 40) 22 3 5 (.int .u8 0) 1 rfl Try.underlying22 Try.underlying3 info5 rfl zk47 zk6 u5 x5_1 0 (ji14 : Int) (fun _ => True) rfl rfl rfl ?aF ?aO (of_decide_eq_true zk8) ?aB ?aS ?aL ?_; (case aB => exact zk61); (case aF => exact zk125); (case aO => exact zk57); (case aS => exact zk54); (case aL => exact zk202); intro v138 w21 ho hb hg hat; rw [← Ny137.out] at ho; have n0_ := mkA (blk_grown (g := gb136) (o := .cells #[.int .i64 ((rd_T70 l0 x32_1).f0), .int .u64 ((rd_T70 l0 x32_1).f1)] 70 (0, 0)) zk44 hg (Kd.R_ne HO_5.out BK136.out zk47)); have n1_ := mkA (hb); have n2_ := mkA (ho); clear BK136; clear HB; clear HO_5; have BK136 := n0_; have HB := n1_; have HO139 := n2_; clear n0_ n1_ n2_; clear ho hb hg hat; obtain ⟨hcz22_0, hcz22_1, hfz22_0, hfz22_1⟩ := cf2 BK136.out) | ((with_reducible refine gate_dst (N := 45) rfl ?_); refine Kd.R_lit (Kd.int .u64) _ 41 ?hg (N := 45) ?hd (xs := ([(rd_T70 l0 x32_1).f1] : List Int)) (inner := [.int .u64 ((rd_T70 l0 x32_1).f1)]) (ok := fun _ => True) (okp := fun _ => True) ?hr ?hp (fun _ hk => hk) trivial (Below.refl _ _) (Nat.le_refl _) zk56 ?_; (case hd => exact zk50); (case hg => exact zk50); (case hr => exact zk26); (case hp => exact zk121); intro v141 w23 ho24 hb hg_ hnew_; clear hg_ hnew_; (first | rw [← Ny140.out] at ho24 | (simp only [Int.reduceToNat] at ho24; rw [← Ny140.out] at ho24)); have n0_ := mkA (Kd.R_below zk40 hb); have n1_ := mkA (Kd.R_lower ho24 (below_size zk12)); have n2_ := mkA (blk_below (g := gb136) (o := .cells #[.int .i64 ((rd_T70 l0 x32_1).f0), .int .u64 ((rd_T70 l0 x32_1).f1)] 70 (0, 0)) zk59 hb); have n3_ := mkA (below_step zk12 hb); clear HO139; clear BK136; clear HB; have HO139 := n0_; have HO142 := n1_; have BK136 := n2_; have HB := n3_; clear n0_ n1_ n2_ n3_; clear hb ho24; obtain ⟨Ao25, co25, eo25⟩ := Kd.R_slice HO142.out; subst eo25) | (go_at_call 95; (refine (plain_Put.calls _ _ ([] : List Int) _ _ y140 t143 _ ?side1 ?side2 ?side3 ?side4 A17.out).mono ?_); (case side1 => exact zk185); (case side2 => exact zk181); (case side3 => exact zk103); (case side4 => exact (Kd.R_reads' HO142.out).2.1); rintro e w26 ⟨v144, rfl, ho0, hb⟩; have n0_ := mkA (Kd.R_elder' zk40 (Kd.R_base ho0) hb); have n1_ := mkA (Kd.R_below zk88 hb); have n2_ := mkA (Kd.R_lower (Kd.R_new' ho0 (Kd.R_lt zk40)) (below_size zk12)); have n3_ := mkA (blk_below (g := gb136) (o := .cells #[.int .i64 ((rd_T70 l0 x32_1).f0), .int .u64 ((rd_T70 l0 x32_1).f1)] 70 (0, 0)) zk59 hb); have n4_ := mkA (below_step zk12 hb); clear HO139; clear HO142; clear BK136; clear HB; have HO139 := n0_; have HO142 := n1_; have HO145 := n2_; have BK136 := n3_; have HB := n4_; clear n0_ n1_ n2_ n3_ n4_; (try clear hb); (try clear hb2); (try clear hk); (try clear hi); (try clear ho0); obtain ⟨Ao28, co28, eo28⟩ := Kd.R_slice HO145.out; subst eo28) | ((with_reducible refine gate_builtin (b := .append) (xs := #[.tmp 42, .tmp 46]) rfl ?_); at_builtin; refine Kd.R_append_rows (Kd.int .u8) (w0 := w) w.heap.size rfl (.tmp 42) (.tmp 46) 22 5 (.int .u8 0) 1 rfl Try.underlying22 info5 rfl zk47 zk6 v138 y137 t143 _ _ _ (fun k_ => some k_ ≠ (.slice Ao28 t143.length co28 : Value).ownBlock) (fun _ => False) rfl rfl ?aO ?aR (fun _ _ h => h) (fun _ h => h.elim) ?aF ?aB ?aS ?aL ?_; (case aR => exact zk104); (case aB => exact zk61); (case aF => exact zk107); (case aO => exact zk111); (case aS => exact zk54); (case aL => exact zk203); intro v147 w27 ho hb hg hat; rw [← Ny146.out] at ho; have n0_ := mkA (blk_grown (g := gb136) (o := .cells #[.int .i64 ((rd_T70 l0 x32_1).f0), .int .u64 ((rd_T70 l0 x32_1).f1)] 70 (0, 0)) zk59 hg (Kd.R_ne HO139.out BK136.out zk47)); have n1_ := mkA (Kd.R_over' zk88 (Kd.R_typed zk40) zk47 hg); have n2_ := mkA (Kd.R_after (ok := (fun _ => True)) zk89 hg hat); have n3_ := mkA (hb); have n4_ := mkA (ho); clear BK136; clear HO142; clear HO145; clear HB; clear HO139; have BK136 := n0_; have HO142 := n1_; have HO145 := n2_; have HB := n3_; have HO148 := n4_; clear n0_ n1_ n2_ n3_ n4_; clear ho hb hg hat; obtain ⟨hcz29_0, hcz29_1, hfz29_0, hfz29_1⟩ := cf2 BK136.out))); (repeat (go_quiet (first | ((with_reducible refine gate_dst (N := 8) rfl ?_); refine box_event ?hg (N := 8) ?hd (cs := #[.int .i64 0, .int .u64 0]) (t := 70) ?hr ?_; (case hd => exact zk50); (case hg => exact zk50); (case hr => exact zk26); intro gb136 hg w19 hbox hb; have n0_ := mkA (Kd.R_below zk72 hb); have n1_ := mkA (below_step zk1 hb); have n2_ := mkA (hbox); have n3_ := mkA ((by rw [hg]; exact (below_size zk1) : w.heap.size ≤ gb136)); have n4_ := mkA ((by rw [hg]; exact (below_size zk1) : w.heap.size ≤ gb136)); clear HO_5; clear HB; have HO_5 := n0_; have HB := n1_; have BK136 := n2_; have GW136 := n3_; have GE136 := n4_; clear n0_ n1_ n2_ n3_ n4_; clear hb hbox hg; obtain ⟨hcz20_0, hcz20_1, hfz20_0, hfz20_1⟩ := cf2 BK136.out) | (at_builtin; refine Kd.R_append_zeros (Kd.int .u8) (w0 := w) w.heap.size rfl (.tmp 36) (.tmp 40) 22 3 5 (.int .u8 0) 1 rfl Try.underlying22 Try.underlying3 info5 rfl zk47 zk6 u5 x5_1 0 (ji14 : Int) (fun _ => True) rfl rfl rfl ?aF ?aO (of_decide_eq_true zk8) ?aB ?aS ?aL ?_; (case aB => exact zk61); (case aF => exact zk125); (case aO => exact zk57); (case aS => exact zk54); (case aL => exact zk202); intro v138 w21 ho hb hg hat; rw [← Ny137.out] at ho; have n0_ := mkA (blk_grown (g := gb136) (o := .cells #[.int .i64 ((rd_T70 l0 x32_1).f0), .int .u64 ((rd_T70 l0 x32_1).f1)] 70 (0, 0)) zk44 hg (Kd.R_ne HO_5.out BK136.out zk47)); have n1_ := mkA (hb); have n2_ := mkA (ho); clear BK136; clear HB; clear HO_5; have BK136 := n0_; have HB := n1_; have HO139 := n2_; clear n0_ n1_ n2_; clear ho hb hg hat; obtain ⟨hcz22_0, hcz22_1, hfz22_0, hfz22_1⟩ := cf2 BK136.out) | ((with_reducible refine gate_dst (N := 45) rfl ?_); refine Kd.R_lit (Kd.int .u64) _ 41 ?hg (N := 45) ?hd (xs := ([(rd_T70 l0 x32_1).f1] : List Int)) (inner := [.int .u64 ((rd_T70 l0 x32_1).f1)]) (ok := fun _ => True) (okp := fun _ => True) ?hr ?hp (fun _ hk => hk) trivial (Below.refl _ _) (Nat.le_refl _) zk56 ?_; (case hd => exact zk50); (case hg => exact zk50); (case hr => exact zk26); (case hp => exact zk121); intro v141 w23 ho24 hb hg_ hnew_; clear hg_ hnew_; (first | rw [← Ny140.out] at ho24 | (simp only [Int.reduceToNat] at ho24; rw [← Ny140.out] at ho24)); have n0_ := mkA (Kd.R_below zk40 hb); have n1_ := mkA (Kd.R_lower ho24 (below_size zk12)); have n2_ := mkA (blk_below (g := gb136) (o := .cells #[.int .i64 ((rd_T70 l0 x32_1).f0), .int .u64 ((rd_T70 l0 x32_1).f1)] 70 (0, 0)) zk59 hb); have n3_ := mkA (below_step zk12 hb); clear HO139; clear BK136; clear HB; have HO139 := n0_; have HO142 := n1_; have BK136 := n2_; have HB := n3_; clear n0_ n1_ n2_ n3_; clear hb ho24; obtain ⟨Ao25, co25, eo25⟩ := Kd.R_slice HO142.out; subst eo25) | (go_at_call 95; (refine (plain_Put.calls _ _ ([] : List Int) _ _ y140 t143 _ ?side1 ?side2 ?side3 ?side4 A17.out).mono ?_); (case side1 => exact zk185); (case side2 => exact zk181); (case side3 => exact zk103); (case side4 => exact (Kd.R_reads' HO142.out).2.1); rintro e w26 ⟨v144, rfl, ho0, hb⟩; have n0_ := mkA (Kd.R_elder' zk40 (Kd.R_base ho0) hb); have n1_ := mkA (Kd.R_below zk88 hb); have n2_ := mkA (Kd.R_lower (Kd.R_new' ho0 (Kd.R_lt zk40)) (below_size zk12)); have n3_ := mkA (blk_below (g := gb136) (o := .cells #[.int .i64 ((rd_T70 l0 x32_1).f0), .int .u64 ((rd_T70 l0 x32_1).f1)] 70 (0, 0)) zk59 hb); have n4_ := mkA (below_step zk12 hb); clear HO139; clear HO142; clear BK136; clear HB; have HO139 := n0_; have HO142 := n1_; have HO145 := n2_; have BK136 := n3_; have HB := n4_; clear n0_ n1_ n2_ n3_ n4_; (try clear hb); (try clear hb2); (try clear hk); (try clear hi); (try clear ho0); obtain ⟨Ao28, co28, eo28⟩ := Kd.R_slice HO145.out; subst eo28) | ((with_reducible refine gate_builtin (b := .append) (xs := #[.tmp 42, .tmp 46]) rfl ?_); at_builtin; refine Kd.R_append_rows (Kd.int .u8) (w0 := w) w.heap.size rfl (.tmp 42) (.tmp 46) 22 5 (.int .u8 0) 1 rfl Try.underlying22 info5 rfl zk47 zk6 v138 y137 t143 _ _ _ (fun k_ => some k_ ≠ (.slice Ao28 t143.length co28 : Value).ownBlock) (fun _ => False) rfl rfl ?aO ?aR (fun _ _ h => h) (fun _ h => h.elim) ?aF ?aB ?aS ?aL ?_; (case aR => exact zk104); (case aB => exact zk61); (case aF => exact zk107); (case aO => exact zk111); (case aS => exact zk54); (case aL => exact zk203); intro v147 w27 ho hb hg hat; rw [← Ny146.out] at ho; have n0_ := mkA (blk_grown (g := gb136) (o := .cells #[.int .i64 ((rd_T70 l0 x32_1).f0), .int .u64 ((rd_T70 l0 x32_1).f1)] 70 (0, 0)) zk59 hg (Kd.R_ne HO139.out BK136.out zk47)); have n1_ := mkA (Kd.R_over' zk88 (Kd.R_typed zk40) zk47 hg); have n2_ := mkA (Kd.R_after (ok := (fun _ => True)) zk89 hg hat); have n3_ := mkA (hb); have n4_ := mkA (ho); clear BK136; clear HO142; clear HO145; clear HB; clear HO139; have BK136 := n0_; have HO142 := n1_; have HO145 := n2_; have HB := n3_; have HO148 := n4_; clear n0_ n1_ n2_ n3_ n4_; clear ho hb hg hat; obtain ⟨hcz29_0, hcz29_1, hfz29_0, hfz29_1⟩ := cf2 BK136.out)); try go_wp2_with (first | ((with_reducible refine gate_dst (N := 8) rfl ?_); refine box_event ?hg (N := 8) ?hd (cs := #[.int .i64 0, .int .u64 0]) (t := 70) ?hr ?_; (case hd => exact zk50); (case hg => exact zk50); (case hr => exact zk26); intro gb136 hg w19 hbox hb; have n0_ := mkA (Kd.R_below zk72 hb); have n1_ := mkA (below_step zk1 hb); have n2_ := mkA (hbox); have n3_ := mkA ((by rw [hg]; exact (below_size zk1) : w.heap.size ≤ gb136)); have n4_ := mkA ((by rw [hg]; exact (below_size zk1) : w.heap.size ≤ gb136)); clear HO_5; clear HB; have HO_5 := n0_; have HB := n1_; have BK136 := n2_; have GW136 := n3_; have GE136 := n4_; clear n0_ n1_ n2_ n3_ n4_; clear hb hbox hg; obtain ⟨hcz20_0, hcz20_1, hfz20_0, hfz20_1⟩ := cf2 BK136.out) | (at_builtin; refine Kd.R_append_zeros (Kd.int .u8) (w0 := w) w.heap.size rfl (.tmp 36) (.tmp 40) 22 3 5 (.int .u8 0) 1 rfl Try.underlying22 Try.underlying3 info5 rfl zk47 zk6 u5 x5_1 0 (ji14 : Int) (fun _ => True) rfl rfl rfl ?aF ?aO (of_decide_eq_true zk8) ?aB ?aS ?aL ?_; (case aB => exact zk61); (case aF => exact zk125); (case aO => exact zk57); (case aS => exact zk54); (case aL => exact zk202); intro v138 w21 ho hb hg hat; rw [← Ny137.out] at ho; have n0_ := mkA (blk_grown (g := gb136) (o := .cells #[.int .i64 ((rd_T70 l0 x32_1).f0), .int .u64 ((rd_T70 l0 x32_1).f1)] 70 (0, 0)) zk44 hg (Kd.R_ne HO_5.out BK136.out zk47)); have n1_ := mkA (hb); have n2_ := mkA (ho); clear BK136; clear HB; clear HO_5; have BK136 := n0_; have HB := n1_; have HO139 := n2_; clear n0_ n1_ n2_; clear ho hb hg hat; obtain ⟨hcz22_0, hcz22_1, hfz22_0, hfz22_1⟩ := cf2 BK136.out) | ((with_reducible refine gate_dst (N := 45) rfl ?_); refine Kd.R_lit (Kd.int .u64) _ 41 ?hg (N := 45) ?hd (xs := ([(rd_T70 l0 x32_1).f1] : List Int)) (inner := [.int .u64 ((rd_T70 l0 x32_1).f1)]) (ok := fun _ => True) (okp := fun _ => True) ?hr ?hp (fun _ hk => hk) trivial (Below.refl _ _) (Nat.le_refl _) zk56 ?_; (case hd => exact zk50); (case hg => exact zk50); (case hr => exact zk26); (case hp => exact zk121); intro v141 w23 ho24 hb hg_ hnew_; clear hg_ hnew_; (first | rw [← Ny140.out] at ho24 | (simp only [Int.reduceToNat] at ho24; rw [← Ny140.out] at ho24)); have n0_ := mkA (Kd.R_below zk40 hb); have n1_ := mkA (Kd.R_lower ho24 (below_size zk12)); have n2_ := mkA (blk_below (g := gb136) (o := .cells #[.int .i64 ((rd_T70 l0 x32_1).f0), .int .u64 ((rd_T70 l0 x32_1).f1)] 70 (0, 0)) zk59 hb); have n3_ := mkA (below_step zk12 hb); clear HO139; clear BK136; clear HB; have HO139 := n0_; have HO142 := n1_; have BK136 := n2_; have HB := n3_; clear n0_ n1_ n2_ n3_; clear hb ho24; obtain ⟨Ao25, co25, eo25⟩ := Kd.R_slice HO142.out; subst eo25) | (go_at_call 95; (refine (plain_Put.calls _ _ ([] : List Int) _ _ y140 t143 _ ?side1 ?side2 ?side3 ?side4 A17.out).mono ?_); (case side1 => exact zk185); (case side2 => exact zk181); (case side3 => exact zk103); (case side4 => exact (Kd.R_reads' HO142.out).2.1); rintro e w26 ⟨v144, rfl, ho0, hb⟩; have n0_ := mkA (Kd.R_elder' zk40 (Kd.R_base ho0) hb); have n1_ := mkA (Kd.R_below zk88 hb); have n2_ := mkA (Kd.R_lower (Kd.R_new' ho0 (Kd.R_lt zk40)) (below_size zk12)); have n3_ := mkA (blk_below (g := gb136) (o := .cells #[.int .i64 ((rd_T70 l0 x32_1).f0), .int .u64 ((rd_T70 l0 x32_1).f1)] 70 (0, 0)) zk59 hb); have n4_ := mkA (below_step zk12 hb); clear HO139; clear HO142; clear BK136; clear HB; have HO139 := n0_; have HO142 := n1_; have HO145 := n2_; have BK136 := n3_; have HB := n4_; clear n0_ n1_ n2_ n3_ n4_; (try clear hb); (try clear hb2); (try clear hk); (try clear hi); (try clear ho0); obtain ⟨Ao28, co28, eo28⟩ := Kd.R_slice HO145.out; subst eo28) | ((with_reducible refine gate_builtin (b := .append) (xs := #[.tmp 42, .tmp 46]) rfl ?_); at_builtin; refine Kd.R_append_rows (Kd.int .u8) (w0 := w) w.heap.size rfl (.tmp 42) (.tmp 46) 22 5 (.int .u8 0) 1 rfl Try.underlying22 info5 rfl zk47 zk6 v138 y137 t143 _ _ _ (fun k_ => some k_ ≠ (.slice Ao28 t143.length co28 : Value).ownBlock) (fun _ => False) rfl rfl ?aO ?aR (fun _ _ h => h) (fun _ h => h.elim) ?aF ?aB ?aS ?aL ?_; (case aR => exact zk104); (case aB => exact zk61); (case aF => exact zk107); (case aO => exact zk111); (case aS => exact zk54); (case aL => exact zk203); intro v147 w27 ho hb hg hat; rw [← Ny146.out] at ho; have n0_ := mkA (blk_grown (g := gb136) (o := .cells #[.int .i64 ((rd_T70 l0 x32_1).f0), .int .u64 ((rd_T70 l0 x32_1).f1)] 70 (0, 0)) zk59 hg (Kd.R_ne HO139.out BK136.out zk47)); have n1_ := mkA (Kd.R_over' zk88 (Kd.R_typed zk40) zk47 hg); have n2_ := mkA (Kd.R_after (ok := (fun _ => True)) zk89 hg hat); have n3_ := mkA (hb); have n4_ := mkA (ho); clear BK136; clear HO142; clear HO145; clear HB; clear HO139; have BK136 := n0_; have HO142 := n1_; have HO145 := n2_; have HB := n3_; have HO148 := n4_; clear n0_ n1_ n2_ n3_ n4_; clear ho hb hg hat; obtain ⟨hcz29_0, hcz29_1, hfz29_0, hfz29_1⟩ := cf2 BK136.out)))); go_roundg k1
            case measure => have := HK1.out; omega
            case rel => exact ⟨(y146), (wrap64 (((rd_T70 l0 x32_1).f0) + 1)), (wrap64 (x32_1 + 1)), zk14, zk14, H', ⟨zk150⟩, ⟨by (with_reducible repeat (first | apply Kd.R_alloc | apply Kd.R_drewN | apply Kd.R_drew)); exact Kd.R_mono HO148.out (fun _ hk => trivial)⟩, ⟨zk12⟩⟩
           ·rw [if_neg c18] at H; exact absurd H zk56
          ·rw [if_neg c16] at H; exact absurd H zk56
         ·rw [if_neg c15] at H; exact absurd H zk56
        ·exact zk229
       ·rw [if_neg c12] at H; exact absurd H zk56
      ·rw [if_neg c11] at H
       have c11b0 : decide (x32_1 < (l0.length : Int)) = false := decide_eq_false c11; clear c11; obtain rfl := Option.some.inj H; go_wp2; (repeat (go_quiet (fail); try go_wp2)); go_ret
       exact ⟨_, by first | rfl | (simp [errW_none, errW_some] <;> rfl) | (simp only [← hji3]; first | rfl | (simp [errW_none, errW_some] <;> rfl)) | (simp [*, errW_none, errW_some] <;> rfl), zk72, zk1⟩
   ·exact zk235
  ·exact zk228
 ·exact zk238
def hist_form.f (k : Nat) (l0 : List (S70)) : Option (List Int) := (hist_sparse.f k l0).bind fun t149 => (if (l0.length : Int) > 0 then ((hist_dense.f k l0).bind fun t152 => (if (t152.length : Int) < (t149.length : Int) then (some t152) else (some t149))) else (some t149))
set_option maxHeartbeats 8000000 in
set_option maxRecDepth 100000 in
theorem hist_form.calls (k : Nat) (A0 : Option Addr) (c0 : Nat) (l0 : List (S70)) (r : List Int) (w : World) (hr0 : Kd.C k70 w A0 l0.length l0) (hc0 : l0.length ≤ c0) (h : hist_form.f k l0 = some r) :
  Calls Try.prog 41 #[.slice A0 l0.length c0] w fun e w' => ∃ v0_ : Value, e = .returned (v0_) ∧ Kd.R (Kd.int .u8) 5 w' w.heap.size (fun _ => True) v0_ r ∧ Below w.heap.size w w' := by
 have HR0 := mkA hr0; have HC0 := mkA hc0; clear hr0 hc0; have HB := mkA (Below.refl w.heap.size w); have H : ((hist_sparse.f k l0).bind fun t149 => (if (l0.length : Int) > 0 then ((hist_dense.f k l0).bind fun t152 => (if (t152.length : Int) < (t149.length : Int) then (some t152) else (some t149))) else (some t149))) = some r := h; clear h; replace H := Option.bind_eq_some_iff.mp H; obtain ⟨t149, A20, H⟩ := H; replace H : (if (l0.length : Int) > 0 then ((hist_dense.f k l0).bind fun t152 => (if (t152.length : Int) < (t149.length : Int) then (some t152) else (some t149))) else (some t149)) = some r := H; have A2 := mkA A20; clear A20; by_cases c3 : (l0.length : Int) > 0
 ·rw [if_pos c3] at H
  have c3b0 : decide (0 < (l0.length : Int)) = true := decide_eq_true c3; have c3b1 : decide (0 < l0.length) = true := decide_eq_true zk6; clear c3; replace H := Option.bind_eq_some_iff.mp H; obtain ⟨t152, A40, H⟩ := H; replace H : (if (t152.length : Int) < (t149.length : Int) then (some t152) else (some t149)) = some r := H; have A4 := mkA A40; clear A40; by_cases c5 : (t152.length : Int) < (t149.length : Int)
  ·rw [if_pos c5] at H
   have c5b0 : decide ((t152.length : Int) < (t149.length : Int)) = true := decide_eq_true c5; have c5b1 : decide (t152.length < t149.length) = true := decide_eq_true (Int.ofNat_lt.mp c5); clear c5; obtain rfl := Option.some.inj H; go_enter Try.func41, Try.ntmps41; (go_wp2_with (first | ((with_reducible refine gate_callee (f := 73) rfl ?_); refine goesL_ (some 6) rfl rfl Try.func73 zk11 rfl #[.slice A0 l0.length c0] rfl zk2 ?_; (with_reducible refine (hist_sparse.calls k _ _ l0 t149 _ ?side1 ?side2 A2.out).mono ?_); (case side1 => exact zk46); (case side2 => exact HC0.out); rintro e w6 ⟨v150, rfl, ho0, hb⟩; refine ⟨_, rfl, ?_⟩; have n0_ := mkA (Kd.R_lower ho0 (below_size zk1)); have n1_ := mkA (below_step zk1 hb); clear HB; have HO151 := n0_; have HB := n1_; clear n0_ n1_; (try clear hb); (try clear hb2); (try clear hk); (try clear hi); (try clear ho0)) | ((with_reducible refine gate_callee (f := 74) rfl ?_); refine goesL_ (some 11) rfl rfl Try.func74 zk11 rfl #[.slice A0 l0.length c0] rfl zk2 ?_; (with_reducible refine (hist_dense.calls k _ _ l0 t152 _ ?side1 ?side2 A4.out).mono ?_); (case side1 => exact zk49); (case side2 => exact HC0.out); rintro e w7 ⟨v153, rfl, ho0, hb⟩; refine ⟨_, rfl, ?_⟩; have n0_ := mkA (Kd.R_elder' zk100 (Kd.R_base ho0) hb); have n1_ := mkA (Kd.R_lower (Kd.R_new' ho0 (Kd.R_lt zk100)) (below_size zk1)); have n2_ := mkA (below_step zk1 hb); clear HO151; clear HB; have HO151 := n0_; have HO154 := n1_; have HB := n2_; clear n0_ n1_ n2_; (try clear hb); (try clear hb2); (try clear hk); (try clear hi); (try clear ho0); obtain ⟨Ao8, co8, eo8⟩ := Kd.R_slice HO154.out; subst eo8; obtain ⟨Ao9, co9, eo9⟩ := Kd.R_slice HO151.out; subst eo9))); go_ret
   exact ⟨_, zk7, by (with_reducible repeat (first | apply Kd.R_alloc | apply Kd.R_drewN | apply Kd.R_drew)); exact Kd.R_mono HO154.out (fun _ hk => trivial), zk1⟩
  ·rw [if_neg c5] at H
   have c5b0 : decide ((t152.length : Int) < (t149.length : Int)) = false := decide_eq_false c5; have c5b1 : decide (t152.length < t149.length) = false := decide_eq_false (fun h => c5 (Int.ofNat_lt.mpr h)); clear c5; obtain rfl := Option.some.inj H; go_enter Try.func41, Try.ntmps41; (go_wp2_with (first | ((with_reducible refine gate_callee (f := 73) rfl ?_); refine goesL_ (some 6) rfl rfl Try.func73 zk11 rfl #[.slice A0 l0.length c0] rfl zk2 ?_; (with_reducible refine (hist_sparse.calls k _ _ l0 t149 _ ?side1 ?side2 A2.out).mono ?_); (case side1 => exact zk46); (case side2 => exact HC0.out); rintro e w10 ⟨v150, rfl, ho0, hb⟩; refine ⟨_, rfl, ?_⟩; have n0_ := mkA (Kd.R_lower ho0 (below_size zk1)); have n1_ := mkA (below_step zk1 hb); clear HB; have HO151 := n0_; have HB := n1_; clear n0_ n1_; (try clear hb); (try clear hb2); (try clear hk); (try clear hi); (try clear ho0)) | ((with_reducible refine gate_callee (f := 74) rfl ?_); refine goesL_ (some 11) rfl rfl Try.func74 zk11 rfl #[.slice A0 l0.length c0] rfl zk2 ?_; (with_reducible refine (hist_dense.calls k _ _ l0 t152 _ ?side1 ?side2 A4.out).mono ?_); (case side1 => exact zk49); (case side2 => exact HC0.out); rintro e w11 ⟨v153, rfl, ho0, hb⟩; refine ⟨_, rfl, ?_⟩; have n0_ := mkA (Kd.R_elder' zk100 (Kd.R_base ho0) hb); have n1_ := mkA (Kd.R_lower (Kd.R_new' ho0 (Kd.R_lt zk100)) (below_size zk1)); have n2_ := mkA (below_step zk1 hb); clear HO151; clear HB; have HO151 := n0_; have HO154 := n1_; have HB := n2_; clear n0_ n1_ n2_; (try clear hb); (try clear hb2); (try clear hk); (try clear hi); (try clear ho0); obtain ⟨Ao12, co12, eo12⟩ := Kd.R_slice HO154.out; subst eo12; obtain ⟨Ao13, co13, eo13⟩ := Kd.R_slice HO151.out; subst eo13))); go_ret
   exact ⟨_, zk7, by (with_reducible repeat (first | apply Kd.R_alloc | apply Kd.R_drewN | apply Kd.R_drew)); exact Kd.R_mono HO151.out (fun _ hk => trivial), zk1⟩
 ·rw [if_neg c3] at H
  have c3b0 : decide (0 < (l0.length : Int)) = false := decide_eq_false c3; have c3b1 : decide (0 < l0.length) = false := decide_eq_false zk6; clear c3; obtain rfl := Option.some.inj H; go_enter Try.func41, Try.ntmps41; (go_wp2_with (first | ((with_reducible refine gate_callee (f := 73) rfl ?_); refine goesL_ (some 6) rfl rfl Try.func73 zk11 rfl #[.slice A0 l0.length c0] rfl zk2 ?_; (with_reducible refine (hist_sparse.calls k _ _ l0 t149 _ ?side1 ?side2 A2.out).mono ?_); (case side1 => exact zk46); (case side2 => exact HC0.out); rintro e w14 ⟨v150, rfl, ho0, hb⟩; refine ⟨_, rfl, ?_⟩; have n0_ := mkA (Kd.R_lower ho0 (below_size zk1)); have n1_ := mkA (below_step zk1 hb); clear HB; have HO151 := n0_; have HB := n1_; clear n0_ n1_; (try clear hb); (try clear hb2); (try clear hk); (try clear hi); (try clear ho0)))); go_ret
  exact ⟨_, zk7, zk100, zk1⟩
end Go.Proofs.Ytplgffbfepnihaa.Hb
namespace Go.Proofs.Ytplgffbfepnihaa.Pure
open Go.RowKit Go.Proofs.YtplgffbfepnihaaW.PrintWords Go.Proofs.YtplgffbfepnihaaW.PrintLast Go.Proofs.YtplgffbfepnihaaW.PrintMore Go.Proofs.Ytplgffbfepnihaa.Hi Go.Proofs.Ytplgffbfepnihaa.Vt Go.Proofs.Ytplgffbfepnihaa.Hb
theorem chk_range {l : List S70} (h : chk l = true) : ∀ x ∈ l, 0 ≤ x.f0 ∧ x.f0 < 7424 := fun x hx => by
 have h1 := chk_cnt l 0 h zk6; have := h1.2 x hx; omega
theorem encI_two (a b : Int) : encI [a, b] = encN a.toNat ++ encN b.toNat := by simp [encI, encL]
theorem encI_one (a : Int) : encI [a] = encN a.toNat := by simp [encI, encL]
theorem plain_two (a b : Int) (ha : 0 ≤ a ∧ a < 18446744073709551616) (hb : 0 ≤ b ∧ b < 18446744073709551616) : plain_Put.f ([] : List Int) ([a, b] : List Int) = some (encN a.toNat ++ encN b.toNat) := by
 unfold plain_Put.f; rw [if_pos ⟨rfl, zk56, zk56, fun n hn => by simp at hn; rcases hn with rfl | rfl; exact ha; exact hb⟩, encI_two]
theorem plain_one (a : Int) (ha : 0 ≤ a ∧ a < 18446744073709551616) : plain_Put.f ([] : List Int) ([a] : List Int) = some (encN a.toNat) := by
 unfold plain_Put.f; rw [if_pos ⟨rfl, zk56, zk56, fun n hn => by simp at hn; subst hn; exact ha⟩, encI_one]
theorem plain_three (a b c : Int) (ha : 0 ≤ a ∧ a < 18446744073709551616) (hb : 0 ≤ b ∧ b < 18446744073709551616) (hc : 0 ≤ c ∧ c < 18446744073709551616) : plain_Put.f ([] : List Int) ([a, b, c] : List Int) = some (encN a.toNat ++ encN b.toNat ++ encN c.toNat) := by
 unfold plain_Put.f; rw [if_pos ⟨rfl, zk56, zk56, fun n hn => by simp at hn; rcases hn with rfl | rfl | rfl; exact ha; exact hb; exact hc⟩]; simp [encI, encL]
theorem gaps_len : ∀ (l : List S70) (next : Int), (∀ x ∈ l, x.f0 < 7424) → Bnum l → -1 ≤ next → (∀ x ∈ l, 0 ≤ x.f0) → (gaps next l).length ≤ 20 * l.length
 | [], _, _, _, _, _ => by simp [gaps]
 | x :: r, next, h, hn, h0, h1 => by
  have ih := gaps_len r (x.f0 + 1) (fun y hy => h y (List.mem_cons_of_mem _ hy)) hn.tail (by have := h1 x (List.mem_cons_self ..); omega) (fun y hy => h1 y (List.mem_cons_of_mem _ hy)); have a := encN_len (x.f0 - next).toNat (by have := h x (List.mem_cons_self ..); omega); have b := encN_len x.f1.toNat (by have := hn x (List.mem_cons_self ..); omega); simp only [gaps, List.length_append, List.length_cons]; omega
theorem sparse_l0 (l : List S70) (hl : l.length ≤ 7424) (hn : Bnum l) : ∀ (d n k : Nat) (next : Int) (acc : List Int), n + d = l.length → d < k → 0 ≤ next → next ≤ 7424 → chkFrom (next - 1) (l.drop n) = true → acc.length + 20 * d ≤ 1000000 →
  hist_sparse.l0 k acc next l (l.length : Int) (n : Int) = some (acc ++ gaps next (l.drop n)) := by
 intro d
 induction d with
 | zero =>
  intro n k next acc h1 hk _ _ _ _
  obtain ⟨k, rfl⟩ : ∃ m, k = m + 1 := ⟨k - 1, zk6⟩
  rw [hist_sparse.l0, if_neg zk6, List.drop_of_length_le zk6, gaps, List.append_nil]
 | succ d ih =>
  intro n k next acc h1 hk h0 h7 hc ha
  obtain ⟨k, rfl⟩ : ∃ m, k = m + 1 := ⟨k - 1, zk6⟩
  have hx : rd_T70 l (n : Int) ∈ l := List.mem_of_mem_drop (i := n) zk195; have hd := rd_drop (l := l) (n := n) zk6; rw [hd] at hc ⊢; obtain ⟨x, hxe⟩ : ∃ x, rd_T70 l (n : Int) = x := ⟨_, rfl⟩
  rw [hist_sparse.l0, if_pos zk6, if_pos zk6, if_pos zk6, hxe]; rw [hxe] at hc hx; obtain ⟨c1, c2, c3, c4⟩ := chk_head hc; have hf := hn x hx; rw [w64 (n := x.f0 - next) zk6 zk6, wrapU_in zk6 zk6, plain_two _ _ zk6 hf]; have la := encN_len (x.f0 - next).toNat zk6; have lb := encN_len x.f1.toNat zk6; simp only [Option.bind_some]; rw [if_pos zk164, w64 (n := x.f0 + 1) zk6 zk6, w64 (n := (n : Int) + 1) zk6 zk6, show (n : Int) + 1 = ((n + 1 : Nat) : Int) by omega]; rw [ih (n + 1) k (x.f0 + 1) _ zk6 zk6 zk6 zk6 zk186 zk147, gaps]; simp
theorem sparse_eq (l : List S70) (hc : chk l = true) (hn : Bnum l) (k : Nat) (hk : l.length < k) : hist_sparse.f k l = some (sparseB l) := by
 have hl := chk_len hc; have le := encN_len l.length zk6; have lz := encN_len 0 zk6; unfold hist_sparse.f; rw [wrapU_in zk6 zk6, plain_two _ _ zk6 zk6]; simp only [Option.bind_some]; have h := sparse_l0 l hl hn l.length 0 k 0 (encN 0 ++ encN l.length) zk6 hk zk6 zk6 hc zk147; simp only [Int.toNat_natCast, List.drop_zero] at h ⊢; exact h
def dns (next : Int) : List S70 → List Int
 | [] => []
 | x :: r => List.replicate (x.f0 - next).toNat 0 ++ encN x.f1.toNat ++ dns (x.f0 + 1) r
theorem spots_gap (x : S70) (r : List S70) (m : Nat) : ∀ (d : Nat) (next : Int), x.f0 = next + d → spots (d + 1 + m) next (x :: r) = List.replicate d 0 ++ (encN x.f1.toNat ++ spots m (x.f0 + 1) r)
 | 0, next, h => by rw [show 0 + 1 + m = m + 1 by omega, spots, if_pos zk6, show next + 1 = x.f0 + 1 by omega]; rfl
 | d + 1, next, h => by
  rw [show d + 1 + 1 + m = (d + 1 + m) + 1 by omega, spots, if_neg zk6, spots_gap x r m d (next + 1) zk6]; rfl
theorem spots_dns : ∀ (l : List S70) (next : Int), chkFrom (next - 1) l = true → spots (cnt next l) next l = dns next l
 | [], _, _ => rfl
 | x :: r, next, h => by
  obtain ⟨c1, _, _, c4⟩ := chk_head h; rw [cnt, spots_gap x r _ (x.f0 - next).toNat next zk6, spots_dns r (x.f0 + 1) zk186, dns, List.append_assoc]
theorem dense_l0 (l : List S70) (hl : l.length ≤ 7424) (hn : Bnum l) : ∀ (d n k : Nat) (next : Int) (acc : List Int), n + d = l.length → d < k → 0 ≤ next → next ≤ 7424 → chkFrom (next - 1) (l.drop n) = true → acc.length + 20 * d ≤ 1000000 + next →
  hist_dense.l0 k acc next l (l.length : Int) (n : Int) = some (acc ++ dns next (l.drop n)) := by
 intro d
 induction d with
 | zero =>
  intro n k next acc h1 hk _ _ _ _
  obtain ⟨k, rfl⟩ : ∃ m, k = m + 1 := ⟨k - 1, zk6⟩
  rw [hist_dense.l0, if_neg zk6, List.drop_of_length_le zk6, dns, List.append_nil]
 | succ d ih =>
  intro n k next acc h1 hk h0 h7 hc ha
  obtain ⟨k, rfl⟩ : ∃ m, k = m + 1 := ⟨k - 1, zk6⟩
  have hx : rd_T70 l (n : Int) ∈ l := List.mem_of_mem_drop (i := n) zk195; have hd := rd_drop (l := l) (n := n) zk6; rw [hd] at hc ⊢; obtain ⟨x, hxe⟩ : ∃ x, rd_T70 l (n : Int) = x := ⟨_, rfl⟩
  rw [hist_dense.l0, if_pos zk6, if_pos zk6, if_pos zk6, hxe]; rw [hxe] at hc hx; obtain ⟨c1, c2, c3, c4⟩ := chk_head hc; have hf := hn x hx; have lb := encN_len x.f1.toNat zk6; rw [w64 (n := x.f0 - next) zk6 zk6, if_pos zk6, if_pos zk6]; simp only [Option.bind_some]; rw [plain_one _ hf]; simp only [Option.bind_some]; rw [if_pos (by simp only [List.length_append, List.length_replicate]; omega), w64 (n := x.f0 + 1) zk6 zk6, w64 (n := (n : Int) + 1) zk6 zk6, show (n : Int) + 1 = ((n + 1 : Nat) : Int) by omega]; rw [ih (n + 1) k (x.f0 + 1) _ zk6 zk6 zk6 zk6 zk186 (by simp only [List.length_append, List.length_replicate]; omega), dns]; simp
theorem dense_eq (l : List S70) (hc : chk l = true) (hn : Bnum l) (hne : l.length ≠ 0) (k : Nat) (hk : l.length < k) : hist_dense.f k l = some (denseB l) := by
 cases l with
 | nil => simp at hne
 | cons x r =>
  have hl := chk_len hc; obtain ⟨f0, f1, f2, f3⟩ := chk_first hc; have hlast := rd_last (x :: r) x.f0 f2 zk56; have hpos : 0 < (x :: r).length := zk56
  unfold hist_dense.f; rw [if_pos zk6, w64 (n := (((x :: r).length : Nat) : Int) - 1) zk6 zk6, if_pos zk6, if_pos zk6, rd_first]; rw [show (rd_T70 (x :: r) (((x :: r).length : Int) - 1)).f0 = x.f0 + (cnt x.f0 (x :: r) : Int) - 1 by omega]; obtain ⟨m, hm⟩ : ∃ m, cnt x.f0 (x :: r) = m := ⟨_, rfl⟩
  rw [hm] at f3 ⊢; rw [w64 (n := x.f0 + (m : Int) - 1 - x.f0) zk6 zk6, w64 (n := x.f0 + (m : Int) - 1 - x.f0 + 1) zk6 zk6, wrapU_in (x := x.f0) zk6 zk6, wrapU_in (x := x.f0 + (m : Int) - 1 - x.f0 + 1) zk6 zk6, plain_three _ _ _ zk6 zk6 zk6]; simp only [Option.bind_some]; have l1 := encN_len (1 : Int).toNat zk47; have l2 := encN_len x.f0.toNat zk6; have l3 := encN_len (x.f0 + (m : Int) - 1 - x.f0 + 1).toNat zk6; have h := dense_l0 (x :: r) hl hn (x :: r).length 0 k x.f0 (encN (1 : Int).toNat ++ encN x.f0.toNat ++ encN (x.f0 + (m : Int) - 1 - x.f0 + 1).toNat) zk6 hk zk6 zk6 f2 zk147; rw [List.drop_zero] at h; rw [show ((0 : Nat) : Int) = 0 from rfl] at h; rw [h, denseB, rd_first, hm, ← spots_dns (x :: r) x.f0 f2, hm, show (x.f0 + (m : Int) - 1 - x.f0 + 1).toNat = m by omega]; rfl
theorem form_eq (l : List S70) (hc : chk l = true) (hn : Bnum l) (k : Nat) (hk : l.length < k) : hist_form.f k l = some (formB l) := by
 unfold hist_form.f formB; rw [sparse_eq l hc hn k hk]; simp only [Option.bind_some]; by_cases h : l.length = 0
 ·rw [if_neg zk6, if_pos h]
 ·rw [if_pos zk6, dense_eq l hc hn h k hk, if_neg h]
  simp only [Option.bind_some]; by_cases h2 : (denseB l).length < (sparseB l).length
  ·rw [if_pos zk6, if_pos h2]
  ·rw [if_neg zk6, if_neg h2]
theorem sparseB_len {l : List S70} (hc : chk l = true) (hn : Bnum l) : (sparseB l).length ≤ 20 * l.length + 20 := by
 have hl := chk_len hc; have le := encN_len l.length zk6; have lz := encN_len 0 zk6; have := gaps_len l 0 (fun x hx => (chk_range hc x hx).2) hn zk6 (fun x hx => (chk_range hc x hx).1); simp only [sparseB, List.length_append]; omega
theorem formB_len {l : List S70} (hc : chk l = true) (hn : Bnum l) : (formB l).length ≤ 20 * l.length + 20 := by
 have := sparseB_len hc hn; unfold formB; split
 ·exact this
 ·split
  ·omega
  ·exact this
theorem rput_one (a : Int) (ha : 0 ≤ a ∧ a < 18446744073709551616) : varveref04_Put.f a = some (encN a.toNat) := by unfold varveref04_Put.f; rw [if_pos ha]
theorem refSparse_l0 (l : List S70) (hl : l.length ≤ 7424) (hn : Bnum l) : ∀ (d n k : Nat) (acc : List Int), n + d = l.length → d < k → -1 ≤ before l n → before l n < 7424 → chkFrom (before l n) (l.drop n) = true → acc.length + 20 * d ≤ 1000000 →
  varveref07_sparse.l0 k l acc (n : Int) = some (acc ++ gaps (before l n + 1) (l.drop n)) := by
 intro d
 induction d with
 | zero =>
  intro n k acc h1 hk _ _ _ _; obtain ⟨k, rfl⟩ : ∃ m, k = m + 1 := ⟨k - 1, zk6⟩
  rw [varveref07_sparse.l0, if_neg zk6, List.drop_of_length_le zk6, gaps, List.append_nil]
 | succ d ih =>
  intro n k acc h1 hk h0 h7 hc ha; obtain ⟨k, rfl⟩ : ∃ m, k = m + 1 := ⟨k - 1, zk6⟩
  have hx : rd_T70 l (n : Int) ∈ l := List.mem_of_mem_drop (i := n) zk195; have hd := rd_drop (l := l) (n := n) zk6; have hb1 : before l (n + 1) = (rd_T70 l (n : Int)).f0 := by unfold before; rw [if_neg zk6, Nat.add_sub_cancel]
  rw [hd] at hc ⊢; obtain ⟨x, hxe⟩ : ∃ x, rd_T70 l (n : Int) = x := ⟨_, rfl⟩
  rw [hxe] at hc hx hb1; obtain ⟨c1, c2, c3, c4⟩ := chk_head hc; have hf := hn x hx; have la := encN_len (x.f0 - (before l n + 1)).toNat zk6; have lb := encN_len x.f1.toNat zk6
  have fin : ∀ d' : Int, d' = x.f0 - (before l n + 1) → ((varveref04_Put.f d').bind fun t134 => (if acc.length + t134.length < 140737488355328 then ((some (acc ++ t134 : List Int)).bind fun y137 => ((varveref04_Put.f x.f1).bind fun t141 => (if y137.length + t141.length < 140737488355328 then (varveref07_sparse.l0 k l (y137 ++ t141) (wrap64 ((n : Int) + 1))) else (none)))) else (none))) =
    some (acc ++ gaps (before l n + 1) (x :: l.drop (n + 1))) := by
   intro d' hd'; subst hd'; rw [rput_one _ zk6, rput_one _ hf]; simp only [Option.bind_some]; rw [if_pos zk6, if_pos zk164, w64 (n := (n : Int) + 1) zk6 zk6, show (n : Int) + 1 = ((n + 1 : Nat) : Int) by omega]; rw [ih (n + 1) k _ zk6 zk6 zk6 zk6 (by rw [hb1]; exact c4) zk147, hb1, gaps]; simp
  rw [varveref07_sparse.l0, if_pos zk6, if_pos zk6, hxe]; by_cases c0 : n = 0
  ·subst c0; rw [if_neg zk6, wrapU_in zk6 zk6]; exact fin _ (by unfold before; simp)
  ·have hbe : (rd_T70 l ((n : Int) - 1)).f0 = before l n := by
    unfold before; rw [if_neg c0, show (n : Int) - 1 = ((n - 1 : Nat) : Int) by omega]
   rw [if_pos zk6, w64 (n := (n : Int) - 1) zk6 zk6, if_pos zk6, if_pos zk6, hbe]; rw [w64 (n := x.f0 - before l n) zk6 zk6, w64 (n := x.f0 - before l n - 1) zk6 zk6, wrapU_in zk6 zk6]; exact fin _ zk6
theorem refSparse_eq (l : List S70) (hc : chk l = true) (hn : Bnum l) (k : Nat) (hk : l.length < k) : varveref07_sparse.f k l = some (sparseB l) := by
 have hl := chk_len hc; have le := encN_len l.length zk6; have le2 := encN_len (l.length : Int).toNat zk6; unfold varveref07_sparse.f; rw [Option.bind_some]; rw [wrapU_in zk6 zk6, rput_one _ zk6]; simp only [Option.bind_some]; rw [if_pos (by simp only [List.length_singleton]; omega)]; have h := refSparse_l0 l hl hn l.length 0 k ([0] ++ encN (l.length : Int).toNat) zk6 hk (by rw [show before l 0 = -1 by unfold before; rw [if_pos rfl]]; omega) (by rw [show before l 0 = -1 by unfold before; rw [if_pos rfl]]; omega) (by rw [show before l 0 = -1 by unfold before; rw [if_pos rfl], List.drop_zero]; exact hc) zk146; rw [show ((0 : Nat) : Int) = 0 from rfl] at h; have hb : before l 0 + 1 = 0 := by unfold before; rw [if_pos rfl]; rfl
 rw [hb, List.drop_zero, Int.toNat_natCast] at h; rw [Int.toNat_natCast]; refine h.trans ?_; have e0 : encN 0 = [0] := by rw [encN_low zk6]; rfl
 rw [sparseB, e0]
theorem refDense_l0 (l : List S70) (hl : l.length ≤ 7424) (hn : Bnum l) (fr m : Nat) (hm : fr + m ≤ 7424) : ∀ (d i j k : Nat) (acc : List Int), i + d = m → d < k → chkFrom ((fr : Int) + i - 1) (l.drop j) = true → cnt ((fr : Int) + i) (l.drop j) = d → acc.length + 20 * d ≤ 1000000 →
  varveref07_dense.l0 k l (fr : Int) (m : Int) acc (j : Int) (i : Int) = some (acc ++ spots d ((fr : Int) + i) (l.drop j)) := by
 intro d
 induction d with
 | zero =>
  intro i j k acc h1 hk _ _ _; obtain ⟨k, rfl⟩ : ∃ m, k = m + 1 := ⟨k - 1, zk6⟩
  rw [varveref07_dense.l0, if_neg zk6, spots, List.append_nil]
 | succ d ih =>
  intro i j k acc h1 hk hc hd ha; obtain ⟨k, rfl⟩ : ∃ m, k = m + 1 := ⟨k - 1, zk6⟩
  have hj : j < l.length := by
   rcases Nat.lt_or_ge j l.length with c | c
   ·exact c
   ·rw [List.drop_of_length_le c] at hd; simp [cnt] at hd
  have hx : rd_T70 l (j : Int) ∈ l := List.mem_of_mem_drop (i := j) zk195; have hdr := rd_drop (l := l) (n := j) zk6; have ihs := ih (i + 1) j k (acc ++ [0]) zk6 zk6; have ihp := fun t => ih (i + 1) (j + 1) k (acc ++ t) zk6 zk6; rw [hdr] at hc hd ihs ⊢; obtain ⟨x, hxe⟩ : ∃ x, rd_T70 l (j : Int) = x := ⟨_, rfl⟩
  rw [varveref07_dense.l0, if_pos zk6, if_pos zk6, if_pos zk6, hxe, w64 (n := (fr : Int) + i) zk6 zk6]; rw [hxe] at hc hx hd ihs; obtain ⟨c1, c2, c3, c4⟩ := chk_head hc; have hf := hn x hx; rw [cnt] at hd; have ei : (fr : Int) + ((i + 1 : Nat) : Int) = (fr : Int) + i + 1 := zk6
  rw [ei] at ihs; by_cases hq : x.f0 = (fr : Int) + i
  ·have lb := encN_len x.f1.toNat zk6; rw [if_pos hq, rput_one _ hf]; simp only [Option.bind_some]; have h := ihp (encN x.f1.toNat) (by rw [ei, show (fr : Int) + i + 1 - 1 = x.f0 by omega]; exact c4) (by rw [ei, show (fr : Int) + i + 1 = x.f0 + 1 by omega]; omega) zk147; rw [if_pos zk6, w64 (n := (j : Int) + 1) zk6 zk6, w64 (n := (i : Int) + 1) zk6 zk6, show (j : Int) + 1 = ((j + 1 : Nat) : Int) by omega, show (i : Int) + 1 = ((i + 1 : Nat) : Int) by omega, h, spots, if_pos hq, ei]; simp
  ·rw [if_neg hq, if_pos zk6, w64 (n := (i : Int) + 1) zk6 zk6, show (i : Int) + 1 = ((i + 1 : Nat) : Int) by omega]
   have hc' : chkFrom ((fr : Int) + i + 1 - 1) (x :: l.drop (j + 1)) = true := by
    simp only [chkFrom, Bool.and_eq_true, decide_eq_true_eq, Bool.not_eq_true', beq_eq_false_iff_ne]; exact ⟨zk6, c2, c3, c4⟩
   rw [ihs hc' (by rw [cnt]; omega) zk146, spots, if_neg hq]; simp
theorem refDense_eq (l : List S70) (hc : chk l = true) (hn : Bnum l) (hne : l.length ≠ 0) (k : Nat) (hk : 7430 < k) : varveref07_dense.f k l = some (denseB l) := by
 cases l with
 | nil => simp at hne
 | cons x r =>
  have hl := chk_len hc; obtain ⟨f0, f1, f2, f3⟩ := chk_first hc; have hcn := (chk_cnt _ _ f2 zk6).1; have hlast := rd_last (x :: r) x.f0 f2 zk56; have hpos : 0 < (x :: r).length := zk56
  unfold varveref07_dense.f; rw [if_neg zk6, refCheck_eq _ zk6 k zk6, hc]; simp only [Option.bind_some]; obtain ⟨k, rfl⟩ : ∃ m, k = m + 1 := ⟨k - 1, zk6⟩
  rw [varveref07_dense.j0, if_neg zk56, if_pos zk6, w64 (n := (((x :: r).length : Nat) : Int) - 1) zk6 zk6, if_pos zk6, if_pos zk6, rd_first]; rw [show (rd_T70 (x :: r) (((x :: r).length : Int) - 1)).f0 = x.f0 + (cnt x.f0 (x :: r) : Int) - 1 by omega]; obtain ⟨m, hm⟩ : ∃ m, cnt x.f0 (x :: r) = m := ⟨_, rfl⟩
  obtain ⟨a, hae⟩ : ∃ a : Nat, x.f0 = (a : Int) := ⟨x.f0.toNat, zk6⟩
  rw [hm] at f3 hcn ⊢; simp only [Option.bind_some]; rw [w64 (n := x.f0 + (m : Int) - 1 - x.f0) zk6 zk6, w64 (n := x.f0 + (m : Int) - 1 - x.f0 + 1) zk6 zk6, wrapU_in (x := x.f0) zk6 zk6, wrapU_in (x := x.f0 + (m : Int) - 1 - x.f0 + 1) zk6 zk6, rput_one _ zk6, rput_one _ zk6, show x.f0 + (m : Int) - 1 - x.f0 + 1 = (m : Int) by omega]; simp only [Option.bind_some]; have l2 := encN_len x.f0.toNat zk6; have l3 := encN_len (m : Int).toNat zk6; rw [if_pos zk146, if_pos zk146]; have h := refDense_l0 (x :: r) hl hn a m zk6 m 0 0 k ([1] ++ encN x.f0.toNat ++ encN (m : Int).toNat) zk6 zk6 (by rw [← hae, show x.f0 + ((0 : Nat) : Int) - 1 = x.f0 - 1 by omega]; exact f2) (by rw [← hae, show x.f0 + ((0 : Nat) : Int) = x.f0 by omega]; exact hm) zk146; rw [List.drop_zero, ← hae, show x.f0 + ((0 : Nat) : Int) = x.f0 by omega] at h; rw [show ((0 : Nat) : Int) = 0 from rfl] at h; rw [h, denseB, rd_first, hm, encN_low (show 1 < 128 by omega), Int.toNat_natCast]; rfl
theorem refPut_eq (l : List S70) (hc : chk l = true) (hn : Bnum l) (k : Nat) (hk : 7430 < k) : varveref07_Put.f k l = some (formB l) := by
 have hl := chk_len hc; unfold varveref07_Put.f formB; rw [refSparse_eq l hc hn k zk6]; simp only [Option.bind_some]; by_cases h : l.length = 0
 ·obtain rfl : l = [] := List.eq_nil_of_length_eq_zero h
  have e : varveref07_dense.f k [] = some [] := by
   obtain ⟨k, rfl⟩ : ∃ m, k = m + 1 := ⟨k - 1, zk6⟩
   unfold varveref07_dense.f; rw [if_pos (show ((([] : List S70).length : Nat) : Int) = 0 from rfl), varveref07_dense.j0, if_pos rfl]
  rw [e]; simp
 ·rw [refDense_eq l hc hn h k hk, if_neg h]
  simp only [Option.bind_some]
  have hp : 0 < (denseB l).length := by
   have := encN_pos 1; simp only [denseB, List.length_append]; omega
  rw [if_pos zk6]; by_cases h2 : (denseB l).length < (sparseB l).length
  ·rw [if_pos zk6, if_pos h2]
  ·rw [if_neg zk6, if_neg h2]
end Go.Proofs.Ytplgffbfepnihaa.Pure
namespace Go.Proofs.Ytplgffbfepnihaa
open Go.RowKit Go.Maps Go.Deep Go.Proofs.YtplgffbfepnihaaW.PrintWords Go.Proofs.YtplgffbfepnihaaW.PrintLast Go.Proofs.YtplgffbfepnihaaW.PrintMore Go.Proofs.Ytplgffbfepnihaa.Hi Go.Proofs.Ytplgffbfepnihaa.Vt Go.Proofs.Ytplgffbfepnihaa.Hb Go.Proofs.Ytplgffbfepnihaa.Pure
namespace Pure
def getH (b : List Int) (a : Int) : Option (List S70 × Nat) := match readH b a with
 | none => none
 | some (l, q) => if chk l = true ∧ formB l = (b.take q).drop a.toNat then some (l, q) else none
theorem getH_ok {b : List Int} (hb : WBy b) {a : Int} {l : List S70} {q : Nat} (h : getH b a = some (l, q)) : chk l = true ∧ Bnum l ∧ 0 ≤ a ∧ a ≤ q ∧ q ≤ b.length ∧ formB l = (b.take q).drop a.toNat := by
 unfold getH at h; split at h
 ·cases h
 case h_2 l' q' e =>
  split at h
  case isTrue hc => cases h; have := readH_ok hb e; exact ⟨hc.1, fun x hx => (this.2.2.2.2 x hx).2, this.1, this.2.1, this.2.2.1, hc.2⟩
  case isFalse => cases h
theorem cut_parts (b : List Int) (a q : Nat) (h : a ≤ q) (hq : q ≤ b.length) : b = b.take a ++ (b.take q).drop a ++ b.drop q := by
 have h1 : (b.take q).take a = b.take a := by rw [List.take_take, Nat.min_eq_left h]
 rw [← h1, List.take_append_drop, List.take_append_drop]
theorem getH_of {b : List Int} {a : Int} {l : List S70} {q : Nat} (hc : chk l = true) (hn : Bnum l) (h0 : 0 ≤ a) (h1 : a ≤ q) (h2 : q ≤ b.length) (h : formB l = (b.take q).drop a.toNat) : getH b a = some (l, q) := by
 obtain ⟨n, rfl⟩ := Int.eq_ofNat_of_zero_le h0; rw [Int.toNat_natCast] at h; have hp := cut_parts b n q zk6 h2; rw [← h] at hp; have hl : (b.take n).length = n := zk161
 have e := read_enc l hc hn (b.take n) (b.drop q) b hp; have hq : (b.take n ++ formB l).length = q := by rw [h, List.length_append, hl, List.length_drop, List.length_take]; omega
 rw [hl, hq] at e; unfold getH; rw [e]; simp only; rw [Int.toNat_natCast, if_pos ⟨hc, h⟩]
end Pure
theorem cut_c {W : World} {A : Option Addr} {c : Nat} {b : List Int} (hC : Kd.C (Kd.int .u8) W A b.length b) (hc : b.length ≤ c) (a : Int) (q : Nat) (h0 : 0 ≤ a) (h1 : a ≤ q) (h2 : q ≤ b.length) :
  ∃ A' c', ((b.take q).drop a.toNat).length ≤ c' ∧ (∀ W : World, (Instr.slice 22 (.slice A b.length c) (some (.int .i64 a)) (some (.int .i64 (q : Int))) none).run Try.prog W = .ok (.slice A' ((b.take q).drop a.toNat).length c') W) ∧ Kd.C (Kd.int .u8) W A' ((b.take q).drop a.toNat).length ((b.take q).drop a.toNat) := by
 obtain ⟨i, hi, hzz⟩ := Option.map_eq_some_iff.1 info8; simp only [Prod.mk.injEq] at hzz; have hl : (b.take q).length = q := zk161
 have hd : ((b.take q).drop a.toNat).length = q - a.toNat := by rw [List.length_drop, hl]
 refine ⟨_, c - a.toNat, by rw [hd]; omega, fun W' => ?_, (Kd.C_drop (Kd.C_take hC h2) (m := a.toNat) zk6 (c := c) zk6)⟩; have := cut_mid 22 5 .i64 .i64 Try.underlying22 hi 1 hzz.2.1 A b.length c a (q : Int) h0 h1 zk6 hc W'; rw [hd]; exact this
set_option maxHeartbeats 8000000 in
set_option maxRecDepth 100000 in
theorem get_any {A : Option Addr} {c : Nat} {b : List Int} (hb : WBy b) (a : Int) {w : World} (hC : Kd.C (Kd.int .u8) w A b.length b) (hc : b.length ≤ c) :
  Calls Try.prog 9 #[.slice A b.length c, .int .i64 a] w (ReadPost (getH b a) w) := by
 have RD := Lib.hid (read_any hb a hC hc)
 cases hr : readH b a with
 | none =>
  have HN := Lib.hid (show getH b a = none by unfold getH; rw [hr]); rw [hr] at RD; clear hr hb hC hc; go_enter Try.func9, Try.ntmps9; (go_wp2_with (go_at_call 38; (with_reducible refine RD.out.mono ?_); rintro e w1 ⟨hb1, -, h2⟩; obtain rfl := h2 rfl; have HB1 := Lib.hid hb1; clear hb1 h2 RD)); refine wp_region_noPanic ?_; refine start_ (n := 17) (S := fun w' => True) (ds := []) #[false, false, false, false, false, false, false, false, false, false, false, false, false, false, false, false, false] zk11 rfl rfl trivial (fun hHeld => ?_); refine pure_ (i := 0) (N := some 17) (v := ?_) (a' := ?_) #[true, false, false, false, false, false, false, false, false, false, false, false, false, false, false, false, false] rfl rfl zk11 (fun _ _ _ h => h) (Or.inl ⟨zk50, ?_⟩) ?_ ?_; rotate_left
  ·exact zk207
  rotate_left
  ·exact zk206
  refine pure_ (i := 1) (N := some 18) (v := ?_) (a' := ?_) #[true, true, false, false, false, false, false, false, false, false, false, false, false, false, false, false, false] rfl rfl zk11 (fun _ _ _ h => h) (Or.inl ⟨zk50, ?_⟩) ?_ ?_; rotate_left
  ·exact zk207
  rotate_left
  ·exact zk206
  refine pure_ (i := 2) (N := some 19) (v := ?_) (a' := ?_) #[true, true, true, false, false, false, false, false, false, false, false, false, false, false, false, false, false] rfl rfl zk11 (fun _ _ _ h => h) (Or.inl ⟨zk50, ?_⟩) ?_ ?_; rotate_left
  ·exact zk207
  rotate_left
  ·exact zk206
  refine pure_ (i := 3) (N := some 20) (v := undef) (a' := ?_) #[true, true, true, true, false, false, false, false, false, false, false, false, false, false, false, false, false] rfl rfl zk11 (fun _ _ _ h => h) (Or.inr ⟨zk50, rfl⟩) ?_ ?_; rotate_left
  ·exact zk206
  refine pure_ (i := 4) (N := some 21) (v := undef) (a' := ?_) #[true, true, true, true, true, false, false, false, false, false, false, false, false, false, false, false, false] rfl rfl zk11 (fun _ _ _ h => h) (Or.inr ⟨zk50, rfl⟩) ?_ ?_; rotate_left
  ·exact zk206
  refine pure_ (i := 5) (N := some 22) (v := undef) (a' := ?_) #[true, true, true, true, true, true, false, false, false, false, false, false, false, false, false, false, false] rfl rfl zk11 (fun _ _ _ h => h) (Or.inr ⟨zk50, rfl⟩) ?_ ?_; rotate_left
  ·exact zk206
  refine pure_ (i := 6) (N := some 23) (v := ?_) (a' := ?_) #[true, true, true, true, true, true, true, false, false, false, false, false, false, false, false, false, false] rfl rfl zk11 (fun _ _ _ h => h) (Or.inl ⟨zk50, ?_⟩) ?_ ?_; rotate_left
  ·exact zk207
  rotate_left
  ·exact zk206
  refine pure_ (i := 7) (N := some 24) (v := ?_) (a' := ?_) #[true, true, true, true, true, true, true, true, false, false, false, false, false, false, false, false, false] rfl rfl zk11 (fun _ _ _ h => h) (Or.inl ⟨zk50, ?_⟩) ?_ ?_; rotate_left
  ·exact zk207
  rotate_left
  ·exact zk206
  refine pure_ (i := 8) (N := some 25) (v := undef) (a' := ?_) #[true, true, true, true, true, true, true, true, true, false, false, false, false, false, false, false, false] rfl rfl zk11 (fun _ _ _ h => h) (Or.inr ⟨zk50, rfl⟩) ?_ ?_; rotate_left
  ·exact zk206
  refine pure_ (i := 9) (N := some 26) (v := undef) (a' := ?_) #[true, true, true, true, true, true, true, true, true, true, false, false, false, false, false, false, false] rfl rfl zk11 (fun _ _ _ h => h) (Or.inr ⟨zk50, rfl⟩) ?_ ?_; rotate_left
  ·exact zk206
  refine pure_ (i := 10) (N := some 27) (v := undef) (a' := ?_) #[true, true, true, true, true, true, true, true, true, true, true, false, false, false, false, false, false] rfl rfl zk11 (fun _ _ _ h => h) (Or.inr ⟨zk50, rfl⟩) ?_ ?_; rotate_left
  ·exact zk206
  refine pure_ (i := 11) (N := some 28) (v := undef) (a' := ?_) #[true, true, true, true, true, true, true, true, true, true, true, true, false, false, false, false, false] rfl rfl zk11 (fun _ _ _ h => h) (Or.inr ⟨zk50, rfl⟩) ?_ ?_; rotate_left
  ·exact zk206
  refine pure_ (i := 12) (N := some 29) (v := undef) (a' := ?_) #[true, true, true, true, true, true, true, true, true, true, true, true, true, false, false, false, false] rfl rfl zk11 (fun _ _ _ h => h) (Or.inr ⟨zk50, rfl⟩) ?_ ?_; rotate_left
  ·exact zk206
  refine pure_ (i := 13) (N := some 30) (v := undef) (a' := ?_) #[true, true, true, true, true, true, true, true, true, true, true, true, true, true, false, false, false] rfl rfl zk11 (fun _ _ _ h => h) (Or.inr ⟨zk50, rfl⟩) ?_ ?_; rotate_left
  ·exact zk206
  refine pure_ (i := 14) (N := some 31) (v := undef) (a' := ?_) #[true, true, true, true, true, true, true, true, true, true, true, true, true, true, true, false, false] rfl rfl zk11 (fun _ _ _ h => h) (Or.inr ⟨zk50, rfl⟩) ?_ ?_; rotate_left
  ·exact zk206
  refine pure_ (i := 15) (N := some 32) (v := undef) (a' := ?_) #[true, true, true, true, true, true, true, true, true, true, true, true, true, true, true, true, false] rfl rfl zk11 (fun _ _ _ h => h) (Or.inr ⟨zk50, rfl⟩) ?_ ?_; rotate_left
  ·exact zk206
  refine pure_ (i := 16) (N := some 33) (v := ?_) (a' := ?_) #[true, true, true, true, true, true, true, true, true, true, true, true, true, true, true, true, true] rfl rfl zk11 (fun _ _ _ h => h) (Or.inl ⟨zk50, ?_⟩) ?_ ?_; rotate_left
  ·exact zk207
  rotate_left
  ·exact zk206
  refine done_ zk11 ?_; refine NoPanic.normal ?_; clear hHeld; go_wp2; go_ret3
  exact ReadPost.no HN.out (below_drew HB1.out)
 | some x =>
  obtain ⟨l, q⟩ := x; obtain ⟨a0, aq, ql, l7, hm⟩ := readH_ok hb hr; have hn : Bnum l := fun x hx => (hm x hx).2; rw [hr] at RD; have CK := Lib.hid (fun W A1 c1 (h1 : Kd.C k70 W A1 l.length l) (h2 : l.length ≤ c1) => hist_Check.calls (l.length + 1) A1 c1 l (chk l) W h1 h2 (Check_eq l zk6 _ zk6))
  cases hk : chk l with
  | false =>
   have HN := Lib.hid (show getH b a = none by unfold getH; rw [hr]; simp only; rw [if_neg (by rw [hk]; simp)]); have HK := Lib.hid hk; clear hr hb hC hc hn hm hk a0 aq ql l7; go_enter Try.func9, Try.ntmps9; (go_wp2_with (go_at_call 38; (with_reducible refine RD.out.mono ?_); rintro e w1 ⟨hb1, h1, -⟩; obtain ⟨v1, rfl, hR⟩ := h1 l q rfl; obtain ⟨A1, c1, rfl, lc1, hC1⟩ := Kd.R_reads hR; have HR := Lib.hid hR; have HB1 := Lib.hid hb1; have HC1 := Lib.hid hC1; have LC1 := Lib.hid lc1; clear hb1 h1 hR hC1 lc1 RD)); refine wp_region_noPanic ?_; refine start_ (n := 17) (S := fun w' => True) (ds := []) #[false, false, false, false, false, false, false, false, false, false, false, false, false, false, false, false, false] zk11 rfl rfl trivial (fun hHeld => ?_); refine pure_ (i := 0) (N := some 17) (v := ?_) (a' := ?_) #[true, false, false, false, false, false, false, false, false, false, false, false, false, false, false, false, false] rfl rfl zk11 (fun _ _ _ h => h) (Or.inl ⟨zk50, ?_⟩) ?_ ?_; rotate_left
   ·exact zk207
   rotate_left
   ·exact zk206
   refine pure_ (i := 1) (N := some 18) (v := ?_) (a' := ?_) #[true, true, false, false, false, false, false, false, false, false, false, false, false, false, false, false, false] rfl rfl zk11 (fun _ _ _ h => h) (Or.inl ⟨zk50, ?_⟩) ?_ ?_; rotate_left
   ·exact zk207
   rotate_left
   ·exact zk206
   refine pure_ (i := 2) (N := some 19) (v := ?_) (a' := ?_) #[true, true, true, false, false, false, false, false, false, false, false, false, false, false, false, false, false] rfl rfl zk11 (fun _ _ _ h => h) (Or.inl ⟨zk50, ?_⟩) ?_ ?_; rotate_left
   ·exact zk207
   rotate_left
   ·exact zk206
   refine pure_ (i := 3) (N := some 20) (v := ?_) (a' := ?_) #[true, true, true, true, false, false, false, false, false, false, false, false, false, false, false, false, false] rfl rfl zk11 (fun _ _ _ h => h) (Or.inl ⟨zk50, ?_⟩) ?_ ?_; rotate_left
   ·exact zk207
   rotate_left
   ·exact zk206
   refine one_ (i := 4) (N := some 21) #[true, true, true, true, true, false, false, false, false, false, false, false, false, false, false, false, false] rfl rfl zk11 zk56 (fun K hK => ?_); refine goes_ Try.func39 zk11 rfl #[.slice A1 l.length c1] zk50 rfl rfl zk39 ?_; refine (CK.out _ _ _ (Kd.C_drew HC1.out) LC1.out).mono ?_; rintro e w2 ⟨rfl, hb2⟩; refine ⟨_, rfl, ?_⟩; have HB2 := Lib.hid ((below_drew HB1.out).trans (hb2.mono (below_drew HB1.out).size)); have HC2 := Lib.hid (Kd.C_below (Kd.C_drew HC1.out) hb2); have HR2 := Lib.hid (Kd.R_below (Kd.R_drew HR.out) hb2); clear hb2 CK HB1 HC1 HR; rw [HK.out]; clear hHeld; refine hK.out _ _ trivial (fun hHeld => ?_); clear hK K; refine norm_ (a' := ?_) ?_ ?_; rotate_left
   ·exact zk213
   refine pure_ (i := 5) (N := some 22) (v := ?_) (a' := ?_) #[true, true, true, true, true, true, false, false, false, false, false, false, false, false, false, false, false] rfl rfl zk11 (fun _ _ _ h => h) (Or.inl ⟨zk50, ?_⟩) ?_ ?_; rotate_left
   ·exact zk207
   rotate_left
   ·exact zk206
   refine pure_ (i := 6) (N := some 23) (v := ?_) (a' := ?_) #[true, true, true, true, true, true, true, false, false, false, false, false, false, false, false, false, false] rfl rfl zk11 (fun _ _ _ h => h) (Or.inl ⟨zk50, ?_⟩) ?_ ?_; rotate_left
   ·exact zk207
   rotate_left
   ·exact zk206
   refine pure_ (i := 7) (N := some 24) (v := ?_) (a' := ?_) #[true, true, true, true, true, true, true, true, false, false, false, false, false, false, false, false, false] rfl rfl zk11 (fun _ _ _ h => h) (Or.inl ⟨zk50, ?_⟩) ?_ ?_; rotate_left
   ·exact zk207
   rotate_left
   ·exact zk206
   refine pure_ (i := 8) (N := some 25) (v := undef) (a' := ?_) #[true, true, true, true, true, true, true, true, true, false, false, false, false, false, false, false, false] rfl rfl zk11 (fun _ _ _ h => h) (Or.inr ⟨zk50, rfl⟩) ?_ ?_; rotate_left
   ·exact zk206
   refine pure_ (i := 9) (N := some 26) (v := undef) (a' := ?_) #[true, true, true, true, true, true, true, true, true, true, false, false, false, false, false, false, false] rfl rfl zk11 (fun _ _ _ h => h) (Or.inr ⟨zk50, rfl⟩) ?_ ?_; rotate_left
   ·exact zk206
   refine pure_ (i := 10) (N := some 27) (v := undef) (a' := ?_) #[true, true, true, true, true, true, true, true, true, true, true, false, false, false, false, false, false] rfl rfl zk11 (fun _ _ _ h => h) (Or.inr ⟨zk50, rfl⟩) ?_ ?_; rotate_left
   ·exact zk206
   refine pure_ (i := 11) (N := some 28) (v := undef) (a' := ?_) #[true, true, true, true, true, true, true, true, true, true, true, true, false, false, false, false, false] rfl rfl zk11 (fun _ _ _ h => h) (Or.inr ⟨zk50, rfl⟩) ?_ ?_; rotate_left
   ·exact zk206
   refine pure_ (i := 12) (N := some 29) (v := undef) (a' := ?_) #[true, true, true, true, true, true, true, true, true, true, true, true, true, false, false, false, false] rfl rfl zk11 (fun _ _ _ h => h) (Or.inr ⟨zk50, rfl⟩) ?_ ?_; rotate_left
   ·exact zk206
   refine pure_ (i := 13) (N := some 30) (v := undef) (a' := ?_) #[true, true, true, true, true, true, true, true, true, true, true, true, true, true, false, false, false] rfl rfl zk11 (fun _ _ _ h => h) (Or.inr ⟨zk50, rfl⟩) ?_ ?_; rotate_left
   ·exact zk206
   refine pure_ (i := 14) (N := some 31) (v := undef) (a' := ?_) #[true, true, true, true, true, true, true, true, true, true, true, true, true, true, true, false, false] rfl rfl zk11 (fun _ _ _ h => h) (Or.inr ⟨zk50, rfl⟩) ?_ ?_; rotate_left
   ·exact zk206
   refine pure_ (i := 15) (N := some 32) (v := undef) (a' := ?_) #[true, true, true, true, true, true, true, true, true, true, true, true, true, true, true, true, false] rfl rfl zk11 (fun _ _ _ h => h) (Or.inr ⟨zk50, rfl⟩) ?_ ?_; rotate_left
   ·exact zk206
   refine pure_ (i := 16) (N := some 33) (v := ?_) (a' := ?_) #[true, true, true, true, true, true, true, true, true, true, true, true, true, true, true, true, true] rfl rfl zk11 (fun _ _ _ h => h) (Or.inl ⟨zk50, ?_⟩) ?_ ?_; rotate_left
   ·exact zk207
   rotate_left
   ·exact zk206
   refine done_ zk11 ?_; refine NoPanic.normal ?_; clear hHeld; go_wp2; go_ret3
   exact ReadPost.no HN.out HB2.out
  | true =>
   obtain ⟨A2, c2, lc2, hcut, hC2⟩ := cut_c hC hc a q a0 aq ql; have HX := Lib.hid (show getH b a = if formB l = (b.take q).drop a.toNat then some (l, q) else none by unfold getH; rw [hr]; simp only; rw [hk]; simp); obtain ⟨X, hX⟩ : ∃ X, (b.take q).drop a.toNat = X := ⟨_, rfl⟩
   rw [hX] at lc2 hcut hC2 HX; have HK := Lib.hid hk; have FO := Lib.hid (fun W A1 c1 (h1 : Kd.C k70 W A1 l.length l) (h2 : l.length ≤ c1) => hist_form.calls (l.length + 1) A1 c1 l (formB l) W h1 h2 (form_eq l hk hn _ zk6)); have hfl := formB_len hk hn; obtain ⟨Y, hY⟩ : ∃ Y, formB l = Y := ⟨_, rfl⟩
   rw [hY] at FO HX hfl; have EQ := Lib.hid (fun W A1 c1 A3 c3 (h1 : Kd.C (Kd.int .u8) W A1 Y.length Y) (h2 : Y.length ≤ c1) (h3 : Kd.C (Kd.int .u8) W A3 X.length X) (h4 : X.length ≤ c3) => slices_Equal_byte_byte.calls (Y.length + 1) A1 c1 Y A3 c3 X (decide (Y = X)) W h1 h2 h3 h4 (eqBy Y X zk6)); have HCX := Lib.hid hC2; have LC2 := Lib.hid lc2; clear hX hY hfl hC2 lc2 hr hb hC hc hn hm hk a0 aq ql l7
   cases hd : decide (Y = X) with
   | false =>
    rw [hd] at EQ; have HN := Lib.hid (show getH b a = none by rw [HX.out, if_neg (of_decide_eq_false hd)]); clear hd HX; go_enter Try.func9, Try.ntmps9; (go_wp2_with (go_at_call 38; (with_reducible refine RD.out.mono ?_); rintro e w1 ⟨hb1, h1, -⟩; obtain ⟨v1, rfl, hR⟩ := h1 l q rfl; obtain ⟨A1, c1, rfl, lc1, hC1⟩ := Kd.R_reads hR; have HR := Lib.hid hR; have HB1 := Lib.hid hb1; have HC1 := Lib.hid hC1; have LC1 := Lib.hid lc1; clear hb1 h1 hR hC1 lc1 RD)); refine wp_region_noPanic ?_; refine start_ (n := 17) (S := fun w' => True) (ds := []) #[false, false, false, false, false, false, false, false, false, false, false, false, false, false, false, false, false] zk11 rfl rfl trivial (fun hHeld => ?_); refine pure_ (i := 0) (N := some 17) (v := ?_) (a' := ?_) #[true, false, false, false, false, false, false, false, false, false, false, false, false, false, false, false, false] rfl rfl zk11 (fun _ _ _ h => h) (Or.inl ⟨zk50, ?_⟩) ?_ ?_; rotate_left
    ·exact zk207
    rotate_left
    ·exact zk206
    refine pure_ (i := 1) (N := some 18) (v := ?_) (a' := ?_) #[true, true, false, false, false, false, false, false, false, false, false, false, false, false, false, false, false] rfl rfl zk11 (fun _ _ _ h => h) (Or.inl ⟨zk50, ?_⟩) ?_ ?_; rotate_left
    ·exact zk207
    rotate_left
    ·exact zk206
    refine pure_ (i := 2) (N := some 19) (v := ?_) (a' := ?_) #[true, true, true, false, false, false, false, false, false, false, false, false, false, false, false, false, false] rfl rfl zk11 (fun _ _ _ h => h) (Or.inl ⟨zk50, ?_⟩) ?_ ?_; rotate_left
    ·exact zk207
    rotate_left
    ·exact zk206
    refine pure_ (i := 3) (N := some 20) (v := ?_) (a' := ?_) #[true, true, true, true, false, false, false, false, false, false, false, false, false, false, false, false, false] rfl rfl zk11 (fun _ _ _ h => h) (Or.inl ⟨zk50, ?_⟩) ?_ ?_; rotate_left
    ·exact zk207
    rotate_left
    ·exact zk206
    refine one_ (i := 4) (N := some 21) #[true, true, true, true, true, false, false, false, false, false, false, false, false, false, false, false, false] rfl rfl zk11 zk56 (fun K hK => ?_); refine goes_ Try.func39 zk11 rfl #[.slice A1 l.length c1] zk50 rfl rfl zk39 ?_; refine (CK.out _ _ _ (Kd.C_drew HC1.out) LC1.out).mono ?_; rintro e w2 ⟨rfl, hb2⟩; refine ⟨_, rfl, ?_⟩; have HB2 := Lib.hid ((below_drew HB1.out).trans (hb2.mono (below_drew HB1.out).size)); have HC2 := Lib.hid (Kd.C_below (Kd.C_drew HC1.out) hb2); have HR2 := Lib.hid (Kd.R_below (Kd.R_drew HR.out) hb2); clear hb2 CK HB1 HC1 HR; rw [HK.out]; clear hHeld; refine hK.out _ _ trivial (fun hHeld => ?_); clear hK K; refine norm_ (a' := ?_) ?_ ?_; rotate_left
    ·exact zk213
    refine pure_ (i := 5) (N := some 22) (v := ?_) (a' := ?_) #[true, true, true, true, true, true, false, false, false, false, false, false, false, false, false, false, false] rfl rfl zk11 (fun _ _ _ h => h) (Or.inl ⟨zk50, ?_⟩) ?_ ?_; rotate_left
    ·exact zk207
    rotate_left
    ·exact zk206
    refine pure_ (i := 6) (N := some 23) (v := ?_) (a' := ?_) #[true, true, true, true, true, true, true, false, false, false, false, false, false, false, false, false, false] rfl rfl zk11 (fun _ _ _ h => h) (Or.inl ⟨zk50, ?_⟩) ?_ ?_; rotate_left
    ·exact zk207
    rotate_left
    ·exact zk206
    refine pure_ (i := 7) (N := some 24) (v := ?_) (a' := ?_) #[true, true, true, true, true, true, true, true, false, false, false, false, false, false, false, false, false] rfl rfl zk11 (fun _ _ _ h => h) (Or.inl ⟨zk50, ?_⟩) ?_ ?_; rotate_left
    ·exact zk207
    rotate_left
    ·exact zk206
    refine pure_ (i := 8) (N := some 25) (v := ?_) (a' := ?_) #[true, true, true, true, true, true, true, true, true, false, false, false, false, false, false, false, false] rfl rfl zk11 (fun _ _ _ h => h) (Or.inl ⟨zk50, ?_⟩) ?_ ?_; rotate_left
    ·exact zk207
    rotate_left
    ·exact zk206
    refine pure_ (i := 10) (N := some 27) (v := ?_) (a' := ?_) #[true, true, true, true, true, true, true, true, true, false, true, false, false, false, false, false, false] rfl rfl zk11 (fun _ _ _ h => h) (Or.inl ⟨zk50, ?_⟩) ?_ ?_; rotate_left
    ·exact zk207
    rotate_left
    ·exact zk206
    refine pure_ (i := 11) (N := some 28) (v := ?_) (a' := ?_) #[true, true, true, true, true, true, true, true, true, false, true, true, false, false, false, false, false] rfl rfl zk11 (fun _ _ _ h => h) (Or.inl ⟨zk50, ?_⟩) ?_ ?_; rotate_left
    ·exact zk207
    rotate_left
    ·exact zk206
    refine pure_ (i := 12) (N := some 29) (v := ?_) (a' := ?_) #[true, true, true, true, true, true, true, true, true, false, true, true, true, false, false, false, false] rfl rfl zk11 (fun _ _ _ h => h) (Or.inl ⟨zk50, ?_⟩) ?_ ?_; rotate_left
    ·exact zk207
    rotate_left
    ·exact zk206
    refine pure_ (i := 13) (N := some 30) (v := ?_) (a' := ?_) #[true, true, true, true, true, true, true, true, true, false, true, true, true, true, false, false, false] rfl rfl zk11 (fun _ _ _ h => h) (Or.inl ⟨zk50, ?_⟩) ?_ ?_; rotate_left
    ·exact zk207
    rotate_left
    ·exact zk206
    refine one_ (i := 9) (N := some 26) #[true, true, true, true, true, true, true, true, true, true, true, true, true, true, false, false, false] rfl rfl zk11 zk56 (fun K hK => ?_); refine goes_ Try.func41 zk11 rfl #[.slice A1 l.length c1] zk50 rfl rfl zk39 ?_; refine (FO.out _ _ _ HC2.out LC1.out).mono ?_; rintro e w3 ⟨v3, rfl, hR3, hb3⟩; refine ⟨_, rfl, ?_⟩; obtain ⟨A3, c3, rfl, lc3, hC3⟩ := Kd.R_reads hR3; have HB3 := Lib.hid (HB2.out.trans (hb3.mono HB2.out.size)); have HR3 := Lib.hid (Kd.R_below HR2.out hb3); have HF3 := Lib.hid hC3; have LC3 := Lib.hid lc3; clear hb3 hR3 hC3 lc3 FO HB2 HC2 HR2; clear hHeld; refine hK.out _ _ trivial (fun hHeld => ?_); clear hK K; refine norm_ (a' := ?_) ?_ ?_; rotate_left
    ·exact zk219
    refine one_ (i := 14) (N := some 31) #[true, true, true, true, true, true, true, true, true, true, true, true, true, true, true, false, false] rfl rfl zk11 zk56 (fun K hK => ?_); refine goes_ Try.func40 zk11 rfl #[.slice A3 Y.length c3, .slice A2 X.length c2] zk50 rfl rfl zk39 ?_; refine (EQ.out _ _ _ _ _ HF3.out LC3.out (Kd.C_below HCX.out HB3.out) LC2.out).mono ?_; rintro e w4 ⟨rfl, hb4⟩; refine ⟨_, rfl, ?_⟩; have HB4 := Lib.hid (HB3.out.trans (hb4.below.mono HB3.out.size)); have HR4 := Lib.hid (Kd.R_below HR3.out hb4.below); clear hb4 EQ HB3 HR3 HF3; clear hHeld; refine hK.out _ _ trivial (fun hHeld => ?_); clear hK K; refine norm_ (a' := ?_) ?_ ?_; rotate_left
    ·exact zk215
    refine pure_ (i := 15) (N := some 32) (v := ?_) (a' := ?_) #[true, true, true, true, true, true, true, true, true, true, true, true, true, true, true, true, false] rfl rfl zk11 (fun _ _ _ h => h) (Or.inl ⟨zk50, ?_⟩) ?_ ?_; rotate_left
    ·exact zk207
    rotate_left
    ·exact zk206
    refine pure_ (i := 16) (N := some 33) (v := ?_) (a' := ?_) #[true, true, true, true, true, true, true, true, true, true, true, true, true, true, true, true, true] rfl rfl zk11 (fun _ _ _ h => h) (Or.inl ⟨zk50, ?_⟩) ?_ ?_; rotate_left
    ·exact zk207
    rotate_left
    ·exact zk206
    refine done_ zk11 ?_; refine NoPanic.normal ?_; clear hHeld; go_wp2; go_ret3
    exact ReadPost.no HN.out HB4.out
   | true =>
    rw [hd] at EQ; have HN := Lib.hid (show getH b a = some (l, q) by rw [HX.out, if_pos (of_decide_eq_true hd)]); clear hd HX; go_enter Try.func9, Try.ntmps9; (go_wp2_with (go_at_call 38; (with_reducible refine RD.out.mono ?_); rintro e w1 ⟨hb1, h1, -⟩; obtain ⟨v1, rfl, hR⟩ := h1 l q rfl; obtain ⟨A1, c1, rfl, lc1, hC1⟩ := Kd.R_reads hR; have HR := Lib.hid hR; have HB1 := Lib.hid hb1; have HC1 := Lib.hid hC1; have LC1 := Lib.hid lc1; clear hb1 h1 hR hC1 lc1 RD)); refine wp_region_noPanic ?_; refine start_ (n := 17) (S := fun w' => True) (ds := []) #[false, false, false, false, false, false, false, false, false, false, false, false, false, false, false, false, false] zk11 rfl rfl trivial (fun hHeld => ?_); refine pure_ (i := 0) (N := some 17) (v := ?_) (a' := ?_) #[true, false, false, false, false, false, false, false, false, false, false, false, false, false, false, false, false] rfl rfl zk11 (fun _ _ _ h => h) (Or.inl ⟨zk50, ?_⟩) ?_ ?_; rotate_left
    ·exact zk207
    rotate_left
    ·exact zk206
    refine pure_ (i := 1) (N := some 18) (v := ?_) (a' := ?_) #[true, true, false, false, false, false, false, false, false, false, false, false, false, false, false, false, false] rfl rfl zk11 (fun _ _ _ h => h) (Or.inl ⟨zk50, ?_⟩) ?_ ?_; rotate_left
    ·exact zk207
    rotate_left
    ·exact zk206
    refine pure_ (i := 2) (N := some 19) (v := ?_) (a' := ?_) #[true, true, true, false, false, false, false, false, false, false, false, false, false, false, false, false, false] rfl rfl zk11 (fun _ _ _ h => h) (Or.inl ⟨zk50, ?_⟩) ?_ ?_; rotate_left
    ·exact zk207
    rotate_left
    ·exact zk206
    refine pure_ (i := 3) (N := some 20) (v := ?_) (a' := ?_) #[true, true, true, true, false, false, false, false, false, false, false, false, false, false, false, false, false] rfl rfl zk11 (fun _ _ _ h => h) (Or.inl ⟨zk50, ?_⟩) ?_ ?_; rotate_left
    ·exact zk207
    rotate_left
    ·exact zk206
    refine one_ (i := 4) (N := some 21) #[true, true, true, true, true, false, false, false, false, false, false, false, false, false, false, false, false] rfl rfl zk11 zk56 (fun K hK => ?_); refine goes_ Try.func39 zk11 rfl #[.slice A1 l.length c1] zk50 rfl rfl zk39 ?_; refine (CK.out _ _ _ (Kd.C_drew HC1.out) LC1.out).mono ?_; rintro e w2 ⟨rfl, hb2⟩; refine ⟨_, rfl, ?_⟩; have HB2 := Lib.hid ((below_drew HB1.out).trans (hb2.mono (below_drew HB1.out).size)); have HC2 := Lib.hid (Kd.C_below (Kd.C_drew HC1.out) hb2); have HR2 := Lib.hid (Kd.R_below (Kd.R_drew HR.out) hb2); clear hb2 CK HB1 HC1 HR; rw [HK.out]; clear hHeld; refine hK.out _ _ trivial (fun hHeld => ?_); clear hK K; refine norm_ (a' := ?_) ?_ ?_; rotate_left
    ·exact zk213
    refine pure_ (i := 5) (N := some 22) (v := ?_) (a' := ?_) #[true, true, true, true, true, true, false, false, false, false, false, false, false, false, false, false, false] rfl rfl zk11 (fun _ _ _ h => h) (Or.inl ⟨zk50, ?_⟩) ?_ ?_; rotate_left
    ·exact zk207
    rotate_left
    ·exact zk206
    refine pure_ (i := 6) (N := some 23) (v := ?_) (a' := ?_) #[true, true, true, true, true, true, true, false, false, false, false, false, false, false, false, false, false] rfl rfl zk11 (fun _ _ _ h => h) (Or.inl ⟨zk50, ?_⟩) ?_ ?_; rotate_left
    ·exact zk207
    rotate_left
    ·exact zk206
    refine pure_ (i := 7) (N := some 24) (v := ?_) (a' := ?_) #[true, true, true, true, true, true, true, true, false, false, false, false, false, false, false, false, false] rfl rfl zk11 (fun _ _ _ h => h) (Or.inl ⟨zk50, ?_⟩) ?_ ?_; rotate_left
    ·exact zk207
    rotate_left
    ·exact zk206
    refine pure_ (i := 8) (N := some 25) (v := ?_) (a' := ?_) #[true, true, true, true, true, true, true, true, true, false, false, false, false, false, false, false, false] rfl rfl zk11 (fun _ _ _ h => h) (Or.inl ⟨zk50, ?_⟩) ?_ ?_; rotate_left
    ·exact zk207
    rotate_left
    ·exact zk206
    refine pure_ (i := 10) (N := some 27) (v := ?_) (a' := ?_) #[true, true, true, true, true, true, true, true, true, false, true, false, false, false, false, false, false] rfl rfl zk11 (fun _ _ _ h => h) (Or.inl ⟨zk50, ?_⟩) ?_ ?_; rotate_left
    ·exact zk207
    rotate_left
    ·exact zk206
    refine pure_ (i := 11) (N := some 28) (v := ?_) (a' := ?_) #[true, true, true, true, true, true, true, true, true, false, true, true, false, false, false, false, false] rfl rfl zk11 (fun _ _ _ h => h) (Or.inl ⟨zk50, ?_⟩) ?_ ?_; rotate_left
    ·exact zk207
    rotate_left
    ·exact zk206
    refine pure_ (i := 12) (N := some 29) (v := ?_) (a' := ?_) #[true, true, true, true, true, true, true, true, true, false, true, true, true, false, false, false, false] rfl rfl zk11 (fun _ _ _ h => h) (Or.inl ⟨zk50, ?_⟩) ?_ ?_; rotate_left
    ·exact zk207
    rotate_left
    ·exact zk206
    refine pure_ (i := 13) (N := some 30) (v := ?_) (a' := ?_) #[true, true, true, true, true, true, true, true, true, false, true, true, true, true, false, false, false] rfl rfl zk11 (fun _ _ _ h => h) (Or.inl ⟨zk50, ?_⟩) ?_ ?_; rotate_left
    ·exact zk207
    rotate_left
    ·exact zk206
    refine one_ (i := 9) (N := some 26) #[true, true, true, true, true, true, true, true, true, true, true, true, true, true, false, false, false] rfl rfl zk11 zk56 (fun K hK => ?_); refine goes_ Try.func41 zk11 rfl #[.slice A1 l.length c1] zk50 rfl rfl zk39 ?_; refine (FO.out _ _ _ HC2.out LC1.out).mono ?_; rintro e w3 ⟨v3, rfl, hR3, hb3⟩; refine ⟨_, rfl, ?_⟩; obtain ⟨A3, c3, rfl, lc3, hC3⟩ := Kd.R_reads hR3; have HB3 := Lib.hid (HB2.out.trans (hb3.mono HB2.out.size)); have HR3 := Lib.hid (Kd.R_below HR2.out hb3); have HF3 := Lib.hid hC3; have LC3 := Lib.hid lc3; clear hb3 hR3 hC3 lc3 FO HB2 HC2 HR2; clear hHeld; refine hK.out _ _ trivial (fun hHeld => ?_); clear hK K; refine norm_ (a' := ?_) ?_ ?_; rotate_left
    ·exact zk219
    refine one_ (i := 14) (N := some 31) #[true, true, true, true, true, true, true, true, true, true, true, true, true, true, true, false, false] rfl rfl zk11 zk56 (fun K hK => ?_); refine goes_ Try.func40 zk11 rfl #[.slice A3 Y.length c3, .slice A2 X.length c2] zk50 rfl rfl zk39 ?_; refine (EQ.out _ _ _ _ _ HF3.out LC3.out (Kd.C_below HCX.out HB3.out) LC2.out).mono ?_; rintro e w4 ⟨rfl, hb4⟩; refine ⟨_, rfl, ?_⟩; have HB4 := Lib.hid (HB3.out.trans (hb4.below.mono HB3.out.size)); have HR4 := Lib.hid (Kd.R_below HR3.out hb4.below); clear hb4 EQ HB3 HR3 HF3; clear hHeld; refine hK.out _ _ trivial (fun hHeld => ?_); clear hK K; refine norm_ (a' := ?_) ?_ ?_; rotate_left
    ·exact zk215
    refine pure_ (i := 15) (N := some 32) (v := ?_) (a' := ?_) #[true, true, true, true, true, true, true, true, true, true, true, true, true, true, true, true, false] rfl rfl zk11 (fun _ _ _ h => h) (Or.inl ⟨zk50, ?_⟩) ?_ ?_; rotate_left
    ·exact zk207
    rotate_left
    ·exact zk206
    refine pure_ (i := 16) (N := some 33) (v := ?_) (a' := ?_) #[true, true, true, true, true, true, true, true, true, true, true, true, true, true, true, true, true] rfl rfl zk11 (fun _ _ _ h => h) (Or.inl ⟨zk50, ?_⟩) ?_ ?_; rotate_left
    ·exact zk207
    rotate_left
    ·exact zk206
    refine done_ zk11 ?_; refine NoPanic.normal ?_; clear hHeld; go_wp2; go_ret3
    exact ⟨HB4.out, (fun l' q' e => by rw [HN.out] at e; cases e; exact ⟨_, rfl, HR4.out⟩), fun e => by rw [HN.out] at e; cases e⟩
end Go.Proofs.Ytplgffbfepnihaa
namespace Go.Proofs.Ytplgffbfepnihaa.Pure
open Go.RowKit Go.Proofs.YtplgffbfepnihaaW.PrintWords Go.Proofs.YtplgffbfepnihaaW.PrintLast Go.Proofs.YtplgffbfepnihaaW.PrintMore Go.Proofs.Ytplgffbfepnihaa.Hi Go.Proofs.Ytplgffbfepnihaa.Vt Go.Proofs.Ytplgffbfepnihaa.Hb
def refSp (b : List Int) : Nat → Int → Nat → List S70 → Option (List S70 × Nat)
 | 0, _, p, acc => some (acc, p)
 | m + 1, last, p, acc => match numAt b (p : Int) with
  | none => none
  | some (d, p1) => match numAt b (p1 : Int) with
   | none => none
   | some (c, p2) => if 7424 ≤ d then none else refSp b m (last + 1 + d) p2 (acc ++ [⟨last + 1 + d, (c : Int)⟩])
def refDn (b : List Int) (fr : Nat) : Nat → Nat → Nat → List S70 → Option (List S70 × Nat)
 | 0, _, p, acc => some (acc, p)
 | m + 1, i, p, acc => match numAt b (p : Int) with
  | none => none
  | some (c, p1) => refDn b fr m (i + 1) p1 (if 0 < c then acc ++ [⟨(fr : Int) + i, (c : Int)⟩] else acc)
def cntAt (b : List Int) (p : Int) (most : Nat) : Option (Nat × Nat) := match numAt b p with
 | none => none
 | some (n, q) => if most < n ∨ b.length - q < n then none else some (n, q)
def refRd (b : List Int) (a : Int) : Option (List S70 × Nat) := match numAt b a with
 | none => none
 | some (h0, p0) =>
  if h0 = 0 then (match cntAt b (p0 : Int) 7424 with
   | none => none
   | some (n, p1) => refSp b n (-1) p1 [])
  else if h0 = 1 then (match numAt b (p0 : Int) with
   | none => none
   | some (fr, p1) => match cntAt b (p1 : Int) 7424 with
    | none => none
    | some (n, p2) => if 7424 ≤ fr then none else refDn b fr n 0 p2 [])
  else none
def refH (b : List Int) (a : Int) : Option (List S70 × Nat) := match refRd b a with
 | none => none
 | some (l, q) => if chk l = true ∧ formB l = (b.take q).drop a.toNat then some (l, q) else none
theorem cntAt_at {b : List Int} (hb : WBy b) {p : Int} {most n q : Nat} (h : cntAt b p most = some (n, q)) : numAt b p = some (n, q) ∧ n ≤ most ∧ n ≤ b.length - q := by
 unfold cntAt at h; split at h
 ·cases h
 ·split at h
  ·cases h
  case isFalse hc => cases h; rename_i e; exact ⟨e, zk6, zk6⟩
theorem refSp_ok {b : List Int} (hb : WBy b) : ∀ (m : Nat) (last : Int) (p : Nat) (acc l : List S70) (q : Nat), Bnum acc → p ≤ b.length → refSp b m last p acc = some (l, q) → p ≤ q ∧ q ≤ b.length ∧ l.length = acc.length + m ∧ Bnum l := by
 intro m
 induction m with
 | zero => intro last p acc l q ha hp h; rw [refSp] at h; cases h; exact ⟨Nat.le_refl _, hp, rfl, ha⟩
 | succ m ih =>
  intro last p acc l q ha hp h; rw [refSp] at h; split at h
  ·cases h
  case h_2 d p1 e1 =>
   split at h
   ·cases h
   case h_2 c p2 e2 =>
    split at h
    ·cases h
    ·have h1 := numAt_at hb e1
     have h2 := numAt_at hb e2
     have := ih _ _ _ _ _ (fun x hx => by
      rcases List.mem_append.1 hx with hx | hx
      ·exact ha x hx
      ·rw [List.mem_singleton] at hx; subst hx; simp only; omega) zk6 h
     rw [List.length_append, List.length_singleton] at this; exact ⟨zk6, this.2.1, zk6, this.2.2.2⟩
theorem refDn_ok {b : List Int} (hb : WBy b) (fr : Nat) : ∀ (m i p : Nat) (acc l : List S70) (q : Nat), Bnum acc → p ≤ b.length → refDn b fr m i p acc = some (l, q) → p ≤ q ∧ q ≤ b.length ∧ l.length ≤ acc.length + m ∧ Bnum l := by
 intro m
 induction m with
 | zero => intro i p acc l q ha hp h; rw [refDn] at h; cases h; exact ⟨Nat.le_refl _, hp, Nat.le_refl _, ha⟩
 | succ m ih =>
  intro i p acc l q ha hp h; rw [refDn] at h; split at h
  ·cases h
  case h_2 c p1 e1 =>
   have h1 := numAt_at hb e1
   have := ih _ _ _ _ _ (fun x hx => by
    split at hx
    ·rcases List.mem_append.1 hx with hx | hx
     ·exact ha x hx
     ·rw [List.mem_singleton] at hx; subst hx; simp only; omega
    ·exact ha x hx) zk6 h
   refine ⟨zk6, this.2.1, ?_, this.2.2.2⟩; have h3 := this.2.2.1; split at h3
   ·rw [List.length_append, List.length_singleton] at h3; omega
   ·omega
theorem refRd_ok {b : List Int} (hb : WBy b) {a : Int} {l : List S70} {q : Nat} (h : refRd b a = some (l, q)) : 0 ≤ a ∧ a ≤ q ∧ q ≤ b.length ∧ Bnum l ∧ l.length ≤ 7424 := by
 unfold refRd at h; split at h
 ·cases h
 case h_2 h0 p0 e0 =>
  have g0 := numAt_at hb e0; split at h
  ·split at h
   ·cases h
   case h_2 n p1 e1 => have g1 := cntAt_at hb e1; have g2 := numAt_at hb g1.1; have := refSp_ok hb _ _ _ _ _ _ (fun x hx => by cases hx) zk6 h; rw [List.length_nil] at this; exact ⟨g0.1, zk6, this.2.1, this.2.2.2, zk6⟩
  ·split at h
   ·split at h
    ·cases h
    case h_2 fr p1 e1 =>
     have g1 := numAt_at hb e1; split at h
     ·cases h
     case h_2 n p2 e2 =>
      have g2 := cntAt_at hb e2; have g3 := numAt_at hb g2.1; split at h
      ·cases h
      ·have := refDn_ok hb _ _ _ _ _ _ _ (fun x hx => by cases hx) zk6 h; rw [List.length_nil] at this; exact ⟨g0.1, zk6, this.2.1, this.2.2.2, zk6⟩
   ·cases h
theorem readGo_room {b : List Int} (hb : WBy b) (sp : Bool) : ∀ (m next p : Nat) (acc l : List S70) (q : Nat), p ≤ b.length → readGo b sp m next p acc = some (l, q) → p + m ≤ q ∧ q ≤ b.length := by
 intro m
 induction m with
 | zero => intro next p acc l q hp h; rw [readGo] at h; cases h; omega
 | succ m ih =>
  intro next p acc l q hp h
  rw [readGo] at h; split at h
  ·cases h
  case h_2 st p1 e1 =>
   split at h
   ·cases h
   case h_2 n p2 e2 =>
    split at h
    ·cases h
    ·have hp1 : p ≤ p1 := by
      split at e1
      ·have := numAt_at hb e1; omega
      ·cases e1; omega
     have h2 := numAt_at hb e2; have := ih _ _ _ _ _ zk6 h; omega
theorem readGo_refSp (b : List Int) : ∀ (m next p : Nat) (acc : List S70) (r : List S70 × Nat), readGo b true m next p acc = some r → refSp b m ((next : Int) - 1) p acc = some r := by
 intro m
 induction m with
 | zero => intro next p acc r h; rw [readGo] at h; rw [refSp]; exact h
 | succ m ih =>
  intro next p acc r h
  rw [readGo, if_pos rfl] at h; rw [refSp]; split at h
  ·cases h
  case h_2 st p1 e1 =>
   rw [e1]; simp only; split at h
   ·cases h
   case h_2 n p2 e2 =>
    rw [e2]; simp only; split at h
    ·cases h
    case isFalse hc => rw [if_neg zk6]; rw [if_pos (.inr rfl)] at h; have := ih _ _ _ _ h; rw [show ((next + st + 1 : Nat) : Int) - 1 = (next : Int) - 1 + 1 + st by omega, show ((next + st : Nat) : Int) = (next : Int) - 1 + 1 + st by omega] at this; exact this
theorem readGo_refDn (b : List Int) (fr : Nat) : ∀ (m i p : Nat) (acc : List S70) (r : List S70 × Nat), readGo b false m (fr + i) p acc = some r → refDn b fr m i p acc = some r := by
 intro m
 induction m with
 | zero => intro i p acc r h; rw [readGo] at h; rw [refDn]; exact h
 | succ m ih =>
  intro i p acc r h; rw [readGo, if_neg zk56] at h; rw [refDn]; simp only at h; split at h
  ·cases h
  case h_2 n p2 e2 =>
   rw [e2]; simp only; split at h
   ·cases h
   ·rw [Nat.add_zero, Nat.add_assoc] at h
    have := ih _ _ _ _ h; rw [← this]; congr 1; by_cases hn : 0 < n
    ·rw [if_pos hn, if_pos (.inl hn), show ((fr + i + 0 : Nat) : Int) = (fr : Int) + i by omega]
    ·rw [if_neg hn, if_neg (by simp [hn])]
theorem read_refRd {b : List Int} (hb : WBy b) {a : Int} {l : List S70} {q : Nat} (h : readH b a = some (l, q)) : refRd b a = some (l, q) := by
 unfold readH at h; unfold refRd; split at h
 ·cases h
 case h_2 h0 p0 e0 =>
  rw [e0]; simp only; split at h
  ·cases h
  case h_2 h1 p1 e1 =>
   have g1 := numAt_at hb e1; split at h
   case isTrue c1 =>
    rw [if_neg zk6, if_pos c1, e1]; simp only; split at h
    ·cases h
    case h_2 m p2 e2 =>
     have g2 := numAt_at hb e2; split at h
     ·cases h
     case isFalse c2 =>
      have := readGo_room hb _ _ _ _ _ _ _ zk6 h; have ec : cntAt b (p1 : Int) 7424 = some (m, p2) := by unfold cntAt; rw [e2]; simp only; rw [if_neg zk6]
      rw [ec]; simp only; rw [if_neg zk6]; exact readGo_refDn b h1 m 0 p2 [] _ h
   case isFalse c1 =>
    split at h
    ·cases h
    case isFalse c2 =>
     have := readGo_room hb _ _ _ _ _ _ _ zk6 h; have ec : cntAt b (p0 : Int) 7424 = some (h1, p1) := by unfold cntAt; rw [e1]; simp only; rw [if_neg zk6]
     rw [if_pos zk6, ec]; simp only; exact readGo_refSp b h1 0 p1 [] _ h
theorem refH_eq {b : List Int} (hb : WBy b) (a : Int) : refH b a = getH b a := by
 cases hr : refH b a with
 | some x =>
  obtain ⟨l, q⟩ := x; unfold refH at hr; split at hr
  ·cases hr
  case h_2 l' q' e =>
   split at hr
   case isTrue hc => cases hr; have := refRd_ok hb e; exact (getH_of hc.1 this.2.2.2.1 this.1 this.2.1 this.2.2.1 hc.2).symm
   case isFalse => cases hr
 | none =>
  cases hg : getH b a with
  | none => rfl
  | some x =>
   obtain ⟨l, q⟩ := x; have hk := getH_ok hb hg; unfold getH at hg; split at hg
   ·cases hg
   case h_2 l' q' e =>
    split at hg
    case isTrue hc => cases hg; unfold refH at hr; rw [read_refRd hb e] at hr; simp only at hr; rw [if_pos hc] at hr; cases hr
    case isFalse => cases hg
end Go.Proofs.Ytplgffbfepnihaa.Pure
namespace Go.Proofs.Ytplgffbfepnihaa
open Go.RowKit Go.Maps Go.Deep Go.Proofs.YtplgffbfepnihaaW.PrintWords Go.Proofs.YtplgffbfepnihaaW.PrintLast Go.Proofs.YtplgffbfepnihaaW.PrintMore Go.Proofs.Ytplgffbfepnihaa.Hi Go.Proofs.Ytplgffbfepnihaa.Vt Go.Proofs.Ytplgffbfepnihaa.Hb Go.Proofs.Ytplgffbfepnihaa.Pure
def RG (w0 w : World) (g : Nat) (b : List Int) (W : World) (p : Int) (bad : Bool) : Prop := IsS29 w0 W g b p bad ∧ Below w0.heap.size w0 W ∧ KeepBut w W g none
section
variable {w0 w W : World} {g : Nat} {b : List Int} {p : Int} {bad : Bool}
theorem RG.keeps {W' : World} (h : RG w0 w g b W p bad) (hb : Below w.heap.size W W') (hg : g < w.heap.size) (hw : w0.heap.size ≤ w.heap.size) : RG w0 w g b W' p bad := by
 obtain ⟨⟨A, c, h1, h2, h3⟩, h4, h5⟩ := h; exact ⟨⟨A, c, (hb.block g hg).trans h1, h2, h3⟩, h4.trans (hb.mono hw), Nat.le_trans h5.1 hb.size, fun i hi hg hr => (hb.block i hi).trans (h5.2 i hi hg hr)⟩
theorem RG.all {W' : World} (h : RG w0 w g b W p bad) (hb : Below W.heap.size W W') : RG w0 w g b W' p bad :=
 ⟨h.1.below hb, below_then h.2.1 h.2.1.size hb, KeepBut.trans h.2.2 (KeepBut.of_below hb g none) (.inl rfl)⟩
theorem RG.drew (h : RG w0 w g b W p bad) : RG w0 w g b W.drew p bad := h.all (below_drew (Below.refl _ _))
theorem RG.fails (h : RG w0 w g b W p bad) : RG w0 w g b (W.setCell ⟨g, 2, none⟩ (.bool true)) p true :=
 ⟨h.1.set_2 true, below_set h.2.1 h.1.ge, h.2.2.set_ 2 _⟩
theorem RG.bad_ (h : RG w0 w g b W p bad) : W.cell? ⟨g, 2, none⟩ = some (.bool bad) := by obtain ⟨⟨A, c, h1, _⟩, _⟩ := h; exact blk_cell h1 2
theorem RG.at_ (h : RG w0 w g b W p bad) : W.cell? ⟨g, 1, none⟩ = some (.int .i64 p) := by obtain ⟨⟨A, c, h1, _⟩, _⟩ := h; exact blk_cell h1 1
theorem RG.frozen (h : RG w0 w g b W p bad) (i : Nat) : W.frozen? ⟨g, i, none⟩ = false := by obtain ⟨⟨A, c, h1, _⟩, _⟩ := h; exact blk_frozen h1 i
theorem RG.bytes (h : RG w0 w g b W p bad) : ∃ A c, W.cell? ⟨g, 0, none⟩ = some (.slice A b.length c) ∧ b.length ≤ c ∧ Kd.C (Kd.int .u8) W A b.length b := by
 obtain ⟨⟨A, c, h1, h2, h3⟩, h4, _⟩ := h; exact ⟨A, c, blk_cell h1 0, h2.2, Kd.C_below h3 h4⟩
theorem RG.lt (h : RG w0 w g b W p bad) : g < W.heap.size := h.1.lt
theorem RG.call (h : RG w0 w g b W p bad) {k : Nat} {r1 r2 : Int} {r3 : Bool} (hf : varveref04_R_Num.f k b p bad = some (r1, r2, r3)) :
  Calls Try.prog 42 #[.pointer (some ⟨g, 0, none⟩)] W fun e w' => e = .returned (.int .u64 r1) ∧ RG w0 w g b w' r2 r3 ∧ KeepBut W w' g none :=
 (varveref04_R_Num.calls k g b p bad r1 r2 r3 w0 W h.1 h.2.1 hf).mono fun _ _ ⟨he, hi, hb, hk⟩ => ⟨he, ⟨hi, hb, KeepBut.trans h.2.2 hk (.inl rfl)⟩, hk⟩
theorem RG.callC (h : RG w0 w g b W p bad) {k : Nat} {a r1 r2 : Int} {r3 : Bool} (hf : varveref04_R_Count.f k b p bad a = some (r1, r2, r3)) :
  Calls Try.prog 43 #[.pointer (some ⟨g, 0, none⟩), .int .i64 a] W fun e w' => e = .returned (.int .i64 r1) ∧ RG w0 w g b w' r2 r3 ∧ KeepBut W w' g none :=
 (varveref04_R_Count.calls k g b p bad a r1 r2 r3 w0 W h.1 h.2.1 hf).mono fun _ _ ⟨he, hi, hb, hk⟩ => ⟨he, ⟨hi, hb, KeepBut.trans h.2.2 hk (.inl rfl)⟩, hk⟩
theorem num_ok (hb : WBy b) {v n : Nat} (hn : numAt b p = some (v, n)) : ∀ W, RG w0 w g b W p false → Calls Try.prog 42 #[.pointer (some ⟨g, 0, none⟩)] W fun e w' => e = .returned (.int .u64 (v : Int)) ∧ RG w0 w g b w' n false ∧ KeepBut W w' g none :=
 fun _ h => h.call ((rnum_eq hb p 40 zk47).1 v n hn)
theorem num_no (hb : WBy b) (hn : numAt b p = none) : ∃ q : Int, ∀ W, RG w0 w g b W p false → Calls Try.prog 42 #[.pointer (some ⟨g, 0, none⟩)] W fun e w' => e = .returned (.int .u64 0) ∧ RG w0 w g b w' q true ∧ KeepBut W w' g none := by
 obtain ⟨q, hq⟩ := (rnum_eq hb p 40 zk47).2 hn; exact ⟨q, fun _ h => h.call hq⟩
theorem num_was : ∀ W, RG w0 w g b W p true → Calls Try.prog 42 #[.pointer (some ⟨g, 0, none⟩)] W fun e w' => e = .returned (.int .u64 0) ∧ RG w0 w g b w' p true ∧ KeepBut W w' g none :=
 fun _ h => h.call (rnum_bad b p 40 zk47)
theorem count_eq (hb : WBy b) (p : Int) : (∀ n q, cntAt b p 7424 = some (n, q) → varveref04_R_Count.f 40 b p false 7424 = some ((n : Int), (q : Int), false)) ∧ (cntAt b p 7424 = none → ∃ q : Int, varveref04_R_Count.f 40 b p false 7424 = some (0, q, true)) := by
 obtain ⟨g1, g2⟩ := rnum_eq hb p 40 zk47; unfold varveref04_R_Count.f cntAt; have hwm : IntKind.u64.wrap (7424 : Int) = (7424 : Int) := wrapU_in zk6 zk6; have hbl := hb.1
 cases hq : numAt b p with
 | none =>
  obtain ⟨q, e⟩ := g2 hq; rw [e, Option.bind_some, if_pos rfl]; exact ⟨fun l q h => by simp at h, fun _ => ⟨q, rfl⟩⟩
 | some x =>
  obtain ⟨n, q⟩ := x; have hv := numAt_at hb hq
  have hwl : IntKind.u64.wrap (wrap64 ((b.length : Int) - (q : Int))) = ((b.length - q : Nat) : Int) := by
   rw [show wrap64 ((b.length : Int) - (q : Int)) = ((b.length - q : Nat) : Int) by unfold wrap64; omega]; exact wrapU_in zk6 zk6
  rw [g1 n q hq, Option.bind_some]; simp only; rw [if_neg (show ¬ (false = true) by decide), if_neg (show ¬ ((7424 : Int) < 0) by omega), hwm, hwl]; by_cases c1 : n > 7424
  ·rw [if_pos (show (n : Int) > 7424 by omega), if_pos (show 7424 < n ∨ b.length - q < n from .inl c1)]; exact ⟨fun l q h => by simp at h, fun _ => ⟨_, rfl⟩⟩
  ·rw [if_neg (show ¬ ((n : Int) > 7424) by omega)]
   by_cases c2 : n > b.length - q
   ·rw [if_pos (show (n : Int) > ((b.length - q : Nat) : Int) by omega), if_pos (show 7424 < n ∨ b.length - q < n from .inr c2)]; exact ⟨fun l q h => by simp at h, fun _ => ⟨_, rfl⟩⟩
   ·rw [if_neg (show ¬ ((n : Int) > ((b.length - q : Nat) : Int)) by omega), if_neg (show ¬ (7424 < n ∨ b.length - q < n) by omega)]
    have hw : wrap64 (n : Int) = (n : Int) := zk154
    rw [hw]; exact ⟨fun l q h => by cases h; rfl, fun h => by simp at h⟩
theorem cnt_ok (hb : WBy b) {n q : Nat} (hn : cntAt b p 7424 = some (n, q)) : ∀ W, RG w0 w g b W p false → Calls Try.prog 43 #[.pointer (some ⟨g, 0, none⟩), .int .i64 7424] W fun e w' => e = .returned (.int .i64 (n : Int)) ∧ RG w0 w g b w' q false ∧ KeepBut W w' g none :=
 fun _ h => h.callC ((count_eq hb p).1 n q hn)
theorem cnt_no (hb : WBy b) (hn : cntAt b p 7424 = none) : ∃ q : Int, ∀ W, RG w0 w g b W p false → Calls Try.prog 43 #[.pointer (some ⟨g, 0, none⟩), .int .i64 7424] W fun e w' => e = .returned (.int .i64 0) ∧ RG w0 w g b w' q true ∧ KeepBut W w' g none := by
 obtain ⟨q, hq⟩ := (count_eq hb p).2 hn; exact ⟨q, fun _ h => h.callC hq⟩
theorem cnt_was : ∀ W, RG w0 w g b W p true → Calls Try.prog 43 #[.pointer (some ⟨g, 0, none⟩), .int .i64 7424] W fun e w' => e = .returned (.int .i64 0) ∧ RG w0 w g b w' p true ∧ KeepBut W w' g none := by
 intro W h; refine h.callC (k := 40) ?_; unfold varveref04_R_Count.f; rw [rnum_bad b p 40 zk47, Option.bind_some, if_pos rfl]
end
end Go.Proofs.Ytplgffbfepnihaa
namespace Go.Proofs.Ytplgffbfepnihaa
open Go.RowKit Go.Maps Go.Deep Go.Proofs.YtplgffbfepnihaaW.PrintWords Go.Proofs.YtplgffbfepnihaaW.PrintLast Go.Proofs.YtplgffbfepnihaaW.PrintMore Go.Proofs.Ytplgffbfepnihaa.Hi Go.Proofs.Ytplgffbfepnihaa.Vt Go.Proofs.Ytplgffbfepnihaa.Hb Go.Proofs.Ytplgffbfepnihaa.Pure
def RefPost (o : Option (List S70 × Nat)) (w0 w : World) (g : Nat) (b : List Int) (e : Ending) (w' : World) : Prop :=
 (∀ l q, o = some (l, q) → ∃ r, e = .returned r ∧ Kd.R k70 70 w' w.heap.size (fun _ => True) r l ∧ RG w0 w g b w' (q : Int) false) ∧
 (o = none → ∃ q, e = .returned (.slice none 0 0) ∧ RG w0 w g b w' q true)
theorem RefPost.no {o : Option (List S70 × Nat)} {w0 w : World} {g : Nat} {b : List Int} {w' : World} {q : Int} (h : o = none) (hs : RG w0 w g b w' q true) : RefPost o w0 w g b (.returned (.slice none 0 0)) w' :=
 ⟨(fun l q e => by rw [h] at e; cases e), fun _ => ⟨q, rfl, hs⟩⟩
theorem refH_no {b : List Int} {a : Int} (h : refRd b a = none) : refH b a = none := by unfold refH; rw [h]
theorem str_c8 {W : World} {A : Option Addr} {c : Nat} {b : List Int} (hC : Kd.C (Kd.int .u8) W A b.length b) : (convert 22 9 (.slice A b.length c)).run Try.prog W = .ok (.string (strOfNums b)) W :=
 Kd.C_string (e := 5) zk11 zk11 zk11 hC
theorem ofInt8_inj {x y : Int} (hx : 0 ≤ x ∧ x < 256) (hy : 0 ≤ y ∧ y < 256) (h : UInt8.ofNat x.toNat = UInt8.ofNat y.toNat) : x = y := by
 have := congrArg UInt8.toNat h; simp at this; omega
theorem strOfNums_inj {a b : List Int} (ha : ∀ x ∈ a, 0 ≤ x ∧ x < 256) (hb : ∀ x ∈ b, 0 ≤ x ∧ x < 256) : strOfNums a = strOfNums b ↔ a = b := by
 refine ⟨fun h => ?_, fun h => by rw [h]⟩; have h1 : (strOfNums a).data = (strOfNums b).data := congrArg _ h; simp only [strOfNums] at h1; have h2 := congrArg Array.toList h1; simp at h2; clear h h1
 induction a generalizing b with
 | nil => cases b with
  | nil => rfl
  | cons y r => simp at h2
 | cons x l ih =>
  cases b with
  | nil => simp at h2
  | cons y r =>
   simp only [List.map_cons, List.cons.injEq] at h2; rw [ofInt8_inj (ha x (List.mem_cons_self ..)) (hb y (List.mem_cons_self ..)) h2.1, ih (fun z hz => ha z (List.mem_cons_of_mem _ hz)) (fun z hz => hb z (List.mem_cons_of_mem _ hz)) h2.2]
theorem str_ne {x y : ByteArray} (h : ¬ x = y) : (x.toList == y.toList) = false :=
 beq_eq_false_iff_ne.mpr fun e => h (by apply ByteArray.ext; apply Array.ext'; rw [ByteArray.toList_eq, ByteArray.toList_eq] at e; exact e)
theorem encN_by (n : Nat) : ∀ x ∈ encN n, 0 ≤ x ∧ x < 256 := by
 induction n using Nat.strongRecOn with
 | _ n ih =>
  intro x hx; by_cases c : n < 128
  ·rw [encN_low c] at hx; simp at hx; omega
  ·rw [encN_high c] at hx
   rcases List.mem_cons.1 hx with d | d
   ·omega
   ·exact ih (n / 128) zk6 x d
theorem gaps_by : ∀ (l : List S70) (next : Int), ∀ x ∈ gaps next l, 0 ≤ x ∧ x < 256
 | [], _ => fun x hx => by cases hx
 | y :: r, next => fun x hx => by
  rw [gaps] at hx
  rcases List.mem_append.1 hx with hx | hx
  ·exact zk231
  ·exact gaps_by r _ x hx
theorem spots_by : ∀ (m : Nat) (next : Int) (l : List S70), ∀ x ∈ spots m next l, 0 ≤ x ∧ x < 256
 | 0, _, _ => fun x hx => by rw [spots] at hx; cases hx
 | m + 1, next, [] => fun x hx => by
  rw [spots] at hx
  rcases List.mem_cons.1 hx with rfl | hx
  ·omega
  ·exact spots_by m _ _ x hx
 | m + 1, next, y :: r => fun x hx => by
  rw [spots] at hx; split at hx
  ·rcases List.mem_append.1 hx with hx | hx
   ·exact encN_by _ x hx
   ·exact spots_by m _ _ x hx
  ·rcases List.mem_cons.1 hx with rfl | hx
   ·omega
   ·exact spots_by m _ _ x hx
theorem formB_by (l : List S70) : ∀ x ∈ formB l, 0 ≤ x ∧ x < 256 := by
 have h1 : ∀ x ∈ sparseB l, 0 ≤ x ∧ x < 256 := fun x hx => by
  rw [sparseB] at hx
  rcases List.mem_append.1 hx with hx | hx
  ·exact zk231
  ·exact gaps_by _ _ x hx
 have h2 : ∀ x ∈ denseB l, 0 ≤ x ∧ x < 256 := fun x hx => by
  rw [denseB] at hx
  rcases List.mem_append.1 hx with hx | hx
  ·rcases List.mem_append.1 hx with hx | hx
   ·exact zk231
   ·exact encN_by _ x hx
  ·exact spots_by _ _ _ x hx
 intro x hx; unfold formB at hx; split at hx
 ·exact h1 x hx
 ·split at hx
  ·exact h2 x hx
  ·exact h1 x hx
set_option maxHeartbeats 8000000 in
set_option maxRecDepth 100000 in
theorem refGet_any {w0 w : World} {g : Nat} {b : List Int} (hb : WBy b) (a : Int) (hI : IsS29 w0 w g b a false) (hB : Below w0.heap.size w0 w) :
  Calls Try.prog 11 #[.pointer (some ⟨g, 0, none⟩)] w (RefPost (refH b a) w0 w g b) := by
 have HB := Lib.hid hb; have hs : RG w0 w g b w a false := ⟨hI, hB, KeepBut.refl _ _ _⟩
 have HGL := Lib.hid hs.lt; have HWW := Lib.hid hB.size; have pa := hs.at_; have pb := hs.bad_; have pf := hs.frozen 2; have HS := Lib.hid hs; clear hI hB hs
 cases h0 : numAt b a with
 | none =>
  obtain ⟨q0, hq0⟩ := num_no (w0 := w0) (w := w) (g := g) HB.out h0; have H1 := Lib.hid hq0; have H2 := Lib.hid (cnt_was (w0 := w0) (w := w) (g := g) (b := b) (p := q0)); have HN := Lib.hid (show refH b a = none from refH_no (by unfold refRd; rw [h0])); clear h0 hq0 hb; go_enter Try.func11, Try.ntmps11; (go_wp2_with (first | (go_at_call 42; (with_reducible refine (H1.out _ HS.out).mono ?_); rintro e wn ⟨rfl, hs, hk⟩; clear HS H1; (try clear pb pf); have pb := hs.bad_; have pf := hs.frozen 2; have HS := Lib.hid hs; clear hs hk) | (go_at_call 43; (with_reducible refine (H2.out _ HS.out).mono ?_); rintro e wn ⟨rfl, hs, hk⟩; clear HS H2; (try clear pb pf); have pb := hs.bad_; have pf := hs.frozen 2; have HS := Lib.hid hs; clear hs hk))); clear pb pf; go_loopw [4, 6, 7] (fun v4 v6 v7 wr => v7 = .int .i64 0 ∧ ∃ q, RG w0 w g b wr q true) (fun _ _ _ _ => 0)
  case atStart => exact ⟨rfl, _, zk153⟩
  case round =>
   clear HS; obtain ⟨rfl, q, hs⟩ := hrel; have pb := hs.bad_; have pf := hs.frozen 2; have HS := Lib.hid hs; clear hs; go_wp2; go_ret
   exact zk243
 | some x =>
  obtain ⟨h, p0⟩ := x; have h64 := numAt_at HB.out h0; have H1 := Lib.hid (num_ok (w0 := w0) (w := w) (g := g) HB.out h0)
  rcases (show h = 0 ∨ h = 1 ∨ 1 < h by omega) with rfl | rfl | hh
  ·cases hc : cntAt b (p0 : Int) 7424 with
   | none =>
    obtain ⟨q0, hq0⟩ := cnt_no (w0 := w0) (w := w) (g := g) HB.out hc; have H2 := Lib.hid hq0; have HN := Lib.hid (show refH b a = none from refH_no (by unfold refRd; rw [h0]; simp only; rw [if_pos zk190, hc])); clear h0 hc hq0 hb h64; go_enter Try.func11, Try.ntmps11; (go_wp2_with (first | (go_at_call 42; (with_reducible refine (H1.out _ HS.out).mono ?_); rintro e wn ⟨rfl, hs, hk⟩; clear HS H1; (try clear pb pf); have pb := hs.bad_; have pf := hs.frozen 2; have HS := Lib.hid hs; clear hs hk) | (go_at_call 43; (with_reducible refine (H2.out _ HS.out).mono ?_); rintro e wn ⟨rfl, hs, hk⟩; clear HS H2; (try clear pb pf); have pb := hs.bad_; have pf := hs.frozen 2; have HS := Lib.hid hs; clear hs hk))); clear pb pf; go_loopw [4, 6, 7] (fun v4 v6 v7 wr => v7 = .int .i64 0 ∧ ∃ q, RG w0 w g b wr q true) (fun _ _ _ _ => 0)
    case atStart => exact ⟨rfl, _, zk153⟩
    case round =>
     clear HS; obtain ⟨rfl, q, hs⟩ := hrel; have pb := hs.bad_; have pf := hs.frozen 2; have HS := Lib.hid hs; clear hs; go_wp2; go_ret
     exact zk243
   | some y =>
    obtain ⟨n, p1⟩ := y; have hcn := cntAt_at HB.out hc; have H2 := Lib.hid (cnt_ok (w0 := w0) (w := w) (g := g) HB.out hc); have HE := Lib.hid (show refRd b a = refSp b n (-1) p1 [] by unfold refRd; rw [h0]; simp only; rw [if_pos zk190, hc]); have HM := Lib.hid hcn.2.1; clear h0 hc hb h64 hcn; go_enter Try.func11, Try.ntmps11; (go_wp2_with (first | (go_at_call 42; (with_reducible refine (H1.out _ HS.out).mono ?_); rintro e wn ⟨rfl, hs, hk⟩; clear HS H1; (try clear pb pf); have pb := hs.bad_; have pf := hs.frozen 2; have HS := Lib.hid hs; clear hs hk) | (go_at_call 43; (with_reducible refine (H2.out _ HS.out).mono ?_); rintro e wn ⟨rfl, hs, hk⟩; clear HS H2; (try clear pb pf); have pb := hs.bad_; have pf := hs.frozen 2; have HS := Lib.hid hs; clear hs hk))); clear pa pb pf; go_loopw [4, 6, 7] (fun v4 v6 v7 wr => ∃ (i : Nat) (last : Int) (acc : List S70), v7 = .int .i64 (i : Int) ∧ v6 = .int .i64 last ∧ i ≤ n ∧ -1 ≤ last ∧ last ≤ 7425 * i ∧ acc.length ≤ i ∧ Kd.R k70 70 wr w.heap.size (fun k => k ≠ g) v4 acc ∧ ((∃ q, RG w0 w g b wr q true ∧ refH b a = none) ∨ (∃ p : Nat, RG w0 w g b wr (p : Int) false ∧ refSp b n (-1) p1 [] = refSp b (n - i) last p acc))) (fun _ _ v7 _ => n - (intOf v7).toNat)
    case atStart => exact ⟨0, -1, [], rfl, rfl, Nat.zero_le _, zk6, zk6, Nat.le_refl _, Kd.R_nil _ _ _ _ _, .inr ⟨p1, HS.out, rfl⟩⟩
    case round =>
     clear HS; obtain ⟨i, last, acc, rfl, rfl, hi, hl1, hl2, hla, hR, hst⟩ := hrel; have HR := Lib.hid hR; clear hR; have hn7 := HM.out; have HI := Lib.hid (show acc.length ≤ i ∧ i ≤ n ∧ n ≤ 7424 by omega)
     rcases hst with ⟨q, hs, hn⟩ | ⟨p, hs, heq⟩
     ·have HN := Lib.hid hn; clear hn
      have pb := hs.bad_; have pf := hs.frozen 2; have HS := Lib.hid hs; clear hs; by_cases hin : i < n
      ·have e5 : decide ((i : Int) < (n : Int)) = true := decide_eq_true zk6
       have e5b : decide (i < n) = true := decide_eq_true hin; go_wp2; go_ret
       exact zk243
      ·have e5 : decide ((i : Int) < (n : Int)) = false := decide_eq_false zk6
       have e5b : decide (i < n) = false := decide_eq_false hin; go_wp2; go_ret
       exact zk243
     have HQ := Lib.hid heq; clear heq; have pb := hs.bad_; have pf := hs.frozen 2; have HS := Lib.hid hs; clear hs; by_cases hin : i < n
     ·have e5 : decide ((i : Int) < (n : Int)) = true := decide_eq_true zk6
      have e5b : decide (i < n) = true := decide_eq_true hin; obtain ⟨m, hm⟩ : ∃ m, n - i = m + 1 := ⟨n - i - 1, zk6⟩
      have hgo := HQ.out; rw [hm, refSp] at hgo; have HIN := Lib.hid hin; clear HQ
      cases hq : numAt b (p : Int) with
      | none =>
       obtain ⟨q1, hq1⟩ := num_no (w0 := w0) (w := w) (g := g) HB.out hq; have HA := Lib.hid hq1; have HD := Lib.hid (num_was (w0 := w0) (w := w) (g := g) (b := b) (p := q1)); have HN := Lib.hid (show refH b a = none from refH_no (by rw [HE.out, hgo, hq])); have ew1 : IntKind.i64.wrap (last + 1) = last + 1 := zk162
       clear hgo hq hq1 hin; (go_wp2_with (first | (go_at_call 42; (with_reducible refine (HA.out _ HS.out).mono ?_); rintro e wn ⟨rfl, hs, hk⟩; clear HS HA; (try clear pb pf); have HR_ := Lib.hid (Kd.R_keep HR.out hk (fun k h => h)); clear HR; have HR := Lib.hid HR_.out; clear HR_; have pb := hs.bad_; have pf := hs.frozen 2; have HS := Lib.hid hs; clear hs hk) | (go_at_call 42; (with_reducible refine (HD.out _ HS.out).mono ?_); rintro e wn ⟨rfl, hs, hk⟩; clear HS HD; (try clear pb pf); have HR_ := Lib.hid (Kd.R_keep HR.out hk (fun k h => h)); clear HR; have HR := Lib.hid HR_.out; clear HR_; have pb := hs.bad_; have pf := hs.frozen 2; have HS := Lib.hid hs; clear hs hk) | ((with_reducible refine gate_builtin (b := .append) (xs := #[.tmp 53, .tmp 57]) rfl ?_); at_builtin; go_must (refine Kd.R_append k70 (w0 := _) w.heap.size rfl (.tmp 53) (.tmp 57) 23 70 (.agg #[(.int .i64 0), (.int .u64 0)]) 16 rfl Try.underlying23 info70 rfl zk47 zk6 u4 acc (⟨last + 1, 0⟩ : S70) [.int .i64 (last + 1), .int .u64 (0)] (fun k => k ≠ g) (fun _ => False) rfl rfl ?aP (fun _ hk => hk.elim) ?aF ?aO (Below.refl _ _) ?aS ?aL ?_; (case aP => exact k70_mkM _ _ _ (⟨last + 1, 0⟩ : S70)); (case aF => exact zk158); (case aO => exact HR.out); (case aS => exact HS.out.2.2.1); (case aL => exact zk97); intro v5 w5 ho5 hb5 hg5 hat5; have HO5 := Lib.hid ho5; have hs := HS.out.keeps hb5 HGL.out HWW.out; clear HS; have HS := Lib.hid hs; clear hs ho5 hb5 hg5 hat5 pb pf)))); go_roundw
       case rel => exact ⟨i + 1, last + 1, acc ++ [⟨last + 1, 0⟩], zk108, zk108, zk188, zk6, zk6, zk145, HO5.out, .inl ⟨_, HS.out, HN.out⟩⟩
       case measure => have := HIN.out; simp [intOf]; omega
      | some z =>
       obtain ⟨d, q1⟩ := z; have hv1 := numAt_at HB.out hq; have HA := Lib.hid (num_ok (w0 := w0) (w := w) (g := g) HB.out hq); rw [hq] at hgo; simp only at hgo; by_cases hd : 7424 ≤ d
       ·have ed : decide ((7424 : Int) ≤ (d : Int)) = true := decide_eq_true zk6
        have edb : decide (7424 ≤ d) = true := decide_eq_true hd
        cases hq2 : numAt b (q1 : Int) with
        | none =>
         obtain ⟨q2, hq2'⟩ := num_no (w0 := w0) (w := w) (g := g) HB.out hq2; have HD := Lib.hid hq2'; have HN := Lib.hid (show refH b a = none from refH_no (by rw [HE.out, hgo, hq2])); clear hgo hq2 hq2' hq hin; (go_wp2_with (first | (go_at_call 42; (with_reducible refine (HA.out _ HS.out).mono ?_); rintro e wn ⟨rfl, hs, hk⟩; clear HS HA; (try clear pb pf); have HR_ := Lib.hid (Kd.R_keep HR.out hk (fun k h => h)); clear HR; have HR := Lib.hid HR_.out; clear HR_; have pb := hs.bad_; have pf := hs.frozen 2; have HS := Lib.hid hs; clear hs hk) | (go_at_call 42; (with_reducible refine (HD.out _ HS.out).mono ?_); rintro e wn ⟨rfl, hs, hk⟩; clear HS HD; (try clear pb pf); have HR_ := Lib.hid (Kd.R_keep HR.out hk (fun k h => h)); clear HR; have HR := Lib.hid HR_.out; clear HR_; have pb := hs.bad_; have pf := hs.frozen 2; have HS := Lib.hid hs; clear hs hk))); go_ret
         exact zk243
        | some z2 =>
         obtain ⟨c, q2⟩ := z2; have HD := Lib.hid (num_ok (w0 := w0) (w := w) (g := g) HB.out hq2); rw [hq2] at hgo; simp only at hgo; have HN := Lib.hid (show refH b a = none from refH_no (by rw [HE.out, hgo, if_pos hd])); clear hgo hq2 hq hin; (go_wp2_with (first | (go_at_call 42; (with_reducible refine (HA.out _ HS.out).mono ?_); rintro e wn ⟨rfl, hs, hk⟩; clear HS HA; (try clear pb pf); have HR_ := Lib.hid (Kd.R_keep HR.out hk (fun k h => h)); clear HR; have HR := Lib.hid HR_.out; clear HR_; have pb := hs.bad_; have pf := hs.frozen 2; have HS := Lib.hid hs; clear hs hk) | (go_at_call 42; (with_reducible refine (HD.out _ HS.out).mono ?_); rintro e wn ⟨rfl, hs, hk⟩; clear HS HD; (try clear pb pf); have HR_ := Lib.hid (Kd.R_keep HR.out hk (fun k h => h)); clear HR; have HR := Lib.hid HR_.out; clear HR_; have pb := hs.bad_; have pf := hs.frozen 2; have HS := Lib.hid hs; clear hs hk))); go_ret
         exact zk243
       ·have ed : decide ((7424 : Int) ≤ (d : Int)) = false := decide_eq_false zk6
        have edb : decide (7424 ≤ d) = false := decide_eq_false hd; have ew1 : IntKind.i64.wrap (last + 1) = last + 1 := zk162
        have ew2 : IntKind.i64.wrap ((d : Int)) = (d : Int) := zk143
        have ew3 : IntKind.i64.wrap (last + 1 + (d : Int)) = last + 1 + (d : Int) := zk162
        cases hq2 : numAt b (q1 : Int) with
        | none =>
         obtain ⟨q2, hq2'⟩ := num_no (w0 := w0) (w := w) (g := g) HB.out hq2; have HD := Lib.hid hq2'; have HN := Lib.hid (show refH b a = none from refH_no (by rw [HE.out, hgo, hq2])); clear hgo hq2 hq2' hq hin; (go_wp2_with (first | (go_at_call 42; (with_reducible refine (HA.out _ HS.out).mono ?_); rintro e wn ⟨rfl, hs, hk⟩; clear HS HA; (try clear pb pf); have HR_ := Lib.hid (Kd.R_keep HR.out hk (fun k h => h)); clear HR; have HR := Lib.hid HR_.out; clear HR_; have pb := hs.bad_; have pf := hs.frozen 2; have HS := Lib.hid hs; clear hs hk) | (go_at_call 42; (with_reducible refine (HD.out _ HS.out).mono ?_); rintro e wn ⟨rfl, hs, hk⟩; clear HS HD; (try clear pb pf); have HR_ := Lib.hid (Kd.R_keep HR.out hk (fun k h => h)); clear HR; have HR := Lib.hid HR_.out; clear HR_; have pb := hs.bad_; have pf := hs.frozen 2; have HS := Lib.hid hs; clear hs hk) | ((with_reducible refine gate_builtin (b := .append) (xs := #[.tmp 53, .tmp 57]) rfl ?_); at_builtin; go_must (refine Kd.R_append k70 (w0 := _) w.heap.size rfl (.tmp 53) (.tmp 57) 23 70 (.agg #[(.int .i64 0), (.int .u64 0)]) 16 rfl Try.underlying23 info70 rfl zk47 zk6 u4 acc (⟨last + 1 + (d : Int), 0⟩ : S70) [.int .i64 (last + 1 + (d : Int)), .int .u64 (0)] (fun k => k ≠ g) (fun _ => False) rfl rfl ?aP (fun _ hk => hk.elim) ?aF ?aO (Below.refl _ _) ?aS ?aL ?_; (case aP => exact k70_mkM _ _ _ (⟨last + 1 + (d : Int), 0⟩ : S70)); (case aF => exact zk158); (case aO => exact HR.out); (case aS => exact HS.out.2.2.1); (case aL => exact zk97); intro v5 w5 ho5 hb5 hg5 hat5; have HO5 := Lib.hid ho5; have hs := HS.out.keeps hb5 HGL.out HWW.out; clear HS; have HS := Lib.hid hs; clear hs ho5 hb5 hg5 hat5 pb pf)))); go_roundw
         case rel => exact ⟨i + 1, last + 1 + (d : Int), acc ++ [⟨last + 1 + (d : Int), 0⟩], zk108, zk108, zk188, zk6, zk6, zk145, HO5.out, .inl ⟨_, HS.out, HN.out⟩⟩
         case measure => have := HIN.out; simp [intOf]; omega
        | some z2 =>
         obtain ⟨c, q2⟩ := z2; have HD := Lib.hid (num_ok (w0 := w0) (w := w) (g := g) HB.out hq2); rw [hq2] at hgo; simp only at hgo; have HN := Lib.hid (show refSp b n (-1) p1 [] = refSp b (n - (i + 1)) (last + 1 + (d : Int)) q2 (acc ++ [⟨last + 1 + (d : Int), (c : Int)⟩]) by rw [hgo, if_neg hd, show n - (i + 1) = m by omega]); clear hgo hq2 hq hin; (go_wp2_with (first | (go_at_call 42; (with_reducible refine (HA.out _ HS.out).mono ?_); rintro e wn ⟨rfl, hs, hk⟩; clear HS HA; (try clear pb pf); have HR_ := Lib.hid (Kd.R_keep HR.out hk (fun k h => h)); clear HR; have HR := Lib.hid HR_.out; clear HR_; have pb := hs.bad_; have pf := hs.frozen 2; have HS := Lib.hid hs; clear hs hk) | (go_at_call 42; (with_reducible refine (HD.out _ HS.out).mono ?_); rintro e wn ⟨rfl, hs, hk⟩; clear HS HD; (try clear pb pf); have HR_ := Lib.hid (Kd.R_keep HR.out hk (fun k h => h)); clear HR; have HR := Lib.hid HR_.out; clear HR_; have pb := hs.bad_; have pf := hs.frozen 2; have HS := Lib.hid hs; clear hs hk) | ((with_reducible refine gate_builtin (b := .append) (xs := #[.tmp 53, .tmp 57]) rfl ?_); at_builtin; go_must (refine Kd.R_append k70 (w0 := _) w.heap.size rfl (.tmp 53) (.tmp 57) 23 70 (.agg #[(.int .i64 0), (.int .u64 0)]) 16 rfl Try.underlying23 info70 rfl zk47 zk6 u4 acc (⟨last + 1 + (d : Int), (c : Int)⟩ : S70) [.int .i64 (last + 1 + (d : Int)), .int .u64 ((c : Int))] (fun k => k ≠ g) (fun _ => False) rfl rfl ?aP (fun _ hk => hk.elim) ?aF ?aO (Below.refl _ _) ?aS ?aL ?_; (case aP => exact k70_mkM _ _ _ (⟨last + 1 + (d : Int), (c : Int)⟩ : S70)); (case aF => exact zk158); (case aO => exact HR.out); (case aS => exact HS.out.2.2.1); (case aL => exact zk97); intro v5 w5 ho5 hb5 hg5 hat5; have HO5 := Lib.hid ho5; have hs := HS.out.keeps hb5 HGL.out HWW.out; clear HS; have HS := Lib.hid hs; clear hs ho5 hb5 hg5 hat5 pb pf)))); go_roundw
         case rel => exact ⟨i + 1, last + 1 + (d : Int), acc ++ [⟨last + 1 + (d : Int), (c : Int)⟩], zk108, zk108, zk188, zk6, zk6, zk145, HO5.out, .inr ⟨_, HS.out, HN.out⟩⟩
         case measure => have := HIN.out; simp [intOf]; omega
     ·have e5 : decide ((i : Int) < (n : Int)) = false := decide_eq_false zk6
      have e5b : decide (i < n) = false := decide_eq_false hin; obtain rfl : i = n := zk6
      have HF := Lib.hid (show refRd b a = some (acc, p) by rw [HE.out, HQ.out, Nat.sub_self]; rfl); have hok := refRd_ok HB.out HF.out; obtain ⟨A1, c1, rfl, lc1, hC1⟩ := Kd.R_reads HR.out; have CK := Lib.hid (varveref07_Check.calls (acc.length + 1) A1 c1 acc (chk acc) wr hC1 lc1 (refCheck_eq acc zk6 _ zk6))
      cases hk : chk acc with
      | false =>
       have HN := Lib.hid (show refH b a = none by unfold refH; rw [HF.out]; simp only; rw [if_neg (by rw [hk]; simp)]); rw [hk] at CK; clear hok lc1 hC1 hk; (go_wp2_with (go_at_call 16; (with_reducible refine CK.out.mono ?_); rintro e wn ⟨rfl, hd⟩; have hs := HS.out.all hd.below; clear HS CK pb pf; have pb := hs.bad_; have pf := hs.frozen 2; have HS := Lib.hid hs; clear hs hd)); go_ret
       exact zk243
      | true =>
       rw [hk] at CK; have PU := Lib.hid (fun W (h1 : Kd.C k70 W A1 acc.length acc) => varveref07_Put.calls 8000 A1 c1 acc (formB acc) W h1 lc1 (refPut_eq acc hk hok.2.2.2.1 8000 zk47)); have HX := Lib.hid (show refH b a = if formB acc = (b.take p).drop a.toNat then some (acc, p) else none by unfold refH; rw [HF.out]; simp only; rw [hk]; simp); have hxb : ∀ x ∈ (b.take p).drop a.toNat, 0 ≤ x ∧ x < 256 := fun x hx => HB.out.2 x (List.mem_of_mem_take (List.mem_of_mem_drop hx)); have hinj := strOfNums_inj (formB_by acc) hxb; have HC1 := Lib.hid hC1; obtain ⟨A0, c0, p0_, hc0, hC0⟩ := HS.out.bytes; obtain ⟨A2, c2, lc2, hcut, hC2⟩ := cut_c hC0 hc0 a p hok.1 hok.2.1 hok.2.2.1; have HC2 := Lib.hid hC2; have HP0 := Lib.hid p0_; clear hC0 hC2 hc0 lc2 hxb hC1 p0_; obtain ⟨X, hX⟩ : ∃ X, (b.take p).drop a.toNat = X := ⟨_, rfl⟩
       obtain ⟨Y, hY⟩ : ∃ Y, formB acc = Y := ⟨_, rfl⟩
       rw [hX] at hcut HC2 HX hinj; rw [hY] at PU HX hinj; have hsz : (strOfNums Y = strOfNums X) = (Y = X) := propext hinj; clear hinj hX hY hok lc1
       cases hd : decide (Y = X) with
       | false =>
        have HN := Lib.hid (show refH b a = none by rw [HX.out, if_neg (of_decide_eq_false hd)]); have hne : ¬ strOfNums Y = strOfNums X := by rw [hsz]; exact of_decide_eq_false hd
        have hne2 := str_ne hne; clear hd HX hsz; (go_wp2_with (go_at_call 16; (with_reducible refine CK.out.mono ?_); rintro e wn ⟨rfl, hd⟩; have hs := HS.out.all hd.below; clear HS CK pb pf; have pb := hs.bad_; have pf := hs.frozen 2; have HS := Lib.hid hs; have HC1_ := Lib.hid (Kd.C_below HC1.out hd.below); clear HC1; have HC1 := Lib.hid HC1_.out; clear HC1_; have HC2_ := Lib.hid (Kd.C_below HC2.out hd.below); clear HC2; have HC2 := Lib.hid HC2_.out; clear HC2_; have HR_ := Lib.hid (Kd.R_below HR.out hd.below); clear HR; have HR := Lib.hid HR_.out; clear HR_; have HP0_ := Lib.hid (pw_cell_below hd.below HP0.out); clear HP0; have HP0 := Lib.hid HP0_.out; clear HP0_; clear hs hd)); clear pb pf; have hs := HS.out.drew; clear HS; have HS := Lib.hid hs; clear hs; have HC1_ := Lib.hid (Kd.C_drew HC1.out); clear HC1; have HC1 := Lib.hid HC1_.out; clear HC1_; have HC2_ := Lib.hid (Kd.C_drew HC2.out); clear HC2; have HC2 := Lib.hid HC2_.out; clear HC2_; have HR_ := Lib.hid (Kd.R_drew HR.out); clear HR; have HR := Lib.hid HR_.out; clear HR_; have HP0_ := Lib.hid (pw_cell_below (below_drew (Below.refl _ _)) HP0.out); clear HP0; have HP0 := Lib.hid HP0_.out; clear HP0_; refine wp_region_noPanic ?_; refine start_ (n := 15) (S := fun w' => w'.cell? ⟨g, 0, none⟩ = some (.slice A0 b.length c0) ∧ w'.cell? ⟨g, 1, none⟩ = some (.int .i64 (p : Int)) ∧ (convert 22 9 (.slice A2 X.length c2)).run Try.prog w' = .ok (.string (strOfNums X)) w') (ds := []) #[false, false, false, false, false, false, false, false, false, false, false, false, false, false, false] zk11 rfl rfl ⟨HP0.out, HS.out.at_, str_c8 HC2.out⟩ (fun hHeld => ?_); refine pure_ (i := 0) (N := some 107) (v := ?_) (a' := ?_) #[true, false, false, false, false, false, false, false, false, false, false, false, false, false, false] rfl rfl zk11 (fun _ _ _ h => h) (Or.inl ⟨zk50, ?_⟩) ?_ ?_; rotate_left
        ·exact zk207
        rotate_left
        ·exact zk206
        refine pure_ (i := 3) (N := some 110) (v := ?_) (a' := ?_) #[true, false, false, true, false, false, false, false, false, false, false, false, false, false, false] rfl rfl zk11 (fun _ _ _ h => h) (Or.inl ⟨zk50, ?_⟩) ?_ ?_; rotate_left
        ·exact zk207
        rotate_left
        ·exact zk206
        refine pure_ (i := 4) (N := some 111) (v := ?_) (a' := ?_) #[true, false, false, true, true, false, false, false, false, false, false, false, false, false, false] rfl rfl zk11 (fun _ _ _ h => h) (Or.inl ⟨zk50, ?_⟩) ?_ ?_; rotate_left
        ·exact zk207
        rotate_left
        ·exact zk206
        refine pure_ (i := 5) (N := some 112) (v := ?_) (a' := ?_) #[true, false, false, true, true, true, false, false, false, false, false, false, false, false, false] rfl rfl zk11 (fun _ _ _ h => h) (Or.inl ⟨zk50, ?_⟩) ?_ ?_; rotate_left
        ·exact zk207
        rotate_left
        ·exact zk206
        refine take_ (i := 6) (N := some 113) (v := ?_) (a' := ?_) #[true, false, false, true, true, true, true, false, false, false, false, false, false, false, false] rfl rfl zk11 (fun _ _ _ h => h) (Or.inl ⟨zk50, ?_⟩) hHeld ?_ ?_; rotate_left
        ·exact zk209
        rotate_left
        ·exact zk206
        refine pure_ (i := 7) (N := some 114) (v := ?_) (a' := ?_) #[true, false, false, true, true, true, true, true, false, false, false, false, false, false, false] rfl rfl zk11 (fun _ _ _ h => h) (Or.inl ⟨zk50, ?_⟩) ?_ ?_; rotate_left
        ·exact zk207
        rotate_left
        ·exact zk206
        refine pure_ (i := 8) (N := some 115) (v := ?_) (a' := ?_) #[true, false, false, true, true, true, true, true, true, false, false, false, false, false, false] rfl rfl zk11 (fun _ _ _ h => h) (Or.inl ⟨zk50, ?_⟩) ?_ ?_; rotate_left
        ·exact zk207
        rotate_left
        ·exact zk206
        refine pure_ (i := 9) (N := some 116) (v := ?_) (a' := ?_) #[true, false, false, true, true, true, true, true, true, true, false, false, false, false, false] rfl rfl zk11 (fun _ _ _ h => h) (Or.inl ⟨zk50, ?_⟩) ?_ ?_; rotate_left
        ·exact zk207
        rotate_left
        ·exact zk206
        refine pure_ (i := 10) (N := some 117) (v := ?_) (a' := ?_) #[true, false, false, true, true, true, true, true, true, true, true, false, false, false, false] rfl rfl zk11 (fun _ _ _ h => h) (Or.inl ⟨zk50, ?_⟩) ?_ ?_; rotate_left
        ·exact zk207
        rotate_left
        ·exact zk206
        refine take_ (i := 11) (N := some 118) (v := ?_) (a' := ?_) #[true, false, false, true, true, true, true, true, true, true, true, true, false, false, false] rfl rfl zk11 (fun _ _ _ h => h) (Or.inl ⟨zk50, ?_⟩) hHeld ?_ ?_; rotate_left
        ·exact zk209
        rotate_left
        ·exact zk206
        refine pure_ (i := 12) (N := some 119) (v := ?_) (a' := ?_) #[true, false, false, true, true, true, true, true, true, true, true, true, true, false, false] rfl rfl zk11 (fun _ _ _ h => h) (Or.inl ⟨zk50, ?_⟩) ?_ ?_; rotate_left
        ·exact zk207
        rotate_left
        ·exact zk206
        refine take_ (i := 13) (N := some 120) (v := ?_) (a' := ?_) #[true, false, false, true, true, true, true, true, true, true, true, true, true, true, false] rfl rfl zk11 (fun _ _ _ h => h) (Or.inl ⟨zk50, ?_⟩) hHeld ?_ ?_; rotate_left
        ·exact zk209
        rotate_left
        ·exact zk206
        refine one_ (i := 1) (N := some 108) #[true, true, false, true, true, true, true, true, true, true, true, true, true, true, false] rfl rfl zk11 zk56 (fun K hK => ?_); refine goes_ Try.func17 zk11 rfl #[.slice A1 acc.length c1] zk50 rfl rfl zk39 ?_; refine (PU.out _ HC1.out).mono ?_; rintro e wm ⟨v3, rfl, hR3, hb3⟩; refine ⟨_, rfl, ?_⟩; obtain ⟨A3, c3, rfl, lc3, hC3⟩ := Kd.R_reads hR3; have s3 := str_c8 (c := c3) hC3; have hs := HS.out.all hb3; clear HS; have HS := Lib.hid hs; clear hs; have HP0_ := Lib.hid (pw_cell_below hb3 HP0.out); clear HP0; have HP0 := Lib.hid HP0_.out; clear HP0_; have HC2_ := Lib.hid (Kd.C_below HC2.out hb3); clear HC2; have HC2 := Lib.hid HC2_.out; clear HC2_; have HR_ := Lib.hid (Kd.R_below HR.out hb3); clear HR; have HR := Lib.hid HR_.out; clear HR_; clear hb3 hR3 hC3 PU; clear hHeld; refine hK.out _ _ ⟨HP0.out, HS.out.at_, str_c8 HC2.out⟩ (fun hHeld => ?_); clear hK K; refine norm_ (a' := ?_) ?_ ?_; rotate_left
        ·exact zk211
        refine one_ (i := 2) (N := some 109) #[true, true, true, true, true, true, true, true, true, true, true, true, true, true, false] rfl rfl zk11 zk56 (fun K hK => ?_); refine value_ (v := .string (strOfNums Y)) (w1 := wm) zk50 rfl ?_ ?_
        ·go_simp
        clear hHeld; refine hK.out _ _ ⟨HP0.out, HS.out.at_, str_c8 HC2.out⟩ (fun hHeld => ?_); clear hK K; refine norm_ (a' := ?_) ?_ ?_; rotate_left
        ·exact zk212
        clear s3; refine pure_ (i := 14) (N := some 121) (v := ?_) (a' := ?_) #[true, true, true, true, true, true, true, true, true, true, true, true, true, true, true] rfl rfl zk11 (fun _ _ _ h => h) (Or.inl ⟨zk50, ?_⟩) ?_ ?_; rotate_left
        ·exact zk207
        rotate_left
        ·exact zk206
        refine done_ zk11 ?_; refine NoPanic.normal ?_; clear hHeld; have pb := HS.out.bad_; have pf := HS.out.frozen 2; go_wp2; go_ret
        exact zk243
       | true =>
        have HN := Lib.hid (show refH b a = some (acc, p) by rw [HX.out, if_pos (of_decide_eq_true hd)]); have hne : strOfNums Y = strOfNums X := by rw [hsz]; exact of_decide_eq_true hd
        clear hd HX hsz; (go_wp2_with (go_at_call 16; (with_reducible refine CK.out.mono ?_); rintro e wn ⟨rfl, hd⟩; have hs := HS.out.all hd.below; clear HS CK pb pf; have pb := hs.bad_; have pf := hs.frozen 2; have HS := Lib.hid hs; have HC1_ := Lib.hid (Kd.C_below HC1.out hd.below); clear HC1; have HC1 := Lib.hid HC1_.out; clear HC1_; have HC2_ := Lib.hid (Kd.C_below HC2.out hd.below); clear HC2; have HC2 := Lib.hid HC2_.out; clear HC2_; have HR_ := Lib.hid (Kd.R_below HR.out hd.below); clear HR; have HR := Lib.hid HR_.out; clear HR_; have HP0_ := Lib.hid (pw_cell_below hd.below HP0.out); clear HP0; have HP0 := Lib.hid HP0_.out; clear HP0_; clear hs hd)); clear pb pf; have hs := HS.out.drew; clear HS; have HS := Lib.hid hs; clear hs; have HC1_ := Lib.hid (Kd.C_drew HC1.out); clear HC1; have HC1 := Lib.hid HC1_.out; clear HC1_; have HC2_ := Lib.hid (Kd.C_drew HC2.out); clear HC2; have HC2 := Lib.hid HC2_.out; clear HC2_; have HR_ := Lib.hid (Kd.R_drew HR.out); clear HR; have HR := Lib.hid HR_.out; clear HR_; have HP0_ := Lib.hid (pw_cell_below (below_drew (Below.refl _ _)) HP0.out); clear HP0; have HP0 := Lib.hid HP0_.out; clear HP0_; refine wp_region_noPanic ?_; refine start_ (n := 15) (S := fun w' => w'.cell? ⟨g, 0, none⟩ = some (.slice A0 b.length c0) ∧ w'.cell? ⟨g, 1, none⟩ = some (.int .i64 (p : Int)) ∧ (convert 22 9 (.slice A2 X.length c2)).run Try.prog w' = .ok (.string (strOfNums X)) w') (ds := []) #[false, false, false, false, false, false, false, false, false, false, false, false, false, false, false] zk11 rfl rfl ⟨HP0.out, HS.out.at_, str_c8 HC2.out⟩ (fun hHeld => ?_); refine pure_ (i := 0) (N := some 107) (v := ?_) (a' := ?_) #[true, false, false, false, false, false, false, false, false, false, false, false, false, false, false] rfl rfl zk11 (fun _ _ _ h => h) (Or.inl ⟨zk50, ?_⟩) ?_ ?_; rotate_left
        ·exact zk207
        rotate_left
        ·exact zk206
        refine pure_ (i := 3) (N := some 110) (v := ?_) (a' := ?_) #[true, false, false, true, false, false, false, false, false, false, false, false, false, false, false] rfl rfl zk11 (fun _ _ _ h => h) (Or.inl ⟨zk50, ?_⟩) ?_ ?_; rotate_left
        ·exact zk207
        rotate_left
        ·exact zk206
        refine pure_ (i := 4) (N := some 111) (v := ?_) (a' := ?_) #[true, false, false, true, true, false, false, false, false, false, false, false, false, false, false] rfl rfl zk11 (fun _ _ _ h => h) (Or.inl ⟨zk50, ?_⟩) ?_ ?_; rotate_left
        ·exact zk207
        rotate_left
        ·exact zk206
        refine pure_ (i := 5) (N := some 112) (v := ?_) (a' := ?_) #[true, false, false, true, true, true, false, false, false, false, false, false, false, false, false] rfl rfl zk11 (fun _ _ _ h => h) (Or.inl ⟨zk50, ?_⟩) ?_ ?_; rotate_left
        ·exact zk207
        rotate_left
        ·exact zk206
        refine take_ (i := 6) (N := some 113) (v := ?_) (a' := ?_) #[true, false, false, true, true, true, true, false, false, false, false, false, false, false, false] rfl rfl zk11 (fun _ _ _ h => h) (Or.inl ⟨zk50, ?_⟩) hHeld ?_ ?_; rotate_left
        ·exact zk209
        rotate_left
        ·exact zk206
        refine pure_ (i := 7) (N := some 114) (v := ?_) (a' := ?_) #[true, false, false, true, true, true, true, true, false, false, false, false, false, false, false] rfl rfl zk11 (fun _ _ _ h => h) (Or.inl ⟨zk50, ?_⟩) ?_ ?_; rotate_left
        ·exact zk207
        rotate_left
        ·exact zk206
        refine pure_ (i := 8) (N := some 115) (v := ?_) (a' := ?_) #[true, false, false, true, true, true, true, true, true, false, false, false, false, false, false] rfl rfl zk11 (fun _ _ _ h => h) (Or.inl ⟨zk50, ?_⟩) ?_ ?_; rotate_left
        ·exact zk207
        rotate_left
        ·exact zk206
        refine pure_ (i := 9) (N := some 116) (v := ?_) (a' := ?_) #[true, false, false, true, true, true, true, true, true, true, false, false, false, false, false] rfl rfl zk11 (fun _ _ _ h => h) (Or.inl ⟨zk50, ?_⟩) ?_ ?_; rotate_left
        ·exact zk207
        rotate_left
        ·exact zk206
        refine pure_ (i := 10) (N := some 117) (v := ?_) (a' := ?_) #[true, false, false, true, true, true, true, true, true, true, true, false, false, false, false] rfl rfl zk11 (fun _ _ _ h => h) (Or.inl ⟨zk50, ?_⟩) ?_ ?_; rotate_left
        ·exact zk207
        rotate_left
        ·exact zk206
        refine take_ (i := 11) (N := some 118) (v := ?_) (a' := ?_) #[true, false, false, true, true, true, true, true, true, true, true, true, false, false, false] rfl rfl zk11 (fun _ _ _ h => h) (Or.inl ⟨zk50, ?_⟩) hHeld ?_ ?_; rotate_left
        ·exact zk209
        rotate_left
        ·exact zk206
        refine pure_ (i := 12) (N := some 119) (v := ?_) (a' := ?_) #[true, false, false, true, true, true, true, true, true, true, true, true, true, false, false] rfl rfl zk11 (fun _ _ _ h => h) (Or.inl ⟨zk50, ?_⟩) ?_ ?_; rotate_left
        ·exact zk207
        rotate_left
        ·exact zk206
        refine take_ (i := 13) (N := some 120) (v := ?_) (a' := ?_) #[true, false, false, true, true, true, true, true, true, true, true, true, true, true, false] rfl rfl zk11 (fun _ _ _ h => h) (Or.inl ⟨zk50, ?_⟩) hHeld ?_ ?_; rotate_left
        ·exact zk209
        rotate_left
        ·exact zk206
        refine one_ (i := 1) (N := some 108) #[true, true, false, true, true, true, true, true, true, true, true, true, true, true, false] rfl rfl zk11 zk56 (fun K hK => ?_); refine goes_ Try.func17 zk11 rfl #[.slice A1 acc.length c1] zk50 rfl rfl zk39 ?_; refine (PU.out _ HC1.out).mono ?_; rintro e wm ⟨v3, rfl, hR3, hb3⟩; refine ⟨_, rfl, ?_⟩; obtain ⟨A3, c3, rfl, lc3, hC3⟩ := Kd.R_reads hR3; have s3 := str_c8 (c := c3) hC3; have hs := HS.out.all hb3; clear HS; have HS := Lib.hid hs; clear hs; have HP0_ := Lib.hid (pw_cell_below hb3 HP0.out); clear HP0; have HP0 := Lib.hid HP0_.out; clear HP0_; have HC2_ := Lib.hid (Kd.C_below HC2.out hb3); clear HC2; have HC2 := Lib.hid HC2_.out; clear HC2_; have HR_ := Lib.hid (Kd.R_below HR.out hb3); clear HR; have HR := Lib.hid HR_.out; clear HR_; clear hb3 hR3 hC3 PU; clear hHeld; refine hK.out _ _ ⟨HP0.out, HS.out.at_, str_c8 HC2.out⟩ (fun hHeld => ?_); clear hK K; refine norm_ (a' := ?_) ?_ ?_; rotate_left
        ·exact zk211
        refine one_ (i := 2) (N := some 109) #[true, true, true, true, true, true, true, true, true, true, true, true, true, true, false] rfl rfl zk11 zk56 (fun K hK => ?_); refine value_ (v := .string (strOfNums Y)) (w1 := wm) zk50 rfl ?_ ?_
        ·go_simp
        clear hHeld; refine hK.out _ _ ⟨HP0.out, HS.out.at_, str_c8 HC2.out⟩ (fun hHeld => ?_); clear hK K; refine norm_ (a' := ?_) ?_ ?_; rotate_left
        ·exact zk212
        clear s3; refine pure_ (i := 14) (N := some 121) (v := ?_) (a' := ?_) #[true, true, true, true, true, true, true, true, true, true, true, true, true, true, true] rfl rfl zk11 (fun _ _ _ h => h) (Or.inl ⟨zk50, ?_⟩) ?_ ?_; rotate_left
        ·exact zk207
        rotate_left
        ·exact zk206
        refine done_ zk11 ?_; refine NoPanic.normal ?_; clear hHeld; have pb := HS.out.bad_; have pf := HS.out.frozen 2; go_wp2; go_ret
        exact zk245
  ·cases hf : numAt b (p0 : Int) with
   | none =>
    obtain ⟨q0, hq0⟩ := num_no (w0 := w0) (w := w) (g := g) HB.out hf; have H2 := Lib.hid hq0; have H3 := Lib.hid (cnt_was (w0 := w0) (w := w) (g := g) (b := b) (p := q0)); have HN := Lib.hid (show refH b a = none from refH_no (by unfold refRd; rw [h0]; simp only; rw [if_neg zk6, if_pos zk190, hf])); clear h0 hf hq0 hb h64; go_enter Try.func11, Try.ntmps11; (go_wp2_with (first | (go_at_call 42; (with_reducible refine (H1.out _ HS.out).mono ?_); rintro e wn ⟨rfl, hs, hk⟩; clear HS H1; (try clear pb pf); have pb := hs.bad_; have pf := hs.frozen 2; have HS := Lib.hid hs; clear hs hk) | (go_at_call 42; (with_reducible refine (H2.out _ HS.out).mono ?_); rintro e wn ⟨rfl, hs, hk⟩; clear HS H2; (try clear pb pf); have pb := hs.bad_; have pf := hs.frozen 2; have HS := Lib.hid hs; clear hs hk) | (go_at_call 43; (with_reducible refine (H3.out _ HS.out).mono ?_); rintro e wn ⟨rfl, hs, hk⟩; clear HS H3; (try clear pb pf); have pb := hs.bad_; have pf := hs.frozen 2; have HS := Lib.hid hs; clear hs hk))); clear pb pf; go_loopw [4, 12] (fun v4 v12 wr => v12 = .int .i64 0 ∧ ∃ q, RG w0 w g b wr q true) (fun _ _ _ => 0)
    case atStart => exact ⟨rfl, _, zk153⟩
    case round =>
     clear HS; obtain ⟨rfl, q, hs⟩ := hrel; have pb := hs.bad_; have pf := hs.frozen 2; have HS := Lib.hid hs; clear hs; go_wp2; go_ret
     exact zk243
   | some y =>
    obtain ⟨fr, p1⟩ := y; have hv1 := numAt_at HB.out hf; have H2 := Lib.hid (num_ok (w0 := w0) (w := w) (g := g) HB.out hf)
    cases hc : cntAt b (p1 : Int) 7424 with
    | none =>
     obtain ⟨q0, hq0⟩ := cnt_no (w0 := w0) (w := w) (g := g) HB.out hc; have H3 := Lib.hid hq0; have HN := Lib.hid (show refH b a = none from refH_no zk159); clear h0 hc hf hq0 hb h64; by_cases hfr : 7424 ≤ fr
     ·have ef : decide ((7424 : Int) ≤ (fr : Int)) = true := decide_eq_true zk6
      have efb : decide (7424 ≤ fr) = true := decide_eq_true hfr; go_enter Try.func11, Try.ntmps11; (go_wp2_with (first | (go_at_call 42; (with_reducible refine (H1.out _ HS.out).mono ?_); rintro e wn ⟨rfl, hs, hk⟩; clear HS H1; (try clear pb pf); have pb := hs.bad_; have pf := hs.frozen 2; have HS := Lib.hid hs; clear hs hk) | (go_at_call 42; (with_reducible refine (H2.out _ HS.out).mono ?_); rintro e wn ⟨rfl, hs, hk⟩; clear HS H2; (try clear pb pf); have pb := hs.bad_; have pf := hs.frozen 2; have HS := Lib.hid hs; clear hs hk) | (go_at_call 43; (with_reducible refine (H3.out _ HS.out).mono ?_); rintro e wn ⟨rfl, hs, hk⟩; clear HS H3; (try clear pb pf); have pb := hs.bad_; have pf := hs.frozen 2; have HS := Lib.hid hs; clear hs hk))); clear pb pf; go_loopw [4, 12] (fun v4 v12 wr => v12 = .int .i64 0 ∧ ∃ q, RG w0 w g b wr q true) (fun _ _ _ => 0)
      case atStart => exact ⟨rfl, _, zk153⟩
      case round =>
       clear HS; obtain ⟨rfl, q, hs⟩ := hrel; have pb := hs.bad_; have pf := hs.frozen 2; have HS := Lib.hid hs; clear hs; go_wp2; go_ret
       exact zk243
     ·have ef : decide ((7424 : Int) ≤ (fr : Int)) = false := decide_eq_false zk6
      have efb : decide (7424 ≤ fr) = false := decide_eq_false hfr; go_enter Try.func11, Try.ntmps11; (go_wp2_with (first | (go_at_call 42; (with_reducible refine (H1.out _ HS.out).mono ?_); rintro e wn ⟨rfl, hs, hk⟩; clear HS H1; (try clear pb pf); have pb := hs.bad_; have pf := hs.frozen 2; have HS := Lib.hid hs; clear hs hk) | (go_at_call 42; (with_reducible refine (H2.out _ HS.out).mono ?_); rintro e wn ⟨rfl, hs, hk⟩; clear HS H2; (try clear pb pf); have pb := hs.bad_; have pf := hs.frozen 2; have HS := Lib.hid hs; clear hs hk) | (go_at_call 43; (with_reducible refine (H3.out _ HS.out).mono ?_); rintro e wn ⟨rfl, hs, hk⟩; clear HS H3; (try clear pb pf); have pb := hs.bad_; have pf := hs.frozen 2; have HS := Lib.hid hs; clear hs hk))); clear pb pf; go_loopw [4, 12] (fun v4 v12 wr => v12 = .int .i64 0 ∧ ∃ q, RG w0 w g b wr q true) (fun _ _ _ => 0)
      case atStart => exact ⟨rfl, _, zk153⟩
      case round =>
       clear HS; obtain ⟨rfl, q, hs⟩ := hrel; have pb := hs.bad_; have pf := hs.frozen 2; have HS := Lib.hid hs; clear hs; go_wp2; go_ret
       exact zk243
    | some z =>
     obtain ⟨n, p2⟩ := z; have hcn := cntAt_at HB.out hc; have H3 := Lib.hid (cnt_ok (w0 := w0) (w := w) (g := g) HB.out hc); have HE0 : refRd b a = if 7424 ≤ fr then none else refDn b fr n 0 p2 [] := zk159
     have HM := Lib.hid hcn.2.1; clear h0 hc hf hb h64 hcn; by_cases hfr : 7424 ≤ fr
     ·have HN := Lib.hid (show refH b a = none from refH_no (by rw [HE0, if_pos hfr]))
      clear HE0; have ef : decide ((7424 : Int) ≤ (fr : Int)) = true := decide_eq_true zk6; have efb : decide (7424 ≤ fr) = true := decide_eq_true hfr; go_enter Try.func11, Try.ntmps11; (go_wp2_with (first | (go_at_call 42; (with_reducible refine (H1.out _ HS.out).mono ?_); rintro e wn ⟨rfl, hs, hk⟩; clear HS H1; (try clear pb pf); have pb := hs.bad_; have pf := hs.frozen 2; have HS := Lib.hid hs; clear hs hk) | (go_at_call 42; (with_reducible refine (H2.out _ HS.out).mono ?_); rintro e wn ⟨rfl, hs, hk⟩; clear HS H2; (try clear pb pf); have pb := hs.bad_; have pf := hs.frozen 2; have HS := Lib.hid hs; clear hs hk) | (go_at_call 43; (with_reducible refine (H3.out _ HS.out).mono ?_); rintro e wn ⟨rfl, hs, hk⟩; clear HS H3; (try clear pb pf); have pb := hs.bad_; have pf := hs.frozen 2; have HS := Lib.hid hs; clear hs hk))); clear pb pf; go_loopw [4, 12] (fun v4 v12 wr => v12 = .int .i64 0 ∧ ∃ q, RG w0 w g b wr q true) (fun _ _ _ => 0)
      case atStart => exact ⟨rfl, _, zk153⟩
      case round =>
       clear HS; obtain ⟨rfl, q, hs⟩ := hrel; have pb := hs.bad_; have pf := hs.frozen 2; have HS := Lib.hid hs; clear hs; by_cases hin : 0 < n
       ·have e5 : decide ((0 : Int) < (n : Int)) = true := decide_eq_true zk6
        have e5b : decide (0 < n) = true := decide_eq_true hin; go_wp2; go_ret
        exact zk243
       ·have e5 : decide ((0 : Int) < (n : Int)) = false := decide_eq_false zk6
        have e5b : decide (0 < n) = false := decide_eq_false hin; go_wp2; go_ret
        exact zk243
     have HE := Lib.hid (show refRd b a = refDn b fr n 0 p2 [] by rw [HE0, if_neg hfr]); clear HE0; have ef : decide ((7424 : Int) ≤ (fr : Int)) = false := decide_eq_false zk6; have efb : decide (7424 ≤ fr) = false := decide_eq_false hfr; go_enter Try.func11, Try.ntmps11; (go_wp2_with (first | (go_at_call 42; (with_reducible refine (H1.out _ HS.out).mono ?_); rintro e wn ⟨rfl, hs, hk⟩; clear HS H1; (try clear pb pf); have pb := hs.bad_; have pf := hs.frozen 2; have HS := Lib.hid hs; clear hs hk) | (go_at_call 42; (with_reducible refine (H2.out _ HS.out).mono ?_); rintro e wn ⟨rfl, hs, hk⟩; clear HS H2; (try clear pb pf); have pb := hs.bad_; have pf := hs.frozen 2; have HS := Lib.hid hs; clear hs hk) | (go_at_call 43; (with_reducible refine (H3.out _ HS.out).mono ?_); rintro e wn ⟨rfl, hs, hk⟩; clear HS H3; (try clear pb pf); have pb := hs.bad_; have pf := hs.frozen 2; have HS := Lib.hid hs; clear hs hk))); clear pa pb pf; go_loopw [4, 12] (fun v4 v12 wr => ∃ (i : Nat) (acc : List S70), v12 = .int .i64 (i : Int) ∧ i ≤ n ∧ acc.length ≤ i ∧ Kd.R k70 70 wr w.heap.size (fun k => k ≠ g) v4 acc ∧ ((∃ q, RG w0 w g b wr q true ∧ refH b a = none) ∨ (∃ p : Nat, RG w0 w g b wr (p : Int) false ∧ refDn b fr n 0 p2 [] = refDn b fr (n - i) i p acc))) (fun _ v12 _ => n - (intOf v12).toNat)
     case atStart => exact ⟨0, [], rfl, Nat.zero_le _, Nat.le_refl _, Kd.R_nil _ _ _ _ _, .inr ⟨p2, HS.out, rfl⟩⟩
     case round =>
      clear HS; obtain ⟨i, acc, rfl, hi, hla, hR, hst⟩ := hrel; have HR := Lib.hid hR; clear hR; have hn7 := HM.out; have HI := Lib.hid (show acc.length ≤ i ∧ i ≤ n ∧ n ≤ 7424 ∧ fr < 7424 by omega)
      rcases hst with ⟨q, hs, hn⟩ | ⟨p, hs, heq⟩
      ·have HN := Lib.hid hn; clear hn
       have pb := hs.bad_; have pf := hs.frozen 2; have HS := Lib.hid hs; clear hs; by_cases hin : i < n
       ·have e5 : decide ((i : Int) < (n : Int)) = true := decide_eq_true zk6
        have e5b : decide (i < n) = true := decide_eq_true hin; go_wp2; go_ret
        exact zk243
       ·have e5 : decide ((i : Int) < (n : Int)) = false := decide_eq_false zk6
        have e5b : decide (i < n) = false := decide_eq_false hin; go_wp2; go_ret
        exact zk243
      have HQ := Lib.hid heq; clear heq; have pb := hs.bad_; have pf := hs.frozen 2; have HS := Lib.hid hs; clear hs; by_cases hin : i < n
      ·have e5 : decide ((i : Int) < (n : Int)) = true := decide_eq_true zk6
       have e5b : decide (i < n) = true := decide_eq_true hin; obtain ⟨m, hm⟩ : ∃ m, n - i = m + 1 := ⟨n - i - 1, zk6⟩
       have hgo := HQ.out; rw [hm, refDn] at hgo; have HIN := Lib.hid hin; clear HQ
       cases hq : numAt b (p : Int) with
       | none =>
        obtain ⟨q1, hq1⟩ := num_no (w0 := w0) (w := w) (g := g) HB.out hq; have HA := Lib.hid hq1; have HN := Lib.hid (show refH b a = none from refH_no (by rw [HE.out, hgo, hq])); clear hgo hq hq1 hin; (go_wp2_with (go_at_call 42; (with_reducible refine (HA.out _ HS.out).mono ?_); rintro e wn ⟨rfl, hs, hk⟩; clear HS HA; (try clear pb pf); have HR_ := Lib.hid (Kd.R_keep HR.out hk (fun k h => h)); clear HR; have HR := Lib.hid HR_.out; clear HR_; have pb := hs.bad_; have pf := hs.frozen 2; have HS := Lib.hid hs; clear hs hk)); go_roundw
        case rel => exact ⟨i + 1, acc, zk108, zk188, zk97, HR.out, .inl ⟨_, HS.out, HN.out⟩⟩
        case measure => have := HIN.out; simp [intOf]; omega
       | some z =>
        obtain ⟨c, q1⟩ := z; have hv2 := numAt_at HB.out hq; have HA := Lib.hid (num_ok (w0 := w0) (w := w) (g := g) HB.out hq); rw [hq] at hgo; simp only at hgo; by_cases hcp : 0 < c
        ·have ec : decide ((0 : Int) < (c : Int)) = true := decide_eq_true zk6
         have ecb : decide (0 < c) = true := decide_eq_true hcp; have HN := Lib.hid (show refDn b fr n 0 p2 [] = refDn b fr (n - (i + 1)) (i + 1) q1 (acc ++ [⟨(fr : Int) + i, (c : Int)⟩]) by rw [hgo, if_pos hcp, show n - (i + 1) = m by omega]); have ew1 : IntKind.i64.wrap (fr : Int) = (fr : Int) := zk162
         have ew2 : IntKind.i64.wrap ((fr : Int) + (i : Int)) = (fr : Int) + (i : Int) := zk162
         clear hgo hq hin; (go_wp2_with (first | (go_at_call 42; (with_reducible refine (HA.out _ HS.out).mono ?_); rintro e wn ⟨rfl, hs, hk⟩; clear HS HA; (try clear pb pf); have HR_ := Lib.hid (Kd.R_keep HR.out hk (fun k h => h)); clear HR; have HR := Lib.hid HR_.out; clear HR_; have pb := hs.bad_; have pf := hs.frozen 2; have HS := Lib.hid hs; clear hs hk) | ((with_reducible refine gate_builtin (b := .append) (xs := #[.tmp 86, .tmp 93]) rfl ?_); at_builtin; go_must (refine Kd.R_append k70 (w0 := _) w.heap.size rfl (.tmp 86) (.tmp 93) 23 70 (.agg #[(.int .i64 0), (.int .u64 0)]) 16 rfl Try.underlying23 info70 rfl zk47 zk6 u4 acc (⟨(fr : Int) + (i : Int), (c : Int)⟩ : S70) [.int .i64 ((fr : Int) + (i : Int)), .int .u64 ((c : Int))] (fun k => k ≠ g) (fun _ => False) rfl rfl ?aP (fun _ hk => hk.elim) ?aF ?aO (Below.refl _ _) ?aS ?aL ?_; (case aP => exact k70_mkM _ _ _ (⟨(fr : Int) + (i : Int), (c : Int)⟩ : S70)); (case aF => exact zk158); (case aO => exact HR.out); (case aS => exact HS.out.2.2.1); (case aL => exact zk97); intro v5 w5 ho5 hb5 hg5 hat5; have HO5 := Lib.hid ho5; have hs := HS.out.keeps hb5 HGL.out HWW.out; clear HS; have HS := Lib.hid hs; clear hs ho5 hb5 hg5 hat5 pb pf)))); go_roundw
         case rel => exact ⟨i + 1, (acc ++ [⟨(fr : Int) + i, (c : Int)⟩]), zk108, zk188, zk145, HO5.out, .inr ⟨_, HS.out, HN.out⟩⟩
         case measure => have := HIN.out; simp [intOf]; omega
        ·have ec : decide ((0 : Int) < (c : Int)) = false := decide_eq_false zk6
         have ecb : decide (0 < c) = false := decide_eq_false hcp; have HN := Lib.hid (show refDn b fr n 0 p2 [] = refDn b fr (n - (i + 1)) (i + 1) q1 acc by rw [hgo, if_neg hcp, show n - (i + 1) = m by omega]); clear hgo hq hin; (go_wp2_with (go_at_call 42; (with_reducible refine (HA.out _ HS.out).mono ?_); rintro e wn ⟨rfl, hs, hk⟩; clear HS HA; (try clear pb pf); have HR_ := Lib.hid (Kd.R_keep HR.out hk (fun k h => h)); clear HR; have HR := Lib.hid HR_.out; clear HR_; have pb := hs.bad_; have pf := hs.frozen 2; have HS := Lib.hid hs; clear hs hk)); go_roundw
         case rel => exact ⟨i + 1, acc, zk108, zk188, zk97, HR.out, .inr ⟨_, HS.out, HN.out⟩⟩
         case measure => have := HIN.out; simp [intOf]; omega
      ·have e5 : decide ((i : Int) < (n : Int)) = false := decide_eq_false zk6
       have e5b : decide (i < n) = false := decide_eq_false hin; obtain rfl : i = n := zk6
       have HF := Lib.hid (show refRd b a = some (acc, p) by rw [HE.out, HQ.out, Nat.sub_self]; rfl); have hok := refRd_ok HB.out HF.out; obtain ⟨A1, c1, rfl, lc1, hC1⟩ := Kd.R_reads HR.out; have CK := Lib.hid (varveref07_Check.calls (acc.length + 1) A1 c1 acc (chk acc) wr hC1 lc1 (refCheck_eq acc zk6 _ zk6))
       cases hk : chk acc with
       | false =>
        have HN := Lib.hid (show refH b a = none by unfold refH; rw [HF.out]; simp only; rw [if_neg (by rw [hk]; simp)]); rw [hk] at CK; clear hok lc1 hC1 hk; (go_wp2_with (go_at_call 16; (with_reducible refine CK.out.mono ?_); rintro e wn ⟨rfl, hd⟩; have hs := HS.out.all hd.below; clear HS CK pb pf; have pb := hs.bad_; have pf := hs.frozen 2; have HS := Lib.hid hs; clear hs hd)); go_ret
        exact zk243
       | true =>
        rw [hk] at CK; have PU := Lib.hid (fun W (h1 : Kd.C k70 W A1 acc.length acc) => varveref07_Put.calls 8000 A1 c1 acc (formB acc) W h1 lc1 (refPut_eq acc hk hok.2.2.2.1 8000 zk47)); have HX := Lib.hid (show refH b a = if formB acc = (b.take p).drop a.toNat then some (acc, p) else none by unfold refH; rw [HF.out]; simp only; rw [hk]; simp); have hxb : ∀ x ∈ (b.take p).drop a.toNat, 0 ≤ x ∧ x < 256 := fun x hx => HB.out.2 x (List.mem_of_mem_take (List.mem_of_mem_drop hx)); have hinj := strOfNums_inj (formB_by acc) hxb; have HC1 := Lib.hid hC1; obtain ⟨A0, c0, p0_, hc0, hC0⟩ := HS.out.bytes; obtain ⟨A2, c2, lc2, hcut, hC2⟩ := cut_c hC0 hc0 a p hok.1 hok.2.1 hok.2.2.1; have HC2 := Lib.hid hC2; have HP0 := Lib.hid p0_; clear hC0 hC2 hc0 lc2 hxb hC1 p0_; obtain ⟨X, hX⟩ : ∃ X, (b.take p).drop a.toNat = X := ⟨_, rfl⟩
        obtain ⟨Y, hY⟩ : ∃ Y, formB acc = Y := ⟨_, rfl⟩
        rw [hX] at hcut HC2 HX hinj; rw [hY] at PU HX hinj; have hsz : (strOfNums Y = strOfNums X) = (Y = X) := propext hinj; clear hinj hX hY hok lc1
        cases hd : decide (Y = X) with
        | false =>
         have HN := Lib.hid (show refH b a = none by rw [HX.out, if_neg (of_decide_eq_false hd)]); have hne : ¬ strOfNums Y = strOfNums X := by rw [hsz]; exact of_decide_eq_false hd
         have hne2 := str_ne hne; clear hd HX hsz; (go_wp2_with (go_at_call 16; (with_reducible refine CK.out.mono ?_); rintro e wn ⟨rfl, hd⟩; have hs := HS.out.all hd.below; clear HS CK pb pf; have pb := hs.bad_; have pf := hs.frozen 2; have HS := Lib.hid hs; have HC1_ := Lib.hid (Kd.C_below HC1.out hd.below); clear HC1; have HC1 := Lib.hid HC1_.out; clear HC1_; have HC2_ := Lib.hid (Kd.C_below HC2.out hd.below); clear HC2; have HC2 := Lib.hid HC2_.out; clear HC2_; have HR_ := Lib.hid (Kd.R_below HR.out hd.below); clear HR; have HR := Lib.hid HR_.out; clear HR_; have HP0_ := Lib.hid (pw_cell_below hd.below HP0.out); clear HP0; have HP0 := Lib.hid HP0_.out; clear HP0_; clear hs hd)); clear pb pf; have hs := HS.out.drew; clear HS; have HS := Lib.hid hs; clear hs; have HC1_ := Lib.hid (Kd.C_drew HC1.out); clear HC1; have HC1 := Lib.hid HC1_.out; clear HC1_; have HC2_ := Lib.hid (Kd.C_drew HC2.out); clear HC2; have HC2 := Lib.hid HC2_.out; clear HC2_; have HR_ := Lib.hid (Kd.R_drew HR.out); clear HR; have HR := Lib.hid HR_.out; clear HR_; have HP0_ := Lib.hid (pw_cell_below (below_drew (Below.refl _ _)) HP0.out); clear HP0; have HP0 := Lib.hid HP0_.out; clear HP0_; refine wp_region_noPanic ?_; refine start_ (n := 15) (S := fun w' => w'.cell? ⟨g, 0, none⟩ = some (.slice A0 b.length c0) ∧ w'.cell? ⟨g, 1, none⟩ = some (.int .i64 (p : Int)) ∧ (convert 22 9 (.slice A2 X.length c2)).run Try.prog w' = .ok (.string (strOfNums X)) w') (ds := []) #[false, false, false, false, false, false, false, false, false, false, false, false, false, false, false] zk11 rfl rfl ⟨HP0.out, HS.out.at_, str_c8 HC2.out⟩ (fun hHeld => ?_); refine pure_ (i := 0) (N := some 107) (v := ?_) (a' := ?_) #[true, false, false, false, false, false, false, false, false, false, false, false, false, false, false] rfl rfl zk11 (fun _ _ _ h => h) (Or.inl ⟨zk50, ?_⟩) ?_ ?_; rotate_left
         ·exact zk207
         rotate_left
         ·exact zk206
         refine pure_ (i := 3) (N := some 110) (v := ?_) (a' := ?_) #[true, false, false, true, false, false, false, false, false, false, false, false, false, false, false] rfl rfl zk11 (fun _ _ _ h => h) (Or.inl ⟨zk50, ?_⟩) ?_ ?_; rotate_left
         ·exact zk207
         rotate_left
         ·exact zk206
         refine pure_ (i := 4) (N := some 111) (v := ?_) (a' := ?_) #[true, false, false, true, true, false, false, false, false, false, false, false, false, false, false] rfl rfl zk11 (fun _ _ _ h => h) (Or.inl ⟨zk50, ?_⟩) ?_ ?_; rotate_left
         ·exact zk207
         rotate_left
         ·exact zk206
         refine pure_ (i := 5) (N := some 112) (v := ?_) (a' := ?_) #[true, false, false, true, true, true, false, false, false, false, false, false, false, false, false] rfl rfl zk11 (fun _ _ _ h => h) (Or.inl ⟨zk50, ?_⟩) ?_ ?_; rotate_left
         ·exact zk207
         rotate_left
         ·exact zk206
         refine take_ (i := 6) (N := some 113) (v := ?_) (a' := ?_) #[true, false, false, true, true, true, true, false, false, false, false, false, false, false, false] rfl rfl zk11 (fun _ _ _ h => h) (Or.inl ⟨zk50, ?_⟩) hHeld ?_ ?_; rotate_left
         ·exact zk209
         rotate_left
         ·exact zk206
         refine pure_ (i := 7) (N := some 114) (v := ?_) (a' := ?_) #[true, false, false, true, true, true, true, true, false, false, false, false, false, false, false] rfl rfl zk11 (fun _ _ _ h => h) (Or.inl ⟨zk50, ?_⟩) ?_ ?_; rotate_left
         ·exact zk207
         rotate_left
         ·exact zk206
         refine pure_ (i := 8) (N := some 115) (v := ?_) (a' := ?_) #[true, false, false, true, true, true, true, true, true, false, false, false, false, false, false] rfl rfl zk11 (fun _ _ _ h => h) (Or.inl ⟨zk50, ?_⟩) ?_ ?_; rotate_left
         ·exact zk207
         rotate_left
         ·exact zk206
         refine pure_ (i := 9) (N := some 116) (v := ?_) (a' := ?_) #[true, false, false, true, true, true, true, true, true, true, false, false, false, false, false] rfl rfl zk11 (fun _ _ _ h => h) (Or.inl ⟨zk50, ?_⟩) ?_ ?_; rotate_left
         ·exact zk207
         rotate_left
         ·exact zk206
         refine pure_ (i := 10) (N := some 117) (v := ?_) (a' := ?_) #[true, false, false, true, true, true, true, true, true, true, true, false, false, false, false] rfl rfl zk11 (fun _ _ _ h => h) (Or.inl ⟨zk50, ?_⟩) ?_ ?_; rotate_left
         ·exact zk207
         rotate_left
         ·exact zk206
         refine take_ (i := 11) (N := some 118) (v := ?_) (a' := ?_) #[true, false, false, true, true, true, true, true, true, true, true, true, false, false, false] rfl rfl zk11 (fun _ _ _ h => h) (Or.inl ⟨zk50, ?_⟩) hHeld ?_ ?_; rotate_left
         ·exact zk209
         rotate_left
         ·exact zk206
         refine pure_ (i := 12) (N := some 119) (v := ?_) (a' := ?_) #[true, false, false, true, true, true, true, true, true, true, true, true, true, false, false] rfl rfl zk11 (fun _ _ _ h => h) (Or.inl ⟨zk50, ?_⟩) ?_ ?_; rotate_left
         ·exact zk207
         rotate_left
         ·exact zk206
         refine take_ (i := 13) (N := some 120) (v := ?_) (a' := ?_) #[true, false, false, true, true, true, true, true, true, true, true, true, true, true, false] rfl rfl zk11 (fun _ _ _ h => h) (Or.inl ⟨zk50, ?_⟩) hHeld ?_ ?_; rotate_left
         ·exact zk209
         rotate_left
         ·exact zk206
         refine one_ (i := 1) (N := some 108) #[true, true, false, true, true, true, true, true, true, true, true, true, true, true, false] rfl rfl zk11 zk56 (fun K hK => ?_); refine goes_ Try.func17 zk11 rfl #[.slice A1 acc.length c1] zk50 rfl rfl zk39 ?_; refine (PU.out _ HC1.out).mono ?_; rintro e wm ⟨v3, rfl, hR3, hb3⟩; refine ⟨_, rfl, ?_⟩; obtain ⟨A3, c3, rfl, lc3, hC3⟩ := Kd.R_reads hR3; have s3 := str_c8 (c := c3) hC3; have hs := HS.out.all hb3; clear HS; have HS := Lib.hid hs; clear hs; have HP0_ := Lib.hid (pw_cell_below hb3 HP0.out); clear HP0; have HP0 := Lib.hid HP0_.out; clear HP0_; have HC2_ := Lib.hid (Kd.C_below HC2.out hb3); clear HC2; have HC2 := Lib.hid HC2_.out; clear HC2_; have HR_ := Lib.hid (Kd.R_below HR.out hb3); clear HR; have HR := Lib.hid HR_.out; clear HR_; clear hb3 hR3 hC3 PU; clear hHeld; refine hK.out _ _ ⟨HP0.out, HS.out.at_, str_c8 HC2.out⟩ (fun hHeld => ?_); clear hK K; refine norm_ (a' := ?_) ?_ ?_; rotate_left
         ·exact zk211
         refine one_ (i := 2) (N := some 109) #[true, true, true, true, true, true, true, true, true, true, true, true, true, true, false] rfl rfl zk11 zk56 (fun K hK => ?_); refine value_ (v := .string (strOfNums Y)) (w1 := wm) zk50 rfl ?_ ?_
         ·go_simp
         clear hHeld; refine hK.out _ _ ⟨HP0.out, HS.out.at_, str_c8 HC2.out⟩ (fun hHeld => ?_); clear hK K; refine norm_ (a' := ?_) ?_ ?_; rotate_left
         ·exact zk212
         clear s3; refine pure_ (i := 14) (N := some 121) (v := ?_) (a' := ?_) #[true, true, true, true, true, true, true, true, true, true, true, true, true, true, true] rfl rfl zk11 (fun _ _ _ h => h) (Or.inl ⟨zk50, ?_⟩) ?_ ?_; rotate_left
         ·exact zk207
         rotate_left
         ·exact zk206
         refine done_ zk11 ?_; refine NoPanic.normal ?_; clear hHeld; have pb := HS.out.bad_; have pf := HS.out.frozen 2; go_wp2; go_ret
         exact zk243
        | true =>
         have HN := Lib.hid (show refH b a = some (acc, p) by rw [HX.out, if_pos (of_decide_eq_true hd)]); have hne : strOfNums Y = strOfNums X := by rw [hsz]; exact of_decide_eq_true hd
         clear hd HX hsz; (go_wp2_with (go_at_call 16; (with_reducible refine CK.out.mono ?_); rintro e wn ⟨rfl, hd⟩; have hs := HS.out.all hd.below; clear HS CK pb pf; have pb := hs.bad_; have pf := hs.frozen 2; have HS := Lib.hid hs; have HC1_ := Lib.hid (Kd.C_below HC1.out hd.below); clear HC1; have HC1 := Lib.hid HC1_.out; clear HC1_; have HC2_ := Lib.hid (Kd.C_below HC2.out hd.below); clear HC2; have HC2 := Lib.hid HC2_.out; clear HC2_; have HR_ := Lib.hid (Kd.R_below HR.out hd.below); clear HR; have HR := Lib.hid HR_.out; clear HR_; have HP0_ := Lib.hid (pw_cell_below hd.below HP0.out); clear HP0; have HP0 := Lib.hid HP0_.out; clear HP0_; clear hs hd)); clear pb pf; have hs := HS.out.drew; clear HS; have HS := Lib.hid hs; clear hs; have HC1_ := Lib.hid (Kd.C_drew HC1.out); clear HC1; have HC1 := Lib.hid HC1_.out; clear HC1_; have HC2_ := Lib.hid (Kd.C_drew HC2.out); clear HC2; have HC2 := Lib.hid HC2_.out; clear HC2_; have HR_ := Lib.hid (Kd.R_drew HR.out); clear HR; have HR := Lib.hid HR_.out; clear HR_; have HP0_ := Lib.hid (pw_cell_below (below_drew (Below.refl _ _)) HP0.out); clear HP0; have HP0 := Lib.hid HP0_.out; clear HP0_; refine wp_region_noPanic ?_; refine start_ (n := 15) (S := fun w' => w'.cell? ⟨g, 0, none⟩ = some (.slice A0 b.length c0) ∧ w'.cell? ⟨g, 1, none⟩ = some (.int .i64 (p : Int)) ∧ (convert 22 9 (.slice A2 X.length c2)).run Try.prog w' = .ok (.string (strOfNums X)) w') (ds := []) #[false, false, false, false, false, false, false, false, false, false, false, false, false, false, false] zk11 rfl rfl ⟨HP0.out, HS.out.at_, str_c8 HC2.out⟩ (fun hHeld => ?_); refine pure_ (i := 0) (N := some 107) (v := ?_) (a' := ?_) #[true, false, false, false, false, false, false, false, false, false, false, false, false, false, false] rfl rfl zk11 (fun _ _ _ h => h) (Or.inl ⟨zk50, ?_⟩) ?_ ?_; rotate_left
         ·exact zk207
         rotate_left
         ·exact zk206
         refine pure_ (i := 3) (N := some 110) (v := ?_) (a' := ?_) #[true, false, false, true, false, false, false, false, false, false, false, false, false, false, false] rfl rfl zk11 (fun _ _ _ h => h) (Or.inl ⟨zk50, ?_⟩) ?_ ?_; rotate_left
         ·exact zk207
         rotate_left
         ·exact zk206
         refine pure_ (i := 4) (N := some 111) (v := ?_) (a' := ?_) #[true, false, false, true, true, false, false, false, false, false, false, false, false, false, false] rfl rfl zk11 (fun _ _ _ h => h) (Or.inl ⟨zk50, ?_⟩) ?_ ?_; rotate_left
         ·exact zk207
         rotate_left
         ·exact zk206
         refine pure_ (i := 5) (N := some 112) (v := ?_) (a' := ?_) #[true, false, false, true, true, true, false, false, false, false, false, false, false, false, false] rfl rfl zk11 (fun _ _ _ h => h) (Or.inl ⟨zk50, ?_⟩) ?_ ?_; rotate_left
         ·exact zk207
         rotate_left
         ·exact zk206
         refine take_ (i := 6) (N := some 113) (v := ?_) (a' := ?_) #[true, false, false, true, true, true, true, false, false, false, false, false, false, false, false] rfl rfl zk11 (fun _ _ _ h => h) (Or.inl ⟨zk50, ?_⟩) hHeld ?_ ?_; rotate_left
         ·exact zk209
         rotate_left
         ·exact zk206
         refine pure_ (i := 7) (N := some 114) (v := ?_) (a' := ?_) #[true, false, false, true, true, true, true, true, false, false, false, false, false, false, false] rfl rfl zk11 (fun _ _ _ h => h) (Or.inl ⟨zk50, ?_⟩) ?_ ?_; rotate_left
         ·exact zk207
         rotate_left
         ·exact zk206
         refine pure_ (i := 8) (N := some 115) (v := ?_) (a' := ?_) #[true, false, false, true, true, true, true, true, true, false, false, false, false, false, false] rfl rfl zk11 (fun _ _ _ h => h) (Or.inl ⟨zk50, ?_⟩) ?_ ?_; rotate_left
         ·exact zk207
         rotate_left
         ·exact zk206
         refine pure_ (i := 9) (N := some 116) (v := ?_) (a' := ?_) #[true, false, false, true, true, true, true, true, true, true, false, false, false, false, false] rfl rfl zk11 (fun _ _ _ h => h) (Or.inl ⟨zk50, ?_⟩) ?_ ?_; rotate_left
         ·exact zk207
         rotate_left
         ·exact zk206
         refine pure_ (i := 10) (N := some 117) (v := ?_) (a' := ?_) #[true, false, false, true, true, true, true, true, true, true, true, false, false, false, false] rfl rfl zk11 (fun _ _ _ h => h) (Or.inl ⟨zk50, ?_⟩) ?_ ?_; rotate_left
         ·exact zk207
         rotate_left
         ·exact zk206
         refine take_ (i := 11) (N := some 118) (v := ?_) (a' := ?_) #[true, false, false, true, true, true, true, true, true, true, true, true, false, false, false] rfl rfl zk11 (fun _ _ _ h => h) (Or.inl ⟨zk50, ?_⟩) hHeld ?_ ?_; rotate_left
         ·exact zk209
         rotate_left
         ·exact zk206
         refine pure_ (i := 12) (N := some 119) (v := ?_) (a' := ?_) #[true, false, false, true, true, true, true, true, true, true, true, true, true, false, false] rfl rfl zk11 (fun _ _ _ h => h) (Or.inl ⟨zk50, ?_⟩) ?_ ?_; rotate_left
         ·exact zk207
         rotate_left
         ·exact zk206
         refine take_ (i := 13) (N := some 120) (v := ?_) (a' := ?_) #[true, false, false, true, true, true, true, true, true, true, true, true, true, true, false] rfl rfl zk11 (fun _ _ _ h => h) (Or.inl ⟨zk50, ?_⟩) hHeld ?_ ?_; rotate_left
         ·exact zk209
         rotate_left
         ·exact zk206
         refine one_ (i := 1) (N := some 108) #[true, true, false, true, true, true, true, true, true, true, true, true, true, true, false] rfl rfl zk11 zk56 (fun K hK => ?_); refine goes_ Try.func17 zk11 rfl #[.slice A1 acc.length c1] zk50 rfl rfl zk39 ?_; refine (PU.out _ HC1.out).mono ?_; rintro e wm ⟨v3, rfl, hR3, hb3⟩; refine ⟨_, rfl, ?_⟩; obtain ⟨A3, c3, rfl, lc3, hC3⟩ := Kd.R_reads hR3; have s3 := str_c8 (c := c3) hC3; have hs := HS.out.all hb3; clear HS; have HS := Lib.hid hs; clear hs; have HP0_ := Lib.hid (pw_cell_below hb3 HP0.out); clear HP0; have HP0 := Lib.hid HP0_.out; clear HP0_; have HC2_ := Lib.hid (Kd.C_below HC2.out hb3); clear HC2; have HC2 := Lib.hid HC2_.out; clear HC2_; have HR_ := Lib.hid (Kd.R_below HR.out hb3); clear HR; have HR := Lib.hid HR_.out; clear HR_; clear hb3 hR3 hC3 PU; clear hHeld; refine hK.out _ _ ⟨HP0.out, HS.out.at_, str_c8 HC2.out⟩ (fun hHeld => ?_); clear hK K; refine norm_ (a' := ?_) ?_ ?_; rotate_left
         ·exact zk211
         refine one_ (i := 2) (N := some 109) #[true, true, true, true, true, true, true, true, true, true, true, true, true, true, false] rfl rfl zk11 zk56 (fun K hK => ?_); refine value_ (v := .string (strOfNums Y)) (w1 := wm) zk50 rfl ?_ ?_
         ·go_simp
         clear hHeld; refine hK.out _ _ ⟨HP0.out, HS.out.at_, str_c8 HC2.out⟩ (fun hHeld => ?_); clear hK K; refine norm_ (a' := ?_) ?_ ?_; rotate_left
         ·exact zk212
         clear s3; refine pure_ (i := 14) (N := some 121) (v := ?_) (a' := ?_) #[true, true, true, true, true, true, true, true, true, true, true, true, true, true, true] rfl rfl zk11 (fun _ _ _ h => h) (Or.inl ⟨zk50, ?_⟩) ?_ ?_; rotate_left
         ·exact zk207
         rotate_left
         ·exact zk206
         refine done_ zk11 ?_; refine NoPanic.normal ?_; clear hHeld; have pb := HS.out.bad_; have pf := HS.out.frozen 2; go_wp2; go_ret
         exact zk245
  ·have HN := Lib.hid (show refH b a = none from refH_no (by unfold refRd; rw [h0]; simp only; rw [if_neg zk6, if_neg zk6]))
   have e0 : decide ((h : Int) = 0) = false := decide_eq_false zk6; have e0b : decide (h = 0) = false := decide_eq_false zk6; have e1 : decide ((h : Int) = 1) = false := decide_eq_false zk6; have e1b : decide (h = 1) = false := decide_eq_false zk6; clear h0 hb h64; go_enter Try.func11, Try.ntmps11; (go_wp2_with (go_at_call 42; (with_reducible refine (H1.out _ HS.out).mono ?_); rintro e wn ⟨rfl, hs, hk⟩; clear HS H1; (try clear pb pf); have pb := hs.bad_; have pf := hs.frozen 2; have HS := Lib.hid hs; clear hs hk)); go_ret
   exact zk243
end Go.Proofs.Ytplgffbfepnihaa
namespace Go.Proofs.Ytplgffbfepnihaa.Pure
open Go.RowKit Go.Maps Go.Deep Go.Proofs.YtplgffbfepnihaaW.PrintWords Go.Proofs.YtplgffbfepnihaaW.PrintLast Go.Proofs.YtplgffbfepnihaaW.PrintMore Go.Proofs.Ytplgffbfepnihaa.Hi Go.Proofs.Ytplgffbfepnihaa.Vt Go.Proofs.Ytplgffbfepnihaa.Hb
theorem hbytes_c {w W : World} {A : Option Addr} {c : Nat} {b : List Int} (hl : b.length < 140737488355328) (hC : Kd.C (Kd.int .u8) w A b.length b) (hc : b.length ≤ c) (hb : Below w.heap.size w W) :
  Calls Try.prog 10 #[.slice A b.length c] W fun e w' => ∃ A' c', e = .returned (.slice A' b.length c') ∧ b.length ≤ c' ∧ Kd.C (Kd.int .u8) w' A' b.length b ∧ Below W.heap.size W w' :=
 (varvelaw00_Bytes.calls A c b b W (Kd.C_below hC hb) hc (by unfold varvelaw00_Bytes.f; rw [List.length_nil, Nat.zero_add, if_pos hl, List.nil_append])).mono fun _ _ ⟨v, he, hR, hb⟩ => by
  obtain ⟨A', c', rfl, hc', hC'⟩ := Kd.R_reads hR; exact ⟨A', c', he, hc', hC', hb⟩
end Go.Proofs.Ytplgffbfepnihaa.Pure
