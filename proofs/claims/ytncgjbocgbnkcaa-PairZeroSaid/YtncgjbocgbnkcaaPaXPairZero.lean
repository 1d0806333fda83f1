/- For any sketch: with nothing it is what it was. No condition. -/
import Derived.Test.YtncgjbocgbnkcaaPaM3
namespace Go.Proofs.Ytncgjbocgbnkcaa
set_option linter.unusedVariables false
set_option linter.unusedSimpArgs false
open Go.RowKit Go.Maps Go.Proofs.YtncgjbocgbnkcaaW.PrintWords Go.Proofs.YtncgjbocgbnkcaaW.PrintLast Go.Proofs.YtncgjbocgbnkcaaW.PrintMore Go.Proofs.Ytncgjbocgbnkcaa.Pure Go.Proofs.Ytncgjbocgbnkcaa.Q Go.Proofs.Ytncgjbocgbnkcaa.Hi Go.Proofs.Ytncgjbocgbnkcaa.Ga
set_option maxHeartbeats 4000000 in
set_option maxRecDepth 100000 in
theorem Zero_no (A : Option Addr) (c : Nat) (B : Option Addr) (d : Nat) (v : SV) (w : World) (k : SK w A c v.h B d v.k) (hw : v.wf) (ho : v.ok = false) :
    Calls Try.prog 13 #[.agg #[.slice A v.h.length c, .slice B v.k.length d, .int .u64 v.g.n, .int .u64 v.g.nans, .int .u64 v.g.lo, .int .u64 v.g.hi]] w fun e w' => e = .returned (.bool true) ∧ Below w.heap.size w w' := by
  have hu62 := Try.underlying45
  have P0 := Lib.hid k; have HW := Lib.hid hw; have HO := Lib.hid ho
  clear k hw ho
  go_enter Try.func13, Try.ntmps13
  go_wp2_with fail
  refine name_calls (fun WW HX => ?_)
  have b0_ := blk_new w (.cells #[.slice A v.h.length c, .slice B v.k.length d, .int .u64 v.g.n, .int .u64 v.g.nans, .int .u64 v.g.lo, .int .u64 v.g.hi] 45)
  have l0_ := below_alloc (Below.refl w.heap.size w) (.cells #[.slice A v.h.length c, .slice B v.k.length d, .int .u64 v.g.n, .int .u64 v.g.nans, .int .u64 v.g.lo, .int .u64 v.g.hi] 45)
  have p0_ := P0.out.alloc (.cells #[.slice A v.h.length c, .slice B v.k.length d, .int .u64 v.g.n, .int .u64 v.g.nans, .int .u64 v.g.lo, .int .u64 v.g.hi] 45)
  rw [HX.out] at b0_ l0_ p0_
  clear P0 HX
  have HB0 := Lib.hid b0_; have HL := Lib.hid l0_; have P0 := Lib.hid p0_
  clear b0_ l0_ p0_
  go_wp2_with (first
    | (go_at_call 40; (with_reducible refine (rcheckV P0.out HW.out HO.out).mono ?_); rintro e w0_ ⟨rfl, hb⟩; have HB0_ := (hb.block _ (blk_lt HB0.out)).trans HB0.out; clear HB0; have HB0 := Lib.hid HB0_; clear HB0_; have P0_ := P0.out.below hb (Nat.le_refl _); clear P0; have P0 := Lib.hid P0_; clear P0_; have HL_ := HL.out.trans (hb.mono HL.out.size); clear HL; have HL := Lib.hid HL_; clear HL_; clear hb)
    | (go_at_call 25; (with_reducible refine (awake_p _).mono ?_); rintro e w1_ ⟨rfl, hb⟩; have HB0_ := (hb.block _ (blk_lt HB0.out)).trans HB0.out; clear HB0; have HB0 := Lib.hid HB0_; clear HB0_; have P0_ := P0.out.below hb (Nat.le_refl _); clear P0; have P0 := Lib.hid P0_; clear P0_; have HL_ := HL.out.trans (hb.mono HL.out.size); clear HL; have HL := Lib.hid HL_; clear HL_; clear hb))
  go_ret
  exact ⟨rfl, HL.out⟩
set_option maxHeartbeats 8000000 in
set_option maxRecDepth 100000 in
theorem Zero_yes (A : Option Addr) (c : Nat) (B : Option Addr) (d : Nat) (v : SV) (w : World) (k : SK w A c v.h B d v.k) (hw : v.wf) (ho : v.ok = true) :
    Calls Try.prog 13 #[.agg #[.slice A v.h.length c, .slice B v.k.length d, .int .u64 v.g.n, .int .u64 v.g.nans, .int .u64 v.g.lo, .int .u64 v.g.hi]] w fun e w' => e = .returned (.bool true) ∧ Below w.heap.size w w' := by
  have hu62 := Try.underlying45
  have P0 := Lib.hid k; have HW := Lib.hid hw; have HO := Lib.hid ho
  clear k hw ho
  go_enter Try.func13, Try.ntmps13
  go_wp2_with fail
  refine name_calls (fun WW HX => ?_)
  have b0_ := blk_new w (.cells #[.slice A v.h.length c, .slice B v.k.length d, .int .u64 v.g.n, .int .u64 v.g.nans, .int .u64 v.g.lo, .int .u64 v.g.hi] 45)
  have l0_ := below_alloc (Below.refl w.heap.size w) (.cells #[.slice A v.h.length c, .slice B v.k.length d, .int .u64 v.g.n, .int .u64 v.g.nans, .int .u64 v.g.lo, .int .u64 v.g.hi] 45)
  have p0_ := P0.out.alloc (.cells #[.slice A v.h.length c, .slice B v.k.length d, .int .u64 v.g.n, .int .u64 v.g.nans, .int .u64 v.g.lo, .int .u64 v.g.hi] 45)
  rw [HX.out] at b0_ l0_ p0_
  clear P0 HX
  have HB0 := Lib.hid b0_; have HL := Lib.hid l0_; have P0 := Lib.hid p0_
  clear b0_ l0_ p0_
  have T0 := Lib.hid True.intro
  have T1 := Lib.hid True.intro
  have T2 := Lib.hid True.intro
  have T3 := Lib.hid True.intro
  have T4 := Lib.hid True.intro
  have T5 := Lib.hid True.intro
  have T6 := Lib.hid True.intro
  have T7 := Lib.hid True.intro
  go_wp2_with (first
    | (go_at_call 40; (with_reducible refine (rcheckV P0.out HW.out HO.out).mono ?_); rintro e w0_ ⟨rfl, hb⟩; have HB0_ := (hb.block _ (blk_lt HB0.out)).trans HB0.out; clear HB0; have HB0 := Lib.hid HB0_; clear HB0_; have P0_ := P0.out.below hb (Nat.le_refl _); clear P0; have P0 := Lib.hid P0_; clear P0_; have HL_ := HL.out.trans (hb.mono HL.out.size); clear HL; have HL := Lib.hid HL_; clear HL_; clear hb; obtain ⟨HB0c0, HB0c1, HB0c2, HB0c3, HB0c4, HB0c5⟩ := box6 HB0.out; have HB0lt := blk_lt HB0.out)
    | (go_at_call 39; clear T0; (with_reducible refine (copyV P0.out).mono ?_); rintro e w1_ ⟨A1, c1, B1, d1, rfl, k_, hb⟩; clear HB0c0 HB0c1 HB0c2 HB0c3 HB0c4 HB0c5 HB0lt; have HB0_ := (hb.block _ (blk_lt HB0.out)).trans HB0.out; clear HB0; have HB0 := Lib.hid HB0_; clear HB0_; have P0_ := P0.out.below hb (Nat.le_refl _); clear P0; have P0 := Lib.hid P0_; clear P0_; have HL_ := HL.out.trans (hb.mono HL.out.size); clear HL; have HL := Lib.hid HL_; clear HL_; have S1 := Lib.hid k_; clear k_; clear hb)
    | (go_at_call 45; clear T1; (with_reducible refine (merge_zr S1.out HW.out HO.out).mono ?_); rintro e w2_ ⟨A2, c2, B2, d2, rfl, k_, hb⟩; clear S1; have HB0_ := (hb.block _ (blk_lt HB0.out)).trans HB0.out; clear HB0; have HB0 := Lib.hid HB0_; clear HB0_; have P0_ := P0.out.below hb (Nat.le_refl _); clear P0; have P0 := Lib.hid P0_; clear P0_; have HL_ := HL.out.trans (hb.mono HL.out.size); clear HL; have HL := Lib.hid HL_; clear HL_; have M1 := Lib.hid k_; clear k_; clear hb; obtain ⟨HB0c0, HB0c1, HB0c2, HB0c3, HB0c4, HB0c5⟩ := box6 HB0.out; have HB0lt := blk_lt HB0.out)
    | (go_at_call 39; clear T2; (with_reducible refine (copyV (P0.out.alloc _)).mono ?_); rintro e w3_ ⟨A3, c3, B3, d3, rfl, k_, hb⟩; have hn_ := new_below hb; have hb2 := below_of_alloc hb; clear HB0c0 HB0c1 HB0c2 HB0c3 HB0c4 HB0c5 HB0lt; have HB0_ := (hb2.block _ (blk_lt HB0.out)).trans HB0.out; clear HB0; have HB0 := Lib.hid HB0_; clear HB0_; have P0_ := P0.out.below hb2 (Nat.le_refl _); clear P0; have P0 := Lib.hid P0_; clear P0_; have M1_ := M1.out.below hb2 (Nat.le_refl _); clear M1; have M1 := Lib.hid M1_; clear M1_; have HL_ := HL.out.trans (hb2.mono HL.out.size); clear HL; have HL := Lib.hid HL_; clear HL_; have HB1 := Lib.hid hn_; clear hn_; have S2 := Lib.hid k_; clear k_; clear hb hb2)
    | (go_at_call 45; clear T3; (with_reducible refine (merge_zl S2.out HW.out HO.out).mono ?_); rintro e w4_ ⟨A4, c4, B4, d4, rfl, k_, hb⟩; clear S2; have HB0_ := (hb.block _ (blk_lt HB0.out)).trans HB0.out; clear HB0; have HB0 := Lib.hid HB0_; clear HB0_; have HB1_ := (hb.block _ (blk_lt HB1.out)).trans HB1.out; clear HB1; have HB1 := Lib.hid HB1_; clear HB1_; have P0_ := P0.out.below hb (Nat.le_refl _); clear P0; have P0 := Lib.hid P0_; clear P0_; have M1_ := M1.out.below hb (Nat.le_refl _); clear M1; have M1 := Lib.hid M1_; clear M1_; have HL_ := HL.out.trans (hb.mono HL.out.size); clear HL; have HL := Lib.hid HL_; clear HL_; have M2 := Lib.hid k_; clear k_; clear hb; obtain ⟨HB0c0, HB0c1, HB0c2, HB0c3, HB0c4, HB0c5⟩ := box6 HB0.out; have HB0lt := blk_lt HB0.out)
    | (go_at_call 39; clear T4; (with_reducible refine (copyV (P0.out.alloc _)).mono ?_); rintro e w5_ ⟨A5, c5, B5, d5, rfl, k_, hb⟩; have hn_ := new_below hb; have hb2 := below_of_alloc hb; clear HB0c0 HB0c1 HB0c2 HB0c3 HB0c4 HB0c5 HB0lt; have HB0_ := (hb2.block _ (blk_lt HB0.out)).trans HB0.out; clear HB0; have HB0 := Lib.hid HB0_; clear HB0_; have HB1_ := (hb2.block _ (blk_lt HB1.out)).trans HB1.out; clear HB1; have HB1 := Lib.hid HB1_; clear HB1_; have P0_ := P0.out.below hb2 (Nat.le_refl _); clear P0; have P0 := Lib.hid P0_; clear P0_; have M1_ := M1.out.below hb2 (Nat.le_refl _); clear M1; have M1 := Lib.hid M1_; clear M1_; have M2_ := M2.out.below hb2 (Nat.le_refl _); clear M2; have M2 := Lib.hid M2_; clear M2_; have HL_ := HL.out.trans (hb2.mono HL.out.size); clear HL; have HL := Lib.hid HL_; clear HL_; have HB2 := Lib.hid hn_; clear hn_; have S3 := Lib.hid k_; clear k_; clear hb hb2)
    | (go_at_call 44; (with_reducible refine (sum1_ok S3.out HW.out HO.out).mono ?_); rintro e w6_ ⟨A6, c6, B6, d6, rfl, k_, hb⟩; clear S3; have HB0_ := (hb.block _ (blk_lt HB0.out)).trans HB0.out; clear HB0; have HB0 := Lib.hid HB0_; clear HB0_; have HB1_ := (hb.block _ (blk_lt HB1.out)).trans HB1.out; clear HB1; have HB1 := Lib.hid HB1_; clear HB1_; have HB2_ := (hb.block _ (blk_lt HB2.out)).trans HB2.out; clear HB2; have HB2 := Lib.hid HB2_; clear HB2_; have P0_ := P0.out.below hb (Nat.le_refl _); clear P0; have P0 := Lib.hid P0_; clear P0_; have M1_ := M1.out.below hb (Nat.le_refl _); clear M1; have M1 := Lib.hid M1_; clear M1_; have M2_ := M2.out.below hb (Nat.le_refl _); clear M2; have M2 := Lib.hid M2_; clear M2_; have HL_ := HL.out.trans (hb.mono HL.out.size); clear HL; have HL := Lib.hid HL_; clear HL_; have M3 := Lib.hid k_; clear k_; clear hb; obtain ⟨HB0c0, HB0c1, HB0c2, HB0c3, HB0c4, HB0c5⟩ := box6 HB0.out; have HB0lt := blk_lt HB0.out; obtain ⟨HB1c0, HB1c1, HB1c2, HB1c3, HB1c4, HB1c5⟩ := box6 HB1.out; have HB1lt := blk_lt HB1.out)
    | (go_at_call 42; clear T5; (with_reducible refine (sameV (M1.out.alloc _) (P0.out.alloc _)).mono ?_); rintro e w7_ ⟨rfl, hb⟩; have hn_ := new_below hb; have hb2 := below_of_alloc hb; clear M1; clear HB1; clear HB0c0 HB0c1 HB0c2 HB0c3 HB0c4 HB0c5 HB0lt HB1c0 HB1c1 HB1c2 HB1c3 HB1c4 HB1c5 HB1lt; have HB0_ := (hb2.block _ (blk_lt HB0.out)).trans HB0.out; clear HB0; have HB0 := Lib.hid HB0_; clear HB0_; have HB2_ := (hb2.block _ (blk_lt HB2.out)).trans HB2.out; clear HB2; have HB2 := Lib.hid HB2_; clear HB2_; have P0_ := P0.out.below hb2 (Nat.le_refl _); clear P0; have P0 := Lib.hid P0_; clear P0_; have M2_ := M2.out.below hb2 (Nat.le_refl _); clear M2; have M2 := Lib.hid M2_; clear M2_; have M3_ := M3.out.below hb2 (Nat.le_refl _); clear M3; have M3 := Lib.hid M3_; clear M3_; have HL_ := HL.out.trans (hb2.mono HL.out.size); clear HL; have HL := Lib.hid HL_; clear HL_; have HB3 := Lib.hid hn_; clear hn_; clear hb hb2; obtain ⟨HB0c0, HB0c1, HB0c2, HB0c3, HB0c4, HB0c5⟩ := box6 HB0.out; have HB0lt := blk_lt HB0.out; obtain ⟨HB2c0, HB2c1, HB2c2, HB2c3, HB2c4, HB2c5⟩ := box6 HB2.out; have HB2lt := blk_lt HB2.out)
    | (go_at_call 42; clear T6; (with_reducible refine (sameV M2.out P0.out).mono ?_); rintro e w8_ ⟨rfl, hb⟩; clear M2; clear HB2; clear HB0c0 HB0c1 HB0c2 HB0c3 HB0c4 HB0c5 HB0lt HB2c0 HB2c1 HB2c2 HB2c3 HB2c4 HB2c5 HB2lt; have HB0_ := (hb.block _ (blk_lt HB0.out)).trans HB0.out; clear HB0; have HB0 := Lib.hid HB0_; clear HB0_; have HB3_ := (hb.block _ (blk_lt HB3.out)).trans HB3.out; clear HB3; have HB3 := Lib.hid HB3_; clear HB3_; have P0_ := P0.out.below hb (Nat.le_refl _); clear P0; have P0 := Lib.hid P0_; clear P0_; have M3_ := M3.out.below hb (Nat.le_refl _); clear M3; have M3 := Lib.hid M3_; clear M3_; have HL_ := HL.out.trans (hb.mono HL.out.size); clear HL; have HL := Lib.hid HL_; clear HL_; clear hb; obtain ⟨HB0c0, HB0c1, HB0c2, HB0c3, HB0c4, HB0c5⟩ := box6 HB0.out; have HB0lt := blk_lt HB0.out; obtain ⟨HB3c0, HB3c1, HB3c2, HB3c3, HB3c4, HB3c5⟩ := box6 HB3.out; have HB3lt := blk_lt HB3.out)
    | (go_at_call 42; clear T7; (with_reducible refine (sameV M3.out P0.out).mono ?_); rintro e w9_ ⟨rfl, hb⟩; clear M3; clear P0; clear HB0c0 HB0c1 HB0c2 HB0c3 HB0c4 HB0c5 HB0lt HB3c0 HB3c1 HB3c2 HB3c3 HB3c4 HB3c5 HB3lt; have HB0_ := (hb.block _ (blk_lt HB0.out)).trans HB0.out; clear HB0; have HB0 := Lib.hid HB0_; clear HB0_; have HB3_ := (hb.block _ (blk_lt HB3.out)).trans HB3.out; clear HB3; have HB3 := Lib.hid HB3_; clear HB3_; have HL_ := HL.out.trans (hb.mono HL.out.size); clear HL; have HL := Lib.hid HL_; clear HL_; clear hb)
    | (go_at_call 25; (with_reducible refine (awake_p _).mono ?_); rintro e w10_ ⟨rfl, hb⟩; have HB0_ := (hb.block _ (blk_lt HB0.out)).trans HB0.out; clear HB0; have HB0 := Lib.hid HB0_; clear HB0_; have HB3_ := (hb.block _ (blk_lt HB3.out)).trans HB3.out; clear HB3; have HB3 := Lib.hid HB3_; clear HB3_; have HL_ := HL.out.trans (hb.mono HL.out.size); clear HL; have HL := Lib.hid HL_; clear HL_; clear hb))
  go_ret
  exact ⟨rfl, HL.out⟩
end Go.Proofs.Ytncgjbocgbnkcaa
namespace Go.Proofs.Ytncgjbocgbnkcaa.Pure
set_option linter.unusedVariables false
set_option linter.unusedSimpArgs false
open Go.RowKit Go.Proofs.YtncgjbocgbnkcaaW.PrintWords Go.Proofs.Ytncgjbocgbnkcaa.Hi
theorem PairZero_walk (A0 : Option Addr) (c0 : Nat) (B0 : Option Addr) (d0 : Nat) (y0 : SV) (w : World)
    (C0 : Kd.C k68 w A0 y0.h.length y0.h) (m0 : y0.h.length ≤ c0) (D0 : Kd.C (Kd.int .u64) w B0 y0.k.length y0.k) (n0 : y0.k.length ≤ d0) (w0 : y0.wf) :
    Calls Try.prog 13 #[.agg #[.slice A0 y0.h.length c0, .slice B0 y0.k.length d0, .int .u64 y0.g.n, .int .u64 y0.g.nans, .int .u64 y0.g.lo, .int .u64 y0.g.hi]] w fun e w' => e = .returned (.bool true) ∧ Below w.heap.size w w' := by
  have k0 := skV C0 m0 D0 n0 w0
  cases ho : y0.ok
  · exact Zero_no A0 c0 B0 d0 y0 w k0 w0 ho
  · exact Zero_yes A0 c0 B0 d0 y0 w k0 w0 ho
end Go.Proofs.Ytncgjbocgbnkcaa.Pure
