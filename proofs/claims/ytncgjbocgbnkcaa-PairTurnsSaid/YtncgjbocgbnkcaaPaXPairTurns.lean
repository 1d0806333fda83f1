/- For any three sketches: to merge may be turned round and grouped. No condition. -/
import Derived.Test.YtncgjbocgbnkcaaPaM3
namespace Go.Proofs.Ytncgjbocgbnkcaa
set_option linter.unusedVariables false
set_option linter.unusedSimpArgs false
open Go.RowKit Go.Maps Go.Proofs.YtncgjbocgbnkcaaW.PrintWords Go.Proofs.YtncgjbocgbnkcaaW.PrintLast Go.Proofs.YtncgjbocgbnkcaaW.PrintMore Go.Proofs.Ytncgjbocgbnkcaa.Pure Go.Proofs.Ytncgjbocgbnkcaa.Q Go.Proofs.Ytncgjbocgbnkcaa.Hi Go.Proofs.Ytncgjbocgbnkcaa.Ga
set_option maxHeartbeats 16000000 in
set_option maxRecDepth 100000 in
theorem Turns_no0 (Av : Option Addr) (cv : Nat) (Bv : Option Addr) (dv : Nat) (v : SV) (Au : Option Addr) (cu : Nat) (Bu : Option Addr) (du : Nat) (u : SV) (At : Option Addr) (ct : Nat) (Bt : Option Addr) (dt : Nat) (t : SV) (w : World) (kv : SK w Av cv v.h Bv dv v.k) (hwv : v.wf) (ku : SK w Au cu u.h Bu du u.k) (hwu : u.wf) (kt : SK w At ct t.h Bt dt t.k) (hwt : t.wf) (hv : v.ok = false) :
    Calls Try.prog 14 #[.agg #[.slice Av v.h.length cv, .slice Bv v.k.length dv, .int .u64 v.g.n, .int .u64 v.g.nans, .int .u64 v.g.lo, .int .u64 v.g.hi], .agg #[.slice Au u.h.length cu, .slice Bu u.k.length du, .int .u64 u.g.n, .int .u64 u.g.nans, .int .u64 u.g.lo, .int .u64 u.g.hi], .agg #[.slice At t.h.length ct, .slice Bt t.k.length dt, .int .u64 t.g.n, .int .u64 t.g.nans, .int .u64 t.g.lo, .int .u64 t.g.hi]] w fun e w' => e = .returned (.bool true) ∧ Below w.heap.size w w' := by
  have hu62 := Try.underlying45
  have P0 := Lib.hid kv; have HW0 := Lib.hid hwv
  have P1 := Lib.hid ku; have HW1 := Lib.hid hwu
  have P2 := Lib.hid kt; have HW2 := Lib.hid hwt
  have HH0 := Lib.hid hv
  clear kv hwv ku hwu kt hwt hv
  go_enter Try.func14, Try.ntmps14
  go_wp2_with fail
  refine name_calls (fun WW HX => ?_)
  have b0_ := blk_alloc (blk_alloc (blk_new w (.cells #[.slice Av v.h.length cv, .slice Bv v.k.length dv, .int .u64 v.g.n, .int .u64 v.g.nans, .int .u64 v.g.lo, .int .u64 v.g.hi] 45)) (.cells #[.slice Au u.h.length cu, .slice Bu u.k.length du, .int .u64 u.g.n, .int .u64 u.g.nans, .int .u64 u.g.lo, .int .u64 u.g.hi] 45)) (.cells #[.slice At t.h.length ct, .slice Bt t.k.length dt, .int .u64 t.g.n, .int .u64 t.g.nans, .int .u64 t.g.lo, .int .u64 t.g.hi] 45)
  have b1_ := blk_alloc (blk_new (w.alloc (.cells #[.slice Av v.h.length cv, .slice Bv v.k.length dv, .int .u64 v.g.n, .int .u64 v.g.nans, .int .u64 v.g.lo, .int .u64 v.g.hi] 45)) (.cells #[.slice Au u.h.length cu, .slice Bu u.k.length du, .int .u64 u.g.n, .int .u64 u.g.nans, .int .u64 u.g.lo, .int .u64 u.g.hi] 45)) (.cells #[.slice At t.h.length ct, .slice Bt t.k.length dt, .int .u64 t.g.n, .int .u64 t.g.nans, .int .u64 t.g.lo, .int .u64 t.g.hi] 45)
  have b2_ := blk_new ((w.alloc (.cells #[.slice Av v.h.length cv, .slice Bv v.k.length dv, .int .u64 v.g.n, .int .u64 v.g.nans, .int .u64 v.g.lo, .int .u64 v.g.hi] 45)).alloc (.cells #[.slice Au u.h.length cu, .slice Bu u.k.length du, .int .u64 u.g.n, .int .u64 u.g.nans, .int .u64 u.g.lo, .int .u64 u.g.hi] 45)) (.cells #[.slice At t.h.length ct, .slice Bt t.k.length dt, .int .u64 t.g.n, .int .u64 t.g.nans, .int .u64 t.g.lo, .int .u64 t.g.hi] 45)
  have l0_ := below_alloc (below_alloc (below_alloc (Below.refl w.heap.size w) (.cells #[.slice Av v.h.length cv, .slice Bv v.k.length dv, .int .u64 v.g.n, .int .u64 v.g.nans, .int .u64 v.g.lo, .int .u64 v.g.hi] 45)) (.cells #[.slice Au u.h.length cu, .slice Bu u.k.length du, .int .u64 u.g.n, .int .u64 u.g.nans, .int .u64 u.g.lo, .int .u64 u.g.hi] 45)) (.cells #[.slice At t.h.length ct, .slice Bt t.k.length dt, .int .u64 t.g.n, .int .u64 t.g.nans, .int .u64 t.g.lo, .int .u64 t.g.hi] 45)
  have p0_ := (((P0.out).alloc (.cells #[.slice Av v.h.length cv, .slice Bv v.k.length dv, .int .u64 v.g.n, .int .u64 v.g.nans, .int .u64 v.g.lo, .int .u64 v.g.hi] 45)).alloc (.cells #[.slice Au u.h.length cu, .slice Bu u.k.length du, .int .u64 u.g.n, .int .u64 u.g.nans, .int .u64 u.g.lo, .int .u64 u.g.hi] 45)).alloc (.cells #[.slice At t.h.length ct, .slice Bt t.k.length dt, .int .u64 t.g.n, .int .u64 t.g.nans, .int .u64 t.g.lo, .int .u64 t.g.hi] 45)
  have p1_ := (((P1.out).alloc (.cells #[.slice Av v.h.length cv, .slice Bv v.k.length dv, .int .u64 v.g.n, .int .u64 v.g.nans, .int .u64 v.g.lo, .int .u64 v.g.hi] 45)).alloc (.cells #[.slice Au u.h.length cu, .slice Bu u.k.length du, .int .u64 u.g.n, .int .u64 u.g.nans, .int .u64 u.g.lo, .int .u64 u.g.hi] 45)).alloc (.cells #[.slice At t.h.length ct, .slice Bt t.k.length dt, .int .u64 t.g.n, .int .u64 t.g.nans, .int .u64 t.g.lo, .int .u64 t.g.hi] 45)
  have p2_ := (((P2.out).alloc (.cells #[.slice Av v.h.length cv, .slice Bv v.k.length dv, .int .u64 v.g.n, .int .u64 v.g.nans, .int .u64 v.g.lo, .int .u64 v.g.hi] 45)).alloc (.cells #[.slice Au u.h.length cu, .slice Bu u.k.length du, .int .u64 u.g.n, .int .u64 u.g.nans, .int .u64 u.g.lo, .int .u64 u.g.hi] 45)).alloc (.cells #[.slice At t.h.length ct, .slice Bt t.k.length dt, .int .u64 t.g.n, .int .u64 t.g.nans, .int .u64 t.g.lo, .int .u64 t.g.hi] 45)
  rw [show (w.alloc (.cells #[.slice Av v.h.length cv, .slice Bv v.k.length dv, .int .u64 v.g.n, .int .u64 v.g.nans, .int .u64 v.g.lo, .int .u64 v.g.hi] 45)).heap.size = w.heap.size + 1 from by simp] at b1_
  rw [show ((w.alloc (.cells #[.slice Av v.h.length cv, .slice Bv v.k.length dv, .int .u64 v.g.n, .int .u64 v.g.nans, .int .u64 v.g.lo, .int .u64 v.g.hi] 45)).alloc (.cells #[.slice Au u.h.length cu, .slice Bu u.k.length du, .int .u64 u.g.n, .int .u64 u.g.nans, .int .u64 u.g.lo, .int .u64 u.g.hi] 45)).heap.size = w.heap.size + 1 + 1 from by simp] at b2_
  rw [HX.out] at b0_ b1_ b2_ l0_ p0_ p1_ p2_
  clear P0 P1 P2 HX
  have HB0 := Lib.hid b0_; have P0 := Lib.hid p0_
  have HB1 := Lib.hid b1_; have P1 := Lib.hid p1_
  have HB2 := Lib.hid b2_; have P2 := Lib.hid p2_
  have HL := Lib.hid l0_
  clear l0_ b0_ p0_ b1_ p1_ b2_ p2_
  go_wp2_with (first
    | (go_at_call 40; (with_reducible refine (rcheckV P0.out HW0.out HH0.out).mono ?_); rintro e w0_ ⟨rfl, hb⟩; have HB0_ := (hb.block _ (blk_lt HB0.out)).trans HB0.out; clear HB0; have HB0 := Lib.hid HB0_; clear HB0_; have HB1_ := (hb.block _ (blk_lt HB1.out)).trans HB1.out; clear HB1; have HB1 := Lib.hid HB1_; clear HB1_; have HB2_ := (hb.block _ (blk_lt HB2.out)).trans HB2.out; clear HB2; have HB2 := Lib.hid HB2_; clear HB2_; have P0_ := P0.out.below hb (Nat.le_refl _); clear P0; have P0 := Lib.hid P0_; clear P0_; have P1_ := P1.out.below hb (Nat.le_refl _); clear P1; have P1 := Lib.hid P1_; clear P1_; have P2_ := P2.out.below hb (Nat.le_refl _); clear P2; have P2 := Lib.hid P2_; clear P2_; have HL_ := HL.out.trans (hb.mono HL.out.size); clear HL; have HL := Lib.hid HL_; clear HL_; clear hb)
    | (go_at_call 25; (with_reducible refine (awake_p _).mono ?_); rintro e w1_ ⟨rfl, hb⟩; have HB0_ := (hb.block _ (blk_lt HB0.out)).trans HB0.out; clear HB0; have HB0 := Lib.hid HB0_; clear HB0_; have HB1_ := (hb.block _ (blk_lt HB1.out)).trans HB1.out; clear HB1; have HB1 := Lib.hid HB1_; clear HB1_; have HB2_ := (hb.block _ (blk_lt HB2.out)).trans HB2.out; clear HB2; have HB2 := Lib.hid HB2_; clear HB2_; have P0_ := P0.out.below hb (Nat.le_refl _); clear P0; have P0 := Lib.hid P0_; clear P0_; have P1_ := P1.out.below hb (Nat.le_refl _); clear P1; have P1 := Lib.hid P1_; clear P1_; have P2_ := P2.out.below hb (Nat.le_refl _); clear P2; have P2 := Lib.hid P2_; clear P2_; have HL_ := HL.out.trans (hb.mono HL.out.size); clear HL; have HL := Lib.hid HL_; clear HL_; clear hb))
  go_ret
  exact ⟨rfl, HL.out⟩
set_option maxHeartbeats 16000000 in
set_option maxRecDepth 100000 in
theorem Turns_no1 (Av : Option Addr) (cv : Nat) (Bv : Option Addr) (dv : Nat) (v : SV) (Au : Option Addr) (cu : Nat) (Bu : Option Addr) (du : Nat) (u : SV) (At : Option Addr) (ct : Nat) (Bt : Option Addr) (dt : Nat) (t : SV) (w : World) (kv : SK w Av cv v.h Bv dv v.k) (hwv : v.wf) (ku : SK w Au cu u.h Bu du u.k) (hwu : u.wf) (kt : SK w At ct t.h Bt dt t.k) (hwt : t.wf) (hv : v.ok = true) (hu : u.ok = false) :
    Calls Try.prog 14 #[.agg #[.slice Av v.h.length cv, .slice Bv v.k.length dv, .int .u64 v.g.n, .int .u64 v.g.nans, .int .u64 v.g.lo, .int .u64 v.g.hi], .agg #[.slice Au u.h.length cu, .slice Bu u.k.length du, .int .u64 u.g.n, .int .u64 u.g.nans, .int .u64 u.g.lo, .int .u64 u.g.hi], .agg #[.slice At t.h.length ct, .slice Bt t.k.length dt, .int .u64 t.g.n, .int .u64 t.g.nans, .int .u64 t.g.lo, .int .u64 t.g.hi]] w fun e w' => e = .returned (.bool true) ∧ Below w.heap.size w w' := by
  have hu62 := Try.underlying45
  have P0 := Lib.hid kv; have HW0 := Lib.hid hwv
  have P1 := Lib.hid ku; have HW1 := Lib.hid hwu
  have P2 := Lib.hid kt; have HW2 := Lib.hid hwt
  have HH0 := Lib.hid hv
  have HH1 := Lib.hid hu
  clear kv hwv ku hwu kt hwt hv hu
  go_enter Try.func14, Try.ntmps14
  go_wp2_with fail
  refine name_calls (fun WW HX => ?_)
  have b0_ := blk_alloc (blk_alloc (blk_new w (.cells #[.slice Av v.h.length cv, .slice Bv v.k.length dv, .int .u64 v.g.n, .int .u64 v.g.nans, .int .u64 v.g.lo, .int .u64 v.g.hi] 45)) (.cells #[.slice Au u.h.length cu, .slice Bu u.k.length du, .int .u64 u.g.n, .int .u64 u.g.nans, .int .u64 u.g.lo, .int .u64 u.g.hi] 45)) (.cells #[.slice At t.h.length ct, .slice Bt t.k.length dt, .int .u64 t.g.n, .int .u64 t.g.nans, .int .u64 t.g.lo, .int .u64 t.g.hi] 45)
  have b1_ := blk_alloc (blk_new (w.alloc (.cells #[.slice Av v.h.length cv, .slice Bv v.k.length dv, .int .u64 v.g.n, .int .u64 v.g.nans, .int .u64 v.g.lo, .int .u64 v.g.hi] 45)) (.cells #[.slice Au u.h.length cu, .slice Bu u.k.length du, .int .u64 u.g.n, .int .u64 u.g.nans, .int .u64 u.g.lo, .int .u64 u.g.hi] 45)) (.cells #[.slice At t.h.length ct, .slice Bt t.k.length dt, .int .u64 t.g.n, .int .u64 t.g.nans, .int .u64 t.g.lo, .int .u64 t.g.hi] 45)
  have b2_ := blk_new ((w.alloc (.cells #[.slice Av v.h.length cv, .slice Bv v.k.length dv, .int .u64 v.g.n, .int .u64 v.g.nans, .int .u64 v.g.lo, .int .u64 v.g.hi] 45)).alloc (.cells #[.slice Au u.h.length cu, .slice Bu u.k.length du, .int .u64 u.g.n, .int .u64 u.g.nans, .int .u64 u.g.lo, .int .u64 u.g.hi] 45)) (.cells #[.slice At t.h.length ct, .slice Bt t.k.length dt, .int .u64 t.g.n, .int .u64 t.g.nans, .int .u64 t.g.lo, .int .u64 t.g.hi] 45)
  have l0_ := below_alloc (below_alloc (below_alloc (Below.refl w.heap.size w) (.cells #[.slice Av v.h.length cv, .slice Bv v.k.length dv, .int .u64 v.g.n, .int .u64 v.g.nans, .int .u64 v.g.lo, .int .u64 v.g.hi] 45)) (.cells #[.slice Au u.h.length cu, .slice Bu u.k.length du, .int .u64 u.g.n, .int .u64 u.g.nans, .int .u64 u.g.lo, .int .u64 u.g.hi] 45)) (.cells #[.slice At t.h.length ct, .slice Bt t.k.length dt, .int .u64 t.g.n, .int .u64 t.g.nans, .int .u64 t.g.lo, .int .u64 t.g.hi] 45)
  have p0_ := (((P0.out).alloc (.cells #[.slice Av v.h.length cv, .slice Bv v.k.length dv, .int .u64 v.g.n, .int .u64 v.g.nans, .int .u64 v.g.lo, .int .u64 v.g.hi] 45)).alloc (.cells #[.slice Au u.h.length cu, .slice Bu u.k.length du, .int .u64 u.g.n, .int .u64 u.g.nans, .int .u64 u.g.lo, .int .u64 u.g.hi] 45)).alloc (.cells #[.slice At t.h.length ct, .slice Bt t.k.length dt, .int .u64 t.g.n, .int .u64 t.g.nans, .int .u64 t.g.lo, .int .u64 t.g.hi] 45)
  have p1_ := (((P1.out).alloc (.cells #[.slice Av v.h.length cv, .slice Bv v.k.length dv, .int .u64 v.g.n, .int .u64 v.g.nans, .int .u64 v.g.lo, .int .u64 v.g.hi] 45)).alloc (.cells #[.slice Au u.h.length cu, .slice Bu u.k.length du, .int .u64 u.g.n, .int .u64 u.g.nans, .int .u64 u.g.lo, .int .u64 u.g.hi] 45)).alloc (.cells #[.slice At t.h.length ct, .slice Bt t.k.length dt, .int .u64 t.g.n, .int .u64 t.g.nans, .int .u64 t.g.lo, .int .u64 t.g.hi] 45)
  have p2_ := (((P2.out).alloc (.cells #[.slice Av v.h.length cv, .slice Bv v.k.length dv, .int .u64 v.g.n, .int .u64 v.g.nans, .int .u64 v.g.lo, .int .u64 v.g.hi] 45)).alloc (.cells #[.slice Au u.h.length cu, .slice Bu u.k.length du, .int .u64 u.g.n, .int .u64 u.g.nans, .int .u64 u.g.lo, .int .u64 u.g.hi] 45)).alloc (.cells #[.slice At t.h.length ct, .slice Bt t.k.length dt, .int .u64 t.g.n, .int .u64 t.g.nans, .int .u64 t.g.lo, .int .u64 t.g.hi] 45)
  rw [show (w.alloc (.cells #[.slice Av v.h.length cv, .slice Bv v.k.length dv, .int .u64 v.g.n, .int .u64 v.g.nans, .int .u64 v.g.lo, .int .u64 v.g.hi] 45)).heap.size = w.heap.size + 1 from by simp] at b1_
  rw [show ((w.alloc (.cells #[.slice Av v.h.length cv, .slice Bv v.k.length dv, .int .u64 v.g.n, .int .u64 v.g.nans, .int .u64 v.g.lo, .int .u64 v.g.hi] 45)).alloc (.cells #[.slice Au u.h.length cu, .slice Bu u.k.length du, .int .u64 u.g.n, .int .u64 u.g.nans, .int .u64 u.g.lo, .int .u64 u.g.hi] 45)).heap.size = w.heap.size + 1 + 1 from by simp] at b2_
  rw [HX.out] at b0_ b1_ b2_ l0_ p0_ p1_ p2_
  clear P0 P1 P2 HX
  have HB0 := Lib.hid b0_; have P0 := Lib.hid p0_
  have HB1 := Lib.hid b1_; have P1 := Lib.hid p1_
  have HB2 := Lib.hid b2_; have P2 := Lib.hid p2_
  have HL := Lib.hid l0_
  clear l0_ b0_ p0_ b1_ p1_ b2_ p2_
  go_wp2_with (first
    | (go_at_call 40; (with_reducible refine (rcheckV P0.out HW0.out HH0.out).mono ?_); rintro e w0_ ⟨rfl, hb⟩; have HB0_ := (hb.block _ (blk_lt HB0.out)).trans HB0.out; clear HB0; have HB0 := Lib.hid HB0_; clear HB0_; have HB1_ := (hb.block _ (blk_lt HB1.out)).trans HB1.out; clear HB1; have HB1 := Lib.hid HB1_; clear HB1_; have HB2_ := (hb.block _ (blk_lt HB2.out)).trans HB2.out; clear HB2; have HB2 := Lib.hid HB2_; clear HB2_; have P0_ := P0.out.below hb (Nat.le_refl _); clear P0; have P0 := Lib.hid P0_; clear P0_; have P1_ := P1.out.below hb (Nat.le_refl _); clear P1; have P1 := Lib.hid P1_; clear P1_; have P2_ := P2.out.below hb (Nat.le_refl _); clear P2; have P2 := Lib.hid P2_; clear P2_; have HL_ := HL.out.trans (hb.mono HL.out.size); clear HL; have HL := Lib.hid HL_; clear HL_; clear hb; obtain ⟨HB1c0, HB1c1, HB1c2, HB1c3, HB1c4, HB1c5⟩ := box6 HB1.out; have HB1lt := blk_lt HB1.out)
    | (go_at_call 40; (with_reducible refine (rcheckV P1.out HW1.out HH1.out).mono ?_); rintro e w1_ ⟨rfl, hb⟩; clear HB1c0 HB1c1 HB1c2 HB1c3 HB1c4 HB1c5 HB1lt; have HB0_ := (hb.block _ (blk_lt HB0.out)).trans HB0.out; clear HB0; have HB0 := Lib.hid HB0_; clear HB0_; have HB1_ := (hb.block _ (blk_lt HB1.out)).trans HB1.out; clear HB1; have HB1 := Lib.hid HB1_; clear HB1_; have HB2_ := (hb.block _ (blk_lt HB2.out)).trans HB2.out; clear HB2; have HB2 := Lib.hid HB2_; clear HB2_; have P0_ := P0.out.below hb (Nat.le_refl _); clear P0; have P0 := Lib.hid P0_; clear P0_; have P1_ := P1.out.below hb (Nat.le_refl _); clear P1; have P1 := Lib.hid P1_; clear P1_; have P2_ := P2.out.below hb (Nat.le_refl _); clear P2; have P2 := Lib.hid P2_; clear P2_; have HL_ := HL.out.trans (hb.mono HL.out.size); clear HL; have HL := Lib.hid HL_; clear HL_; clear hb)
    | (go_at_call 25; (with_reducible refine (awake_p _).mono ?_); rintro e w2_ ⟨rfl, hb⟩; have HB0_ := (hb.block _ (blk_lt HB0.out)).trans HB0.out; clear HB0; have HB0 := Lib.hid HB0_; clear HB0_; have HB1_ := (hb.block _ (blk_lt HB1.out)).trans HB1.out; clear HB1; have HB1 := Lib.hid HB1_; clear HB1_; have HB2_ := (hb.block _ (blk_lt HB2.out)).trans HB2.out; clear HB2; have HB2 := Lib.hid HB2_; clear HB2_; have P0_ := P0.out.below hb (Nat.le_refl _); clear P0; have P0 := Lib.hid P0_; clear P0_; have P1_ := P1.out.below hb (Nat.le_refl _); clear P1; have P1 := Lib.hid P1_; clear P1_; have P2_ := P2.out.below hb (Nat.le_refl _); clear P2; have P2 := Lib.hid P2_; clear P2_; have HL_ := HL.out.trans (hb.mono HL.out.size); clear HL; have HL := Lib.hid HL_; clear HL_; clear hb))
  go_ret
  exact ⟨rfl, HL.out⟩
set_option maxHeartbeats 16000000 in
set_option maxRecDepth 100000 in
theorem Turns_no2 (Av : Option Addr) (cv : Nat) (Bv : Option Addr) (dv : Nat) (v : SV) (Au : Option Addr) (cu : Nat) (Bu : Option Addr) (du : Nat) (u : SV) (At : Option Addr) (ct : Nat) (Bt : Option Addr) (dt : Nat) (t : SV) (w : World) (kv : SK w Av cv v.h Bv dv v.k) (hwv : v.wf) (ku : SK w Au cu u.h Bu du u.k) (hwu : u.wf) (kt : SK w At ct t.h Bt dt t.k) (hwt : t.wf) (hv : v.ok = true) (hu : u.ok = true) (ht : t.ok = false) :
    Calls Try.prog 14 #[.agg #[.slice Av v.h.length cv, .slice Bv v.k.length dv, .int .u64 v.g.n, .int .u64 v.g.nans, .int .u64 v.g.lo, .int .u64 v.g.hi], .agg #[.slice Au u.h.length cu, .slice Bu u.k.length du, .int .u64 u.g.n, .int .u64 u.g.nans, .int .u64 u.g.lo, .int .u64 u.g.hi], .agg #[.slice At t.h.length ct, .slice Bt t.k.length dt, .int .u64 t.g.n, .int .u64 t.g.nans, .int .u64 t.g.lo, .int .u64 t.g.hi]] w fun e w' => e = .returned (.bool true) ∧ Below w.heap.size w w' := by
  have hu62 := Try.underlying45
  have P0 := Lib.hid kv; have HW0 := Lib.hid hwv
  have P1 := Lib.hid ku; have HW1 := Lib.hid hwu
  have P2 := Lib.hid kt; have HW2 := Lib.hid hwt
  have HH0 := Lib.hid hv
  have HH1 := Lib.hid hu
  have HH2 := Lib.hid ht
  clear kv hwv ku hwu kt hwt hv hu ht
  go_enter Try.func14, Try.ntmps14
  go_wp2_with fail
  refine name_calls (fun WW HX => ?_)
  have b0_ := blk_alloc (blk_alloc (blk_new w (.cells #[.slice Av v.h.length cv, .slice Bv v.k.length dv, .int .u64 v.g.n, .int .u64 v.g.nans, .int .u64 v.g.lo, .int .u64 v.g.hi] 45)) (.cells #[.slice Au u.h.length cu, .slice Bu u.k.length du, .int .u64 u.g.n, .int .u64 u.g.nans, .int .u64 u.g.lo, .int .u64 u.g.hi] 45)) (.cells #[.slice At t.h.length ct, .slice Bt t.k.length dt, .int .u64 t.g.n, .int .u64 t.g.nans, .int .u64 t.g.lo, .int .u64 t.g.hi] 45)
  have b1_ := blk_alloc (blk_new (w.alloc (.cells #[.slice Av v.h.length cv, .slice Bv v.k.length dv, .int .u64 v.g.n, .int .u64 v.g.nans, .int .u64 v.g.lo, .int .u64 v.g.hi] 45)) (.cells #[.slice Au u.h.length cu, .slice Bu u.k.length du, .int .u64 u.g.n, .int .u64 u.g.nans, .int .u64 u.g.lo, .int .u64 u.g.hi] 45)) (.cells #[.slice At t.h.length ct, .slice Bt t.k.length dt, .int .u64 t.g.n, .int .u64 t.g.nans, .int .u64 t.g.lo, .int .u64 t.g.hi] 45)
  have b2_ := blk_new ((w.alloc (.cells #[.slice Av v.h.length cv, .slice Bv v.k.length dv, .int .u64 v.g.n, .int .u64 v.g.nans, .int .u64 v.g.lo, .int .u64 v.g.hi] 45)).alloc (.cells #[.slice Au u.h.length cu, .slice Bu u.k.length du, .int .u64 u.g.n, .int .u64 u.g.nans, .int .u64 u.g.lo, .int .u64 u.g.hi] 45)) (.cells #[.slice At t.h.length ct, .slice Bt t.k.length dt, .int .u64 t.g.n, .int .u64 t.g.nans, .int .u64 t.g.lo, .int .u64 t.g.hi] 45)
  have l0_ := below_alloc (below_alloc (below_alloc (Below.refl w.heap.size w) (.cells #[.slice Av v.h.length cv, .slice Bv v.k.length dv, .int .u64 v.g.n, .int .u64 v.g.nans, .int .u64 v.g.lo, .int .u64 v.g.hi] 45)) (.cells #[.slice Au u.h.length cu, .slice Bu u.k.length du, .int .u64 u.g.n, .int .u64 u.g.nans, .int .u64 u.g.lo, .int .u64 u.g.hi] 45)) (.cells #[.slice At t.h.length ct, .slice Bt t.k.length dt, .int .u64 t.g.n, .int .u64 t.g.nans, .int .u64 t.g.lo, .int .u64 t.g.hi] 45)
  have p0_ := (((P0.out).alloc (.cells #[.slice Av v.h.length cv, .slice Bv v.k.length dv, .int .u64 v.g.n, .int .u64 v.g.nans, .int .u64 v.g.lo, .int .u64 v.g.hi] 45)).alloc (.cells #[.slice Au u.h.length cu, .slice Bu u.k.length du, .int .u64 u.g.n, .int .u64 u.g.nans, .int .u64 u.g.lo, .int .u64 u.g.hi] 45)).alloc (.cells #[.slice At t.h.length ct, .slice Bt t.k.length dt, .int .u64 t.g.n, .int .u64 t.g.nans, .int .u64 t.g.lo, .int .u64 t.g.hi] 45)
  have p1_ := (((P1.out).alloc (.cells #[.slice Av v.h.length cv, .slice Bv v.k.length dv, .int .u64 v.g.n, .int .u64 v.g.nans, .int .u64 v.g.lo, .int .u64 v.g.hi] 45)).alloc (.cells #[.slice Au u.h.length cu, .slice Bu u.k.length du, .int .u64 u.g.n, .int .u64 u.g.nans, .int .u64 u.g.lo, .int .u64 u.g.hi] 45)).alloc (.cells #[.slice At t.h.length ct, .slice Bt t.k.length dt, .int .u64 t.g.n, .int .u64 t.g.nans, .int .u64 t.g.lo, .int .u64 t.g.hi] 45)
  have p2_ := (((P2.out).alloc (.cells #[.slice Av v.h.length cv, .slice Bv v.k.length dv, .int .u64 v.g.n, .int .u64 v.g.nans, .int .u64 v.g.lo, .int .u64 v.g.hi] 45)).alloc (.cells #[.slice Au u.h.length cu, .slice Bu u.k.length du, .int .u64 u.g.n, .int .u64 u.g.nans, .int .u64 u.g.lo, .int .u64 u.g.hi] 45)).alloc (.cells #[.slice At t.h.length ct, .slice Bt t.k.length dt, .int .u64 t.g.n, .int .u64 t.g.nans, .int .u64 t.g.lo, .int .u64 t.g.hi] 45)
  rw [show (w.alloc (.cells #[.slice Av v.h.length cv, .slice Bv v.k.length dv, .int .u64 v.g.n, .int .u64 v.g.nans, .int .u64 v.g.lo, .int .u64 v.g.hi] 45)).heap.size = w.heap.size + 1 from by simp] at b1_
  rw [show ((w.alloc (.cells #[.slice Av v.h.length cv, .slice Bv v.k.length dv, .int .u64 v.g.n, .int .u64 v.g.nans, .int .u64 v.g.lo, .int .u64 v.g.hi] 45)).alloc (.cells #[.slice Au u.h.length cu, .slice Bu u.k.length du, .int .u64 u.g.n, .int .u64 u.g.nans, .int .u64 u.g.lo, .int .u64 u.g.hi] 45)).heap.size = w.heap.size + 1 + 1 from by simp] at b2_
  rw [HX.out] at b0_ b1_ b2_ l0_ p0_ p1_ p2_
  clear P0 P1 P2 HX
  have HB0 := Lib.hid b0_; have P0 := Lib.hid p0_
  have HB1 := Lib.hid b1_; have P1 := Lib.hid p1_
  have HB2 := Lib.hid b2_; have P2 := Lib.hid p2_
  have HL := Lib.hid l0_
  clear l0_ b0_ p0_ b1_ p1_ b2_ p2_
  go_wp2_with (first
    | (go_at_call 40; (with_reducible refine (rcheckV P0.out HW0.out HH0.out).mono ?_); rintro e w0_ ⟨rfl, hb⟩; have HB0_ := (hb.block _ (blk_lt HB0.out)).trans HB0.out; clear HB0; have HB0 := Lib.hid HB0_; clear HB0_; have HB1_ := (hb.block _ (blk_lt HB1.out)).trans HB1.out; clear HB1; have HB1 := Lib.hid HB1_; clear HB1_; have HB2_ := (hb.block _ (blk_lt HB2.out)).trans HB2.out; clear HB2; have HB2 := Lib.hid HB2_; clear HB2_; have P0_ := P0.out.below hb (Nat.le_refl _); clear P0; have P0 := Lib.hid P0_; clear P0_; have P1_ := P1.out.below hb (Nat.le_refl _); clear P1; have P1 := Lib.hid P1_; clear P1_; have P2_ := P2.out.below hb (Nat.le_refl _); clear P2; have P2 := Lib.hid P2_; clear P2_; have HL_ := HL.out.trans (hb.mono HL.out.size); clear HL; have HL := Lib.hid HL_; clear HL_; clear hb; obtain ⟨HB1c0, HB1c1, HB1c2, HB1c3, HB1c4, HB1c5⟩ := box6 HB1.out; have HB1lt := blk_lt HB1.out)
    | (go_at_call 40; (with_reducible refine (rcheckV P1.out HW1.out HH1.out).mono ?_); rintro e w1_ ⟨rfl, hb⟩; clear HB1c0 HB1c1 HB1c2 HB1c3 HB1c4 HB1c5 HB1lt; have HB0_ := (hb.block _ (blk_lt HB0.out)).trans HB0.out; clear HB0; have HB0 := Lib.hid HB0_; clear HB0_; have HB1_ := (hb.block _ (blk_lt HB1.out)).trans HB1.out; clear HB1; have HB1 := Lib.hid HB1_; clear HB1_; have HB2_ := (hb.block _ (blk_lt HB2.out)).trans HB2.out; clear HB2; have HB2 := Lib.hid HB2_; clear HB2_; have P0_ := P0.out.below hb (Nat.le_refl _); clear P0; have P0 := Lib.hid P0_; clear P0_; have P1_ := P1.out.below hb (Nat.le_refl _); clear P1; have P1 := Lib.hid P1_; clear P1_; have P2_ := P2.out.below hb (Nat.le_refl _); clear P2; have P2 := Lib.hid P2_; clear P2_; have HL_ := HL.out.trans (hb.mono HL.out.size); clear HL; have HL := Lib.hid HL_; clear HL_; clear hb; obtain ⟨HB2c0, HB2c1, HB2c2, HB2c3, HB2c4, HB2c5⟩ := box6 HB2.out; have HB2lt := blk_lt HB2.out)
    | (go_at_call 40; (with_reducible refine (rcheckV P2.out HW2.out HH2.out).mono ?_); rintro e w2_ ⟨rfl, hb⟩; clear HB2c0 HB2c1 HB2c2 HB2c3 HB2c4 HB2c5 HB2lt; have HB0_ := (hb.block _ (blk_lt HB0.out)).trans HB0.out; clear HB0; have HB0 := Lib.hid HB0_; clear HB0_; have HB1_ := (hb.block _ (blk_lt HB1.out)).trans HB1.out; clear HB1; have HB1 := Lib.hid HB1_; clear HB1_; have HB2_ := (hb.block _ (blk_lt HB2.out)).trans HB2.out; clear HB2; have HB2 := Lib.hid HB2_; clear HB2_; have P0_ := P0.out.below hb (Nat.le_refl _); clear P0; have P0 := Lib.hid P0_; clear P0_; have P1_ := P1.out.below hb (Nat.le_refl _); clear P1; have P1 := Lib.hid P1_; clear P1_; have P2_ := P2.out.below hb (Nat.le_refl _); clear P2; have P2 := Lib.hid P2_; clear P2_; have HL_ := HL.out.trans (hb.mono HL.out.size); clear HL; have HL := Lib.hid HL_; clear HL_; clear hb)
    | (go_at_call 25; (with_reducible refine (awake_p _).mono ?_); rintro e w3_ ⟨rfl, hb⟩; have HB0_ := (hb.block _ (blk_lt HB0.out)).trans HB0.out; clear HB0; have HB0 := Lib.hid HB0_; clear HB0_; have HB1_ := (hb.block _ (blk_lt HB1.out)).trans HB1.out; clear HB1; have HB1 := Lib.hid HB1_; clear HB1_; have HB2_ := (hb.block _ (blk_lt HB2.out)).trans HB2.out; clear HB2; have HB2 := Lib.hid HB2_; clear HB2_; have P0_ := P0.out.below hb (Nat.le_refl _); clear P0; have P0 := Lib.hid P0_; clear P0_; have P1_ := P1.out.below hb (Nat.le_refl _); clear P1; have P1 := Lib.hid P1_; clear P1_; have P2_ := P2.out.below hb (Nat.le_refl _); clear P2; have P2 := Lib.hid P2_; clear P2_; have HL_ := HL.out.trans (hb.mono HL.out.size); clear HL; have HL := Lib.hid HL_; clear HL_; clear hb))
  go_ret
  exact ⟨rfl, HL.out⟩
set_option maxHeartbeats 16000000 in
set_option maxRecDepth 100000 in
theorem Turns_yes (Av : Option Addr) (cv : Nat) (Bv : Option Addr) (dv : Nat) (v : SV) (Au : Option Addr) (cu : Nat) (Bu : Option Addr) (du : Nat) (u : SV) (At : Option Addr) (ct : Nat) (Bt : Option Addr) (dt : Nat) (t : SV) (w : World) (kv : SK w Av cv v.h Bv dv v.k) (hwv : v.wf) (ku : SK w Au cu u.h Bu du u.k) (hwu : u.wf) (kt : SK w At ct t.h Bt dt t.k) (hwt : t.wf) (hv : v.ok = true) (hu : u.ok = true) (ht : t.ok = true) (s1 s2 s3 : SV) (a1 : AllOk [v, u]) (a2 : AllOk [u, v]) (a3 : AllOk [u, t]) (a4 : AllOk [s1, t]) (a5 : AllOk [v, s2]) (e1 : sumV [v, u] = s1) (e2 : sumV [u, v] = s1) (e3 : sumV [u, t] = s2) (e4 : sumV [s1, t] = s3) (e5 : sumV [v, s2] = s3) :
    Calls Try.prog 14 #[.agg #[.slice Av v.h.length cv, .slice Bv v.k.length dv, .int .u64 v.g.n, .int .u64 v.g.nans, .int .u64 v.g.lo, .int .u64 v.g.hi], .agg #[.slice Au u.h.length cu, .slice Bu u.k.length du, .int .u64 u.g.n, .int .u64 u.g.nans, .int .u64 u.g.lo, .int .u64 u.g.hi], .agg #[.slice At t.h.length ct, .slice Bt t.k.length dt, .int .u64 t.g.n, .int .u64 t.g.nans, .int .u64 t.g.lo, .int .u64 t.g.hi]] w fun e w' => e = .returned (.bool true) ∧ Below w.heap.size w w' := by
  have hu62 := Try.underlying45
  have P0 := Lib.hid kv; have HW0 := Lib.hid hwv
  have P1 := Lib.hid ku; have HW1 := Lib.hid hwu
  have P2 := Lib.hid kt; have HW2 := Lib.hid hwt
  have HH0 := Lib.hid hv
  have HH1 := Lib.hid hu
  have HH2 := Lib.hid ht
  have AL1 := Lib.hid a1
  have AL2 := Lib.hid a2
  have AL3 := Lib.hid a3
  have AL4 := Lib.hid a4
  have AL5 := Lib.hid a5
  have EE1 := Lib.hid e1
  have EE2 := Lib.hid e2
  have EE3 := Lib.hid e3
  have EE4 := Lib.hid e4
  have EE5 := Lib.hid e5
  clear kv hwv ku hwu kt hwt hv hu ht a1 a2 a3 a4 a5 e1 e2 e3 e4 e5
  go_enter Try.func14, Try.ntmps14
  go_wp2_with fail
  refine name_calls (fun WW HX => ?_)
  have b0_ := blk_alloc (blk_alloc (blk_new w (.cells #[.slice Av v.h.length cv, .slice Bv v.k.length dv, .int .u64 v.g.n, .int .u64 v.g.nans, .int .u64 v.g.lo, .int .u64 v.g.hi] 45)) (.cells #[.slice Au u.h.length cu, .slice Bu u.k.length du, .int .u64 u.g.n, .int .u64 u.g.nans, .int .u64 u.g.lo, .int .u64 u.g.hi] 45)) (.cells #[.slice At t.h.length ct, .slice Bt t.k.length dt, .int .u64 t.g.n, .int .u64 t.g.nans, .int .u64 t.g.lo, .int .u64 t.g.hi] 45)
  have b1_ := blk_alloc (blk_new (w.alloc (.cells #[.slice Av v.h.length cv, .slice Bv v.k.length dv, .int .u64 v.g.n, .int .u64 v.g.nans, .int .u64 v.g.lo, .int .u64 v.g.hi] 45)) (.cells #[.slice Au u.h.length cu, .slice Bu u.k.length du, .int .u64 u.g.n, .int .u64 u.g.nans, .int .u64 u.g.lo, .int .u64 u.g.hi] 45)) (.cells #[.slice At t.h.length ct, .slice Bt t.k.length dt, .int .u64 t.g.n, .int .u64 t.g.nans, .int .u64 t.g.lo, .int .u64 t.g.hi] 45)
  have b2_ := blk_new ((w.alloc (.cells #[.slice Av v.h.length cv, .slice Bv v.k.length dv, .int .u64 v.g.n, .int .u64 v.g.nans, .int .u64 v.g.lo, .int .u64 v.g.hi] 45)).alloc (.cells #[.slice Au u.h.length cu, .slice Bu u.k.length du, .int .u64 u.g.n, .int .u64 u.g.nans, .int .u64 u.g.lo, .int .u64 u.g.hi] 45)) (.cells #[.slice At t.h.length ct, .slice Bt t.k.length dt, .int .u64 t.g.n, .int .u64 t.g.nans, .int .u64 t.g.lo, .int .u64 t.g.hi] 45)
  have l0_ := below_alloc (below_alloc (below_alloc (Below.refl w.heap.size w) (.cells #[.slice Av v.h.length cv, .slice Bv v.k.length dv, .int .u64 v.g.n, .int .u64 v.g.nans, .int .u64 v.g.lo, .int .u64 v.g.hi] 45)) (.cells #[.slice Au u.h.length cu, .slice Bu u.k.length du, .int .u64 u.g.n, .int .u64 u.g.nans, .int .u64 u.g.lo, .int .u64 u.g.hi] 45)) (.cells #[.slice At t.h.length ct, .slice Bt t.k.length dt, .int .u64 t.g.n, .int .u64 t.g.nans, .int .u64 t.g.lo, .int .u64 t.g.hi] 45)
  have p0_ := (((P0.out).alloc (.cells #[.slice Av v.h.length cv, .slice Bv v.k.length dv, .int .u64 v.g.n, .int .u64 v.g.nans, .int .u64 v.g.lo, .int .u64 v.g.hi] 45)).alloc (.cells #[.slice Au u.h.length cu, .slice Bu u.k.length du, .int .u64 u.g.n, .int .u64 u.g.nans, .int .u64 u.g.lo, .int .u64 u.g.hi] 45)).alloc (.cells #[.slice At t.h.length ct, .slice Bt t.k.length dt, .int .u64 t.g.n, .int .u64 t.g.nans, .int .u64 t.g.lo, .int .u64 t.g.hi] 45)
  have p1_ := (((P1.out).alloc (.cells #[.slice Av v.h.length cv, .slice Bv v.k.length dv, .int .u64 v.g.n, .int .u64 v.g.nans, .int .u64 v.g.lo, .int .u64 v.g.hi] 45)).alloc (.cells #[.slice Au u.h.length cu, .slice Bu u.k.length du, .int .u64 u.g.n, .int .u64 u.g.nans, .int .u64 u.g.lo, .int .u64 u.g.hi] 45)).alloc (.cells #[.slice At t.h.length ct, .slice Bt t.k.length dt, .int .u64 t.g.n, .int .u64 t.g.nans, .int .u64 t.g.lo, .int .u64 t.g.hi] 45)
  have p2_ := (((P2.out).alloc (.cells #[.slice Av v.h.length cv, .slice Bv v.k.length dv, .int .u64 v.g.n, .int .u64 v.g.nans, .int .u64 v.g.lo, .int .u64 v.g.hi] 45)).alloc (.cells #[.slice Au u.h.length cu, .slice Bu u.k.length du, .int .u64 u.g.n, .int .u64 u.g.nans, .int .u64 u.g.lo, .int .u64 u.g.hi] 45)).alloc (.cells #[.slice At t.h.length ct, .slice Bt t.k.length dt, .int .u64 t.g.n, .int .u64 t.g.nans, .int .u64 t.g.lo, .int .u64 t.g.hi] 45)
  rw [show (w.alloc (.cells #[.slice Av v.h.length cv, .slice Bv v.k.length dv, .int .u64 v.g.n, .int .u64 v.g.nans, .int .u64 v.g.lo, .int .u64 v.g.hi] 45)).heap.size = w.heap.size + 1 from by simp] at b1_
  rw [show ((w.alloc (.cells #[.slice Av v.h.length cv, .slice Bv v.k.length dv, .int .u64 v.g.n, .int .u64 v.g.nans, .int .u64 v.g.lo, .int .u64 v.g.hi] 45)).alloc (.cells #[.slice Au u.h.length cu, .slice Bu u.k.length du, .int .u64 u.g.n, .int .u64 u.g.nans, .int .u64 u.g.lo, .int .u64 u.g.hi] 45)).heap.size = w.heap.size + 1 + 1 from by simp] at b2_
  rw [HX.out] at b0_ b1_ b2_ l0_ p0_ p1_ p2_
  clear P0 P1 P2 HX
  have HB0 := Lib.hid b0_; have P0 := Lib.hid p0_
  have HB1 := Lib.hid b1_; have P1 := Lib.hid p1_
  have HB2 := Lib.hid b2_; have P2 := Lib.hid p2_
  have HL := Lib.hid l0_
  clear l0_ b0_ p0_ b1_ p1_ b2_ p2_
  go_wp2_with (first
    | (go_at_call 40; (with_reducible refine (rcheckV P0.out HW0.out HH0.out).mono ?_); rintro e w0_ ⟨rfl, hb⟩; have HB0_ := (hb.block _ (blk_lt HB0.out)).trans HB0.out; clear HB0; have HB0 := Lib.hid HB0_; clear HB0_; have HB1_ := (hb.block _ (blk_lt HB1.out)).trans HB1.out; clear HB1; have HB1 := Lib.hid HB1_; clear HB1_; have HB2_ := (hb.block _ (blk_lt HB2.out)).trans HB2.out; clear HB2; have HB2 := Lib.hid HB2_; clear HB2_; have P0_ := P0.out.below hb (Nat.le_refl _); clear P0; have P0 := Lib.hid P0_; clear P0_; have P1_ := P1.out.below hb (Nat.le_refl _); clear P1; have P1 := Lib.hid P1_; clear P1_; have P2_ := P2.out.below hb (Nat.le_refl _); clear P2; have P2 := Lib.hid P2_; clear P2_; have HL_ := HL.out.trans (hb.mono HL.out.size); clear HL; have HL := Lib.hid HL_; clear HL_; clear hb; obtain ⟨HB1c0, HB1c1, HB1c2, HB1c3, HB1c4, HB1c5⟩ := box6 HB1.out; have HB1lt := blk_lt HB1.out)
    | (go_at_call 40; (with_reducible refine (rcheckV P1.out HW1.out HH1.out).mono ?_); rintro e w1_ ⟨rfl, hb⟩; clear HB1c0 HB1c1 HB1c2 HB1c3 HB1c4 HB1c5 HB1lt; have HB0_ := (hb.block _ (blk_lt HB0.out)).trans HB0.out; clear HB0; have HB0 := Lib.hid HB0_; clear HB0_; have HB1_ := (hb.block _ (blk_lt HB1.out)).trans HB1.out; clear HB1; have HB1 := Lib.hid HB1_; clear HB1_; have HB2_ := (hb.block _ (blk_lt HB2.out)).trans HB2.out; clear HB2; have HB2 := Lib.hid HB2_; clear HB2_; have P0_ := P0.out.below hb (Nat.le_refl _); clear P0; have P0 := Lib.hid P0_; clear P0_; have P1_ := P1.out.below hb (Nat.le_refl _); clear P1; have P1 := Lib.hid P1_; clear P1_; have P2_ := P2.out.below hb (Nat.le_refl _); clear P2; have P2 := Lib.hid P2_; clear P2_; have HL_ := HL.out.trans (hb.mono HL.out.size); clear HL; have HL := Lib.hid HL_; clear HL_; clear hb; obtain ⟨HB2c0, HB2c1, HB2c2, HB2c3, HB2c4, HB2c5⟩ := box6 HB2.out; have HB2lt := blk_lt HB2.out)
    | (go_at_call 40; (with_reducible refine (rcheckV P2.out HW2.out HH2.out).mono ?_); rintro e w2_ ⟨rfl, hb⟩; clear HB2c0 HB2c1 HB2c2 HB2c3 HB2c4 HB2c5 HB2lt; have HB0_ := (hb.block _ (blk_lt HB0.out)).trans HB0.out; clear HB0; have HB0 := Lib.hid HB0_; clear HB0_; have HB1_ := (hb.block _ (blk_lt HB1.out)).trans HB1.out; clear HB1; have HB1 := Lib.hid HB1_; clear HB1_; have HB2_ := (hb.block _ (blk_lt HB2.out)).trans HB2.out; clear HB2; have HB2 := Lib.hid HB2_; clear HB2_; have P0_ := P0.out.below hb (Nat.le_refl _); clear P0; have P0 := Lib.hid P0_; clear P0_; have P1_ := P1.out.below hb (Nat.le_refl _); clear P1; have P1 := Lib.hid P1_; clear P1_; have P2_ := P2.out.below hb (Nat.le_refl _); clear P2; have P2 := Lib.hid P2_; clear P2_; have HL_ := HL.out.trans (hb.mono HL.out.size); clear HL; have HL := Lib.hid HL_; clear HL_; clear hb))
  have HB0_ := blk_drew HB0.out; clear HB0; have HB0 := Lib.hid HB0_; clear HB0_
  have HB1_ := blk_drew HB1.out; clear HB1; have HB1 := Lib.hid HB1_; clear HB1_
  have HB2_ := blk_drew HB2.out; clear HB2; have HB2 := Lib.hid HB2_; clear HB2_
  have P0_ := P0.out.below (below_drew (Below.refl _ _)) (Nat.le_refl _); clear P0; have P0 := Lib.hid P0_; clear P0_
  have P1_ := P1.out.below (below_drew (Below.refl _ _)) (Nat.le_refl _); clear P1; have P1 := Lib.hid P1_; clear P1_
  have P2_ := P2.out.below (below_drew (Below.refl _ _)) (Nat.le_refl _); clear P2; have P2 := Lib.hid P2_; clear P2_
  have HL_ := below_drew HL.out; clear HL; have HL := Lib.hid HL_; clear HL_
  refine wp_region_noPanic ?_
  refine start_ (n := 11) (S := fun w' => w'.cell? ⟨w.heap.size, 0, none⟩ = some (.slice Av v.h.length cv) ∧ w'.cell? ⟨w.heap.size, 1, none⟩ = some (.slice Bv v.k.length dv) ∧ w'.cell? ⟨w.heap.size, 2, none⟩ = some (.int .u64 v.g.n) ∧ w'.cell? ⟨w.heap.size, 3, none⟩ = some (.int .u64 v.g.nans) ∧ w'.cell? ⟨w.heap.size, 4, none⟩ = some (.int .u64 v.g.lo) ∧ w'.cell? ⟨w.heap.size, 5, none⟩ = some (.int .u64 v.g.hi) ∧ w'.cell? ⟨w.heap.size + 1, 0, none⟩ = some (.slice Au u.h.length cu) ∧ w'.cell? ⟨w.heap.size + 1, 1, none⟩ = some (.slice Bu u.k.length du) ∧ w'.cell? ⟨w.heap.size + 1, 2, none⟩ = some (.int .u64 u.g.n) ∧ w'.cell? ⟨w.heap.size + 1, 3, none⟩ = some (.int .u64 u.g.nans) ∧ w'.cell? ⟨w.heap.size + 1, 4, none⟩ = some (.int .u64 u.g.lo) ∧ w'.cell? ⟨w.heap.size + 1, 5, none⟩ = some (.int .u64 u.g.hi)) (ds := [9]) #[false, false, false, false, false, false, false, false, false, false, false] (by kernel_rfl) rfl rfl ⟨blk_cell (HB0.out) 0, blk_cell (HB0.out) 1, blk_cell (HB0.out) 2, blk_cell (HB0.out) 3, blk_cell (HB0.out) 4, blk_cell (HB0.out) 5, blk_cell (HB1.out) 0, blk_cell (HB1.out) 1, blk_cell (HB1.out) 2, blk_cell (HB1.out) 3, blk_cell (HB1.out) 4, blk_cell (HB1.out) 5⟩ (fun hHeld => ?_)
  generalize w2_.drew = Y0 at HB0 HB1 HB2 P0 P1 P2 HL hHeld ⊢
  refine take_ (i := 0) (N := some 32) (v := ?_) (a' := ?_) #[true, false, false, false, false, false, false, false, false, false, false] rfl rfl (by kernel_rfl) (fun _ _ _ h => h) (Or.inl ⟨by rfl, ?_⟩) hHeld ?_ ?_
  rotate_left
  · rintro w' ⟨s0_, s1_, s2_, s3_, s4_, s5_, s6_, s7_, s8_, s9_, s10_, s11_⟩
    go_simp
    with_reducible rfl
  rotate_left
  · simp only [Act.put, List.setIfInBounds_toArray, List.set_cons_zero, List.set_cons_succ, i64_w, i32_w]
    rfl
  refine take_ (i := 2) (N := some 34) (v := ?_) (a' := ?_) #[true, false, true, false, false, false, false, false, false, false, false] rfl rfl (by kernel_rfl) (fun _ _ _ h => h) (Or.inl ⟨by rfl, ?_⟩) hHeld ?_ ?_
  rotate_left
  · rintro w' ⟨s0_, s1_, s2_, s3_, s4_, s5_, s6_, s7_, s8_, s9_, s10_, s11_⟩
    go_simp
    with_reducible rfl
  rotate_left
  · simp only [Act.put, List.setIfInBounds_toArray, List.set_cons_zero, List.set_cons_succ, i64_w, i32_w]
    rfl
  clear hHeld
  have HX := Lib.hid (Below.refl Y0.heap.size Y0)
  refine join_ 2 #[true, true, true, true, true, true, true, true, true, false, false] (fun s : Value × Value × Nat × Option Addr × Nat × Option Addr × Nat => [(33, s.1), (35, s.2.1), (36, .tuple #[.agg #[.slice s.2.2.2.1 s1.h.length s.2.2.2.2.1, .slice s.2.2.2.2.2.1 s1.k.length s.2.2.2.2.2.2, .int .u64 s1.g.n, .int .u64 s1.g.nans, .int .u64 s1.g.lo, .int .u64 s1.g.hi], .int .i64 0]), (31, .tuple #[.agg #[.slice s.2.2.2.1 s1.h.length s.2.2.2.2.1, .slice s.2.2.2.2.2.1 s1.k.length s.2.2.2.2.2.2, .int .u64 s1.g.n, .int .u64 s1.g.nans, .int .u64 s1.g.lo, .int .u64 s1.g.hi], .int .i64 0]), (37, .agg #[.slice s.2.2.2.1 s1.h.length s.2.2.2.2.1, .slice s.2.2.2.2.2.1 s1.k.length s.2.2.2.2.2.2, .int .u64 s1.g.n, .int .u64 s1.g.nans, .int .u64 s1.g.lo, .int .u64 s1.g.hi]), (38, .int .i64 0), (7, .pointer (some ⟨s.2.2.1, 0, none⟩))]) (Met Y0 s1) ?_ (fun hcont => ?_)
  rotate_left
  · skip
    refine two_ (i := 1) (j := 8) (Ni := some 33) (Nj := some 7) #[true, true, true, false, false, false, false, false, false, false, false] #[true, false, true, false, false, false, false, false, true, false, false] rfl rfl rfl rfl (by kernel_rfl) (by decide) (by decide) (fun K hK => ?_) (fun K hK => ?_)
    · skip
      refine goes_ Try.func39 (by kernel_rfl) rfl #[.agg #[.slice Av v.h.length cv, .slice Bv v.k.length dv, .int .u64 v.g.n, .int .u64 v.g.nans, .int .u64 v.g.lo, .int .u64 v.g.hi]] (by rfl) rfl rfl (by (try simp only [List.map_toArray, List.map_cons, List.map_nil]); first | done | rfl) ?_
      (with_reducible refine (copyV P0.out).mono ?_)
      rintro e w1_ ⟨Ax, cx, Bx, dx, rfl, k_, hb⟩
      refine ⟨_, rfl, ?_⟩
      have HB0_ := (hb.block _ (blk_lt HB0.out)).trans HB0.out; clear HB0; have HB0 := Lib.hid HB0_; clear HB0_
      have HB1_ := (hb.block _ (blk_lt HB1.out)).trans HB1.out; clear HB1; have HB1 := Lib.hid HB1_; clear HB1_
      have HB2_ := (hb.block _ (blk_lt HB2.out)).trans HB2.out; clear HB2; have HB2 := Lib.hid HB2_; clear HB2_
      have P0_ := P0.out.below hb (Nat.le_refl _); clear P0; have P0 := Lib.hid P0_; clear P0_
      have P1_ := P1.out.below hb (Nat.le_refl _); clear P1; have P1 := Lib.hid P1_; clear P1_
      have P2_ := P2.out.below hb (Nat.le_refl _); clear P2; have P2 := Lib.hid P2_; clear P2_
      have HL_ := HL.out.trans (hb.mono HL.out.size); clear HL; have HL := Lib.hid HL_; clear HL_
      have HX_ := HX.out.trans (hb.mono HX.out.size); clear HX; have HX := Lib.hid HX_; clear HX_
      have Cx := Lib.hid k_; clear k_ hb
      refine hK.out _ _ ⟨blk_cell (HB0.out) 0, blk_cell (HB0.out) 1, blk_cell (HB0.out) 2, blk_cell (HB0.out) 3, blk_cell (HB0.out) 4, blk_cell (HB0.out) 5, blk_cell (HB1.out) 0, blk_cell (HB1.out) 1, blk_cell (HB1.out) 2, blk_cell (HB1.out) 3, blk_cell (HB1.out) 4, blk_cell (HB1.out) 5⟩ (fun _ => ?_)
      clear hK K
      refine norm_ (a' := ?_) ?_ ?_
      rotate_left
      · show Act.put _ (some 33) _ = _
        simp only [Act.put, List.setIfInBounds_toArray, List.set_cons_zero, List.set_cons_succ, i64_w, i32_w]
        rfl
      refine two_ (i := 3) (j := 8) (Ni := some 35) (Nj := some 7) #[true, true, true, true, false, false, false, false, false, false, false] #[true, true, true, false, false, false, false, false, true, false, false] rfl rfl rfl rfl (by kernel_rfl) (by decide) (by decide) (fun K hK => ?_) (fun K hK => ?_)
      · skip
        refine goes_ Try.func39 (by kernel_rfl) rfl #[.agg #[.slice Au u.h.length cu, .slice Bu u.k.length du, .int .u64 u.g.n, .int .u64 u.g.nans, .int .u64 u.g.lo, .int .u64 u.g.hi]] (by rfl) rfl rfl (by (try simp only [List.map_toArray, List.map_cons, List.map_nil]); first | done | rfl) ?_
        (with_reducible refine (copyV P1.out).mono ?_)
        rintro e w2_ ⟨Ay, cy, By, dy, rfl, k_, hb⟩
        refine ⟨_, rfl, ?_⟩
        have HB0_ := (hb.block _ (blk_lt HB0.out)).trans HB0.out; clear HB0; have HB0 := Lib.hid HB0_; clear HB0_
        have HB1_ := (hb.block _ (blk_lt HB1.out)).trans HB1.out; clear HB1; have HB1 := Lib.hid HB1_; clear HB1_
        have HB2_ := (hb.block _ (blk_lt HB2.out)).trans HB2.out; clear HB2; have HB2 := Lib.hid HB2_; clear HB2_
        have P0_ := P0.out.below hb (Nat.le_refl _); clear P0; have P0 := Lib.hid P0_; clear P0_
        have P1_ := P1.out.below hb (Nat.le_refl _); clear P1; have P1 := Lib.hid P1_; clear P1_
        have P2_ := P2.out.below hb (Nat.le_refl _); clear P2; have P2 := Lib.hid P2_; clear P2_
        have Cx_ := Cx.out.below hb (Nat.le_refl _); clear Cx; have Cx := Lib.hid Cx_; clear Cx_
        have HL_ := HL.out.trans (hb.mono HL.out.size); clear HL; have HL := Lib.hid HL_; clear HL_
        have HX_ := HX.out.trans (hb.mono HX.out.size); clear HX; have HX := Lib.hid HX_; clear HX_
        have Cy := Lib.hid k_; clear k_ hb
        refine hK.out _ _ ⟨blk_cell (HB0.out) 0, blk_cell (HB0.out) 1, blk_cell (HB0.out) 2, blk_cell (HB0.out) 3, blk_cell (HB0.out) 4, blk_cell (HB0.out) 5, blk_cell (HB1.out) 0, blk_cell (HB1.out) 1, blk_cell (HB1.out) 2, blk_cell (HB1.out) 3, blk_cell (HB1.out) 4, blk_cell (HB1.out) 5⟩ (fun _ => ?_)
        clear hK K
        refine norm_ (a' := ?_) ?_ ?_
        rotate_left
        · show Act.put _ (some 35) _ = _
          simp only [Act.put, List.setIfInBounds_toArray, List.set_cons_zero, List.set_cons_succ, i64_w, i32_w]
          rfl
        refine two_ (i := 4) (j := 8) (Ni := some 36) (Nj := some 7) #[true, true, true, true, true, false, false, false, false, false, false] #[true, true, true, true, false, false, false, false, true, false, false] rfl rfl rfl rfl (by kernel_rfl) (by decide) (by decide) (fun K hK => ?_) (fun K hK => ?_)
        · skip
          refine goes_ Try.func45 (by kernel_rfl) rfl #[.agg #[.slice Ax v.h.length cx, .slice Bx v.k.length dx, .int .u64 v.g.n, .int .u64 v.g.nans, .int .u64 v.g.lo, .int .u64 v.g.hi], .agg #[.slice Ay u.h.length cy, .slice By u.k.length dy, .int .u64 u.g.n, .int .u64 u.g.nans, .int .u64 u.g.lo, .int .u64 u.g.hi]] (by rfl) rfl rfl (by (try simp only [List.map_toArray, List.map_cons, List.map_nil]); first | done | rfl) ?_
          (with_reducible refine (merge_okR Cx.out Cy.out AL1.out EE1.out).mono ?_)
          rintro e w3_ ⟨Am, cm, Bm, dm, rfl, k_, hR_, hS_, hb⟩
          refine ⟨_, rfl, ?_⟩
          have HB0_ := (hb.block _ (blk_lt HB0.out)).trans HB0.out; clear HB0; have HB0 := Lib.hid HB0_; clear HB0_
          have HB1_ := (hb.block _ (blk_lt HB1.out)).trans HB1.out; clear HB1; have HB1 := Lib.hid HB1_; clear HB1_
          have HB2_ := (hb.block _ (blk_lt HB2.out)).trans HB2.out; clear HB2; have HB2 := Lib.hid HB2_; clear HB2_
          have P0_ := P0.out.below hb (Nat.le_refl _); clear P0; have P0 := Lib.hid P0_; clear P0_
          have P1_ := P1.out.below hb (Nat.le_refl _); clear P1; have P1 := Lib.hid P1_; clear P1_
          have P2_ := P2.out.below hb (Nat.le_refl _); clear P2; have P2 := Lib.hid P2_; clear P2_
          have Cx_ := Cx.out.below hb (Nat.le_refl _); clear Cx; have Cx := Lib.hid Cx_; clear Cx_
          have Cy_ := Cy.out.below hb (Nat.le_refl _); clear Cy; have Cy := Lib.hid Cy_; clear Cy_
          have HL_ := HL.out.trans (hb.mono HL.out.size); clear HL; have HL := Lib.hid HL_; clear HL_
          have HX_ := HX.out.trans (hb.mono HX.out.size); clear HX; have HX := Lib.hid HX_; clear HX_
          have MM := Lib.hid k_
          clear k_ hR_ hS_ hb
          refine hK.out _ _ ⟨blk_cell (HB0.out) 0, blk_cell (HB0.out) 1, blk_cell (HB0.out) 2, blk_cell (HB0.out) 3, blk_cell (HB0.out) 4, blk_cell (HB0.out) 5, blk_cell (HB1.out) 0, blk_cell (HB1.out) 1, blk_cell (HB1.out) 2, blk_cell (HB1.out) 3, blk_cell (HB1.out) 4, blk_cell (HB1.out) 5⟩ (fun _ => ?_)
          clear hK K
          refine norm_ (a' := ?_) ?_ ?_
          rotate_left
          · show Act.put _ (some 36) _ = _
            simp only [Act.put, List.setIfInBounds_toArray, List.set_cons_zero, List.set_cons_succ, i64_w, i32_w]
            rfl
          refine pure_ (i := 5) (N := some 31) (v := ?_) (a' := ?_) #[true, true, true, true, true, true, false, false, false, false, false] rfl rfl (by kernel_rfl) (fun _ _ _ h => h) (Or.inl ⟨by rfl, ?_⟩) ?_ ?_
          rotate_left
          · intro w'
            go_simp
            with_reducible rfl
          rotate_left
          · simp only [Act.put, List.setIfInBounds_toArray, List.set_cons_zero, List.set_cons_succ, i64_w, i32_w]
            rfl
          refine pure_ (i := 6) (N := some 37) (v := ?_) (a' := ?_) #[true, true, true, true, true, true, true, false, false, false, false] rfl rfl (by kernel_rfl) (fun _ _ _ h => h) (Or.inl ⟨by rfl, ?_⟩) ?_ ?_
          rotate_left
          · intro w'
            go_simp
            with_reducible rfl
          rotate_left
          · simp only [Act.put, List.setIfInBounds_toArray, List.set_cons_zero, List.set_cons_succ, i64_w, i32_w]
            rfl
          refine pure_ (i := 7) (N := some 38) (v := ?_) (a' := ?_) #[true, true, true, true, true, true, true, true, false, false, false] rfl rfl (by kernel_rfl) (fun _ _ _ h => h) (Or.inl ⟨by rfl, ?_⟩) ?_ ?_
          rotate_left
          · intro w'
            go_simp
            with_reducible rfl
          rotate_left
          · simp only [Act.put, List.setIfInBounds_toArray, List.set_cons_zero, List.set_cons_succ, i64_w, i32_w]
            rfl
          refine one_ (i := 8) (N := some 7) #[true, true, true, true, true, true, true, true, true, false, false] rfl rfl (by kernel_rfl) (by decide) (fun K hK => ?_)
          refine value_ (v := .pointer (some ⟨w3_.heap.size, 0, none⟩)) (w1 := w3_.alloc (.cells #[.slice none 0 0, .slice none 0 0, .int .u64 0, .int .u64 0, .int .u64 0, .int .u64 0] 45)) (by rfl) rfl ?_ ?_
          · first | (go_simp; done) | (go_simp; rfl)
          refine hK.out _ _ ⟨blk_cell (blk_alloc HB0.out _) 0, blk_cell (blk_alloc HB0.out _) 1, blk_cell (blk_alloc HB0.out _) 2, blk_cell (blk_alloc HB0.out _) 3, blk_cell (blk_alloc HB0.out _) 4, blk_cell (blk_alloc HB0.out _) 5, blk_cell (blk_alloc HB1.out _) 0, blk_cell (blk_alloc HB1.out _) 1, blk_cell (blk_alloc HB1.out _) 2, blk_cell (blk_alloc HB1.out _) 3, blk_cell (blk_alloc HB1.out _) 4, blk_cell (blk_alloc HB1.out _) 5⟩ (fun _ => ?_)
          clear hK K
          refine norm_ (a' := ?_) ?_ ?_
          rotate_left
          · show Act.put _ (some 7) _ = _
            simp only [Act.put, List.setIfInBounds_toArray, List.set_cons_zero, List.set_cons_succ, i64_w, i32_w]
            rfl
          refine name_last (fun w4_ HN => ?_)
          have HB0_ := blk_alloc HB0.out (.cells #[.slice none 0 0, .slice none 0 0, .int .u64 0, .int .u64 0, .int .u64 0, .int .u64 0] 45)
          have HB1_ := blk_alloc HB1.out (.cells #[.slice none 0 0, .slice none 0 0, .int .u64 0, .int .u64 0, .int .u64 0, .int .u64 0] 45)
          have HB2_ := blk_alloc HB2.out (.cells #[.slice none 0 0, .slice none 0 0, .int .u64 0, .int .u64 0, .int .u64 0, .int .u64 0] 45)
          have P0_ := P0.out.alloc (.cells #[.slice none 0 0, .slice none 0 0, .int .u64 0, .int .u64 0, .int .u64 0, .int .u64 0] 45)
          have P1_ := P1.out.alloc (.cells #[.slice none 0 0, .slice none 0 0, .int .u64 0, .int .u64 0, .int .u64 0, .int .u64 0] 45)
          have P2_ := P2.out.alloc (.cells #[.slice none 0 0, .slice none 0 0, .int .u64 0, .int .u64 0, .int .u64 0, .int .u64 0] 45)
          have Cx_ := Cx.out.alloc (.cells #[.slice none 0 0, .slice none 0 0, .int .u64 0, .int .u64 0, .int .u64 0, .int .u64 0] 45)
          have Cy_ := Cy.out.alloc (.cells #[.slice none 0 0, .slice none 0 0, .int .u64 0, .int .u64 0, .int .u64 0, .int .u64 0] 45)
          have HL_ := below_alloc HL.out (.cells #[.slice none 0 0, .slice none 0 0, .int .u64 0, .int .u64 0, .int .u64 0, .int .u64 0] 45)
          have HX_ := below_alloc HX.out (.cells #[.slice none 0 0, .slice none 0 0, .int .u64 0, .int .u64 0, .int .u64 0, .int .u64 0] 45)
          have HR_ := blk_new w3_ (.cells #[.slice none 0 0, .slice none 0 0, .int .u64 0, .int .u64 0, .int .u64 0, .int .u64 0] 45)
          have HROB_ := Rob.of_alloc MM.out (.cells #[.slice none 0 0, .slice none 0 0, .int .u64 0, .int .u64 0, .int .u64 0, .int .u64 0] 45)
          have HGE := Lib.hid HX.out.size
          rw [HN.out] at HB0_ HB1_ HB2_ P0_ P1_ P2_ Cx_ Cy_ HL_ HX_ HR_ HROB_
          clear HB0
          have HB0 := Lib.hid HB0_; clear HB0_
          clear HB1
          have HB1 := Lib.hid HB1_; clear HB1_
          clear HB2
          have HB2 := Lib.hid HB2_; clear HB2_
          clear P0
          have P0 := Lib.hid P0_; clear P0_
          clear P1
          have P1 := Lib.hid P1_; clear P1_
          clear P2
          have P2 := Lib.hid P2_; clear P2_
          clear Cx
          have Cx := Lib.hid Cx_; clear Cx_
          clear Cy
          have Cy := Lib.hid Cy_; clear Cy_
          clear HL
          have HL := Lib.hid HL_; clear HL_
          clear HX
          have HX := Lib.hid HX_; clear HX_
          have HR := Lib.hid HR_; clear HR_
          have HROB := Lib.hid HROB_; clear HROB_
          clear HN MM
          refine norm_ ?_ (hcont ((.agg #[.slice Ax v.h.length cx, .slice Bx v.k.length dx, .int .u64 v.g.n, .int .u64 v.g.nans, .int .u64 v.g.lo, .int .u64 v.g.hi]), (.agg #[.slice Ay u.h.length cy, .slice By u.k.length dy, .int .u64 u.g.n, .int .u64 u.g.nans, .int .u64 u.g.lo, .int .u64 u.g.hi]), w3_.heap.size, Am, cm, Bm, dm) _ (Met.mk HX.out HGE.out HR.out HROB.out))
          simp only [putAll, Act.put, List.setIfInBounds_toArray, List.set_cons_zero, List.set_cons_succ]
        · skip
          refine value_ (v := .pointer (some ⟨w2_.heap.size, 0, none⟩)) (w1 := w2_.alloc (.cells #[.slice none 0 0, .slice none 0 0, .int .u64 0, .int .u64 0, .int .u64 0, .int .u64 0] 45)) (by rfl) rfl ?_ ?_
          · first | (go_simp; done) | (go_simp; rfl)
          refine hK.out _ _ ⟨blk_cell (blk_alloc HB0.out _) 0, blk_cell (blk_alloc HB0.out _) 1, blk_cell (blk_alloc HB0.out _) 2, blk_cell (blk_alloc HB0.out _) 3, blk_cell (blk_alloc HB0.out _) 4, blk_cell (blk_alloc HB0.out _) 5, blk_cell (blk_alloc HB1.out _) 0, blk_cell (blk_alloc HB1.out _) 1, blk_cell (blk_alloc HB1.out _) 2, blk_cell (blk_alloc HB1.out _) 3, blk_cell (blk_alloc HB1.out _) 4, blk_cell (blk_alloc HB1.out _) 5⟩ (fun _ => ?_)
          clear hK K
          refine norm_ (a' := ?_) ?_ ?_
          rotate_left
          · show Act.put _ (some 7) _ = _
            simp only [Act.put, List.setIfInBounds_toArray, List.set_cons_zero, List.set_cons_succ, i64_w, i32_w]
            rfl
          refine name_last (fun w5_ HN => ?_)
          have HB0_ := blk_alloc HB0.out (.cells #[.slice none 0 0, .slice none 0 0, .int .u64 0, .int .u64 0, .int .u64 0, .int .u64 0] 45)
          have HB1_ := blk_alloc HB1.out (.cells #[.slice none 0 0, .slice none 0 0, .int .u64 0, .int .u64 0, .int .u64 0, .int .u64 0] 45)
          have HB2_ := blk_alloc HB2.out (.cells #[.slice none 0 0, .slice none 0 0, .int .u64 0, .int .u64 0, .int .u64 0, .int .u64 0] 45)
          have P0_ := P0.out.alloc (.cells #[.slice none 0 0, .slice none 0 0, .int .u64 0, .int .u64 0, .int .u64 0, .int .u64 0] 45)
          have P1_ := P1.out.alloc (.cells #[.slice none 0 0, .slice none 0 0, .int .u64 0, .int .u64 0, .int .u64 0, .int .u64 0] 45)
          have P2_ := P2.out.alloc (.cells #[.slice none 0 0, .slice none 0 0, .int .u64 0, .int .u64 0, .int .u64 0, .int .u64 0] 45)
          have Cx_ := Cx.out.alloc (.cells #[.slice none 0 0, .slice none 0 0, .int .u64 0, .int .u64 0, .int .u64 0, .int .u64 0] 45)
          have Cy_ := Cy.out.alloc (.cells #[.slice none 0 0, .slice none 0 0, .int .u64 0, .int .u64 0, .int .u64 0, .int .u64 0] 45)
          have HL_ := below_alloc HL.out (.cells #[.slice none 0 0, .slice none 0 0, .int .u64 0, .int .u64 0, .int .u64 0, .int .u64 0] 45)
          have HX_ := below_alloc HX.out (.cells #[.slice none 0 0, .slice none 0 0, .int .u64 0, .int .u64 0, .int .u64 0, .int .u64 0] 45)
          have HR_ := blk_new w2_ (.cells #[.slice none 0 0, .slice none 0 0, .int .u64 0, .int .u64 0, .int .u64 0, .int .u64 0] 45)
          have HGE := Lib.hid HX.out.size
          rw [HN.out] at HB0_ HB1_ HB2_ P0_ P1_ P2_ Cx_ Cy_ HL_ HX_ HR_
          clear HB0
          have HB0 := Lib.hid HB0_; clear HB0_
          clear HB1
          have HB1 := Lib.hid HB1_; clear HB1_
          clear HB2
          have HB2 := Lib.hid HB2_; clear HB2_
          clear P0
          have P0 := Lib.hid P0_; clear P0_
          clear P1
          have P1 := Lib.hid P1_; clear P1_
          clear P2
          have P2 := Lib.hid P2_; clear P2_
          clear Cx
          have Cx := Lib.hid Cx_; clear Cx_
          clear Cy
          have Cy := Lib.hid Cy_; clear Cy_
          clear HL
          have HL := Lib.hid HL_; clear HL_
          clear HX
          have HX := Lib.hid HX_; clear HX_
          have HR := Lib.hid HR_; clear HR_
          clear HN
          refine one_ (i := 4) (N := some 36) #[true, true, true, true, true, false, false, false, true, false, false] rfl rfl (by kernel_rfl) (by decide) (fun K hK => ?_)
          refine goes_ Try.func45 (by kernel_rfl) rfl #[.agg #[.slice Ax v.h.length cx, .slice Bx v.k.length dx, .int .u64 v.g.n, .int .u64 v.g.nans, .int .u64 v.g.lo, .int .u64 v.g.hi], .agg #[.slice Ay u.h.length cy, .slice By u.k.length dy, .int .u64 u.g.n, .int .u64 u.g.nans, .int .u64 u.g.lo, .int .u64 u.g.hi]] (by rfl) rfl rfl (by (try simp only [List.map_toArray, List.map_cons, List.map_nil]); first | done | rfl) ?_
          (with_reducible refine (merge_okR Cx.out Cy.out AL1.out EE1.out).mono ?_)
          rintro e w6_ ⟨Am, cm, Bm, dm, rfl, k_, hR_, hS_, hb⟩
          refine ⟨_, rfl, ?_⟩
          have HROB := Lib.hid (Rob.of_R k_ hR_ hS_ (blk_lt HR.out))
          have HB0_ := (hb.block _ (blk_lt HB0.out)).trans HB0.out; clear HB0; have HB0 := Lib.hid HB0_; clear HB0_
          have HB1_ := (hb.block _ (blk_lt HB1.out)).trans HB1.out; clear HB1; have HB1 := Lib.hid HB1_; clear HB1_
          have HB2_ := (hb.block _ (blk_lt HB2.out)).trans HB2.out; clear HB2; have HB2 := Lib.hid HB2_; clear HB2_
          have P0_ := P0.out.below hb (Nat.le_refl _); clear P0; have P0 := Lib.hid P0_; clear P0_
          have P1_ := P1.out.below hb (Nat.le_refl _); clear P1; have P1 := Lib.hid P1_; clear P1_
          have P2_ := P2.out.below hb (Nat.le_refl _); clear P2; have P2 := Lib.hid P2_; clear P2_
          have Cx_ := Cx.out.below hb (Nat.le_refl _); clear Cx; have Cx := Lib.hid Cx_; clear Cx_
          have Cy_ := Cy.out.below hb (Nat.le_refl _); clear Cy; have Cy := Lib.hid Cy_; clear Cy_
          have HL_ := HL.out.trans (hb.mono HL.out.size); clear HL; have HL := Lib.hid HL_; clear HL_
          have HX_ := HX.out.trans (hb.mono HX.out.size); clear HX; have HX := Lib.hid HX_; clear HX_
          have HR_ := (hb.block _ (blk_lt HR.out)).trans HR.out; clear HR; have HR := Lib.hid HR_; clear HR_
          clear k_ hR_ hS_ hb
          refine hK.out _ _ ⟨blk_cell (HB0.out) 0, blk_cell (HB0.out) 1, blk_cell (HB0.out) 2, blk_cell (HB0.out) 3, blk_cell (HB0.out) 4, blk_cell (HB0.out) 5, blk_cell (HB1.out) 0, blk_cell (HB1.out) 1, blk_cell (HB1.out) 2, blk_cell (HB1.out) 3, blk_cell (HB1.out) 4, blk_cell (HB1.out) 5⟩ (fun _ => ?_)
          clear hK K
          refine norm_ (a' := ?_) ?_ ?_
          rotate_left
          · show Act.put _ (some 36) _ = _
            simp only [Act.put, List.setIfInBounds_toArray, List.set_cons_zero, List.set_cons_succ, i64_w, i32_w]
            rfl
          refine pure_ (i := 5) (N := some 31) (v := ?_) (a' := ?_) #[true, true, true, true, true, true, false, false, true, false, false] rfl rfl (by kernel_rfl) (fun _ _ _ h => h) (Or.inl ⟨by rfl, ?_⟩) ?_ ?_
          rotate_left
          · intro w'
            go_simp
            with_reducible rfl
          rotate_left
          · simp only [Act.put, List.setIfInBounds_toArray, List.set_cons_zero, List.set_cons_succ, i64_w, i32_w]
            rfl
          refine pure_ (i := 6) (N := some 37) (v := ?_) (a' := ?_) #[true, true, true, true, true, true, true, false, true, false, false] rfl rfl (by kernel_rfl) (fun _ _ _ h => h) (Or.inl ⟨by rfl, ?_⟩) ?_ ?_
          rotate_left
          · intro w'
            go_simp
            with_reducible rfl
          rotate_left
          · simp only [Act.put, List.setIfInBounds_toArray, List.set_cons_zero, List.set_cons_succ, i64_w, i32_w]
            rfl
          refine pure_ (i := 7) (N := some 38) (v := ?_) (a' := ?_) #[true, true, true, true, true, true, true, true, true, false, false] rfl rfl (by kernel_rfl) (fun _ _ _ h => h) (Or.inl ⟨by rfl, ?_⟩) ?_ ?_
          rotate_left
          · intro w'
            go_simp
            with_reducible rfl
          rotate_left
          · simp only [Act.put, List.setIfInBounds_toArray, List.set_cons_zero, List.set_cons_succ, i64_w, i32_w]
            rfl
          refine norm_ ?_ (hcont ((.agg #[.slice Ax v.h.length cx, .slice Bx v.k.length dx, .int .u64 v.g.n, .int .u64 v.g.nans, .int .u64 v.g.lo, .int .u64 v.g.hi]), (.agg #[.slice Ay u.h.length cy, .slice By u.k.length dy, .int .u64 u.g.n, .int .u64 u.g.nans, .int .u64 u.g.lo, .int .u64 u.g.hi]), w2_.heap.size, Am, cm, Bm, dm) _ (Met.mk HX.out HGE.out HR.out HROB.out))
          simp only [putAll, Act.put, List.setIfInBounds_toArray, List.set_cons_zero, List.set_cons_succ]
      · skip
        refine value_ (v := .pointer (some ⟨w1_.heap.size, 0, none⟩)) (w1 := w1_.alloc (.cells #[.slice none 0 0, .slice none 0 0, .int .u64 0, .int .u64 0, .int .u64 0, .int .u64 0] 45)) (by rfl) rfl ?_ ?_
        · first | (go_simp; done) | (go_simp; rfl)
        refine hK.out _ _ ⟨blk_cell (blk_alloc HB0.out _) 0, blk_cell (blk_alloc HB0.out _) 1, blk_cell (blk_alloc HB0.out _) 2, blk_cell (blk_alloc HB0.out _) 3, blk_cell (blk_alloc HB0.out _) 4, blk_cell (blk_alloc HB0.out _) 5, blk_cell (blk_alloc HB1.out _) 0, blk_cell (blk_alloc HB1.out _) 1, blk_cell (blk_alloc HB1.out _) 2, blk_cell (blk_alloc HB1.out _) 3, blk_cell (blk_alloc HB1.out _) 4, blk_cell (blk_alloc HB1.out _) 5⟩ (fun _ => ?_)
        clear hK K
        refine norm_ (a' := ?_) ?_ ?_
        rotate_left
        · show Act.put _ (some 7) _ = _
          simp only [Act.put, List.setIfInBounds_toArray, List.set_cons_zero, List.set_cons_succ, i64_w, i32_w]
          rfl
        refine name_last (fun w7_ HN => ?_)
        have HB0_ := blk_alloc HB0.out (.cells #[.slice none 0 0, .slice none 0 0, .int .u64 0, .int .u64 0, .int .u64 0, .int .u64 0] 45)
        have HB1_ := blk_alloc HB1.out (.cells #[.slice none 0 0, .slice none 0 0, .int .u64 0, .int .u64 0, .int .u64 0, .int .u64 0] 45)
        have HB2_ := blk_alloc HB2.out (.cells #[.slice none 0 0, .slice none 0 0, .int .u64 0, .int .u64 0, .int .u64 0, .int .u64 0] 45)
        have P0_ := P0.out.alloc (.cells #[.slice none 0 0, .slice none 0 0, .int .u64 0, .int .u64 0, .int .u64 0, .int .u64 0] 45)
        have P1_ := P1.out.alloc (.cells #[.slice none 0 0, .slice none 0 0, .int .u64 0, .int .u64 0, .int .u64 0, .int .u64 0] 45)
        have P2_ := P2.out.alloc (.cells #[.slice none 0 0, .slice none 0 0, .int .u64 0, .int .u64 0, .int .u64 0, .int .u64 0] 45)
        have Cx_ := Cx.out.alloc (.cells #[.slice none 0 0, .slice none 0 0, .int .u64 0, .int .u64 0, .int .u64 0, .int .u64 0] 45)
        have HL_ := below_alloc HL.out (.cells #[.slice none 0 0, .slice none 0 0, .int .u64 0, .int .u64 0, .int .u64 0, .int .u64 0] 45)
        have HX_ := below_alloc HX.out (.cells #[.slice none 0 0, .slice none 0 0, .int .u64 0, .int .u64 0, .int .u64 0, .int .u64 0] 45)
        have HR_ := blk_new w1_ (.cells #[.slice none 0 0, .slice none 0 0, .int .u64 0, .int .u64 0, .int .u64 0, .int .u64 0] 45)
        have HGE := Lib.hid HX.out.size
        rw [HN.out] at HB0_ HB1_ HB2_ P0_ P1_ P2_ Cx_ HL_ HX_ HR_
        clear HB0
        have HB0 := Lib.hid HB0_; clear HB0_
        clear HB1
        have HB1 := Lib.hid HB1_; clear HB1_
        clear HB2
        have HB2 := Lib.hid HB2_; clear HB2_
        clear P0
        have P0 := Lib.hid P0_; clear P0_
        clear P1
        have P1 := Lib.hid P1_; clear P1_
        clear P2
        have P2 := Lib.hid P2_; clear P2_
        clear Cx
        have Cx := Lib.hid Cx_; clear Cx_
        clear HL
        have HL := Lib.hid HL_; clear HL_
        clear HX
        have HX := Lib.hid HX_; clear HX_
        have HR := Lib.hid HR_; clear HR_
        clear HN
        refine one_ (i := 3) (N := some 35) #[true, true, true, true, false, false, false, false, true, false, false] rfl rfl (by kernel_rfl) (by decide) (fun K hK => ?_)
        refine goes_ Try.func39 (by kernel_rfl) rfl #[.agg #[.slice Au u.h.length cu, .slice Bu u.k.length du, .int .u64 u.g.n, .int .u64 u.g.nans, .int .u64 u.g.lo, .int .u64 u.g.hi]] (by rfl) rfl rfl (by (try simp only [List.map_toArray, List.map_cons, List.map_nil]); first | done | rfl) ?_
        (with_reducible refine (copyV P1.out).mono ?_)
        rintro e w8_ ⟨Ay, cy, By, dy, rfl, k_, hb⟩
        refine ⟨_, rfl, ?_⟩
        have HB0_ := (hb.block _ (blk_lt HB0.out)).trans HB0.out; clear HB0; have HB0 := Lib.hid HB0_; clear HB0_
        have HB1_ := (hb.block _ (blk_lt HB1.out)).trans HB1.out; clear HB1; have HB1 := Lib.hid HB1_; clear HB1_
        have HB2_ := (hb.block _ (blk_lt HB2.out)).trans HB2.out; clear HB2; have HB2 := Lib.hid HB2_; clear HB2_
        have P0_ := P0.out.below hb (Nat.le_refl _); clear P0; have P0 := Lib.hid P0_; clear P0_
        have P1_ := P1.out.below hb (Nat.le_refl _); clear P1; have P1 := Lib.hid P1_; clear P1_
        have P2_ := P2.out.below hb (Nat.le_refl _); clear P2; have P2 := Lib.hid P2_; clear P2_
        have Cx_ := Cx.out.below hb (Nat.le_refl _); clear Cx; have Cx := Lib.hid Cx_; clear Cx_
        have HL_ := HL.out.trans (hb.mono HL.out.size); clear HL; have HL := Lib.hid HL_; clear HL_
        have HX_ := HX.out.trans (hb.mono HX.out.size); clear HX; have HX := Lib.hid HX_; clear HX_
        have HR_ := (hb.block _ (blk_lt HR.out)).trans HR.out; clear HR; have HR := Lib.hid HR_; clear HR_
        have Cy := Lib.hid k_; clear k_ hb
        refine hK.out _ _ ⟨blk_cell (HB0.out) 0, blk_cell (HB0.out) 1, blk_cell (HB0.out) 2, blk_cell (HB0.out) 3, blk_cell (HB0.out) 4, blk_cell (HB0.out) 5, blk_cell (HB1.out) 0, blk_cell (HB1.out) 1, blk_cell (HB1.out) 2, blk_cell (HB1.out) 3, blk_cell (HB1.out) 4, blk_cell (HB1.out) 5⟩ (fun _ => ?_)
        clear hK K
        refine norm_ (a' := ?_) ?_ ?_
        rotate_left
        · show Act.put _ (some 35) _ = _
          simp only [Act.put, List.setIfInBounds_toArray, List.set_cons_zero, List.set_cons_succ, i64_w, i32_w]
          rfl
        refine one_ (i := 4) (N := some 36) #[true, true, true, true, true, false, false, false, true, false, false] rfl rfl (by kernel_rfl) (by decide) (fun K hK => ?_)
        refine goes_ Try.func45 (by kernel_rfl) rfl #[.agg #[.slice Ax v.h.length cx, .slice Bx v.k.length dx, .int .u64 v.g.n, .int .u64 v.g.nans, .int .u64 v.g.lo, .int .u64 v.g.hi], .agg #[.slice Ay u.h.length cy, .slice By u.k.length dy, .int .u64 u.g.n, .int .u64 u.g.nans, .int .u64 u.g.lo, .int .u64 u.g.hi]] (by rfl) rfl rfl (by (try simp only [List.map_toArray, List.map_cons, List.map_nil]); first | done | rfl) ?_
        (with_reducible refine (merge_okR Cx.out Cy.out AL1.out EE1.out).mono ?_)
        rintro e w9_ ⟨Am, cm, Bm, dm, rfl, k_, hR_, hS_, hb⟩
        refine ⟨_, rfl, ?_⟩
        have HROB := Lib.hid (Rob.of_R k_ hR_ hS_ (blk_lt HR.out))
        have HB0_ := (hb.block _ (blk_lt HB0.out)).trans HB0.out; clear HB0; have HB0 := Lib.hid HB0_; clear HB0_
        have HB1_ := (hb.block _ (blk_lt HB1.out)).trans HB1.out; clear HB1; have HB1 := Lib.hid HB1_; clear HB1_
        have HB2_ := (hb.block _ (blk_lt HB2.out)).trans HB2.out; clear HB2; have HB2 := Lib.hid HB2_; clear HB2_
        have P0_ := P0.out.below hb (Nat.le_refl _); clear P0; have P0 := Lib.hid P0_; clear P0_
        have P1_ := P1.out.below hb (Nat.le_refl _); clear P1; have P1 := Lib.hid P1_; clear P1_
        have P2_ := P2.out.below hb (Nat.le_refl _); clear P2; have P2 := Lib.hid P2_; clear P2_
        have Cx_ := Cx.out.below hb (Nat.le_refl _); clear Cx; have Cx := Lib.hid Cx_; clear Cx_
        have Cy_ := Cy.out.below hb (Nat.le_refl _); clear Cy; have Cy := Lib.hid Cy_; clear Cy_
        have HL_ := HL.out.trans (hb.mono HL.out.size); clear HL; have HL := Lib.hid HL_; clear HL_
        have HX_ := HX.out.trans (hb.mono HX.out.size); clear HX; have HX := Lib.hid HX_; clear HX_
        have HR_ := (hb.block _ (blk_lt HR.out)).trans HR.out; clear HR; have HR := Lib.hid HR_; clear HR_
        clear k_ hR_ hS_ hb
        refine hK.out _ _ ⟨blk_cell (HB0.out) 0, blk_cell (HB0.out) 1, blk_cell (HB0.out) 2, blk_cell (HB0.out) 3, blk_cell (HB0.out) 4, blk_cell (HB0.out) 5, blk_cell (HB1.out) 0, blk_cell (HB1.out) 1, blk_cell (HB1.out) 2, blk_cell (HB1.out) 3, blk_cell (HB1.out) 4, blk_cell (HB1.out) 5⟩ (fun _ => ?_)
        clear hK K
        refine norm_ (a' := ?_) ?_ ?_
        rotate_left
        · show Act.put _ (some 36) _ = _
          simp only [Act.put, List.setIfInBounds_toArray, List.set_cons_zero, List.set_cons_succ, i64_w, i32_w]
          rfl
        refine pure_ (i := 5) (N := some 31) (v := ?_) (a' := ?_) #[true, true, true, true, true, true, false, false, true, false, false] rfl rfl (by kernel_rfl) (fun _ _ _ h => h) (Or.inl ⟨by rfl, ?_⟩) ?_ ?_
        rotate_left
        · intro w'
          go_simp
          with_reducible rfl
        rotate_left
        · simp only [Act.put, List.setIfInBounds_toArray, List.set_cons_zero, List.set_cons_succ, i64_w, i32_w]
          rfl
        refine pure_ (i := 6) (N := some 37) (v := ?_) (a' := ?_) #[true, true, true, true, true, true, true, false, true, false, false] rfl rfl (by kernel_rfl) (fun _ _ _ h => h) (Or.inl ⟨by rfl, ?_⟩) ?_ ?_
        rotate_left
        · intro w'
          go_simp
          with_reducible rfl
        rotate_left
        · simp only [Act.put, List.setIfInBounds_toArray, List.set_cons_zero, List.set_cons_succ, i64_w, i32_w]
          rfl
        refine pure_ (i := 7) (N := some 38) (v := ?_) (a' := ?_) #[true, true, true, true, true, true, true, true, true, false, false] rfl rfl (by kernel_rfl) (fun _ _ _ h => h) (Or.inl ⟨by rfl, ?_⟩) ?_ ?_
        rotate_left
        · intro w'
          go_simp
          with_reducible rfl
        rotate_left
        · simp only [Act.put, List.setIfInBounds_toArray, List.set_cons_zero, List.set_cons_succ, i64_w, i32_w]
          rfl
        refine norm_ ?_ (hcont ((.agg #[.slice Ax v.h.length cx, .slice Bx v.k.length dx, .int .u64 v.g.n, .int .u64 v.g.nans, .int .u64 v.g.lo, .int .u64 v.g.hi]), (.agg #[.slice Ay u.h.length cy, .slice By u.k.length dy, .int .u64 u.g.n, .int .u64 u.g.nans, .int .u64 u.g.lo, .int .u64 u.g.hi]), w1_.heap.size, Am, cm, Bm, dm) _ (Met.mk HX.out HGE.out HR.out HROB.out))
        simp only [putAll, Act.put, List.setIfInBounds_toArray, List.set_cons_zero, List.set_cons_succ]
    · skip
      refine value_ (v := .pointer (some ⟨Y0.heap.size, 0, none⟩)) (w1 := Y0.alloc (.cells #[.slice none 0 0, .slice none 0 0, .int .u64 0, .int .u64 0, .int .u64 0, .int .u64 0] 45)) (by rfl) rfl ?_ ?_
      · first | (go_simp; done) | (go_simp; rfl)
      refine hK.out _ _ ⟨blk_cell (blk_alloc HB0.out _) 0, blk_cell (blk_alloc HB0.out _) 1, blk_cell (blk_alloc HB0.out _) 2, blk_cell (blk_alloc HB0.out _) 3, blk_cell (blk_alloc HB0.out _) 4, blk_cell (blk_alloc HB0.out _) 5, blk_cell (blk_alloc HB1.out _) 0, blk_cell (blk_alloc HB1.out _) 1, blk_cell (blk_alloc HB1.out _) 2, blk_cell (blk_alloc HB1.out _) 3, blk_cell (blk_alloc HB1.out _) 4, blk_cell (blk_alloc HB1.out _) 5⟩ (fun _ => ?_)
      clear hK K
      refine norm_ (a' := ?_) ?_ ?_
      rotate_left
      · show Act.put _ (some 7) _ = _
        simp only [Act.put, List.setIfInBounds_toArray, List.set_cons_zero, List.set_cons_succ, i64_w, i32_w]
        rfl
      refine name_last (fun w10_ HN => ?_)
      have HB0_ := blk_alloc HB0.out (.cells #[.slice none 0 0, .slice none 0 0, .int .u64 0, .int .u64 0, .int .u64 0, .int .u64 0] 45)
      have HB1_ := blk_alloc HB1.out (.cells #[.slice none 0 0, .slice none 0 0, .int .u64 0, .int .u64 0, .int .u64 0, .int .u64 0] 45)
      have HB2_ := blk_alloc HB2.out (.cells #[.slice none 0 0, .slice none 0 0, .int .u64 0, .int .u64 0, .int .u64 0, .int .u64 0] 45)
      have P0_ := P0.out.alloc (.cells #[.slice none 0 0, .slice none 0 0, .int .u64 0, .int .u64 0, .int .u64 0, .int .u64 0] 45)
      have P1_ := P1.out.alloc (.cells #[.slice none 0 0, .slice none 0 0, .int .u64 0, .int .u64 0, .int .u64 0, .int .u64 0] 45)
      have P2_ := P2.out.alloc (.cells #[.slice none 0 0, .slice none 0 0, .int .u64 0, .int .u64 0, .int .u64 0, .int .u64 0] 45)
      have HL_ := below_alloc HL.out (.cells #[.slice none 0 0, .slice none 0 0, .int .u64 0, .int .u64 0, .int .u64 0, .int .u64 0] 45)
      have HX_ := below_alloc HX.out (.cells #[.slice none 0 0, .slice none 0 0, .int .u64 0, .int .u64 0, .int .u64 0, .int .u64 0] 45)
      have HR_ := blk_new Y0 (.cells #[.slice none 0 0, .slice none 0 0, .int .u64 0, .int .u64 0, .int .u64 0, .int .u64 0] 45)
      have HGE := Lib.hid HX.out.size
      rw [HN.out] at HB0_ HB1_ HB2_ P0_ P1_ P2_ HL_ HX_ HR_
      clear HB0
      have HB0 := Lib.hid HB0_; clear HB0_
      clear HB1
      have HB1 := Lib.hid HB1_; clear HB1_
      clear HB2
      have HB2 := Lib.hid HB2_; clear HB2_
      clear P0
      have P0 := Lib.hid P0_; clear P0_
      clear P1
      have P1 := Lib.hid P1_; clear P1_
      clear P2
      have P2 := Lib.hid P2_; clear P2_
      clear HL
      have HL := Lib.hid HL_; clear HL_
      clear HX
      have HX := Lib.hid HX_; clear HX_
      have HR := Lib.hid HR_; clear HR_
      clear HN
      refine one_ (i := 1) (N := some 33) #[true, true, true, false, false, false, false, false, true, false, false] rfl rfl (by kernel_rfl) (by decide) (fun K hK => ?_)
      refine goes_ Try.func39 (by kernel_rfl) rfl #[.agg #[.slice Av v.h.length cv, .slice Bv v.k.length dv, .int .u64 v.g.n, .int .u64 v.g.nans, .int .u64 v.g.lo, .int .u64 v.g.hi]] (by rfl) rfl rfl (by (try simp only [List.map_toArray, List.map_cons, List.map_nil]); first | done | rfl) ?_
      (with_reducible refine (copyV P0.out).mono ?_)
      rintro e w11_ ⟨Ax, cx, Bx, dx, rfl, k_, hb⟩
      refine ⟨_, rfl, ?_⟩
      have HB0_ := (hb.block _ (blk_lt HB0.out)).trans HB0.out; clear HB0; have HB0 := Lib.hid HB0_; clear HB0_
      have HB1_ := (hb.block _ (blk_lt HB1.out)).trans HB1.out; clear HB1; have HB1 := Lib.hid HB1_; clear HB1_
      have HB2_ := (hb.block _ (blk_lt HB2.out)).trans HB2.out; clear HB2; have HB2 := Lib.hid HB2_; clear HB2_
      have P0_ := P0.out.below hb (Nat.le_refl _); clear P0; have P0 := Lib.hid P0_; clear P0_
      have P1_ := P1.out.below hb (Nat.le_refl _); clear P1; have P1 := Lib.hid P1_; clear P1_
      have P2_ := P2.out.below hb (Nat.le_refl _); clear P2; have P2 := Lib.hid P2_; clear P2_
      have HL_ := HL.out.trans (hb.mono HL.out.size); clear HL; have HL := Lib.hid HL_; clear HL_
      have HX_ := HX.out.trans (hb.mono HX.out.size); clear HX; have HX := Lib.hid HX_; clear HX_
      have HR_ := (hb.block _ (blk_lt HR.out)).trans HR.out; clear HR; have HR := Lib.hid HR_; clear HR_
      have Cx := Lib.hid k_; clear k_ hb
      refine hK.out _ _ ⟨blk_cell (HB0.out) 0, blk_cell (HB0.out) 1, blk_cell (HB0.out) 2, blk_cell (HB0.out) 3, blk_cell (HB0.out) 4, blk_cell (HB0.out) 5, blk_cell (HB1.out) 0, blk_cell (HB1.out) 1, blk_cell (HB1.out) 2, blk_cell (HB1.out) 3, blk_cell (HB1.out) 4, blk_cell (HB1.out) 5⟩ (fun _ => ?_)
      clear hK K
      refine norm_ (a' := ?_) ?_ ?_
      rotate_left
      · show Act.put _ (some 33) _ = _
        simp only [Act.put, List.setIfInBounds_toArray, List.set_cons_zero, List.set_cons_succ, i64_w, i32_w]
        rfl
      refine one_ (i := 3) (N := some 35) #[true, true, true, true, false, false, false, false, true, false, false] rfl rfl (by kernel_rfl) (by decide) (fun K hK => ?_)
      refine goes_ Try.func39 (by kernel_rfl) rfl #[.agg #[.slice Au u.h.length cu, .slice Bu u.k.length du, .int .u64 u.g.n, .int .u64 u.g.nans, .int .u64 u.g.lo, .int .u64 u.g.hi]] (by rfl) rfl rfl (by (try simp only [List.map_toArray, List.map_cons, List.map_nil]); first | done | rfl) ?_
      (with_reducible refine (copyV P1.out).mono ?_)
      rintro e w12_ ⟨Ay, cy, By, dy, rfl, k_, hb⟩
      refine ⟨_, rfl, ?_⟩
      have HB0_ := (hb.block _ (blk_lt HB0.out)).trans HB0.out; clear HB0; have HB0 := Lib.hid HB0_; clear HB0_
      have HB1_ := (hb.block _ (blk_lt HB1.out)).trans HB1.out; clear HB1; have HB1 := Lib.hid HB1_; clear HB1_
      have HB2_ := (hb.block _ (blk_lt HB2.out)).trans HB2.out; clear HB2; have HB2 := Lib.hid HB2_; clear HB2_
      have P0_ := P0.out.below hb (Nat.le_refl _); clear P0; have P0 := Lib.hid P0_; clear P0_
      have P1_ := P1.out.below hb (Nat.le_refl _); clear P1; have P1 := Lib.hid P1_; clear P1_
      have P2_ := P2.out.below hb (Nat.le_refl _); clear P2; have P2 := Lib.hid P2_; clear P2_
      have Cx_ := Cx.out.below hb (Nat.le_refl _); clear Cx; have Cx := Lib.hid Cx_; clear Cx_
      have HL_ := HL.out.trans (hb.mono HL.out.size); clear HL; have HL := Lib.hid HL_; clear HL_
      have HX_ := HX.out.trans (hb.mono HX.out.size); clear HX; have HX := Lib.hid HX_; clear HX_
      have HR_ := (hb.block _ (blk_lt HR.out)).trans HR.out; clear HR; have HR := Lib.hid HR_; clear HR_
      have Cy := Lib.hid k_; clear k_ hb
      refine hK.out _ _ ⟨blk_cell (HB0.out) 0, blk_cell (HB0.out) 1, blk_cell (HB0.out) 2, blk_cell (HB0.out) 3, blk_cell (HB0.out) 4, blk_cell (HB0.out) 5, blk_cell (HB1.out) 0, blk_cell (HB1.out) 1, blk_cell (HB1.out) 2, blk_cell (HB1.out) 3, blk_cell (HB1.out) 4, blk_cell (HB1.out) 5⟩ (fun _ => ?_)
      clear hK K
      refine norm_ (a' := ?_) ?_ ?_
      rotate_left
      · show Act.put _ (some 35) _ = _
        simp only [Act.put, List.setIfInBounds_toArray, List.set_cons_zero, List.set_cons_succ, i64_w, i32_w]
        rfl
      refine one_ (i := 4) (N := some 36) #[true, true, true, true, true, false, false, false, true, false, false] rfl rfl (by kernel_rfl) (by decide) (fun K hK => ?_)
      refine goes_ Try.func45 (by kernel_rfl) rfl #[.agg #[.slice Ax v.h.length cx, .slice Bx v.k.length dx, .int .u64 v.g.n, .int .u64 v.g.nans, .int .u64 v.g.lo, .int .u64 v.g.hi], .agg #[.slice Ay u.h.length cy, .slice By u.k.length dy, .int .u64 u.g.n, .int .u64 u.g.nans, .int .u64 u.g.lo, .int .u64 u.g.hi]] (by rfl) rfl rfl (by (try simp only [List.map_toArray, List.map_cons, List.map_nil]); first | done | rfl) ?_
      (with_reducible refine (merge_okR Cx.out Cy.out AL1.out EE1.out).mono ?_)
      rintro e w13_ ⟨Am, cm, Bm, dm, rfl, k_, hR_, hS_, hb⟩
      refine ⟨_, rfl, ?_⟩
      have HROB := Lib.hid (Rob.of_R k_ hR_ hS_ (blk_lt HR.out))
      have HB0_ := (hb.block _ (blk_lt HB0.out)).trans HB0.out; clear HB0; have HB0 := Lib.hid HB0_; clear HB0_
      have HB1_ := (hb.block _ (blk_lt HB1.out)).trans HB1.out; clear HB1; have HB1 := Lib.hid HB1_; clear HB1_
      have HB2_ := (hb.block _ (blk_lt HB2.out)).trans HB2.out; clear HB2; have HB2 := Lib.hid HB2_; clear HB2_
      have P0_ := P0.out.below hb (Nat.le_refl _); clear P0; have P0 := Lib.hid P0_; clear P0_
      have P1_ := P1.out.below hb (Nat.le_refl _); clear P1; have P1 := Lib.hid P1_; clear P1_
      have P2_ := P2.out.below hb (Nat.le_refl _); clear P2; have P2 := Lib.hid P2_; clear P2_
      have Cx_ := Cx.out.below hb (Nat.le_refl _); clear Cx; have Cx := Lib.hid Cx_; clear Cx_
      have Cy_ := Cy.out.below hb (Nat.le_refl _); clear Cy; have Cy := Lib.hid Cy_; clear Cy_
      have HL_ := HL.out.trans (hb.mono HL.out.size); clear HL; have HL := Lib.hid HL_; clear HL_
      have HX_ := HX.out.trans (hb.mono HX.out.size); clear HX; have HX := Lib.hid HX_; clear HX_
      have HR_ := (hb.block _ (blk_lt HR.out)).trans HR.out; clear HR; have HR := Lib.hid HR_; clear HR_
      clear k_ hR_ hS_ hb
      refine hK.out _ _ ⟨blk_cell (HB0.out) 0, blk_cell (HB0.out) 1, blk_cell (HB0.out) 2, blk_cell (HB0.out) 3, blk_cell (HB0.out) 4, blk_cell (HB0.out) 5, blk_cell (HB1.out) 0, blk_cell (HB1.out) 1, blk_cell (HB1.out) 2, blk_cell (HB1.out) 3, blk_cell (HB1.out) 4, blk_cell (HB1.out) 5⟩ (fun _ => ?_)
      clear hK K
      refine norm_ (a' := ?_) ?_ ?_
      rotate_left
      · show Act.put _ (some 36) _ = _
        simp only [Act.put, List.setIfInBounds_toArray, List.set_cons_zero, List.set_cons_succ, i64_w, i32_w]
        rfl
      refine pure_ (i := 5) (N := some 31) (v := ?_) (a' := ?_) #[true, true, true, true, true, true, false, false, true, false, false] rfl rfl (by kernel_rfl) (fun _ _ _ h => h) (Or.inl ⟨by rfl, ?_⟩) ?_ ?_
      rotate_left
      · intro w'
        go_simp
        with_reducible rfl
      rotate_left
      · simp only [Act.put, List.setIfInBounds_toArray, List.set_cons_zero, List.set_cons_succ, i64_w, i32_w]
        rfl
      refine pure_ (i := 6) (N := some 37) (v := ?_) (a' := ?_) #[true, true, true, true, true, true, true, false, true, false, false] rfl rfl (by kernel_rfl) (fun _ _ _ h => h) (Or.inl ⟨by rfl, ?_⟩) ?_ ?_
      rotate_left
      · intro w'
        go_simp
        with_reducible rfl
      rotate_left
      · simp only [Act.put, List.setIfInBounds_toArray, List.set_cons_zero, List.set_cons_succ, i64_w, i32_w]
        rfl
      refine pure_ (i := 7) (N := some 38) (v := ?_) (a' := ?_) #[true, true, true, true, true, true, true, true, true, false, false] rfl rfl (by kernel_rfl) (fun _ _ _ h => h) (Or.inl ⟨by rfl, ?_⟩) ?_ ?_
      rotate_left
      · intro w'
        go_simp
        with_reducible rfl
      rotate_left
      · simp only [Act.put, List.setIfInBounds_toArray, List.set_cons_zero, List.set_cons_succ, i64_w, i32_w]
        rfl
      refine norm_ ?_ (hcont ((.agg #[.slice Ax v.h.length cx, .slice Bx v.k.length dx, .int .u64 v.g.n, .int .u64 v.g.nans, .int .u64 v.g.lo, .int .u64 v.g.hi]), (.agg #[.slice Ay u.h.length cy, .slice By u.k.length dy, .int .u64 u.g.n, .int .u64 u.g.nans, .int .u64 u.g.lo, .int .u64 u.g.hi]), Y0.heap.size, Am, cm, Bm, dm) _ (Met.mk HX.out HGE.out HR.out HROB.out))
      simp only [putAll, Act.put, List.setIfInBounds_toArray, List.set_cons_zero, List.set_cons_succ]
  rintro ⟨v1_, v2_, rHM0, AM0, cM0, BM0, dM0⟩ w9_ hF
  obtain ⟨hbel, hge, hr, hrob⟩ := hF.out
  clear hF
  refine norm_ (a' := ?_) ?_ ?_
  rotate_left
  · simp only [putAll, Act.put, List.setIfInBounds_toArray, List.set_cons_zero, List.set_cons_succ]
    rfl
  refine last_ (i := 9) (N := none) #[true, true, true, true, true, true, true, true, true, true, false] rfl rfl (by kernel_rfl) (by decide) (fun K hK => ?_)
  have r0_ : w9_.cell? ⟨rHM0, 0, none⟩ = some (.slice none 0 0) := blk_cell hr 0; have q0_ := blk_frozen hr 0
  have r1_ : w9_.cell? ⟨rHM0, 1, none⟩ = some (.slice none 0 0) := blk_cell hr 1; have q1_ := blk_frozen hr 1
  have r2_ : w9_.cell? ⟨rHM0, 2, none⟩ = some (.int .u64 0) := blk_cell hr 2; have q2_ := blk_frozen hr 2
  have r3_ : w9_.cell? ⟨rHM0, 3, none⟩ = some (.int .u64 0) := blk_cell hr 3; have q3_ := blk_frozen hr 3
  have r4_ : w9_.cell? ⟨rHM0, 4, none⟩ = some (.int .u64 0) := blk_cell hr 4; have q4_ := blk_frozen hr 4
  have r5_ : w9_.cell? ⟨rHM0, 5, none⟩ = some (.int .u64 0) := blk_cell hr 5; have q5_ := blk_frozen hr 5
  have HRR := Lib.hid (And.intro hbel (And.intro hge (And.intro hr hrob))); clear hbel hge hr hrob
  refine skip_ (w1 := ?_) (by rfl) rfl ?_ ?_
  rotate_left
  · go_simp
    rfl
  refine hK.out _ _ ?_
  clear hK K r0_ q0_ r1_ q1_ r2_ q2_ r3_ q3_ r4_ q4_ r5_ q5_
  refine pure_ (i := 10) (N := some 8) (v := ?_) (a' := ?_) #[true, true, true, true, true, true, true, true, true, true, true] rfl rfl (by kernel_rfl) (fun _ _ _ h => h) (Or.inl ⟨by rfl, ?_⟩) ?_ ?_
  rotate_left
  · intro w'
    go_simp
    with_reducible rfl
  rotate_left
  · simp only [Act.put, List.setIfInBounds_toArray, List.set_cons_zero, List.set_cons_succ, i64_w, i32_w]
    rfl
  refine name_last (fun XHM0 HN => ?_)
  obtain ⟨n1_, n2_, n3_⟩ := fin6 HRR.out.1 HRR.out.2.1 HRR.out.2.2.1 (.slice AM0 s1.h.length cM0) (.slice BM0 s1.k.length dM0) (.int .u64 s1.g.n) (.int .u64 s1.g.nans) (.int .u64 s1.g.lo) (.int .u64 s1.g.hi)
  rw [HN.out] at n1_ n2_ n3_
  have k_ := HRR.out.2.2.2 XHM0 n3_
  have HB0_ := (n2_.block _ (blk_lt HB0.out)).trans HB0.out; clear HB0; have HB0 := Lib.hid HB0_; clear HB0_
  have HB1_ := (n2_.block _ (blk_lt HB1.out)).trans HB1.out; clear HB1; have HB1 := Lib.hid HB1_; clear HB1_
  have HB2_ := (n2_.block _ (blk_lt HB2.out)).trans HB2.out; clear HB2; have HB2 := Lib.hid HB2_; clear HB2_
  have P0_ := P0.out.below n2_ (Nat.le_refl _); clear P0; have P0 := Lib.hid P0_; clear P0_
  have P1_ := P1.out.below n2_ (Nat.le_refl _); clear P1; have P1 := Lib.hid P1_; clear P1_
  have P2_ := P2.out.below n2_ (Nat.le_refl _); clear P2; have P2 := Lib.hid P2_; clear P2_
  have HL_ := HL.out.trans (n2_.mono HL.out.size); clear HL; have HL := Lib.hid HL_; clear HL_
  have HM0 := Lib.hid n1_; have M0 := Lib.hid k_
  clear n1_ n2_ n3_ k_ HN HRR HX
  refine done_ (by kernel_rfl) ?_
  refine NoPanic.normal ?_
  go_wp2
  have HB0_ := blk_drew HB0.out; clear HB0; have HB0 := Lib.hid HB0_; clear HB0_
  have HB1_ := blk_drew HB1.out; clear HB1; have HB1 := Lib.hid HB1_; clear HB1_
  have HB2_ := blk_drew HB2.out; clear HB2; have HB2 := Lib.hid HB2_; clear HB2_
  have HM0_ := blk_drew HM0.out; clear HM0; have HM0 := Lib.hid HM0_; clear HM0_
  have P0_ := P0.out.below (below_drew (Below.refl _ _)) (Nat.le_refl _); clear P0; have P0 := Lib.hid P0_; clear P0_
  have P1_ := P1.out.below (below_drew (Below.refl _ _)) (Nat.le_refl _); clear P1; have P1 := Lib.hid P1_; clear P1_
  have P2_ := P2.out.below (below_drew (Below.refl _ _)) (Nat.le_refl _); clear P2; have P2 := Lib.hid P2_; clear P2_
  have M0_ := M0.out.below (below_drew (Below.refl _ _)) (Nat.le_refl _); clear M0; have M0 := Lib.hid M0_; clear M0_
  have HL_ := below_drew HL.out; clear HL; have HL := Lib.hid HL_; clear HL_
  refine wp_region_noPanic ?_
  refine start_ (n := 11) (S := fun w' => w'.cell? ⟨w.heap.size + 1, 0, none⟩ = some (.slice Au u.h.length cu) ∧ w'.cell? ⟨w.heap.size + 1, 1, none⟩ = some (.slice Bu u.k.length du) ∧ w'.cell? ⟨w.heap.size + 1, 2, none⟩ = some (.int .u64 u.g.n) ∧ w'.cell? ⟨w.heap.size + 1, 3, none⟩ = some (.int .u64 u.g.nans) ∧ w'.cell? ⟨w.heap.size + 1, 4, none⟩ = some (.int .u64 u.g.lo) ∧ w'.cell? ⟨w.heap.size + 1, 5, none⟩ = some (.int .u64 u.g.hi) ∧ w'.cell? ⟨w.heap.size, 0, none⟩ = some (.slice Av v.h.length cv) ∧ w'.cell? ⟨w.heap.size, 1, none⟩ = some (.slice Bv v.k.length dv) ∧ w'.cell? ⟨w.heap.size, 2, none⟩ = some (.int .u64 v.g.n) ∧ w'.cell? ⟨w.heap.size, 3, none⟩ = some (.int .u64 v.g.nans) ∧ w'.cell? ⟨w.heap.size, 4, none⟩ = some (.int .u64 v.g.lo) ∧ w'.cell? ⟨w.heap.size, 5, none⟩ = some (.int .u64 v.g.hi)) (ds := [9]) #[false, false, false, false, false, false, false, false, false, false, false] (by kernel_rfl) rfl rfl ⟨blk_cell (HB1.out) 0, blk_cell (HB1.out) 1, blk_cell (HB1.out) 2, blk_cell (HB1.out) 3, blk_cell (HB1.out) 4, blk_cell (HB1.out) 5, blk_cell (HB0.out) 0, blk_cell (HB0.out) 1, blk_cell (HB0.out) 2, blk_cell (HB0.out) 3, blk_cell (HB0.out) 4, blk_cell (HB0.out) 5⟩ (fun hHeld => ?_)
  generalize XHM0.drew = Y1 at HB0 HB1 HB2 HM0 P0 P1 P2 M0 HL hHeld ⊢
  refine take_ (i := 0) (N := some 40) (v := ?_) (a' := ?_) #[true, false, false, false, false, false, false, false, false, false, false] rfl rfl (by kernel_rfl) (fun _ _ _ h => h) (Or.inl ⟨by rfl, ?_⟩) hHeld ?_ ?_
  rotate_left
  · rintro w' ⟨s0_, s1_, s2_, s3_, s4_, s5_, s6_, s7_, s8_, s9_, s10_, s11_⟩
    go_simp
    with_reducible rfl
  rotate_left
  · simp only [Act.put, List.setIfInBounds_toArray, List.set_cons_zero, List.set_cons_succ, i64_w, i32_w]
    rfl
  refine take_ (i := 2) (N := some 42) (v := ?_) (a' := ?_) #[true, false, true, false, false, false, false, false, false, false, false] rfl rfl (by kernel_rfl) (fun _ _ _ h => h) (Or.inl ⟨by rfl, ?_⟩) hHeld ?_ ?_
  rotate_left
  · rintro w' ⟨s0_, s1_, s2_, s3_, s4_, s5_, s6_, s7_, s8_, s9_, s10_, s11_⟩
    go_simp
    with_reducible rfl
  rotate_left
  · simp only [Act.put, List.setIfInBounds_toArray, List.set_cons_zero, List.set_cons_succ, i64_w, i32_w]
    rfl
  clear hHeld
  have HX := Lib.hid (Below.refl Y1.heap.size Y1)
  refine join_ 2 #[true, true, true, true, true, true, true, true, true, false, false] (fun s : Value × Value × Nat × Option Addr × Nat × Option Addr × Nat => [(41, s.1), (43, s.2.1), (44, .tuple #[.agg #[.slice s.2.2.2.1 s1.h.length s.2.2.2.2.1, .slice s.2.2.2.2.2.1 s1.k.length s.2.2.2.2.2.2, .int .u64 s1.g.n, .int .u64 s1.g.nans, .int .u64 s1.g.lo, .int .u64 s1.g.hi], .int .i64 0]), (39, .tuple #[.agg #[.slice s.2.2.2.1 s1.h.length s.2.2.2.2.1, .slice s.2.2.2.2.2.1 s1.k.length s.2.2.2.2.2.2, .int .u64 s1.g.n, .int .u64 s1.g.nans, .int .u64 s1.g.lo, .int .u64 s1.g.hi], .int .i64 0]), (45, .agg #[.slice s.2.2.2.1 s1.h.length s.2.2.2.2.1, .slice s.2.2.2.2.2.1 s1.k.length s.2.2.2.2.2.2, .int .u64 s1.g.n, .int .u64 s1.g.nans, .int .u64 s1.g.lo, .int .u64 s1.g.hi]), (46, .int .i64 0), (9, .pointer (some ⟨s.2.2.1, 0, none⟩))]) (Met Y1 s1) ?_ (fun hcont => ?_)
  rotate_left
  · skip
    refine two_ (i := 1) (j := 8) (Ni := some 41) (Nj := some 9) #[true, true, true, false, false, false, false, false, false, false, false] #[true, false, true, false, false, false, false, false, true, false, false] rfl rfl rfl rfl (by kernel_rfl) (by decide) (by decide) (fun K hK => ?_) (fun K hK => ?_)
    · skip
      refine goes_ Try.func39 (by kernel_rfl) rfl #[.agg #[.slice Au u.h.length cu, .slice Bu u.k.length du, .int .u64 u.g.n, .int .u64 u.g.nans, .int .u64 u.g.lo, .int .u64 u.g.hi]] (by rfl) rfl rfl (by (try simp only [List.map_toArray, List.map_cons, List.map_nil]); first | done | rfl) ?_
      (with_reducible refine (copyV P1.out).mono ?_)
      rintro e w1_ ⟨Ax, cx, Bx, dx, rfl, k_, hb⟩
      refine ⟨_, rfl, ?_⟩
      have HB0_ := (hb.block _ (blk_lt HB0.out)).trans HB0.out; clear HB0; have HB0 := Lib.hid HB0_; clear HB0_
      have HB1_ := (hb.block _ (blk_lt HB1.out)).trans HB1.out; clear HB1; have HB1 := Lib.hid HB1_; clear HB1_
      have HB2_ := (hb.block _ (blk_lt HB2.out)).trans HB2.out; clear HB2; have HB2 := Lib.hid HB2_; clear HB2_
      have HM0_ := (hb.block _ (blk_lt HM0.out)).trans HM0.out; clear HM0; have HM0 := Lib.hid HM0_; clear HM0_
      have P0_ := P0.out.below hb (Nat.le_refl _); clear P0; have P0 := Lib.hid P0_; clear P0_
      have P1_ := P1.out.below hb (Nat.le_refl _); clear P1; have P1 := Lib.hid P1_; clear P1_
      have P2_ := P2.out.below hb (Nat.le_refl _); clear P2; have P2 := Lib.hid P2_; clear P2_
      have M0_ := M0.out.below hb (Nat.le_refl _); clear M0; have M0 := Lib.hid M0_; clear M0_
      have HL_ := HL.out.trans (hb.mono HL.out.size); clear HL; have HL := Lib.hid HL_; clear HL_
      have HX_ := HX.out.trans (hb.mono HX.out.size); clear HX; have HX := Lib.hid HX_; clear HX_
      have Cx := Lib.hid k_; clear k_ hb
      refine hK.out _ _ ⟨blk_cell (HB1.out) 0, blk_cell (HB1.out) 1, blk_cell (HB1.out) 2, blk_cell (HB1.out) 3, blk_cell (HB1.out) 4, blk_cell (HB1.out) 5, blk_cell (HB0.out) 0, blk_cell (HB0.out) 1, blk_cell (HB0.out) 2, blk_cell (HB0.out) 3, blk_cell (HB0.out) 4, blk_cell (HB0.out) 5⟩ (fun _ => ?_)
      clear hK K
      refine norm_ (a' := ?_) ?_ ?_
      rotate_left
      · show Act.put _ (some 41) _ = _
        simp only [Act.put, List.setIfInBounds_toArray, List.set_cons_zero, List.set_cons_succ, i64_w, i32_w]
        rfl
      refine two_ (i := 3) (j := 8) (Ni := some 43) (Nj := some 9) #[true, true, true, true, false, false, false, false, false, false, false] #[true, true, true, false, false, false, false, false, true, false, false] rfl rfl rfl rfl (by kernel_rfl) (by decide) (by decide) (fun K hK => ?_) (fun K hK => ?_)
      · skip
        refine goes_ Try.func39 (by kernel_rfl) rfl #[.agg #[.slice Av v.h.length cv, .slice Bv v.k.length dv, .int .u64 v.g.n, .int .u64 v.g.nans, .int .u64 v.g.lo, .int .u64 v.g.hi]] (by rfl) rfl rfl (by (try simp only [List.map_toArray, List.map_cons, List.map_nil]); first | done | rfl) ?_
        (with_reducible refine (copyV P0.out).mono ?_)
        rintro e w2_ ⟨Ay, cy, By, dy, rfl, k_, hb⟩
        refine ⟨_, rfl, ?_⟩
        have HB0_ := (hb.block _ (blk_lt HB0.out)).trans HB0.out; clear HB0; have HB0 := Lib.hid HB0_; clear HB0_
        have HB1_ := (hb.block _ (blk_lt HB1.out)).trans HB1.out; clear HB1; have HB1 := Lib.hid HB1_; clear HB1_
        have HB2_ := (hb.block _ (blk_lt HB2.out)).trans HB2.out; clear HB2; have HB2 := Lib.hid HB2_; clear HB2_
        have HM0_ := (hb.block _ (blk_lt HM0.out)).trans HM0.out; clear HM0; have HM0 := Lib.hid HM0_; clear HM0_
        have P0_ := P0.out.below hb (Nat.le_refl _); clear P0; have P0 := Lib.hid P0_; clear P0_
        have P1_ := P1.out.below hb (Nat.le_refl _); clear P1; have P1 := Lib.hid P1_; clear P1_
        have P2_ := P2.out.below hb (Nat.le_refl _); clear P2; have P2 := Lib.hid P2_; clear P2_
        have M0_ := M0.out.below hb (Nat.le_refl _); clear M0; have M0 := Lib.hid M0_; clear M0_
        have Cx_ := Cx.out.below hb (Nat.le_refl _); clear Cx; have Cx := Lib.hid Cx_; clear Cx_
        have HL_ := HL.out.trans (hb.mono HL.out.size); clear HL; have HL := Lib.hid HL_; clear HL_
        have HX_ := HX.out.trans (hb.mono HX.out.size); clear HX; have HX := Lib.hid HX_; clear HX_
        have Cy := Lib.hid k_; clear k_ hb
        refine hK.out _ _ ⟨blk_cell (HB1.out) 0, blk_cell (HB1.out) 1, blk_cell (HB1.out) 2, blk_cell (HB1.out) 3, blk_cell (HB1.out) 4, blk_cell (HB1.out) 5, blk_cell (HB0.out) 0, blk_cell (HB0.out) 1, blk_cell (HB0.out) 2, blk_cell (HB0.out) 3, blk_cell (HB0.out) 4, blk_cell (HB0.out) 5⟩ (fun _ => ?_)
        clear hK K
        refine norm_ (a' := ?_) ?_ ?_
        rotate_left
        · show Act.put _ (some 43) _ = _
          simp only [Act.put, List.setIfInBounds_toArray, List.set_cons_zero, List.set_cons_succ, i64_w, i32_w]
          rfl
        refine two_ (i := 4) (j := 8) (Ni := some 44) (Nj := some 9) #[true, true, true, true, true, false, false, false, false, false, false] #[true, true, true, true, false, false, false, false, true, false, false] rfl rfl rfl rfl (by kernel_rfl) (by decide) (by decide) (fun K hK => ?_) (fun K hK => ?_)
        · skip
          refine goes_ Try.func45 (by kernel_rfl) rfl #[.agg #[.slice Ax u.h.length cx, .slice Bx u.k.length dx, .int .u64 u.g.n, .int .u64 u.g.nans, .int .u64 u.g.lo, .int .u64 u.g.hi], .agg #[.slice Ay v.h.length cy, .slice By v.k.length dy, .int .u64 v.g.n, .int .u64 v.g.nans, .int .u64 v.g.lo, .int .u64 v.g.hi]] (by rfl) rfl rfl (by (try simp only [List.map_toArray, List.map_cons, List.map_nil]); first | done | rfl) ?_
          (with_reducible refine (merge_okR Cx.out Cy.out AL2.out EE2.out).mono ?_)
          rintro e w3_ ⟨Am, cm, Bm, dm, rfl, k_, hR_, hS_, hb⟩
          refine ⟨_, rfl, ?_⟩
          have HB0_ := (hb.block _ (blk_lt HB0.out)).trans HB0.out; clear HB0; have HB0 := Lib.hid HB0_; clear HB0_
          have HB1_ := (hb.block _ (blk_lt HB1.out)).trans HB1.out; clear HB1; have HB1 := Lib.hid HB1_; clear HB1_
          have HB2_ := (hb.block _ (blk_lt HB2.out)).trans HB2.out; clear HB2; have HB2 := Lib.hid HB2_; clear HB2_
          have HM0_ := (hb.block _ (blk_lt HM0.out)).trans HM0.out; clear HM0; have HM0 := Lib.hid HM0_; clear HM0_
          have P0_ := P0.out.below hb (Nat.le_refl _); clear P0; have P0 := Lib.hid P0_; clear P0_
          have P1_ := P1.out.below hb (Nat.le_refl _); clear P1; have P1 := Lib.hid P1_; clear P1_
          have P2_ := P2.out.below hb (Nat.le_refl _); clear P2; have P2 := Lib.hid P2_; clear P2_
          have M0_ := M0.out.below hb (Nat.le_refl _); clear M0; have M0 := Lib.hid M0_; clear M0_
          have Cx_ := Cx.out.below hb (Nat.le_refl _); clear Cx; have Cx := Lib.hid Cx_; clear Cx_
          have Cy_ := Cy.out.below hb (Nat.le_refl _); clear Cy; have Cy := Lib.hid Cy_; clear Cy_
          have HL_ := HL.out.trans (hb.mono HL.out.size); clear HL; have HL := Lib.hid HL_; clear HL_
          have HX_ := HX.out.trans (hb.mono HX.out.size); clear HX; have HX := Lib.hid HX_; clear HX_
          have MM := Lib.hid k_
          clear k_ hR_ hS_ hb
          refine hK.out _ _ ⟨blk_cell (HB1.out) 0, blk_cell (HB1.out) 1, blk_cell (HB1.out) 2, blk_cell (HB1.out) 3, blk_cell (HB1.out) 4, blk_cell (HB1.out) 5, blk_cell (HB0.out) 0, blk_cell (HB0.out) 1, blk_cell (HB0.out) 2, blk_cell (HB0.out) 3, blk_cell (HB0.out) 4, blk_cell (HB0.out) 5⟩ (fun _ => ?_)
          clear hK K
          refine norm_ (a' := ?_) ?_ ?_
          rotate_left
          · show Act.put _ (some 44) _ = _
            simp only [Act.put, List.setIfInBounds_toArray, List.set_cons_zero, List.set_cons_succ, i64_w, i32_w]
            rfl
          refine pure_ (i := 5) (N := some 39) (v := ?_) (a' := ?_) #[true, true, true, true, true, true, false, false, false, false, false] rfl rfl (by kernel_rfl) (fun _ _ _ h => h) (Or.inl ⟨by rfl, ?_⟩) ?_ ?_
          rotate_left
          · intro w'
            go_simp
            with_reducible rfl
          rotate_left
          · simp only [Act.put, List.setIfInBounds_toArray, List.set_cons_zero, List.set_cons_succ, i64_w, i32_w]
            rfl
          refine pure_ (i := 6) (N := some 45) (v := ?_) (a' := ?_) #[true, true, true, true, true, true, true, false, false, false, false] rfl rfl (by kernel_rfl) (fun _ _ _ h => h) (Or.inl ⟨by rfl, ?_⟩) ?_ ?_
          rotate_left
          · intro w'
            go_simp
            with_reducible rfl
          rotate_left
          · simp only [Act.put, List.setIfInBounds_toArray, List.set_cons_zero, List.set_cons_succ, i64_w, i32_w]
            rfl
          refine pure_ (i := 7) (N := some 46) (v := ?_) (a' := ?_) #[true, true, true, true, true, true, true, true, false, false, false] rfl rfl (by kernel_rfl) (fun _ _ _ h => h) (Or.inl ⟨by rfl, ?_⟩) ?_ ?_
          rotate_left
          · intro w'
            go_simp
            with_reducible rfl
          rotate_left
          · simp only [Act.put, List.setIfInBounds_toArray, List.set_cons_zero, List.set_cons_succ, i64_w, i32_w]
            rfl
          refine one_ (i := 8) (N := some 9) #[true, true, true, true, true, true, true, true, true, false, false] rfl rfl (by kernel_rfl) (by decide) (fun K hK => ?_)
          refine value_ (v := .pointer (some ⟨w3_.heap.size, 0, none⟩)) (w1 := w3_.alloc (.cells #[.slice none 0 0, .slice none 0 0, .int .u64 0, .int .u64 0, .int .u64 0, .int .u64 0] 45)) (by rfl) rfl ?_ ?_
          · first | (go_simp; done) | (go_simp; rfl)
          refine hK.out _ _ ⟨blk_cell (blk_alloc HB1.out _) 0, blk_cell (blk_alloc HB1.out _) 1, blk_cell (blk_alloc HB1.out _) 2, blk_cell (blk_alloc HB1.out _) 3, blk_cell (blk_alloc HB1.out _) 4, blk_cell (blk_alloc HB1.out _) 5, blk_cell (blk_alloc HB0.out _) 0, blk_cell (blk_alloc HB0.out _) 1, blk_cell (blk_alloc HB0.out _) 2, blk_cell (blk_alloc HB0.out _) 3, blk_cell (blk_alloc HB0.out _) 4, blk_cell (blk_alloc HB0.out _) 5⟩ (fun _ => ?_)
          clear hK K
          refine norm_ (a' := ?_) ?_ ?_
          rotate_left
          · show Act.put _ (some 9) _ = _
            simp only [Act.put, List.setIfInBounds_toArray, List.set_cons_zero, List.set_cons_succ, i64_w, i32_w]
            rfl
          refine name_last (fun w4_ HN => ?_)
          have HB0_ := blk_alloc HB0.out (.cells #[.slice none 0 0, .slice none 0 0, .int .u64 0, .int .u64 0, .int .u64 0, .int .u64 0] 45)
          have HB1_ := blk_alloc HB1.out (.cells #[.slice none 0 0, .slice none 0 0, .int .u64 0, .int .u64 0, .int .u64 0, .int .u64 0] 45)
          have HB2_ := blk_alloc HB2.out (.cells #[.slice none 0 0, .slice none 0 0, .int .u64 0, .int .u64 0, .int .u64 0, .int .u64 0] 45)
          have HM0_ := blk_alloc HM0.out (.cells #[.slice none 0 0, .slice none 0 0, .int .u64 0, .int .u64 0, .int .u64 0, .int .u64 0] 45)
          have P0_ := P0.out.alloc (.cells #[.slice none 0 0, .slice none 0 0, .int .u64 0, .int .u64 0, .int .u64 0, .int .u64 0] 45)
          have P1_ := P1.out.alloc (.cells #[.slice none 0 0, .slice none 0 0, .int .u64 0, .int .u64 0, .int .u64 0, .int .u64 0] 45)
          have P2_ := P2.out.alloc (.cells #[.slice none 0 0, .slice none 0 0, .int .u64 0, .int .u64 0, .int .u64 0, .int .u64 0] 45)
          have M0_ := M0.out.alloc (.cells #[.slice none 0 0, .slice none 0 0, .int .u64 0, .int .u64 0, .int .u64 0, .int .u64 0] 45)
          have Cx_ := Cx.out.alloc (.cells #[.slice none 0 0, .slice none 0 0, .int .u64 0, .int .u64 0, .int .u64 0, .int .u64 0] 45)
          have Cy_ := Cy.out.alloc (.cells #[.slice none 0 0, .slice none 0 0, .int .u64 0, .int .u64 0, .int .u64 0, .int .u64 0] 45)
          have HL_ := below_alloc HL.out (.cells #[.slice none 0 0, .slice none 0 0, .int .u64 0, .int .u64 0, .int .u64 0, .int .u64 0] 45)
          have HX_ := below_alloc HX.out (.cells #[.slice none 0 0, .slice none 0 0, .int .u64 0, .int .u64 0, .int .u64 0, .int .u64 0] 45)
          have HR_ := blk_new w3_ (.cells #[.slice none 0 0, .slice none 0 0, .int .u64 0, .int .u64 0, .int .u64 0, .int .u64 0] 45)
          have HROB_ := Rob.of_alloc MM.out (.cells #[.slice none 0 0, .slice none 0 0, .int .u64 0, .int .u64 0, .int .u64 0, .int .u64 0] 45)
          have HGE := Lib.hid HX.out.size
          rw [HN.out] at HB0_ HB1_ HB2_ HM0_ P0_ P1_ P2_ M0_ Cx_ Cy_ HL_ HX_ HR_ HROB_
          clear HB0
          have HB0 := Lib.hid HB0_; clear HB0_
          clear HB1
          have HB1 := Lib.hid HB1_; clear HB1_
          clear HB2
          have HB2 := Lib.hid HB2_; clear HB2_
          clear HM0
          have HM0 := Lib.hid HM0_; clear HM0_
          clear P0
          have P0 := Lib.hid P0_; clear P0_
          clear P1
          have P1 := Lib.hid P1_; clear P1_
          clear P2
          have P2 := Lib.hid P2_; clear P2_
          clear M0
          have M0 := Lib.hid M0_; clear M0_
          clear Cx
          have Cx := Lib.hid Cx_; clear Cx_
          clear Cy
          have Cy := Lib.hid Cy_; clear Cy_
          clear HL
          have HL := Lib.hid HL_; clear HL_
          clear HX
          have HX := Lib.hid HX_; clear HX_
          have HR := Lib.hid HR_; clear HR_
          have HROB := Lib.hid HROB_; clear HROB_
          clear HN MM
          refine norm_ ?_ (hcont ((.agg #[.slice Ax u.h.length cx, .slice Bx u.k.length dx, .int .u64 u.g.n, .int .u64 u.g.nans, .int .u64 u.g.lo, .int .u64 u.g.hi]), (.agg #[.slice Ay v.h.length cy, .slice By v.k.length dy, .int .u64 v.g.n, .int .u64 v.g.nans, .int .u64 v.g.lo, .int .u64 v.g.hi]), w3_.heap.size, Am, cm, Bm, dm) _ (Met.mk HX.out HGE.out HR.out HROB.out))
          simp only [putAll, Act.put, List.setIfInBounds_toArray, List.set_cons_zero, List.set_cons_succ]
        · skip
          refine value_ (v := .pointer (some ⟨w2_.heap.size, 0, none⟩)) (w1 := w2_.alloc (.cells #[.slice none 0 0, .slice none 0 0, .int .u64 0, .int .u64 0, .int .u64 0, .int .u64 0] 45)) (by rfl) rfl ?_ ?_
          · first | (go_simp; done) | (go_simp; rfl)
          refine hK.out _ _ ⟨blk_cell (blk_alloc HB1.out _) 0, blk_cell (blk_alloc HB1.out _) 1, blk_cell (blk_alloc HB1.out _) 2, blk_cell (blk_alloc HB1.out _) 3, blk_cell (blk_alloc HB1.out _) 4, blk_cell (blk_alloc HB1.out _) 5, blk_cell (blk_alloc HB0.out _) 0, blk_cell (blk_alloc HB0.out _) 1, blk_cell (blk_alloc HB0.out _) 2, blk_cell (blk_alloc HB0.out _) 3, blk_cell (blk_alloc HB0.out _) 4, blk_cell (blk_alloc HB0.out _) 5⟩ (fun _ => ?_)
          clear hK K
          refine norm_ (a' := ?_) ?_ ?_
          rotate_left
          · show Act.put _ (some 9) _ = _
            simp only [Act.put, List.setIfInBounds_toArray, List.set_cons_zero, List.set_cons_succ, i64_w, i32_w]
            rfl
          refine name_last (fun w5_ HN => ?_)
          have HB0_ := blk_alloc HB0.out (.cells #[.slice none 0 0, .slice none 0 0, .int .u64 0, .int .u64 0, .int .u64 0, .int .u64 0] 45)
          have HB1_ := blk_alloc HB1.out (.cells #[.slice none 0 0, .slice none 0 0, .int .u64 0, .int .u64 0, .int .u64 0, .int .u64 0] 45)
          have HB2_ := blk_alloc HB2.out (.cells #[.slice none 0 0, .slice none 0 0, .int .u64 0, .int .u64 0, .int .u64 0, .int .u64 0] 45)
          have HM0_ := blk_alloc HM0.out (.cells #[.slice none 0 0, .slice none 0 0, .int .u64 0, .int .u64 0, .int .u64 0, .int .u64 0] 45)
          have P0_ := P0.out.alloc (.cells #[.slice none 0 0, .slice none 0 0, .int .u64 0, .int .u64 0, .int .u64 0, .int .u64 0] 45)
          have P1_ := P1.out.alloc (.cells #[.slice none 0 0, .slice none 0 0, .int .u64 0, .int .u64 0, .int .u64 0, .int .u64 0] 45)
          have P2_ := P2.out.alloc (.cells #[.slice none 0 0, .slice none 0 0, .int .u64 0, .int .u64 0, .int .u64 0, .int .u64 0] 45)
          have M0_ := M0.out.alloc (.cells #[.slice none 0 0, .slice none 0 0, .int .u64 0, .int .u64 0, .int .u64 0, .int .u64 0] 45)
          have Cx_ := Cx.out.alloc (.cells #[.slice none 0 0, .slice none 0 0, .int .u64 0, .int .u64 0, .int .u64 0, .int .u64 0] 45)
          have Cy_ := Cy.out.alloc (.cells #[.slice none 0 0, .slice none 0 0, .int .u64 0, .int .u64 0, .int .u64 0, .int .u64 0] 45)
          have HL_ := below_alloc HL.out (.cells #[.slice none 0 0, .slice none 0 0, .int .u64 0, .int .u64 0, .int .u64 0, .int .u64 0] 45)
          have HX_ := below_alloc HX.out (.cells #[.slice none 0 0, .slice none 0 0, .int .u64 0, .int .u64 0, .int .u64 0, .int .u64 0] 45)
          have HR_ := blk_new w2_ (.cells #[.slice none 0 0, .slice none 0 0, .int .u64 0, .int .u64 0, .int .u64 0, .int .u64 0] 45)
          have HGE := Lib.hid HX.out.size
          rw [HN.out] at HB0_ HB1_ HB2_ HM0_ P0_ P1_ P2_ M0_ Cx_ Cy_ HL_ HX_ HR_
          clear HB0
          have HB0 := Lib.hid HB0_; clear HB0_
          clear HB1
          have HB1 := Lib.hid HB1_; clear HB1_
          clear HB2
          have HB2 := Lib.hid HB2_; clear HB2_
          clear HM0
          have HM0 := Lib.hid HM0_; clear HM0_
          clear P0
          have P0 := Lib.hid P0_; clear P0_
          clear P1
          have P1 := Lib.hid P1_; clear P1_
          clear P2
          have P2 := Lib.hid P2_; clear P2_
          clear M0
          have M0 := Lib.hid M0_; clear M0_
          clear Cx
          have Cx := Lib.hid Cx_; clear Cx_
          clear Cy
          have Cy := Lib.hid Cy_; clear Cy_
          clear HL
          have HL := Lib.hid HL_; clear HL_
          clear HX
          have HX := Lib.hid HX_; clear HX_
          have HR := Lib.hid HR_; clear HR_
          clear HN
          refine one_ (i := 4) (N := some 44) #[true, true, true, true, true, false, false, false, true, false, false] rfl rfl (by kernel_rfl) (by decide) (fun K hK => ?_)
          refine goes_ Try.func45 (by kernel_rfl) rfl #[.agg #[.slice Ax u.h.length cx, .slice Bx u.k.length dx, .int .u64 u.g.n, .int .u64 u.g.nans, .int .u64 u.g.lo, .int .u64 u.g.hi], .agg #[.slice Ay v.h.length cy, .slice By v.k.length dy, .int .u64 v.g.n, .int .u64 v.g.nans, .int .u64 v.g.lo, .int .u64 v.g.hi]] (by rfl) rfl rfl (by (try simp only [List.map_toArray, List.map_cons, List.map_nil]); first | done | rfl) ?_
          (with_reducible refine (merge_okR Cx.out Cy.out AL2.out EE2.out).mono ?_)
          rintro e w6_ ⟨Am, cm, Bm, dm, rfl, k_, hR_, hS_, hb⟩
          refine ⟨_, rfl, ?_⟩
          have HROB := Lib.hid (Rob.of_R k_ hR_ hS_ (blk_lt HR.out))
          have HB0_ := (hb.block _ (blk_lt HB0.out)).trans HB0.out; clear HB0; have HB0 := Lib.hid HB0_; clear HB0_
          have HB1_ := (hb.block _ (blk_lt HB1.out)).trans HB1.out; clear HB1; have HB1 := Lib.hid HB1_; clear HB1_
          have HB2_ := (hb.block _ (blk_lt HB2.out)).trans HB2.out; clear HB2; have HB2 := Lib.hid HB2_; clear HB2_
          have HM0_ := (hb.block _ (blk_lt HM0.out)).trans HM0.out; clear HM0; have HM0 := Lib.hid HM0_; clear HM0_
          have P0_ := P0.out.below hb (Nat.le_refl _); clear P0; have P0 := Lib.hid P0_; clear P0_
          have P1_ := P1.out.below hb (Nat.le_refl _); clear P1; have P1 := Lib.hid P1_; clear P1_
          have P2_ := P2.out.below hb (Nat.le_refl _); clear P2; have P2 := Lib.hid P2_; clear P2_
          have M0_ := M0.out.below hb (Nat.le_refl _); clear M0; have M0 := Lib.hid M0_; clear M0_
          have Cx_ := Cx.out.below hb (Nat.le_refl _); clear Cx; have Cx := Lib.hid Cx_; clear Cx_
          have Cy_ := Cy.out.below hb (Nat.le_refl _); clear Cy; have Cy := Lib.hid Cy_; clear Cy_
          have HL_ := HL.out.trans (hb.mono HL.out.size); clear HL; have HL := Lib.hid HL_; clear HL_
          have HX_ := HX.out.trans (hb.mono HX.out.size); clear HX; have HX := Lib.hid HX_; clear HX_
          have HR_ := (hb.block _ (blk_lt HR.out)).trans HR.out; clear HR; have HR := Lib.hid HR_; clear HR_
          clear k_ hR_ hS_ hb
          refine hK.out _ _ ⟨blk_cell (HB1.out) 0, blk_cell (HB1.out) 1, blk_cell (HB1.out) 2, blk_cell (HB1.out) 3, blk_cell (HB1.out) 4, blk_cell (HB1.out) 5, blk_cell (HB0.out) 0, blk_cell (HB0.out) 1, blk_cell (HB0.out) 2, blk_cell (HB0.out) 3, blk_cell (HB0.out) 4, blk_cell (HB0.out) 5⟩ (fun _ => ?_)
          clear hK K
          refine norm_ (a' := ?_) ?_ ?_
          rotate_left
          · show Act.put _ (some 44) _ = _
            simp only [Act.put, List.setIfInBounds_toArray, List.set_cons_zero, List.set_cons_succ, i64_w, i32_w]
            rfl
          refine pure_ (i := 5) (N := some 39) (v := ?_) (a' := ?_) #[true, true, true, true, true, true, false, false, true, false, false] rfl rfl (by kernel_rfl) (fun _ _ _ h => h) (Or.inl ⟨by rfl, ?_⟩) ?_ ?_
          rotate_left
          · intro w'
            go_simp
            with_reducible rfl
          rotate_left
          · simp only [Act.put, List.setIfInBounds_toArray, List.set_cons_zero, List.set_cons_succ, i64_w, i32_w]
            rfl
          refine pure_ (i := 6) (N := some 45) (v := ?_) (a' := ?_) #[true, true, true, true, true, true, true, false, true, false, false] rfl rfl (by kernel_rfl) (fun _ _ _ h => h) (Or.inl ⟨by rfl, ?_⟩) ?_ ?_
          rotate_left
          · intro w'
            go_simp
            with_reducible rfl
          rotate_left
          · simp only [Act.put, List.setIfInBounds_toArray, List.set_cons_zero, List.set_cons_succ, i64_w, i32_w]
            rfl
          refine pure_ (i := 7) (N := some 46) (v := ?_) (a' := ?_) #[true, true, true, true, true, true, true, true, true, false, false] rfl rfl (by kernel_rfl) (fun _ _ _ h => h) (Or.inl ⟨by rfl, ?_⟩) ?_ ?_
          rotate_left
          · intro w'
            go_simp
            with_reducible rfl
          rotate_left
          · simp only [Act.put, List.setIfInBounds_toArray, List.set_cons_zero, List.set_cons_succ, i64_w, i32_w]
            rfl
          refine norm_ ?_ (hcont ((.agg #[.slice Ax u.h.length cx, .slice Bx u.k.length dx, .int .u64 u.g.n, .int .u64 u.g.nans, .int .u64 u.g.lo, .int .u64 u.g.hi]), (.agg #[.slice Ay v.h.length cy, .slice By v.k.length dy, .int .u64 v.g.n, .int .u64 v.g.nans, .int .u64 v.g.lo, .int .u64 v.g.hi]), w2_.heap.size, Am, cm, Bm, dm) _ (Met.mk HX.out HGE.out HR.out HROB.out))
          simp only [putAll, Act.put, List.setIfInBounds_toArray, List.set_cons_zero, List.set_cons_succ]
      · skip
        refine value_ (v := .pointer (some ⟨w1_.heap.size, 0, none⟩)) (w1 := w1_.alloc (.cells #[.slice none 0 0, .slice none 0 0, .int .u64 0, .int .u64 0, .int .u64 0, .int .u64 0] 45)) (by rfl) rfl ?_ ?_
        · first | (go_simp; done) | (go_simp; rfl)
        refine hK.out _ _ ⟨blk_cell (blk_alloc HB1.out _) 0, blk_cell (blk_alloc HB1.out _) 1, blk_cell (blk_alloc HB1.out _) 2, blk_cell (blk_alloc HB1.out _) 3, blk_cell (blk_alloc HB1.out _) 4, blk_cell (blk_alloc HB1.out _) 5, blk_cell (blk_alloc HB0.out _) 0, blk_cell (blk_alloc HB0.out _) 1, blk_cell (blk_alloc HB0.out _) 2, blk_cell (blk_alloc HB0.out _) 3, blk_cell (blk_alloc HB0.out _) 4, blk_cell (blk_alloc HB0.out _) 5⟩ (fun _ => ?_)
        clear hK K
        refine norm_ (a' := ?_) ?_ ?_
        rotate_left
        · show Act.put _ (some 9) _ = _
          simp only [Act.put, List.setIfInBounds_toArray, List.set_cons_zero, List.set_cons_succ, i64_w, i32_w]
          rfl
        refine name_last (fun w7_ HN => ?_)
        have HB0_ := blk_alloc HB0.out (.cells #[.slice none 0 0, .slice none 0 0, .int .u64 0, .int .u64 0, .int .u64 0, .int .u64 0] 45)
        have HB1_ := blk_alloc HB1.out (.cells #[.slice none 0 0, .slice none 0 0, .int .u64 0, .int .u64 0, .int .u64 0, .int .u64 0] 45)
        have HB2_ := blk_alloc HB2.out (.cells #[.slice none 0 0, .slice none 0 0, .int .u64 0, .int .u64 0, .int .u64 0, .int .u64 0] 45)
        have HM0_ := blk_alloc HM0.out (.cells #[.slice none 0 0, .slice none 0 0, .int .u64 0, .int .u64 0, .int .u64 0, .int .u64 0] 45)
        have P0_ := P0.out.alloc (.cells #[.slice none 0 0, .slice none 0 0, .int .u64 0, .int .u64 0, .int .u64 0, .int .u64 0] 45)
        have P1_ := P1.out.alloc (.cells #[.slice none 0 0, .slice none 0 0, .int .u64 0, .int .u64 0, .int .u64 0, .int .u64 0] 45)
        have P2_ := P2.out.alloc (.cells #[.slice none 0 0, .slice none 0 0, .int .u64 0, .int .u64 0, .int .u64 0, .int .u64 0] 45)
        have M0_ := M0.out.alloc (.cells #[.slice none 0 0, .slice none 0 0, .int .u64 0, .int .u64 0, .int .u64 0, .int .u64 0] 45)
        have Cx_ := Cx.out.alloc (.cells #[.slice none 0 0, .slice none 0 0, .int .u64 0, .int .u64 0, .int .u64 0, .int .u64 0] 45)
        have HL_ := below_alloc HL.out (.cells #[.slice none 0 0, .slice none 0 0, .int .u64 0, .int .u64 0, .int .u64 0, .int .u64 0] 45)
        have HX_ := below_alloc HX.out (.cells #[.slice none 0 0, .slice none 0 0, .int .u64 0, .int .u64 0, .int .u64 0, .int .u64 0] 45)
        have HR_ := blk_new w1_ (.cells #[.slice none 0 0, .slice none 0 0, .int .u64 0, .int .u64 0, .int .u64 0, .int .u64 0] 45)
        have HGE := Lib.hid HX.out.size
        rw [HN.out] at HB0_ HB1_ HB2_ HM0_ P0_ P1_ P2_ M0_ Cx_ HL_ HX_ HR_
        clear HB0
        have HB0 := Lib.hid HB0_; clear HB0_
        clear HB1
        have HB1 := Lib.hid HB1_; clear HB1_
        clear HB2
        have HB2 := Lib.hid HB2_; clear HB2_
        clear HM0
        have HM0 := Lib.hid HM0_; clear HM0_
        clear P0
        have P0 := Lib.hid P0_; clear P0_
        clear P1
        have P1 := Lib.hid P1_; clear P1_
        clear P2
        have P2 := Lib.hid P2_; clear P2_
        clear M0
        have M0 := Lib.hid M0_; clear M0_
        clear Cx
        have Cx := Lib.hid Cx_; clear Cx_
        clear HL
        have HL := Lib.hid HL_; clear HL_
        clear HX
        have HX := Lib.hid HX_; clear HX_
        have HR := Lib.hid HR_; clear HR_
        clear HN
        refine one_ (i := 3) (N := some 43) #[true, true, true, true, false, false, false, false, true, false, false] rfl rfl (by kernel_rfl) (by decide) (fun K hK => ?_)
        refine goes_ Try.func39 (by kernel_rfl) rfl #[.agg #[.slice Av v.h.length cv, .slice Bv v.k.length dv, .int .u64 v.g.n, .int .u64 v.g.nans, .int .u64 v.g.lo, .int .u64 v.g.hi]] (by rfl) rfl rfl (by (try simp only [List.map_toArray, List.map_cons, List.map_nil]); first | done | rfl) ?_
        (with_reducible refine (copyV P0.out).mono ?_)
        rintro e w8_ ⟨Ay, cy, By, dy, rfl, k_, hb⟩
        refine ⟨_, rfl, ?_⟩
        have HB0_ := (hb.block _ (blk_lt HB0.out)).trans HB0.out; clear HB0; have HB0 := Lib.hid HB0_; clear HB0_
        have HB1_ := (hb.block _ (blk_lt HB1.out)).trans HB1.out; clear HB1; have HB1 := Lib.hid HB1_; clear HB1_
        have HB2_ := (hb.block _ (blk_lt HB2.out)).trans HB2.out; clear HB2; have HB2 := Lib.hid HB2_; clear HB2_
        have HM0_ := (hb.block _ (blk_lt HM0.out)).trans HM0.out; clear HM0; have HM0 := Lib.hid HM0_; clear HM0_
        have P0_ := P0.out.below hb (Nat.le_refl _); clear P0; have P0 := Lib.hid P0_; clear P0_
        have P1_ := P1.out.below hb (Nat.le_refl _); clear P1; have P1 := Lib.hid P1_; clear P1_
        have P2_ := P2.out.below hb (Nat.le_refl _); clear P2; have P2 := Lib.hid P2_; clear P2_
        have M0_ := M0.out.below hb (Nat.le_refl _); clear M0; have M0 := Lib.hid M0_; clear M0_
        have Cx_ := Cx.out.below hb (Nat.le_refl _); clear Cx; have Cx := Lib.hid Cx_; clear Cx_
        have HL_ := HL.out.trans (hb.mono HL.out.size); clear HL; have HL := Lib.hid HL_; clear HL_
        have HX_ := HX.out.trans (hb.mono HX.out.size); clear HX; have HX := Lib.hid HX_; clear HX_
        have HR_ := (hb.block _ (blk_lt HR.out)).trans HR.out; clear HR; have HR := Lib.hid HR_; clear HR_
        have Cy := Lib.hid k_; clear k_ hb
        refine hK.out _ _ ⟨blk_cell (HB1.out) 0, blk_cell (HB1.out) 1, blk_cell (HB1.out) 2, blk_cell (HB1.out) 3, blk_cell (HB1.out) 4, blk_cell (HB1.out) 5, blk_cell (HB0.out) 0, blk_cell (HB0.out) 1, blk_cell (HB0.out) 2, blk_cell (HB0.out) 3, blk_cell (HB0.out) 4, blk_cell (HB0.out) 5⟩ (fun _ => ?_)
        clear hK K
        refine norm_ (a' := ?_) ?_ ?_
        rotate_left
        · show Act.put _ (some 43) _ = _
          simp only [Act.put, List.setIfInBounds_toArray, List.set_cons_zero, List.set_cons_succ, i64_w, i32_w]
          rfl
        refine one_ (i := 4) (N := some 44) #[true, true, true, true, true, false, false, false, true, false, false] rfl rfl (by kernel_rfl) (by decide) (fun K hK => ?_)
        refine goes_ Try.func45 (by kernel_rfl) rfl #[.agg #[.slice Ax u.h.length cx, .slice Bx u.k.length dx, .int .u64 u.g.n, .int .u64 u.g.nans, .int .u64 u.g.lo, .int .u64 u.g.hi], .agg #[.slice Ay v.h.length cy, .slice By v.k.length dy, .int .u64 v.g.n, .int .u64 v.g.nans, .int .u64 v.g.lo, .int .u64 v.g.hi]] (by rfl) rfl rfl (by (try simp only [List.map_toArray, List.map_cons, List.map_nil]); first | done | rfl) ?_
        (with_reducible refine (merge_okR Cx.out Cy.out AL2.out EE2.out).mono ?_)
        rintro e w9_ ⟨Am, cm, Bm, dm, rfl, k_, hR_, hS_, hb⟩
        refine ⟨_, rfl, ?_⟩
        have HROB := Lib.hid (Rob.of_R k_ hR_ hS_ (blk_lt HR.out))
        have HB0_ := (hb.block _ (blk_lt HB0.out)).trans HB0.out; clear HB0; have HB0 := Lib.hid HB0_; clear HB0_
        have HB1_ := (hb.block _ (blk_lt HB1.out)).trans HB1.out; clear HB1; have HB1 := Lib.hid HB1_; clear HB1_
        have HB2_ := (hb.block _ (blk_lt HB2.out)).trans HB2.out; clear HB2; have HB2 := Lib.hid HB2_; clear HB2_
        have HM0_ := (hb.block _ (blk_lt HM0.out)).trans HM0.out; clear HM0; have HM0 := Lib.hid HM0_; clear HM0_
        have P0_ := P0.out.below hb (Nat.le_refl _); clear P0; have P0 := Lib.hid P0_; clear P0_
        have P1_ := P1.out.below hb (Nat.le_refl _); clear P1; have P1 := Lib.hid P1_; clear P1_
        have P2_ := P2.out.below hb (Nat.le_refl _); clear P2; have P2 := Lib.hid P2_; clear P2_
        have M0_ := M0.out.below hb (Nat.le_refl _); clear M0; have M0 := Lib.hid M0_; clear M0_
        have Cx_ := Cx.out.below hb (Nat.le_refl _); clear Cx; have Cx := Lib.hid Cx_; clear Cx_
        have Cy_ := Cy.out.below hb (Nat.le_refl _); clear Cy; have Cy := Lib.hid Cy_; clear Cy_
        have HL_ := HL.out.trans (hb.mono HL.out.size); clear HL; have HL := Lib.hid HL_; clear HL_
        have HX_ := HX.out.trans (hb.mono HX.out.size); clear HX; have HX := Lib.hid HX_; clear HX_
        have HR_ := (hb.block _ (blk_lt HR.out)).trans HR.out; clear HR; have HR := Lib.hid HR_; clear HR_
        clear k_ hR_ hS_ hb
        refine hK.out _ _ ⟨blk_cell (HB1.out) 0, blk_cell (HB1.out) 1, blk_cell (HB1.out) 2, blk_cell (HB1.out) 3, blk_cell (HB1.out) 4, blk_cell (HB1.out) 5, blk_cell (HB0.out) 0, blk_cell (HB0.out) 1, blk_cell (HB0.out) 2, blk_cell (HB0.out) 3, blk_cell (HB0.out) 4, blk_cell (HB0.out) 5⟩ (fun _ => ?_)
        clear hK K
        refine norm_ (a' := ?_) ?_ ?_
        rotate_left
        · show Act.put _ (some 44) _ = _
          simp only [Act.put, List.setIfInBounds_toArray, List.set_cons_zero, List.set_cons_succ, i64_w, i32_w]
          rfl
        refine pure_ (i := 5) (N := some 39) (v := ?_) (a' := ?_) #[true, true, true, true, true, true, false, false, true, false, false] rfl rfl (by kernel_rfl) (fun _ _ _ h => h) (Or.inl ⟨by rfl, ?_⟩) ?_ ?_
        rotate_left
        · intro w'
          go_simp
          with_reducible rfl
        rotate_left
        · simp only [Act.put, List.setIfInBounds_toArray, List.set_cons_zero, List.set_cons_succ, i64_w, i32_w]
          rfl
        refine pure_ (i := 6) (N := some 45) (v := ?_) (a' := ?_) #[true, true, true, true, true, true, true, false, true, false, false] rfl rfl (by kernel_rfl) (fun _ _ _ h => h) (Or.inl ⟨by rfl, ?_⟩) ?_ ?_
        rotate_left
        · intro w'
          go_simp
          with_reducible rfl
        rotate_left
        · simp only [Act.put, List.setIfInBounds_toArray, List.set_cons_zero, List.set_cons_succ, i64_w, i32_w]
          rfl
        refine pure_ (i := 7) (N := some 46) (v := ?_) (a' := ?_) #[true, true, true, true, true, true, true, true, true, false, false] rfl rfl (by kernel_rfl) (fun _ _ _ h => h) (Or.inl ⟨by rfl, ?_⟩) ?_ ?_
        rotate_left
        · intro w'
          go_simp
          with_reducible rfl
        rotate_left
        · simp only [Act.put, List.setIfInBounds_toArray, List.set_cons_zero, List.set_cons_succ, i64_w, i32_w]
          rfl
        refine norm_ ?_ (hcont ((.agg #[.slice Ax u.h.length cx, .slice Bx u.k.length dx, .int .u64 u.g.n, .int .u64 u.g.nans, .int .u64 u.g.lo, .int .u64 u.g.hi]), (.agg #[.slice Ay v.h.length cy, .slice By v.k.length dy, .int .u64 v.g.n, .int .u64 v.g.nans, .int .u64 v.g.lo, .int .u64 v.g.hi]), w1_.heap.size, Am, cm, Bm, dm) _ (Met.mk HX.out HGE.out HR.out HROB.out))
        simp only [putAll, Act.put, List.setIfInBounds_toArray, List.set_cons_zero, List.set_cons_succ]
    · skip
      refine value_ (v := .pointer (some ⟨Y1.heap.size, 0, none⟩)) (w1 := Y1.alloc (.cells #[.slice none 0 0, .slice none 0 0, .int .u64 0, .int .u64 0, .int .u64 0, .int .u64 0] 45)) (by rfl) rfl ?_ ?_
      · first | (go_simp; done) | (go_simp; rfl)
      refine hK.out _ _ ⟨blk_cell (blk_alloc HB1.out _) 0, blk_cell (blk_alloc HB1.out _) 1, blk_cell (blk_alloc HB1.out _) 2, blk_cell (blk_alloc HB1.out _) 3, blk_cell (blk_alloc HB1.out _) 4, blk_cell (blk_alloc HB1.out _) 5, blk_cell (blk_alloc HB0.out _) 0, blk_cell (blk_alloc HB0.out _) 1, blk_cell (blk_alloc HB0.out _) 2, blk_cell (blk_alloc HB0.out _) 3, blk_cell (blk_alloc HB0.out _) 4, blk_cell (blk_alloc HB0.out _) 5⟩ (fun _ => ?_)
      clear hK K
      refine norm_ (a' := ?_) ?_ ?_
      rotate_left
      · show Act.put _ (some 9) _ = _
        simp only [Act.put, List.setIfInBounds_toArray, List.set_cons_zero, List.set_cons_succ, i64_w, i32_w]
        rfl
      refine name_last (fun w10_ HN => ?_)
      have HB0_ := blk_alloc HB0.out (.cells #[.slice none 0 0, .slice none 0 0, .int .u64 0, .int .u64 0, .int .u64 0, .int .u64 0] 45)
      have HB1_ := blk_alloc HB1.out (.cells #[.slice none 0 0, .slice none 0 0, .int .u64 0, .int .u64 0, .int .u64 0, .int .u64 0] 45)
      have HB2_ := blk_alloc HB2.out (.cells #[.slice none 0 0, .slice none 0 0, .int .u64 0, .int .u64 0, .int .u64 0, .int .u64 0] 45)
      have HM0_ := blk_alloc HM0.out (.cells #[.slice none 0 0, .slice none 0 0, .int .u64 0, .int .u64 0, .int .u64 0, .int .u64 0] 45)
      have P0_ := P0.out.alloc (.cells #[.slice none 0 0, .slice none 0 0, .int .u64 0, .int .u64 0, .int .u64 0, .int .u64 0] 45)
      have P1_ := P1.out.alloc (.cells #[.slice none 0 0, .slice none 0 0, .int .u64 0, .int .u64 0, .int .u64 0, .int .u64 0] 45)
      have P2_ := P2.out.alloc (.cells #[.slice none 0 0, .slice none 0 0, .int .u64 0, .int .u64 0, .int .u64 0, .int .u64 0] 45)
      have M0_ := M0.out.alloc (.cells #[.slice none 0 0, .slice none 0 0, .int .u64 0, .int .u64 0, .int .u64 0, .int .u64 0] 45)
      have HL_ := below_alloc HL.out (.cells #[.slice none 0 0, .slice none 0 0, .int .u64 0, .int .u64 0, .int .u64 0, .int .u64 0] 45)
      have HX_ := below_alloc HX.out (.cells #[.slice none 0 0, .slice none 0 0, .int .u64 0, .int .u64 0, .int .u64 0, .int .u64 0] 45)
      have HR_ := blk_new Y1 (.cells #[.slice none 0 0, .slice none 0 0, .int .u64 0, .int .u64 0, .int .u64 0, .int .u64 0] 45)
      have HGE := Lib.hid HX.out.size
      rw [HN.out] at HB0_ HB1_ HB2_ HM0_ P0_ P1_ P2_ M0_ HL_ HX_ HR_
      clear HB0
      have HB0 := Lib.hid HB0_; clear HB0_
      clear HB1
      have HB1 := Lib.hid HB1_; clear HB1_
      clear HB2
      have HB2 := Lib.hid HB2_; clear HB2_
      clear HM0
      have HM0 := Lib.hid HM0_; clear HM0_
      clear P0
      have P0 := Lib.hid P0_; clear P0_
      clear P1
      have P1 := Lib.hid P1_; clear P1_
      clear P2
      have P2 := Lib.hid P2_; clear P2_
      clear M0
      have M0 := Lib.hid M0_; clear M0_
      clear HL
      have HL := Lib.hid HL_; clear HL_
      clear HX
      have HX := Lib.hid HX_; clear HX_
      have HR := Lib.hid HR_; clear HR_
      clear HN
      refine one_ (i := 1) (N := some 41) #[true, true, true, false, false, false, false, false, true, false, false] rfl rfl (by kernel_rfl) (by decide) (fun K hK => ?_)
      refine goes_ Try.func39 (by kernel_rfl) rfl #[.agg #[.slice Au u.h.length cu, .slice Bu u.k.length du, .int .u64 u.g.n, .int .u64 u.g.nans, .int .u64 u.g.lo, .int .u64 u.g.hi]] (by rfl) rfl rfl (by (try simp only [List.map_toArray, List.map_cons, List.map_nil]); first | done | rfl) ?_
      (with_reducible refine (copyV P1.out).mono ?_)
      rintro e w11_ ⟨Ax, cx, Bx, dx, rfl, k_, hb⟩
      refine ⟨_, rfl, ?_⟩
      have HB0_ := (hb.block _ (blk_lt HB0.out)).trans HB0.out; clear HB0; have HB0 := Lib.hid HB0_; clear HB0_
      have HB1_ := (hb.block _ (blk_lt HB1.out)).trans HB1.out; clear HB1; have HB1 := Lib.hid HB1_; clear HB1_
      have HB2_ := (hb.block _ (blk_lt HB2.out)).trans HB2.out; clear HB2; have HB2 := Lib.hid HB2_; clear HB2_
      have HM0_ := (hb.block _ (blk_lt HM0.out)).trans HM0.out; clear HM0; have HM0 := Lib.hid HM0_; clear HM0_
      have P0_ := P0.out.below hb (Nat.le_refl _); clear P0; have P0 := Lib.hid P0_; clear P0_
      have P1_ := P1.out.below hb (Nat.le_refl _); clear P1; have P1 := Lib.hid P1_; clear P1_
      have P2_ := P2.out.below hb (Nat.le_refl _); clear P2; have P2 := Lib.hid P2_; clear P2_
      have M0_ := M0.out.below hb (Nat.le_refl _); clear M0; have M0 := Lib.hid M0_; clear M0_
      have HL_ := HL.out.trans (hb.mono HL.out.size); clear HL; have HL := Lib.hid HL_; clear HL_
      have HX_ := HX.out.trans (hb.mono HX.out.size); clear HX; have HX := Lib.hid HX_; clear HX_
      have HR_ := (hb.block _ (blk_lt HR.out)).trans HR.out; clear HR; have HR := Lib.hid HR_; clear HR_
      have Cx := Lib.hid k_; clear k_ hb
      refine hK.out _ _ ⟨blk_cell (HB1.out) 0, blk_cell (HB1.out) 1, blk_cell (HB1.out) 2, blk_cell (HB1.out) 3, blk_cell (HB1.out) 4, blk_cell (HB1.out) 5, blk_cell (HB0.out) 0, blk_cell (HB0.out) 1, blk_cell (HB0.out) 2, blk_cell (HB0.out) 3, blk_cell (HB0.out) 4, blk_cell (HB0.out) 5⟩ (fun _ => ?_)
      clear hK K
      refine norm_ (a' := ?_) ?_ ?_
      rotate_left
      · show Act.put _ (some 41) _ = _
        simp only [Act.put, List.setIfInBounds_toArray, List.set_cons_zero, List.set_cons_succ, i64_w, i32_w]
        rfl
      refine one_ (i := 3) (N := some 43) #[true, true, true, true, false, false, false, false, true, false, false] rfl rfl (by kernel_rfl) (by decide) (fun K hK => ?_)
      refine goes_ Try.func39 (by kernel_rfl) rfl #[.agg #[.slice Av v.h.length cv, .slice Bv v.k.length dv, .int .u64 v.g.n, .int .u64 v.g.nans, .int .u64 v.g.lo, .int .u64 v.g.hi]] (by rfl) rfl rfl (by (try simp only [List.map_toArray, List.map_cons, List.map_nil]); first | done | rfl) ?_
      (with_reducible refine (copyV P0.out).mono ?_)
      rintro e w12_ ⟨Ay, cy, By, dy, rfl, k_, hb⟩
      refine ⟨_, rfl, ?_⟩
      have HB0_ := (hb.block _ (blk_lt HB0.out)).trans HB0.out; clear HB0; have HB0 := Lib.hid HB0_; clear HB0_
      have HB1_ := (hb.block _ (blk_lt HB1.out)).trans HB1.out; clear HB1; have HB1 := Lib.hid HB1_; clear HB1_
      have HB2_ := (hb.block _ (blk_lt HB2.out)).trans HB2.out; clear HB2; have HB2 := Lib.hid HB2_; clear HB2_
      have HM0_ := (hb.block _ (blk_lt HM0.out)).trans HM0.out; clear HM0; have HM0 := Lib.hid HM0_; clear HM0_
      have P0_ := P0.out.below hb (Nat.le_refl _); clear P0; have P0 := Lib.hid P0_; clear P0_
      have P1_ := P1.out.below hb (Nat.le_refl _); clear P1; have P1 := Lib.hid P1_; clear P1_
      have P2_ := P2.out.below hb (Nat.le_refl _); clear P2; have P2 := Lib.hid P2_; clear P2_
      have M0_ := M0.out.below hb (Nat.le_refl _); clear M0; have M0 := Lib.hid M0_; clear M0_
      have Cx_ := Cx.out.below hb (Nat.le_refl _); clear Cx; have Cx := Lib.hid Cx_; clear Cx_
      have HL_ := HL.out.trans (hb.mono HL.out.size); clear HL; have HL := Lib.hid HL_; clear HL_
      have HX_ := HX.out.trans (hb.mono HX.out.size); clear HX; have HX := Lib.hid HX_; clear HX_
      have HR_ := (hb.block _ (blk_lt HR.out)).trans HR.out; clear HR; have HR := Lib.hid HR_; clear HR_
      have Cy := Lib.hid k_; clear k_ hb
      refine hK.out _ _ ⟨blk_cell (HB1.out) 0, blk_cell (HB1.out) 1, blk_cell (HB1.out) 2, blk_cell (HB1.out) 3, blk_cell (HB1.out) 4, blk_cell (HB1.out) 5, blk_cell (HB0.out) 0, blk_cell (HB0.out) 1, blk_cell (HB0.out) 2, blk_cell (HB0.out) 3, blk_cell (HB0.out) 4, blk_cell (HB0.out) 5⟩ (fun _ => ?_)
      clear hK K
      refine norm_ (a' := ?_) ?_ ?_
      rotate_left
      · show Act.put _ (some 43) _ = _
        simp only [Act.put, List.setIfInBounds_toArray, List.set_cons_zero, List.set_cons_succ, i64_w, i32_w]
        rfl
      refine one_ (i := 4) (N := some 44) #[true, true, true, true, true, false, false, false, true, false, false] rfl rfl (by kernel_rfl) (by decide) (fun K hK => ?_)
      refine goes_ Try.func45 (by kernel_rfl) rfl #[.agg #[.slice Ax u.h.length cx, .slice Bx u.k.length dx, .int .u64 u.g.n, .int .u64 u.g.nans, .int .u64 u.g.lo, .int .u64 u.g.hi], .agg #[.slice Ay v.h.length cy, .slice By v.k.length dy, .int .u64 v.g.n, .int .u64 v.g.nans, .int .u64 v.g.lo, .int .u64 v.g.hi]] (by rfl) rfl rfl (by (try simp only [List.map_toArray, List.map_cons, List.map_nil]); first | done | rfl) ?_
      (with_reducible refine (merge_okR Cx.out Cy.out AL2.out EE2.out).mono ?_)
      rintro e w13_ ⟨Am, cm, Bm, dm, rfl, k_, hR_, hS_, hb⟩
      refine ⟨_, rfl, ?_⟩
      have HROB := Lib.hid (Rob.of_R k_ hR_ hS_ (blk_lt HR.out))
      have HB0_ := (hb.block _ (blk_lt HB0.out)).trans HB0.out; clear HB0; have HB0 := Lib.hid HB0_; clear HB0_
      have HB1_ := (hb.block _ (blk_lt HB1.out)).trans HB1.out; clear HB1; have HB1 := Lib.hid HB1_; clear HB1_
      have HB2_ := (hb.block _ (blk_lt HB2.out)).trans HB2.out; clear HB2; have HB2 := Lib.hid HB2_; clear HB2_
      have HM0_ := (hb.block _ (blk_lt HM0.out)).trans HM0.out; clear HM0; have HM0 := Lib.hid HM0_; clear HM0_
      have P0_ := P0.out.below hb (Nat.le_refl _); clear P0; have P0 := Lib.hid P0_; clear P0_
      have P1_ := P1.out.below hb (Nat.le_refl _); clear P1; have P1 := Lib.hid P1_; clear P1_
      have P2_ := P2.out.below hb (Nat.le_refl _); clear P2; have P2 := Lib.hid P2_; clear P2_
      have M0_ := M0.out.below hb (Nat.le_refl _); clear M0; have M0 := Lib.hid M0_; clear M0_
      have Cx_ := Cx.out.below hb (Nat.le_refl _); clear Cx; have Cx := Lib.hid Cx_; clear Cx_
      have Cy_ := Cy.out.below hb (Nat.le_refl _); clear Cy; have Cy := Lib.hid Cy_; clear Cy_
      have HL_ := HL.out.trans (hb.mono HL.out.size); clear HL; have HL := Lib.hid HL_; clear HL_
      have HX_ := HX.out.trans (hb.mono HX.out.size); clear HX; have HX := Lib.hid HX_; clear HX_
      have HR_ := (hb.block _ (blk_lt HR.out)).trans HR.out; clear HR; have HR := Lib.hid HR_; clear HR_
      clear k_ hR_ hS_ hb
      refine hK.out _ _ ⟨blk_cell (HB1.out) 0, blk_cell (HB1.out) 1, blk_cell (HB1.out) 2, blk_cell (HB1.out) 3, blk_cell (HB1.out) 4, blk_cell (HB1.out) 5, blk_cell (HB0.out) 0, blk_cell (HB0.out) 1, blk_cell (HB0.out) 2, blk_cell (HB0.out) 3, blk_cell (HB0.out) 4, blk_cell (HB0.out) 5⟩ (fun _ => ?_)
      clear hK K
      refine norm_ (a' := ?_) ?_ ?_
      rotate_left
      · show Act.put _ (some 44) _ = _
        simp only [Act.put, List.setIfInBounds_toArray, List.set_cons_zero, List.set_cons_succ, i64_w, i32_w]
        rfl
      refine pure_ (i := 5) (N := some 39) (v := ?_) (a' := ?_) #[true, true, true, true, true, true, false, false, true, false, false] rfl rfl (by kernel_rfl) (fun _ _ _ h => h) (Or.inl ⟨by rfl, ?_⟩) ?_ ?_
      rotate_left
      · intro w'
        go_simp
        with_reducible rfl
      rotate_left
      · simp only [Act.put, List.setIfInBounds_toArray, List.set_cons_zero, List.set_cons_succ, i64_w, i32_w]
        rfl
      refine pure_ (i := 6) (N := some 45) (v := ?_) (a' := ?_) #[true, true, true, true, true, true, true, false, true, false, false] rfl rfl (by kernel_rfl) (fun _ _ _ h => h) (Or.inl ⟨by rfl, ?_⟩) ?_ ?_
      rotate_left
      · intro w'
        go_simp
        with_reducible rfl
      rotate_left
      · simp only [Act.put, List.setIfInBounds_toArray, List.set_cons_zero, List.set_cons_succ, i64_w, i32_w]
        rfl
      refine pure_ (i := 7) (N := some 46) (v := ?_) (a' := ?_) #[true, true, true, true, true, true, true, true, true, false, false] rfl rfl (by kernel_rfl) (fun _ _ _ h => h) (Or.inl ⟨by rfl, ?_⟩) ?_ ?_
      rotate_left
      · intro w'
        go_simp
        with_reducible rfl
      rotate_left
      · simp only [Act.put, List.setIfInBounds_toArray, List.set_cons_zero, List.set_cons_succ, i64_w, i32_w]
        rfl
      refine norm_ ?_ (hcont ((.agg #[.slice Ax u.h.length cx, .slice Bx u.k.length dx, .int .u64 u.g.n, .int .u64 u.g.nans, .int .u64 u.g.lo, .int .u64 u.g.hi]), (.agg #[.slice Ay v.h.length cy, .slice By v.k.length dy, .int .u64 v.g.n, .int .u64 v.g.nans, .int .u64 v.g.lo, .int .u64 v.g.hi]), Y1.heap.size, Am, cm, Bm, dm) _ (Met.mk HX.out HGE.out HR.out HROB.out))
      simp only [putAll, Act.put, List.setIfInBounds_toArray, List.set_cons_zero, List.set_cons_succ]
  rintro ⟨v1_, v2_, rHM1, AM1, cM1, BM1, dM1⟩ w9_ hF
  obtain ⟨hbel, hge, hr, hrob⟩ := hF.out
  clear hF
  refine norm_ (a' := ?_) ?_ ?_
  rotate_left
  · simp only [putAll, Act.put, List.setIfInBounds_toArray, List.set_cons_zero, List.set_cons_succ]
    rfl
  refine last_ (i := 9) (N := none) #[true, true, true, true, true, true, true, true, true, true, false] rfl rfl (by kernel_rfl) (by decide) (fun K hK => ?_)
  have r0_ : w9_.cell? ⟨rHM1, 0, none⟩ = some (.slice none 0 0) := blk_cell hr 0; have q0_ := blk_frozen hr 0
  have r1_ : w9_.cell? ⟨rHM1, 1, none⟩ = some (.slice none 0 0) := blk_cell hr 1; have q1_ := blk_frozen hr 1
  have r2_ : w9_.cell? ⟨rHM1, 2, none⟩ = some (.int .u64 0) := blk_cell hr 2; have q2_ := blk_frozen hr 2
  have r3_ : w9_.cell? ⟨rHM1, 3, none⟩ = some (.int .u64 0) := blk_cell hr 3; have q3_ := blk_frozen hr 3
  have r4_ : w9_.cell? ⟨rHM1, 4, none⟩ = some (.int .u64 0) := blk_cell hr 4; have q4_ := blk_frozen hr 4
  have r5_ : w9_.cell? ⟨rHM1, 5, none⟩ = some (.int .u64 0) := blk_cell hr 5; have q5_ := blk_frozen hr 5
  have HRR := Lib.hid (And.intro hbel (And.intro hge (And.intro hr hrob))); clear hbel hge hr hrob
  refine skip_ (w1 := ?_) (by rfl) rfl ?_ ?_
  rotate_left
  · go_simp
    rfl
  refine hK.out _ _ ?_
  clear hK K r0_ q0_ r1_ q1_ r2_ q2_ r3_ q3_ r4_ q4_ r5_ q5_
  refine pure_ (i := 10) (N := some 10) (v := ?_) (a' := ?_) #[true, true, true, true, true, true, true, true, true, true, true] rfl rfl (by kernel_rfl) (fun _ _ _ h => h) (Or.inl ⟨by rfl, ?_⟩) ?_ ?_
  rotate_left
  · intro w'
    go_simp
    with_reducible rfl
  rotate_left
  · simp only [Act.put, List.setIfInBounds_toArray, List.set_cons_zero, List.set_cons_succ, i64_w, i32_w]
    rfl
  refine name_last (fun XHM1 HN => ?_)
  obtain ⟨n1_, n2_, n3_⟩ := fin6 HRR.out.1 HRR.out.2.1 HRR.out.2.2.1 (.slice AM1 s1.h.length cM1) (.slice BM1 s1.k.length dM1) (.int .u64 s1.g.n) (.int .u64 s1.g.nans) (.int .u64 s1.g.lo) (.int .u64 s1.g.hi)
  rw [HN.out] at n1_ n2_ n3_
  have k_ := HRR.out.2.2.2 XHM1 n3_
  have HB0_ := (n2_.block _ (blk_lt HB0.out)).trans HB0.out; clear HB0; have HB0 := Lib.hid HB0_; clear HB0_
  have HB1_ := (n2_.block _ (blk_lt HB1.out)).trans HB1.out; clear HB1; have HB1 := Lib.hid HB1_; clear HB1_
  have HB2_ := (n2_.block _ (blk_lt HB2.out)).trans HB2.out; clear HB2; have HB2 := Lib.hid HB2_; clear HB2_
  have HM0_ := (n2_.block _ (blk_lt HM0.out)).trans HM0.out; clear HM0; have HM0 := Lib.hid HM0_; clear HM0_
  have P0_ := P0.out.below n2_ (Nat.le_refl _); clear P0; have P0 := Lib.hid P0_; clear P0_
  have P1_ := P1.out.below n2_ (Nat.le_refl _); clear P1; have P1 := Lib.hid P1_; clear P1_
  have P2_ := P2.out.below n2_ (Nat.le_refl _); clear P2; have P2 := Lib.hid P2_; clear P2_
  have M0_ := M0.out.below n2_ (Nat.le_refl _); clear M0; have M0 := Lib.hid M0_; clear M0_
  have HL_ := HL.out.trans (n2_.mono HL.out.size); clear HL; have HL := Lib.hid HL_; clear HL_
  have HM1 := Lib.hid n1_; have M1 := Lib.hid k_
  clear n1_ n2_ n3_ k_ HN HRR HX
  refine done_ (by kernel_rfl) ?_
  refine NoPanic.normal ?_
  go_wp2
  have HB0_ := blk_drew HB0.out; clear HB0; have HB0 := Lib.hid HB0_; clear HB0_
  have HB1_ := blk_drew HB1.out; clear HB1; have HB1 := Lib.hid HB1_; clear HB1_
  have HB2_ := blk_drew HB2.out; clear HB2; have HB2 := Lib.hid HB2_; clear HB2_
  have HM0_ := blk_drew HM0.out; clear HM0; have HM0 := Lib.hid HM0_; clear HM0_
  have HM1_ := blk_drew HM1.out; clear HM1; have HM1 := Lib.hid HM1_; clear HM1_
  have P0_ := P0.out.below (below_drew (Below.refl _ _)) (Nat.le_refl _); clear P0; have P0 := Lib.hid P0_; clear P0_
  have P1_ := P1.out.below (below_drew (Below.refl _ _)) (Nat.le_refl _); clear P1; have P1 := Lib.hid P1_; clear P1_
  have P2_ := P2.out.below (below_drew (Below.refl _ _)) (Nat.le_refl _); clear P2; have P2 := Lib.hid P2_; clear P2_
  have M0_ := M0.out.below (below_drew (Below.refl _ _)) (Nat.le_refl _); clear M0; have M0 := Lib.hid M0_; clear M0_
  have M1_ := M1.out.below (below_drew (Below.refl _ _)) (Nat.le_refl _); clear M1; have M1 := Lib.hid M1_; clear M1_
  have HL_ := below_drew HL.out; clear HL; have HL := Lib.hid HL_; clear HL_
  refine wp_region_noPanic ?_
  refine start_ (n := 11) (S := fun w' => w'.cell? ⟨w.heap.size + 1, 0, none⟩ = some (.slice Au u.h.length cu) ∧ w'.cell? ⟨w.heap.size + 1, 1, none⟩ = some (.slice Bu u.k.length du) ∧ w'.cell? ⟨w.heap.size + 1, 2, none⟩ = some (.int .u64 u.g.n) ∧ w'.cell? ⟨w.heap.size + 1, 3, none⟩ = some (.int .u64 u.g.nans) ∧ w'.cell? ⟨w.heap.size + 1, 4, none⟩ = some (.int .u64 u.g.lo) ∧ w'.cell? ⟨w.heap.size + 1, 5, none⟩ = some (.int .u64 u.g.hi) ∧ w'.cell? ⟨w.heap.size + 1 + 1, 0, none⟩ = some (.slice At t.h.length ct) ∧ w'.cell? ⟨w.heap.size + 1 + 1, 1, none⟩ = some (.slice Bt t.k.length dt) ∧ w'.cell? ⟨w.heap.size + 1 + 1, 2, none⟩ = some (.int .u64 t.g.n) ∧ w'.cell? ⟨w.heap.size + 1 + 1, 3, none⟩ = some (.int .u64 t.g.nans) ∧ w'.cell? ⟨w.heap.size + 1 + 1, 4, none⟩ = some (.int .u64 t.g.lo) ∧ w'.cell? ⟨w.heap.size + 1 + 1, 5, none⟩ = some (.int .u64 t.g.hi)) (ds := [9]) #[false, false, false, false, false, false, false, false, false, false, false] (by kernel_rfl) rfl rfl ⟨blk_cell (HB1.out) 0, blk_cell (HB1.out) 1, blk_cell (HB1.out) 2, blk_cell (HB1.out) 3, blk_cell (HB1.out) 4, blk_cell (HB1.out) 5, blk_cell (HB2.out) 0, blk_cell (HB2.out) 1, blk_cell (HB2.out) 2, blk_cell (HB2.out) 3, blk_cell (HB2.out) 4, blk_cell (HB2.out) 5⟩ (fun hHeld => ?_)
  generalize XHM1.drew = Y2 at HB0 HB1 HB2 HM0 HM1 P0 P1 P2 M0 M1 HL hHeld ⊢
  refine take_ (i := 0) (N := some 48) (v := ?_) (a' := ?_) #[true, false, false, false, false, false, false, false, false, false, false] rfl rfl (by kernel_rfl) (fun _ _ _ h => h) (Or.inl ⟨by rfl, ?_⟩) hHeld ?_ ?_
  rotate_left
  · rintro w' ⟨s0_, s1_, s2_, s3_, s4_, s5_, s6_, s7_, s8_, s9_, s10_, s11_⟩
    go_simp
    with_reducible rfl
  rotate_left
  · simp only [Act.put, List.setIfInBounds_toArray, List.set_cons_zero, List.set_cons_succ, i64_w, i32_w]
    rfl
  refine take_ (i := 2) (N := some 50) (v := ?_) (a' := ?_) #[true, false, true, false, false, false, false, false, false, false, false] rfl rfl (by kernel_rfl) (fun _ _ _ h => h) (Or.inl ⟨by rfl, ?_⟩) hHeld ?_ ?_
  rotate_left
  · rintro w' ⟨s0_, s1_, s2_, s3_, s4_, s5_, s6_, s7_, s8_, s9_, s10_, s11_⟩
    go_simp
    with_reducible rfl
  rotate_left
  · simp only [Act.put, List.setIfInBounds_toArray, List.set_cons_zero, List.set_cons_succ, i64_w, i32_w]
    rfl
  clear hHeld
  have HX := Lib.hid (Below.refl Y2.heap.size Y2)
  refine join_ 2 #[true, true, true, true, true, true, true, true, true, false, false] (fun s : Value × Value × Nat × Option Addr × Nat × Option Addr × Nat => [(49, s.1), (51, s.2.1), (52, .tuple #[.agg #[.slice s.2.2.2.1 s2.h.length s.2.2.2.2.1, .slice s.2.2.2.2.2.1 s2.k.length s.2.2.2.2.2.2, .int .u64 s2.g.n, .int .u64 s2.g.nans, .int .u64 s2.g.lo, .int .u64 s2.g.hi], .int .i64 0]), (47, .tuple #[.agg #[.slice s.2.2.2.1 s2.h.length s.2.2.2.2.1, .slice s.2.2.2.2.2.1 s2.k.length s.2.2.2.2.2.2, .int .u64 s2.g.n, .int .u64 s2.g.nans, .int .u64 s2.g.lo, .int .u64 s2.g.hi], .int .i64 0]), (53, .agg #[.slice s.2.2.2.1 s2.h.length s.2.2.2.2.1, .slice s.2.2.2.2.2.1 s2.k.length s.2.2.2.2.2.2, .int .u64 s2.g.n, .int .u64 s2.g.nans, .int .u64 s2.g.lo, .int .u64 s2.g.hi]), (54, .int .i64 0), (11, .pointer (some ⟨s.2.2.1, 0, none⟩))]) (Met Y2 s2) ?_ (fun hcont => ?_)
  rotate_left
  · skip
    refine two_ (i := 1) (j := 8) (Ni := some 49) (Nj := some 11) #[true, true, true, false, false, false, false, false, false, false, false] #[true, false, true, false, false, false, false, false, true, false, false] rfl rfl rfl rfl (by kernel_rfl) (by decide) (by decide) (fun K hK => ?_) (fun K hK => ?_)
    · skip
      refine goes_ Try.func39 (by kernel_rfl) rfl #[.agg #[.slice Au u.h.length cu, .slice Bu u.k.length du, .int .u64 u.g.n, .int .u64 u.g.nans, .int .u64 u.g.lo, .int .u64 u.g.hi]] (by rfl) rfl rfl (by (try simp only [List.map_toArray, List.map_cons, List.map_nil]); first | done | rfl) ?_
      (with_reducible refine (copyV P1.out).mono ?_)
      rintro e w1_ ⟨Ax, cx, Bx, dx, rfl, k_, hb⟩
      refine ⟨_, rfl, ?_⟩
      have HB0_ := (hb.block _ (blk_lt HB0.out)).trans HB0.out; clear HB0; have HB0 := Lib.hid HB0_; clear HB0_
      have HB1_ := (hb.block _ (blk_lt HB1.out)).trans HB1.out; clear HB1; have HB1 := Lib.hid HB1_; clear HB1_
      have HB2_ := (hb.block _ (blk_lt HB2.out)).trans HB2.out; clear HB2; have HB2 := Lib.hid HB2_; clear HB2_
      have HM0_ := (hb.block _ (blk_lt HM0.out)).trans HM0.out; clear HM0; have HM0 := Lib.hid HM0_; clear HM0_
      have HM1_ := (hb.block _ (blk_lt HM1.out)).trans HM1.out; clear HM1; have HM1 := Lib.hid HM1_; clear HM1_
      have P0_ := P0.out.below hb (Nat.le_refl _); clear P0; have P0 := Lib.hid P0_; clear P0_
      have P1_ := P1.out.below hb (Nat.le_refl _); clear P1; have P1 := Lib.hid P1_; clear P1_
      have P2_ := P2.out.below hb (Nat.le_refl _); clear P2; have P2 := Lib.hid P2_; clear P2_
      have M0_ := M0.out.below hb (Nat.le_refl _); clear M0; have M0 := Lib.hid M0_; clear M0_
      have M1_ := M1.out.below hb (Nat.le_refl _); clear M1; have M1 := Lib.hid M1_; clear M1_
      have HL_ := HL.out.trans (hb.mono HL.out.size); clear HL; have HL := Lib.hid HL_; clear HL_
      have HX_ := HX.out.trans (hb.mono HX.out.size); clear HX; have HX := Lib.hid HX_; clear HX_
      have Cx := Lib.hid k_; clear k_ hb
      refine hK.out _ _ ⟨blk_cell (HB1.out) 0, blk_cell (HB1.out) 1, blk_cell (HB1.out) 2, blk_cell (HB1.out) 3, blk_cell (HB1.out) 4, blk_cell (HB1.out) 5, blk_cell (HB2.out) 0, blk_cell (HB2.out) 1, blk_cell (HB2.out) 2, blk_cell (HB2.out) 3, blk_cell (HB2.out) 4, blk_cell (HB2.out) 5⟩ (fun _ => ?_)
      clear hK K
      refine norm_ (a' := ?_) ?_ ?_
      rotate_left
      · show Act.put _ (some 49) _ = _
        simp only [Act.put, List.setIfInBounds_toArray, List.set_cons_zero, List.set_cons_succ, i64_w, i32_w]
        rfl
      refine two_ (i := 3) (j := 8) (Ni := some 51) (Nj := some 11) #[true, true, true, true, false, false, false, false, false, false, false] #[true, true, true, false, false, false, false, false, true, false, false] rfl rfl rfl rfl (by kernel_rfl) (by decide) (by decide) (fun K hK => ?_) (fun K hK => ?_)
      · skip
        refine goes_ Try.func39 (by kernel_rfl) rfl #[.agg #[.slice At t.h.length ct, .slice Bt t.k.length dt, .int .u64 t.g.n, .int .u64 t.g.nans, .int .u64 t.g.lo, .int .u64 t.g.hi]] (by rfl) rfl rfl (by (try simp only [List.map_toArray, List.map_cons, List.map_nil]); first | done | rfl) ?_
        (with_reducible refine (copyV P2.out).mono ?_)
        rintro e w2_ ⟨Ay, cy, By, dy, rfl, k_, hb⟩
        refine ⟨_, rfl, ?_⟩
        have HB0_ := (hb.block _ (blk_lt HB0.out)).trans HB0.out; clear HB0; have HB0 := Lib.hid HB0_; clear HB0_
        have HB1_ := (hb.block _ (blk_lt HB1.out)).trans HB1.out; clear HB1; have HB1 := Lib.hid HB1_; clear HB1_
        have HB2_ := (hb.block _ (blk_lt HB2.out)).trans HB2.out; clear HB2; have HB2 := Lib.hid HB2_; clear HB2_
        have HM0_ := (hb.block _ (blk_lt HM0.out)).trans HM0.out; clear HM0; have HM0 := Lib.hid HM0_; clear HM0_
        have HM1_ := (hb.block _ (blk_lt HM1.out)).trans HM1.out; clear HM1; have HM1 := Lib.hid HM1_; clear HM1_
        have P0_ := P0.out.below hb (Nat.le_refl _); clear P0; have P0 := Lib.hid P0_; clear P0_
        have P1_ := P1.out.below hb (Nat.le_refl _); clear P1; have P1 := Lib.hid P1_; clear P1_
        have P2_ := P2.out.below hb (Nat.le_refl _); clear P2; have P2 := Lib.hid P2_; clear P2_
        have M0_ := M0.out.below hb (Nat.le_refl _); clear M0; have M0 := Lib.hid M0_; clear M0_
        have M1_ := M1.out.below hb (Nat.le_refl _); clear M1; have M1 := Lib.hid M1_; clear M1_
        have Cx_ := Cx.out.below hb (Nat.le_refl _); clear Cx; have Cx := Lib.hid Cx_; clear Cx_
        have HL_ := HL.out.trans (hb.mono HL.out.size); clear HL; have HL := Lib.hid HL_; clear HL_
        have HX_ := HX.out.trans (hb.mono HX.out.size); clear HX; have HX := Lib.hid HX_; clear HX_
        have Cy := Lib.hid k_; clear k_ hb
        refine hK.out _ _ ⟨blk_cell (HB1.out) 0, blk_cell (HB1.out) 1, blk_cell (HB1.out) 2, blk_cell (HB1.out) 3, blk_cell (HB1.out) 4, blk_cell (HB1.out) 5, blk_cell (HB2.out) 0, blk_cell (HB2.out) 1, blk_cell (HB2.out) 2, blk_cell (HB2.out) 3, blk_cell (HB2.out) 4, blk_cell (HB2.out) 5⟩ (fun _ => ?_)
        clear hK K
        refine norm_ (a' := ?_) ?_ ?_
        rotate_left
        · show Act.put _ (some 51) _ = _
          simp only [Act.put, List.setIfInBounds_toArray, List.set_cons_zero, List.set_cons_succ, i64_w, i32_w]
          rfl
        refine two_ (i := 4) (j := 8) (Ni := some 52) (Nj := some 11) #[true, true, true, true, true, false, false, false, false, false, false] #[true, true, true, true, false, false, false, false, true, false, false] rfl rfl rfl rfl (by kernel_rfl) (by decide) (by decide) (fun K hK => ?_) (fun K hK => ?_)
        · skip
          refine goes_ Try.func45 (by kernel_rfl) rfl #[.agg #[.slice Ax u.h.length cx, .slice Bx u.k.length dx, .int .u64 u.g.n, .int .u64 u.g.nans, .int .u64 u.g.lo, .int .u64 u.g.hi], .agg #[.slice Ay t.h.length cy, .slice By t.k.length dy, .int .u64 t.g.n, .int .u64 t.g.nans, .int .u64 t.g.lo, .int .u64 t.g.hi]] (by rfl) rfl rfl (by (try simp only [List.map_toArray, List.map_cons, List.map_nil]); first | done | rfl) ?_
          (with_reducible refine (merge_okR Cx.out Cy.out AL3.out EE3.out).mono ?_)
          rintro e w3_ ⟨Am, cm, Bm, dm, rfl, k_, hR_, hS_, hb⟩
          refine ⟨_, rfl, ?_⟩
          have HB0_ := (hb.block _ (blk_lt HB0.out)).trans HB0.out; clear HB0; have HB0 := Lib.hid HB0_; clear HB0_
          have HB1_ := (hb.block _ (blk_lt HB1.out)).trans HB1.out; clear HB1; have HB1 := Lib.hid HB1_; clear HB1_
          have HB2_ := (hb.block _ (blk_lt HB2.out)).trans HB2.out; clear HB2; have HB2 := Lib.hid HB2_; clear HB2_
          have HM0_ := (hb.block _ (blk_lt HM0.out)).trans HM0.out; clear HM0; have HM0 := Lib.hid HM0_; clear HM0_
          have HM1_ := (hb.block _ (blk_lt HM1.out)).trans HM1.out; clear HM1; have HM1 := Lib.hid HM1_; clear HM1_
          have P0_ := P0.out.below hb (Nat.le_refl _); clear P0; have P0 := Lib.hid P0_; clear P0_
          have P1_ := P1.out.below hb (Nat.le_refl _); clear P1; have P1 := Lib.hid P1_; clear P1_
          have P2_ := P2.out.below hb (Nat.le_refl _); clear P2; have P2 := Lib.hid P2_; clear P2_
          have M0_ := M0.out.below hb (Nat.le_refl _); clear M0; have M0 := Lib.hid M0_; clear M0_
          have M1_ := M1.out.below hb (Nat.le_refl _); clear M1; have M1 := Lib.hid M1_; clear M1_
          have Cx_ := Cx.out.below hb (Nat.le_refl _); clear Cx; have Cx := Lib.hid Cx_; clear Cx_
          have Cy_ := Cy.out.below hb (Nat.le_refl _); clear Cy; have Cy := Lib.hid Cy_; clear Cy_
          have HL_ := HL.out.trans (hb.mono HL.out.size); clear HL; have HL := Lib.hid HL_; clear HL_
          have HX_ := HX.out.trans (hb.mono HX.out.size); clear HX; have HX := Lib.hid HX_; clear HX_
          have MM := Lib.hid k_
          clear k_ hR_ hS_ hb
          refine hK.out _ _ ⟨blk_cell (HB1.out) 0, blk_cell (HB1.out) 1, blk_cell (HB1.out) 2, blk_cell (HB1.out) 3, blk_cell (HB1.out) 4, blk_cell (HB1.out) 5, blk_cell (HB2.out) 0, blk_cell (HB2.out) 1, blk_cell (HB2.out) 2, blk_cell (HB2.out) 3, blk_cell (HB2.out) 4, blk_cell (HB2.out) 5⟩ (fun _ => ?_)
          clear hK K
          refine norm_ (a' := ?_) ?_ ?_
          rotate_left
          · show Act.put _ (some 52) _ = _
            simp only [Act.put, List.setIfInBounds_toArray, List.set_cons_zero, List.set_cons_succ, i64_w, i32_w]
            rfl
          refine pure_ (i := 5) (N := some 47) (v := ?_) (a' := ?_) #[true, true, true, true, true, true, false, false, false, false, false] rfl rfl (by kernel_rfl) (fun _ _ _ h => h) (Or.inl ⟨by rfl, ?_⟩) ?_ ?_
          rotate_left
          · intro w'
            go_simp
            with_reducible rfl
          rotate_left
          · simp only [Act.put, List.setIfInBounds_toArray, List.set_cons_zero, List.set_cons_succ, i64_w, i32_w]
            rfl
          refine pure_ (i := 6) (N := some 53) (v := ?_) (a' := ?_) #[true, true, true, true, true, true, true, false, false, false, false] rfl rfl (by kernel_rfl) (fun _ _ _ h => h) (Or.inl ⟨by rfl, ?_⟩) ?_ ?_
          rotate_left
          · intro w'
            go_simp
            with_reducible rfl
          rotate_left
          · simp only [Act.put, List.setIfInBounds_toArray, List.set_cons_zero, List.set_cons_succ, i64_w, i32_w]
            rfl
          refine pure_ (i := 7) (N := some 54) (v := ?_) (a' := ?_) #[true, true, true, true, true, true, true, true, false, false, false] rfl rfl (by kernel_rfl) (fun _ _ _ h => h) (Or.inl ⟨by rfl, ?_⟩) ?_ ?_
          rotate_left
          · intro w'
            go_simp
            with_reducible rfl
          rotate_left
          · simp only [Act.put, List.setIfInBounds_toArray, List.set_cons_zero, List.set_cons_succ, i64_w, i32_w]
            rfl
          refine one_ (i := 8) (N := some 11) #[true, true, true, true, true, true, true, true, true, false, false] rfl rfl (by kernel_rfl) (by decide) (fun K hK => ?_)
          refine value_ (v := .pointer (some ⟨w3_.heap.size, 0, none⟩)) (w1 := w3_.alloc (.cells #[.slice none 0 0, .slice none 0 0, .int .u64 0, .int .u64 0, .int .u64 0, .int .u64 0] 45)) (by rfl) rfl ?_ ?_
          · first | (go_simp; done) | (go_simp; rfl)
          refine hK.out _ _ ⟨blk_cell (blk_alloc HB1.out _) 0, blk_cell (blk_alloc HB1.out _) 1, blk_cell (blk_alloc HB1.out _) 2, blk_cell (blk_alloc HB1.out _) 3, blk_cell (blk_alloc HB1.out _) 4, blk_cell (blk_alloc HB1.out _) 5, blk_cell (blk_alloc HB2.out _) 0, blk_cell (blk_alloc HB2.out _) 1, blk_cell (blk_alloc HB2.out _) 2, blk_cell (blk_alloc HB2.out _) 3, blk_cell (blk_alloc HB2.out _) 4, blk_cell (blk_alloc HB2.out _) 5⟩ (fun _ => ?_)
          clear hK K
          refine norm_ (a' := ?_) ?_ ?_
          rotate_left
          · show Act.put _ (some 11) _ = _
            simp only [Act.put, List.setIfInBounds_toArray, List.set_cons_zero, List.set_cons_succ, i64_w, i32_w]
            rfl
          refine name_last (fun w4_ HN => ?_)
          have HB0_ := blk_alloc HB0.out (.cells #[.slice none 0 0, .slice none 0 0, .int .u64 0, .int .u64 0, .int .u64 0, .int .u64 0] 45)
          have HB1_ := blk_alloc HB1.out (.cells #[.slice none 0 0, .slice none 0 0, .int .u64 0, .int .u64 0, .int .u64 0, .int .u64 0] 45)
          have HB2_ := blk_alloc HB2.out (.cells #[.slice none 0 0, .slice none 0 0, .int .u64 0, .int .u64 0, .int .u64 0, .int .u64 0] 45)
          have HM0_ := blk_alloc HM0.out (.cells #[.slice none 0 0, .slice none 0 0, .int .u64 0, .int .u64 0, .int .u64 0, .int .u64 0] 45)
          have HM1_ := blk_alloc HM1.out (.cells #[.slice none 0 0, .slice none 0 0, .int .u64 0, .int .u64 0, .int .u64 0, .int .u64 0] 45)
          have P0_ := P0.out.alloc (.cells #[.slice none 0 0, .slice none 0 0, .int .u64 0, .int .u64 0, .int .u64 0, .int .u64 0] 45)
          have P1_ := P1.out.alloc (.cells #[.slice none 0 0, .slice none 0 0, .int .u64 0, .int .u64 0, .int .u64 0, .int .u64 0] 45)
          have P2_ := P2.out.alloc (.cells #[.slice none 0 0, .slice none 0 0, .int .u64 0, .int .u64 0, .int .u64 0, .int .u64 0] 45)
          have M0_ := M0.out.alloc (.cells #[.slice none 0 0, .slice none 0 0, .int .u64 0, .int .u64 0, .int .u64 0, .int .u64 0] 45)
          have M1_ := M1.out.alloc (.cells #[.slice none 0 0, .slice none 0 0, .int .u64 0, .int .u64 0, .int .u64 0, .int .u64 0] 45)
          have Cx_ := Cx.out.alloc (.cells #[.slice none 0 0, .slice none 0 0, .int .u64 0, .int .u64 0, .int .u64 0, .int .u64 0] 45)
          have Cy_ := Cy.out.alloc (.cells #[.slice none 0 0, .slice none 0 0, .int .u64 0, .int .u64 0, .int .u64 0, .int .u64 0] 45)
          have HL_ := below_alloc HL.out (.cells #[.slice none 0 0, .slice none 0 0, .int .u64 0, .int .u64 0, .int .u64 0, .int .u64 0] 45)
          have HX_ := below_alloc HX.out (.cells #[.slice none 0 0, .slice none 0 0, .int .u64 0, .int .u64 0, .int .u64 0, .int .u64 0] 45)
          have HR_ := blk_new w3_ (.cells #[.slice none 0 0, .slice none 0 0, .int .u64 0, .int .u64 0, .int .u64 0, .int .u64 0] 45)
          have HROB_ := Rob.of_alloc MM.out (.cells #[.slice none 0 0, .slice none 0 0, .int .u64 0, .int .u64 0, .int .u64 0, .int .u64 0] 45)
          have HGE := Lib.hid HX.out.size
          rw [HN.out] at HB0_ HB1_ HB2_ HM0_ HM1_ P0_ P1_ P2_ M0_ M1_ Cx_ Cy_ HL_ HX_ HR_ HROB_
          clear HB0
          have HB0 := Lib.hid HB0_; clear HB0_
          clear HB1
          have HB1 := Lib.hid HB1_; clear HB1_
          clear HB2
          have HB2 := Lib.hid HB2_; clear HB2_
          clear HM0
          have HM0 := Lib.hid HM0_; clear HM0_
          clear HM1
          have HM1 := Lib.hid HM1_; clear HM1_
          clear P0
          have P0 := Lib.hid P0_; clear P0_
          clear P1
          have P1 := Lib.hid P1_; clear P1_
          clear P2
          have P2 := Lib.hid P2_; clear P2_
          clear M0
          have M0 := Lib.hid M0_; clear M0_
          clear M1
          have M1 := Lib.hid M1_; clear M1_
          clear Cx
          have Cx := Lib.hid Cx_; clear Cx_
          clear Cy
          have Cy := Lib.hid Cy_; clear Cy_
          clear HL
          have HL := Lib.hid HL_; clear HL_
          clear HX
          have HX := Lib.hid HX_; clear HX_
          have HR := Lib.hid HR_; clear HR_
          have HROB := Lib.hid HROB_; clear HROB_
          clear HN MM
          refine norm_ ?_ (hcont ((.agg #[.slice Ax u.h.length cx, .slice Bx u.k.length dx, .int .u64 u.g.n, .int .u64 u.g.nans, .int .u64 u.g.lo, .int .u64 u.g.hi]), (.agg #[.slice Ay t.h.length cy, .slice By t.k.length dy, .int .u64 t.g.n, .int .u64 t.g.nans, .int .u64 t.g.lo, .int .u64 t.g.hi]), w3_.heap.size, Am, cm, Bm, dm) _ (Met.mk HX.out HGE.out HR.out HROB.out))
          simp only [putAll, Act.put, List.setIfInBounds_toArray, List.set_cons_zero, List.set_cons_succ]
        · skip
          refine value_ (v := .pointer (some ⟨w2_.heap.size, 0, none⟩)) (w1 := w2_.alloc (.cells #[.slice none 0 0, .slice none 0 0, .int .u64 0, .int .u64 0, .int .u64 0, .int .u64 0] 45)) (by rfl) rfl ?_ ?_
          · first | (go_simp; done) | (go_simp; rfl)
          refine hK.out _ _ ⟨blk_cell (blk_alloc HB1.out _) 0, blk_cell (blk_alloc HB1.out _) 1, blk_cell (blk_alloc HB1.out _) 2, blk_cell (blk_alloc HB1.out _) 3, blk_cell (blk_alloc HB1.out _) 4, blk_cell (blk_alloc HB1.out _) 5, blk_cell (blk_alloc HB2.out _) 0, blk_cell (blk_alloc HB2.out _) 1, blk_cell (blk_alloc HB2.out _) 2, blk_cell (blk_alloc HB2.out _) 3, blk_cell (blk_alloc HB2.out _) 4, blk_cell (blk_alloc HB2.out _) 5⟩ (fun _ => ?_)
          clear hK K
          refine norm_ (a' := ?_) ?_ ?_
          rotate_left
          · show Act.put _ (some 11) _ = _
            simp only [Act.put, List.setIfInBounds_toArray, List.set_cons_zero, List.set_cons_succ, i64_w, i32_w]
            rfl
          refine name_last (fun w5_ HN => ?_)
          have HB0_ := blk_alloc HB0.out (.cells #[.slice none 0 0, .slice none 0 0, .int .u64 0, .int .u64 0, .int .u64 0, .int .u64 0] 45)
          have HB1_ := blk_alloc HB1.out (.cells #[.slice none 0 0, .slice none 0 0, .int .u64 0, .int .u64 0, .int .u64 0, .int .u64 0] 45)
          have HB2_ := blk_alloc HB2.out (.cells #[.slice none 0 0, .slice none 0 0, .int .u64 0, .int .u64 0, .int .u64 0, .int .u64 0] 45)
          have HM0_ := blk_alloc HM0.out (.cells #[.slice none 0 0, .slice none 0 0, .int .u64 0, .int .u64 0, .int .u64 0, .int .u64 0] 45)
          have HM1_ := blk_alloc HM1.out (.cells #[.slice none 0 0, .slice none 0 0, .int .u64 0, .int .u64 0, .int .u64 0, .int .u64 0] 45)
          have P0_ := P0.out.alloc (.cells #[.slice none 0 0, .slice none 0 0, .int .u64 0, .int .u64 0, .int .u64 0, .int .u64 0] 45)
          have P1_ := P1.out.alloc (.cells #[.slice none 0 0, .slice none 0 0, .int .u64 0, .int .u64 0, .int .u64 0, .int .u64 0] 45)
          have P2_ := P2.out.alloc (.cells #[.slice none 0 0, .slice none 0 0, .int .u64 0, .int .u64 0, .int .u64 0, .int .u64 0] 45)
          have M0_ := M0.out.alloc (.cells #[.slice none 0 0, .slice none 0 0, .int .u64 0, .int .u64 0, .int .u64 0, .int .u64 0] 45)
          have M1_ := M1.out.alloc (.cells #[.slice none 0 0, .slice none 0 0, .int .u64 0, .int .u64 0, .int .u64 0, .int .u64 0] 45)
          have Cx_ := Cx.out.alloc (.cells #[.slice none 0 0, .slice none 0 0, .int .u64 0, .int .u64 0, .int .u64 0, .int .u64 0] 45)
          have Cy_ := Cy.out.alloc (.cells #[.slice none 0 0, .slice none 0 0, .int .u64 0, .int .u64 0, .int .u64 0, .int .u64 0] 45)
          have HL_ := below_alloc HL.out (.cells #[.slice none 0 0, .slice none 0 0, .int .u64 0, .int .u64 0, .int .u64 0, .int .u64 0] 45)
          have HX_ := below_alloc HX.out (.cells #[.slice none 0 0, .slice none 0 0, .int .u64 0, .int .u64 0, .int .u64 0, .int .u64 0] 45)
          have HR_ := blk_new w2_ (.cells #[.slice none 0 0, .slice none 0 0, .int .u64 0, .int .u64 0, .int .u64 0, .int .u64 0] 45)
          have HGE := Lib.hid HX.out.size
          rw [HN.out] at HB0_ HB1_ HB2_ HM0_ HM1_ P0_ P1_ P2_ M0_ M1_ Cx_ Cy_ HL_ HX_ HR_
          clear HB0
          have HB0 := Lib.hid HB0_; clear HB0_
          clear HB1
          have HB1 := Lib.hid HB1_; clear HB1_
          clear HB2
          have HB2 := Lib.hid HB2_; clear HB2_
          clear HM0
          have HM0 := Lib.hid HM0_; clear HM0_
          clear HM1
          have HM1 := Lib.hid HM1_; clear HM1_
          clear P0
          have P0 := Lib.hid P0_; clear P0_
          clear P1
          have P1 := Lib.hid P1_; clear P1_
          clear P2
          have P2 := Lib.hid P2_; clear P2_
          clear M0
          have M0 := Lib.hid M0_; clear M0_
          clear M1
          have M1 := Lib.hid M1_; clear M1_
          clear Cx
          have Cx := Lib.hid Cx_; clear Cx_
          clear Cy
          have Cy := Lib.hid Cy_; clear Cy_
          clear HL
          have HL := Lib.hid HL_; clear HL_
          clear HX
          have HX := Lib.hid HX_; clear HX_
          have HR := Lib.hid HR_; clear HR_
          clear HN
          refine one_ (i := 4) (N := some 52) #[true, true, true, true, true, false, false, false, true, false, false] rfl rfl (by kernel_rfl) (by decide) (fun K hK => ?_)
          refine goes_ Try.func45 (by kernel_rfl) rfl #[.agg #[.slice Ax u.h.length cx, .slice Bx u.k.length dx, .int .u64 u.g.n, .int .u64 u.g.nans, .int .u64 u.g.lo, .int .u64 u.g.hi], .agg #[.slice Ay t.h.length cy, .slice By t.k.length dy, .int .u64 t.g.n, .int .u64 t.g.nans, .int .u64 t.g.lo, .int .u64 t.g.hi]] (by rfl) rfl rfl (by (try simp only [List.map_toArray, List.map_cons, List.map_nil]); first | done | rfl) ?_
          (with_reducible refine (merge_okR Cx.out Cy.out AL3.out EE3.out).mono ?_)
          rintro e w6_ ⟨Am, cm, Bm, dm, rfl, k_, hR_, hS_, hb⟩
          refine ⟨_, rfl, ?_⟩
          have HROB := Lib.hid (Rob.of_R k_ hR_ hS_ (blk_lt HR.out))
          have HB0_ := (hb.block _ (blk_lt HB0.out)).trans HB0.out; clear HB0; have HB0 := Lib.hid HB0_; clear HB0_
          have HB1_ := (hb.block _ (blk_lt HB1.out)).trans HB1.out; clear HB1; have HB1 := Lib.hid HB1_; clear HB1_
          have HB2_ := (hb.block _ (blk_lt HB2.out)).trans HB2.out; clear HB2; have HB2 := Lib.hid HB2_; clear HB2_
          have HM0_ := (hb.block _ (blk_lt HM0.out)).trans HM0.out; clear HM0; have HM0 := Lib.hid HM0_; clear HM0_
          have HM1_ := (hb.block _ (blk_lt HM1.out)).trans HM1.out; clear HM1; have HM1 := Lib.hid HM1_; clear HM1_
          have P0_ := P0.out.below hb (Nat.le_refl _); clear P0; have P0 := Lib.hid P0_; clear P0_
          have P1_ := P1.out.below hb (Nat.le_refl _); clear P1; have P1 := Lib.hid P1_; clear P1_
          have P2_ := P2.out.below hb (Nat.le_refl _); clear P2; have P2 := Lib.hid P2_; clear P2_
          have M0_ := M0.out.below hb (Nat.le_refl _); clear M0; have M0 := Lib.hid M0_; clear M0_
          have M1_ := M1.out.below hb (Nat.le_refl _); clear M1; have M1 := Lib.hid M1_; clear M1_
          have Cx_ := Cx.out.below hb (Nat.le_refl _); clear Cx; have Cx := Lib.hid Cx_; clear Cx_
          have Cy_ := Cy.out.below hb (Nat.le_refl _); clear Cy; have Cy := Lib.hid Cy_; clear Cy_
          have HL_ := HL.out.trans (hb.mono HL.out.size); clear HL; have HL := Lib.hid HL_; clear HL_
          have HX_ := HX.out.trans (hb.mono HX.out.size); clear HX; have HX := Lib.hid HX_; clear HX_
          have HR_ := (hb.block _ (blk_lt HR.out)).trans HR.out; clear HR; have HR := Lib.hid HR_; clear HR_
          clear k_ hR_ hS_ hb
          refine hK.out _ _ ⟨blk_cell (HB1.out) 0, blk_cell (HB1.out) 1, blk_cell (HB1.out) 2, blk_cell (HB1.out) 3, blk_cell (HB1.out) 4, blk_cell (HB1.out) 5, blk_cell (HB2.out) 0, blk_cell (HB2.out) 1, blk_cell (HB2.out) 2, blk_cell (HB2.out) 3, blk_cell (HB2.out) 4, blk_cell (HB2.out) 5⟩ (fun _ => ?_)
          clear hK K
          refine norm_ (a' := ?_) ?_ ?_
          rotate_left
          · show Act.put _ (some 52) _ = _
            simp only [Act.put, List.setIfInBounds_toArray, List.set_cons_zero, List.set_cons_succ, i64_w, i32_w]
            rfl
          refine pure_ (i := 5) (N := some 47) (v := ?_) (a' := ?_) #[true, true, true, true, true, true, false, false, true, false, false] rfl rfl (by kernel_rfl) (fun _ _ _ h => h) (Or.inl ⟨by rfl, ?_⟩) ?_ ?_
          rotate_left
          · intro w'
            go_simp
            with_reducible rfl
          rotate_left
          · simp only [Act.put, List.setIfInBounds_toArray, List.set_cons_zero, List.set_cons_succ, i64_w, i32_w]
            rfl
          refine pure_ (i := 6) (N := some 53) (v := ?_) (a' := ?_) #[true, true, true, true, true, true, true, false, true, false, false] rfl rfl (by kernel_rfl) (fun _ _ _ h => h) (Or.inl ⟨by rfl, ?_⟩) ?_ ?_
          rotate_left
          · intro w'
            go_simp
            with_reducible rfl
          rotate_left
          · simp only [Act.put, List.setIfInBounds_toArray, List.set_cons_zero, List.set_cons_succ, i64_w, i32_w]
            rfl
          refine pure_ (i := 7) (N := some 54) (v := ?_) (a' := ?_) #[true, true, true, true, true, true, true, true, true, false, false] rfl rfl (by kernel_rfl) (fun _ _ _ h => h) (Or.inl ⟨by rfl, ?_⟩) ?_ ?_
          rotate_left
          · intro w'
            go_simp
            with_reducible rfl
          rotate_left
          · simp only [Act.put, List.setIfInBounds_toArray, List.set_cons_zero, List.set_cons_succ, i64_w, i32_w]
            rfl
          refine norm_ ?_ (hcont ((.agg #[.slice Ax u.h.length cx, .slice Bx u.k.length dx, .int .u64 u.g.n, .int .u64 u.g.nans, .int .u64 u.g.lo, .int .u64 u.g.hi]), (.agg #[.slice Ay t.h.length cy, .slice By t.k.length dy, .int .u64 t.g.n, .int .u64 t.g.nans, .int .u64 t.g.lo, .int .u64 t.g.hi]), w2_.heap.size, Am, cm, Bm, dm) _ (Met.mk HX.out HGE.out HR.out HROB.out))
          simp only [putAll, Act.put, List.setIfInBounds_toArray, List.set_cons_zero, List.set_cons_succ]
      · skip
        refine value_ (v := .pointer (some ⟨w1_.heap.size, 0, none⟩)) (w1 := w1_.alloc (.cells #[.slice none 0 0, .slice none 0 0, .int .u64 0, .int .u64 0, .int .u64 0, .int .u64 0] 45)) (by rfl) rfl ?_ ?_
        · first | (go_simp; done) | (go_simp; rfl)
        refine hK.out _ _ ⟨blk_cell (blk_alloc HB1.out _) 0, blk_cell (blk_alloc HB1.out _) 1, blk_cell (blk_alloc HB1.out _) 2, blk_cell (blk_alloc HB1.out _) 3, blk_cell (blk_alloc HB1.out _) 4, blk_cell (blk_alloc HB1.out _) 5, blk_cell (blk_alloc HB2.out _) 0, blk_cell (blk_alloc HB2.out _) 1, blk_cell (blk_alloc HB2.out _) 2, blk_cell (blk_alloc HB2.out _) 3, blk_cell (blk_alloc HB2.out _) 4, blk_cell (blk_alloc HB2.out _) 5⟩ (fun _ => ?_)
        clear hK K
        refine norm_ (a' := ?_) ?_ ?_
        rotate_left
        · show Act.put _ (some 11) _ = _
          simp only [Act.put, List.setIfInBounds_toArray, List.set_cons_zero, List.set_cons_succ, i64_w, i32_w]
          rfl
        refine name_last (fun w7_ HN => ?_)
        have HB0_ := blk_alloc HB0.out (.cells #[.slice none 0 0, .slice none 0 0, .int .u64 0, .int .u64 0, .int .u64 0, .int .u64 0] 45)
        have HB1_ := blk_alloc HB1.out (.cells #[.slice none 0 0, .slice none 0 0, .int .u64 0, .int .u64 0, .int .u64 0, .int .u64 0] 45)
        have HB2_ := blk_alloc HB2.out (.cells #[.slice none 0 0, .slice none 0 0, .int .u64 0, .int .u64 0, .int .u64 0, .int .u64 0] 45)
        have HM0_ := blk_alloc HM0.out (.cells #[.slice none 0 0, .slice none 0 0, .int .u64 0, .int .u64 0, .int .u64 0, .int .u64 0] 45)
        have HM1_ := blk_alloc HM1.out (.cells #[.slice none 0 0, .slice none 0 0, .int .u64 0, .int .u64 0, .int .u64 0, .int .u64 0] 45)
        have P0_ := P0.out.alloc (.cells #[.slice none 0 0, .slice none 0 0, .int .u64 0, .int .u64 0, .int .u64 0, .int .u64 0] 45)
        have P1_ := P1.out.alloc (.cells #[.slice none 0 0, .slice none 0 0, .int .u64 0, .int .u64 0, .int .u64 0, .int .u64 0] 45)
        have P2_ := P2.out.alloc (.cells #[.slice none 0 0, .slice none 0 0, .int .u64 0, .int .u64 0, .int .u64 0, .int .u64 0] 45)
        have M0_ := M0.out.alloc (.cells #[.slice none 0 0, .slice none 0 0, .int .u64 0, .int .u64 0, .int .u64 0, .int .u64 0] 45)
        have M1_ := M1.out.alloc (.cells #[.slice none 0 0, .slice none 0 0, .int .u64 0, .int .u64 0, .int .u64 0, .int .u64 0] 45)
        have Cx_ := Cx.out.alloc (.cells #[.slice none 0 0, .slice none 0 0, .int .u64 0, .int .u64 0, .int .u64 0, .int .u64 0] 45)
        have HL_ := below_alloc HL.out (.cells #[.slice none 0 0, .slice none 0 0, .int .u64 0, .int .u64 0, .int .u64 0, .int .u64 0] 45)
        have HX_ := below_alloc HX.out (.cells #[.slice none 0 0, .slice none 0 0, .int .u64 0, .int .u64 0, .int .u64 0, .int .u64 0] 45)
        have HR_ := blk_new w1_ (.cells #[.slice none 0 0, .slice none 0 0, .int .u64 0, .int .u64 0, .int .u64 0, .int .u64 0] 45)
        have HGE := Lib.hid HX.out.size
        rw [HN.out] at HB0_ HB1_ HB2_ HM0_ HM1_ P0_ P1_ P2_ M0_ M1_ Cx_ HL_ HX_ HR_
        clear HB0
        have HB0 := Lib.hid HB0_; clear HB0_
        clear HB1
        have HB1 := Lib.hid HB1_; clear HB1_
        clear HB2
        have HB2 := Lib.hid HB2_; clear HB2_
        clear HM0
        have HM0 := Lib.hid HM0_; clear HM0_
        clear HM1
        have HM1 := Lib.hid HM1_; clear HM1_
        clear P0
        have P0 := Lib.hid P0_; clear P0_
        clear P1
        have P1 := Lib.hid P1_; clear P1_
        clear P2
        have P2 := Lib.hid P2_; clear P2_
        clear M0
        have M0 := Lib.hid M0_; clear M0_
        clear M1
        have M1 := Lib.hid M1_; clear M1_
        clear Cx
        have Cx := Lib.hid Cx_; clear Cx_
        clear HL
        have HL := Lib.hid HL_; clear HL_
        clear HX
        have HX := Lib.hid HX_; clear HX_
        have HR := Lib.hid HR_; clear HR_
        clear HN
        refine one_ (i := 3) (N := some 51) #[true, true, true, true, false, false, false, false, true, false, false] rfl rfl (by kernel_rfl) (by decide) (fun K hK => ?_)
        refine goes_ Try.func39 (by kernel_rfl) rfl #[.agg #[.slice At t.h.length ct, .slice Bt t.k.length dt, .int .u64 t.g.n, .int .u64 t.g.nans, .int .u64 t.g.lo, .int .u64 t.g.hi]] (by rfl) rfl rfl (by (try simp only [List.map_toArray, List.map_cons, List.map_nil]); first | done | rfl) ?_
        (with_reducible refine (copyV P2.out).mono ?_)
        rintro e w8_ ⟨Ay, cy, By, dy, rfl, k_, hb⟩
        refine ⟨_, rfl, ?_⟩
        have HB0_ := (hb.block _ (blk_lt HB0.out)).trans HB0.out; clear HB0; have HB0 := Lib.hid HB0_; clear HB0_
        have HB1_ := (hb.block _ (blk_lt HB1.out)).trans HB1.out; clear HB1; have HB1 := Lib.hid HB1_; clear HB1_
        have HB2_ := (hb.block _ (blk_lt HB2.out)).trans HB2.out; clear HB2; have HB2 := Lib.hid HB2_; clear HB2_
        have HM0_ := (hb.block _ (blk_lt HM0.out)).trans HM0.out; clear HM0; have HM0 := Lib.hid HM0_; clear HM0_
        have HM1_ := (hb.block _ (blk_lt HM1.out)).trans HM1.out; clear HM1; have HM1 := Lib.hid HM1_; clear HM1_
        have P0_ := P0.out.below hb (Nat.le_refl _); clear P0; have P0 := Lib.hid P0_; clear P0_
        have P1_ := P1.out.below hb (Nat.le_refl _); clear P1; have P1 := Lib.hid P1_; clear P1_
        have P2_ := P2.out.below hb (Nat.le_refl _); clear P2; have P2 := Lib.hid P2_; clear P2_
        have M0_ := M0.out.below hb (Nat.le_refl _); clear M0; have M0 := Lib.hid M0_; clear M0_
        have M1_ := M1.out.below hb (Nat.le_refl _); clear M1; have M1 := Lib.hid M1_; clear M1_
        have Cx_ := Cx.out.below hb (Nat.le_refl _); clear Cx; have Cx := Lib.hid Cx_; clear Cx_
        have HL_ := HL.out.trans (hb.mono HL.out.size); clear HL; have HL := Lib.hid HL_; clear HL_
        have HX_ := HX.out.trans (hb.mono HX.out.size); clear HX; have HX := Lib.hid HX_; clear HX_
        have HR_ := (hb.block _ (blk_lt HR.out)).trans HR.out; clear HR; have HR := Lib.hid HR_; clear HR_
        have Cy := Lib.hid k_; clear k_ hb
        refine hK.out _ _ ⟨blk_cell (HB1.out) 0, blk_cell (HB1.out) 1, blk_cell (HB1.out) 2, blk_cell (HB1.out) 3, blk_cell (HB1.out) 4, blk_cell (HB1.out) 5, blk_cell (HB2.out) 0, blk_cell (HB2.out) 1, blk_cell (HB2.out) 2, blk_cell (HB2.out) 3, blk_cell (HB2.out) 4, blk_cell (HB2.out) 5⟩ (fun _ => ?_)
        clear hK K
        refine norm_ (a' := ?_) ?_ ?_
        rotate_left
        · show Act.put _ (some 51) _ = _
          simp only [Act.put, List.setIfInBounds_toArray, List.set_cons_zero, List.set_cons_succ, i64_w, i32_w]
          rfl
        refine one_ (i := 4) (N := some 52) #[true, true, true, true, true, false, false, false, true, false, false] rfl rfl (by kernel_rfl) (by decide) (fun K hK => ?_)
        refine goes_ Try.func45 (by kernel_rfl) rfl #[.agg #[.slice Ax u.h.length cx, .slice Bx u.k.length dx, .int .u64 u.g.n, .int .u64 u.g.nans, .int .u64 u.g.lo, .int .u64 u.g.hi], .agg #[.slice Ay t.h.length cy, .slice By t.k.length dy, .int .u64 t.g.n, .int .u64 t.g.nans, .int .u64 t.g.lo, .int .u64 t.g.hi]] (by rfl) rfl rfl (by (try simp only [List.map_toArray, List.map_cons, List.map_nil]); first | done | rfl) ?_
        (with_reducible refine (merge_okR Cx.out Cy.out AL3.out EE3.out).mono ?_)
        rintro e w9_ ⟨Am, cm, Bm, dm, rfl, k_, hR_, hS_, hb⟩
        refine ⟨_, rfl, ?_⟩
        have HROB := Lib.hid (Rob.of_R k_ hR_ hS_ (blk_lt HR.out))
        have HB0_ := (hb.block _ (blk_lt HB0.out)).trans HB0.out; clear HB0; have HB0 := Lib.hid HB0_; clear HB0_
        have HB1_ := (hb.block _ (blk_lt HB1.out)).trans HB1.out; clear HB1; have HB1 := Lib.hid HB1_; clear HB1_
        have HB2_ := (hb.block _ (blk_lt HB2.out)).trans HB2.out; clear HB2; have HB2 := Lib.hid HB2_; clear HB2_
        have HM0_ := (hb.block _ (blk_lt HM0.out)).trans HM0.out; clear HM0; have HM0 := Lib.hid HM0_; clear HM0_
        have HM1_ := (hb.block _ (blk_lt HM1.out)).trans HM1.out; clear HM1; have HM1 := Lib.hid HM1_; clear HM1_
        have P0_ := P0.out.below hb (Nat.le_refl _); clear P0; have P0 := Lib.hid P0_; clear P0_
        have P1_ := P1.out.below hb (Nat.le_refl _); clear P1; have P1 := Lib.hid P1_; clear P1_
        have P2_ := P2.out.below hb (Nat.le_refl _); clear P2; have P2 := Lib.hid P2_; clear P2_
        have M0_ := M0.out.below hb (Nat.le_refl _); clear M0; have M0 := Lib.hid M0_; clear M0_
        have M1_ := M1.out.below hb (Nat.le_refl _); clear M1; have M1 := Lib.hid M1_; clear M1_
        have Cx_ := Cx.out.below hb (Nat.le_refl _); clear Cx; have Cx := Lib.hid Cx_; clear Cx_
        have Cy_ := Cy.out.below hb (Nat.le_refl _); clear Cy; have Cy := Lib.hid Cy_; clear Cy_
        have HL_ := HL.out.trans (hb.mono HL.out.size); clear HL; have HL := Lib.hid HL_; clear HL_
        have HX_ := HX.out.trans (hb.mono HX.out.size); clear HX; have HX := Lib.hid HX_; clear HX_
        have HR_ := (hb.block _ (blk_lt HR.out)).trans HR.out; clear HR; have HR := Lib.hid HR_; clear HR_
        clear k_ hR_ hS_ hb
        refine hK.out _ _ ⟨blk_cell (HB1.out) 0, blk_cell (HB1.out) 1, blk_cell (HB1.out) 2, blk_cell (HB1.out) 3, blk_cell (HB1.out) 4, blk_cell (HB1.out) 5, blk_cell (HB2.out) 0, blk_cell (HB2.out) 1, blk_cell (HB2.out) 2, blk_cell (HB2.out) 3, blk_cell (HB2.out) 4, blk_cell (HB2.out) 5⟩ (fun _ => ?_)
        clear hK K
        refine norm_ (a' := ?_) ?_ ?_
        rotate_left
        · show Act.put _ (some 52) _ = _
          simp only [Act.put, List.setIfInBounds_toArray, List.set_cons_zero, List.set_cons_succ, i64_w, i32_w]
          rfl
        refine pure_ (i := 5) (N := some 47) (v := ?_) (a' := ?_) #[true, true, true, true, true, true, false, false, true, false, false] rfl rfl (by kernel_rfl) (fun _ _ _ h => h) (Or.inl ⟨by rfl, ?_⟩) ?_ ?_
        rotate_left
        · intro w'
          go_simp
          with_reducible rfl
        rotate_left
        · simp only [Act.put, List.setIfInBounds_toArray, List.set_cons_zero, List.set_cons_succ, i64_w, i32_w]
          rfl
        refine pure_ (i := 6) (N := some 53) (v := ?_) (a' := ?_) #[true, true, true, true, true, true, true, false, true, false, false] rfl rfl (by kernel_rfl) (fun _ _ _ h => h) (Or.inl ⟨by rfl, ?_⟩) ?_ ?_
        rotate_left
        · intro w'
          go_simp
          with_reducible rfl
        rotate_left
        · simp only [Act.put, List.setIfInBounds_toArray, List.set_cons_zero, List.set_cons_succ, i64_w, i32_w]
          rfl
        refine pure_ (i := 7) (N := some 54) (v := ?_) (a' := ?_) #[true, true, true, true, true, true, true, true, true, false, false] rfl rfl (by kernel_rfl) (fun _ _ _ h => h) (Or.inl ⟨by rfl, ?_⟩) ?_ ?_
        rotate_left
        · intro w'
          go_simp
          with_reducible rfl
        rotate_left
        · simp only [Act.put, List.setIfInBounds_toArray, List.set_cons_zero, List.set_cons_succ, i64_w, i32_w]
          rfl
        refine norm_ ?_ (hcont ((.agg #[.slice Ax u.h.length cx, .slice Bx u.k.length dx, .int .u64 u.g.n, .int .u64 u.g.nans, .int .u64 u.g.lo, .int .u64 u.g.hi]), (.agg #[.slice Ay t.h.length cy, .slice By t.k.length dy, .int .u64 t.g.n, .int .u64 t.g.nans, .int .u64 t.g.lo, .int .u64 t.g.hi]), w1_.heap.size, Am, cm, Bm, dm) _ (Met.mk HX.out HGE.out HR.out HROB.out))
        simp only [putAll, Act.put, List.setIfInBounds_toArray, List.set_cons_zero, List.set_cons_succ]
    · skip
      refine value_ (v := .pointer (some ⟨Y2.heap.size, 0, none⟩)) (w1 := Y2.alloc (.cells #[.slice none 0 0, .slice none 0 0, .int .u64 0, .int .u64 0, .int .u64 0, .int .u64 0] 45)) (by rfl) rfl ?_ ?_
      · first | (go_simp; done) | (go_simp; rfl)
      refine hK.out _ _ ⟨blk_cell (blk_alloc HB1.out _) 0, blk_cell (blk_alloc HB1.out _) 1, blk_cell (blk_alloc HB1.out _) 2, blk_cell (blk_alloc HB1.out _) 3, blk_cell (blk_alloc HB1.out _) 4, blk_cell (blk_alloc HB1.out _) 5, blk_cell (blk_alloc HB2.out _) 0, blk_cell (blk_alloc HB2.out _) 1, blk_cell (blk_alloc HB2.out _) 2, blk_cell (blk_alloc HB2.out _) 3, blk_cell (blk_alloc HB2.out _) 4, blk_cell (blk_alloc HB2.out _) 5⟩ (fun _ => ?_)
      clear hK K
      refine norm_ (a' := ?_) ?_ ?_
      rotate_left
      · show Act.put _ (some 11) _ = _
        simp only [Act.put, List.setIfInBounds_toArray, List.set_cons_zero, List.set_cons_succ, i64_w, i32_w]
        rfl
      refine name_last (fun w10_ HN => ?_)
      have HB0_ := blk_alloc HB0.out (.cells #[.slice none 0 0, .slice none 0 0, .int .u64 0, .int .u64 0, .int .u64 0, .int .u64 0] 45)
      have HB1_ := blk_alloc HB1.out (.cells #[.slice none 0 0, .slice none 0 0, .int .u64 0, .int .u64 0, .int .u64 0, .int .u64 0] 45)
      have HB2_ := blk_alloc HB2.out (.cells #[.slice none 0 0, .slice none 0 0, .int .u64 0, .int .u64 0, .int .u64 0, .int .u64 0] 45)
      have HM0_ := blk_alloc HM0.out (.cells #[.slice none 0 0, .slice none 0 0, .int .u64 0, .int .u64 0, .int .u64 0, .int .u64 0] 45)
      have HM1_ := blk_alloc HM1.out (.cells #[.slice none 0 0, .slice none 0 0, .int .u64 0, .int .u64 0, .int .u64 0, .int .u64 0] 45)
      have P0_ := P0.out.alloc (.cells #[.slice none 0 0, .slice none 0 0, .int .u64 0, .int .u64 0, .int .u64 0, .int .u64 0] 45)
      have P1_ := P1.out.alloc (.cells #[.slice none 0 0, .slice none 0 0, .int .u64 0, .int .u64 0, .int .u64 0, .int .u64 0] 45)
      have P2_ := P2.out.alloc (.cells #[.slice none 0 0, .slice none 0 0, .int .u64 0, .int .u64 0, .int .u64 0, .int .u64 0] 45)
      have M0_ := M0.out.alloc (.cells #[.slice none 0 0, .slice none 0 0, .int .u64 0, .int .u64 0, .int .u64 0, .int .u64 0] 45)
      have M1_ := M1.out.alloc (.cells #[.slice none 0 0, .slice none 0 0, .int .u64 0, .int .u64 0, .int .u64 0, .int .u64 0] 45)
      have HL_ := below_alloc HL.out (.cells #[.slice none 0 0, .slice none 0 0, .int .u64 0, .int .u64 0, .int .u64 0, .int .u64 0] 45)
      have HX_ := below_alloc HX.out (.cells #[.slice none 0 0, .slice none 0 0, .int .u64 0, .int .u64 0, .int .u64 0, .int .u64 0] 45)
      have HR_ := blk_new Y2 (.cells #[.slice none 0 0, .slice none 0 0, .int .u64 0, .int .u64 0, .int .u64 0, .int .u64 0] 45)
      have HGE := Lib.hid HX.out.size
      rw [HN.out] at HB0_ HB1_ HB2_ HM0_ HM1_ P0_ P1_ P2_ M0_ M1_ HL_ HX_ HR_
      clear HB0
      have HB0 := Lib.hid HB0_; clear HB0_
      clear HB1
      have HB1 := Lib.hid HB1_; clear HB1_
      clear HB2
      have HB2 := Lib.hid HB2_; clear HB2_
      clear HM0
      have HM0 := Lib.hid HM0_; clear HM0_
      clear HM1
      have HM1 := Lib.hid HM1_; clear HM1_
      clear P0
      have P0 := Lib.hid P0_; clear P0_
      clear P1
      have P1 := Lib.hid P1_; clear P1_
      clear P2
      have P2 := Lib.hid P2_; clear P2_
      clear M0
      have M0 := Lib.hid M0_; clear M0_
      clear M1
      have M1 := Lib.hid M1_; clear M1_
      clear HL
      have HL := Lib.hid HL_; clear HL_
      clear HX
      have HX := Lib.hid HX_; clear HX_
      have HR := Lib.hid HR_; clear HR_
      clear HN
      refine one_ (i := 1) (N := some 49) #[true, true, true, false, false, false, false, false, true, false, false] rfl rfl (by kernel_rfl) (by decide) (fun K hK => ?_)
      refine goes_ Try.func39 (by kernel_rfl) rfl #[.agg #[.slice Au u.h.length cu, .slice Bu u.k.length du, .int .u64 u.g.n, .int .u64 u.g.nans, .int .u64 u.g.lo, .int .u64 u.g.hi]] (by rfl) rfl rfl (by (try simp only [List.map_toArray, List.map_cons, List.map_nil]); first | done | rfl) ?_
      (with_reducible refine (copyV P1.out).mono ?_)
      rintro e w11_ ⟨Ax, cx, Bx, dx, rfl, k_, hb⟩
      refine ⟨_, rfl, ?_⟩
      have HB0_ := (hb.block _ (blk_lt HB0.out)).trans HB0.out; clear HB0; have HB0 := Lib.hid HB0_; clear HB0_
      have HB1_ := (hb.block _ (blk_lt HB1.out)).trans HB1.out; clear HB1; have HB1 := Lib.hid HB1_; clear HB1_
      have HB2_ := (hb.block _ (blk_lt HB2.out)).trans HB2.out; clear HB2; have HB2 := Lib.hid HB2_; clear HB2_
      have HM0_ := (hb.block _ (blk_lt HM0.out)).trans HM0.out; clear HM0; have HM0 := Lib.hid HM0_; clear HM0_
      have HM1_ := (hb.block _ (blk_lt HM1.out)).trans HM1.out; clear HM1; have HM1 := Lib.hid HM1_; clear HM1_
      have P0_ := P0.out.below hb (Nat.le_refl _); clear P0; have P0 := Lib.hid P0_; clear P0_
      have P1_ := P1.out.below hb (Nat.le_refl _); clear P1; have P1 := Lib.hid P1_; clear P1_
      have P2_ := P2.out.below hb (Nat.le_refl _); clear P2; have P2 := Lib.hid P2_; clear P2_
      have M0_ := M0.out.below hb (Nat.le_refl _); clear M0; have M0 := Lib.hid M0_; clear M0_
      have M1_ := M1.out.below hb (Nat.le_refl _); clear M1; have M1 := Lib.hid M1_; clear M1_
      have HL_ := HL.out.trans (hb.mono HL.out.size); clear HL; have HL := Lib.hid HL_; clear HL_
      have HX_ := HX.out.trans (hb.mono HX.out.size); clear HX; have HX := Lib.hid HX_; clear HX_
      have HR_ := (hb.block _ (blk_lt HR.out)).trans HR.out; clear HR; have HR := Lib.hid HR_; clear HR_
      have Cx := Lib.hid k_; clear k_ hb
      refine hK.out _ _ ⟨blk_cell (HB1.out) 0, blk_cell (HB1.out) 1, blk_cell (HB1.out) 2, blk_cell (HB1.out) 3, blk_cell (HB1.out) 4, blk_cell (HB1.out) 5, blk_cell (HB2.out) 0, blk_cell (HB2.out) 1, blk_cell (HB2.out) 2, blk_cell (HB2.out) 3, blk_cell (HB2.out) 4, blk_cell (HB2.out) 5⟩ (fun _ => ?_)
      clear hK K
      refine norm_ (a' := ?_) ?_ ?_
      rotate_left
      · show Act.put _ (some 49) _ = _
        simp only [Act.put, List.setIfInBounds_toArray, List.set_cons_zero, List.set_cons_succ, i64_w, i32_w]
        rfl
      refine one_ (i := 3) (N := some 51) #[true, true, true, true, false, false, false, false, true, false, false] rfl rfl (by kernel_rfl) (by decide) (fun K hK => ?_)
      refine goes_ Try.func39 (by kernel_rfl) rfl #[.agg #[.slice At t.h.length ct, .slice Bt t.k.length dt, .int .u64 t.g.n, .int .u64 t.g.nans, .int .u64 t.g.lo, .int .u64 t.g.hi]] (by rfl) rfl rfl (by (try simp only [List.map_toArray, List.map_cons, List.map_nil]); first | done | rfl) ?_
      (with_reducible refine (copyV P2.out).mono ?_)
      rintro e w12_ ⟨Ay, cy, By, dy, rfl, k_, hb⟩
      refine ⟨_, rfl, ?_⟩
      have HB0_ := (hb.block _ (blk_lt HB0.out)).trans HB0.out; clear HB0; have HB0 := Lib.hid HB0_; clear HB0_
      have HB1_ := (hb.block _ (blk_lt HB1.out)).trans HB1.out; clear HB1; have HB1 := Lib.hid HB1_; clear HB1_
      have HB2_ := (hb.block _ (blk_lt HB2.out)).trans HB2.out; clear HB2; have HB2 := Lib.hid HB2_; clear HB2_
      have HM0_ := (hb.block _ (blk_lt HM0.out)).trans HM0.out; clear HM0; have HM0 := Lib.hid HM0_; clear HM0_
      have HM1_ := (hb.block _ (blk_lt HM1.out)).trans HM1.out; clear HM1; have HM1 := Lib.hid HM1_; clear HM1_
      have P0_ := P0.out.below hb (Nat.le_refl _); clear P0; have P0 := Lib.hid P0_; clear P0_
      have P1_ := P1.out.below hb (Nat.le_refl _); clear P1; have P1 := Lib.hid P1_; clear P1_
      have P2_ := P2.out.below hb (Nat.le_refl _); clear P2; have P2 := Lib.hid P2_; clear P2_
      have M0_ := M0.out.below hb (Nat.le_refl _); clear M0; have M0 := Lib.hid M0_; clear M0_
      have M1_ := M1.out.below hb (Nat.le_refl _); clear M1; have M1 := Lib.hid M1_; clear M1_
      have Cx_ := Cx.out.below hb (Nat.le_refl _); clear Cx; have Cx := Lib.hid Cx_; clear Cx_
      have HL_ := HL.out.trans (hb.mono HL.out.size); clear HL; have HL := Lib.hid HL_; clear HL_
      have HX_ := HX.out.trans (hb.mono HX.out.size); clear HX; have HX := Lib.hid HX_; clear HX_
      have HR_ := (hb.block _ (blk_lt HR.out)).trans HR.out; clear HR; have HR := Lib.hid HR_; clear HR_
      have Cy := Lib.hid k_; clear k_ hb
      refine hK.out _ _ ⟨blk_cell (HB1.out) 0, blk_cell (HB1.out) 1, blk_cell (HB1.out) 2, blk_cell (HB1.out) 3, blk_cell (HB1.out) 4, blk_cell (HB1.out) 5, blk_cell (HB2.out) 0, blk_cell (HB2.out) 1, blk_cell (HB2.out) 2, blk_cell (HB2.out) 3, blk_cell (HB2.out) 4, blk_cell (HB2.out) 5⟩ (fun _ => ?_)
      clear hK K
      refine norm_ (a' := ?_) ?_ ?_
      rotate_left
      · show Act.put _ (some 51) _ = _
        simp only [Act.put, List.setIfInBounds_toArray, List.set_cons_zero, List.set_cons_succ, i64_w, i32_w]
        rfl
      refine one_ (i := 4) (N := some 52) #[true, true, true, true, true, false, false, false, true, false, false] rfl rfl (by kernel_rfl) (by decide) (fun K hK => ?_)
      refine goes_ Try.func45 (by kernel_rfl) rfl #[.agg #[.slice Ax u.h.length cx, .slice Bx u.k.length dx, .int .u64 u.g.n, .int .u64 u.g.nans, .int .u64 u.g.lo, .int .u64 u.g.hi], .agg #[.slice Ay t.h.length cy, .slice By t.k.length dy, .int .u64 t.g.n, .int .u64 t.g.nans, .int .u64 t.g.lo, .int .u64 t.g.hi]] (by rfl) rfl rfl (by (try simp only [List.map_toArray, List.map_cons, List.map_nil]); first | done | rfl) ?_
      (with_reducible refine (merge_okR Cx.out Cy.out AL3.out EE3.out).mono ?_)
      rintro e w13_ ⟨Am, cm, Bm, dm, rfl, k_, hR_, hS_, hb⟩
      refine ⟨_, rfl, ?_⟩
      have HROB := Lib.hid (Rob.of_R k_ hR_ hS_ (blk_lt HR.out))
      have HB0_ := (hb.block _ (blk_lt HB0.out)).trans HB0.out; clear HB0; have HB0 := Lib.hid HB0_; clear HB0_
      have HB1_ := (hb.block _ (blk_lt HB1.out)).trans HB1.out; clear HB1; have HB1 := Lib.hid HB1_; clear HB1_
      have HB2_ := (hb.block _ (blk_lt HB2.out)).trans HB2.out; clear HB2; have HB2 := Lib.hid HB2_; clear HB2_
      have HM0_ := (hb.block _ (blk_lt HM0.out)).trans HM0.out; clear HM0; have HM0 := Lib.hid HM0_; clear HM0_
      have HM1_ := (hb.block _ (blk_lt HM1.out)).trans HM1.out; clear HM1; have HM1 := Lib.hid HM1_; clear HM1_
      have P0_ := P0.out.below hb (Nat.le_refl _); clear P0; have P0 := Lib.hid P0_; clear P0_
      have P1_ := P1.out.below hb (Nat.le_refl _); clear P1; have P1 := Lib.hid P1_; clear P1_
      have P2_ := P2.out.below hb (Nat.le_refl _); clear P2; have P2 := Lib.hid P2_; clear P2_
      have M0_ := M0.out.below hb (Nat.le_refl _); clear M0; have M0 := Lib.hid M0_; clear M0_
      have M1_ := M1.out.below hb (Nat.le_refl _); clear M1; have M1 := Lib.hid M1_; clear M1_
      have Cx_ := Cx.out.below hb (Nat.le_refl _); clear Cx; have Cx := Lib.hid Cx_; clear Cx_
      have Cy_ := Cy.out.below hb (Nat.le_refl _); clear Cy; have Cy := Lib.hid Cy_; clear Cy_
      have HL_ := HL.out.trans (hb.mono HL.out.size); clear HL; have HL := Lib.hid HL_; clear HL_
      have HX_ := HX.out.trans (hb.mono HX.out.size); clear HX; have HX := Lib.hid HX_; clear HX_
      have HR_ := (hb.block _ (blk_lt HR.out)).trans HR.out; clear HR; have HR := Lib.hid HR_; clear HR_
      clear k_ hR_ hS_ hb
      refine hK.out _ _ ⟨blk_cell (HB1.out) 0, blk_cell (HB1.out) 1, blk_cell (HB1.out) 2, blk_cell (HB1.out) 3, blk_cell (HB1.out) 4, blk_cell (HB1.out) 5, blk_cell (HB2.out) 0, blk_cell (HB2.out) 1, blk_cell (HB2.out) 2, blk_cell (HB2.out) 3, blk_cell (HB2.out) 4, blk_cell (HB2.out) 5⟩ (fun _ => ?_)
      clear hK K
      refine norm_ (a' := ?_) ?_ ?_
      rotate_left
      · show Act.put _ (some 52) _ = _
        simp only [Act.put, List.setIfInBounds_toArray, List.set_cons_zero, List.set_cons_succ, i64_w, i32_w]
        rfl
      refine pure_ (i := 5) (N := some 47) (v := ?_) (a' := ?_) #[true, true, true, true, true, true, false, false, true, false, false] rfl rfl (by kernel_rfl) (fun _ _ _ h => h) (Or.inl ⟨by rfl, ?_⟩) ?_ ?_
      rotate_left
      · intro w'
        go_simp
        with_reducible rfl
      rotate_left
      · simp only [Act.put, List.setIfInBounds_toArray, List.set_cons_zero, List.set_cons_succ, i64_w, i32_w]
        rfl
      refine pure_ (i := 6) (N := some 53) (v := ?_) (a' := ?_) #[true, true, true, true, true, true, true, false, true, false, false] rfl rfl (by kernel_rfl) (fun _ _ _ h => h) (Or.inl ⟨by rfl, ?_⟩) ?_ ?_
      rotate_left
      · intro w'
        go_simp
        with_reducible rfl
      rotate_left
      · simp only [Act.put, List.setIfInBounds_toArray, List.set_cons_zero, List.set_cons_succ, i64_w, i32_w]
        rfl
      refine pure_ (i := 7) (N := some 54) (v := ?_) (a' := ?_) #[true, true, true, true, true, true, true, true, true, false, false] rfl rfl (by kernel_rfl) (fun _ _ _ h => h) (Or.inl ⟨by rfl, ?_⟩) ?_ ?_
      rotate_left
      · intro w'
        go_simp
        with_reducible rfl
      rotate_left
      · simp only [Act.put, List.setIfInBounds_toArray, List.set_cons_zero, List.set_cons_succ, i64_w, i32_w]
        rfl
      refine norm_ ?_ (hcont ((.agg #[.slice Ax u.h.length cx, .slice Bx u.k.length dx, .int .u64 u.g.n, .int .u64 u.g.nans, .int .u64 u.g.lo, .int .u64 u.g.hi]), (.agg #[.slice Ay t.h.length cy, .slice By t.k.length dy, .int .u64 t.g.n, .int .u64 t.g.nans, .int .u64 t.g.lo, .int .u64 t.g.hi]), Y2.heap.size, Am, cm, Bm, dm) _ (Met.mk HX.out HGE.out HR.out HROB.out))
      simp only [putAll, Act.put, List.setIfInBounds_toArray, List.set_cons_zero, List.set_cons_succ]
  rintro ⟨v1_, v2_, rHM2, AM2, cM2, BM2, dM2⟩ w9_ hF
  obtain ⟨hbel, hge, hr, hrob⟩ := hF.out
  clear hF
  refine norm_ (a' := ?_) ?_ ?_
  rotate_left
  · simp only [putAll, Act.put, List.setIfInBounds_toArray, List.set_cons_zero, List.set_cons_succ]
    rfl
  refine last_ (i := 9) (N := none) #[true, true, true, true, true, true, true, true, true, true, false] rfl rfl (by kernel_rfl) (by decide) (fun K hK => ?_)
  have r0_ : w9_.cell? ⟨rHM2, 0, none⟩ = some (.slice none 0 0) := blk_cell hr 0; have q0_ := blk_frozen hr 0
  have r1_ : w9_.cell? ⟨rHM2, 1, none⟩ = some (.slice none 0 0) := blk_cell hr 1; have q1_ := blk_frozen hr 1
  have r2_ : w9_.cell? ⟨rHM2, 2, none⟩ = some (.int .u64 0) := blk_cell hr 2; have q2_ := blk_frozen hr 2
  have r3_ : w9_.cell? ⟨rHM2, 3, none⟩ = some (.int .u64 0) := blk_cell hr 3; have q3_ := blk_frozen hr 3
  have r4_ : w9_.cell? ⟨rHM2, 4, none⟩ = some (.int .u64 0) := blk_cell hr 4; have q4_ := blk_frozen hr 4
  have r5_ : w9_.cell? ⟨rHM2, 5, none⟩ = some (.int .u64 0) := blk_cell hr 5; have q5_ := blk_frozen hr 5
  have HRR := Lib.hid (And.intro hbel (And.intro hge (And.intro hr hrob))); clear hbel hge hr hrob
  refine skip_ (w1 := ?_) (by rfl) rfl ?_ ?_
  rotate_left
  · go_simp
    rfl
  refine hK.out _ _ ?_
  clear hK K r0_ q0_ r1_ q1_ r2_ q2_ r3_ q3_ r4_ q4_ r5_ q5_
  refine pure_ (i := 10) (N := some 12) (v := ?_) (a' := ?_) #[true, true, true, true, true, true, true, true, true, true, true] rfl rfl (by kernel_rfl) (fun _ _ _ h => h) (Or.inl ⟨by rfl, ?_⟩) ?_ ?_
  rotate_left
  · intro w'
    go_simp
    with_reducible rfl
  rotate_left
  · simp only [Act.put, List.setIfInBounds_toArray, List.set_cons_zero, List.set_cons_succ, i64_w, i32_w]
    rfl
  refine name_last (fun XHM2 HN => ?_)
  obtain ⟨n1_, n2_, n3_⟩ := fin6 HRR.out.1 HRR.out.2.1 HRR.out.2.2.1 (.slice AM2 s2.h.length cM2) (.slice BM2 s2.k.length dM2) (.int .u64 s2.g.n) (.int .u64 s2.g.nans) (.int .u64 s2.g.lo) (.int .u64 s2.g.hi)
  rw [HN.out] at n1_ n2_ n3_
  have k_ := HRR.out.2.2.2 XHM2 n3_
  have HB0_ := (n2_.block _ (blk_lt HB0.out)).trans HB0.out; clear HB0; have HB0 := Lib.hid HB0_; clear HB0_
  have HB1_ := (n2_.block _ (blk_lt HB1.out)).trans HB1.out; clear HB1; have HB1 := Lib.hid HB1_; clear HB1_
  have HB2_ := (n2_.block _ (blk_lt HB2.out)).trans HB2.out; clear HB2; have HB2 := Lib.hid HB2_; clear HB2_
  have HM0_ := (n2_.block _ (blk_lt HM0.out)).trans HM0.out; clear HM0; have HM0 := Lib.hid HM0_; clear HM0_
  have HM1_ := (n2_.block _ (blk_lt HM1.out)).trans HM1.out; clear HM1; have HM1 := Lib.hid HM1_; clear HM1_
  have P0_ := P0.out.below n2_ (Nat.le_refl _); clear P0; have P0 := Lib.hid P0_; clear P0_
  have P1_ := P1.out.below n2_ (Nat.le_refl _); clear P1; have P1 := Lib.hid P1_; clear P1_
  have P2_ := P2.out.below n2_ (Nat.le_refl _); clear P2; have P2 := Lib.hid P2_; clear P2_
  have M0_ := M0.out.below n2_ (Nat.le_refl _); clear M0; have M0 := Lib.hid M0_; clear M0_
  have M1_ := M1.out.below n2_ (Nat.le_refl _); clear M1; have M1 := Lib.hid M1_; clear M1_
  have HL_ := HL.out.trans (n2_.mono HL.out.size); clear HL; have HL := Lib.hid HL_; clear HL_
  have HM2 := Lib.hid n1_; have M2 := Lib.hid k_
  clear n1_ n2_ n3_ k_ HN HRR HX
  refine done_ (by kernel_rfl) ?_
  refine NoPanic.normal ?_
  go_wp2
  have HB0_ := blk_drew HB0.out; clear HB0; have HB0 := Lib.hid HB0_; clear HB0_
  have HB1_ := blk_drew HB1.out; clear HB1; have HB1 := Lib.hid HB1_; clear HB1_
  have HB2_ := blk_drew HB2.out; clear HB2; have HB2 := Lib.hid HB2_; clear HB2_
  have HM0_ := blk_drew HM0.out; clear HM0; have HM0 := Lib.hid HM0_; clear HM0_
  have HM1_ := blk_drew HM1.out; clear HM1; have HM1 := Lib.hid HM1_; clear HM1_
  have HM2_ := blk_drew HM2.out; clear HM2; have HM2 := Lib.hid HM2_; clear HM2_
  have P0_ := P0.out.below (below_drew (Below.refl _ _)) (Nat.le_refl _); clear P0; have P0 := Lib.hid P0_; clear P0_
  have P1_ := P1.out.below (below_drew (Below.refl _ _)) (Nat.le_refl _); clear P1; have P1 := Lib.hid P1_; clear P1_
  have P2_ := P2.out.below (below_drew (Below.refl _ _)) (Nat.le_refl _); clear P2; have P2 := Lib.hid P2_; clear P2_
  have M0_ := M0.out.below (below_drew (Below.refl _ _)) (Nat.le_refl _); clear M0; have M0 := Lib.hid M0_; clear M0_
  have M1_ := M1.out.below (below_drew (Below.refl _ _)) (Nat.le_refl _); clear M1; have M1 := Lib.hid M1_; clear M1_
  have M2_ := M2.out.below (below_drew (Below.refl _ _)) (Nat.le_refl _); clear M2; have M2 := Lib.hid M2_; clear M2_
  have HL_ := below_drew HL.out; clear HL; have HL := Lib.hid HL_; clear HL_
  refine wp_region_noPanic ?_
  refine start_ (n := 10) (S := fun w' => w'.cell? ⟨rHM0, 0, none⟩ = some (.slice AM0 s1.h.length cM0) ∧ w'.cell? ⟨rHM0, 1, none⟩ = some (.slice BM0 s1.k.length dM0) ∧ w'.cell? ⟨rHM0, 2, none⟩ = some (.int .u64 s1.g.n) ∧ w'.cell? ⟨rHM0, 3, none⟩ = some (.int .u64 s1.g.nans) ∧ w'.cell? ⟨rHM0, 4, none⟩ = some (.int .u64 s1.g.lo) ∧ w'.cell? ⟨rHM0, 5, none⟩ = some (.int .u64 s1.g.hi) ∧ w'.cell? ⟨w.heap.size + 1 + 1, 0, none⟩ = some (.slice At t.h.length ct) ∧ w'.cell? ⟨w.heap.size + 1 + 1, 1, none⟩ = some (.slice Bt t.k.length dt) ∧ w'.cell? ⟨w.heap.size + 1 + 1, 2, none⟩ = some (.int .u64 t.g.n) ∧ w'.cell? ⟨w.heap.size + 1 + 1, 3, none⟩ = some (.int .u64 t.g.nans) ∧ w'.cell? ⟨w.heap.size + 1 + 1, 4, none⟩ = some (.int .u64 t.g.lo) ∧ w'.cell? ⟨w.heap.size + 1 + 1, 5, none⟩ = some (.int .u64 t.g.hi)) (ds := [8]) #[false, false, false, false, false, false, false, false, false, false] (by kernel_rfl) rfl rfl ⟨blk_cell (HM0.out) 0, blk_cell (HM0.out) 1, blk_cell (HM0.out) 2, blk_cell (HM0.out) 3, blk_cell (HM0.out) 4, blk_cell (HM0.out) 5, blk_cell (HB2.out) 0, blk_cell (HB2.out) 1, blk_cell (HB2.out) 2, blk_cell (HB2.out) 3, blk_cell (HB2.out) 4, blk_cell (HB2.out) 5⟩ (fun hHeld => ?_)
  generalize XHM2.drew = Y3 at HB0 HB1 HB2 HM0 HM1 HM2 P0 P1 P2 M0 M1 M2 HL hHeld ⊢
  refine take_ (i := 0) (N := some 56) (v := ?_) (a' := ?_) #[true, false, false, false, false, false, false, false, false, false] rfl rfl (by kernel_rfl) (fun _ _ _ h => h) (Or.inl ⟨by rfl, ?_⟩) hHeld ?_ ?_
  rotate_left
  · rintro w' ⟨s0_, s1_, s2_, s3_, s4_, s5_, s6_, s7_, s8_, s9_, s10_, s11_⟩
    go_simp
    with_reducible rfl
  rotate_left
  · simp only [Act.put, List.setIfInBounds_toArray, List.set_cons_zero, List.set_cons_succ, i64_w, i32_w]
    rfl
  refine take_ (i := 1) (N := some 57) (v := ?_) (a' := ?_) #[true, true, false, false, false, false, false, false, false, false] rfl rfl (by kernel_rfl) (fun _ _ _ h => h) (Or.inl ⟨by rfl, ?_⟩) hHeld ?_ ?_
  rotate_left
  · rintro w' ⟨s0_, s1_, s2_, s3_, s4_, s5_, s6_, s7_, s8_, s9_, s10_, s11_⟩
    go_simp
    with_reducible rfl
  rotate_left
  · simp only [Act.put, List.setIfInBounds_toArray, List.set_cons_zero, List.set_cons_succ, i64_w, i32_w]
    rfl
  clear hHeld
  have HX := Lib.hid (Below.refl Y3.heap.size Y3)
  refine join_ 2 #[true, true, true, true, true, true, true, true, false, false] (fun s : Value × Value × Nat × Option Addr × Nat × Option Addr × Nat => [(58, s.1), (59, .tuple #[.agg #[.slice s.2.2.2.1 s3.h.length s.2.2.2.2.1, .slice s.2.2.2.2.2.1 s3.k.length s.2.2.2.2.2.2, .int .u64 s3.g.n, .int .u64 s3.g.nans, .int .u64 s3.g.lo, .int .u64 s3.g.hi], .int .i64 0]), (55, .tuple #[.agg #[.slice s.2.2.2.1 s3.h.length s.2.2.2.2.1, .slice s.2.2.2.2.2.1 s3.k.length s.2.2.2.2.2.2, .int .u64 s3.g.n, .int .u64 s3.g.nans, .int .u64 s3.g.lo, .int .u64 s3.g.hi], .int .i64 0]), (60, .agg #[.slice s.2.2.2.1 s3.h.length s.2.2.2.2.1, .slice s.2.2.2.2.2.1 s3.k.length s.2.2.2.2.2.2, .int .u64 s3.g.n, .int .u64 s3.g.nans, .int .u64 s3.g.lo, .int .u64 s3.g.hi]), (61, .int .i64 0), (13, .pointer (some ⟨s.2.2.1, 0, none⟩))]) (Met Y3 s3) ?_ (fun hcont => ?_)
  rotate_left
  · skip
    refine two_ (i := 2) (j := 7) (Ni := some 58) (Nj := some 13) #[true, true, true, false, false, false, false, false, false, false] #[true, true, false, false, false, false, false, true, false, false] rfl rfl rfl rfl (by kernel_rfl) (by decide) (by decide) (fun K hK => ?_) (fun K hK => ?_)
    · skip
      refine goes_ Try.func39 (by kernel_rfl) rfl #[.agg #[.slice At t.h.length ct, .slice Bt t.k.length dt, .int .u64 t.g.n, .int .u64 t.g.nans, .int .u64 t.g.lo, .int .u64 t.g.hi]] (by rfl) rfl rfl (by (try simp only [List.map_toArray, List.map_cons, List.map_nil]); first | done | rfl) ?_
      (with_reducible refine (copyV P2.out).mono ?_)
      rintro e w1_ ⟨Ax, cx, Bx, dx, rfl, k_, hb⟩
      refine ⟨_, rfl, ?_⟩
      have HB0_ := (hb.block _ (blk_lt HB0.out)).trans HB0.out; clear HB0; have HB0 := Lib.hid HB0_; clear HB0_
      have HB1_ := (hb.block _ (blk_lt HB1.out)).trans HB1.out; clear HB1; have HB1 := Lib.hid HB1_; clear HB1_
      have HB2_ := (hb.block _ (blk_lt HB2.out)).trans HB2.out; clear HB2; have HB2 := Lib.hid HB2_; clear HB2_
      have HM0_ := (hb.block _ (blk_lt HM0.out)).trans HM0.out; clear HM0; have HM0 := Lib.hid HM0_; clear HM0_
      have HM1_ := (hb.block _ (blk_lt HM1.out)).trans HM1.out; clear HM1; have HM1 := Lib.hid HM1_; clear HM1_
      have HM2_ := (hb.block _ (blk_lt HM2.out)).trans HM2.out; clear HM2; have HM2 := Lib.hid HM2_; clear HM2_
      have P0_ := P0.out.below hb (Nat.le_refl _); clear P0; have P0 := Lib.hid P0_; clear P0_
      have P1_ := P1.out.below hb (Nat.le_refl _); clear P1; have P1 := Lib.hid P1_; clear P1_
      have P2_ := P2.out.below hb (Nat.le_refl _); clear P2; have P2 := Lib.hid P2_; clear P2_
      have M0_ := M0.out.below hb (Nat.le_refl _); clear M0; have M0 := Lib.hid M0_; clear M0_
      have M1_ := M1.out.below hb (Nat.le_refl _); clear M1; have M1 := Lib.hid M1_; clear M1_
      have M2_ := M2.out.below hb (Nat.le_refl _); clear M2; have M2 := Lib.hid M2_; clear M2_
      have HL_ := HL.out.trans (hb.mono HL.out.size); clear HL; have HL := Lib.hid HL_; clear HL_
      have HX_ := HX.out.trans (hb.mono HX.out.size); clear HX; have HX := Lib.hid HX_; clear HX_
      have Cx := Lib.hid k_; clear k_ hb
      refine hK.out _ _ ⟨blk_cell (HM0.out) 0, blk_cell (HM0.out) 1, blk_cell (HM0.out) 2, blk_cell (HM0.out) 3, blk_cell (HM0.out) 4, blk_cell (HM0.out) 5, blk_cell (HB2.out) 0, blk_cell (HB2.out) 1, blk_cell (HB2.out) 2, blk_cell (HB2.out) 3, blk_cell (HB2.out) 4, blk_cell (HB2.out) 5⟩ (fun _ => ?_)
      clear hK K
      refine norm_ (a' := ?_) ?_ ?_
      rotate_left
      · show Act.put _ (some 58) _ = _
        simp only [Act.put, List.setIfInBounds_toArray, List.set_cons_zero, List.set_cons_succ, i64_w, i32_w]
        rfl
      refine two_ (i := 3) (j := 7) (Ni := some 59) (Nj := some 13) #[true, true, true, true, false, false, false, false, false, false] #[true, true, true, false, false, false, false, true, false, false] rfl rfl rfl rfl (by kernel_rfl) (by decide) (by decide) (fun K hK => ?_) (fun K hK => ?_)
      · skip
        refine goes_ Try.func45 (by kernel_rfl) rfl #[.agg #[.slice AM0 s1.h.length cM0, .slice BM0 s1.k.length dM0, .int .u64 s1.g.n, .int .u64 s1.g.nans, .int .u64 s1.g.lo, .int .u64 s1.g.hi], .agg #[.slice Ax t.h.length cx, .slice Bx t.k.length dx, .int .u64 t.g.n, .int .u64 t.g.nans, .int .u64 t.g.lo, .int .u64 t.g.hi]] (by rfl) rfl rfl (by (try simp only [List.map_toArray, List.map_cons, List.map_nil]); first | done | rfl) ?_
        (with_reducible refine (merge_okR M0.out Cx.out AL4.out EE4.out).mono ?_)
        rintro e w2_ ⟨Am, cm, Bm, dm, rfl, k_, hR_, hS_, hb⟩
        refine ⟨_, rfl, ?_⟩
        have HB0_ := (hb.block _ (blk_lt HB0.out)).trans HB0.out; clear HB0; have HB0 := Lib.hid HB0_; clear HB0_
        have HB1_ := (hb.block _ (blk_lt HB1.out)).trans HB1.out; clear HB1; have HB1 := Lib.hid HB1_; clear HB1_
        have HB2_ := (hb.block _ (blk_lt HB2.out)).trans HB2.out; clear HB2; have HB2 := Lib.hid HB2_; clear HB2_
        have HM0_ := (hb.block _ (blk_lt HM0.out)).trans HM0.out; clear HM0; have HM0 := Lib.hid HM0_; clear HM0_
        have HM1_ := (hb.block _ (blk_lt HM1.out)).trans HM1.out; clear HM1; have HM1 := Lib.hid HM1_; clear HM1_
        have HM2_ := (hb.block _ (blk_lt HM2.out)).trans HM2.out; clear HM2; have HM2 := Lib.hid HM2_; clear HM2_
        have P0_ := P0.out.below hb (Nat.le_refl _); clear P0; have P0 := Lib.hid P0_; clear P0_
        have P1_ := P1.out.below hb (Nat.le_refl _); clear P1; have P1 := Lib.hid P1_; clear P1_
        have P2_ := P2.out.below hb (Nat.le_refl _); clear P2; have P2 := Lib.hid P2_; clear P2_
        have M0_ := M0.out.below hb (Nat.le_refl _); clear M0; have M0 := Lib.hid M0_; clear M0_
        have M1_ := M1.out.below hb (Nat.le_refl _); clear M1; have M1 := Lib.hid M1_; clear M1_
        have M2_ := M2.out.below hb (Nat.le_refl _); clear M2; have M2 := Lib.hid M2_; clear M2_
        have Cx_ := Cx.out.below hb (Nat.le_refl _); clear Cx; have Cx := Lib.hid Cx_; clear Cx_
        have HL_ := HL.out.trans (hb.mono HL.out.size); clear HL; have HL := Lib.hid HL_; clear HL_
        have HX_ := HX.out.trans (hb.mono HX.out.size); clear HX; have HX := Lib.hid HX_; clear HX_
        have MM := Lib.hid k_
        clear k_ hR_ hS_ hb
        refine hK.out _ _ ⟨blk_cell (HM0.out) 0, blk_cell (HM0.out) 1, blk_cell (HM0.out) 2, blk_cell (HM0.out) 3, blk_cell (HM0.out) 4, blk_cell (HM0.out) 5, blk_cell (HB2.out) 0, blk_cell (HB2.out) 1, blk_cell (HB2.out) 2, blk_cell (HB2.out) 3, blk_cell (HB2.out) 4, blk_cell (HB2.out) 5⟩ (fun _ => ?_)
        clear hK K
        refine norm_ (a' := ?_) ?_ ?_
        rotate_left
        · show Act.put _ (some 59) _ = _
          simp only [Act.put, List.setIfInBounds_toArray, List.set_cons_zero, List.set_cons_succ, i64_w, i32_w]
          rfl
        refine pure_ (i := 4) (N := some 55) (v := ?_) (a' := ?_) #[true, true, true, true, true, false, false, false, false, false] rfl rfl (by kernel_rfl) (fun _ _ _ h => h) (Or.inl ⟨by rfl, ?_⟩) ?_ ?_
        rotate_left
        · intro w'
          go_simp
          with_reducible rfl
        rotate_left
        · simp only [Act.put, List.setIfInBounds_toArray, List.set_cons_zero, List.set_cons_succ, i64_w, i32_w]
          rfl
        refine pure_ (i := 5) (N := some 60) (v := ?_) (a' := ?_) #[true, true, true, true, true, true, false, false, false, false] rfl rfl (by kernel_rfl) (fun _ _ _ h => h) (Or.inl ⟨by rfl, ?_⟩) ?_ ?_
        rotate_left
        · intro w'
          go_simp
          with_reducible rfl
        rotate_left
        · simp only [Act.put, List.setIfInBounds_toArray, List.set_cons_zero, List.set_cons_succ, i64_w, i32_w]
          rfl
        refine pure_ (i := 6) (N := some 61) (v := ?_) (a' := ?_) #[true, true, true, true, true, true, true, false, false, false] rfl rfl (by kernel_rfl) (fun _ _ _ h => h) (Or.inl ⟨by rfl, ?_⟩) ?_ ?_
        rotate_left
        · intro w'
          go_simp
          with_reducible rfl
        rotate_left
        · simp only [Act.put, List.setIfInBounds_toArray, List.set_cons_zero, List.set_cons_succ, i64_w, i32_w]
          rfl
        refine one_ (i := 7) (N := some 13) #[true, true, true, true, true, true, true, true, false, false] rfl rfl (by kernel_rfl) (by decide) (fun K hK => ?_)
        refine value_ (v := .pointer (some ⟨w2_.heap.size, 0, none⟩)) (w1 := w2_.alloc (.cells #[.slice none 0 0, .slice none 0 0, .int .u64 0, .int .u64 0, .int .u64 0, .int .u64 0] 45)) (by rfl) rfl ?_ ?_
        · first | (go_simp; done) | (go_simp; rfl)
        refine hK.out _ _ ⟨blk_cell (blk_alloc HM0.out _) 0, blk_cell (blk_alloc HM0.out _) 1, blk_cell (blk_alloc HM0.out _) 2, blk_cell (blk_alloc HM0.out _) 3, blk_cell (blk_alloc HM0.out _) 4, blk_cell (blk_alloc HM0.out _) 5, blk_cell (blk_alloc HB2.out _) 0, blk_cell (blk_alloc HB2.out _) 1, blk_cell (blk_alloc HB2.out _) 2, blk_cell (blk_alloc HB2.out _) 3, blk_cell (blk_alloc HB2.out _) 4, blk_cell (blk_alloc HB2.out _) 5⟩ (fun _ => ?_)
        clear hK K
        refine norm_ (a' := ?_) ?_ ?_
        rotate_left
        · show Act.put _ (some 13) _ = _
          simp only [Act.put, List.setIfInBounds_toArray, List.set_cons_zero, List.set_cons_succ, i64_w, i32_w]
          rfl
        refine name_last (fun w3_ HN => ?_)
        have HB0_ := blk_alloc HB0.out (.cells #[.slice none 0 0, .slice none 0 0, .int .u64 0, .int .u64 0, .int .u64 0, .int .u64 0] 45)
        have HB1_ := blk_alloc HB1.out (.cells #[.slice none 0 0, .slice none 0 0, .int .u64 0, .int .u64 0, .int .u64 0, .int .u64 0] 45)
        have HB2_ := blk_alloc HB2.out (.cells #[.slice none 0 0, .slice none 0 0, .int .u64 0, .int .u64 0, .int .u64 0, .int .u64 0] 45)
        have HM0_ := blk_alloc HM0.out (.cells #[.slice none 0 0, .slice none 0 0, .int .u64 0, .int .u64 0, .int .u64 0, .int .u64 0] 45)
        have HM1_ := blk_alloc HM1.out (.cells #[.slice none 0 0, .slice none 0 0, .int .u64 0, .int .u64 0, .int .u64 0, .int .u64 0] 45)
        have HM2_ := blk_alloc HM2.out (.cells #[.slice none 0 0, .slice none 0 0, .int .u64 0, .int .u64 0, .int .u64 0, .int .u64 0] 45)
        have P0_ := P0.out.alloc (.cells #[.slice none 0 0, .slice none 0 0, .int .u64 0, .int .u64 0, .int .u64 0, .int .u64 0] 45)
        have P1_ := P1.out.alloc (.cells #[.slice none 0 0, .slice none 0 0, .int .u64 0, .int .u64 0, .int .u64 0, .int .u64 0] 45)
        have P2_ := P2.out.alloc (.cells #[.slice none 0 0, .slice none 0 0, .int .u64 0, .int .u64 0, .int .u64 0, .int .u64 0] 45)
        have M0_ := M0.out.alloc (.cells #[.slice none 0 0, .slice none 0 0, .int .u64 0, .int .u64 0, .int .u64 0, .int .u64 0] 45)
        have M1_ := M1.out.alloc (.cells #[.slice none 0 0, .slice none 0 0, .int .u64 0, .int .u64 0, .int .u64 0, .int .u64 0] 45)
        have M2_ := M2.out.alloc (.cells #[.slice none 0 0, .slice none 0 0, .int .u64 0, .int .u64 0, .int .u64 0, .int .u64 0] 45)
        have Cx_ := Cx.out.alloc (.cells #[.slice none 0 0, .slice none 0 0, .int .u64 0, .int .u64 0, .int .u64 0, .int .u64 0] 45)
        have HL_ := below_alloc HL.out (.cells #[.slice none 0 0, .slice none 0 0, .int .u64 0, .int .u64 0, .int .u64 0, .int .u64 0] 45)
        have HX_ := below_alloc HX.out (.cells #[.slice none 0 0, .slice none 0 0, .int .u64 0, .int .u64 0, .int .u64 0, .int .u64 0] 45)
        have HR_ := blk_new w2_ (.cells #[.slice none 0 0, .slice none 0 0, .int .u64 0, .int .u64 0, .int .u64 0, .int .u64 0] 45)
        have HROB_ := Rob.of_alloc MM.out (.cells #[.slice none 0 0, .slice none 0 0, .int .u64 0, .int .u64 0, .int .u64 0, .int .u64 0] 45)
        have HGE := Lib.hid HX.out.size
        rw [HN.out] at HB0_ HB1_ HB2_ HM0_ HM1_ HM2_ P0_ P1_ P2_ M0_ M1_ M2_ Cx_ HL_ HX_ HR_ HROB_
        clear HB0
        have HB0 := Lib.hid HB0_; clear HB0_
        clear HB1
        have HB1 := Lib.hid HB1_; clear HB1_
        clear HB2
        have HB2 := Lib.hid HB2_; clear HB2_
        clear HM0
        have HM0 := Lib.hid HM0_; clear HM0_
        clear HM1
        have HM1 := Lib.hid HM1_; clear HM1_
        clear HM2
        have HM2 := Lib.hid HM2_; clear HM2_
        clear P0
        have P0 := Lib.hid P0_; clear P0_
        clear P1
        have P1 := Lib.hid P1_; clear P1_
        clear P2
        have P2 := Lib.hid P2_; clear P2_
        clear M0
        have M0 := Lib.hid M0_; clear M0_
        clear M1
        have M1 := Lib.hid M1_; clear M1_
        clear M2
        have M2 := Lib.hid M2_; clear M2_
        clear Cx
        have Cx := Lib.hid Cx_; clear Cx_
        clear HL
        have HL := Lib.hid HL_; clear HL_
        clear HX
        have HX := Lib.hid HX_; clear HX_
        have HR := Lib.hid HR_; clear HR_
        have HROB := Lib.hid HROB_; clear HROB_
        clear HN MM
        refine norm_ ?_ (hcont ((.agg #[.slice Ax t.h.length cx, .slice Bx t.k.length dx, .int .u64 t.g.n, .int .u64 t.g.nans, .int .u64 t.g.lo, .int .u64 t.g.hi]), (.bool true), w2_.heap.size, Am, cm, Bm, dm) _ (Met.mk HX.out HGE.out HR.out HROB.out))
        simp only [putAll, Act.put, List.setIfInBounds_toArray, List.set_cons_zero, List.set_cons_succ]
      · skip
        refine value_ (v := .pointer (some ⟨w1_.heap.size, 0, none⟩)) (w1 := w1_.alloc (.cells #[.slice none 0 0, .slice none 0 0, .int .u64 0, .int .u64 0, .int .u64 0, .int .u64 0] 45)) (by rfl) rfl ?_ ?_
        · first | (go_simp; done) | (go_simp; rfl)
        refine hK.out _ _ ⟨blk_cell (blk_alloc HM0.out _) 0, blk_cell (blk_alloc HM0.out _) 1, blk_cell (blk_alloc HM0.out _) 2, blk_cell (blk_alloc HM0.out _) 3, blk_cell (blk_alloc HM0.out _) 4, blk_cell (blk_alloc HM0.out _) 5, blk_cell (blk_alloc HB2.out _) 0, blk_cell (blk_alloc HB2.out _) 1, blk_cell (blk_alloc HB2.out _) 2, blk_cell (blk_alloc HB2.out _) 3, blk_cell (blk_alloc HB2.out _) 4, blk_cell (blk_alloc HB2.out _) 5⟩ (fun _ => ?_)
        clear hK K
        refine norm_ (a' := ?_) ?_ ?_
        rotate_left
        · show Act.put _ (some 13) _ = _
          simp only [Act.put, List.setIfInBounds_toArray, List.set_cons_zero, List.set_cons_succ, i64_w, i32_w]
          rfl
        refine name_last (fun w4_ HN => ?_)
        have HB0_ := blk_alloc HB0.out (.cells #[.slice none 0 0, .slice none 0 0, .int .u64 0, .int .u64 0, .int .u64 0, .int .u64 0] 45)
        have HB1_ := blk_alloc HB1.out (.cells #[.slice none 0 0, .slice none 0 0, .int .u64 0, .int .u64 0, .int .u64 0, .int .u64 0] 45)
        have HB2_ := blk_alloc HB2.out (.cells #[.slice none 0 0, .slice none 0 0, .int .u64 0, .int .u64 0, .int .u64 0, .int .u64 0] 45)
        have HM0_ := blk_alloc HM0.out (.cells #[.slice none 0 0, .slice none 0 0, .int .u64 0, .int .u64 0, .int .u64 0, .int .u64 0] 45)
        have HM1_ := blk_alloc HM1.out (.cells #[.slice none 0 0, .slice none 0 0, .int .u64 0, .int .u64 0, .int .u64 0, .int .u64 0] 45)
        have HM2_ := blk_alloc HM2.out (.cells #[.slice none 0 0, .slice none 0 0, .int .u64 0, .int .u64 0, .int .u64 0, .int .u64 0] 45)
        have P0_ := P0.out.alloc (.cells #[.slice none 0 0, .slice none 0 0, .int .u64 0, .int .u64 0, .int .u64 0, .int .u64 0] 45)
        have P1_ := P1.out.alloc (.cells #[.slice none 0 0, .slice none 0 0, .int .u64 0, .int .u64 0, .int .u64 0, .int .u64 0] 45)
        have P2_ := P2.out.alloc (.cells #[.slice none 0 0, .slice none 0 0, .int .u64 0, .int .u64 0, .int .u64 0, .int .u64 0] 45)
        have M0_ := M0.out.alloc (.cells #[.slice none 0 0, .slice none 0 0, .int .u64 0, .int .u64 0, .int .u64 0, .int .u64 0] 45)
        have M1_ := M1.out.alloc (.cells #[.slice none 0 0, .slice none 0 0, .int .u64 0, .int .u64 0, .int .u64 0, .int .u64 0] 45)
        have M2_ := M2.out.alloc (.cells #[.slice none 0 0, .slice none 0 0, .int .u64 0, .int .u64 0, .int .u64 0, .int .u64 0] 45)
        have Cx_ := Cx.out.alloc (.cells #[.slice none 0 0, .slice none 0 0, .int .u64 0, .int .u64 0, .int .u64 0, .int .u64 0] 45)
        have HL_ := below_alloc HL.out (.cells #[.slice none 0 0, .slice none 0 0, .int .u64 0, .int .u64 0, .int .u64 0, .int .u64 0] 45)
        have HX_ := below_alloc HX.out (.cells #[.slice none 0 0, .slice none 0 0, .int .u64 0, .int .u64 0, .int .u64 0, .int .u64 0] 45)
        have HR_ := blk_new w1_ (.cells #[.slice none 0 0, .slice none 0 0, .int .u64 0, .int .u64 0, .int .u64 0, .int .u64 0] 45)
        have HGE := Lib.hid HX.out.size
        rw [HN.out] at HB0_ HB1_ HB2_ HM0_ HM1_ HM2_ P0_ P1_ P2_ M0_ M1_ M2_ Cx_ HL_ HX_ HR_
        clear HB0
        have HB0 := Lib.hid HB0_; clear HB0_
        clear HB1
        have HB1 := Lib.hid HB1_; clear HB1_
        clear HB2
        have HB2 := Lib.hid HB2_; clear HB2_
        clear HM0
        have HM0 := Lib.hid HM0_; clear HM0_
        clear HM1
        have HM1 := Lib.hid HM1_; clear HM1_
        clear HM2
        have HM2 := Lib.hid HM2_; clear HM2_
        clear P0
        have P0 := Lib.hid P0_; clear P0_
        clear P1
        have P1 := Lib.hid P1_; clear P1_
        clear P2
        have P2 := Lib.hid P2_; clear P2_
        clear M0
        have M0 := Lib.hid M0_; clear M0_
        clear M1
        have M1 := Lib.hid M1_; clear M1_
        clear M2
        have M2 := Lib.hid M2_; clear M2_
        clear Cx
        have Cx := Lib.hid Cx_; clear Cx_
        clear HL
        have HL := Lib.hid HL_; clear HL_
        clear HX
        have HX := Lib.hid HX_; clear HX_
        have HR := Lib.hid HR_; clear HR_
        clear HN
        refine one_ (i := 3) (N := some 59) #[true, true, true, true, false, false, false, true, false, false] rfl rfl (by kernel_rfl) (by decide) (fun K hK => ?_)
        refine goes_ Try.func45 (by kernel_rfl) rfl #[.agg #[.slice AM0 s1.h.length cM0, .slice BM0 s1.k.length dM0, .int .u64 s1.g.n, .int .u64 s1.g.nans, .int .u64 s1.g.lo, .int .u64 s1.g.hi], .agg #[.slice Ax t.h.length cx, .slice Bx t.k.length dx, .int .u64 t.g.n, .int .u64 t.g.nans, .int .u64 t.g.lo, .int .u64 t.g.hi]] (by rfl) rfl rfl (by (try simp only [List.map_toArray, List.map_cons, List.map_nil]); first | done | rfl) ?_
        (with_reducible refine (merge_okR M0.out Cx.out AL4.out EE4.out).mono ?_)
        rintro e w5_ ⟨Am, cm, Bm, dm, rfl, k_, hR_, hS_, hb⟩
        refine ⟨_, rfl, ?_⟩
        have HROB := Lib.hid (Rob.of_R k_ hR_ hS_ (blk_lt HR.out))
        have HB0_ := (hb.block _ (blk_lt HB0.out)).trans HB0.out; clear HB0; have HB0 := Lib.hid HB0_; clear HB0_
        have HB1_ := (hb.block _ (blk_lt HB1.out)).trans HB1.out; clear HB1; have HB1 := Lib.hid HB1_; clear HB1_
        have HB2_ := (hb.block _ (blk_lt HB2.out)).trans HB2.out; clear HB2; have HB2 := Lib.hid HB2_; clear HB2_
        have HM0_ := (hb.block _ (blk_lt HM0.out)).trans HM0.out; clear HM0; have HM0 := Lib.hid HM0_; clear HM0_
        have HM1_ := (hb.block _ (blk_lt HM1.out)).trans HM1.out; clear HM1; have HM1 := Lib.hid HM1_; clear HM1_
        have HM2_ := (hb.block _ (blk_lt HM2.out)).trans HM2.out; clear HM2; have HM2 := Lib.hid HM2_; clear HM2_
        have P0_ := P0.out.below hb (Nat.le_refl _); clear P0; have P0 := Lib.hid P0_; clear P0_
        have P1_ := P1.out.below hb (Nat.le_refl _); clear P1; have P1 := Lib.hid P1_; clear P1_
        have P2_ := P2.out.below hb (Nat.le_refl _); clear P2; have P2 := Lib.hid P2_; clear P2_
        have M0_ := M0.out.below hb (Nat.le_refl _); clear M0; have M0 := Lib.hid M0_; clear M0_
        have M1_ := M1.out.below hb (Nat.le_refl _); clear M1; have M1 := Lib.hid M1_; clear M1_
        have M2_ := M2.out.below hb (Nat.le_refl _); clear M2; have M2 := Lib.hid M2_; clear M2_
        have Cx_ := Cx.out.below hb (Nat.le_refl _); clear Cx; have Cx := Lib.hid Cx_; clear Cx_
        have HL_ := HL.out.trans (hb.mono HL.out.size); clear HL; have HL := Lib.hid HL_; clear HL_
        have HX_ := HX.out.trans (hb.mono HX.out.size); clear HX; have HX := Lib.hid HX_; clear HX_
        have HR_ := (hb.block _ (blk_lt HR.out)).trans HR.out; clear HR; have HR := Lib.hid HR_; clear HR_
        clear k_ hR_ hS_ hb
        refine hK.out _ _ ⟨blk_cell (HM0.out) 0, blk_cell (HM0.out) 1, blk_cell (HM0.out) 2, blk_cell (HM0.out) 3, blk_cell (HM0.out) 4, blk_cell (HM0.out) 5, blk_cell (HB2.out) 0, blk_cell (HB2.out) 1, blk_cell (HB2.out) 2, blk_cell (HB2.out) 3, blk_cell (HB2.out) 4, blk_cell (HB2.out) 5⟩ (fun _ => ?_)
        clear hK K
        refine norm_ (a' := ?_) ?_ ?_
        rotate_left
        · show Act.put _ (some 59) _ = _
          simp only [Act.put, List.setIfInBounds_toArray, List.set_cons_zero, List.set_cons_succ, i64_w, i32_w]
          rfl
        refine pure_ (i := 4) (N := some 55) (v := ?_) (a' := ?_) #[true, true, true, true, true, false, false, true, false, false] rfl rfl (by kernel_rfl) (fun _ _ _ h => h) (Or.inl ⟨by rfl, ?_⟩) ?_ ?_
        rotate_left
        · intro w'
          go_simp
          with_reducible rfl
        rotate_left
        · simp only [Act.put, List.setIfInBounds_toArray, List.set_cons_zero, List.set_cons_succ, i64_w, i32_w]
          rfl
        refine pure_ (i := 5) (N := some 60) (v := ?_) (a' := ?_) #[true, true, true, true, true, true, false, true, false, false] rfl rfl (by kernel_rfl) (fun _ _ _ h => h) (Or.inl ⟨by rfl, ?_⟩) ?_ ?_
        rotate_left
        · intro w'
          go_simp
          with_reducible rfl
        rotate_left
        · simp only [Act.put, List.setIfInBounds_toArray, List.set_cons_zero, List.set_cons_succ, i64_w, i32_w]
          rfl
        refine pure_ (i := 6) (N := some 61) (v := ?_) (a' := ?_) #[true, true, true, true, true, true, true, true, false, false] rfl rfl (by kernel_rfl) (fun _ _ _ h => h) (Or.inl ⟨by rfl, ?_⟩) ?_ ?_
        rotate_left
        · intro w'
          go_simp
          with_reducible rfl
        rotate_left
        · simp only [Act.put, List.setIfInBounds_toArray, List.set_cons_zero, List.set_cons_succ, i64_w, i32_w]
          rfl
        refine norm_ ?_ (hcont ((.agg #[.slice Ax t.h.length cx, .slice Bx t.k.length dx, .int .u64 t.g.n, .int .u64 t.g.nans, .int .u64 t.g.lo, .int .u64 t.g.hi]), (.bool true), w1_.heap.size, Am, cm, Bm, dm) _ (Met.mk HX.out HGE.out HR.out HROB.out))
        simp only [putAll, Act.put, List.setIfInBounds_toArray, List.set_cons_zero, List.set_cons_succ]
    · skip
      refine value_ (v := .pointer (some ⟨Y3.heap.size, 0, none⟩)) (w1 := Y3.alloc (.cells #[.slice none 0 0, .slice none 0 0, .int .u64 0, .int .u64 0, .int .u64 0, .int .u64 0] 45)) (by rfl) rfl ?_ ?_
      · first | (go_simp; done) | (go_simp; rfl)
      refine hK.out _ _ ⟨blk_cell (blk_alloc HM0.out _) 0, blk_cell (blk_alloc HM0.out _) 1, blk_cell (blk_alloc HM0.out _) 2, blk_cell (blk_alloc HM0.out _) 3, blk_cell (blk_alloc HM0.out _) 4, blk_cell (blk_alloc HM0.out _) 5, blk_cell (blk_alloc HB2.out _) 0, blk_cell (blk_alloc HB2.out _) 1, blk_cell (blk_alloc HB2.out _) 2, blk_cell (blk_alloc HB2.out _) 3, blk_cell (blk_alloc HB2.out _) 4, blk_cell (blk_alloc HB2.out _) 5⟩ (fun _ => ?_)
      clear hK K
      refine norm_ (a' := ?_) ?_ ?_
      rotate_left
      · show Act.put _ (some 13) _ = _
        simp only [Act.put, List.setIfInBounds_toArray, List.set_cons_zero, List.set_cons_succ, i64_w, i32_w]
        rfl
      refine name_last (fun w6_ HN => ?_)
      have HB0_ := blk_alloc HB0.out (.cells #[.slice none 0 0, .slice none 0 0, .int .u64 0, .int .u64 0, .int .u64 0, .int .u64 0] 45)
      have HB1_ := blk_alloc HB1.out (.cells #[.slice none 0 0, .slice none 0 0, .int .u64 0, .int .u64 0, .int .u64 0, .int .u64 0] 45)
      have HB2_ := blk_alloc HB2.out (.cells #[.slice none 0 0, .slice none 0 0, .int .u64 0, .int .u64 0, .int .u64 0, .int .u64 0] 45)
      have HM0_ := blk_alloc HM0.out (.cells #[.slice none 0 0, .slice none 0 0, .int .u64 0, .int .u64 0, .int .u64 0, .int .u64 0] 45)
      have HM1_ := blk_alloc HM1.out (.cells #[.slice none 0 0, .slice none 0 0, .int .u64 0, .int .u64 0, .int .u64 0, .int .u64 0] 45)
      have HM2_ := blk_alloc HM2.out (.cells #[.slice none 0 0, .slice none 0 0, .int .u64 0, .int .u64 0, .int .u64 0, .int .u64 0] 45)
      have P0_ := P0.out.alloc (.cells #[.slice none 0 0, .slice none 0 0, .int .u64 0, .int .u64 0, .int .u64 0, .int .u64 0] 45)
      have P1_ := P1.out.alloc (.cells #[.slice none 0 0, .slice none 0 0, .int .u64 0, .int .u64 0, .int .u64 0, .int .u64 0] 45)
      have P2_ := P2.out.alloc (.cells #[.slice none 0 0, .slice none 0 0, .int .u64 0, .int .u64 0, .int .u64 0, .int .u64 0] 45)
      have M0_ := M0.out.alloc (.cells #[.slice none 0 0, .slice none 0 0, .int .u64 0, .int .u64 0, .int .u64 0, .int .u64 0] 45)
      have M1_ := M1.out.alloc (.cells #[.slice none 0 0, .slice none 0 0, .int .u64 0, .int .u64 0, .int .u64 0, .int .u64 0] 45)
      have M2_ := M2.out.alloc (.cells #[.slice none 0 0, .slice none 0 0, .int .u64 0, .int .u64 0, .int .u64 0, .int .u64 0] 45)
      have HL_ := below_alloc HL.out (.cells #[.slice none 0 0, .slice none 0 0, .int .u64 0, .int .u64 0, .int .u64 0, .int .u64 0] 45)
      have HX_ := below_alloc HX.out (.cells #[.slice none 0 0, .slice none 0 0, .int .u64 0, .int .u64 0, .int .u64 0, .int .u64 0] 45)
      have HR_ := blk_new Y3 (.cells #[.slice none 0 0, .slice none 0 0, .int .u64 0, .int .u64 0, .int .u64 0, .int .u64 0] 45)
      have HGE := Lib.hid HX.out.size
      rw [HN.out] at HB0_ HB1_ HB2_ HM0_ HM1_ HM2_ P0_ P1_ P2_ M0_ M1_ M2_ HL_ HX_ HR_
      clear HB0
      have HB0 := Lib.hid HB0_; clear HB0_
      clear HB1
      have HB1 := Lib.hid HB1_; clear HB1_
      clear HB2
      have HB2 := Lib.hid HB2_; clear HB2_
      clear HM0
      have HM0 := Lib.hid HM0_; clear HM0_
      clear HM1
      have HM1 := Lib.hid HM1_; clear HM1_
      clear HM2
      have HM2 := Lib.hid HM2_; clear HM2_
      clear P0
      have P0 := Lib.hid P0_; clear P0_
      clear P1
      have P1 := Lib.hid P1_; clear P1_
      clear P2
      have P2 := Lib.hid P2_; clear P2_
      clear M0
      have M0 := Lib.hid M0_; clear M0_
      clear M1
      have M1 := Lib.hid M1_; clear M1_
      clear M2
      have M2 := Lib.hid M2_; clear M2_
      clear HL
      have HL := Lib.hid HL_; clear HL_
      clear HX
      have HX := Lib.hid HX_; clear HX_
      have HR := Lib.hid HR_; clear HR_
      clear HN
      refine one_ (i := 2) (N := some 58) #[true, true, true, false, false, false, false, true, false, false] rfl rfl (by kernel_rfl) (by decide) (fun K hK => ?_)
      refine goes_ Try.func39 (by kernel_rfl) rfl #[.agg #[.slice At t.h.length ct, .slice Bt t.k.length dt, .int .u64 t.g.n, .int .u64 t.g.nans, .int .u64 t.g.lo, .int .u64 t.g.hi]] (by rfl) rfl rfl (by (try simp only [List.map_toArray, List.map_cons, List.map_nil]); first | done | rfl) ?_
      (with_reducible refine (copyV P2.out).mono ?_)
      rintro e w7_ ⟨Ax, cx, Bx, dx, rfl, k_, hb⟩
      refine ⟨_, rfl, ?_⟩
      have HB0_ := (hb.block _ (blk_lt HB0.out)).trans HB0.out; clear HB0; have HB0 := Lib.hid HB0_; clear HB0_
      have HB1_ := (hb.block _ (blk_lt HB1.out)).trans HB1.out; clear HB1; have HB1 := Lib.hid HB1_; clear HB1_
      have HB2_ := (hb.block _ (blk_lt HB2.out)).trans HB2.out; clear HB2; have HB2 := Lib.hid HB2_; clear HB2_
      have HM0_ := (hb.block _ (blk_lt HM0.out)).trans HM0.out; clear HM0; have HM0 := Lib.hid HM0_; clear HM0_
      have HM1_ := (hb.block _ (blk_lt HM1.out)).trans HM1.out; clear HM1; have HM1 := Lib.hid HM1_; clear HM1_
      have HM2_ := (hb.block _ (blk_lt HM2.out)).trans HM2.out; clear HM2; have HM2 := Lib.hid HM2_; clear HM2_
      have P0_ := P0.out.below hb (Nat.le_refl _); clear P0; have P0 := Lib.hid P0_; clear P0_
      have P1_ := P1.out.below hb (Nat.le_refl _); clear P1; have P1 := Lib.hid P1_; clear P1_
      have P2_ := P2.out.below hb (Nat.le_refl _); clear P2; have P2 := Lib.hid P2_; clear P2_
      have M0_ := M0.out.below hb (Nat.le_refl _); clear M0; have M0 := Lib.hid M0_; clear M0_
      have M1_ := M1.out.below hb (Nat.le_refl _); clear M1; have M1 := Lib.hid M1_; clear M1_
      have M2_ := M2.out.below hb (Nat.le_refl _); clear M2; have M2 := Lib.hid M2_; clear M2_
      have HL_ := HL.out.trans (hb.mono HL.out.size); clear HL; have HL := Lib.hid HL_; clear HL_
      have HX_ := HX.out.trans (hb.mono HX.out.size); clear HX; have HX := Lib.hid HX_; clear HX_
      have HR_ := (hb.block _ (blk_lt HR.out)).trans HR.out; clear HR; have HR := Lib.hid HR_; clear HR_
      have Cx := Lib.hid k_; clear k_ hb
      refine hK.out _ _ ⟨blk_cell (HM0.out) 0, blk_cell (HM0.out) 1, blk_cell (HM0.out) 2, blk_cell (HM0.out) 3, blk_cell (HM0.out) 4, blk_cell (HM0.out) 5, blk_cell (HB2.out) 0, blk_cell (HB2.out) 1, blk_cell (HB2.out) 2, blk_cell (HB2.out) 3, blk_cell (HB2.out) 4, blk_cell (HB2.out) 5⟩ (fun _ => ?_)
      clear hK K
      refine norm_ (a' := ?_) ?_ ?_
      rotate_left
      · show Act.put _ (some 58) _ = _
        simp only [Act.put, List.setIfInBounds_toArray, List.set_cons_zero, List.set_cons_succ, i64_w, i32_w]
        rfl
      refine one_ (i := 3) (N := some 59) #[true, true, true, true, false, false, false, true, false, false] rfl rfl (by kernel_rfl) (by decide) (fun K hK => ?_)
      refine goes_ Try.func45 (by kernel_rfl) rfl #[.agg #[.slice AM0 s1.h.length cM0, .slice BM0 s1.k.length dM0, .int .u64 s1.g.n, .int .u64 s1.g.nans, .int .u64 s1.g.lo, .int .u64 s1.g.hi], .agg #[.slice Ax t.h.length cx, .slice Bx t.k.length dx, .int .u64 t.g.n, .int .u64 t.g.nans, .int .u64 t.g.lo, .int .u64 t.g.hi]] (by rfl) rfl rfl (by (try simp only [List.map_toArray, List.map_cons, List.map_nil]); first | done | rfl) ?_
      (with_reducible refine (merge_okR M0.out Cx.out AL4.out EE4.out).mono ?_)
      rintro e w8_ ⟨Am, cm, Bm, dm, rfl, k_, hR_, hS_, hb⟩
      refine ⟨_, rfl, ?_⟩
      have HROB := Lib.hid (Rob.of_R k_ hR_ hS_ (blk_lt HR.out))
      have HB0_ := (hb.block _ (blk_lt HB0.out)).trans HB0.out; clear HB0; have HB0 := Lib.hid HB0_; clear HB0_
      have HB1_ := (hb.block _ (blk_lt HB1.out)).trans HB1.out; clear HB1; have HB1 := Lib.hid HB1_; clear HB1_
      have HB2_ := (hb.block _ (blk_lt HB2.out)).trans HB2.out; clear HB2; have HB2 := Lib.hid HB2_; clear HB2_
      have HM0_ := (hb.block _ (blk_lt HM0.out)).trans HM0.out; clear HM0; have HM0 := Lib.hid HM0_; clear HM0_
      have HM1_ := (hb.block _ (blk_lt HM1.out)).trans HM1.out; clear HM1; have HM1 := Lib.hid HM1_; clear HM1_
      have HM2_ := (hb.block _ (blk_lt HM2.out)).trans HM2.out; clear HM2; have HM2 := Lib.hid HM2_; clear HM2_
      have P0_ := P0.out.below hb (Nat.le_refl _); clear P0; have P0 := Lib.hid P0_; clear P0_
      have P1_ := P1.out.below hb (Nat.le_refl _); clear P1; have P1 := Lib.hid P1_; clear P1_
      have P2_ := P2.out.below hb (Nat.le_refl _); clear P2; have P2 := Lib.hid P2_; clear P2_
      have M0_ := M0.out.below hb (Nat.le_refl _); clear M0; have M0 := Lib.hid M0_; clear M0_
      have M1_ := M1.out.below hb (Nat.le_refl _); clear M1; have M1 := Lib.hid M1_; clear M1_
      have M2_ := M2.out.below hb (Nat.le_refl _); clear M2; have M2 := Lib.hid M2_; clear M2_
      have Cx_ := Cx.out.below hb (Nat.le_refl _); clear Cx; have Cx := Lib.hid Cx_; clear Cx_
      have HL_ := HL.out.trans (hb.mono HL.out.size); clear HL; have HL := Lib.hid HL_; clear HL_
      have HX_ := HX.out.trans (hb.mono HX.out.size); clear HX; have HX := Lib.hid HX_; clear HX_
      have HR_ := (hb.block _ (blk_lt HR.out)).trans HR.out; clear HR; have HR := Lib.hid HR_; clear HR_
      clear k_ hR_ hS_ hb
      refine hK.out _ _ ⟨blk_cell (HM0.out) 0, blk_cell (HM0.out) 1, blk_cell (HM0.out) 2, blk_cell (HM0.out) 3, blk_cell (HM0.out) 4, blk_cell (HM0.out) 5, blk_cell (HB2.out) 0, blk_cell (HB2.out) 1, blk_cell (HB2.out) 2, blk_cell (HB2.out) 3, blk_cell (HB2.out) 4, blk_cell (HB2.out) 5⟩ (fun _ => ?_)
      clear hK K
      refine norm_ (a' := ?_) ?_ ?_
      rotate_left
      · show Act.put _ (some 59) _ = _
        simp only [Act.put, List.setIfInBounds_toArray, List.set_cons_zero, List.set_cons_succ, i64_w, i32_w]
        rfl
      refine pure_ (i := 4) (N := some 55) (v := ?_) (a' := ?_) #[true, true, true, true, true, false, false, true, false, false] rfl rfl (by kernel_rfl) (fun _ _ _ h => h) (Or.inl ⟨by rfl, ?_⟩) ?_ ?_
      rotate_left
      · intro w'
        go_simp
        with_reducible rfl
      rotate_left
      · simp only [Act.put, List.setIfInBounds_toArray, List.set_cons_zero, List.set_cons_succ, i64_w, i32_w]
        rfl
      refine pure_ (i := 5) (N := some 60) (v := ?_) (a' := ?_) #[true, true, true, true, true, true, false, true, false, false] rfl rfl (by kernel_rfl) (fun _ _ _ h => h) (Or.inl ⟨by rfl, ?_⟩) ?_ ?_
      rotate_left
      · intro w'
        go_simp
        with_reducible rfl
      rotate_left
      · simp only [Act.put, List.setIfInBounds_toArray, List.set_cons_zero, List.set_cons_succ, i64_w, i32_w]
        rfl
      refine pure_ (i := 6) (N := some 61) (v := ?_) (a' := ?_) #[true, true, true, true, true, true, true, true, false, false] rfl rfl (by kernel_rfl) (fun _ _ _ h => h) (Or.inl ⟨by rfl, ?_⟩) ?_ ?_
      rotate_left
      · intro w'
        go_simp
        with_reducible rfl
      rotate_left
      · simp only [Act.put, List.setIfInBounds_toArray, List.set_cons_zero, List.set_cons_succ, i64_w, i32_w]
        rfl
      refine norm_ ?_ (hcont ((.agg #[.slice Ax t.h.length cx, .slice Bx t.k.length dx, .int .u64 t.g.n, .int .u64 t.g.nans, .int .u64 t.g.lo, .int .u64 t.g.hi]), (.bool true), Y3.heap.size, Am, cm, Bm, dm) _ (Met.mk HX.out HGE.out HR.out HROB.out))
      simp only [putAll, Act.put, List.setIfInBounds_toArray, List.set_cons_zero, List.set_cons_succ]
  rintro ⟨v1_, v2_, rHM3, AM3, cM3, BM3, dM3⟩ w9_ hF
  obtain ⟨hbel, hge, hr, hrob⟩ := hF.out
  clear hF
  refine norm_ (a' := ?_) ?_ ?_
  rotate_left
  · simp only [putAll, Act.put, List.setIfInBounds_toArray, List.set_cons_zero, List.set_cons_succ]
    rfl
  refine last_ (i := 8) (N := none) #[true, true, true, true, true, true, true, true, true, false] rfl rfl (by kernel_rfl) (by decide) (fun K hK => ?_)
  have r0_ : w9_.cell? ⟨rHM3, 0, none⟩ = some (.slice none 0 0) := blk_cell hr 0; have q0_ := blk_frozen hr 0
  have r1_ : w9_.cell? ⟨rHM3, 1, none⟩ = some (.slice none 0 0) := blk_cell hr 1; have q1_ := blk_frozen hr 1
  have r2_ : w9_.cell? ⟨rHM3, 2, none⟩ = some (.int .u64 0) := blk_cell hr 2; have q2_ := blk_frozen hr 2
  have r3_ : w9_.cell? ⟨rHM3, 3, none⟩ = some (.int .u64 0) := blk_cell hr 3; have q3_ := blk_frozen hr 3
  have r4_ : w9_.cell? ⟨rHM3, 4, none⟩ = some (.int .u64 0) := blk_cell hr 4; have q4_ := blk_frozen hr 4
  have r5_ : w9_.cell? ⟨rHM3, 5, none⟩ = some (.int .u64 0) := blk_cell hr 5; have q5_ := blk_frozen hr 5
  have HRR := Lib.hid (And.intro hbel (And.intro hge (And.intro hr hrob))); clear hbel hge hr hrob
  refine skip_ (w1 := ?_) (by rfl) rfl ?_ ?_
  rotate_left
  · go_simp
    rfl
  refine hK.out _ _ ?_
  clear hK K r0_ q0_ r1_ q1_ r2_ q2_ r3_ q3_ r4_ q4_ r5_ q5_
  refine pure_ (i := 9) (N := some 14) (v := ?_) (a' := ?_) #[true, true, true, true, true, true, true, true, true, true] rfl rfl (by kernel_rfl) (fun _ _ _ h => h) (Or.inl ⟨by rfl, ?_⟩) ?_ ?_
  rotate_left
  · intro w'
    go_simp
    with_reducible rfl
  rotate_left
  · simp only [Act.put, List.setIfInBounds_toArray, List.set_cons_zero, List.set_cons_succ, i64_w, i32_w]
    rfl
  refine name_last (fun XHM3 HN => ?_)
  obtain ⟨n1_, n2_, n3_⟩ := fin6 HRR.out.1 HRR.out.2.1 HRR.out.2.2.1 (.slice AM3 s3.h.length cM3) (.slice BM3 s3.k.length dM3) (.int .u64 s3.g.n) (.int .u64 s3.g.nans) (.int .u64 s3.g.lo) (.int .u64 s3.g.hi)
  rw [HN.out] at n1_ n2_ n3_
  have k_ := HRR.out.2.2.2 XHM3 n3_
  have HB0_ := (n2_.block _ (blk_lt HB0.out)).trans HB0.out; clear HB0; have HB0 := Lib.hid HB0_; clear HB0_
  have HB1_ := (n2_.block _ (blk_lt HB1.out)).trans HB1.out; clear HB1; have HB1 := Lib.hid HB1_; clear HB1_
  have HB2_ := (n2_.block _ (blk_lt HB2.out)).trans HB2.out; clear HB2; have HB2 := Lib.hid HB2_; clear HB2_
  have HM0_ := (n2_.block _ (blk_lt HM0.out)).trans HM0.out; clear HM0; have HM0 := Lib.hid HM0_; clear HM0_
  have HM1_ := (n2_.block _ (blk_lt HM1.out)).trans HM1.out; clear HM1; have HM1 := Lib.hid HM1_; clear HM1_
  have HM2_ := (n2_.block _ (blk_lt HM2.out)).trans HM2.out; clear HM2; have HM2 := Lib.hid HM2_; clear HM2_
  have P0_ := P0.out.below n2_ (Nat.le_refl _); clear P0; have P0 := Lib.hid P0_; clear P0_
  have P1_ := P1.out.below n2_ (Nat.le_refl _); clear P1; have P1 := Lib.hid P1_; clear P1_
  have P2_ := P2.out.below n2_ (Nat.le_refl _); clear P2; have P2 := Lib.hid P2_; clear P2_
  have M0_ := M0.out.below n2_ (Nat.le_refl _); clear M0; have M0 := Lib.hid M0_; clear M0_
  have M1_ := M1.out.below n2_ (Nat.le_refl _); clear M1; have M1 := Lib.hid M1_; clear M1_
  have M2_ := M2.out.below n2_ (Nat.le_refl _); clear M2; have M2 := Lib.hid M2_; clear M2_
  have HL_ := HL.out.trans (n2_.mono HL.out.size); clear HL; have HL := Lib.hid HL_; clear HL_
  have HM3 := Lib.hid n1_; have M3 := Lib.hid k_
  clear n1_ n2_ n3_ k_ HN HRR HX
  refine done_ (by kernel_rfl) ?_
  refine NoPanic.normal ?_
  go_wp2
  have HB0_ := blk_drew HB0.out; clear HB0; have HB0 := Lib.hid HB0_; clear HB0_
  have HB1_ := blk_drew HB1.out; clear HB1; have HB1 := Lib.hid HB1_; clear HB1_
  have HB2_ := blk_drew HB2.out; clear HB2; have HB2 := Lib.hid HB2_; clear HB2_
  have HM0_ := blk_drew HM0.out; clear HM0; have HM0 := Lib.hid HM0_; clear HM0_
  have HM1_ := blk_drew HM1.out; clear HM1; have HM1 := Lib.hid HM1_; clear HM1_
  have HM2_ := blk_drew HM2.out; clear HM2; have HM2 := Lib.hid HM2_; clear HM2_
  have HM3_ := blk_drew HM3.out; clear HM3; have HM3 := Lib.hid HM3_; clear HM3_
  have P0_ := P0.out.below (below_drew (Below.refl _ _)) (Nat.le_refl _); clear P0; have P0 := Lib.hid P0_; clear P0_
  have P1_ := P1.out.below (below_drew (Below.refl _ _)) (Nat.le_refl _); clear P1; have P1 := Lib.hid P1_; clear P1_
  have P2_ := P2.out.below (below_drew (Below.refl _ _)) (Nat.le_refl _); clear P2; have P2 := Lib.hid P2_; clear P2_
  have M0_ := M0.out.below (below_drew (Below.refl _ _)) (Nat.le_refl _); clear M0; have M0 := Lib.hid M0_; clear M0_
  have M1_ := M1.out.below (below_drew (Below.refl _ _)) (Nat.le_refl _); clear M1; have M1 := Lib.hid M1_; clear M1_
  have M2_ := M2.out.below (below_drew (Below.refl _ _)) (Nat.le_refl _); clear M2; have M2 := Lib.hid M2_; clear M2_
  have M3_ := M3.out.below (below_drew (Below.refl _ _)) (Nat.le_refl _); clear M3; have M3 := Lib.hid M3_; clear M3_
  have HL_ := below_drew HL.out; clear HL; have HL := Lib.hid HL_; clear HL_
  refine wp_region_noPanic ?_
  refine start_ (n := 10) (S := fun w' => w'.cell? ⟨w.heap.size, 0, none⟩ = some (.slice Av v.h.length cv) ∧ w'.cell? ⟨w.heap.size, 1, none⟩ = some (.slice Bv v.k.length dv) ∧ w'.cell? ⟨w.heap.size, 2, none⟩ = some (.int .u64 v.g.n) ∧ w'.cell? ⟨w.heap.size, 3, none⟩ = some (.int .u64 v.g.nans) ∧ w'.cell? ⟨w.heap.size, 4, none⟩ = some (.int .u64 v.g.lo) ∧ w'.cell? ⟨w.heap.size, 5, none⟩ = some (.int .u64 v.g.hi) ∧ w'.cell? ⟨rHM2, 0, none⟩ = some (.slice AM2 s2.h.length cM2) ∧ w'.cell? ⟨rHM2, 1, none⟩ = some (.slice BM2 s2.k.length dM2) ∧ w'.cell? ⟨rHM2, 2, none⟩ = some (.int .u64 s2.g.n) ∧ w'.cell? ⟨rHM2, 3, none⟩ = some (.int .u64 s2.g.nans) ∧ w'.cell? ⟨rHM2, 4, none⟩ = some (.int .u64 s2.g.lo) ∧ w'.cell? ⟨rHM2, 5, none⟩ = some (.int .u64 s2.g.hi)) (ds := [8]) #[false, false, false, false, false, false, false, false, false, false] (by kernel_rfl) rfl rfl ⟨blk_cell (HB0.out) 0, blk_cell (HB0.out) 1, blk_cell (HB0.out) 2, blk_cell (HB0.out) 3, blk_cell (HB0.out) 4, blk_cell (HB0.out) 5, blk_cell (HM2.out) 0, blk_cell (HM2.out) 1, blk_cell (HM2.out) 2, blk_cell (HM2.out) 3, blk_cell (HM2.out) 4, blk_cell (HM2.out) 5⟩ (fun hHeld => ?_)
  generalize XHM3.drew = Y4 at HB0 HB1 HB2 HM0 HM1 HM2 HM3 P0 P1 P2 M0 M1 M2 M3 HL hHeld ⊢
  refine take_ (i := 0) (N := some 63) (v := ?_) (a' := ?_) #[true, false, false, false, false, false, false, false, false, false] rfl rfl (by kernel_rfl) (fun _ _ _ h => h) (Or.inl ⟨by rfl, ?_⟩) hHeld ?_ ?_
  rotate_left
  · rintro w' ⟨s0_, s1_, s2_, s3_, s4_, s5_, s6_, s7_, s8_, s9_, s10_, s11_⟩
    go_simp
    with_reducible rfl
  rotate_left
  · simp only [Act.put, List.setIfInBounds_toArray, List.set_cons_zero, List.set_cons_succ, i64_w, i32_w]
    rfl
  refine take_ (i := 2) (N := some 65) (v := ?_) (a' := ?_) #[true, false, true, false, false, false, false, false, false, false] rfl rfl (by kernel_rfl) (fun _ _ _ h => h) (Or.inl ⟨by rfl, ?_⟩) hHeld ?_ ?_
  rotate_left
  · rintro w' ⟨s0_, s1_, s2_, s3_, s4_, s5_, s6_, s7_, s8_, s9_, s10_, s11_⟩
    go_simp
    with_reducible rfl
  rotate_left
  · simp only [Act.put, List.setIfInBounds_toArray, List.set_cons_zero, List.set_cons_succ, i64_w, i32_w]
    rfl
  clear hHeld
  have HX := Lib.hid (Below.refl Y4.heap.size Y4)
  refine join_ 2 #[true, true, true, true, true, true, true, true, false, false] (fun s : Value × Value × Nat × Option Addr × Nat × Option Addr × Nat => [(64, s.1), (66, .tuple #[.agg #[.slice s.2.2.2.1 s3.h.length s.2.2.2.2.1, .slice s.2.2.2.2.2.1 s3.k.length s.2.2.2.2.2.2, .int .u64 s3.g.n, .int .u64 s3.g.nans, .int .u64 s3.g.lo, .int .u64 s3.g.hi], .int .i64 0]), (62, .tuple #[.agg #[.slice s.2.2.2.1 s3.h.length s.2.2.2.2.1, .slice s.2.2.2.2.2.1 s3.k.length s.2.2.2.2.2.2, .int .u64 s3.g.n, .int .u64 s3.g.nans, .int .u64 s3.g.lo, .int .u64 s3.g.hi], .int .i64 0]), (67, .agg #[.slice s.2.2.2.1 s3.h.length s.2.2.2.2.1, .slice s.2.2.2.2.2.1 s3.k.length s.2.2.2.2.2.2, .int .u64 s3.g.n, .int .u64 s3.g.nans, .int .u64 s3.g.lo, .int .u64 s3.g.hi]), (68, .int .i64 0), (15, .pointer (some ⟨s.2.2.1, 0, none⟩))]) (Met Y4 s3) ?_ (fun hcont => ?_)
  rotate_left
  · skip
    refine two_ (i := 1) (j := 7) (Ni := some 64) (Nj := some 15) #[true, true, true, false, false, false, false, false, false, false] #[true, false, true, false, false, false, false, true, false, false] rfl rfl rfl rfl (by kernel_rfl) (by decide) (by decide) (fun K hK => ?_) (fun K hK => ?_)
    · skip
      refine goes_ Try.func39 (by kernel_rfl) rfl #[.agg #[.slice Av v.h.length cv, .slice Bv v.k.length dv, .int .u64 v.g.n, .int .u64 v.g.nans, .int .u64 v.g.lo, .int .u64 v.g.hi]] (by rfl) rfl rfl (by (try simp only [List.map_toArray, List.map_cons, List.map_nil]); first | done | rfl) ?_
      (with_reducible refine (copyV P0.out).mono ?_)
      rintro e w1_ ⟨Ax, cx, Bx, dx, rfl, k_, hb⟩
      refine ⟨_, rfl, ?_⟩
      have HB0_ := (hb.block _ (blk_lt HB0.out)).trans HB0.out; clear HB0; have HB0 := Lib.hid HB0_; clear HB0_
      have HB1_ := (hb.block _ (blk_lt HB1.out)).trans HB1.out; clear HB1; have HB1 := Lib.hid HB1_; clear HB1_
      have HB2_ := (hb.block _ (blk_lt HB2.out)).trans HB2.out; clear HB2; have HB2 := Lib.hid HB2_; clear HB2_
      have HM0_ := (hb.block _ (blk_lt HM0.out)).trans HM0.out; clear HM0; have HM0 := Lib.hid HM0_; clear HM0_
      have HM1_ := (hb.block _ (blk_lt HM1.out)).trans HM1.out; clear HM1; have HM1 := Lib.hid HM1_; clear HM1_
      have HM2_ := (hb.block _ (blk_lt HM2.out)).trans HM2.out; clear HM2; have HM2 := Lib.hid HM2_; clear HM2_
      have HM3_ := (hb.block _ (blk_lt HM3.out)).trans HM3.out; clear HM3; have HM3 := Lib.hid HM3_; clear HM3_
      have P0_ := P0.out.below hb (Nat.le_refl _); clear P0; have P0 := Lib.hid P0_; clear P0_
      have P1_ := P1.out.below hb (Nat.le_refl _); clear P1; have P1 := Lib.hid P1_; clear P1_
      have P2_ := P2.out.below hb (Nat.le_refl _); clear P2; have P2 := Lib.hid P2_; clear P2_
      have M0_ := M0.out.below hb (Nat.le_refl _); clear M0; have M0 := Lib.hid M0_; clear M0_
      have M1_ := M1.out.below hb (Nat.le_refl _); clear M1; have M1 := Lib.hid M1_; clear M1_
      have M2_ := M2.out.below hb (Nat.le_refl _); clear M2; have M2 := Lib.hid M2_; clear M2_
      have M3_ := M3.out.below hb (Nat.le_refl _); clear M3; have M3 := Lib.hid M3_; clear M3_
      have HL_ := HL.out.trans (hb.mono HL.out.size); clear HL; have HL := Lib.hid HL_; clear HL_
      have HX_ := HX.out.trans (hb.mono HX.out.size); clear HX; have HX := Lib.hid HX_; clear HX_
      have Cx := Lib.hid k_; clear k_ hb
      refine hK.out _ _ ⟨blk_cell (HB0.out) 0, blk_cell (HB0.out) 1, blk_cell (HB0.out) 2, blk_cell (HB0.out) 3, blk_cell (HB0.out) 4, blk_cell (HB0.out) 5, blk_cell (HM2.out) 0, blk_cell (HM2.out) 1, blk_cell (HM2.out) 2, blk_cell (HM2.out) 3, blk_cell (HM2.out) 4, blk_cell (HM2.out) 5⟩ (fun _ => ?_)
      clear hK K
      refine norm_ (a' := ?_) ?_ ?_
      rotate_left
      · show Act.put _ (some 64) _ = _
        simp only [Act.put, List.setIfInBounds_toArray, List.set_cons_zero, List.set_cons_succ, i64_w, i32_w]
        rfl
      refine two_ (i := 3) (j := 7) (Ni := some 66) (Nj := some 15) #[true, true, true, true, false, false, false, false, false, false] #[true, true, true, false, false, false, false, true, false, false] rfl rfl rfl rfl (by kernel_rfl) (by decide) (by decide) (fun K hK => ?_) (fun K hK => ?_)
      · skip
        refine goes_ Try.func45 (by kernel_rfl) rfl #[.agg #[.slice Ax v.h.length cx, .slice Bx v.k.length dx, .int .u64 v.g.n, .int .u64 v.g.nans, .int .u64 v.g.lo, .int .u64 v.g.hi], .agg #[.slice AM2 s2.h.length cM2, .slice BM2 s2.k.length dM2, .int .u64 s2.g.n, .int .u64 s2.g.nans, .int .u64 s2.g.lo, .int .u64 s2.g.hi]] (by rfl) rfl rfl (by (try simp only [List.map_toArray, List.map_cons, List.map_nil]); first | done | rfl) ?_
        (with_reducible refine (merge_okR Cx.out M2.out AL5.out EE5.out).mono ?_)
        rintro e w2_ ⟨Am, cm, Bm, dm, rfl, k_, hR_, hS_, hb⟩
        refine ⟨_, rfl, ?_⟩
        have HB0_ := (hb.block _ (blk_lt HB0.out)).trans HB0.out; clear HB0; have HB0 := Lib.hid HB0_; clear HB0_
        have HB1_ := (hb.block _ (blk_lt HB1.out)).trans HB1.out; clear HB1; have HB1 := Lib.hid HB1_; clear HB1_
        have HB2_ := (hb.block _ (blk_lt HB2.out)).trans HB2.out; clear HB2; have HB2 := Lib.hid HB2_; clear HB2_
        have HM0_ := (hb.block _ (blk_lt HM0.out)).trans HM0.out; clear HM0; have HM0 := Lib.hid HM0_; clear HM0_
        have HM1_ := (hb.block _ (blk_lt HM1.out)).trans HM1.out; clear HM1; have HM1 := Lib.hid HM1_; clear HM1_
        have HM2_ := (hb.block _ (blk_lt HM2.out)).trans HM2.out; clear HM2; have HM2 := Lib.hid HM2_; clear HM2_
        have HM3_ := (hb.block _ (blk_lt HM3.out)).trans HM3.out; clear HM3; have HM3 := Lib.hid HM3_; clear HM3_
        have P0_ := P0.out.below hb (Nat.le_refl _); clear P0; have P0 := Lib.hid P0_; clear P0_
        have P1_ := P1.out.below hb (Nat.le_refl _); clear P1; have P1 := Lib.hid P1_; clear P1_
        have P2_ := P2.out.below hb (Nat.le_refl _); clear P2; have P2 := Lib.hid P2_; clear P2_
        have M0_ := M0.out.below hb (Nat.le_refl _); clear M0; have M0 := Lib.hid M0_; clear M0_
        have M1_ := M1.out.below hb (Nat.le_refl _); clear M1; have M1 := Lib.hid M1_; clear M1_
        have M2_ := M2.out.below hb (Nat.le_refl _); clear M2; have M2 := Lib.hid M2_; clear M2_
        have M3_ := M3.out.below hb (Nat.le_refl _); clear M3; have M3 := Lib.hid M3_; clear M3_
        have Cx_ := Cx.out.below hb (Nat.le_refl _); clear Cx; have Cx := Lib.hid Cx_; clear Cx_
        have HL_ := HL.out.trans (hb.mono HL.out.size); clear HL; have HL := Lib.hid HL_; clear HL_
        have HX_ := HX.out.trans (hb.mono HX.out.size); clear HX; have HX := Lib.hid HX_; clear HX_
        have MM := Lib.hid k_
        clear k_ hR_ hS_ hb
        refine hK.out _ _ ⟨blk_cell (HB0.out) 0, blk_cell (HB0.out) 1, blk_cell (HB0.out) 2, blk_cell (HB0.out) 3, blk_cell (HB0.out) 4, blk_cell (HB0.out) 5, blk_cell (HM2.out) 0, blk_cell (HM2.out) 1, blk_cell (HM2.out) 2, blk_cell (HM2.out) 3, blk_cell (HM2.out) 4, blk_cell (HM2.out) 5⟩ (fun _ => ?_)
        clear hK K
        refine norm_ (a' := ?_) ?_ ?_
        rotate_left
        · show Act.put _ (some 66) _ = _
          simp only [Act.put, List.setIfInBounds_toArray, List.set_cons_zero, List.set_cons_succ, i64_w, i32_w]
          rfl
        refine pure_ (i := 4) (N := some 62) (v := ?_) (a' := ?_) #[true, true, true, true, true, false, false, false, false, false] rfl rfl (by kernel_rfl) (fun _ _ _ h => h) (Or.inl ⟨by rfl, ?_⟩) ?_ ?_
        rotate_left
        · intro w'
          go_simp
          with_reducible rfl
        rotate_left
        · simp only [Act.put, List.setIfInBounds_toArray, List.set_cons_zero, List.set_cons_succ, i64_w, i32_w]
          rfl
        refine pure_ (i := 5) (N := some 67) (v := ?_) (a' := ?_) #[true, true, true, true, true, true, false, false, false, false] rfl rfl (by kernel_rfl) (fun _ _ _ h => h) (Or.inl ⟨by rfl, ?_⟩) ?_ ?_
        rotate_left
        · intro w'
          go_simp
          with_reducible rfl
        rotate_left
        · simp only [Act.put, List.setIfInBounds_toArray, List.set_cons_zero, List.set_cons_succ, i64_w, i32_w]
          rfl
        refine pure_ (i := 6) (N := some 68) (v := ?_) (a' := ?_) #[true, true, true, true, true, true, true, false, false, false] rfl rfl (by kernel_rfl) (fun _ _ _ h => h) (Or.inl ⟨by rfl, ?_⟩) ?_ ?_
        rotate_left
        · intro w'
          go_simp
          with_reducible rfl
        rotate_left
        · simp only [Act.put, List.setIfInBounds_toArray, List.set_cons_zero, List.set_cons_succ, i64_w, i32_w]
          rfl
        refine one_ (i := 7) (N := some 15) #[true, true, true, true, true, true, true, true, false, false] rfl rfl (by kernel_rfl) (by decide) (fun K hK => ?_)
        refine value_ (v := .pointer (some ⟨w2_.heap.size, 0, none⟩)) (w1 := w2_.alloc (.cells #[.slice none 0 0, .slice none 0 0, .int .u64 0, .int .u64 0, .int .u64 0, .int .u64 0] 45)) (by rfl) rfl ?_ ?_
        · first | (go_simp; done) | (go_simp; rfl)
        refine hK.out _ _ ⟨blk_cell (blk_alloc HB0.out _) 0, blk_cell (blk_alloc HB0.out _) 1, blk_cell (blk_alloc HB0.out _) 2, blk_cell (blk_alloc HB0.out _) 3, blk_cell (blk_alloc HB0.out _) 4, blk_cell (blk_alloc HB0.out _) 5, blk_cell (blk_alloc HM2.out _) 0, blk_cell (blk_alloc HM2.out _) 1, blk_cell (blk_alloc HM2.out _) 2, blk_cell (blk_alloc HM2.out _) 3, blk_cell (blk_alloc HM2.out _) 4, blk_cell (blk_alloc HM2.out _) 5⟩ (fun _ => ?_)
        clear hK K
        refine norm_ (a' := ?_) ?_ ?_
        rotate_left
        · show Act.put _ (some 15) _ = _
          simp only [Act.put, List.setIfInBounds_toArray, List.set_cons_zero, List.set_cons_succ, i64_w, i32_w]
          rfl
        refine name_last (fun w3_ HN => ?_)
        have HB0_ := blk_alloc HB0.out (.cells #[.slice none 0 0, .slice none 0 0, .int .u64 0, .int .u64 0, .int .u64 0, .int .u64 0] 45)
        have HB1_ := blk_alloc HB1.out (.cells #[.slice none 0 0, .slice none 0 0, .int .u64 0, .int .u64 0, .int .u64 0, .int .u64 0] 45)
        have HB2_ := blk_alloc HB2.out (.cells #[.slice none 0 0, .slice none 0 0, .int .u64 0, .int .u64 0, .int .u64 0, .int .u64 0] 45)
        have HM0_ := blk_alloc HM0.out (.cells #[.slice none 0 0, .slice none 0 0, .int .u64 0, .int .u64 0, .int .u64 0, .int .u64 0] 45)
        have HM1_ := blk_alloc HM1.out (.cells #[.slice none 0 0, .slice none 0 0, .int .u64 0, .int .u64 0, .int .u64 0, .int .u64 0] 45)
        have HM2_ := blk_alloc HM2.out (.cells #[.slice none 0 0, .slice none 0 0, .int .u64 0, .int .u64 0, .int .u64 0, .int .u64 0] 45)
        have HM3_ := blk_alloc HM3.out (.cells #[.slice none 0 0, .slice none 0 0, .int .u64 0, .int .u64 0, .int .u64 0, .int .u64 0] 45)
        have P0_ := P0.out.alloc (.cells #[.slice none 0 0, .slice none 0 0, .int .u64 0, .int .u64 0, .int .u64 0, .int .u64 0] 45)
        have P1_ := P1.out.alloc (.cells #[.slice none 0 0, .slice none 0 0, .int .u64 0, .int .u64 0, .int .u64 0, .int .u64 0] 45)
        have P2_ := P2.out.alloc (.cells #[.slice none 0 0, .slice none 0 0, .int .u64 0, .int .u64 0, .int .u64 0, .int .u64 0] 45)
        have M0_ := M0.out.alloc (.cells #[.slice none 0 0, .slice none 0 0, .int .u64 0, .int .u64 0, .int .u64 0, .int .u64 0] 45)
        have M1_ := M1.out.alloc (.cells #[.slice none 0 0, .slice none 0 0, .int .u64 0, .int .u64 0, .int .u64 0, .int .u64 0] 45)
        have M2_ := M2.out.alloc (.cells #[.slice none 0 0, .slice none 0 0, .int .u64 0, .int .u64 0, .int .u64 0, .int .u64 0] 45)
        have M3_ := M3.out.alloc (.cells #[.slice none 0 0, .slice none 0 0, .int .u64 0, .int .u64 0, .int .u64 0, .int .u64 0] 45)
        have Cx_ := Cx.out.alloc (.cells #[.slice none 0 0, .slice none 0 0, .int .u64 0, .int .u64 0, .int .u64 0, .int .u64 0] 45)
        have HL_ := below_alloc HL.out (.cells #[.slice none 0 0, .slice none 0 0, .int .u64 0, .int .u64 0, .int .u64 0, .int .u64 0] 45)
        have HX_ := below_alloc HX.out (.cells #[.slice none 0 0, .slice none 0 0, .int .u64 0, .int .u64 0, .int .u64 0, .int .u64 0] 45)
        have HR_ := blk_new w2_ (.cells #[.slice none 0 0, .slice none 0 0, .int .u64 0, .int .u64 0, .int .u64 0, .int .u64 0] 45)
        have HROB_ := Rob.of_alloc MM.out (.cells #[.slice none 0 0, .slice none 0 0, .int .u64 0, .int .u64 0, .int .u64 0, .int .u64 0] 45)
        have HGE := Lib.hid HX.out.size
        rw [HN.out] at HB0_ HB1_ HB2_ HM0_ HM1_ HM2_ HM3_ P0_ P1_ P2_ M0_ M1_ M2_ M3_ Cx_ HL_ HX_ HR_ HROB_
        clear HB0
        have HB0 := Lib.hid HB0_; clear HB0_
        clear HB1
        have HB1 := Lib.hid HB1_; clear HB1_
        clear HB2
        have HB2 := Lib.hid HB2_; clear HB2_
        clear HM0
        have HM0 := Lib.hid HM0_; clear HM0_
        clear HM1
        have HM1 := Lib.hid HM1_; clear HM1_
        clear HM2
        have HM2 := Lib.hid HM2_; clear HM2_
        clear HM3
        have HM3 := Lib.hid HM3_; clear HM3_
        clear P0
        have P0 := Lib.hid P0_; clear P0_
        clear P1
        have P1 := Lib.hid P1_; clear P1_
        clear P2
        have P2 := Lib.hid P2_; clear P2_
        clear M0
        have M0 := Lib.hid M0_; clear M0_
        clear M1
        have M1 := Lib.hid M1_; clear M1_
        clear M2
        have M2 := Lib.hid M2_; clear M2_
        clear M3
        have M3 := Lib.hid M3_; clear M3_
        clear Cx
        have Cx := Lib.hid Cx_; clear Cx_
        clear HL
        have HL := Lib.hid HL_; clear HL_
        clear HX
        have HX := Lib.hid HX_; clear HX_
        have HR := Lib.hid HR_; clear HR_
        have HROB := Lib.hid HROB_; clear HROB_
        clear HN MM
        refine norm_ ?_ (hcont ((.agg #[.slice Ax v.h.length cx, .slice Bx v.k.length dx, .int .u64 v.g.n, .int .u64 v.g.nans, .int .u64 v.g.lo, .int .u64 v.g.hi]), (.bool true), w2_.heap.size, Am, cm, Bm, dm) _ (Met.mk HX.out HGE.out HR.out HROB.out))
        simp only [putAll, Act.put, List.setIfInBounds_toArray, List.set_cons_zero, List.set_cons_succ]
      · skip
        refine value_ (v := .pointer (some ⟨w1_.heap.size, 0, none⟩)) (w1 := w1_.alloc (.cells #[.slice none 0 0, .slice none 0 0, .int .u64 0, .int .u64 0, .int .u64 0, .int .u64 0] 45)) (by rfl) rfl ?_ ?_
        · first | (go_simp; done) | (go_simp; rfl)
        refine hK.out _ _ ⟨blk_cell (blk_alloc HB0.out _) 0, blk_cell (blk_alloc HB0.out _) 1, blk_cell (blk_alloc HB0.out _) 2, blk_cell (blk_alloc HB0.out _) 3, blk_cell (blk_alloc HB0.out _) 4, blk_cell (blk_alloc HB0.out _) 5, blk_cell (blk_alloc HM2.out _) 0, blk_cell (blk_alloc HM2.out _) 1, blk_cell (blk_alloc HM2.out _) 2, blk_cell (blk_alloc HM2.out _) 3, blk_cell (blk_alloc HM2.out _) 4, blk_cell (blk_alloc HM2.out _) 5⟩ (fun _ => ?_)
        clear hK K
        refine norm_ (a' := ?_) ?_ ?_
        rotate_left
        · show Act.put _ (some 15) _ = _
          simp only [Act.put, List.setIfInBounds_toArray, List.set_cons_zero, List.set_cons_succ, i64_w, i32_w]
          rfl
        refine name_last (fun w4_ HN => ?_)
        have HB0_ := blk_alloc HB0.out (.cells #[.slice none 0 0, .slice none 0 0, .int .u64 0, .int .u64 0, .int .u64 0, .int .u64 0] 45)
        have HB1_ := blk_alloc HB1.out (.cells #[.slice none 0 0, .slice none 0 0, .int .u64 0, .int .u64 0, .int .u64 0, .int .u64 0] 45)
        have HB2_ := blk_alloc HB2.out (.cells #[.slice none 0 0, .slice none 0 0, .int .u64 0, .int .u64 0, .int .u64 0, .int .u64 0] 45)
        have HM0_ := blk_alloc HM0.out (.cells #[.slice none 0 0, .slice none 0 0, .int .u64 0, .int .u64 0, .int .u64 0, .int .u64 0] 45)
        have HM1_ := blk_alloc HM1.out (.cells #[.slice none 0 0, .slice none 0 0, .int .u64 0, .int .u64 0, .int .u64 0, .int .u64 0] 45)
        have HM2_ := blk_alloc HM2.out (.cells #[.slice none 0 0, .slice none 0 0, .int .u64 0, .int .u64 0, .int .u64 0, .int .u64 0] 45)
        have HM3_ := blk_alloc HM3.out (.cells #[.slice none 0 0, .slice none 0 0, .int .u64 0, .int .u64 0, .int .u64 0, .int .u64 0] 45)
        have P0_ := P0.out.alloc (.cells #[.slice none 0 0, .slice none 0 0, .int .u64 0, .int .u64 0, .int .u64 0, .int .u64 0] 45)
        have P1_ := P1.out.alloc (.cells #[.slice none 0 0, .slice none 0 0, .int .u64 0, .int .u64 0, .int .u64 0, .int .u64 0] 45)
        have P2_ := P2.out.alloc (.cells #[.slice none 0 0, .slice none 0 0, .int .u64 0, .int .u64 0, .int .u64 0, .int .u64 0] 45)
        have M0_ := M0.out.alloc (.cells #[.slice none 0 0, .slice none 0 0, .int .u64 0, .int .u64 0, .int .u64 0, .int .u64 0] 45)
        have M1_ := M1.out.alloc (.cells #[.slice none 0 0, .slice none 0 0, .int .u64 0, .int .u64 0, .int .u64 0, .int .u64 0] 45)
        have M2_ := M2.out.alloc (.cells #[.slice none 0 0, .slice none 0 0, .int .u64 0, .int .u64 0, .int .u64 0, .int .u64 0] 45)
        have M3_ := M3.out.alloc (.cells #[.slice none 0 0, .slice none 0 0, .int .u64 0, .int .u64 0, .int .u64 0, .int .u64 0] 45)
        have Cx_ := Cx.out.alloc (.cells #[.slice none 0 0, .slice none 0 0, .int .u64 0, .int .u64 0, .int .u64 0, .int .u64 0] 45)
        have HL_ := below_alloc HL.out (.cells #[.slice none 0 0, .slice none 0 0, .int .u64 0, .int .u64 0, .int .u64 0, .int .u64 0] 45)
        have HX_ := below_alloc HX.out (.cells #[.slice none 0 0, .slice none 0 0, .int .u64 0, .int .u64 0, .int .u64 0, .int .u64 0] 45)
        have HR_ := blk_new w1_ (.cells #[.slice none 0 0, .slice none 0 0, .int .u64 0, .int .u64 0, .int .u64 0, .int .u64 0] 45)
        have HGE := Lib.hid HX.out.size
        rw [HN.out] at HB0_ HB1_ HB2_ HM0_ HM1_ HM2_ HM3_ P0_ P1_ P2_ M0_ M1_ M2_ M3_ Cx_ HL_ HX_ HR_
        clear HB0
        have HB0 := Lib.hid HB0_; clear HB0_
        clear HB1
        have HB1 := Lib.hid HB1_; clear HB1_
        clear HB2
        have HB2 := Lib.hid HB2_; clear HB2_
        clear HM0
        have HM0 := Lib.hid HM0_; clear HM0_
        clear HM1
        have HM1 := Lib.hid HM1_; clear HM1_
        clear HM2
        have HM2 := Lib.hid HM2_; clear HM2_
        clear HM3
        have HM3 := Lib.hid HM3_; clear HM3_
        clear P0
        have P0 := Lib.hid P0_; clear P0_
        clear P1
        have P1 := Lib.hid P1_; clear P1_
        clear P2
        have P2 := Lib.hid P2_; clear P2_
        clear M0
        have M0 := Lib.hid M0_; clear M0_
        clear M1
        have M1 := Lib.hid M1_; clear M1_
        clear M2
        have M2 := Lib.hid M2_; clear M2_
        clear M3
        have M3 := Lib.hid M3_; clear M3_
        clear Cx
        have Cx := Lib.hid Cx_; clear Cx_
        clear HL
        have HL := Lib.hid HL_; clear HL_
        clear HX
        have HX := Lib.hid HX_; clear HX_
        have HR := Lib.hid HR_; clear HR_
        clear HN
        refine one_ (i := 3) (N := some 66) #[true, true, true, true, false, false, false, true, false, false] rfl rfl (by kernel_rfl) (by decide) (fun K hK => ?_)
        refine goes_ Try.func45 (by kernel_rfl) rfl #[.agg #[.slice Ax v.h.length cx, .slice Bx v.k.length dx, .int .u64 v.g.n, .int .u64 v.g.nans, .int .u64 v.g.lo, .int .u64 v.g.hi], .agg #[.slice AM2 s2.h.length cM2, .slice BM2 s2.k.length dM2, .int .u64 s2.g.n, .int .u64 s2.g.nans, .int .u64 s2.g.lo, .int .u64 s2.g.hi]] (by rfl) rfl rfl (by (try simp only [List.map_toArray, List.map_cons, List.map_nil]); first | done | rfl) ?_
        (with_reducible refine (merge_okR Cx.out M2.out AL5.out EE5.out).mono ?_)
        rintro e w5_ ⟨Am, cm, Bm, dm, rfl, k_, hR_, hS_, hb⟩
        refine ⟨_, rfl, ?_⟩
        have HROB := Lib.hid (Rob.of_R k_ hR_ hS_ (blk_lt HR.out))
        have HB0_ := (hb.block _ (blk_lt HB0.out)).trans HB0.out; clear HB0; have HB0 := Lib.hid HB0_; clear HB0_
        have HB1_ := (hb.block _ (blk_lt HB1.out)).trans HB1.out; clear HB1; have HB1 := Lib.hid HB1_; clear HB1_
        have HB2_ := (hb.block _ (blk_lt HB2.out)).trans HB2.out; clear HB2; have HB2 := Lib.hid HB2_; clear HB2_
        have HM0_ := (hb.block _ (blk_lt HM0.out)).trans HM0.out; clear HM0; have HM0 := Lib.hid HM0_; clear HM0_
        have HM1_ := (hb.block _ (blk_lt HM1.out)).trans HM1.out; clear HM1; have HM1 := Lib.hid HM1_; clear HM1_
        have HM2_ := (hb.block _ (blk_lt HM2.out)).trans HM2.out; clear HM2; have HM2 := Lib.hid HM2_; clear HM2_
        have HM3_ := (hb.block _ (blk_lt HM3.out)).trans HM3.out; clear HM3; have HM3 := Lib.hid HM3_; clear HM3_
        have P0_ := P0.out.below hb (Nat.le_refl _); clear P0; have P0 := Lib.hid P0_; clear P0_
        have P1_ := P1.out.below hb (Nat.le_refl _); clear P1; have P1 := Lib.hid P1_; clear P1_
        have P2_ := P2.out.below hb (Nat.le_refl _); clear P2; have P2 := Lib.hid P2_; clear P2_
        have M0_ := M0.out.below hb (Nat.le_refl _); clear M0; have M0 := Lib.hid M0_; clear M0_
        have M1_ := M1.out.below hb (Nat.le_refl _); clear M1; have M1 := Lib.hid M1_; clear M1_
        have M2_ := M2.out.below hb (Nat.le_refl _); clear M2; have M2 := Lib.hid M2_; clear M2_
        have M3_ := M3.out.below hb (Nat.le_refl _); clear M3; have M3 := Lib.hid M3_; clear M3_
        have Cx_ := Cx.out.below hb (Nat.le_refl _); clear Cx; have Cx := Lib.hid Cx_; clear Cx_
        have HL_ := HL.out.trans (hb.mono HL.out.size); clear HL; have HL := Lib.hid HL_; clear HL_
        have HX_ := HX.out.trans (hb.mono HX.out.size); clear HX; have HX := Lib.hid HX_; clear HX_
        have HR_ := (hb.block _ (blk_lt HR.out)).trans HR.out; clear HR; have HR := Lib.hid HR_; clear HR_
        clear k_ hR_ hS_ hb
        refine hK.out _ _ ⟨blk_cell (HB0.out) 0, blk_cell (HB0.out) 1, blk_cell (HB0.out) 2, blk_cell (HB0.out) 3, blk_cell (HB0.out) 4, blk_cell (HB0.out) 5, blk_cell (HM2.out) 0, blk_cell (HM2.out) 1, blk_cell (HM2.out) 2, blk_cell (HM2.out) 3, blk_cell (HM2.out) 4, blk_cell (HM2.out) 5⟩ (fun _ => ?_)
        clear hK K
        refine norm_ (a' := ?_) ?_ ?_
        rotate_left
        · show Act.put _ (some 66) _ = _
          simp only [Act.put, List.setIfInBounds_toArray, List.set_cons_zero, List.set_cons_succ, i64_w, i32_w]
          rfl
        refine pure_ (i := 4) (N := some 62) (v := ?_) (a' := ?_) #[true, true, true, true, true, false, false, true, false, false] rfl rfl (by kernel_rfl) (fun _ _ _ h => h) (Or.inl ⟨by rfl, ?_⟩) ?_ ?_
        rotate_left
        · intro w'
          go_simp
          with_reducible rfl
        rotate_left
        · simp only [Act.put, List.setIfInBounds_toArray, List.set_cons_zero, List.set_cons_succ, i64_w, i32_w]
          rfl
        refine pure_ (i := 5) (N := some 67) (v := ?_) (a' := ?_) #[true, true, true, true, true, true, false, true, false, false] rfl rfl (by kernel_rfl) (fun _ _ _ h => h) (Or.inl ⟨by rfl, ?_⟩) ?_ ?_
        rotate_left
        · intro w'
          go_simp
          with_reducible rfl
        rotate_left
        · simp only [Act.put, List.setIfInBounds_toArray, List.set_cons_zero, List.set_cons_succ, i64_w, i32_w]
          rfl
        refine pure_ (i := 6) (N := some 68) (v := ?_) (a' := ?_) #[true, true, true, true, true, true, true, true, false, false] rfl rfl (by kernel_rfl) (fun _ _ _ h => h) (Or.inl ⟨by rfl, ?_⟩) ?_ ?_
        rotate_left
        · intro w'
          go_simp
          with_reducible rfl
        rotate_left
        · simp only [Act.put, List.setIfInBounds_toArray, List.set_cons_zero, List.set_cons_succ, i64_w, i32_w]
          rfl
        refine norm_ ?_ (hcont ((.agg #[.slice Ax v.h.length cx, .slice Bx v.k.length dx, .int .u64 v.g.n, .int .u64 v.g.nans, .int .u64 v.g.lo, .int .u64 v.g.hi]), (.bool true), w1_.heap.size, Am, cm, Bm, dm) _ (Met.mk HX.out HGE.out HR.out HROB.out))
        simp only [putAll, Act.put, List.setIfInBounds_toArray, List.set_cons_zero, List.set_cons_succ]
    · skip
      refine value_ (v := .pointer (some ⟨Y4.heap.size, 0, none⟩)) (w1 := Y4.alloc (.cells #[.slice none 0 0, .slice none 0 0, .int .u64 0, .int .u64 0, .int .u64 0, .int .u64 0] 45)) (by rfl) rfl ?_ ?_
      · first | (go_simp; done) | (go_simp; rfl)
      refine hK.out _ _ ⟨blk_cell (blk_alloc HB0.out _) 0, blk_cell (blk_alloc HB0.out _) 1, blk_cell (blk_alloc HB0.out _) 2, blk_cell (blk_alloc HB0.out _) 3, blk_cell (blk_alloc HB0.out _) 4, blk_cell (blk_alloc HB0.out _) 5, blk_cell (blk_alloc HM2.out _) 0, blk_cell (blk_alloc HM2.out _) 1, blk_cell (blk_alloc HM2.out _) 2, blk_cell (blk_alloc HM2.out _) 3, blk_cell (blk_alloc HM2.out _) 4, blk_cell (blk_alloc HM2.out _) 5⟩ (fun _ => ?_)
      clear hK K
      refine norm_ (a' := ?_) ?_ ?_
      rotate_left
      · show Act.put _ (some 15) _ = _
        simp only [Act.put, List.setIfInBounds_toArray, List.set_cons_zero, List.set_cons_succ, i64_w, i32_w]
        rfl
      refine name_last (fun w6_ HN => ?_)
      have HB0_ := blk_alloc HB0.out (.cells #[.slice none 0 0, .slice none 0 0, .int .u64 0, .int .u64 0, .int .u64 0, .int .u64 0] 45)
      have HB1_ := blk_alloc HB1.out (.cells #[.slice none 0 0, .slice none 0 0, .int .u64 0, .int .u64 0, .int .u64 0, .int .u64 0] 45)
      have HB2_ := blk_alloc HB2.out (.cells #[.slice none 0 0, .slice none 0 0, .int .u64 0, .int .u64 0, .int .u64 0, .int .u64 0] 45)
      have HM0_ := blk_alloc HM0.out (.cells #[.slice none 0 0, .slice none 0 0, .int .u64 0, .int .u64 0, .int .u64 0, .int .u64 0] 45)
      have HM1_ := blk_alloc HM1.out (.cells #[.slice none 0 0, .slice none 0 0, .int .u64 0, .int .u64 0, .int .u64 0, .int .u64 0] 45)
      have HM2_ := blk_alloc HM2.out (.cells #[.slice none 0 0, .slice none 0 0, .int .u64 0, .int .u64 0, .int .u64 0, .int .u64 0] 45)
      have HM3_ := blk_alloc HM3.out (.cells #[.slice none 0 0, .slice none 0 0, .int .u64 0, .int .u64 0, .int .u64 0, .int .u64 0] 45)
      have P0_ := P0.out.alloc (.cells #[.slice none 0 0, .slice none 0 0, .int .u64 0, .int .u64 0, .int .u64 0, .int .u64 0] 45)
      have P1_ := P1.out.alloc (.cells #[.slice none 0 0, .slice none 0 0, .int .u64 0, .int .u64 0, .int .u64 0, .int .u64 0] 45)
      have P2_ := P2.out.alloc (.cells #[.slice none 0 0, .slice none 0 0, .int .u64 0, .int .u64 0, .int .u64 0, .int .u64 0] 45)
      have M0_ := M0.out.alloc (.cells #[.slice none 0 0, .slice none 0 0, .int .u64 0, .int .u64 0, .int .u64 0, .int .u64 0] 45)
      have M1_ := M1.out.alloc (.cells #[.slice none 0 0, .slice none 0 0, .int .u64 0, .int .u64 0, .int .u64 0, .int .u64 0] 45)
      have M2_ := M2.out.alloc (.cells #[.slice none 0 0, .slice none 0 0, .int .u64 0, .int .u64 0, .int .u64 0, .int .u64 0] 45)
      have M3_ := M3.out.alloc (.cells #[.slice none 0 0, .slice none 0 0, .int .u64 0, .int .u64 0, .int .u64 0, .int .u64 0] 45)
      have HL_ := below_alloc HL.out (.cells #[.slice none 0 0, .slice none 0 0, .int .u64 0, .int .u64 0, .int .u64 0, .int .u64 0] 45)
      have HX_ := below_alloc HX.out (.cells #[.slice none 0 0, .slice none 0 0, .int .u64 0, .int .u64 0, .int .u64 0, .int .u64 0] 45)
      have HR_ := blk_new Y4 (.cells #[.slice none 0 0, .slice none 0 0, .int .u64 0, .int .u64 0, .int .u64 0, .int .u64 0] 45)
      have HGE := Lib.hid HX.out.size
      rw [HN.out] at HB0_ HB1_ HB2_ HM0_ HM1_ HM2_ HM3_ P0_ P1_ P2_ M0_ M1_ M2_ M3_ HL_ HX_ HR_
      clear HB0
      have HB0 := Lib.hid HB0_; clear HB0_
      clear HB1
      have HB1 := Lib.hid HB1_; clear HB1_
      clear HB2
      have HB2 := Lib.hid HB2_; clear HB2_
      clear HM0
      have HM0 := Lib.hid HM0_; clear HM0_
      clear HM1
      have HM1 := Lib.hid HM1_; clear HM1_
      clear HM2
      have HM2 := Lib.hid HM2_; clear HM2_
      clear HM3
      have HM3 := Lib.hid HM3_; clear HM3_
      clear P0
      have P0 := Lib.hid P0_; clear P0_
      clear P1
      have P1 := Lib.hid P1_; clear P1_
      clear P2
      have P2 := Lib.hid P2_; clear P2_
      clear M0
      have M0 := Lib.hid M0_; clear M0_
      clear M1
      have M1 := Lib.hid M1_; clear M1_
      clear M2
      have M2 := Lib.hid M2_; clear M2_
      clear M3
      have M3 := Lib.hid M3_; clear M3_
      clear HL
      have HL := Lib.hid HL_; clear HL_
      clear HX
      have HX := Lib.hid HX_; clear HX_
      have HR := Lib.hid HR_; clear HR_
      clear HN
      refine one_ (i := 1) (N := some 64) #[true, true, true, false, false, false, false, true, false, false] rfl rfl (by kernel_rfl) (by decide) (fun K hK => ?_)
      refine goes_ Try.func39 (by kernel_rfl) rfl #[.agg #[.slice Av v.h.length cv, .slice Bv v.k.length dv, .int .u64 v.g.n, .int .u64 v.g.nans, .int .u64 v.g.lo, .int .u64 v.g.hi]] (by rfl) rfl rfl (by (try simp only [List.map_toArray, List.map_cons, List.map_nil]); first | done | rfl) ?_
      (with_reducible refine (copyV P0.out).mono ?_)
      rintro e w7_ ⟨Ax, cx, Bx, dx, rfl, k_, hb⟩
      refine ⟨_, rfl, ?_⟩
      have HB0_ := (hb.block _ (blk_lt HB0.out)).trans HB0.out; clear HB0; have HB0 := Lib.hid HB0_; clear HB0_
      have HB1_ := (hb.block _ (blk_lt HB1.out)).trans HB1.out; clear HB1; have HB1 := Lib.hid HB1_; clear HB1_
      have HB2_ := (hb.block _ (blk_lt HB2.out)).trans HB2.out; clear HB2; have HB2 := Lib.hid HB2_; clear HB2_
      have HM0_ := (hb.block _ (blk_lt HM0.out)).trans HM0.out; clear HM0; have HM0 := Lib.hid HM0_; clear HM0_
      have HM1_ := (hb.block _ (blk_lt HM1.out)).trans HM1.out; clear HM1; have HM1 := Lib.hid HM1_; clear HM1_
      have HM2_ := (hb.block _ (blk_lt HM2.out)).trans HM2.out; clear HM2; have HM2 := Lib.hid HM2_; clear HM2_
      have HM3_ := (hb.block _ (blk_lt HM3.out)).trans HM3.out; clear HM3; have HM3 := Lib.hid HM3_; clear HM3_
      have P0_ := P0.out.below hb (Nat.le_refl _); clear P0; have P0 := Lib.hid P0_; clear P0_
      have P1_ := P1.out.below hb (Nat.le_refl _); clear P1; have P1 := Lib.hid P1_; clear P1_
      have P2_ := P2.out.below hb (Nat.le_refl _); clear P2; have P2 := Lib.hid P2_; clear P2_
      have M0_ := M0.out.below hb (Nat.le_refl _); clear M0; have M0 := Lib.hid M0_; clear M0_
      have M1_ := M1.out.below hb (Nat.le_refl _); clear M1; have M1 := Lib.hid M1_; clear M1_
      have M2_ := M2.out.below hb (Nat.le_refl _); clear M2; have M2 := Lib.hid M2_; clear M2_
      have M3_ := M3.out.below hb (Nat.le_refl _); clear M3; have M3 := Lib.hid M3_; clear M3_
      have HL_ := HL.out.trans (hb.mono HL.out.size); clear HL; have HL := Lib.hid HL_; clear HL_
      have HX_ := HX.out.trans (hb.mono HX.out.size); clear HX; have HX := Lib.hid HX_; clear HX_
      have HR_ := (hb.block _ (blk_lt HR.out)).trans HR.out; clear HR; have HR := Lib.hid HR_; clear HR_
      have Cx := Lib.hid k_; clear k_ hb
      refine hK.out _ _ ⟨blk_cell (HB0.out) 0, blk_cell (HB0.out) 1, blk_cell (HB0.out) 2, blk_cell (HB0.out) 3, blk_cell (HB0.out) 4, blk_cell (HB0.out) 5, blk_cell (HM2.out) 0, blk_cell (HM2.out) 1, blk_cell (HM2.out) 2, blk_cell (HM2.out) 3, blk_cell (HM2.out) 4, blk_cell (HM2.out) 5⟩ (fun _ => ?_)
      clear hK K
      refine norm_ (a' := ?_) ?_ ?_
      rotate_left
      · show Act.put _ (some 64) _ = _
        simp only [Act.put, List.setIfInBounds_toArray, List.set_cons_zero, List.set_cons_succ, i64_w, i32_w]
        rfl
      refine one_ (i := 3) (N := some 66) #[true, true, true, true, false, false, false, true, false, false] rfl rfl (by kernel_rfl) (by decide) (fun K hK => ?_)
      refine goes_ Try.func45 (by kernel_rfl) rfl #[.agg #[.slice Ax v.h.length cx, .slice Bx v.k.length dx, .int .u64 v.g.n, .int .u64 v.g.nans, .int .u64 v.g.lo, .int .u64 v.g.hi], .agg #[.slice AM2 s2.h.length cM2, .slice BM2 s2.k.length dM2, .int .u64 s2.g.n, .int .u64 s2.g.nans, .int .u64 s2.g.lo, .int .u64 s2.g.hi]] (by rfl) rfl rfl (by (try simp only [List.map_toArray, List.map_cons, List.map_nil]); first | done | rfl) ?_
      (with_reducible refine (merge_okR Cx.out M2.out AL5.out EE5.out).mono ?_)
      rintro e w8_ ⟨Am, cm, Bm, dm, rfl, k_, hR_, hS_, hb⟩
      refine ⟨_, rfl, ?_⟩
      have HROB := Lib.hid (Rob.of_R k_ hR_ hS_ (blk_lt HR.out))
      have HB0_ := (hb.block _ (blk_lt HB0.out)).trans HB0.out; clear HB0; have HB0 := Lib.hid HB0_; clear HB0_
      have HB1_ := (hb.block _ (blk_lt HB1.out)).trans HB1.out; clear HB1; have HB1 := Lib.hid HB1_; clear HB1_
      have HB2_ := (hb.block _ (blk_lt HB2.out)).trans HB2.out; clear HB2; have HB2 := Lib.hid HB2_; clear HB2_
      have HM0_ := (hb.block _ (blk_lt HM0.out)).trans HM0.out; clear HM0; have HM0 := Lib.hid HM0_; clear HM0_
      have HM1_ := (hb.block _ (blk_lt HM1.out)).trans HM1.out; clear HM1; have HM1 := Lib.hid HM1_; clear HM1_
      have HM2_ := (hb.block _ (blk_lt HM2.out)).trans HM2.out; clear HM2; have HM2 := Lib.hid HM2_; clear HM2_
      have HM3_ := (hb.block _ (blk_lt HM3.out)).trans HM3.out; clear HM3; have HM3 := Lib.hid HM3_; clear HM3_
      have P0_ := P0.out.below hb (Nat.le_refl _); clear P0; have P0 := Lib.hid P0_; clear P0_
      have P1_ := P1.out.below hb (Nat.le_refl _); clear P1; have P1 := Lib.hid P1_; clear P1_
      have P2_ := P2.out.below hb (Nat.le_refl _); clear P2; have P2 := Lib.hid P2_; clear P2_
      have M0_ := M0.out.below hb (Nat.le_refl _); clear M0; have M0 := Lib.hid M0_; clear M0_
      have M1_ := M1.out.below hb (Nat.le_refl _); clear M1; have M1 := Lib.hid M1_; clear M1_
      have M2_ := M2.out.below hb (Nat.le_refl _); clear M2; have M2 := Lib.hid M2_; clear M2_
      have M3_ := M3.out.below hb (Nat.le_refl _); clear M3; have M3 := Lib.hid M3_; clear M3_
      have Cx_ := Cx.out.below hb (Nat.le_refl _); clear Cx; have Cx := Lib.hid Cx_; clear Cx_
      have HL_ := HL.out.trans (hb.mono HL.out.size); clear HL; have HL := Lib.hid HL_; clear HL_
      have HX_ := HX.out.trans (hb.mono HX.out.size); clear HX; have HX := Lib.hid HX_; clear HX_
      have HR_ := (hb.block _ (blk_lt HR.out)).trans HR.out; clear HR; have HR := Lib.hid HR_; clear HR_
      clear k_ hR_ hS_ hb
      refine hK.out _ _ ⟨blk_cell (HB0.out) 0, blk_cell (HB0.out) 1, blk_cell (HB0.out) 2, blk_cell (HB0.out) 3, blk_cell (HB0.out) 4, blk_cell (HB0.out) 5, blk_cell (HM2.out) 0, blk_cell (HM2.out) 1, blk_cell (HM2.out) 2, blk_cell (HM2.out) 3, blk_cell (HM2.out) 4, blk_cell (HM2.out) 5⟩ (fun _ => ?_)
      clear hK K
      refine norm_ (a' := ?_) ?_ ?_
      rotate_left
      · show Act.put _ (some 66) _ = _
        simp only [Act.put, List.setIfInBounds_toArray, List.set_cons_zero, List.set_cons_succ, i64_w, i32_w]
        rfl
      refine pure_ (i := 4) (N := some 62) (v := ?_) (a' := ?_) #[true, true, true, true, true, false, false, true, false, false] rfl rfl (by kernel_rfl) (fun _ _ _ h => h) (Or.inl ⟨by rfl, ?_⟩) ?_ ?_
      rotate_left
      · intro w'
        go_simp
        with_reducible rfl
      rotate_left
      · simp only [Act.put, List.setIfInBounds_toArray, List.set_cons_zero, List.set_cons_succ, i64_w, i32_w]
        rfl
      refine pure_ (i := 5) (N := some 67) (v := ?_) (a' := ?_) #[true, true, true, true, true, true, false, true, false, false] rfl rfl (by kernel_rfl) (fun _ _ _ h => h) (Or.inl ⟨by rfl, ?_⟩) ?_ ?_
      rotate_left
      · intro w'
        go_simp
        with_reducible rfl
      rotate_left
      · simp only [Act.put, List.setIfInBounds_toArray, List.set_cons_zero, List.set_cons_succ, i64_w, i32_w]
        rfl
      refine pure_ (i := 6) (N := some 68) (v := ?_) (a' := ?_) #[true, true, true, true, true, true, true, true, false, false] rfl rfl (by kernel_rfl) (fun _ _ _ h => h) (Or.inl ⟨by rfl, ?_⟩) ?_ ?_
      rotate_left
      · intro w'
        go_simp
        with_reducible rfl
      rotate_left
      · simp only [Act.put, List.setIfInBounds_toArray, List.set_cons_zero, List.set_cons_succ, i64_w, i32_w]
        rfl
      refine norm_ ?_ (hcont ((.agg #[.slice Ax v.h.length cx, .slice Bx v.k.length dx, .int .u64 v.g.n, .int .u64 v.g.nans, .int .u64 v.g.lo, .int .u64 v.g.hi]), (.bool true), Y4.heap.size, Am, cm, Bm, dm) _ (Met.mk HX.out HGE.out HR.out HROB.out))
      simp only [putAll, Act.put, List.setIfInBounds_toArray, List.set_cons_zero, List.set_cons_succ]
  rintro ⟨v1_, v2_, rHM4, AM4, cM4, BM4, dM4⟩ w9_ hF
  obtain ⟨hbel, hge, hr, hrob⟩ := hF.out
  clear hF
  refine norm_ (a' := ?_) ?_ ?_
  rotate_left
  · simp only [putAll, Act.put, List.setIfInBounds_toArray, List.set_cons_zero, List.set_cons_succ]
    rfl
  refine last_ (i := 8) (N := none) #[true, true, true, true, true, true, true, true, true, false] rfl rfl (by kernel_rfl) (by decide) (fun K hK => ?_)
  have r0_ : w9_.cell? ⟨rHM4, 0, none⟩ = some (.slice none 0 0) := blk_cell hr 0; have q0_ := blk_frozen hr 0
  have r1_ : w9_.cell? ⟨rHM4, 1, none⟩ = some (.slice none 0 0) := blk_cell hr 1; have q1_ := blk_frozen hr 1
  have r2_ : w9_.cell? ⟨rHM4, 2, none⟩ = some (.int .u64 0) := blk_cell hr 2; have q2_ := blk_frozen hr 2
  have r3_ : w9_.cell? ⟨rHM4, 3, none⟩ = some (.int .u64 0) := blk_cell hr 3; have q3_ := blk_frozen hr 3
  have r4_ : w9_.cell? ⟨rHM4, 4, none⟩ = some (.int .u64 0) := blk_cell hr 4; have q4_ := blk_frozen hr 4
  have r5_ : w9_.cell? ⟨rHM4, 5, none⟩ = some (.int .u64 0) := blk_cell hr 5; have q5_ := blk_frozen hr 5
  have HRR := Lib.hid (And.intro hbel (And.intro hge (And.intro hr hrob))); clear hbel hge hr hrob
  refine skip_ (w1 := ?_) (by rfl) rfl ?_ ?_
  rotate_left
  · go_simp
    rfl
  refine hK.out _ _ ?_
  clear hK K r0_ q0_ r1_ q1_ r2_ q2_ r3_ q3_ r4_ q4_ r5_ q5_
  refine pure_ (i := 9) (N := some 16) (v := ?_) (a' := ?_) #[true, true, true, true, true, true, true, true, true, true] rfl rfl (by kernel_rfl) (fun _ _ _ h => h) (Or.inl ⟨by rfl, ?_⟩) ?_ ?_
  rotate_left
  · intro w'
    go_simp
    with_reducible rfl
  rotate_left
  · simp only [Act.put, List.setIfInBounds_toArray, List.set_cons_zero, List.set_cons_succ, i64_w, i32_w]
    rfl
  refine name_last (fun XHM4 HN => ?_)
  obtain ⟨n1_, n2_, n3_⟩ := fin6 HRR.out.1 HRR.out.2.1 HRR.out.2.2.1 (.slice AM4 s3.h.length cM4) (.slice BM4 s3.k.length dM4) (.int .u64 s3.g.n) (.int .u64 s3.g.nans) (.int .u64 s3.g.lo) (.int .u64 s3.g.hi)
  rw [HN.out] at n1_ n2_ n3_
  have k_ := HRR.out.2.2.2 XHM4 n3_
  have HB0_ := (n2_.block _ (blk_lt HB0.out)).trans HB0.out; clear HB0; have HB0 := Lib.hid HB0_; clear HB0_
  have HB1_ := (n2_.block _ (blk_lt HB1.out)).trans HB1.out; clear HB1; have HB1 := Lib.hid HB1_; clear HB1_
  have HB2_ := (n2_.block _ (blk_lt HB2.out)).trans HB2.out; clear HB2; have HB2 := Lib.hid HB2_; clear HB2_
  have HM0_ := (n2_.block _ (blk_lt HM0.out)).trans HM0.out; clear HM0; have HM0 := Lib.hid HM0_; clear HM0_
  have HM1_ := (n2_.block _ (blk_lt HM1.out)).trans HM1.out; clear HM1; have HM1 := Lib.hid HM1_; clear HM1_
  have HM2_ := (n2_.block _ (blk_lt HM2.out)).trans HM2.out; clear HM2; have HM2 := Lib.hid HM2_; clear HM2_
  have HM3_ := (n2_.block _ (blk_lt HM3.out)).trans HM3.out; clear HM3; have HM3 := Lib.hid HM3_; clear HM3_
  have P0_ := P0.out.below n2_ (Nat.le_refl _); clear P0; have P0 := Lib.hid P0_; clear P0_
  have P1_ := P1.out.below n2_ (Nat.le_refl _); clear P1; have P1 := Lib.hid P1_; clear P1_
  have P2_ := P2.out.below n2_ (Nat.le_refl _); clear P2; have P2 := Lib.hid P2_; clear P2_
  have M0_ := M0.out.below n2_ (Nat.le_refl _); clear M0; have M0 := Lib.hid M0_; clear M0_
  have M1_ := M1.out.below n2_ (Nat.le_refl _); clear M1; have M1 := Lib.hid M1_; clear M1_
  have M2_ := M2.out.below n2_ (Nat.le_refl _); clear M2; have M2 := Lib.hid M2_; clear M2_
  have M3_ := M3.out.below n2_ (Nat.le_refl _); clear M3; have M3 := Lib.hid M3_; clear M3_
  have HL_ := HL.out.trans (n2_.mono HL.out.size); clear HL; have HL := Lib.hid HL_; clear HL_
  have HM4 := Lib.hid n1_; have M4 := Lib.hid k_
  clear n1_ n2_ n3_ k_ HN HRR HX
  refine done_ (by kernel_rfl) ?_
  refine NoPanic.normal ?_
  obtain ⟨HM0c0, HM0c1, HM0c2, HM0c3, HM0c4, HM0c5⟩ := box6 HM0.out; have HM0lt := blk_lt HM0.out
  obtain ⟨HM1c0, HM1c1, HM1c2, HM1c3, HM1c4, HM1c5⟩ := box6 HM1.out; have HM1lt := blk_lt HM1.out
  obtain ⟨HM3c0, HM3c1, HM3c2, HM3c3, HM3c4, HM3c5⟩ := box6 HM3.out; have HM3lt := blk_lt HM3.out
  obtain ⟨HM4c0, HM4c1, HM4c2, HM4c3, HM4c4, HM4c5⟩ := box6 HM4.out; have HM4lt := blk_lt HM4.out
  have T0 := Lib.hid True.intro
  have T1 := Lib.hid True.intro
  go_wp2_with (first
    | (go_at_call 42; clear T0; (with_reducible refine (sameV M0.out M1.out).mono ?_); rintro e w90_ ⟨rfl, hb⟩; clear HM0c0 HM0c1 HM0c2 HM0c3 HM0c4 HM0c5 HM0lt HM1c0 HM1c1 HM1c2 HM1c3 HM1c4 HM1c5 HM1lt HM3c0 HM3c1 HM3c2 HM3c3 HM3c4 HM3c5 HM3lt HM4c0 HM4c1 HM4c2 HM4c3 HM4c4 HM4c5 HM4lt; have HB0_ := (hb.block _ (blk_lt HB0.out)).trans HB0.out; clear HB0; have HB0 := Lib.hid HB0_; clear HB0_; have HB1_ := (hb.block _ (blk_lt HB1.out)).trans HB1.out; clear HB1; have HB1 := Lib.hid HB1_; clear HB1_; have HB2_ := (hb.block _ (blk_lt HB2.out)).trans HB2.out; clear HB2; have HB2 := Lib.hid HB2_; clear HB2_; have HM0_ := (hb.block _ (blk_lt HM0.out)).trans HM0.out; clear HM0; have HM0 := Lib.hid HM0_; clear HM0_; have HM1_ := (hb.block _ (blk_lt HM1.out)).trans HM1.out; clear HM1; have HM1 := Lib.hid HM1_; clear HM1_; have HM2_ := (hb.block _ (blk_lt HM2.out)).trans HM2.out; clear HM2; have HM2 := Lib.hid HM2_; clear HM2_; have HM3_ := (hb.block _ (blk_lt HM3.out)).trans HM3.out; clear HM3; have HM3 := Lib.hid HM3_; clear HM3_; have HM4_ := (hb.block _ (blk_lt HM4.out)).trans HM4.out; clear HM4; have HM4 := Lib.hid HM4_; clear HM4_; have P0_ := P0.out.below hb (Nat.le_refl _); clear P0; have P0 := Lib.hid P0_; clear P0_; have P1_ := P1.out.below hb (Nat.le_refl _); clear P1; have P1 := Lib.hid P1_; clear P1_; have P2_ := P2.out.below hb (Nat.le_refl _); clear P2; have P2 := Lib.hid P2_; clear P2_; have M0_ := M0.out.below hb (Nat.le_refl _); clear M0; have M0 := Lib.hid M0_; clear M0_; have M1_ := M1.out.below hb (Nat.le_refl _); clear M1; have M1 := Lib.hid M1_; clear M1_; have M2_ := M2.out.below hb (Nat.le_refl _); clear M2; have M2 := Lib.hid M2_; clear M2_; have M3_ := M3.out.below hb (Nat.le_refl _); clear M3; have M3 := Lib.hid M3_; clear M3_; have M4_ := M4.out.below hb (Nat.le_refl _); clear M4; have M4 := Lib.hid M4_; clear M4_; have HL_ := HL.out.trans (hb.mono HL.out.size); clear HL; have HL := Lib.hid HL_; clear HL_; clear hb; obtain ⟨HM3c0, HM3c1, HM3c2, HM3c3, HM3c4, HM3c5⟩ := box6 HM3.out; have HM3lt := blk_lt HM3.out; obtain ⟨HM4c0, HM4c1, HM4c2, HM4c3, HM4c4, HM4c5⟩ := box6 HM4.out; have HM4lt := blk_lt HM4.out)
    | (go_at_call 42; clear T1; (with_reducible refine (sameV M3.out M4.out).mono ?_); rintro e w91_ ⟨rfl, hb⟩; clear HM3c0 HM3c1 HM3c2 HM3c3 HM3c4 HM3c5 HM3lt HM4c0 HM4c1 HM4c2 HM4c3 HM4c4 HM4c5 HM4lt; have HB0_ := (hb.block _ (blk_lt HB0.out)).trans HB0.out; clear HB0; have HB0 := Lib.hid HB0_; clear HB0_; have HB1_ := (hb.block _ (blk_lt HB1.out)).trans HB1.out; clear HB1; have HB1 := Lib.hid HB1_; clear HB1_; have HB2_ := (hb.block _ (blk_lt HB2.out)).trans HB2.out; clear HB2; have HB2 := Lib.hid HB2_; clear HB2_; have HM0_ := (hb.block _ (blk_lt HM0.out)).trans HM0.out; clear HM0; have HM0 := Lib.hid HM0_; clear HM0_; have HM1_ := (hb.block _ (blk_lt HM1.out)).trans HM1.out; clear HM1; have HM1 := Lib.hid HM1_; clear HM1_; have HM2_ := (hb.block _ (blk_lt HM2.out)).trans HM2.out; clear HM2; have HM2 := Lib.hid HM2_; clear HM2_; have HM3_ := (hb.block _ (blk_lt HM3.out)).trans HM3.out; clear HM3; have HM3 := Lib.hid HM3_; clear HM3_; have HM4_ := (hb.block _ (blk_lt HM4.out)).trans HM4.out; clear HM4; have HM4 := Lib.hid HM4_; clear HM4_; have P0_ := P0.out.below hb (Nat.le_refl _); clear P0; have P0 := Lib.hid P0_; clear P0_; have P1_ := P1.out.below hb (Nat.le_refl _); clear P1; have P1 := Lib.hid P1_; clear P1_; have P2_ := P2.out.below hb (Nat.le_refl _); clear P2; have P2 := Lib.hid P2_; clear P2_; have M0_ := M0.out.below hb (Nat.le_refl _); clear M0; have M0 := Lib.hid M0_; clear M0_; have M1_ := M1.out.below hb (Nat.le_refl _); clear M1; have M1 := Lib.hid M1_; clear M1_; have M2_ := M2.out.below hb (Nat.le_refl _); clear M2; have M2 := Lib.hid M2_; clear M2_; have M3_ := M3.out.below hb (Nat.le_refl _); clear M3; have M3 := Lib.hid M3_; clear M3_; have M4_ := M4.out.below hb (Nat.le_refl _); clear M4; have M4 := Lib.hid M4_; clear M4_; have HL_ := HL.out.trans (hb.mono HL.out.size); clear HL; have HL := Lib.hid HL_; clear HL_; clear hb)
    | (go_at_call 25; (with_reducible refine (awake_p _).mono ?_); rintro e w92_ ⟨rfl, hb⟩; have HB0_ := (hb.block _ (blk_lt HB0.out)).trans HB0.out; clear HB0; have HB0 := Lib.hid HB0_; clear HB0_; have HB1_ := (hb.block _ (blk_lt HB1.out)).trans HB1.out; clear HB1; have HB1 := Lib.hid HB1_; clear HB1_; have HB2_ := (hb.block _ (blk_lt HB2.out)).trans HB2.out; clear HB2; have HB2 := Lib.hid HB2_; clear HB2_; have HM0_ := (hb.block _ (blk_lt HM0.out)).trans HM0.out; clear HM0; have HM0 := Lib.hid HM0_; clear HM0_; have HM1_ := (hb.block _ (blk_lt HM1.out)).trans HM1.out; clear HM1; have HM1 := Lib.hid HM1_; clear HM1_; have HM2_ := (hb.block _ (blk_lt HM2.out)).trans HM2.out; clear HM2; have HM2 := Lib.hid HM2_; clear HM2_; have HM3_ := (hb.block _ (blk_lt HM3.out)).trans HM3.out; clear HM3; have HM3 := Lib.hid HM3_; clear HM3_; have HM4_ := (hb.block _ (blk_lt HM4.out)).trans HM4.out; clear HM4; have HM4 := Lib.hid HM4_; clear HM4_; have P0_ := P0.out.below hb (Nat.le_refl _); clear P0; have P0 := Lib.hid P0_; clear P0_; have P1_ := P1.out.below hb (Nat.le_refl _); clear P1; have P1 := Lib.hid P1_; clear P1_; have P2_ := P2.out.below hb (Nat.le_refl _); clear P2; have P2 := Lib.hid P2_; clear P2_; have M0_ := M0.out.below hb (Nat.le_refl _); clear M0; have M0 := Lib.hid M0_; clear M0_; have M1_ := M1.out.below hb (Nat.le_refl _); clear M1; have M1 := Lib.hid M1_; clear M1_; have M2_ := M2.out.below hb (Nat.le_refl _); clear M2; have M2 := Lib.hid M2_; clear M2_; have M3_ := M3.out.below hb (Nat.le_refl _); clear M3; have M3 := Lib.hid M3_; clear M3_; have M4_ := M4.out.below hb (Nat.le_refl _); clear M4; have M4 := Lib.hid M4_; clear M4_; have HL_ := HL.out.trans (hb.mono HL.out.size); clear HL; have HL := Lib.hid HL_; clear HL_; clear hb))
  go_ret
  exact ⟨rfl, HL.out⟩
end Go.Proofs.Ytncgjbocgbnkcaa
namespace Go.Proofs.Ytncgjbocgbnkcaa.Pure
set_option linter.unusedVariables false
set_option linter.unusedSimpArgs false
open Go.RowKit Go.Proofs.YtncgjbocgbnkcaaW.PrintWords Go.Proofs.Ytncgjbocgbnkcaa.Hi
theorem PairTurns_walk (A0 : Option Addr) (c0 : Nat) (B0 : Option Addr) (d0 : Nat) (y0 : SV) (A1 : Option Addr) (c1 : Nat) (B1 : Option Addr) (d1 : Nat) (y1 : SV) (A2 : Option Addr) (c2 : Nat) (B2 : Option Addr) (d2 : Nat) (y2 : SV) (w : World)
    (C0 : Kd.C k68 w A0 y0.h.length y0.h) (m0 : y0.h.length ≤ c0) (D0 : Kd.C (Kd.int .u64) w B0 y0.k.length y0.k) (n0 : y0.k.length ≤ d0) (w0 : y0.wf) (C1 : Kd.C k68 w A1 y1.h.length y1.h) (m1 : y1.h.length ≤ c1) (D1 : Kd.C (Kd.int .u64) w B1 y1.k.length y1.k) (n1 : y1.k.length ≤ d1) (w1 : y1.wf) (C2 : Kd.C k68 w A2 y2.h.length y2.h) (m2 : y2.h.length ≤ c2) (D2 : Kd.C (Kd.int .u64) w B2 y2.k.length y2.k) (n2 : y2.k.length ≤ d2) (w2 : y2.wf) :
    Calls Try.prog 14 #[.agg #[.slice A0 y0.h.length c0, .slice B0 y0.k.length d0, .int .u64 y0.g.n, .int .u64 y0.g.nans, .int .u64 y0.g.lo, .int .u64 y0.g.hi], .agg #[.slice A1 y1.h.length c1, .slice B1 y1.k.length d1, .int .u64 y1.g.n, .int .u64 y1.g.nans, .int .u64 y1.g.lo, .int .u64 y1.g.hi], .agg #[.slice A2 y2.h.length c2, .slice B2 y2.k.length d2, .int .u64 y2.g.n, .int .u64 y2.g.nans, .int .u64 y2.g.lo, .int .u64 y2.g.hi]] w fun e w' => e = .returned (.bool true) ∧ Below w.heap.size w w' := by
  have k0 := skV C0 m0 D0 n0 w0
  have k1 := skV C1 m1 D1 n1 w1
  have k2 := skV C2 m2 D2 n2 w2
  cases h0 : y0.ok
  · exact Turns_no0 A0 c0 B0 d0 y0 A1 c1 B1 d1 y1 A2 c2 B2 d2 y2 w k0 w0 k1 w1 k2 w2 h0
  cases h1 : y1.ok
  · exact Turns_no1 A0 c0 B0 d0 y0 A1 c1 B1 d1 y1 A2 c2 B2 d2 y2 w k0 w0 k1 w1 k2 w2 h0 h1
  cases h2 : y2.ok
  · exact Turns_no2 A0 c0 B0 d0 y0 A1 c1 B1 d1 y1 A2 c2 B2 d2 y2 w k0 w0 k1 w1 k2 w2 h0 h1 h2
  obtain ⟨wa, oa⟩ := sumV_ok (AllOk.two w0 h0 w1 h1)
  obtain ⟨wb, ob⟩ := sumV_ok (AllOk.two w1 h1 w2 h2)
  exact Turns_yes A0 c0 B0 d0 y0 A1 c1 B1 d1 y1 A2 c2 B2 d2 y2 w k0 w0 k1 w1 k2 w2 h0 h1 h2 _ _ _ (AllOk.two w0 h0 w1 h1) (AllOk.two w1 h1 w0 h0) (AllOk.two w1 h1 w2 h2) (AllOk.two wa oa w2 h2) (AllOk.two w0 h0 wb ob) rfl (sum_comm w1 h1 w0 h0) rfl rfl (sum_assoc w0 h0 w1 h1 w2 h2).symm
end Go.Proofs.Ytncgjbocgbnkcaa.Pure
