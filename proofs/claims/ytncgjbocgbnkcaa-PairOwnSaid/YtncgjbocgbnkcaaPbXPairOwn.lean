/- For any two sketches: what is told is new memory, what is handed in stays. No condition. -/
import Derived.Test.YtncgjbocgbnkcaaPbM4
namespace Go.Proofs.Ytncgjbocgbnkcaa
set_option linter.unusedVariables false
set_option linter.unusedSimpArgs false
open Go.RowKit Go.Maps Go.Proofs.YtncgjbocgbnkcaaW.PrintWords Go.Proofs.YtncgjbocgbnkcaaW.PrintLast Go.Proofs.YtncgjbocgbnkcaaW.PrintMore Go.Proofs.Ytncgjbocgbnkcaa.Pure Go.Proofs.Ytncgjbocgbnkcaa.Q Go.Proofs.Ytncgjbocgbnkcaa.Hi Go.Proofs.Ytncgjbocgbnkcaa.Ga
set_option maxHeartbeats 8000000 in
set_option maxRecDepth 100000 in
theorem Own_no0 (Av : Option Addr) (cv : Nat) (Bv : Option Addr) (dv : Nat) (v : SV) (Au : Option Addr) (cu : Nat) (Bu : Option Addr) (du : Nat) (u : SV) (w : World) (kv : SK w Av cv v.h Bv dv v.k) (hwv : v.wf) (ku : SK w Au cu u.h Bu du u.k) (hwu : u.wf) (hv : v.ok = false) :
    Calls Try.prog 11 #[.agg #[.slice Av v.h.length cv, .slice Bv v.k.length dv, .int .u64 v.g.n, .int .u64 v.g.nans, .int .u64 v.g.lo, .int .u64 v.g.hi], .agg #[.slice Au u.h.length cu, .slice Bu u.k.length du, .int .u64 u.g.n, .int .u64 u.g.nans, .int .u64 u.g.lo, .int .u64 u.g.hi]] w fun e w' => e = .returned (.bool true) ∧ Below w.heap.size w w' := by
  have hu62 := Try.underlying45
  have P0 := Lib.hid kv; have HW0 := Lib.hid hwv
  have P1 := Lib.hid ku; have HW1 := Lib.hid hwu
  have HH0 := Lib.hid hv
  clear kv hwv ku hwu hv
  go_enter Try.func11, Try.ntmps11
  go_wp2_with fail
  refine name_calls (fun WW HX => ?_)
  have b0_ := blk_alloc (blk_new w (.cells #[.slice Av v.h.length cv, .slice Bv v.k.length dv, .int .u64 v.g.n, .int .u64 v.g.nans, .int .u64 v.g.lo, .int .u64 v.g.hi] 45)) (.cells #[.slice Au u.h.length cu, .slice Bu u.k.length du, .int .u64 u.g.n, .int .u64 u.g.nans, .int .u64 u.g.lo, .int .u64 u.g.hi] 45)
  have b1_ := blk_new (w.alloc (.cells #[.slice Av v.h.length cv, .slice Bv v.k.length dv, .int .u64 v.g.n, .int .u64 v.g.nans, .int .u64 v.g.lo, .int .u64 v.g.hi] 45)) (.cells #[.slice Au u.h.length cu, .slice Bu u.k.length du, .int .u64 u.g.n, .int .u64 u.g.nans, .int .u64 u.g.lo, .int .u64 u.g.hi] 45)
  have l0_ := below_alloc (below_alloc (Below.refl w.heap.size w) (.cells #[.slice Av v.h.length cv, .slice Bv v.k.length dv, .int .u64 v.g.n, .int .u64 v.g.nans, .int .u64 v.g.lo, .int .u64 v.g.hi] 45)) (.cells #[.slice Au u.h.length cu, .slice Bu u.k.length du, .int .u64 u.g.n, .int .u64 u.g.nans, .int .u64 u.g.lo, .int .u64 u.g.hi] 45)
  have p0_ := ((P0.out).alloc (.cells #[.slice Av v.h.length cv, .slice Bv v.k.length dv, .int .u64 v.g.n, .int .u64 v.g.nans, .int .u64 v.g.lo, .int .u64 v.g.hi] 45)).alloc (.cells #[.slice Au u.h.length cu, .slice Bu u.k.length du, .int .u64 u.g.n, .int .u64 u.g.nans, .int .u64 u.g.lo, .int .u64 u.g.hi] 45)
  have p1_ := ((P1.out).alloc (.cells #[.slice Av v.h.length cv, .slice Bv v.k.length dv, .int .u64 v.g.n, .int .u64 v.g.nans, .int .u64 v.g.lo, .int .u64 v.g.hi] 45)).alloc (.cells #[.slice Au u.h.length cu, .slice Bu u.k.length du, .int .u64 u.g.n, .int .u64 u.g.nans, .int .u64 u.g.lo, .int .u64 u.g.hi] 45)
  rw [show (w.alloc (.cells #[.slice Av v.h.length cv, .slice Bv v.k.length dv, .int .u64 v.g.n, .int .u64 v.g.nans, .int .u64 v.g.lo, .int .u64 v.g.hi] 45)).heap.size = w.heap.size + 1 from by simp] at b1_
  rw [HX.out] at b0_ b1_ l0_ p0_ p1_
  clear P0 P1 HX
  have HB0 := Lib.hid b0_; have P0 := Lib.hid p0_
  have HB1 := Lib.hid b1_; have P1 := Lib.hid p1_
  have HL := Lib.hid l0_
  clear l0_ b0_ p0_ b1_ p1_
  go_wp2_with (first
    | (go_at_call 40; (with_reducible refine (rcheckV P0.out HW0.out HH0.out).mono ?_); rintro e w0_ ⟨rfl, hb⟩; have HB0_ := (hb.block _ (blk_lt HB0.out)).trans HB0.out; clear HB0; have HB0 := Lib.hid HB0_; clear HB0_; have HB1_ := (hb.block _ (blk_lt HB1.out)).trans HB1.out; clear HB1; have HB1 := Lib.hid HB1_; clear HB1_; have P0_ := P0.out.below hb (Nat.le_refl _); clear P0; have P0 := Lib.hid P0_; clear P0_; have P1_ := P1.out.below hb (Nat.le_refl _); clear P1; have P1 := Lib.hid P1_; clear P1_; have HL_ := HL.out.trans (hb.mono HL.out.size); clear HL; have HL := Lib.hid HL_; clear HL_; clear hb)
    | (go_at_call 25; (with_reducible refine (awake_p _).mono ?_); rintro e w1_ ⟨rfl, hb⟩; have HB0_ := (hb.block _ (blk_lt HB0.out)).trans HB0.out; clear HB0; have HB0 := Lib.hid HB0_; clear HB0_; have HB1_ := (hb.block _ (blk_lt HB1.out)).trans HB1.out; clear HB1; have HB1 := Lib.hid HB1_; clear HB1_; have P0_ := P0.out.below hb (Nat.le_refl _); clear P0; have P0 := Lib.hid P0_; clear P0_; have P1_ := P1.out.below hb (Nat.le_refl _); clear P1; have P1 := Lib.hid P1_; clear P1_; have HL_ := HL.out.trans (hb.mono HL.out.size); clear HL; have HL := Lib.hid HL_; clear HL_; clear hb))
  go_ret
  exact ⟨rfl, HL.out⟩
set_option maxHeartbeats 8000000 in
set_option maxRecDepth 100000 in
theorem Own_no1 (Av : Option Addr) (cv : Nat) (Bv : Option Addr) (dv : Nat) (v : SV) (Au : Option Addr) (cu : Nat) (Bu : Option Addr) (du : Nat) (u : SV) (w : World) (kv : SK w Av cv v.h Bv dv v.k) (hwv : v.wf) (ku : SK w Au cu u.h Bu du u.k) (hwu : u.wf) (hv : v.ok = true) (hu : u.ok = false) :
    Calls Try.prog 11 #[.agg #[.slice Av v.h.length cv, .slice Bv v.k.length dv, .int .u64 v.g.n, .int .u64 v.g.nans, .int .u64 v.g.lo, .int .u64 v.g.hi], .agg #[.slice Au u.h.length cu, .slice Bu u.k.length du, .int .u64 u.g.n, .int .u64 u.g.nans, .int .u64 u.g.lo, .int .u64 u.g.hi]] w fun e w' => e = .returned (.bool true) ∧ Below w.heap.size w w' := by
  have hu62 := Try.underlying45
  have P0 := Lib.hid kv; have HW0 := Lib.hid hwv
  have P1 := Lib.hid ku; have HW1 := Lib.hid hwu
  have HH0 := Lib.hid hv
  have HH1 := Lib.hid hu
  clear kv hwv ku hwu hv hu
  go_enter Try.func11, Try.ntmps11
  go_wp2_with fail
  refine name_calls (fun WW HX => ?_)
  have b0_ := blk_alloc (blk_new w (.cells #[.slice Av v.h.length cv, .slice Bv v.k.length dv, .int .u64 v.g.n, .int .u64 v.g.nans, .int .u64 v.g.lo, .int .u64 v.g.hi] 45)) (.cells #[.slice Au u.h.length cu, .slice Bu u.k.length du, .int .u64 u.g.n, .int .u64 u.g.nans, .int .u64 u.g.lo, .int .u64 u.g.hi] 45)
  have b1_ := blk_new (w.alloc (.cells #[.slice Av v.h.length cv, .slice Bv v.k.length dv, .int .u64 v.g.n, .int .u64 v.g.nans, .int .u64 v.g.lo, .int .u64 v.g.hi] 45)) (.cells #[.slice Au u.h.length cu, .slice Bu u.k.length du, .int .u64 u.g.n, .int .u64 u.g.nans, .int .u64 u.g.lo, .int .u64 u.g.hi] 45)
  have l0_ := below_alloc (below_alloc (Below.refl w.heap.size w) (.cells #[.slice Av v.h.length cv, .slice Bv v.k.length dv, .int .u64 v.g.n, .int .u64 v.g.nans, .int .u64 v.g.lo, .int .u64 v.g.hi] 45)) (.cells #[.slice Au u.h.length cu, .slice Bu u.k.length du, .int .u64 u.g.n, .int .u64 u.g.nans, .int .u64 u.g.lo, .int .u64 u.g.hi] 45)
  have p0_ := ((P0.out).alloc (.cells #[.slice Av v.h.length cv, .slice Bv v.k.length dv, .int .u64 v.g.n, .int .u64 v.g.nans, .int .u64 v.g.lo, .int .u64 v.g.hi] 45)).alloc (.cells #[.slice Au u.h.length cu, .slice Bu u.k.length du, .int .u64 u.g.n, .int .u64 u.g.nans, .int .u64 u.g.lo, .int .u64 u.g.hi] 45)
  have p1_ := ((P1.out).alloc (.cells #[.slice Av v.h.length cv, .slice Bv v.k.length dv, .int .u64 v.g.n, .int .u64 v.g.nans, .int .u64 v.g.lo, .int .u64 v.g.hi] 45)).alloc (.cells #[.slice Au u.h.length cu, .slice Bu u.k.length du, .int .u64 u.g.n, .int .u64 u.g.nans, .int .u64 u.g.lo, .int .u64 u.g.hi] 45)
  rw [show (w.alloc (.cells #[.slice Av v.h.length cv, .slice Bv v.k.length dv, .int .u64 v.g.n, .int .u64 v.g.nans, .int .u64 v.g.lo, .int .u64 v.g.hi] 45)).heap.size = w.heap.size + 1 from by simp] at b1_
  rw [HX.out] at b0_ b1_ l0_ p0_ p1_
  clear P0 P1 HX
  have HB0 := Lib.hid b0_; have P0 := Lib.hid p0_
  have HB1 := Lib.hid b1_; have P1 := Lib.hid p1_
  have HL := Lib.hid l0_
  clear l0_ b0_ p0_ b1_ p1_
  go_wp2_with (first
    | (go_at_call 40; (with_reducible refine (rcheckV P0.out HW0.out HH0.out).mono ?_); rintro e w0_ ⟨rfl, hb⟩; have HB0_ := (hb.block _ (blk_lt HB0.out)).trans HB0.out; clear HB0; have HB0 := Lib.hid HB0_; clear HB0_; have HB1_ := (hb.block _ (blk_lt HB1.out)).trans HB1.out; clear HB1; have HB1 := Lib.hid HB1_; clear HB1_; have P0_ := P0.out.below hb (Nat.le_refl _); clear P0; have P0 := Lib.hid P0_; clear P0_; have P1_ := P1.out.below hb (Nat.le_refl _); clear P1; have P1 := Lib.hid P1_; clear P1_; have HL_ := HL.out.trans (hb.mono HL.out.size); clear HL; have HL := Lib.hid HL_; clear HL_; clear hb; obtain ⟨HB1c0, HB1c1, HB1c2, HB1c3, HB1c4, HB1c5⟩ := box6 HB1.out; have HB1lt := blk_lt HB1.out)
    | (go_at_call 40; (with_reducible refine (rcheckV P1.out HW1.out HH1.out).mono ?_); rintro e w1_ ⟨rfl, hb⟩; clear HB1c0 HB1c1 HB1c2 HB1c3 HB1c4 HB1c5 HB1lt; have HB0_ := (hb.block _ (blk_lt HB0.out)).trans HB0.out; clear HB0; have HB0 := Lib.hid HB0_; clear HB0_; have HB1_ := (hb.block _ (blk_lt HB1.out)).trans HB1.out; clear HB1; have HB1 := Lib.hid HB1_; clear HB1_; have P0_ := P0.out.below hb (Nat.le_refl _); clear P0; have P0 := Lib.hid P0_; clear P0_; have P1_ := P1.out.below hb (Nat.le_refl _); clear P1; have P1 := Lib.hid P1_; clear P1_; have HL_ := HL.out.trans (hb.mono HL.out.size); clear HL; have HL := Lib.hid HL_; clear HL_; clear hb)
    | (go_at_call 25; (with_reducible refine (awake_p _).mono ?_); rintro e w2_ ⟨rfl, hb⟩; have HB0_ := (hb.block _ (blk_lt HB0.out)).trans HB0.out; clear HB0; have HB0 := Lib.hid HB0_; clear HB0_; have HB1_ := (hb.block _ (blk_lt HB1.out)).trans HB1.out; clear HB1; have HB1 := Lib.hid HB1_; clear HB1_; have P0_ := P0.out.below hb (Nat.le_refl _); clear P0; have P0 := Lib.hid P0_; clear P0_; have P1_ := P1.out.below hb (Nat.le_refl _); clear P1; have P1 := Lib.hid P1_; clear P1_; have HL_ := HL.out.trans (hb.mono HL.out.size); clear HL; have HL := Lib.hid HL_; clear HL_; clear hb))
  go_ret
  exact ⟨rfl, HL.out⟩
set_option maxHeartbeats 8000000 in
set_option maxRecDepth 100000 in
theorem Own_yes (Av : Option Addr) (cv : Nat) (Bv : Option Addr) (dv : Nat) (v : SV) (Au : Option Addr) (cu : Nat) (Bu : Option Addr) (du : Nat) (u : SV) (w : World) (kv : SK w Av cv v.h Bv dv v.k) (hwv : v.wf) (ku : SK w Au cu u.h Bu du u.k) (hwu : u.wf) (hv : v.ok = true) (hu : u.ok = true) :
    Calls Try.prog 11 #[.agg #[.slice Av v.h.length cv, .slice Bv v.k.length dv, .int .u64 v.g.n, .int .u64 v.g.nans, .int .u64 v.g.lo, .int .u64 v.g.hi], .agg #[.slice Au u.h.length cu, .slice Bu u.k.length du, .int .u64 u.g.n, .int .u64 u.g.nans, .int .u64 u.g.lo, .int .u64 u.g.hi]] w fun e w' => e = .returned (.bool true) ∧ Below w.heap.size w w' := by
  have bnd1 := kv.s1
  have bnd2 := kv.s2
  have hu62 := Try.underlying45
  have P0 := Lib.hid kv; have HW0 := Lib.hid hwv
  have P1 := Lib.hid ku; have HW1 := Lib.hid hwu
  have HH0 := Lib.hid hv
  have HH1 := Lib.hid hu
  clear kv hwv ku hwu hv hu
  go_enter Try.func11, Try.ntmps11
  go_wp2_with fail
  refine name_calls (fun WW HX => ?_)
  have b0_ := blk_alloc (blk_new w (.cells #[.slice Av v.h.length cv, .slice Bv v.k.length dv, .int .u64 v.g.n, .int .u64 v.g.nans, .int .u64 v.g.lo, .int .u64 v.g.hi] 45)) (.cells #[.slice Au u.h.length cu, .slice Bu u.k.length du, .int .u64 u.g.n, .int .u64 u.g.nans, .int .u64 u.g.lo, .int .u64 u.g.hi] 45)
  have b1_ := blk_new (w.alloc (.cells #[.slice Av v.h.length cv, .slice Bv v.k.length dv, .int .u64 v.g.n, .int .u64 v.g.nans, .int .u64 v.g.lo, .int .u64 v.g.hi] 45)) (.cells #[.slice Au u.h.length cu, .slice Bu u.k.length du, .int .u64 u.g.n, .int .u64 u.g.nans, .int .u64 u.g.lo, .int .u64 u.g.hi] 45)
  have l0_ := below_alloc (below_alloc (Below.refl w.heap.size w) (.cells #[.slice Av v.h.length cv, .slice Bv v.k.length dv, .int .u64 v.g.n, .int .u64 v.g.nans, .int .u64 v.g.lo, .int .u64 v.g.hi] 45)) (.cells #[.slice Au u.h.length cu, .slice Bu u.k.length du, .int .u64 u.g.n, .int .u64 u.g.nans, .int .u64 u.g.lo, .int .u64 u.g.hi] 45)
  have p0_ := ((P0.out).alloc (.cells #[.slice Av v.h.length cv, .slice Bv v.k.length dv, .int .u64 v.g.n, .int .u64 v.g.nans, .int .u64 v.g.lo, .int .u64 v.g.hi] 45)).alloc (.cells #[.slice Au u.h.length cu, .slice Bu u.k.length du, .int .u64 u.g.n, .int .u64 u.g.nans, .int .u64 u.g.lo, .int .u64 u.g.hi] 45)
  have p1_ := ((P1.out).alloc (.cells #[.slice Av v.h.length cv, .slice Bv v.k.length dv, .int .u64 v.g.n, .int .u64 v.g.nans, .int .u64 v.g.lo, .int .u64 v.g.hi] 45)).alloc (.cells #[.slice Au u.h.length cu, .slice Bu u.k.length du, .int .u64 u.g.n, .int .u64 u.g.nans, .int .u64 u.g.lo, .int .u64 u.g.hi] 45)
  rw [show (w.alloc (.cells #[.slice Av v.h.length cv, .slice Bv v.k.length dv, .int .u64 v.g.n, .int .u64 v.g.nans, .int .u64 v.g.lo, .int .u64 v.g.hi] 45)).heap.size = w.heap.size + 1 from by simp] at b1_
  rw [HX.out] at b0_ b1_ l0_ p0_ p1_
  clear P0 P1 HX
  have HB0 := Lib.hid b0_; have P0 := Lib.hid p0_
  have HB1 := Lib.hid b1_; have P1 := Lib.hid p1_
  have HL := Lib.hid l0_
  clear l0_ b0_ p0_ b1_ p1_
  have T0 := Lib.hid True.intro
  have T1 := Lib.hid True.intro
  have T2 := Lib.hid True.intro
  go_wp2_with (first
    | (go_at_call 40; clear T0; (with_reducible refine (rcheckV P0.out HW0.out HH0.out).mono ?_); rintro e w0_ ⟨rfl, hb⟩; have HB0_ := (hb.block _ (blk_lt HB0.out)).trans HB0.out; clear HB0; have HB0 := Lib.hid HB0_; clear HB0_; have HB1_ := (hb.block _ (blk_lt HB1.out)).trans HB1.out; clear HB1; have HB1 := Lib.hid HB1_; clear HB1_; have P0_ := P0.out.below hb (Nat.le_refl _); clear P0; have P0 := Lib.hid P0_; clear P0_; have P1_ := P1.out.below hb (Nat.le_refl _); clear P1; have P1 := Lib.hid P1_; clear P1_; have HL_ := HL.out.trans (hb.mono HL.out.size); clear HL; have HL := Lib.hid HL_; clear HL_; clear hb; obtain ⟨HB1c0, HB1c1, HB1c2, HB1c3, HB1c4, HB1c5⟩ := box6 HB1.out; have HB1lt := blk_lt HB1.out)
    | (go_at_call 40; clear T1; (with_reducible refine (rcheckV P1.out HW1.out HH1.out).mono ?_); rintro e w1_ ⟨rfl, hb⟩; clear HB1c0 HB1c1 HB1c2 HB1c3 HB1c4 HB1c5 HB1lt; have HB0_ := (hb.block _ (blk_lt HB0.out)).trans HB0.out; clear HB0; have HB0 := Lib.hid HB0_; clear HB0_; have HB1_ := (hb.block _ (blk_lt HB1.out)).trans HB1.out; clear HB1; have HB1 := Lib.hid HB1_; clear HB1_; have P0_ := P0.out.below hb (Nat.le_refl _); clear P0; have P0 := Lib.hid P0_; clear P0_; have P1_ := P1.out.below hb (Nat.le_refl _); clear P1; have P1 := Lib.hid P1_; clear P1_; have HL_ := HL.out.trans (hb.mono HL.out.size); clear HL; have HL := Lib.hid HL_; clear HL_; clear hb; obtain ⟨HB0c0, HB0c1, HB0c2, HB0c3, HB0c4, HB0c5⟩ := box6 HB0.out; have HB0lt := blk_lt HB0.out)
    | (go_at_call 39; (with_reducible refine (copyV P0.out).mono ?_); rintro e w2_ ⟨A1, c1, B1, d1, rfl, k_, hb⟩; clear HB0c0 HB0c1 HB0c2 HB0c3 HB0c4 HB0c5 HB0lt; have HB0_ := (hb.block _ (blk_lt HB0.out)).trans HB0.out; clear HB0; have HB0 := Lib.hid HB0_; clear HB0_; have HB1_ := (hb.block _ (blk_lt HB1.out)).trans HB1.out; clear HB1; have HB1 := Lib.hid HB1_; clear HB1_; have P0_ := P0.out.below hb (Nat.le_refl _); clear P0; have P0 := Lib.hid P0_; clear P0_; have P1_ := P1.out.below hb (Nat.le_refl _); clear P1; have P1 := Lib.hid P1_; clear P1_; have HL_ := HL.out.trans (hb.mono HL.out.size); clear HL; have HL := Lib.hid HL_; clear HL_; have S1 := Lib.hid k_; clear k_; clear hb))
  clear T2
  refine name_calls (fun Wm HX => ?_)
  have HB0_ := blk_alloc HB0.out (.cells #[.slice A1 v.h.length c1, .slice B1 v.k.length d1, .int .u64 v.g.n, .int .u64 v.g.nans, .int .u64 v.g.lo, .int .u64 v.g.hi] 45)
  have HB1_ := blk_alloc HB1.out (.cells #[.slice A1 v.h.length c1, .slice B1 v.k.length d1, .int .u64 v.g.n, .int .u64 v.g.nans, .int .u64 v.g.lo, .int .u64 v.g.hi] 45)
  have P0_ := P0.out.alloc (.cells #[.slice A1 v.h.length c1, .slice B1 v.k.length d1, .int .u64 v.g.n, .int .u64 v.g.nans, .int .u64 v.g.lo, .int .u64 v.g.hi] 45)
  have P1_ := P1.out.alloc (.cells #[.slice A1 v.h.length c1, .slice B1 v.k.length d1, .int .u64 v.g.n, .int .u64 v.g.nans, .int .u64 v.g.lo, .int .u64 v.g.hi] 45)
  have S1_ := S1.out.alloc (.cells #[.slice A1 v.h.length c1, .slice B1 v.k.length d1, .int .u64 v.g.n, .int .u64 v.g.nans, .int .u64 v.g.lo, .int .u64 v.g.hi] 45)
  have HL_ := below_alloc HL.out (.cells #[.slice A1 v.h.length c1, .slice B1 v.k.length d1, .int .u64 v.g.n, .int .u64 v.g.nans, .int .u64 v.g.lo, .int .u64 v.g.hi] 45)
  have HB5_ := blk_new w2_ (.cells #[.slice A1 v.h.length c1, .slice B1 v.k.length d1, .int .u64 v.g.n, .int .u64 v.g.nans, .int .u64 v.g.lo, .int .u64 v.g.hi] 45)
  rw [HX.out] at HB0_ HB1_ P0_ P1_ S1_ HL_ HB5_
  clear HB0 HB1 P0 P1 S1 HL HX
  have HB0 := Lib.hid HB0_; clear HB0_
  have HB1 := Lib.hid HB1_; clear HB1_
  have HB5 := Lib.hid HB5_; clear HB5_
  have P0 := Lib.hid P0_; clear P0_
  have P1 := Lib.hid P1_; clear P1_
  have S1 := Lib.hid S1_; clear S1_
  have HL := Lib.hid HL_; clear HL_
  obtain ⟨b5, g5⟩ : ∃ b, w2_.heap.size = b := ⟨_, rfl⟩
  rw [g5] at HB5
  rw [g5]
  clear g5
  (with_reducible refine (merge_zrR S1.out HW0.out HH0.out).mono ?_)
  rintro e w3_ ⟨A2, c2, B2, d2, rfl, k_, hR1, hR2, hb⟩
  have hP := OS.start (x0 := .int .u64 v.g.n) (x1 := .int .u64 v.g.nans) (x2 := .int .u64 v.g.lo) (x3 := .int .u64 v.g.hi) hb hR1 hR2
  clear k_ hR1 hR2 hb
  go_wp2
  go_loopw [8] (fun v_ wr => ∃ i : Nat, v_ = .int .i64 i ∧ i ≤ v.h.length ∧ OS Wm wr w3_.heap.size A2 c2 v.h.length B2 d2 v.k.length (.int .u64 v.g.n) (.int .u64 v.g.nans) (.int .u64 v.g.lo) (.int .u64 v.g.hi)) (fun vi _ => v.h.length - (intOf vi).toNat)
  case atStart => exact ⟨0, rfl, Nat.zero_le _, hP⟩
  case round =>
    clear hP
    obtain ⟨i, rfl, hi, hP⟩ := hrel
    have HP := Lib.hid hP
    have f_ : wr.cell? ⟨w3_.heap.size, 0, none⟩ = some (.slice A2 v.h.length c2) := blk_cell hP.bx 0
    clear hP
    by_cases hil : i < v.h.length
    · have e1 : decide ((i : Int) < (v.h.length : Int)) = true := decide_eq_true (by omega)
      have e1b : decide (i < v.h.length) = true := decide_eq_true hil
      obtain ⟨g, cur, hA, hge, hg, hsz⟩ := HP.out.o1 (by omega)
      subst hA
      have HG := Lib.hid hg; have HGE := Lib.hid hge; have HI := Lib.hid hil
      obtain ⟨y0, u0⟩ := some_cell hg (j := i * 2) (by omega)
      have t0 := blk_frozen hg (i * 2)
      obtain ⟨y1, u1⟩ := some_cell hg (j := i * 2 + 1) (by omega)
      have t1 := blk_frozen hg (i * 2 + 1)
      have ha0 := add0 g (i * 2)
      clear hg hge hsz
      go_wp2
      go_roundw
      case rel => exact ⟨i + 1, by go_num, by have := HI.out; omega, ((HP.out.put HG.out (by decide) HGE.out (i * 2) _).put (blk_set HG.out (i * 2) _) (by decide) HGE.out (i * 2 + 1) _)⟩
      case measure => have := HI.out; simp [intOf]; omega
    · have e1 : decide ((i : Int) < (v.h.length : Int)) = false := decide_eq_false (by omega)
      have e1b : decide (i < v.h.length) = false := decide_eq_false hil
      clear hil hi
      go_wp2
      clear f_ e1 e1b
      have hP := HP.out; clear HP
      go_loopw [9] (fun v_ wr => ∃ i : Nat, v_ = .int .i64 i ∧ i ≤ v.k.length ∧ OS Wm wr w3_.heap.size A2 c2 v.h.length B2 d2 v.k.length (.int .u64 v.g.n) (.int .u64 v.g.nans) (.int .u64 v.g.lo) (.int .u64 v.g.hi)) (fun vi _ => v.k.length - (intOf vi).toNat)
      case atStart => exact ⟨0, rfl, Nat.zero_le _, hP⟩
      case round =>
        clear hP
        obtain ⟨i, rfl, hi, hP⟩ := hrel
        have HP := Lib.hid hP
        have f_ : wr.cell? ⟨w3_.heap.size, 1, none⟩ = some (.slice B2 v.k.length d2) := blk_cell hP.bx 1
        clear hP
        by_cases hil : i < v.k.length
        · have e1 : decide ((i : Int) < (v.k.length : Int)) = true := decide_eq_true (by omega)
          have e1b : decide (i < v.k.length) = true := decide_eq_true hil
          obtain ⟨g, cur, hA, hge, hg, hsz⟩ := HP.out.o2 (by omega)
          subst hA
          have HG := Lib.hid hg; have HGE := Lib.hid hge; have HI := Lib.hid hil
          obtain ⟨y0, u0⟩ := some_cell hg (j := i) (by omega)
          have t0 := blk_frozen hg i
          have ha0 := add0 g (i)
          clear hg hge hsz
          go_wp2
          go_roundw
          case rel => exact ⟨i + 1, by go_num, by have := HI.out; omega, (HP.out.put HG.out (by decide) HGE.out (i) _)⟩
          case measure => have := HI.out; simp [intOf]; omega
        · have e1 : decide ((i : Int) < (v.k.length : Int)) = false := decide_eq_false (by omega)
          have e1b : decide (i < v.k.length) = false := decide_eq_false hil
          clear hil hi
          have HB5w_ := (HP.out.bel.block _ (blk_lt HB5.out)).trans HB5.out
          have HB0w_ := (HP.out.bel.block _ (blk_lt HB0.out)).trans HB0.out
          have P0w_ := P0.out.below HP.out.bel (Nat.le_refl _)
          have S1w_ := S1.out.below HP.out.bel (Nat.le_refl _)
          have HLw_ := HL.out.trans (HP.out.bel.mono HL.out.size)
          clear HB5 HB0 HB1 P0 P1 S1 HL HP
          have HB5 := Lib.hid HB5w_; have HB0 := Lib.hid HB0w_; have P0 := Lib.hid P0w_; have S1 := Lib.hid S1w_; have HL := Lib.hid HLw_
          clear HB5w_ HB0w_ P0w_ S1w_ HLw_
          obtain ⟨Ws, hws⟩ : ∃ W, wr = W := ⟨_, rfl⟩
          subst hws
          obtain ⟨s0, s1, s2, s3, s4, s5⟩ := box6 HB5.out
          go_wp2_with (go_at_call 44; (with_reducible refine (sum1_okR S1.out HW0.out HH0.out).mono ?_); rintro e w8_ ⟨A3, c3, B3, d3, rfl, k_, hR1, hR2, hb⟩; have hQ := OS.start (x0 := .int .u64 v.g.n) (x1 := .int .u64 v.g.nans) (x2 := .int .u64 v.g.lo) (x3 := .int .u64 v.g.hi) hb hR1 hR2; clear k_ hR1 hR2 hb s0 s1 s2 s3 s4 s5 f_ e1 e1b)
          go_loopw [12] (fun v_ wx => ∃ i : Nat, v_ = .int .i64 i ∧ i ≤ v.h.length ∧ OS wr wx w8_.heap.size A3 c3 v.h.length B3 d3 v.k.length (.int .u64 v.g.n) (.int .u64 v.g.nans) (.int .u64 v.g.lo) (.int .u64 v.g.hi)) (fun vi _ => v.h.length - (intOf vi).toNat)
          case atStart => exact ⟨0, rfl, Nat.zero_le _, hQ⟩
          case round =>
            clear hQ
            obtain ⟨i, rfl, hi, hP⟩ := hrel
            have HP := Lib.hid hP
            have f_ : wr.cell? ⟨w8_.heap.size, 0, none⟩ = some (.slice A3 v.h.length c3) := blk_cell hP.bx 0
            clear hP
            by_cases hil : i < v.h.length
            · have e1 : decide ((i : Int) < (v.h.length : Int)) = true := decide_eq_true (by omega)
              have e1b : decide (i < v.h.length) = true := decide_eq_true hil
              obtain ⟨g, cur, hA, hge, hg, hsz⟩ := HP.out.o1 (by omega)
              subst hA
              have HG := Lib.hid hg; have HGE := Lib.hid hge; have HI := Lib.hid hil
              obtain ⟨y0, u0⟩ := some_cell hg (j := i * 2) (by omega)
              have t0 := blk_frozen hg (i * 2)
              obtain ⟨y1, u1⟩ := some_cell hg (j := i * 2 + 1) (by omega)
              have t1 := blk_frozen hg (i * 2 + 1)
              have ha0 := add0 g (i * 2)
              clear hg hge hsz
              go_wp2
              go_roundw
              case rel => exact ⟨i + 1, by go_num, by have := HI.out; omega, ((HP.out.put HG.out (by decide) HGE.out (i * 2) _).put (blk_set HG.out (i * 2) _) (by decide) HGE.out (i * 2 + 1) _)⟩
              case measure => have := HI.out; simp [intOf]; omega
            · have e1 : decide ((i : Int) < (v.h.length : Int)) = false := decide_eq_false (by omega)
              have e1b : decide (i < v.h.length) = false := decide_eq_false hil
              clear hil hi
              have HB5w_ := (HP.out.bel.block _ (blk_lt HB5.out)).trans HB5.out
              have HB0w_ := (HP.out.bel.block _ (blk_lt HB0.out)).trans HB0.out
              have P0w_ := P0.out.below HP.out.bel (Nat.le_refl _)
              have S1w_ := S1.out.below HP.out.bel (Nat.le_refl _)
              have HLw_ := HL.out.trans (HP.out.bel.mono HL.out.size)
              clear HB5 HB0 P0 S1 HL HP
              have HB5 := Lib.hid HB5w_; have HB0 := Lib.hid HB0w_; have P0 := Lib.hid P0w_; have S1 := Lib.hid S1w_; have HL := Lib.hid HLw_
              clear HB5w_ HB0w_ P0w_ S1w_ HLw_
              obtain ⟨s0, s1, s2, s3, s4, s5⟩ := box6 HB5.out
              obtain ⟨r0, r1, r2, r3, r4, r5⟩ := box6 HB0.out
              go_wp2_with (first
                  | (go_at_call 27; (with_reducible refine (rsameV S1.out P0.out).mono ?_); rintro e w60_ ⟨rfl, hb⟩; have HB0_ := (hb.block _ (blk_lt HB0.out)).trans HB0.out; clear HB0; have HB0 := Lib.hid HB0_; clear HB0_; have HB5_ := (hb.block _ (blk_lt HB5.out)).trans HB5.out; clear HB5; have HB5 := Lib.hid HB5_; clear HB5_; have P0_ := P0.out.below hb (Nat.le_refl _); clear P0; have P0 := Lib.hid P0_; clear P0_; have S1_ := S1.out.below hb (Nat.le_refl _); clear S1; have S1 := Lib.hid S1_; clear S1_; have HL_ := HL.out.trans (hb.mono HL.out.size); clear HL; have HL := Lib.hid HL_; clear HL_; clear hb)
                  | (go_at_call 25; (with_reducible refine (awake_p _).mono ?_); rintro e w61_ ⟨rfl, hb⟩; have HB0_ := (hb.block _ (blk_lt HB0.out)).trans HB0.out; clear HB0; have HB0 := Lib.hid HB0_; clear HB0_; have HB5_ := (hb.block _ (blk_lt HB5.out)).trans HB5.out; clear HB5; have HB5 := Lib.hid HB5_; clear HB5_; have P0_ := P0.out.below hb (Nat.le_refl _); clear P0; have P0 := Lib.hid P0_; clear P0_; have S1_ := S1.out.below hb (Nat.le_refl _); clear S1; have S1 := Lib.hid S1_; clear S1_; have HL_ := HL.out.trans (hb.mono HL.out.size); clear HL; have HL := Lib.hid HL_; clear HL_; clear hb))
              go_ret
              exact ⟨rfl, HL.out⟩
end Go.Proofs.Ytncgjbocgbnkcaa
namespace Go.Proofs.Ytncgjbocgbnkcaa.Pure
set_option linter.unusedVariables false
set_option linter.unusedSimpArgs false
open Go.RowKit Go.Proofs.YtncgjbocgbnkcaaW.PrintWords Go.Proofs.Ytncgjbocgbnkcaa.Hi
theorem PairOwn_walk (A0 : Option Addr) (c0 : Nat) (B0 : Option Addr) (d0 : Nat) (y0 : SV) (A1 : Option Addr) (c1 : Nat) (B1 : Option Addr) (d1 : Nat) (y1 : SV) (w : World)
    (C0 : Kd.C k68 w A0 y0.h.length y0.h) (m0 : y0.h.length ≤ c0) (D0 : Kd.C (Kd.int .u64) w B0 y0.k.length y0.k) (n0 : y0.k.length ≤ d0) (w0 : y0.wf) (C1 : Kd.C k68 w A1 y1.h.length y1.h) (m1 : y1.h.length ≤ c1) (D1 : Kd.C (Kd.int .u64) w B1 y1.k.length y1.k) (n1 : y1.k.length ≤ d1) (w1 : y1.wf) :
    Calls Try.prog 11 #[.agg #[.slice A0 y0.h.length c0, .slice B0 y0.k.length d0, .int .u64 y0.g.n, .int .u64 y0.g.nans, .int .u64 y0.g.lo, .int .u64 y0.g.hi], .agg #[.slice A1 y1.h.length c1, .slice B1 y1.k.length d1, .int .u64 y1.g.n, .int .u64 y1.g.nans, .int .u64 y1.g.lo, .int .u64 y1.g.hi]] w fun e w' => e = .returned (.bool true) ∧ Below w.heap.size w w' := by
  have k0 := skV C0 m0 D0 n0 w0
  have k1 := skV C1 m1 D1 n1 w1
  cases h0 : y0.ok
  · exact Own_no0 A0 c0 B0 d0 y0 A1 c1 B1 d1 y1 w k0 w0 k1 w1 h0
  cases h1 : y1.ok
  · exact Own_no1 A0 c0 B0 d0 y0 A1 c1 B1 d1 y1 w k0 w0 k1 w1 h0 h1
  exact Own_yes A0 c0 B0 d0 y0 A1 c1 B1 d1 y1 w k0 w0 k1 w1 h0 h1
end Go.Proofs.Ytncgjbocgbnkcaa.Pure
