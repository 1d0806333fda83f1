/- For any two sketches: whether each may be, is empty, is the other: as the document says. No condition. -/
import Derived.Test.YtncgjbocgbnkcaaPbM4
namespace Go.Proofs.Ytncgjbocgbnkcaa
set_option linter.unusedVariables false
set_option linter.unusedSimpArgs false
open Go.RowKit Go.Maps Go.Proofs.YtncgjbocgbnkcaaW.PrintWords Go.Proofs.YtncgjbocgbnkcaaW.PrintLast Go.Proofs.YtncgjbocgbnkcaaW.PrintMore Go.Proofs.Ytncgjbocgbnkcaa.Pure Go.Proofs.Ytncgjbocgbnkcaa.Q Go.Proofs.Ytncgjbocgbnkcaa.Hi Go.Proofs.Ytncgjbocgbnkcaa.Ga
set_option maxHeartbeats 8000000 in
set_option maxRecDepth 100000 in
theorem Checks_walk (A : Option Addr) (c : Nat) (l : List S68) (B : Option Addr) (d : Nat) (h : List Int) (g : G4) (A' : Option Addr) (c' : Nat) (l' : List S68) (B' : Option Addr) (d' : Nat) (h' : List Int) (g' : G4) (w : World)
    (k : SK w A c l B d h) (k' : SK w A' c' l' B' d' h') (hg : g.wf) :
    Calls Try.prog 8 #[.agg #[.slice A l.length c, .slice B h.length d, .int .u64 g.n, .int .u64 g.nans, .int .u64 g.lo, .int .u64 g.hi], .agg #[.slice A' l'.length c', .slice B' h'.length d', .int .u64 g'.n, .int .u64 g'.nans, .int .u64 g'.lo, .int .u64 g'.hi]] w fun e w' => e = .returned (.bool true) ∧ Below w.heap.size w w' := by
  have K1 := fun (W : World) (A : Option Addr) (c : Nat) (B : Option Addr) (d : Nat) (k : SK W A c l B d h) => sk_check k g hg
  have K2 := fun (W : World) (A : Option Addr) (c : Nat) (B : Option Addr) (d : Nat) (k : SK W A c l B d h) => sk_rcheck k g hg
  have K5 := fun (W : World) (A : Option Addr) (c : Nat) (B : Option Addr) (d : Nat) (A' : Option Addr) (c' : Nat) (B' : Option Addr) (d' : Nat) (k : SK W A c l B d h) (k' : SK W A' c' l' B' d' h') => sk_same k g k' g'
  have K6 := fun (W : World) (A : Option Addr) (c : Nat) (B : Option Addr) (d : Nat) (A' : Option Addr) (c' : Nat) (B' : Option Addr) (d' : Nat) (k : SK W A c l B d h) (k' : SK W A' c' l' B' d' h') => sk_rsame k g k' g'
  have K7 := fun (W : World) (A : Option Addr) (c : Nat) (B : Option Addr) (d : Nat) (A' : Option Addr) (c' : Nat) (B' : Option Addr) (d' : Nat) (k : SK W A c l B d h) (k' : SK W A' c' l B' d' h) => sk_same k g k' g
  obtain ⟨e0, he1, he2⟩ := empty_both l h g
  have K3 := fun (W : World) (A : Option Addr) (c : Nat) (B : Option Addr) (d : Nat) (k : SK W A c l B d h) => pair_Empty.calls A c l B d h g.n g.nans g.lo g.hi e0 W k.c1 k.l1 k.c2 k.l2 he1
  have K4 := fun (W : World) (A : Option Addr) (c : Nat) (B : Option Addr) (d : Nat) (k : SK W A c l B d h) => varveref10_Empty.calls A c l B d h g.n g.nans g.lo g.hi e0 W k.c1 k.l1 k.c2 k.l2 he2
  obtain ⟨r0, hr⟩ : ∃ r, okS l h g = r := ⟨_, rfl⟩
  obtain ⟨s0, hs⟩ : ∃ s, sameS l h g l' h' g' = s := ⟨_, rfl⟩
  rw [hr] at K1 K2
  rw [hs] at K5 K6
  rw [sameS_self] at K7
  have P0 := Lib.hid k; have P1 := Lib.hid k'
  clear hr hs he1 he2 hg k k'
  go_enter Try.func8, Try.ntmps8
  go_wp2
  refine name_world _ (fun WW HW => ?_)
  have F := two_ w (.cells #[.slice A l.length c, .slice B h.length d, .int .u64 g.n, .int .u64 g.nans, .int .u64 g.lo, .int .u64 g.hi] 45) (.cells #[.slice A' l'.length c', .slice B' h'.length d', .int .u64 g'.n, .int .u64 g'.nans, .int .u64 g'.lo, .int .u64 g'.hi] 45)
  rw [HW.out] at F
  obtain ⟨bA, bB, bL⟩ := F
  have HA := Lib.hid (blk_drew bA); have HB := Lib.hid (blk_drew bB); have HL := Lib.hid (below_drew bL)
  have P0_ := P0.out.below HL.out (Nat.le_refl _); have P1_ := P1.out.below HL.out (Nat.le_refl _)
  clear P0 P1 bA bB bL HW
  have P0 := Lib.hid P0_; have P1 := Lib.hid P1_
  clear P0_ P1_
  have T1 := Lib.hid True.intro; have T4 := Lib.hid True.intro; have T7 := Lib.hid True.intro; have T8 := Lib.hid True.intro; have T11 := Lib.hid True.intro
  have hu62 := Try.underlying45
  have hr0 : (r0 == r0) = true := by cases r0 <;> rfl
  have he0 : (e0 == e0) = true := by cases e0 <;> rfl
  have hs0 : (s0 == s0) = true := by cases s0 <;> rfl
  have hr1 : decide (r0 = r0) = true := decide_eq_true rfl
  have he1 : decide (e0 = e0) = true := decide_eq_true rfl
  have hs1 : decide (s0 = s0) = true := decide_eq_true rfl
  go_region_held3 (fun w' => w'.cell? ⟨w.heap.size, 0, none⟩ = some (.slice A l.length c) ∧ w'.cell? ⟨w.heap.size, 1, none⟩ = some (.slice B h.length d) ∧ w'.cell? ⟨w.heap.size, 2, none⟩ = some (.int .u64 g.n) ∧ w'.cell? ⟨w.heap.size, 3, none⟩ = some (.int .u64 g.nans) ∧ w'.cell? ⟨w.heap.size, 4, none⟩ = some (.int .u64 g.lo) ∧ w'.cell? ⟨w.heap.size, 5, none⟩ = some (.int .u64 g.hi) ∧ w'.cell? ⟨(w.heap.size + 1), 0, none⟩ = some (.slice A' l'.length c') ∧ w'.cell? ⟨(w.heap.size + 1), 1, none⟩ = some (.slice B' h'.length d') ∧ w'.cell? ⟨(w.heap.size + 1), 2, none⟩ = some (.int .u64 g'.n) ∧ w'.cell? ⟨(w.heap.size + 1), 3, none⟩ = some (.int .u64 g'.nans) ∧ w'.cell? ⟨(w.heap.size + 1), 4, none⟩ = some (.int .u64 g'.lo) ∧ w'.cell? ⟨(w.heap.size + 1), 5, none⟩ = some (.int .u64 g'.hi))
      (exact ⟨blk_cell HA.out 0, blk_cell HA.out 1, blk_cell HA.out 2, blk_cell HA.out 3, blk_cell HA.out 4, blk_cell HA.out 5, blk_cell HB.out 0, blk_cell HB.out 1, blk_cell HB.out 2, blk_cell HB.out 3, blk_cell HB.out 4, blk_cell HB.out 5⟩)
      (first
        | (go_at_call 39; clear T1; (with_reducible refine (sk_copy P0.out g.n g.nans g.lo g.hi).mono ?_); rintro e w_ ⟨A1, c1, B1, d1, rfl, k1_, hb⟩; have hA_ := (hb.block _ (blk_lt HA.out)).trans HA.out; have hB_ := (hb.block _ (blk_lt HB.out)).trans HB.out; have hL_ := HL.out.trans (hb.mono HL.out.size); clear HA HB HL; have HA := Lib.hid hA_; have HB := Lib.hid hB_; have HL := Lib.hid hL_; clear hA_ hB_ hL_; have P0_ := P0.out.below hb (Nat.le_refl _); clear P0; have P0 := Lib.hid P0_; clear P0_; have P1_ := P1.out.below hb (Nat.le_refl _); clear P1; have P1 := Lib.hid P1_; clear P1_; have Q1 := Lib.hid k1_; clear k1_; clear hb)
        | (go_at_call 39; clear T4; (with_reducible refine (sk_copy P0.out g.n g.nans g.lo g.hi).mono ?_); rintro e w_ ⟨A4, c4, B4, d4, rfl, k4_, hb⟩; have hA_ := (hb.block _ (blk_lt HA.out)).trans HA.out; have hB_ := (hb.block _ (blk_lt HB.out)).trans HB.out; have hL_ := HL.out.trans (hb.mono HL.out.size); clear HA HB HL; have HA := Lib.hid hA_; have HB := Lib.hid hB_; have HL := Lib.hid hL_; clear hA_ hB_ hL_; have P0_ := P0.out.below hb (Nat.le_refl _); clear P0; have P0 := Lib.hid P0_; clear P0_; have P1_ := P1.out.below hb (Nat.le_refl _); clear P1; have P1 := Lib.hid P1_; clear P1_; have Q4 := Lib.hid k4_; clear k4_; clear hb)
        | (go_at_call 39; clear T7; (with_reducible refine (sk_copy P0.out g.n g.nans g.lo g.hi).mono ?_); rintro e w_ ⟨A7, c7, B7, d7, rfl, k7_, hb⟩; have hA_ := (hb.block _ (blk_lt HA.out)).trans HA.out; have hB_ := (hb.block _ (blk_lt HB.out)).trans HB.out; have hL_ := HL.out.trans (hb.mono HL.out.size); clear HA HB HL; have HA := Lib.hid hA_; have HB := Lib.hid hB_; have HL := Lib.hid hL_; clear hA_ hB_ hL_; have P0_ := P0.out.below hb (Nat.le_refl _); clear P0; have P0 := Lib.hid P0_; clear P0_; have P1_ := P1.out.below hb (Nat.le_refl _); clear P1; have P1 := Lib.hid P1_; clear P1_; have Q7 := Lib.hid k7_; clear k7_; clear hb)
        | (go_at_call 39; clear T8; (with_reducible refine (sk_copy P1.out g'.n g'.nans g'.lo g'.hi).mono ?_); rintro e w_ ⟨A8, c8, B8, d8, rfl, k8_, hb⟩; have hA_ := (hb.block _ (blk_lt HA.out)).trans HA.out; have hB_ := (hb.block _ (blk_lt HB.out)).trans HB.out; have hL_ := HL.out.trans (hb.mono HL.out.size); clear HA HB HL; have HA := Lib.hid hA_; have HB := Lib.hid hB_; have HL := Lib.hid hL_; clear hA_ hB_ hL_; have P0_ := P0.out.below hb (Nat.le_refl _); clear P0; have P0 := Lib.hid P0_; clear P0_; have P1_ := P1.out.below hb (Nat.le_refl _); clear P1; have P1 := Lib.hid P1_; clear P1_; have Q7_ := Q7.out.below hb (Nat.le_refl _); clear Q7; have Q7 := Lib.hid Q7_; clear Q7_; have Q8 := Lib.hid k8_; clear k8_; clear hb)
        | (go_at_call 39; clear T11; (with_reducible refine (sk_copy P0.out g.n g.nans g.lo g.hi).mono ?_); rintro e w_ ⟨A11, c11, B11, d11, rfl, k11_, hb⟩; have hA_ := (hb.block _ (blk_lt HA.out)).trans HA.out; have hB_ := (hb.block _ (blk_lt HB.out)).trans HB.out; have hL_ := HL.out.trans (hb.mono HL.out.size); clear HA HB HL; have HA := Lib.hid hA_; have HB := Lib.hid hB_; have HL := Lib.hid hL_; clear hA_ hB_ hL_; have P0_ := P0.out.below hb (Nat.le_refl _); clear P0; have P0 := Lib.hid P0_; clear P0_; have P1_ := P1.out.below hb (Nat.le_refl _); clear P1; have P1 := Lib.hid P1_; clear P1_; have Q11 := Lib.hid k11_; clear k11_; clear hb)
        | (go_at_call 29; (with_reducible refine (K1 _ _ _ _ _ Q1.out).mono ?_); rintro e w_ ⟨rfl, hb⟩; have hA_ := (hb.block _ (blk_lt HA.out)).trans HA.out; have hB_ := (hb.block _ (blk_lt HB.out)).trans HB.out; have hL_ := HL.out.trans (hb.mono HL.out.size); clear HA HB HL; have HA := Lib.hid hA_; have HB := Lib.hid hB_; have HL := Lib.hid hL_; clear hA_ hB_ hL_; have P0_ := P0.out.below hb (Nat.le_refl _); clear P0; have P0 := Lib.hid P0_; clear P0_; have P1_ := P1.out.below hb (Nat.le_refl _); clear P1; have P1 := Lib.hid P1_; clear P1_; clear Q1 K1; clear hb)
        | (go_at_call 40; (with_reducible refine (K2 _ _ _ _ _ P0.out).mono ?_); rintro e w_ ⟨rfl, hb⟩; have hA_ := (hb.block _ (blk_lt HA.out)).trans HA.out; have hB_ := (hb.block _ (blk_lt HB.out)).trans HB.out; have hL_ := HL.out.trans (hb.mono HL.out.size); clear HA HB HL; have HA := Lib.hid hA_; have HB := Lib.hid hB_; have HL := Lib.hid hL_; clear hA_ hB_ hL_; have P0_ := P0.out.below hb (Nat.le_refl _); clear P0; have P0 := Lib.hid P0_; clear P0_; have P1_ := P1.out.below hb (Nat.le_refl _); clear P1; have P1 := Lib.hid P1_; clear P1_; clear K2; clear hb)
        | (go_at_call 30; (with_reducible refine (K3 _ _ _ _ _ Q4.out).mono ?_); rintro e w_ ⟨rfl, hb⟩; have hA_ := (hb.block _ (blk_lt HA.out)).trans HA.out; have hB_ := (hb.block _ (blk_lt HB.out)).trans HB.out; have hL_ := HL.out.trans (hb.mono HL.out.size); clear HA HB HL; have HA := Lib.hid hA_; have HB := Lib.hid hB_; have HL := Lib.hid hL_; clear hA_ hB_ hL_; have P0_ := P0.out.below hb (Nat.le_refl _); clear P0; have P0 := Lib.hid P0_; clear P0_; have P1_ := P1.out.below hb (Nat.le_refl _); clear P1; have P1 := Lib.hid P1_; clear P1_; clear Q4 K3; clear hb)
        | (go_at_call 41; (with_reducible refine (K4 _ _ _ _ _ P0.out).mono ?_); rintro e w_ ⟨rfl, hb⟩; have hA_ := (hb.block _ (blk_lt HA.out)).trans HA.out; have hB_ := (hb.block _ (blk_lt HB.out)).trans HB.out; have hL_ := HL.out.trans (hb.mono HL.out.size); clear HA HB HL; have HA := Lib.hid hA_; have HB := Lib.hid hB_; have HL := Lib.hid hL_; clear hA_ hB_ hL_; have P0_ := P0.out.below hb (Nat.le_refl _); clear P0; have P0 := Lib.hid P0_; clear P0_; have P1_ := P1.out.below hb (Nat.le_refl _); clear P1; have P1 := Lib.hid P1_; clear P1_; clear K4; clear hb)
        | (go_at_call 42; (with_reducible refine (K5 _ _ _ _ _ _ _ _ _ Q7.out Q8.out).mono ?_); rintro e w_ ⟨rfl, hb⟩; have hA_ := (hb.block _ (blk_lt HA.out)).trans HA.out; have hB_ := (hb.block _ (blk_lt HB.out)).trans HB.out; have hL_ := HL.out.trans (hb.mono HL.out.size); clear HA HB HL; have HA := Lib.hid hA_; have HB := Lib.hid hB_; have HL := Lib.hid hL_; clear hA_ hB_ hL_; have P0_ := P0.out.below hb (Nat.le_refl _); clear P0; have P0 := Lib.hid P0_; clear P0_; have P1_ := P1.out.below hb (Nat.le_refl _); clear P1; have P1 := Lib.hid P1_; clear P1_; clear Q7 Q8 K5; clear hb)
        | (go_at_call 27; (with_reducible refine (K6 _ _ _ _ _ _ _ _ _ P0.out P1.out).mono ?_); rintro e w_ ⟨rfl, hb⟩; have hA_ := (hb.block _ (blk_lt HA.out)).trans HA.out; have hB_ := (hb.block _ (blk_lt HB.out)).trans HB.out; have hL_ := HL.out.trans (hb.mono HL.out.size); clear HA HB HL; have HA := Lib.hid hA_; have HB := Lib.hid hB_; have HL := Lib.hid hL_; clear hA_ hB_ hL_; have P0_ := P0.out.below hb (Nat.le_refl _); clear P0; have P0 := Lib.hid P0_; clear P0_; have P1_ := P1.out.below hb (Nat.le_refl _); clear P1; have P1 := Lib.hid P1_; clear P1_; clear K6; clear hb)
        | (go_at_call 42; (with_reducible refine (K7 _ _ _ _ _ _ _ _ _ P0.out Q11.out).mono ?_); rintro e w_ ⟨rfl, hb⟩; have hA_ := (hb.block _ (blk_lt HA.out)).trans HA.out; have hB_ := (hb.block _ (blk_lt HB.out)).trans HB.out; have hL_ := HL.out.trans (hb.mono HL.out.size); clear HA HB HL; have HA := Lib.hid hA_; have HB := Lib.hid hB_; have HL := Lib.hid hL_; clear hA_ hB_ hL_; have P0_ := P0.out.below hb (Nat.le_refl _); clear P0; have P0 := Lib.hid P0_; clear P0_; have P1_ := P1.out.below hb (Nat.le_refl _); clear P1; have P1 := Lib.hid P1_; clear P1_; clear Q11 K7; clear hb)
        | (go_at_call 25; (with_reducible refine (awake_p _).mono ?_); rintro e w_ ⟨rfl, hb⟩; have hA_ := (hb.block _ (blk_lt HA.out)).trans HA.out; have hB_ := (hb.block _ (blk_lt HB.out)).trans HB.out; have hL_ := HL.out.trans (hb.mono HL.out.size); clear HA HB HL; have HA := Lib.hid hA_; have HB := Lib.hid hB_; have HL := Lib.hid hL_; clear hA_ hB_ hL_; clear P0; clear hb))
  go_wp2
  go_ret
  exact ⟨rfl, HL.out⟩
end Go.Proofs.Ytncgjbocgbnkcaa
namespace Go.Proofs.Ytncgjbocgbnkcaa.Pure
set_option linter.unusedVariables false
set_option linter.unusedSimpArgs false
open Go.RowKit Go.Proofs.YtncgjbocgbnkcaaW.PrintWords Go.Proofs.Ytncgjbocgbnkcaa.Hi
theorem PairChecks_walk (A0 : Option Addr) (c0 : Nat) (B0 : Option Addr) (d0 : Nat) (y0 : SV) (A1 : Option Addr) (c1 : Nat) (B1 : Option Addr) (d1 : Nat) (y1 : SV) (w : World)
    (C0 : Kd.C k68 w A0 y0.h.length y0.h) (m0 : y0.h.length ≤ c0) (D0 : Kd.C (Kd.int .u64) w B0 y0.k.length y0.k) (n0 : y0.k.length ≤ d0) (w0 : y0.wf)
    (C1 : Kd.C k68 w A1 y1.h.length y1.h) (m1 : y1.h.length ≤ c1) (D1 : Kd.C (Kd.int .u64) w B1 y1.k.length y1.k) (n1 : y1.k.length ≤ d1) (w1 : y1.wf) :
    Calls Try.prog 8 #[.agg #[.slice A0 y0.h.length c0, .slice B0 y0.k.length d0, .int .u64 y0.g.n, .int .u64 y0.g.nans, .int .u64 y0.g.lo, .int .u64 y0.g.hi], .agg #[.slice A1 y1.h.length c1, .slice B1 y1.k.length d1, .int .u64 y1.g.n, .int .u64 y1.g.nans, .int .u64 y1.g.lo, .int .u64 y1.g.hi]] w fun e w' => e = .returned (.bool true) ∧ Below w.heap.size w w' :=
  Checks_walk A0 c0 y0.h B0 d0 y0.k y0.g A1 c1 y1.h B1 d1 y1.k y1.g w (skV C0 m0 D0 n0 w0) (skV C1 m1 D1 n1 w1) w0.2.2
end Go.Proofs.Ytncgjbocgbnkcaa.Pure
