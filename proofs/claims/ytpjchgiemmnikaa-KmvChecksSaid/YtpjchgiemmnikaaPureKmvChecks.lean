/- For every list of numbers: the program and the reference tell alike whether it may be, and how many unlike things it stands for. No condition. -/
import Derived.Test.YtpjchgiemmnikaaKLaws
namespace Go.Proofs.Ytpjchgiemmnikaa.Pure
set_option linter.unusedVariables false
set_option linter.unusedSimpArgs false
open Go.RowKit Go.Maps Go.Proofs.YtpjchgiemmnikaaW.PrintWords Go.Proofs.YtpjchgiemmnikaaW.PrintLast Go.Proofs.YtpjchgiemmnikaaW.PrintMore Go.Proofs.Ytpjchgiemmnikaa.Q

set_option maxHeartbeats 1000000 in
theorem KmvChecks_walk (A0 : Option Addr) (c0 : Nat) (l0 : List Int) (w : World) (C0 : Kd.C (Kd.int .u64) w A0 l0.length l0) (m0 : l0.length ≤ c0) (w0 : WU l0) :
    Calls Try.prog 3 #[.slice A0 l0.length c0] w fun e w' => e = .returned (.bool true) ∧ Below w.heap.size w w' := by
  have CP := fun W (hb : Below w.heap.size w W) => nums_c (c := c0) w0 C0 hb
  have CK := fun W A c (hC : Kd.C (Kd.int .u64) W A l0.length l0) (hc : l0.length ≤ c) => check_c w0 hC hc
  have RK := fun W (hb : Below w.heap.size w W) => refCheck_c w0 (Kd.C_below C0 hb) m0
  have CD := fun W A c (hC : Kd.C (Kd.int .u64) W A l0.length l0) (hc : l0.length ≤ c) => dist_c w0 hC hc
  have RD := fun W (hb : Below w.heap.size w W) => refDist_c w0.num w0.len (Kd.C_below C0 hb) m0
  obtain ⟨r, hr⟩ : ∃ r, decide (KOk l0) = r := ⟨_, rfl⟩
  obtain ⟨d, hd⟩ : ∃ d, kdist l0 = d := ⟨_, rfl⟩
  rw [hr] at CK RK
  rw [hd] at CD RD
  have hb0 := Below.refl w.heap.size w
  clear hr hd C0 m0 w0
  cases r
  all_goals
    go_enter Try.func3, Try.ntmps3
    go_wp2_with (first
      | (go_at_call 21; refine (CP _ hb0).mono ?_; rintro e w1 ⟨A1, c1, rfl, lc1, hC1, ho, hb⟩; have hb1 := hb0.trans (hb.mono hb0.size); clear hb0 ho hb)
      | (go_at_call 20; refine (CK _ _ _ hC1 lc1).mono ?_; rintro e w2 ⟨rfl, hb⟩; have hb2 := hb1.trans (hb.mono hb1.size); clear hb1 hC1 lc1 hb CK)
      | (go_at_call 22; refine (RK _ hb2).mono ?_; rintro e w3 ⟨rfl, hb⟩; have hb3 := hb2.trans (hb.mono hb2.size); clear hb2 hb RK)
      | (go_at_call 21; refine (CP _ hb3).mono ?_; rintro e w4 ⟨A4, c4, rfl, lc4, hC4, ho, hb⟩; have hb4 := hb3.trans (hb.mono hb3.size); clear hb3 ho hb CP)
      | (go_at_call 23; refine (CD _ _ _ hC4 lc4).mono ?_; rintro e w5 ⟨rfl, hb⟩; have hb5 := hb4.trans (hb.mono hb4.size); clear hb4 hC4 lc4 hb CD)
      | (go_at_call 24; refine (RD _ hb5).mono ?_; rintro e w6 ⟨rfl, hb⟩; have hb6 := hb5.trans (hb.mono hb5.size); clear hb5 hb RD)
      | (go_at_call 25; refine (awake_u _).mono ?_; rintro e w7 ⟨rfl, hb⟩; have hb7 := hb6.trans (hb.mono hb6.size); clear hb6 hb))
    go_ret
    exact ⟨rfl, hb7⟩
end Go.Proofs.Ytpjchgiemmnikaa.Pure
