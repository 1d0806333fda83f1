/- The law IndexFull over its Go text: 4096 sets have numbers, one more has none; those that have one keep it. Conditions: none. -/
import Derived.Test.YtpenheahhdmhiaaJfM2
namespace Go.Proofs.Ytpenheahhdmhiaa
set_option linter.unusedVariables false
set_option linter.unusedSimpArgs false
open Go.RowKit Go.Maps Go.Proofs.YtpenheahhdmhiaaW.PrintWords Go.Proofs.YtpenheahhdmhiaaW.PrintLast Go.Proofs.YtpenheahhdmhiaaW.PrintMore Go.Proofs.Ytpenheahhdmhiaa.Ix Go.Proofs.Ytpenheahhdmhiaa.Tx Go.Proofs.Ytpenheahhdmhiaa.Fx Go.Proofs.Ytpenheahhdmhiaa.Pure
theorem set8_u (i : Nat) (hi : i ≤ 4096) (w : World) : Calls Try.prog 8 #[.int .i64 (i : Int)] w fun e w' => ∃ A c, e = .returned (.slice A (setL i).length c) ∧ Kd.R k27 27 w' w.heap.size (fun _ => True) (.slice A (setL i).length c) (setL i) ∧ Below w.heap.size w w' := by
  refine (varvelaw14_IndexFullSet.calls (i : Int) (setL i) w (full_f i hi)).mono ?_
  rintro e w' ⟨v, rfl, hr, hb⟩
  obtain ⟨A, c, rfl⟩ := Kd.R_slice hr
  exact ⟨A, c, rfl, hr, hb⟩
set_option maxRecDepth 100000 in
set_option maxHeartbeats 8000000 in
theorem Pure.IndexFull_walk (w : World) : Calls Try.prog 3 #[] w fun e w' => e = .returned (.bool true) ∧ Below w.heap.size w w' := by
  go_enter Try.func3, Try.ntmps3
  go_wp2_with (go_at_call 7; go_must (refine (inew_u _).mono ?_; rintro e w1 ⟨kb, mb, rfl, hx1, hb1⟩))
  go_loopw [3] (fun v3 wr => ∃ i : Nat, i ≤ 4096 ∧ v3 = .int .i64 (i : Int) ∧ IX wr w.heap.size kb mb (fullS i) ∧ Below w.heap.size w wr) (fun v3 _ => 4096 - (intOf v3).toNat)
  case atStart => exact ⟨0, Nat.zero_le _, rfl, hx1, hb1⟩
  case round =>
    obtain ⟨i, hi, rfl, hx, hb⟩ := hrel
    have HX := Lib.hid hx
    have HB := Lib.hid hb
    clear hx hb hx1 hb1
    by_cases hlt : i < 4096
    · have H8 := Lib.hid (set8_u i hi)
      have HN := Lib.hid (full_new i hi)
      go_wp2_with (first
        | (go_at_call 8; go_must (refine (H8.out _).mono ?_; rintro e w2 ⟨A2, c2, rfl, hr2, hb2⟩; have HR2 := Lib.hid hr2; have HB2 := Lib.hid hb2; clear hr2 hb2))
        | (go_at_call 9; go_must (refine (iid_new (HX.out.below HB2.out) (Nat.le_trans HB.out.size HB2.out.size) HR2.out (setL_chk i) HN.out (by rw [fullS_len]; exact hlt)).mono ?_; rintro e w3 ⟨rfl, hx3, hb3⟩; rw [fullS_len]; rw [← fullS_succ] at hx3; have HX3 := Lib.hid hx3; have HB3 := Lib.hid ((HB.out.trans (HB2.out.mono HB.out.size)).trans hb3); clear hx3 hb3)))
      go_roundw
      case rel => exact ⟨i + 1, hlt, by simp, HX3.out, HB3.out⟩
      case measure => simp [intOf]; omega
    · obtain rfl : i = 4096 := by omega
      have HA8 := Lib.hid (fun W => show Calls Try.prog 8 #[.int .i64 4096] W _ from set8_u 4096 (Nat.le_refl _) W)
      have HB8 := Lib.hid (fun W => show Calls Try.prog 8 #[.int .i64 77] W _ from set8_u 77 (by omega) W)
      have HIA := Lib.hid (fun (W : World) (A : Option Addr) (c : Nat) (hx : IX W w.heap.size kb mb (fullS 4096)) (hc : Kd.C k27 W A (setL 4096).length (setL 4096)) (hl : (setL 4096).length ≤ c) => iid_full hx hc hl (setL_chk 4096) (full_new 4096 (Nat.le_refl _)) (fullS_len 4096))
      have HIB := Lib.hid (fun (W : World) (A : Option Addr) (c : Nat) (hx : IX W w.heap.size kb mb (fullS 4096)) (hc : Kd.C k27 W A (setL 77).length (setL 77)) (hl : (setL 77).length ≤ c) => show Calls Try.prog 9 #[.pointer (some ⟨kb, 0, none⟩), .slice A (setL 77).length c] W (fun e w' => e = .returned (.tuple #[.int .i64 77, .int .i64 0]) ∧ Below W.heap.size W w') from by
        have h := iid_found hx hc hl (setL_chk 77) (by rw [full_old 4096 77 (Nat.le_refl _) (by omega)]; omega)
        rw [full_old 4096 77 (Nat.le_refl _) (by omega)] at h
        exact h)
      go_wp2_with (first
        | (go_at_call 8; (with_reducible refine (HA8.out _).mono ?_); rintro e w2 ⟨A2, c2, rfl, hr2, hb2⟩; have HR2 := Lib.hid (Kd.R_reads' hr2).2; have HB2 := Lib.hid (HB.out.trans (hb2.mono HB.out.size)); have HX2 := Lib.hid (HX.out.below hb2); clear hr2 hb2 HA8)
        | (go_at_call 9; (with_reducible refine (HIA.out _ A2 c2 HX2.out HR2.out.2 HR2.out.1).mono ?_); rintro e w3 ⟨rfl, hb3⟩; have HB3 := Lib.hid (HB2.out.trans (hb3.mono HB2.out.size)); have HX3 := Lib.hid (HX2.out.below hb3); clear hb3 HIA)
        | (go_at_call 8; (with_reducible refine (HB8.out _).mono ?_); rintro e w4 ⟨A4, c4, rfl, hr4, hb4⟩; have HR4 := Lib.hid (Kd.R_reads' hr4).2; have HB4 := Lib.hid (HB3.out.trans (hb4.mono HB3.out.size)); have HX4 := Lib.hid (HX3.out.below hb4); clear hr4 hb4 HB8)
        | (go_at_call 9; (with_reducible refine (HIB.out _ A4 c4 HX4.out HR4.out.2 HR4.out.1).mono ?_); rintro e w5 ⟨rfl, hb5⟩; have HB5 := Lib.hid (HB4.out.trans (hb5.mono HB4.out.size)); have HX5 := Lib.hid (HX4.out.below hb5); clear hb5 HIB)
        | (go_at_call 10; go_must (refine (ilen_u HX5.out).mono ?_; rintro e w6 ⟨rfl, rfl⟩; rw [fullS_len]))
        | (go_at_call 11; go_must (refine (iawake_u _).mono ?_; rintro e w7 ⟨rfl, hb7⟩; have HB7 := Lib.hid hb7; clear hb7)))
      go_ret
      exact ⟨rfl, HB5.out.trans (HB7.out.mono HB5.out.size)⟩
end Go.Proofs.Ytpenheahhdmhiaa
