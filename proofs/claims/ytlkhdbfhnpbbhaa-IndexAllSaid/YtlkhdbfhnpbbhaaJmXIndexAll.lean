/- The law IndexAll over its Go text: a matcher selects the sets of which it says yes. Conditions: how its arguments are read. -/
import Derived.Deep.RegionHeld3
import Derived.Test.YtlkhdbfhnpbbhaaJmM5
namespace Go.Proofs.Ytlkhdbfhnpbbhaa
set_option linter.unusedVariables false
set_option linter.unusedSimpArgs false
open Go.RowKit Go.Maps Go.Proofs.YtlkhdbfhnpbbhaaW.PrintWords Go.Proofs.YtlkhdbfhnpbbhaaW.PrintLast Go.Proofs.YtlkhdbfhnpbbhaaW.PrintMore Go.Proofs.Ytlkhdbfhnpbbhaa.Ix Go.Proofs.Ytlkhdbfhnpbbhaa.Tx Go.Proofs.Ytlkhdbfhnpbbhaa.Mx Go.Proofs.Ytlkhdbfhnpbbhaa.Pure
set_option maxRecDepth 100000 in
set_option maxHeartbeats 8000000 in
theorem Pure.IndexAll_walk (A0 : Option Addr) (c0 : Nat) (l0 : List (List LB)) (m : MT) (A3 : Option Addr) (c3 : Nat) (A4 : Option Addr) (c4 : Nat) (w : World) (C0 : (Kd.slice 41 k41).C w A0 l0.length l0) (m0 : l0.length ≤ c0) (w0 : WSs l0) (K1 : MK w m A3 c3 A4 c4) (w1 : WM m) :
    Calls Try.prog 7 #[.slice A0 l0.length c0, mval m A3 c3 A4 c4] w fun e w' => e = .returned (.bool true) ∧ Below w.heap.size w w' := by
  have hS60 : (setsOf l0 (min l0.length 60)).length ≤ 60 := Nat.le_trans (setsOf_len _ _) (by omega)
  have HC0 := Lib.hid (And.intro C0 (And.intro m0 w0))
  obtain ⟨S, hS⟩ : ∃ S, setsOf l0 (min l0.length 60) = S := ⟨_, rfl⟩
  have HL := Lib.hid (fun (W : World) (hb : Below w.heap.size w W) => laid_u (Kd.C_below C0 hb) m0 w0)
  rw [hS] at HL hS60
  have HS60 := Lib.hid hS60
  have HMK := Lib.hid K1
  have HWM := Lib.hid w1
  clear C0 m0 w0 K1 w1 hS hS60
  by_cases hok : okM 8 64 4096 m
  · have HOKM := Lib.hid hok
    have HOK := Lib.hid (decide_eq_true hok)
    clear hok
    go_enter Try.func7, Try.ntmps7
    go_upto_region 6 with (first
      | ((with_reducible refine gate_dst (N := 3) rfl ?_); go_must (refine box_event ?hg (N := 3) ?hd (cs := mobj m A3 c3 A4 c4) (t := 54) ?hr ?_; (case hd => rfl); (case hg => rfl); (case hr => first | (go_simp; done) | (go_simp; rfl)); intro bx hg w1 hbox hb1; obtain ⟨b0, b1, b2, b3, b4⟩ := box5 hbox; have HBOX := Lib.hid hbox; have HB1 := Lib.hid hb1; clear hbox hb1 hg))
      | (go_at_call 10; go_must (refine (HL.out _ HB1.out).mono ?_; rintro e w2 ⟨kb, mb, gb, rfl, hT⟩; have hbox2 := (hT.bel.block bx (Array.getElem?_eq_some_iff.1 HBOX.out).1).trans HBOX.out; clear b0 b1 b2 b3 b4; obtain ⟨b0, b1, b2, b3, b4⟩ := box5 hbox2; have HBX := Lib.hid hbox2; have HT := Lib.hid hT; clear hT HL hbox2))
      | (go_at_call 24; go_must (refine (tinyB_u (HMK.out.below (HB1.out.trans (HT.out.bel.mono HB1.out.size))) HWM.out).mono ?_; rintro e w3 ⟨r, rfl, hb3⟩; have hbox2 := (hb3.block bx (Array.getElem?_eq_some_iff.1 HBX.out).1).trans HBX.out; clear b0 b1 b2 b3 b4; obtain ⟨b0, b1, b2, b3, b4⟩ := box5 hbox2; have hT' := HT.out.below hb3; clear HT HBX; have HT := Lib.hid hT'; have HBX := Lib.hid hbox2; clear hbox2 hb3 hT'; cases r))
      | (go_at_call 28; go_must (refine (rmcheck_u (HMK.out.below (HB1.out.trans (HT.out.bel.mono HB1.out.size))) HWM.out).mono ?_; rintro e w4 ⟨rfl, hb4⟩; rw [HOK.out]; have hbox2 := (hb4.block bx (Array.getElem?_eq_some_iff.1 HBX.out).1).trans HBX.out; clear b0 b1 b2 b3 b4; obtain ⟨b0, b1, b2, b3, b4⟩ := box5 hbox2; have hT' := HT.out.below hb4; clear HT HBX; have HT := Lib.hid hT'; have HBX := Lib.hid hbox2; clear hbox2 hb4 hT'))
      | (go_at_call 20; go_must (refine (iawake_u _).mono ?_; rintro e w9 ⟨rfl, hb9⟩; have hT' := HT.out.below hb9; clear HT hb9; have HT := Lib.hid hT'; clear hT')))
    · go_ret
      exact ⟨rfl, HB1.out.trans (HT.out.bel.mono HB1.out.size)⟩
    have hB4 := HB1.out.trans (HT.out.bel.mono HB1.out.size)
    have HB4 := Lib.hid hB4
    clear hB4
    go_wp2
    go_loopw [8, 9] (fun v8 v9 wr => ∃ i : Nat, i ≤ S.length ∧ v9 = .int .i64 (i : Int) ∧ Kd.R (Kd.int .i64) 3 wr w4.heap.size (fun _ => True) v8 (sel (matchB m) S i) ∧ Below w4.heap.size w4 wr)
      (fun _ v9 _ => S.length - (intOf v9).toNat)
    case atStart => exact ⟨0, Nat.zero_le _, rfl, Kd.R_nil _ _ _ _ _, Below.refl _ _⟩
    case round =>
      obtain ⟨i, hi, rfl, hr, hb⟩ := hrel
      have HB := Lib.hid hb
      have HR := Lib.hid hr
      have hS60 := HS60.out
      have hT4 := HT.out.below hb
      have hbx := (hb.block bx (Array.getElem?_eq_some_iff.1 HBX.out).1).trans HBX.out
      clear b0 b1 b2 b3 b4
      obtain ⟨b0, b1, b2, b3, b4⟩ := box5 hbx
      obtain ⟨Ax, cx, hcx, hlx, hCx⟩ := hT4.row
      have HTR := Lib.hid hT4
      have HBXR := Lib.hid hbx
      have hsl := sel_len (matchB m) S i
      clear hb hr hT4 hbx hCx
      by_cases hlt : i < S.length
      · have e1 : decide ((i : Int) < (S.length : Int)) = true := decide_eq_true (by omega)
        have e2 : decide (i < S.length) = true := decide_eq_true hlt
        have hsu := sel_succ (matchB m) S i
        have hlab := ilabels_yes HTR.out.ix i hlt
        have hfine := HTR.out.fine hlt
        obtain ⟨x, hx⟩ : ∃ x, S.getD i [] = x := ⟨_, rfl⟩
        rw [hx] at hsu hlab hfine
        have HLAB := Lib.hid hlab
        have HFI := Lib.hid hfine
        obtain ⟨q, hq⟩ : ∃ q, matchB m x = q := ⟨_, rfl⟩
        have HQ := Lib.hid hq
        rw [hq] at hsu
        have HSU := Lib.hid hsu
        clear hsu hlab hfine hx hq
        cases q
        · go_wp2_with (first
            | (go_at_call 15; go_must (refine HLAB.out.mono ?_; rintro e w6 ⟨A6, c6, rfl, hr6, hb6⟩; have hR6 := (Kd.R_reads' hr6).2; have hbx := (hb6.block bx (Array.getElem?_eq_some_iff.1 HBXR.out).1).trans HBXR.out; clear b0 b1 b2 b3 b4 hcx; obtain ⟨b0, b1, b2, b3, b4⟩ := box5 hbx; have hB' := HB.out.trans (hb6.mono HB.out.size); have hR' := Kd.R_below HR.out hb6; clear HB HR; have HB := Lib.hid hB'; have HR := Lib.hid hR'; have HEV := Lib.hid (meval_u (HMK.out.below (HB4.out.trans (hB'.mono HB4.out.size))) HWM.out hR6.2 hR6.1 HFI.out.2.1); rw [HQ.out] at HEV; clear hr6 hb6 hbx hB' hR' hR6))
            | (go_at_call 29; go_must (refine HEV.out.mono ?_; rintro e w7 ⟨rfl, hb7⟩; have hB' := HB.out.trans (hb7.mono HB.out.size); have hR' := Kd.R_below HR.out hb7; clear HB HR b0 b1 b2 b3 b4; have HB := Lib.hid hB'; have HR := Lib.hid hR'; clear hb7 hB' hR')))
          go_roundw
          case rel => exact ⟨i + 1, hlt, by simp, by rw [HSU.out]; simpa using HR.out, HB.out⟩
          case measure => simp [intOf]; omega
        · go_wp2_with (first
            | (go_at_call 15; go_must (refine HLAB.out.mono ?_; rintro e w6 ⟨A6, c6, rfl, hr6, hb6⟩; have hR6 := (Kd.R_reads' hr6).2; have hbx := (hb6.block bx (Array.getElem?_eq_some_iff.1 HBXR.out).1).trans HBXR.out; clear b0 b1 b2 b3 b4 hcx; obtain ⟨b0, b1, b2, b3, b4⟩ := box5 hbx; have hB' := HB.out.trans (hb6.mono HB.out.size); have hR' := Kd.R_below HR.out hb6; clear HB HR; have HB := Lib.hid hB'; have HR := Lib.hid hR'; have HEV := Lib.hid (meval_u (HMK.out.below (HB4.out.trans (hB'.mono HB4.out.size))) HWM.out hR6.2 hR6.1 HFI.out.2.1); rw [HQ.out] at HEV; clear hr6 hb6 hbx hB' hR' hR6))
            | (go_at_call 29; go_must (refine HEV.out.mono ?_; rintro e w7 ⟨rfl, hb7⟩; have hB' := HB.out.trans (hb7.mono HB.out.size); have hR' := Kd.R_below HR.out hb7; clear HB HR b0 b1 b2 b3 b4; have HB := Lib.hid hB'; have HR := Lib.hid hR'; clear hb7 hB' hR'))
            | (at_builtin; go_must (refine Kd.R_append (Kd.int .i64) (w0 := w4) w4.heap.size rfl (.tmp 49) (.tmp 51) 38 3 (.int .i64 0) 8 rfl Try.underlying38 infoI rfl (by decide) (by decide) u8 (sel (matchB m) S i) ((i : Nat) : Int) [.int .i64 ((i : Nat) : Int)] (fun _ => True) (fun _ => False) rfl rfl rfl (fun _ h => h.elim) (fun _ _ => trivial) HR.out HB.out HB.out.size (by omega) ?_; intro v1 w8 hr8 hb8 _ _; have HR8 := Lib.hid hr8; have HB8 := Lib.hid hb8; clear hr8 hb8)))
          go_roundw
          case rel => exact ⟨i + 1, hlt, by simp, by rw [HSU.out]; simpa using HR8.out, HB8.out⟩
          case measure => simp [intOf]; omega
      · obtain rfl : i = S.length := by omega
        have e1 : decide ((S.length : Int) < (S.length : Int)) = false := decide_eq_false (by omega)
        have e2 : decide (S.length < S.length) = false := decide_eq_false (by omega)
        have HSEL := Lib.hid (isel_u HTR.out.ix (by omega) (HMK.out.below (HB4.out.trans (HB.out.mono HB4.out.size))) HWM.out (k := 100) (sel_rises_eq _ S _ _ (by omega) (by omega)) HOKM.out)
        obtain ⟨A8, c8, rfl, hle8, hC8⟩ := Kd.R_reads HR.out
        have HC8 := Lib.hid hC8
        have HLE8 := Lib.hid hle8
        clear hC8 hle8 hlt
        go_wp2_with (first
          | (go_at_call 25; go_must (refine HSEL.out.mono ?_; rintro e w6 ⟨v6, rfl, hr6, hb6⟩; have hr6 := ints_R hr6; obtain ⟨A6, c6, rfl, hle6, hC6⟩ := Kd.R_reads hr6; have HC6 := Lib.hid hC6; have HLE6 := Lib.hid hle6; have HC8' := Lib.hid (Kd.C_below HC8.out hb6); have hT' := HTR.out.below hb6; clear HTR; have HTR := Lib.hid hT'; clear hT' hr6 hb6 hle6 hC6 b0 b1 b2 b3 b4))
          | (go_at_call 17; go_must (refine (sameI_any HC6.out HLE6.out HC8'.out HLE8.out (by omega)).mono ?_; rintro e w7 ⟨rfl, n7, rfl⟩; have hT' := HTR.out.below (pw_below_drewN (Below.refl _ _) n7); clear HTR; have HTR := Lib.hid hT'; clear hT'; rw [decide_eq_true (rfl : sel (matchB m) S S.length = sel (matchB m) S S.length)]))
          | (go_at_call 20; go_must (refine (iawake_u _).mono ?_; rintro e w9 ⟨rfl, hb9⟩; have hT' := HTR.out.below hb9; clear HTR hb9; have HTR := Lib.hid hT'; clear hT')))
        go_ret
        exact ⟨rfl, HB1.out.trans (HTR.out.bel.mono HB1.out.size)⟩
  · have HOK := Lib.hid (decide_eq_false hok)
    clear hok
    go_enter Try.func7, Try.ntmps7
    go_wp2_with (first
      | ((with_reducible refine gate_dst (N := 3) rfl ?_); go_must (refine box_event ?hg (N := 3) ?hd (cs := mobj m A3 c3 A4 c4) (t := 54) ?hr ?_; (case hd => rfl); (case hg => rfl); (case hr => first | (go_simp; done) | (go_simp; rfl)); intro bx hg w1 hbox hb1; obtain ⟨b0, b1, b2, b3, b4⟩ := box5 hbox; have HBOX := Lib.hid hbox; have HB1 := Lib.hid hb1; clear hbox hb1 hg))
      | (go_at_call 10; go_must (refine (HL.out _ HB1.out).mono ?_; rintro e w2 ⟨kb, mb, gb, rfl, hT⟩; have hbox2 := (hT.bel.block bx (Array.getElem?_eq_some_iff.1 HBOX.out).1).trans HBOX.out; clear b0 b1 b2 b3 b4; obtain ⟨b0, b1, b2, b3, b4⟩ := box5 hbox2; have HBX := Lib.hid hbox2; have HT := Lib.hid hT; clear hT HL hbox2))
      | (go_at_call 24; go_must (refine (tinyB_u (HMK.out.below (HB1.out.trans (HT.out.bel.mono HB1.out.size))) HWM.out).mono ?_; rintro e w3 ⟨r, rfl, hb3⟩; have hbox2 := (hb3.block bx (Array.getElem?_eq_some_iff.1 HBX.out).1).trans HBX.out; clear b0 b1 b2 b3 b4; obtain ⟨b0, b1, b2, b3, b4⟩ := box5 hbox2; have hT' := HT.out.below hb3; clear HT HBX; have HT := Lib.hid hT'; have HBX := Lib.hid hbox2; clear hbox2 hb3 hT'; cases r))
      | (go_at_call 28; go_must (refine (rmcheck_u (HMK.out.below (HB1.out.trans (HT.out.bel.mono HB1.out.size))) HWM.out).mono ?_; rintro e w4 ⟨rfl, hb4⟩; rw [HOK.out]; have hbox2 := (hb4.block bx (Array.getElem?_eq_some_iff.1 HBX.out).1).trans HBX.out; clear b0 b1 b2 b3 b4; obtain ⟨b0, b1, b2, b3, b4⟩ := box5 hbox2; have hT' := HT.out.below hb4; clear HT HBX; have HT := Lib.hid hT'; have HBX := Lib.hid hbox2; clear hbox2 hb4 hT'))
      | (go_at_call 20; go_must (refine (iawake_u _).mono ?_; rintro e w9 ⟨rfl, hb9⟩; have hT' := HT.out.below hb9; clear HT hb9; have HT := Lib.hid hT'; clear hT')))
    all_goals (
      go_ret
      exact ⟨rfl, HB1.out.trans (HT.out.bel.mono HB1.out.size)⟩)
end Go.Proofs.Ytlkhdbfhnpbbhaa
