/- The law IndexSelects over its Go text: any matcher over any sets. Conditions: how its arguments are read. -/
import Derived.Test.YtlkhdbfhnpbbhaaJnM6
set_option linter.unusedVariables false
set_option linter.unusedSimpArgs false
namespace Go.Proofs.Ytlkhdbfhnpbbhaa
open Go.RowKit Go.Maps Go.Proofs.YtlkhdbfhnpbbhaaW.PrintWords Go.Proofs.YtlkhdbfhnpbbhaaW.PrintLast Go.Proofs.YtlkhdbfhnpbbhaaW.PrintMore Go.Proofs.Ytlkhdbfhnpbbhaa.Ix Go.Proofs.Ytlkhdbfhnpbbhaa.Tx Go.Proofs.Ytlkhdbfhnpbbhaa.Mx Go.Proofs.Ytlkhdbfhnpbbhaa.Pure
set_option maxRecDepth 100000 in
set_option maxHeartbeats 8000000 in
theorem Pure.IndexSelects_walk (A0 : Option Addr) (c0 : Nat) (l0 : List (List LB)) (m : MT) (A3 : Option Addr) (c3 : Nat) (A4 : Option Addr) (c4 : Nat) (w : World) (C0 : (Kd.slice 41 k41).C w A0 l0.length l0) (m0 : l0.length ≤ c0) (w0 : WSs l0) (K1 : MK w m A3 c3 A4 c4) (w1 : WM m) :
  Calls Try.prog 6 #[.slice A0 l0.length c0, mval m A3 c3 A4 c4] w fun e w' => e = .returned (.bool true) ∧ Below w.heap.size w w' := by
 have hS60 : (setsOf l0 (min l0.length 60)).length ≤ 60 := Nat.le_trans (setsOf_len _ _) zk12; obtain ⟨S, hS⟩ : ∃ S, setsOf l0 (min l0.length 60) = S := ⟨_, rfl⟩
 have HL := Lib.hid (fun (W : World) (hb : Below w.heap.size w W) => laid_u (Kd.C_below C0 hb) m0 w0); rw [hS] at HL hS60; have HS60 := Lib.hid hS60; have HMK := Lib.hid K1; have HWM := Lib.hid w1; have hsl := sel_len (matchB m) S S.length; have HSL := Lib.hid (show (sel (matchB m) S S.length).length ≤ 60 by omega); clear C0 m0 w0 K1 w1 hS hS60 hsl; by_cases hok : okM 8 64 4096 m
 ·have HOKM := Lib.hid hok
  have HOKC := Lib.hid ((okM_cpy (show 8 ≤ 12 by decide) 64 4096 m).2 hok); clear hok; go_enter Try.func6, Try.ntmps6
  go_wp2_with (first
   | ((with_reducible refine gate_dst (N := 3) rfl ?_); go_must (refine box_event ?hg (N := 3) ?hd (cs := mobj m A3 c3 A4 c4) (t := 54) ?hr ?_; (case hd => exact zk16); (case hg => exact zk16); (case hr => exact zk9); intro bx hg w1 hbox hb1; obtain ⟨b0, b1, b2, b3, b4⟩ := box5 hbox; have HBOX := Lib.hid hbox; have HB1 := Lib.hid hb1; clear hbox hb1 hg))
   | (go_at_call 10; go_must (refine (HL.out _ HB1.out).mono ?_; rintro e w2 ⟨kb, mb, gb, rfl, hT⟩; have hbox2 := (hT.bel.block bx (Array.getElem?_eq_some_iff.1 HBOX.out).1).trans HBOX.out; clear b0 b1 b2 b3 b4; obtain ⟨b0, b1, b2, b3, b4⟩ := box5 hbox2; have HBX := Lib.hid hbox2; have HT := Lib.hid hT; clear hT HL hbox2))
   | (go_at_call 24; go_must (refine (tinyB_u (HMK.out.below (HB1.out.trans (HT.out.bel.mono HB1.out.size))) HWM.out).mono ?_; rintro e w3 ⟨r, rfl, hb3⟩; have hbox2 := (hb3.block bx (Array.getElem?_eq_some_iff.1 HBX.out).1).trans HBX.out; clear b0 b1 b2 b3 b4; obtain ⟨b0, b1, b2, b3, b4⟩ := box5 hbox2; have hT' := HT.out.below hb3; clear HT HBX; have HT := Lib.hid hT'; have HBX := Lib.hid hbox2; clear hbox2 hb3 hT'; cases r))
   | (go_at_call 20; go_must (refine (iawake_u _).mono ?_; rintro e w9 ⟨rfl, hb9⟩; have hT' := HT.out.below hb9; clear HT hb9; have HT := Lib.hid hT'; clear hT'))
   | (go_at_call 26; go_must (refine (copyM_u (HMK.out.below (HB1.out.trans (HT.out.bel.mono HB1.out.size))) HWM.out).mono ?_; rintro e w4 ⟨D3, p3, D4, p4, rfl, hmk4, hb4⟩; have hbox2 := (hb4.block bx (Array.getElem?_eq_some_iff.1 HBX.out).1).trans HBX.out; clear b0 b1 b2 b3 b4; obtain ⟨b0, b1, b2, b3, b4⟩ := box5 hbox2; have hT' := HT.out.below hb4; clear HT HBX; have HT := Lib.hid hT'; have HBX := Lib.hid hbox2; have HSEL := Lib.hid (isel_u hT'.ix zk87 hmk4 (wm_cpy 12 m HWM.out) (k := 100) (sel_rises_eq _ S _ _ zk87 zk87) HOKC.out); rw [match_cpy m] at HSEL; clear hbox2 hb4 hT' hmk4))
   | (go_at_call 25; go_must (refine HSEL.out.mono ?_; rintro e w6 ⟨v6, rfl, hr6, hb6⟩; have hr6 := ints_R hr6; obtain ⟨A6, c6, rfl, hle6, hC6⟩ := Kd.R_reads hr6; have HC6 := Lib.hid hC6; have HLE6 := Lib.hid hle6; have hbox2 := (hb6.block bx (Array.getElem?_eq_some_iff.1 HBX.out).1).trans HBX.out; clear b0 b1 b2 b3 b4; obtain ⟨b0, b1, b2, b3, b4⟩ := box5 hbox2; have hT' := HT.out.below hb6; clear HT HBX; have HT := Lib.hid hT'; have HRS := Lib.hid (rsel_u hT'.xr (HMK.out.below (HB1.out.trans (hT'.bel.mono HB1.out.size))) HWM.out HOKM.out); clear hT' hr6 hb6 hle6 hC6 hbox2))
   | (go_at_call 27; go_must (refine HRS.out.mono ?_; rintro e w7 ⟨v7, rfl, hr7, hb7⟩; obtain ⟨A7, c7, rfl, hle7, hC7⟩ := Kd.R_reads hr7; have HC7 := Lib.hid hC7; have HLE7 := Lib.hid hle7; have HC6' := Lib.hid (Kd.C_below HC6.out hb7); have hT' := HT.out.below hb7; clear HT; have HT := Lib.hid hT'; clear hT' hr7 hb7 hle7 hC7 b0 b1 b2 b3 b4))
   | (go_at_call 17; go_must (refine (sameI_any HC6'.out HLE6.out HC7.out HLE7.out (by have := HSL.out; omega)).mono ?_; rintro e w8 ⟨rfl, n8, rfl⟩; have hT' := HT.out.below (pw_below_drewN (Below.refl _ _) n8); clear HT; have HT := Lib.hid hT'; clear hT'; rw [decide_eq_true (rfl : sel (matchB m) S S.length = sel (matchB m) S S.length)])))
  all_goals (
   go_ret
   exact ⟨rfl, HB1.out.trans (HT.out.bel.mono HB1.out.size)⟩)
 ·have HOKM := Lib.hid hok
  have HOKC := Lib.hid (fun c => hok ((okM_cpy (show 8 ≤ 12 by decide) 64 4096 m).1 c)); clear hok; go_enter Try.func6, Try.ntmps6
  go_wp2_with (first
   | ((with_reducible refine gate_dst (N := 3) rfl ?_); go_must (refine box_event ?hg (N := 3) ?hd (cs := mobj m A3 c3 A4 c4) (t := 54) ?hr ?_; (case hd => exact zk16); (case hg => exact zk16); (case hr => exact zk9); intro bx hg w1 hbox hb1; obtain ⟨b0, b1, b2, b3, b4⟩ := box5 hbox; have HBOX := Lib.hid hbox; have HB1 := Lib.hid hb1; clear hbox hb1 hg))
   | (go_at_call 10; go_must (refine (HL.out _ HB1.out).mono ?_; rintro e w2 ⟨kb, mb, gb, rfl, hT⟩; have hbox2 := (hT.bel.block bx (Array.getElem?_eq_some_iff.1 HBOX.out).1).trans HBOX.out; clear b0 b1 b2 b3 b4; obtain ⟨b0, b1, b2, b3, b4⟩ := box5 hbox2; have HBX := Lib.hid hbox2; have HT := Lib.hid hT; clear hT HL hbox2))
   | (go_at_call 24; go_must (refine (tinyB_u (HMK.out.below (HB1.out.trans (HT.out.bel.mono HB1.out.size))) HWM.out).mono ?_; rintro e w3 ⟨r, rfl, hb3⟩; have hbox2 := (hb3.block bx (Array.getElem?_eq_some_iff.1 HBX.out).1).trans HBX.out; clear b0 b1 b2 b3 b4; obtain ⟨b0, b1, b2, b3, b4⟩ := box5 hbox2; have hT' := HT.out.below hb3; clear HT HBX; have HT := Lib.hid hT'; have HBX := Lib.hid hbox2; clear hbox2 hb3 hT'; cases r))
   | (go_at_call 20; go_must (refine (iawake_u _).mono ?_; rintro e w9 ⟨rfl, hb9⟩; have hT' := HT.out.below hb9; clear HT hb9; have HT := Lib.hid hT'; clear hT'))
   | (go_at_call 26; go_must (refine (copyM_u (HMK.out.below (HB1.out.trans (HT.out.bel.mono HB1.out.size))) HWM.out).mono ?_; rintro e w4 ⟨D3, p3, D4, p4, rfl, hmk4, hb4⟩; have hbox2 := (hb4.block bx (Array.getElem?_eq_some_iff.1 HBX.out).1).trans HBX.out; clear b0 b1 b2 b3 b4; obtain ⟨b0, b1, b2, b3, b4⟩ := box5 hbox2; have hT' := HT.out.below hb4; clear HT HBX; have HT := Lib.hid hT'; have HBX := Lib.hid hbox2; have HSEL := Lib.hid (isel_no (kb := kb) hmk4 (wm_cpy 12 m HWM.out) HOKC.out); clear hbox2 hb4 hT' hmk4))
   | (go_at_call 25; go_must (refine HSEL.out.mono ?_; rintro e w6 ⟨rfl, hb6⟩; have hbox2 := (hb6.block bx (Array.getElem?_eq_some_iff.1 HBX.out).1).trans HBX.out; clear b0 b1 b2 b3 b4; obtain ⟨b0, b1, b2, b3, b4⟩ := box5 hbox2; have hT' := HT.out.below hb6; clear HT HBX; have HT := Lib.hid hT'; have HRS := Lib.hid (rsel_no (gb := gb) (HMK.out.below (HB1.out.trans (hT'.bel.mono HB1.out.size))) HWM.out HOKM.out); clear hT' hb6 hbox2))
   | (go_at_call 27; go_must (refine HRS.out.mono ?_; rintro e w7 ⟨rfl, hb7⟩; have hT' := HT.out.below hb7; clear HT; have HT := Lib.hid hT'; clear hT' hb7 b0 b1 b2 b3 b4))
   | (go_at_call 17; go_must (refine (sameI_any (l := []) (m := []) (Kd.C_nil _ _) (Nat.zero_le _) (Kd.C_nil _ _) (Nat.zero_le _) (Nat.zero_le _)).mono ?_; rintro e w8 ⟨rfl, n8, rfl⟩; have hT' := HT.out.below (pw_below_drewN (Below.refl _ _) n8); clear HT; have HT := Lib.hid hT'; clear hT'; rw [decide_eq_true (rfl : ([] : List Int) = [])])))
  all_goals (
   go_ret
   exact ⟨rfl, HB1.out.trans (HT.out.bel.mono HB1.out.size)⟩)
end Go.Proofs.Ytlkhdbfhnpbbhaa
