/- The law IndexPlays over its Go text: the numbers of any sets, there and back; who has any value. Conditions: how its arguments are read. -/
import Derived.Deep.RegionHeld3
import Derived.Deep.DeepCutAuto
import Derived.Test.YtlkhdbfhnpbbhaaJgM4
namespace Go.Proofs.Ytlkhdbfhnpbbhaa
set_option linter.unusedVariables false
set_option linter.unusedSimpArgs false
open Go.RowKit Go.Maps Go.Proofs.YtlkhdbfhnpbbhaaW.PrintWords Go.Proofs.YtlkhdbfhnpbbhaaW.PrintLast Go.Proofs.YtlkhdbfhnpbbhaaW.PrintMore Go.Proofs.Ytlkhdbfhnpbbhaa.Ix Go.Proofs.Ytlkhdbfhnpbbhaa.Tx Go.Proofs.Ytlkhdbfhnpbbhaa.Pure
set_option maxRecDepth 100000 in
set_option maxHeartbeats 8000000 in
theorem Pure.IndexPlays_walk (A0 : Option Addr) (c0 : Nat) (l0 : List (List LB)) (A1 : Option Addr) (c1 : Nat) (l1 : List LB) (a2 : Int) (w : World) (C0 : (Kd.slice 41 k41).C w A0 l0.length l0) (m0 : l0.length ≤ c0) (w0 : WSs l0)
    (C1 : Kd.C k41 w A1 l1.length l1) (m1 : l1.length ≤ c1) (w1 : WLs l1) (w2 : (Lit.int .i64 a2).wf = true) :
    Calls Try.prog 3 #[.slice A0 l0.length c0, .slice A1 l1.length c1, .int .i64 a2] w fun e w' => e = .returned (.bool true) ∧ Below w.heap.size w w' := by
  obtain ⟨k, hck⟩ := wls_check w1
  have hS60 : (setsOf l0 (min l0.length 60)).length ≤ 60 := Nat.le_trans (setsOf_len _ _) (by omega)
  have hl := laid_u C0 m0 w0
  obtain ⟨S, hS⟩ : ∃ S, setsOf l0 (min l0.length 60) = S := ⟨_, rfl⟩
  rw [hS] at hl hS60
  have HL := Lib.hid hl
  have HC1 := Lib.hid C1
  have HM1 := Lib.hid m1
  have HW1 := Lib.hid w1
  have HCK := Lib.hid hck
  have hlen1 := w1.1
  clear C0 m0 w0 C1 m1 w1 hck hl hS
  have hF : ∃ (a : Int) (p b : Bool), (b = true → a = rpos S l1 ∧ p = rhas S l1) ∧ chk l1 = b ∧ ∀ (W : World) (kb mb gb : Nat) (A : Option Addr) (c : Nat), Two (fun _ => True) w W kb mb gb S S → Kd.C k41 W A l1.length l1 → l1.length ≤ c →
      Calls Try.prog 11 #[.pointer (some ⟨kb, 0, none⟩), .slice A l1.length c] W fun e w' => e = .returned (.tuple #[.int .i64 a, .bool p]) ∧ Below W.heap.size W w' := by
    by_cases hk : chk l1 = true
    · exact ⟨_, _, true, fun _ => ⟨rfl, rfl⟩, hk, fun W kb mb gb A c h hC hc => ifind_yes h hC hc hk⟩
    · exact ⟨_, _, false, (fun e => absurd e (by simp)), eq_false_of_ne_true hk, fun W kb mb gb A c h hC hc => ifind_no h hC hc (eq_false_of_ne_true hk)⟩
  obtain ⟨a, p, b, hab, hb, hF⟩ := hF
  have HF := Lib.hid hF
  rw [hb] at HCK
  clear hF hb
  have hab2 : b = false ∨ (b = true ∧ a = rpos S l1 ∧ p = rhas S l1) := by
    cases b
    · exact Or.inl rfl
    · exact Or.inr ⟨rfl, hab rfl⟩
  clear hab
  have HAB := Lib.hid hab2
  clear hab2
  go_enter Try.func3, Try.ntmps3
  go_upto_region 6 with (first
      | (go_at_call 10; go_must (refine HL.out.mono ?_; rintro e w1 ⟨kb, mb, gb, rfl, hT⟩; have HT1 := Lib.hid hT; clear hT HL))
      | (go_at_call 12; go_must (refine (labels_any (Kd.C_below HC1.out HT1.out.bel) HM1.out hlen1).mono ?_; rintro e w2 ⟨A2, c2, rfl, hr2, hb2⟩; have HR2 := Lib.hid (Kd.R_reads' hr2); have HT2 := Lib.hid (HT1.out.below hb2); clear hr2 hb2 HT1))
      | (go_at_call 11; go_must (refine (HF.out _ _ _ _ _ _ HT2.out HR2.out.2.2 HR2.out.2.1).mono ?_; rintro e w3 ⟨rfl, hb3⟩; have HT3 := Lib.hid (HT2.out.below hb3); clear hb3 HT2 HR2 HF))
      | (go_at_call 13; go_must (refine (rfind_u HT3.out.xr (Kd.C_below HC1.out HT3.out.bel) HM1.out (by omega)).mono ?_; rintro e w4 ⟨rfl, hb4⟩; have HT4 := Lib.hid (HT3.out.below hb4); clear hb4 HT3)))
  go_cut [52] from 9 (fun v52 wc => v52 = .bool false ∧ Two (fun _ => True) w wc kb mb gb S S)
  case first =>
    have hab2 := HAB.out
    clear HAB
    rcases hab2 with rfl | ⟨rfl, rfl, rfl⟩
    all_goals (
      go_wp2_with (go_at_call 14; go_must (refine (varveref11_Check.calls k _ _ l1 _ _ (Kd.C_below HC1.out HT4.out.bel) HM1.out HCK.out).mono ?_; rintro e w5 ⟨rfl, hb5⟩; have HT5 := Lib.hid (HT4.out.below (show Below w4.heap.size w4 w5 by first | exact hb5 | (obtain ⟨n1, rfl⟩ := hb5.out; exact pw_below_drewN (Below.refl _ _) _))); clear hb5 HT4))
      go_meet
      case rel => exact ⟨rfl, HT5.out⟩)
  case rest =>
    obtain ⟨rfl, hcut⟩ := hcut
    have HT5 := Lib.hid hcut
    clear hcut HAB HT4 HCK
    go_wp2
    go_loopw [14] (fun v14 wr => ∃ i : Nat, i ≤ S.length + 1 ∧ v14 = .int .i64 (i : Int) ∧ Two (fun _ => True) w wr kb mb gb S S) (fun v14 _ => S.length + 1 - (intOf v14).toNat)
    case atStart => exact ⟨0, Nat.zero_le _, rfl, HT5.out⟩
    case round =>
      obtain ⟨i, hi, rfl, hT⟩ := hrel
      clear HT5
      obtain ⟨Ax, cx, hcx, hlx, hCx⟩ := hT.row
      have HT := Lib.hid hT
      have HCX := Lib.hid hCx
      clear hT hCx
      by_cases hlt : i ≤ S.length
      · have e1 : decide ((i : Int) ≤ (S.length : Int)) = true := decide_eq_true (by omega)
        have e2 : decide (i ≤ S.length) = true := decide_eq_true hlt
        by_cases hlt2 : i < S.length
        · have e3 : decide ((i : Int) < (S.length : Int)) = true := decide_eq_true (by omega)
          have e4 : decide (i < S.length) = true := decide_eq_true hlt2
          obtain ⟨ax, A', c', rfl, hcell, hle, hC'⟩ := set_at HCX.out i hlt2
          have HF8 := Lib.hid (HT.out.fine hlt2)
          obtain ⟨x, hx⟩ : ∃ x, S.getD i [] = x := ⟨_, rfl⟩
          have hlab := ilabels_yes HT.out.ix i hlt2
          rw [hx] at hcell hle hC' HF8 hlab
          have HLAB := Lib.hid hlab
          have HCELL := Lib.hid hcell
          have HLE := Lib.hid hle
          have HC' := Lib.hid hC'
          have HCX0 := Lib.hid hcx
          have hx8 := HF8.out.2.1
          clear hx hlab hcell hle hC' hlt
          go_wp2_with (first
            | (go_at_call 15; go_must (refine HLAB.out.mono ?_; rintro e w6 ⟨A6, c6, rfl, hr6, hb6⟩; have HR6 := Lib.hid (Kd.R_reads' hr6); have HT6 := Lib.hid (HT.out.below hb6); have HB6 := Lib.hid hb6; clear hcx; have hcx := (hb6.cell (World.block_lt_of_cell? _ _ HCX0.out)).trans HCX0.out; have hcy := (hb6.cell (World.block_lt_of_cell? _ _ HCELL.out)).trans HCELL.out; clear hr6 hb6))
            | (go_at_call 16; go_must (refine (sameL_any HR6.out.2.2 HR6.out.2.1 (Kd.C_below HC'.out HB6.out) HLE.out (by omega)).mono ?_; rintro e w7 ⟨rfl, n7, rfl⟩; have HT7 := Lib.hid (HT6.out.below (pw_below_drewN (Below.refl _ _) n7)); rw [decide_eq_true (rfl : x = x)])))
          go_roundw
          case rel => exact ⟨i + 1, by omega, by simp, HT7.out⟩
          case measure => simp [intOf]; omega
        · obtain rfl : i = S.length := by omega
          have e3 : decide ((S.length : Int) < (S.length : Int)) = false := decide_eq_false (by omega)
          have e4 : decide (S.length < S.length) = false := decide_eq_false (by omega)
          have HLAB := Lib.hid (ilabels_no HT.out.ix (S.length : Int) (Or.inr (Int.le_refl _)))
          have HCX0 := Lib.hid hcx
          clear hlt hlt2
          go_wp2_with (go_at_call 15; go_must (refine HLAB.out.mono ?_; rintro e w6 ⟨rfl, hb6⟩; have HT6 := Lib.hid (HT.out.below hb6); clear hcx; have hcx := (hb6.cell (World.block_lt_of_cell? _ _ HCX0.out)).trans HCX0.out; clear hb6))
          go_roundw
          case rel => exact ⟨S.length + 1, Nat.le_refl _, by simp, HT6.out⟩
          case measure => simp [intOf]
      · obtain rfl : i = S.length + 1 := by omega
        have e1 : decide (((S.length + 1 : Nat) : Int) ≤ (S.length : Int)) = false := decide_eq_false (by omega)
        have e2 : decide (S.length + 1 ≤ S.length) = false := decide_eq_false (by omega)
        have e5 : decide ((S.length : Int) + 1 ≤ (S.length : Int)) = false := decide_eq_false (by omega)
        have hid : ∃ (n9 : Nat) (q : Bool), (a2 < 0 → q = false ∧ n9 = 0) ∧ Calls Try.prog 15 #[.pointer (some ⟨kb, 0, none⟩), .int .i64 a2] wr fun e w' => ∃ A9 c9, e = .returned (.tuple #[.slice A9 n9 c9, .bool q]) ∧ Below wr.heap.size wr w' := by
          by_cases h0 : a2 < 0
          · exact ⟨0, false, fun _ => ⟨rfl, rfl⟩, (ilabels_no HT.out.ix a2 (Or.inl h0)).mono (by rintro e w' ⟨rfl, hb⟩; exact ⟨_, _, rfl, hb⟩)⟩
          · by_cases h1 : (S.length : Int) ≤ a2
            · exact ⟨0, false, fun _ => ⟨rfl, rfl⟩, (ilabels_no HT.out.ix a2 (Or.inr h1)).mono (by rintro e w' ⟨rfl, hb⟩; exact ⟨_, _, rfl, hb⟩)⟩
            · refine ⟨(S.getD a2.toNat []).length, true, fun c => absurd c h0, ?_⟩
              have := ilabels_yes HT.out.ix a2.toNat (by omega)
              rw [show ((a2.toNat : Nat) : Int) = a2 by omega] at this
              refine this.mono ?_
              rintro e w' ⟨A9, c9, rfl, -, hb⟩
              exact ⟨A9, c9, rfl, hb⟩
        obtain ⟨n9, q, hq, hid⟩ := hid
        have HID := Lib.hid hid
        have hq2 : (a2 < 0 ∧ q = false ∧ n9 = 0) ∨ ¬ a2 < 0 := by
          by_cases h0 : a2 < 0
          · exact Or.inl ⟨h0, hq h0⟩
          · exact Or.inr h0
        have HQ := Lib.hid hq2
        clear hid hq hq2 hlt hi
        go_upto_region 15 with (go_at_call 15; go_must (refine HID.out.mono ?_; rintro e w6 ⟨A9, c9, rfl, hb6⟩; have HT6 := Lib.hid (HT.out.below hb6); clear hb6 hcx))
        go_cut [107] from 9 (fun v107 wc => v107 = .bool false ∧ Two (fun _ => True) w wc kb mb gb S S)
        case first =>
          have hq2 := HQ.out
          clear HQ
          rcases hq2 with ⟨h0, rfl, rfl⟩ | h0
          all_goals (
            go_wp2
            go_meet
            case rel => exact ⟨rfl, HT6.out⟩)
        obtain ⟨rfl, hcut⟩ := hcut
        have HT6 := Lib.hid hcut
        clear hcut HQ HT HID HCX
        go_wp2
        go_loopw [19] (fun v19 wr => ∃ i : Nat, i ≤ l1.length ∧ i ≤ 20 ∧ v19 = .int .i64 (i : Int) ∧ Two (fun _ => True) w wr kb mb gb S S) (fun v19 _ => 20 - (intOf v19).toNat)
        case atStart => exact ⟨0, Nat.zero_le _, Nat.zero_le _, rfl, HT6.out⟩
        case round =>
          clear HT6
          obtain ⟨j, hj, hj20, rfl, hT⟩ := hrel
          have HT := Lib.hid hT
          clear hT
          by_cases hlt : j < l1.length ∧ j < 20
          · obtain ⟨hlt, hlt2⟩ := hlt
            have e1 : decide ((j : Int) < (l1.length : Int)) = true := decide_eq_true (by omega)
            have e2 : decide (j < l1.length) = true := decide_eq_true hlt
            have e3 : decide ((j : Int) < 20) = true := decide_eq_true (by omega)
            have e4 : decide (j < 20) = true := decide_eq_true hlt2
            obtain ⟨ay, rfl, hn0, hv0⟩ := at_T41 HC1.out (j : Int) (by omega) (by omega)
            rw [Int.toNat_natCast] at hn0 hv0
            obtain ⟨y, hy⟩ : ∃ y, rd_T41 l1 (j : Int) = y := ⟨_, rfl⟩
            rw [hy] at hn0 hv0
            have hn := (HT.out.bel.cell (World.block_lt_of_cell? _ _ hn0)).trans hn0
            have hv := (HT.out.bel.cell (World.block_lt_of_cell? _ _ hv0)).trans hv0
            have HN0 := Lib.hid hn0
            have HV0 := Lib.hid hv0
            clear hn0 hv0 hy
            go_wp2
            have hd := HT.out.below (below_drew (Below.refl _ _))
            clear HT
            have HT := Lib.hid hd
            clear hd hn hv
            have U0 := Lib.hid True.intro
            have U1 := Lib.hid True.intro
            have U2 := Lib.hid True.intro
            have U3 := Lib.hid True.intro
            have U4 := Lib.hid True.intro
            have U5 := Lib.hid True.intro
            go_region_held3 (fun w' => w'.cell? (ay.add (j * 2)) = some (.string y.f0) ∧ w'.cell? ⟨(ay.add (j * 2)).block, (ay.add (j * 2)).off + 1, none⟩ = some (.string y.f1))
              (exact ⟨(HT.out.bel.cell (World.block_lt_of_cell? _ _ HN0.out)).trans HN0.out, (HT.out.bel.cell (World.block_lt_of_cell? _ _ HV0.out)).trans HV0.out⟩)
              (first
              | (go_at_call 18; clear U0; (with_reducible refine (ipost_any HT.out hS60 y.f0 y.f1).mono ?_); rintro e w6 ⟨A6, c6, rfl, hr, hb⟩; have hT' := HT.out.below hb; clear HT; have HT := Lib.hid hT'; have P0 := Lib.hid (Kd.R_reads' hr).2; (try (have q1 := P1.out.1; have q2 := Kd.C_below P1.out.2 hb; clear P1; have P1 := Lib.hid (And.intro q1 q2); clear q1 q2)); clear hr hb hT')
              | (go_at_call 19; clear U1; (with_reducible refine (rpost_any HT.out y.f0 y.f1).mono ?_); rintro e w6 ⟨A6, c6, rfl, hr, hb⟩; have hT' := HT.out.below hb; clear HT; have HT := Lib.hid hT'; have P1 := Lib.hid (Kd.R_reads' hr).2; (try (have q1 := P0.out.1; have q2 := Kd.C_below P0.out.2 hb; clear P0; have P0 := Lib.hid (And.intro q1 q2); clear q1 q2)); clear hr hb hT')
              | (go_at_call 17; clear U2; (with_reducible refine (sameI_any P0.out.2 P0.out.1 P1.out.2 P1.out.1 (by have := sel_len (hasVal y.f0 y.f1) S S.length; omega)).mono ?_); rintro e w8 ⟨rfl, n8, rfl⟩; have hT' := HT.out.below (pw_below_drewN (Below.refl _ _) n8); clear HT P0 P1; have HT := Lib.hid hT'; clear hT'; rw [decide_eq_true (rfl : sel (hasVal y.f0 y.f1) S S.length = _)])
              | (go_at_call 18; clear U3; (with_reducible refine (ipost_any HT.out hS60 y.f0 (⟨#[]⟩ : ByteArray)).mono ?_); rintro e w6 ⟨A6, c6, rfl, hr, hb⟩; have hT' := HT.out.below hb; clear HT; have HT := Lib.hid hT'; have P0 := Lib.hid (Kd.R_reads' hr).2; (try (have q1 := P1.out.1; have q2 := Kd.C_below P1.out.2 hb; clear P1; have P1 := Lib.hid (And.intro q1 q2); clear q1 q2)); clear hr hb hT')
              | (go_at_call 19; clear U4; (with_reducible refine (rpost_any HT.out y.f0 (⟨#[]⟩ : ByteArray)).mono ?_); rintro e w6 ⟨A6, c6, rfl, hr, hb⟩; have hT' := HT.out.below hb; clear HT; have HT := Lib.hid hT'; have P1 := Lib.hid (Kd.R_reads' hr).2; (try (have q1 := P0.out.1; have q2 := Kd.C_below P0.out.2 hb; clear P0; have P0 := Lib.hid (And.intro q1 q2); clear q1 q2)); clear hr hb hT')
              | (go_at_call 17; clear U5; (with_reducible refine (sameI_any P0.out.2 P0.out.1 P1.out.2 P1.out.1 (by have := sel_len (hasVal y.f0 (⟨#[]⟩ : ByteArray)) S S.length; omega)).mono ?_); rintro e w8 ⟨rfl, n8, rfl⟩; have hT' := HT.out.below (pw_below_drewN (Below.refl _ _) n8); clear HT P0 P1; have HT := Lib.hid hT'; clear hT'; rw [decide_eq_true (rfl : sel (hasVal y.f0 (⟨#[]⟩ : ByteArray)) S S.length = _)]))
            all_goals (
              go_wp2
              go_roundw
              case rel => exact ⟨j + 1, hlt, hlt2, by simp, HT.out⟩
              case measure => simp [intOf]; omega)
          · by_cases hlt2 : j < l1.length
            · have e1 : decide ((j : Int) < (l1.length : Int)) = true := decide_eq_true (by omega)
              have e2 : decide (j < l1.length) = true := decide_eq_true hlt2
              have e3 : decide ((j : Int) < 20) = false := decide_eq_false (by omega)
              have e4 : decide (j < 20) = false := decide_eq_false (by omega)
              go_wp2_with (go_at_call 20; go_must (refine (iawake_u _).mono ?_; rintro e w9 ⟨rfl, hb9⟩; have HB9 := Lib.hid (HT.out.below hb9).bel; clear hb9))
              go_ret
              exact ⟨rfl, HB9.out⟩
            · have e1 : decide ((j : Int) < (l1.length : Int)) = false := decide_eq_false (by omega)
              have e2 : decide (j < l1.length) = false := decide_eq_false hlt2
              go_wp2_with (go_at_call 20; go_must (refine (iawake_u _).mono ?_; rintro e w9 ⟨rfl, hb9⟩; have HB9 := Lib.hid (HT.out.below hb9).bel; clear hb9))
              go_ret
              exact ⟨rfl, HB9.out⟩
end Go.Proofs.Ytlkhdbfhnpbbhaa
