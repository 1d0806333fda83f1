/- The law IndexValues over its Go text: the values of any name, and how many have each. Conditions: how its arguments are read. -/
import Derived.Deep.RegionHeld3
import Derived.Test.YtlkhdbfhnpbbhaaJvM4
namespace Go.Proofs.Ytlkhdbfhnpbbhaa
set_option linter.unusedVariables false
set_option linter.unusedSimpArgs false
open Go.RowKit Go.Maps Go.Proofs.YtlkhdbfhnpbbhaaW.PrintWords Go.Proofs.YtlkhdbfhnpbbhaaW.PrintLast Go.Proofs.YtlkhdbfhnpbbhaaW.PrintMore Go.Proofs.Ytlkhdbfhnpbbhaa.Ix Go.Proofs.Ytlkhdbfhnpbbhaa.Tx Go.Proofs.Ytlkhdbfhnpbbhaa.Pure
theorem place9 (v : Int) : ∃ p : Nat, p < 9 ∧ varvelaw00_Place.f v 9 = some (p : Int) := by
  have h1 := Int.tmod_lt_of_pos v (show (0 : Int) < 9 by decide)
  have h2 : -9 < Int.tmod v 9 := by
    have := Int.neg_tmod v 9
    have h3 := Int.tmod_lt_of_pos (-v) (show (0 : Int) < 9 by decide)
    omega
  unfold varvelaw00_Place.f
  rw [if_neg (by omega)]
  by_cases h : Int.tmod v 9 < 0
  · refine ⟨(Int.tmod v 9 + 9).toNat, by omega, ?_⟩
    rw [if_pos h, w64 (by omega) (by omega)]
    congr 1; omega
  · refine ⟨(Int.tmod v 9).toNat, by omega, ?_⟩
    rw [if_neg h]
    congr 1; omega
theorem take_min (R : List VV) (q : Int) (h : 1 ≤ q) : ((R.take q.toNat).length : Int) = min q (R.length : Int) := by rw [List.length_take]; omega
set_option maxRecDepth 100000 in
set_option maxHeartbeats 8000000 in
theorem Pure.IndexValues_walk (A0 : Option Addr) (c0 : Nat) (l0 : List (List LB)) (a1 : ByteArray) (a2 : Int) (w : World) (C0 : (Kd.slice 41 k41).C w A0 l0.length l0) (m0 : l0.length ≤ c0) (w0 : WSs l0) (w1 : a1.size ≤ 140737488351232) (w2 : (Lit.int .i64 a2).wf = true) :
    Calls Try.prog 8 #[.slice A0 l0.length c0, .string a1, .int .i64 a2] w fun e w' => e = .returned (.bool true) ∧ Below w.heap.size w w' := by
  have hS60 : (setsOf l0 (min l0.length 60)).length ≤ 60 := Nat.le_trans (setsOf_len _ _) (by omega)
  have hl := laid_u C0 m0 w0
  obtain ⟨S, hS⟩ : ∃ S, setsOf l0 (min l0.length 60) = S := ⟨_, rfl⟩
  rw [hS] at hl hS60
  have HL := Lib.hid hl
  obtain ⟨p, hp, hpl⟩ := place9 a2
  have HPL := Lib.hid hpl
  have HRV := Lib.hid (fun (W : World) (kb mb gb : Nat) (h : Two (fun _ => True) w W kb mb gb S S) => rvals_u (name := a1) h.xr hS60)
  have hRl : (rvals S a1).length ≤ 60 := by rw [← tel_rvals]; have := tel_len S a1; omega
  have HVA := Lib.hid (fun (W : World) (kb mb gb xb nb : Nat) (most : Int) (h : Two (fun _ => True) w W kb mb gb S S) (hx : W.cell? ⟨xb, 0, none⟩ = some (.pointer (some ⟨kb, 0, none⟩))) (hn : W.cell? ⟨nb, 0, none⟩ = some (.string a1)) (hm : 1 ≤ most) => vals_u (most := most) h.ix hS60 hx hn hm)
  rw [tel_rvals] at HVA
  obtain ⟨R, hR⟩ : ∃ R, rvals S a1 = R := ⟨_, rfl⟩
  rw [hR] at HRV HVA hRl
  clear C0 m0 w0 hl hS hpl hR
  go_enter Try.func8, Try.ntmps8
  go_wp2_with (first
    | (go_at_call 10; go_must (refine HL.out.mono ?_; rintro e w1 ⟨kb, mb, gb, rfl, hT⟩; have HT1 := Lib.hid hT; clear hT HL))
    | (go_at_call 30; go_must (refine (HRV.out _ _ _ _ HT1.out).mono ?_; rintro e w2 ⟨A2, c2, rfl, hr2, hb2⟩; have HT2 := Lib.hid (HT1.out.below hb2); have HR2 := Lib.hid (Kd.R_reads' hr2).2; clear hr2 hb2 HT1 HRV))
    | (go_at_call 31; go_must (refine (ivalues_u _ _ _).mono ?_; rintro e w3 ⟨xb, nb, rfl, hx3, hn3, hxb, hnb, hb3⟩; have HT3 := Lib.hid (HT2.out.below hb3); have HR3 := Lib.hid (And.intro HR2.out.1 (Kd.C_below HR2.out.2 hb3)); have HX3 := Lib.hid hx3; have HN3 := Lib.hid hn3; clear hx3 hn3 hxb hnb hb3 HT2 HR2)))
  go_loopw [12] (fun v12 wr => ∃ r : Nat, r ≤ 2 ∧ v12 = .int .i64 (r : Int) ∧ Below w3.heap.size w3 wr) (fun v12 _ => 2 - (intOf v12).toNat)
  case atStart => exact ⟨0, by omega, rfl, Below.refl _ _⟩
  case round =>
    obtain ⟨r, hr, rfl, hb⟩ := hrel
    by_cases hlt : r < 2
    · have e1 : decide ((r : Int) < 2) = true := decide_eq_true (by omega)
      have HB := Lib.hid hb
      have hk : ∃ k : Nat, 1 ≤ k ∧ k ≤ 1000 ∧ ((r = 0 ∧ k = 1 + p) ∨ (r = 1 ∧ k = 1000)) := by
        by_cases h : r = 0
        · exact ⟨1 + p, by omega, by omega, Or.inl ⟨h, rfl⟩⟩
        · exact ⟨1000, by omega, by omega, Or.inr ⟨by omega, rfl⟩⟩
      obtain ⟨k, hk1, hk2, hk3⟩ := hk
      have HK := Lib.hid hk1
      clear hb hr
      rcases hk3 with ⟨rfl, rfl⟩ | ⟨rfl, rfl⟩
      · have hlq := take_min R (1 + (p : Int)) (by omega)
        obtain ⟨L, hL⟩ : ∃ L, R.take (1 + (p : Int) : Int).toNat = L := ⟨_, rfl⟩
        have HLL := Lib.hid hL
        rw [hL] at hlq
        clear hL
        go_wp2_with (first
          | (go_at_call 21; go_must (refine (varvelaw00_Place.calls _ _ _ _ HPL.out).mono ?_; rintro e w6 ⟨rfl, hd⟩; have HB6 := Lib.hid (HB.out.trans (hd.below.mono HB.out.size)); clear hd))
          | (go_at_call 32; go_must (have hva := HVA.out w6 kb mb gb xb nb (1 + (p : Int)) (HT3.out.below HB6.out) ((HB6.out.cell (World.block_lt_of_cell? _ _ HX3.out)).trans HX3.out) ((HB6.out.cell (World.block_lt_of_cell? _ _ HN3.out)).trans HN3.out) (by omega); rw [HLL.out] at hva; refine hva.mono ?_; clear hva; rintro e w7 ⟨A7, c7, rfl, hr7, hb7⟩; have HR7 := Lib.hid (Kd.R_reads' hr7).2; have HB7 := Lib.hid (HB6.out.trans (hb7.mono HB6.out.size)); clear hr7 hb7)))
        have HW7 := Lib.hid (Kd.C_below HR3.out.2 HB7.out)
        have HSUB := Lib.hid (show ∀ j, j < L.length → L.getD j (emp, 0) = R.getD j (emp, 0) ∧ j < R.length from fun j hj => by
          have h := HLL.out
          subst h
          rw [List.length_take] at hj
          refine ⟨?_, by omega⟩
          rw [List.getD_eq_getElem?_getD, List.getD_eq_getElem?_getD, List.getElem?_take_of_lt (by omega)])
        obtain ⟨wo, rfl⟩ : ∃ wo : World, wo = wr := ⟨_, rfl⟩
        go_loopw [15] (fun v15 wk => ∃ j : Nat, j ≤ L.length ∧ v15 = .int .i64 (j : Int) ∧ Below w7.heap.size w7 wk) (fun v15 _ => L.length - (intOf v15).toNat)
        case atStart => exact ⟨0, Nat.zero_le _, rfl, Below.refl _ _⟩
        case round =>
          obtain ⟨j, hj, rfl, hbk⟩ := hrel
          have HBK := Lib.hid hbk
          clear hbk
          by_cases hjl : j < L.length
          · have d1 : decide ((j : Int) < (L.length : Int)) = true := decide_eq_true (by omega)
            have d2 : decide (j < L.length) = true := decide_eq_true hjl
            obtain ⟨hsame, hjR⟩ := HSUB.out j hjl
            obtain ⟨a7, rfl, hs7, hn7⟩ := at_VV (Kd.C_below HR7.out.2 HBK.out) j hjl
            obtain ⟨a8, rfl, hs8, hn8⟩ := at_VV (Kd.C_below HW7.out HBK.out) j hjR
            rw [hsame] at hs7 hn7
            obtain ⟨y, hy⟩ : ∃ y, R.getD j (emp, 0) = y := ⟨_, rfl⟩
            rw [hy] at hs7 hn7 hs8 hn8
            clear hsame hy
            go_wp2
            go_region
            go_wp2
            go_roundw
            case rel => exact ⟨j + 1, hjl, by simp, below_drew HBK.out⟩
            case measure => simp [intOf]; omega
          · obtain ⟨hjj⟩ : j = L.length ∧ True := ⟨by omega, trivial⟩
            have d1 : decide ((j : Int) < (L.length : Int)) = false := decide_eq_false (by omega)
            have d2 : decide (j < L.length) = false := decide_eq_false hjl
            clear hjj
            go_wp2
            go_roundw
            case rel => exact ⟨1, by omega, by simp, HB7.out.trans (HBK.out.mono HB7.out.size)⟩
            case measure => simp [intOf]
      · have hlq := take_min R (1000) (by omega)
        obtain ⟨L, hL⟩ : ∃ L, R.take (1000 : Int).toNat = L := ⟨_, rfl⟩
        have HLL := Lib.hid hL
        rw [hL] at hlq
        clear hL
        go_wp2_with (first
          | (go_at_call 21; go_must (refine (varvelaw00_Place.calls _ _ _ _ HPL.out).mono ?_; rintro e w6 ⟨rfl, hd⟩; have HB6 := Lib.hid (HB.out.trans (hd.below.mono HB.out.size)); clear hd))
          | (go_at_call 32; go_must (have hva := HVA.out w6 kb mb gb xb nb (1000) (HT3.out.below HB6.out) ((HB6.out.cell (World.block_lt_of_cell? _ _ HX3.out)).trans HX3.out) ((HB6.out.cell (World.block_lt_of_cell? _ _ HN3.out)).trans HN3.out) (by omega); rw [HLL.out] at hva; refine hva.mono ?_; clear hva; rintro e w7 ⟨A7, c7, rfl, hr7, hb7⟩; have HR7 := Lib.hid (Kd.R_reads' hr7).2; have HB7 := Lib.hid (HB6.out.trans (hb7.mono HB6.out.size)); clear hr7 hb7)))
        have HW7 := Lib.hid (Kd.C_below HR3.out.2 HB7.out)
        have HSUB := Lib.hid (show ∀ j, j < L.length → L.getD j (emp, 0) = R.getD j (emp, 0) ∧ j < R.length from fun j hj => by
          have h := HLL.out
          subst h
          rw [List.length_take] at hj
          refine ⟨?_, by omega⟩
          rw [List.getD_eq_getElem?_getD, List.getD_eq_getElem?_getD, List.getElem?_take_of_lt (by omega)])
        obtain ⟨wo, rfl⟩ : ∃ wo : World, wo = wr := ⟨_, rfl⟩
        go_loopw [15] (fun v15 wk => ∃ j : Nat, j ≤ L.length ∧ v15 = .int .i64 (j : Int) ∧ Below w7.heap.size w7 wk) (fun v15 _ => L.length - (intOf v15).toNat)
        case atStart => exact ⟨0, Nat.zero_le _, rfl, Below.refl _ _⟩
        case round =>
          obtain ⟨j, hj, rfl, hbk⟩ := hrel
          have HBK := Lib.hid hbk
          clear hbk
          by_cases hjl : j < L.length
          · have d1 : decide ((j : Int) < (L.length : Int)) = true := decide_eq_true (by omega)
            have d2 : decide (j < L.length) = true := decide_eq_true hjl
            obtain ⟨hsame, hjR⟩ := HSUB.out j hjl
            obtain ⟨a7, rfl, hs7, hn7⟩ := at_VV (Kd.C_below HR7.out.2 HBK.out) j hjl
            obtain ⟨a8, rfl, hs8, hn8⟩ := at_VV (Kd.C_below HW7.out HBK.out) j hjR
            rw [hsame] at hs7 hn7
            obtain ⟨y, hy⟩ : ∃ y, R.getD j (emp, 0) = y := ⟨_, rfl⟩
            rw [hy] at hs7 hn7 hs8 hn8
            clear hsame hy
            go_wp2
            go_region
            go_wp2
            go_roundw
            case rel => exact ⟨j + 1, hjl, by simp, below_drew HBK.out⟩
            case measure => simp [intOf]; omega
          · obtain ⟨hjj⟩ : j = L.length ∧ True := ⟨by omega, trivial⟩
            have d1 : decide ((j : Int) < (L.length : Int)) = false := decide_eq_false (by omega)
            have d2 : decide (j < L.length) = false := decide_eq_false hjl
            clear hjj
            go_wp2
            go_roundw
            case rel => exact ⟨2, by omega, by simp, HB7.out.trans (HBK.out.mono HB7.out.size)⟩
            case measure => simp [intOf]
    · obtain rfl : r = 2 := by omega
      have HB := Lib.hid hb
      clear hb
      go_wp2_with (go_at_call 20; go_must (refine (iawake_u _).mono ?_; rintro e w9 ⟨rfl, hb9⟩; have HB9 := Lib.hid ((HT3.out.below HB.out).below hb9).bel; clear hb9))
      go_ret
      exact ⟨rfl, HB9.out⟩
end Go.Proofs.Ytlkhdbfhnpbbhaa
