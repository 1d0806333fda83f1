/- For every two lists of numbers: of hashes in any order those that are kept rise, and none that was dropped is below one that is kept. No condition. -/
import Derived.Test.YtpjchgiemmnikaaPureKmvTurns
namespace Go.Proofs.Ytpjchgiemmnikaa.Pure
set_option linter.unusedVariables false
set_option linter.unusedSimpArgs false
open Go.RowKit Go.Maps Go.Proofs.YtpjchgiemmnikaaW.PrintWords Go.Proofs.YtpjchgiemmnikaaW.PrintLast Go.Proofs.YtpjchgiemmnikaaW.PrintMore Go.Proofs.Ytpjchgiemmnikaa.Q

theorem drawn_more {w w1 : World} (h : Drawn0 w w1) (n : Nat) : Drawn0 w (w1.drewN n) := by
  obtain ⟨m, rfl⟩ := h
  exact ⟨_, World.drewN_drewN _ _ _⟩
theorem drawn_cell {w w1 : World} (h : Drawn0 w w1) (a : Addr) : w1.cell? a = w.cell? a := by
  obtain ⟨m, rfl⟩ := h
  rfl
/-- What was dropped lies above all that is kept, and there are 1024 of these. -/
theorem least_out {s l : List Int} (hs : KGood s) {x : Int} (hx : x ∈ s ∨ x ∈ l) (hn : x ∉ kmany s l) : (kmany s l).length = 1024 ∧ ∀ y ∈ kmany s l, y < x := by
  have hA := asc_kall (l := l) hs.1
  have hm : x ∈ kall s l := (mem_kall x).2 hx
  rw [kmany_eq hs.1 hs.2.1] at hn ⊢
  have hb : 1024 ≤ below (kall s l) x := by
    rcases Nat.lt_or_ge (below (kall s l) x) 1024 with c | c
    · exact absurd ((mem_take 1024 hA x).2 ⟨hm, c⟩) hn
    · exact c
  have := below_len (kall s l) x
  refine ⟨by rw [List.length_take]; omega, fun y hy => ?_⟩
  have h1 := (mem_take 1024 hA y).1 hy
  rcases Int.lt_or_le y x with c | c
  · exact c
  · have := below_up (kall s l) c; omega

set_option maxHeartbeats 1000000 in
theorem Least_no (A0 A1 : Option Addr) (c0 c1 : Nat) (l0 l1 : List Int) (w : World) (C1 : Kd.C (Kd.int .u64) w A1 l1.length l1) (m1 : l1.length ≤ c1) (w0 : WU l0) (w1 : WU l1) (hn : ¬ (l0.length ≤ 100 ∧ KOk l1)) :
    Calls Try.prog 8 #[.slice A0 l0.length c0, .slice A1 l1.length c1] w fun e w' => e = .returned (.bool true) ∧ Below w.heap.size w w' := by
  have RK := refCheck_c w1 C1 m1
  have hlen := w0.len
  by_cases hl : l0.length ≤ 100
  · rw [decide_eq_false (fun c => hn ⟨hl, c⟩)] at RK
    have hd : decide ((100 : Int) < (l0.length : Int)) = false := decide_eq_false (by omega)
    clear hn C1 m1 w0 w1
    go_enter Try.func8, Try.ntmps8
    go_wp2_with (first
      | (go_at_call 22; refine RK.mono ?_; rintro e w1 ⟨rfl, hb1⟩; clear RK)
      | (go_at_call 25; refine (awake_u _).mono ?_; rintro e w2 ⟨rfl, hb⟩; have hb2 := hb1.trans (hb.mono hb1.size); clear hb1 hb))
    go_ret
    exact ⟨rfl, hb2⟩
  · have hd : decide ((100 : Int) < (l0.length : Int)) = true := decide_eq_true (by omega)
    clear hn C1 m1 w0 w1 RK
    go_enter Try.func8, Try.ntmps8
    go_wp2_with (go_at_call 25; refine (awake_u _).mono ?_; rintro e w2 ⟨rfl, hb2⟩)
    go_ret
    exact ⟨rfl, hb2⟩
set_option maxHeartbeats 4000000 in
set_option maxRecDepth 100000 in
theorem Least_yes (A0 A1 : Option Addr) (c0 c1 : Nat) (l0 l1 : List Int) (w : World) (C0 : Kd.C (Kd.int .u64) w A0 l0.length l0) (C1 : Kd.C (Kd.int .u64) w A1 l1.length l1) (m1 : l1.length ≤ c1) (w0 : WU l0) (w1 : WU l1) (hl : l0.length ≤ 100) (hk : KOk l1) :
    Calls Try.prog 8 #[.slice A0 l0.length c0, .slice A1 l1.length c1] w fun e w' => e = .returned (.bool true) ∧ Below w.heap.size w w' := by
  have hg := KGood.of w1 hk
  have CP := fun W m (h : KS w W m) => nums_c (c := c1) w1 C1 h.bel
  have FR := fun W A c (h : KS w W []) (hC : Kd.C (Kd.int .u64) W A l1.length l1) => h.from (c := c) hC hg
  have RK := fun W m (h : KS w W m) => refCheck_c w1 (Kd.C_below C1 h.bel) m1
  rw [decide_eq_true hk] at RK
  have hd0 : decide ((100 : Int) < (l0.length : Int)) = false := decide_eq_false (by omega)
  have HN0 := Lib.hid w0.num; have HC0 := Lib.hid C0; have HC1 := Lib.hid C1; have HG := Lib.hid hg
  have hS0 := KS.nil w
  have hlen := w0.len
  have hlen1 := hk.2
  clear C0 C1 m1 w0 w1 hg hk
  go_enter Try.func8, Try.ntmps8
  go_wp2_with (first
    | (go_at_call 22; refine (RK _ _ hS0).mono ?_; rintro e w3 ⟨rfl, hb⟩; have hS1 := hS0.below hb; clear hS0 hb RK)
    | (go_at_call 21; refine (CP _ _ hS1).mono ?_; rintro e w1 ⟨A2, c2, rfl, lc2, hC2, ho, hb⟩; have hS2 := hS1.below hb; clear hS1 ho lc2 hb CP)
    | (go_at_call 34; refine (FR _ _ _ hS2 hC2).mono ?_; rintro e w2 ⟨g, b, rfl, hS3, hb⟩; clear hS2 hC2 hb FR))
  go_loopw [7] (fun i wr => ∃ (j : Nat), j ≤ l0.length ∧ i = .int .i64 j ∧ KS w wr [(g, b, kmany l1 (l0.take j))]) (fun i _ => l0.length - (intOf i).toNat)
  case atStart => exact ⟨0, Nat.zero_le _, rfl, hS3⟩
  case round =>
    clear hS3
    obtain ⟨j, hj, rfl, hS⟩ := hrel
    by_cases hi : j < l0.length
    · obtain ⟨ad, rfl, hc1⟩ := Kd.at_int HC0.out (j : Int) (by omega) (by omega)
      rw [Int.toNat_natCast, rd_nat hi] at hc1
      have d1 := (hS.bel.cell (World.block_lt_of_cell? w _ hc1)).trans hc1
      obtain ⟨x, hx⟩ : ∃ x, l0[j] = x := ⟨_, rfl⟩
      have hx0 := HN0.out l0[j] (by simp)
      have ek : kmany l1 (l0.take (j + 1)) = khash (kmany l1 (l0.take j)) x := by rw [← hx, ← kmany_snoc, List.take_succ_eq_append_getElem hi]
      rw [hx] at d1 hx0
      have EK := Lib.hid ek; have HX := Lib.hid hx0
      have hd : decide (j < l0.length) = true := decide_eq_true hi
      have HJ := Lib.hid hi
      clear hc1 hx ek hx0 hi
      go_wp2_with (go_at_call 31; refine (hS.hash 0 rfl HX.out).mono ?_; rintro e w5 ⟨rfl, hS5, hf⟩; clear hf hS)
      go_roundw
      case rel => exact ⟨j + 1, by have := HJ.out; omega, by go_num, by rw [EK.out]; exact hS5⟩
      case measure => have := HJ.out; simp [intOf]; omega
    · have hd : decide (j < l0.length) = false := decide_eq_false hi
      obtain rfl : j = l0.length := by omega
      rw [List.take_length] at hS
      obtain ⟨M, hM⟩ : ∃ M, kmany l1 l0 = M := ⟨_, rfl⟩
      have hgM := kgood_kmany HG.out HN0.out
      have hdrop : ∀ x, (x ∈ l0 ∨ x ∈ l1) → x ∉ M → M.length = 1024 ∧ ∀ y ∈ M, y < x := fun x hx hn => by
        have := least_out HG.out (l := l0) (x := x) hx.symm (by rw [hM]; exact hn)
        rwa [hM] at this
      rw [hM] at hS hgM
      have HGM := Lib.hid hgM; have HD := Lib.hid hdrop
      have hML := hgM.2.1
      clear hi hM hgM hdrop
      go_wp2_with (go_at_call 32; refine (hS.hashes 0 rfl).mono ?_; rintro e W0 ⟨A8, c8, rfl, lc8, hC8, ho, hS8, hb⟩; clear ho hb hS)
      have HL := Lib.hid (Kd.C_below HC0.out hS8.bel); have HF := Lib.hid (Kd.C_below HC1.out hS8.bel); have HM := Lib.hid hC8
      have HB := Lib.hid hS8.bel
      clear hS8 hC8
      go_loopw [9] (fun v9 wr => ∃ i : Nat, v9 = .int .i64 i ∧ 1 ≤ i ∧ (i ≤ M.length ∨ i = 1) ∧ Drawn0 W0 wr) (fun vi _ => M.length + 1 - (intOf vi).toNat)
      case atStart => exact ⟨1, rfl, Nat.le_refl _, .inr rfl, Drawn0.refl _⟩
      case round =>
        obtain ⟨i, rfl, hi1, hle, hR⟩ := hrel
        by_cases him : i < M.length
        · obtain ⟨ad, rfl, hc1⟩ := Kd.at_int HM.out (i : Int) (by omega) (by omega)
          obtain ⟨ad', e', hc2⟩ := Kd.at_int HM.out ((i : Int) - 1) (by omega) (by omega)
          obtain rfl : ad = ad' := by injection e'
          rw [Int.toNat_natCast] at hc1
          rw [show ((i : Int) - 1).toNat = i - 1 by omega] at hc2
          have d1 := (drawn_cell hR _).trans hc1
          have d2 := (drawn_cell hR _).trans hc2
          have hasc := asc_at HGM.out.1 (show i - 1 < i by omega) him
          rw [show ((i - 1 : Nat) : Int) = (i : Int) - 1 by omega] at hasc
          obtain ⟨p, hp⟩ : ∃ p, rd M (i : Int) = p := ⟨_, rfl⟩
          obtain ⟨q, hq⟩ : ∃ q, rd M ((i : Int) - 1) = q := ⟨_, rfl⟩
          rw [hp] at d1 hasc; rw [hq] at d2 hasc
          have hpd : decide (p ≤ q) = false := decide_eq_false (by omega)
          have hd3 : decide ((i : Int) < (M.length : Int)) = true := decide_eq_true (by omega)
          have HR := Lib.hid hR
          clear hc1 hc2 e' hp hq hasc hR
          go_wp2
          go_quiet (fail)
          go_wp2
          go_roundw
          case rel => exact ⟨i + 1, by go_num, by omega, .inl (by omega), drawn_more HR.out _⟩
          case measure => simp [intOf]; omega
        · have hd3 : decide ((i : Int) < (M.length : Int)) = false := decide_eq_false (by omega)
          have HR := Lib.hid hR
          clear hR hle
          go_wp2
          go_loopw [10] (fun v10 wr => ∃ z : Int, v10 = .int .i64 z ∧ (z = 0 ∨ z = 1 ∨ z = 2) ∧ Drawn0 W0 wr) (fun vi _ => 2 - (intOf vi).toNat)
          case atStart => exact ⟨0, rfl, .inl rfl, HR.out⟩
          case round =>
            clear HR
            obtain ⟨z, rfl, hz, hZ⟩ := hrel
            have HZ := Lib.hid hZ
            clear hZ
            rcases hz with rfl | rfl | rfl
            · skip
              go_wp2
              go_loopw [12] (fun v12 wr => ∃ i : Nat, v12 = .int .i64 i ∧ i ≤ l0.length ∧ Drawn0 W0 wr) (fun vi _ => l0.length + 1 - (intOf vi).toNat)
              case atStart => exact ⟨0, rfl, Nat.zero_le _, HZ.out⟩
              case round =>
                clear HZ
                obtain ⟨i, rfl, hix, hR⟩ := hrel
                by_cases hi : i < l0.length
                · have hd3 : decide ((i : Int) < (l0.length : Int)) = true := decide_eq_true (by omega)
                  have hd4 : decide (i < l0.length) = true := decide_eq_true hi
                  obtain ⟨ax, hax, hcx⟩ := Kd.at_int HL.out (i : Int) (by omega) (by omega)
                  rw [Int.toNat_natCast, rd_nat hi] at hcx
                  obtain ⟨x, hx⟩ : ∃ x, l0[i] = x := ⟨_, rfl⟩
                  rw [hx] at hcx
                  have HCX := Lib.hid hcx
                  have HXM := Lib.hid (show x ∈ l0 from hx ▸ List.getElem_mem hi)
                  have HR := Lib.hid hR; have HI := Lib.hid hi
                  clear hcx hx hR
                  subst hax
                  go_wp2
                  go_loopw [13, 14] (fun v13 v14 wr => ∃ (b1 : Bool) (k : Nat), v13 = .bool b1 ∧ v14 = .int .i64 k ∧ k ≤ M.length ∧ Hid (b1 = decide (x ∈ M.take k)) ∧ Drawn0 W0 wr) (fun _ vi _ => M.length + 1 - (intOf vi).toNat)
                  case atStart => exact ⟨false, 0, rfl, rfl, Nat.zero_le _, Lib.hid (by simp), HR.out⟩
                  case round =>
                    clear HR
                    obtain ⟨b1, k, rfl, rfl, hkM, HB1, hR⟩ := hrel
                    by_cases hk : k < M.length
                    · have hd5 : decide ((k : Int) < (M.length : Int)) = true := decide_eq_true (by omega)
                      have hd6 : decide (k < M.length) = true := decide_eq_true hk
                      have hin : x ∈ M.take (k + 1) ↔ x ∈ M.take k ∨ M[k] = x := by
                        rw [List.take_succ_eq_append_getElem hk, List.mem_append, List.mem_singleton]
                        exact ⟨fun h => h.imp id Eq.symm, fun h => h.imp id Eq.symm⟩
                      obtain ⟨am, ham, hcm⟩ := Kd.at_int HM.out (k : Int) (by omega) (by omega)
                      rw [Int.toNat_natCast, rd_nat hk] at hcm
                      obtain ⟨y, hy⟩ : ∃ y, M[k] = y := ⟨_, rfl⟩
                      rw [hy] at hcm hin
                      have d1 := (drawn_cell hR _).trans hcm
                      have d2 := (drawn_cell hR _).trans HCX.out
                      have HIN := Lib.hid hin; have HR := Lib.hid hR
                      clear hcm hy hin hR
                      subst ham
                      cases b1
                      · have hnot := of_decide_eq_false HB1.out.symm
                        by_cases hyx : y = x
                        · have e1 : (y == x) = true := beq_iff_eq.2 hyx
                          have HE := Lib.hid hyx; have HNOT := Lib.hid hnot
                          clear hyx hnot
                          go_wp2
                          go_quiet (fail)
                          go_wp2
                          go_roundw
                          case rel => exact ⟨true, k + 1, rfl, by go_num, by omega, Lib.hid (decide_eq_true (HIN.out.2 (.inr HE.out))).symm, drawn_more HR.out _⟩
                          case measure => simp [intOf]; omega
                        · have e1 : (y == x) = false := beq_eq_false_iff_ne.2 hyx
                          have HE := Lib.hid hyx; have HNOT := Lib.hid hnot
                          clear hyx hnot
                          go_wp2
                          go_quiet (fail)
                          go_wp2
                          go_roundw
                          case rel => exact ⟨false, k + 1, rfl, by go_num, by omega, Lib.hid (decide_eq_false (fun c => (HIN.out.1 c).elim HNOT.out HE.out)).symm, drawn_more HR.out _⟩
                          case measure => simp [intOf]; omega
                      · have hyes := of_decide_eq_true HB1.out.symm
                        have HYES := Lib.hid hyes
                        clear hyes
                        go_wp2
                        go_quiet (fail)
                        go_wp2
                        go_roundw
                        case rel => exact ⟨true, k + 1, rfl, by go_num, by omega, Lib.hid (decide_eq_true (HIN.out.2 (.inl HYES.out))).symm, drawn_more HR.out _⟩
                        case measure => simp [intOf]; omega
                    · have hd5 : decide ((k : Int) < (M.length : Int)) = false := decide_eq_false (by omega)
                      have hd6 : decide (k < M.length) = false := decide_eq_false hk
                      have HXMM : Hid (b1 = decide (x ∈ M)) := Lib.hid (by rw [HB1.out, List.take_of_length_le (by omega)])
                      have HR := Lib.hid hR; have HK := Lib.hid hk
                      clear HB1 hR hk
                      cases b1
                      · have hnot := of_decide_eq_false HXMM.out.symm
                        obtain ⟨q1, q2⟩ := HD.out x (.inl HXM.out) hnot
                        obtain ⟨am, ham, hcm⟩ := Kd.at_int HM.out ((M.length : Int) - 1) (by omega) (by omega)
                        rw [show ((M.length : Int) - 1).toNat = M.length - 1 by omega] at hcm
                        have hlast : rd M ((M.length : Int) - 1) < x := by
                          rw [show (M.length : Int) - 1 = ((M.length - 1 : Nat) : Int) by omega, rd_nat (by omega)]
                          exact q2 _ (List.getElem_mem _)
                        obtain ⟨y, hy⟩ : ∃ y, rd M ((M.length : Int) - 1) = y := ⟨_, rfl⟩
                        rw [hy] at hcm hlast
                        have d1 := (drawn_cell HR.out _).trans hcm
                        have d2 := (drawn_cell HR.out _).trans HCX.out
                        have hd7 : decide ((M.length : Int) < 1024) = false := decide_eq_false (by omega)
                        have hd8 : decide (x < y) = false := decide_eq_false (by omega)
                        have hd9 : decide (M.length < 1024) = false := decide_eq_false (by omega)
                        have hge : 1024 ≤ M.length := by omega
                        clear hcm hy hnot q1 q2 hlast
                        subst ham
                        go_wp2
                        go_quiet (fail)
                        go_wp2
                        go_roundw
                        case rel => exact ⟨i + 1, by go_num, by have := HI.out; omega, drawn_more HR.out _⟩
                        case measure => have := HI.out; simp [intOf]; omega
                      · go_wp2
                        go_quiet (fail)
                        go_wp2
                        go_roundw
                        case rel => exact ⟨i + 1, by go_num, by have := HI.out; omega, drawn_more HR.out _⟩
                        case measure => have := HI.out; simp [intOf]; omega
                · have hd3 : decide ((i : Int) < (l0.length : Int)) = false := decide_eq_false (by omega)
                  have hd4 : decide (i < l0.length) = false := decide_eq_false hi
                  have HR := Lib.hid hR; have HI := Lib.hid hi
                  clear hR hi
                  go_wp2
                  go_roundw
                  case rel => exact ⟨1, by first | rfl | go_num, by simp, HR.out⟩
                  case measure => simp [intOf]

            · skip
              go_wp2
              go_loopw [12] (fun v12 wr => ∃ i : Nat, v12 = .int .i64 i ∧ i ≤ l1.length ∧ Drawn0 W0 wr) (fun vi _ => l1.length + 1 - (intOf vi).toNat)
              case atStart => exact ⟨0, rfl, Nat.zero_le _, HZ.out⟩
              case round =>
                clear HZ
                obtain ⟨i, rfl, hix, hR⟩ := hrel
                by_cases hi : i < l1.length
                · have hd3 : decide ((i : Int) < (l1.length : Int)) = true := decide_eq_true (by omega)
                  have hd4 : decide (i < l1.length) = true := decide_eq_true hi
                  obtain ⟨ax, hax, hcx⟩ := Kd.at_int HF.out (i : Int) (by omega) (by omega)
                  rw [Int.toNat_natCast, rd_nat hi] at hcx
                  obtain ⟨x, hx⟩ : ∃ x, l1[i] = x := ⟨_, rfl⟩
                  rw [hx] at hcx
                  have HCX := Lib.hid hcx
                  have HXM := Lib.hid (show x ∈ l1 from hx ▸ List.getElem_mem hi)
                  have HR := Lib.hid hR; have HI := Lib.hid hi
                  clear hcx hx hR
                  subst hax
                  go_wp2
                  go_loopw [13, 14] (fun v13 v14 wr => ∃ (b1 : Bool) (k : Nat), v13 = .bool b1 ∧ v14 = .int .i64 k ∧ k ≤ M.length ∧ Hid (b1 = decide (x ∈ M.take k)) ∧ Drawn0 W0 wr) (fun _ vi _ => M.length + 1 - (intOf vi).toNat)
                  case atStart => exact ⟨false, 0, rfl, rfl, Nat.zero_le _, Lib.hid (by simp), HR.out⟩
                  case round =>
                    clear HR
                    obtain ⟨b1, k, rfl, rfl, hkM, HB1, hR⟩ := hrel
                    by_cases hk : k < M.length
                    · have hd5 : decide ((k : Int) < (M.length : Int)) = true := decide_eq_true (by omega)
                      have hd6 : decide (k < M.length) = true := decide_eq_true hk
                      have hin : x ∈ M.take (k + 1) ↔ x ∈ M.take k ∨ M[k] = x := by
                        rw [List.take_succ_eq_append_getElem hk, List.mem_append, List.mem_singleton]
                        exact ⟨fun h => h.imp id Eq.symm, fun h => h.imp id Eq.symm⟩
                      obtain ⟨am, ham, hcm⟩ := Kd.at_int HM.out (k : Int) (by omega) (by omega)
                      rw [Int.toNat_natCast, rd_nat hk] at hcm
                      obtain ⟨y, hy⟩ : ∃ y, M[k] = y := ⟨_, rfl⟩
                      rw [hy] at hcm hin
                      have d1 := (drawn_cell hR _).trans hcm
                      have d2 := (drawn_cell hR _).trans HCX.out
                      have HIN := Lib.hid hin; have HR := Lib.hid hR
                      clear hcm hy hin hR
                      subst ham
                      cases b1
                      · have hnot := of_decide_eq_false HB1.out.symm
                        by_cases hyx : y = x
                        · have e1 : (y == x) = true := beq_iff_eq.2 hyx
                          have HE := Lib.hid hyx; have HNOT := Lib.hid hnot
                          clear hyx hnot
                          go_wp2
                          go_quiet (fail)
                          go_wp2
                          go_roundw
                          case rel => exact ⟨true, k + 1, rfl, by go_num, by omega, Lib.hid (decide_eq_true (HIN.out.2 (.inr HE.out))).symm, drawn_more HR.out _⟩
                          case measure => simp [intOf]; omega
                        · have e1 : (y == x) = false := beq_eq_false_iff_ne.2 hyx
                          have HE := Lib.hid hyx; have HNOT := Lib.hid hnot
                          clear hyx hnot
                          go_wp2
                          go_quiet (fail)
                          go_wp2
                          go_roundw
                          case rel => exact ⟨false, k + 1, rfl, by go_num, by omega, Lib.hid (decide_eq_false (fun c => (HIN.out.1 c).elim HNOT.out HE.out)).symm, drawn_more HR.out _⟩
                          case measure => simp [intOf]; omega
                      · have hyes := of_decide_eq_true HB1.out.symm
                        have HYES := Lib.hid hyes
                        clear hyes
                        go_wp2
                        go_quiet (fail)
                        go_wp2
                        go_roundw
                        case rel => exact ⟨true, k + 1, rfl, by go_num, by omega, Lib.hid (decide_eq_true (HIN.out.2 (.inl HYES.out))).symm, drawn_more HR.out _⟩
                        case measure => simp [intOf]; omega
                    · have hd5 : decide ((k : Int) < (M.length : Int)) = false := decide_eq_false (by omega)
                      have hd6 : decide (k < M.length) = false := decide_eq_false hk
                      have HXMM : Hid (b1 = decide (x ∈ M)) := Lib.hid (by rw [HB1.out, List.take_of_length_le (by omega)])
                      have HR := Lib.hid hR; have HK := Lib.hid hk
                      clear HB1 hR hk
                      cases b1
                      · have hnot := of_decide_eq_false HXMM.out.symm
                        obtain ⟨q1, q2⟩ := HD.out x (.inr HXM.out) hnot
                        obtain ⟨am, ham, hcm⟩ := Kd.at_int HM.out ((M.length : Int) - 1) (by omega) (by omega)
                        rw [show ((M.length : Int) - 1).toNat = M.length - 1 by omega] at hcm
                        have hlast : rd M ((M.length : Int) - 1) < x := by
                          rw [show (M.length : Int) - 1 = ((M.length - 1 : Nat) : Int) by omega, rd_nat (by omega)]
                          exact q2 _ (List.getElem_mem _)
                        obtain ⟨y, hy⟩ : ∃ y, rd M ((M.length : Int) - 1) = y := ⟨_, rfl⟩
                        rw [hy] at hcm hlast
                        have d1 := (drawn_cell HR.out _).trans hcm
                        have d2 := (drawn_cell HR.out _).trans HCX.out
                        have hd7 : decide ((M.length : Int) < 1024) = false := decide_eq_false (by omega)
                        have hd8 : decide (x < y) = false := decide_eq_false (by omega)
                        have hd9 : decide (M.length < 1024) = false := decide_eq_false (by omega)
                        have hge : 1024 ≤ M.length := by omega
                        clear hcm hy hnot q1 q2 hlast
                        subst ham
                        go_wp2
                        go_quiet (fail)
                        go_wp2
                        go_roundw
                        case rel => exact ⟨i + 1, by go_num, by have := HI.out; omega, drawn_more HR.out _⟩
                        case measure => have := HI.out; simp [intOf]; omega
                      · go_wp2
                        go_quiet (fail)
                        go_wp2
                        go_roundw
                        case rel => exact ⟨i + 1, by go_num, by have := HI.out; omega, drawn_more HR.out _⟩
                        case measure => have := HI.out; simp [intOf]; omega
                · have hd3 : decide ((i : Int) < (l1.length : Int)) = false := decide_eq_false (by omega)
                  have hd4 : decide (i < l1.length) = false := decide_eq_false hi
                  have HR := Lib.hid hR; have HI := Lib.hid hi
                  clear hR hi
                  go_wp2
                  go_roundw
                  case rel => exact ⟨2, by first | rfl | go_num, by simp, HR.out⟩
                  case measure => simp [intOf]

            · have hd7 : decide ((M.length : Int) ≤ 1024) = true := decide_eq_true (by omega)
              go_wp2_with (go_at_call 25; refine (awake_u _).mono ?_; rintro e w9 ⟨rfl, hb⟩)
              go_ret
              exact ⟨rfl, (HB.out.trans (HZ.out.below.mono HB.out.size)).trans (hb.mono (Nat.le_trans HB.out.size HZ.out.below.size))⟩
theorem KmvLeast_walk (A0 : Option Addr) (c0 : Nat) (l0 : List Int) (A1 : Option Addr) (c1 : Nat) (l1 : List Int) (w : World) (C0 : Kd.C (Kd.int .u64) w A0 l0.length l0) (_ : l0.length ≤ c0) (w0 : WU l0) (C1 : Kd.C (Kd.int .u64) w A1 l1.length l1) (m1 : l1.length ≤ c1) (w1 : WU l1) :
    Calls Try.prog 8 #[.slice A0 l0.length c0, .slice A1 l1.length c1] w fun e w' => e = .returned (.bool true) ∧ Below w.heap.size w w' := by
  by_cases h : l0.length ≤ 100 ∧ KOk l1
  · exact Least_yes A0 A1 c0 c1 l0 l1 w C0 C1 m1 w0 w1 h.1 h.2
  · exact Least_no A0 A1 c0 c1 l0 l1 w C1 m1 w0 w1 h
end Go.Proofs.Ytpjchgiemmnikaa.Pure
