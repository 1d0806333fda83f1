/- For every list of things and places: of fewer than 1024 unlike things the number is told exactly, however often each comes. No condition. -/
import Derived.Test.YtpjchgiemmnikaaPureKmvMany
namespace Go.Proofs.Ytpjchgiemmnikaa
set_option linter.unusedVariables false
set_option linter.unusedSimpArgs false
open Go.RowKit Go.Maps Go.Proofs.YtpjchgiemmnikaaW.PrintWords Go.Proofs.YtpjchgiemmnikaaW.PrintLast Go.Proofs.YtpjchgiemmnikaaW.PrintMore Go.Proofs.Ytpjchgiemmnikaa.Pure Go.Proofs.Ytpjchgiemmnikaa.Q

/-- How a list of things, and one of places, is read. -/
def Pure.WS (l : List ByteArray) : Prop := l.length * 16 ≤ 140737488351232 ∧ l.length ≤ 9223372036854775807 ∧ ∀ x ∈ l, x.size ≤ 140737488351232
theorem opens28 : Opens Try.prog 28 (Kd.slice 9 Kd.string) Pure.WS := opens_slice Try.underlying28 (by kernel_rfl) (by kernel_rfl) (opens_string Try.underlying9)
def Pure.WI (l : List Int) : Prop := l.length * 8 ≤ 140737488351232 ∧ l.length ≤ 9223372036854775807 ∧ ∀ x ∈ l, (Lit.int .i64 x).wf = true
theorem opens29 : Opens Try.prog 29 (Kd.slice 3 (Kd.int .i64)) Pure.WI := opens_slice Try.underlying29 (by kernel_rfl) (by kernel_rfl) (opens_int Try.underlying3)
theorem KS.grown {w0 W W' : World} {m : List (Nat × Nat × List Int)} (h : KS w0 W m) {row : Option Nat} (hg : W.grownBy W' row) (hB : Below w0.heap.size w0 W') (hr : ∀ q, some q = row → ∀ p ∈ m, q ≠ p.1 ∧ q ≠ p.2.1) : KS w0 W' m :=
  ⟨fun p hp => ⟨(h.1 p hp).1.block (hg.block _ (h.1 p hp).1.lt.1 (fun e => (hr _ e p hp).1 rfl)) (hg.block _ (h.1 p hp).1.lt.2 (fun e => (hr _ e p hp).2 rfl)), (h.1 p hp).2⟩, h.2.1, hB⟩
theorem KS.grown1 {w0 W W' : World} {k b : Nat} {s : List Int} (h : KS w0 W [(k, b, s)]) {row : Option Nat} (hg : W.grownBy W' row) (hB : Below w0.heap.size w0 W') (hr : ∀ q, row = some q → q ≠ k ∧ q ≠ b) : KS w0 W' [(k, b, s)] :=
  h.grown hg hB fun q e p hp => by
    rw [List.mem_singleton] at hp
    subst hp
    exact hr q e.symm
theorem Place_at (n m : Int) (h0 : 0 < m) (hm : m ≤ 1000000000) : ∃ k : Nat, varvelaw00_Place.f n m = some (k : Int) ∧ (k : Int) < m := by
  have e := Int.mul_tdiv_add_tmod n m
  have l1 := Int.tmod_lt_of_pos n h0
  have l2 : -m < Int.tmod n m := Int.lt_tmod_of_pos n (by omega)
  unfold varvelaw00_Place.f
  rw [if_neg (by omega)]
  by_cases c : Int.tmod n m < 0
  · rw [if_pos c]
    refine ⟨(Int.tmod n m + m).toNat, ?_, by omega⟩
    rw [show wrap64 (Int.tmod n m + m) = Int.tmod n m + m from by unfold wrap64; omega]
    congr 1; omega
  · rw [if_neg c]
    exact ⟨(Int.tmod n m).toNat, by congr 1; omega, by omega⟩
/-- One thing more: known, or not. -/
theorem few_step {S T : List Int} {u : Int} (hg : KGood S) (hm : ∀ x, x ∈ T ↔ x ∈ S) (hn : T.Nodup) (_ : 0 ≤ u ∧ u < 18446744073709551616) (hT : T.length ≤ 600) :
    (u ∈ T → ∀ x, x ∈ T ↔ x ∈ khash S u) ∧ (u ∉ T → (T ++ [u]).Nodup ∧ ∀ x, x ∈ T ++ [u] ↔ x ∈ khash S u) := by
  have hl : S.length ≤ T.length := nodup_le (asc_nodup hg.1) fun x hx => (hm x).2 hx
  refine ⟨fun hu => ?_, fun hu => ⟨?_, fun x => ?_⟩⟩
  · rw [khash_in hg.1 hg.2.1 ((hm u).1 hu)]; exact hm
  · exact List.nodup_append.2 ⟨hn, by simp, fun a ha b hb c => by simp at hb; subst hb; subst c; exact hu ha⟩
  · have hu' : u ∉ S := fun c => hu ((hm u).2 c)
    rw [khash_new hg.1 (by omega) hu', mem_kins, List.mem_append, List.mem_singleton, hm]
    exact Or.comm
theorem rdOf_nat {l : List ByteArray} {j : Nat} (h : j < l.length) : rdOf ByteArray.empty l (j : Int) = l[j] := by
  simp [rdOf, List.getD, List.getElem?_eq_getElem h]

set_option maxHeartbeats 1000000 in
theorem Few_no (A0 A1 : Option Addr) (n0 n1 c0 c1 : Nat) (w : World) (l0 : n0 ≤ 17592186043904) (l1 : n1 ≤ 17592186043904) (hn : ¬ (n0 ≤ 300 ∧ n1 ≤ 300)) :
    Calls Try.prog 4 #[.slice A0 n0 c0, .slice A1 n1 c1] w fun e w' => e = .returned (.bool true) ∧ Below w.heap.size w w' := by
  by_cases h : n0 ≤ 300
  · have h1 : decide ((300 : Int) < (n0 : Int)) = false := decide_eq_false (by omega)
    have h2 : decide ((300 : Int) < (n1 : Int)) = true := decide_eq_true (by omega)
    clear hn
    go_enter Try.func4, Try.ntmps4
    go_wp2_with (first
      | (go_at_call 26; refine (new_u w).mono ?_; rintro e w1 ⟨kb, mb, rfl, _, _, _, hb1⟩)
      | (go_at_call 25; refine (awake_u _).mono ?_; rintro e w2 ⟨rfl, hb⟩; have hb2 := hb1.trans (hb.mono hb1.size); clear hb1 hb))
    go_ret
    exact ⟨rfl, hb2⟩
  · have h1 : decide ((300 : Int) < (n0 : Int)) = true := decide_eq_true (by omega)
    clear hn
    go_enter Try.func4, Try.ntmps4
    go_wp2_with (first
      | (go_at_call 26; refine (new_u w).mono ?_; rintro e w1 ⟨kb, mb, rfl, _, _, _, hb1⟩)
      | (go_at_call 25; refine (awake_u _).mono ?_; rintro e w2 ⟨rfl, hb⟩; have hb2 := hb1.trans (hb.mono hb1.size); clear hb1 hb))
    go_ret
    exact ⟨rfl, hb2⟩
set_option maxHeartbeats 4000000 in
set_option maxRecDepth 100000 in
theorem Few_yes (A0 A1 : Option Addr) (c0 c1 : Nat) (l0 : List ByteArray) (l1 : List Int) (w : World) (C0 : Kd.C Kd.string w A0 l0.length l0) (C1 : Kd.C (Kd.int .i64) w A1 l1.length l1) (w0 : Pure.WS l0) (h0 : l0.length ≤ 300) (h1 : l1.length ≤ 300) :
    Calls Try.prog 4 #[.slice A0 l0.length c0, .slice A1 l1.length c1] w fun e w' => e = .returned (.bool true) ∧ Below w.heap.size w w' := by
  have d1 : decide ((300 : Int) < (l0.length : Int)) = false := decide_eq_false (by omega)
  have d2 : decide ((300 : Int) < (l1.length : Int)) = false := decide_eq_false (by omega)
  have HC0 := Lib.hid C0; have HC1 := Lib.hid C1; have HW0 := Lib.hid w0.2.2
  have hS0 := KS.nil w
  clear C0 C1 w0
  go_enter Try.func4, Try.ntmps4
  go_wp2_with (go_at_call 26; refine hS0.new.mono ?_; rintro e w1 ⟨k, b, rfl, hS1, hb⟩; clear hS0 hb)
  go_loopw [6, 7] (fun v6 v7 wr => ∃ (i : Nat) (S T : List Int), v7 = .int .i64 i ∧ i ≤ l0.length + l1.length ∧ KS w wr [(k, b, S)] ∧ (Kd.int .u64).R 25 wr w.heap.size (fun q => q ≠ k ∧ q ≠ b) v6 T ∧ T.Nodup ∧ (∀ x, x ∈ T ↔ x ∈ S) ∧ T.length ≤ i) (fun _ i _ => l0.length + l1.length - (intOf i).toNat)
  case atStart => exact ⟨0, [], [], rfl, Nat.zero_le _, hS1, Kd.R_nil _ _ _ _ _, List.nodup_nil, fun _ => Iff.rfl, Nat.le_refl _⟩
  case round =>
    clear hS1
    obtain ⟨i, S, T, rfl, hi, hS, hR, hnd, hTS, hTi⟩ := hrel
    obtain ⟨A, c, rfl, hcT, hCT⟩ := Kd.R_reads hR
    have HND := Lib.hid hnd; have HTS := Lib.hid hTS
    have HG := Lib.hid (hS.at_ 0 rfl).1.good
    clear hnd hTS hCT
    by_cases hc : i < l0.length + l1.length ∧ 0 < l0.length
    · obtain ⟨hc1, hc2⟩ := hc
      have e1 : decide ((i : Int) < (l0.length : Int) + (l1.length : Int)) = true := decide_eq_true (by omega)
      have e2 : decide (0 < l0.length) = true := decide_eq_true hc2
      have e3 : decide ((0 : Int) < (l0.length : Int)) = true := decide_eq_true (by omega)
      have HI := Lib.hid hc1
      obtain ⟨ad, rfl, q0⟩ := Kd.at_string HC0.out 0 (by omega) (by omega)
      rw [add0_] at q0
      replace q0 := (hS.bel.cell (World.block_lt_of_cell? w _ q0)).trans q0
      by_cases h2 : i < l0.length
      · have e4 : decide ((i : Int) < (l0.length : Int)) = true := decide_eq_true (by omega)
        have e5 : decide (i < l0.length) = true := decide_eq_true h2
        obtain ⟨ad', e', q1⟩ := Kd.at_string HC0.out (i : Int) (by omega) (by omega)
        obtain rfl : ad = ad' := by injection e'
        rw [Int.toNat_natCast, rdOf_nat h2] at q1
        replace q1 := (hS.bel.cell (World.block_lt_of_cell? w _ q1)).trans q1
        have hsz := HW0.out l0[i] (by simp)
        obtain ⟨s, hs⟩ : ∃ s, l0[i] = s := ⟨_, rfl⟩
        rw [hs] at q1 hsz
        obtain ⟨fn, u, hf1, hf2, hu⟩ := fnv_all s (by have : maxLen = 9223372036854775807 := rfl; omega)
        have HF1 := Lib.hid hf1; have HF2 := Lib.hid hf2; have HU := Lib.hid hu
        clear hs e' hf1 hf2 hu
        go_wp2_with (first
          | (go_at_call 28; refine (hS.add 0 rfl HF1.out HU.out).mono ?_; rintro e w5 ⟨rfl, hS5, hf⟩; have hR5 := Kd.R_step hR (fun q hq hlt => hf.2.2.2.2 q hlt hq.1 hq.2); clear hS hR hf)
          | (go_at_call 29; refine (varveref06_Of.calls _ _ _ _ HF2.out).mono ?_; rintro e w6 ⟨rfl, hd⟩; have hS6 := hS5.drawn hd; have hR6 := Kd.R_below hR5 hd.below; clear hS5 hR5 hd))
        have hC6 := (Kd.R_reads' hR6).2.2
        have hgS := (hS6.at_ 0 rfl).1.good
        have HC6 := Lib.hid hC6; have HS6 := Lib.hid hS6; have HR6 := Lib.hid hR6
        clear hC6 hS6 hR6 hgS
        go_loopw [10, 11] (fun v10 v11 wr => ∃ (b1 : Bool) (j : Nat), v10 = .bool b1 ∧ v11 = .int .i64 j ∧ j ≤ T.length ∧ Hid (b1 = decide (u ∈ T.take j)) ∧ w6 = wr) (fun _ vi _ => T.length + 1 - (intOf vi).toNat)
        case atStart => exact ⟨false, 0, rfl, rfl, Nat.zero_le _, Lib.hid (by simp), rfl⟩
        case round =>
          obtain ⟨b1, j, rfl, rfl, hjT, HB1, rfl⟩ := hrel
          by_cases hj : j < T.length
          · have hd5 : decide ((j : Int) < (T.length : Int)) = true := decide_eq_true (by omega)
            have hd6 : decide (j < T.length) = true := decide_eq_true hj
            have hin : u ∈ T.take (j + 1) ↔ u ∈ T.take j ∨ T[j] = u := by
              rw [List.take_succ_eq_append_getElem hj, List.mem_append, List.mem_singleton]
              exact ⟨fun h => h.imp id Eq.symm, fun h => h.imp id Eq.symm⟩
            obtain ⟨am, ham, hcm⟩ := Kd.at_int HC6.out (j : Int) (by omega) (by omega)
            rw [Int.toNat_natCast, rd_nat hj] at hcm
            obtain ⟨y, hy⟩ : ∃ y, T[j] = y := ⟨_, rfl⟩
            rw [hy] at hcm hin
            have HIN := Lib.hid hin
            clear hy hin
            subst ham
            cases b1
            · have hnot := of_decide_eq_false HB1.out.symm
              by_cases hyx : y = u
              · have e1 : (y == u) = true := beq_iff_eq.2 hyx
                have HE := Lib.hid hyx
                clear hyx hnot
                go_wp2
                go_roundw
                case rel => exact ⟨true, j + 1, rfl, by go_num, by omega, Lib.hid (decide_eq_true (HIN.out.2 (.inr HE.out))).symm, by first | rfl | trivial⟩
                case measure => simp [intOf]; omega
              · have e1 : (y == u) = false := beq_eq_false_iff_ne.2 hyx
                have HE := Lib.hid hyx; have HNOT := Lib.hid hnot
                clear hyx hnot
                go_wp2
                go_roundw
                case rel => exact ⟨false, j + 1, rfl, by go_num, by omega, Lib.hid (decide_eq_false (fun c => (HIN.out.1 c).elim HNOT.out HE.out)).symm, by first | rfl | trivial⟩
                case measure => simp [intOf]; omega
            · have hyes := of_decide_eq_true HB1.out.symm
              have HYES := Lib.hid hyes
              clear hyes
              go_wp2
              go_roundw
              case rel => exact ⟨true, j + 1, rfl, by go_num, by omega, Lib.hid (decide_eq_true (HIN.out.2 (.inl HYES.out))).symm, by first | rfl | trivial⟩
              case measure => simp [intOf]; omega
          · have hd5 : decide ((j : Int) < (T.length : Int)) = false := decide_eq_false (by omega)
            have hd6 : decide (j < T.length) = false := decide_eq_false hj
            have HT : Hid (b1 = decide (u ∈ T)) := Lib.hid (by rw [HB1.out, List.take_of_length_le (by omega)])
            have HJ := Lib.hid hj
            clear HB1 hj hjT
            have FR := few_step HG.out HTS.out HND.out HU.out (by omega : T.length ≤ 600)
            cases b1
            · have hnot := of_decide_eq_false HT.out.symm
              obtain ⟨f1, f2⟩ := FR.2 hnot
              have F1 := Lib.hid f1; have F2 := Lib.hid f2
              have hR7 := HR6.out
              have hok := hR7.1
              have hbb := HS6.out.bel
              have hlt7 := (HS6.out.at_ 0 rfl).1.lt
              have HOK := Lib.hid hok
              clear FR hnot f1 f2 hok
              go_wp2_with ((with_reducible refine gate_builtin (b := .append) (xs := #[.tmp 90, .tmp 92]) rfl ?_); at_builtin; refine Kd.R_append (Kd.int .u64) (w0 := w) (W := w6) w.heap.size rfl (.tmp 90) (.tmp 92) 22 25 (.int .u64 0) 8 rfl Try.underlying22 info25 rfl (by decide) (by omega) (.slice A T.length c) T u [.int .u64 u] (fun q => q ≠ k ∧ q ≠ b) (fun _ => False) rfl rfl rfl (fun _ hk => hk.elim) (fun q hq => by omega) hR7 hbb hbb.size (by omega) ?_; intro v2 w2 ho2 hb2 hg2 hat2)
              have hS8 := KS.grown1 HS6.out hg2 hb2 (fun q hq => HOK.out q hq)
              go_roundw
              case rel => exact ⟨i + 1, khash S u, T ++ [u], by go_num, by have := HI.out; omega, hS8, ho2, F1.out, F2.out, by rw [List.length_append, List.length_singleton]; omega⟩
              case measure => have := HI.out; simp [intOf]; omega
            · have hyes := of_decide_eq_true HT.out.symm
              have f1 := FR.1 hyes
              have hS8 := HS6.out
              have HF3 := Lib.hid f1
              have HS8 := Lib.hid hS8
              clear FR hyes f1 hS8
              go_wp2
              go_roundw
              case rel => exact ⟨i + 1, khash S u, T, by go_num, by have := HI.out; omega, HS8.out, HR6.out, HND.out, HF3.out, by omega⟩
              case measure => have := HI.out; simp [intOf]; omega
      · have e4 : decide ((i : Int) < (l0.length : Int)) = false := decide_eq_false (by omega)
        have e5 : decide (i < l0.length) = false := decide_eq_false h2
        obtain ⟨ag, rfl, q2⟩ := Kd.at_int HC1.out ((i : Int) - (l0.length : Int)) (by omega) (by omega)
        rw [show ((i : Int) - (l0.length : Int)).toNat = i - l0.length by omega] at q2
        replace q2 := (hS.bel.cell (World.block_lt_of_cell? w _ q2)).trans q2
        generalize rd l1 ((i : Int) - (l0.length : Int)) = a at q2
        obtain ⟨p, hp, hp1⟩ := Place_at a (l0.length : Int) (by omega) (by omega)
        have hp2 : p < l0.length := by omega
        have PL := fun W => varvelaw00_Place.calls a (l0.length : Int) (p : Int) W hp
        obtain ⟨ad', e', q1⟩ := Kd.at_string HC0.out (p : Int) (by omega) (by omega)
        obtain rfl : ad = ad' := by injection e'
        rw [Int.toNat_natCast, rdOf_nat hp2] at q1
        replace q1 := (hS.bel.cell (World.block_lt_of_cell? w _ q1)).trans q1
        have hsz := HW0.out l0[p] (by simp)
        obtain ⟨s, hs⟩ : ∃ s, l0[p] = s := ⟨_, rfl⟩
        rw [hs] at q1 hsz
        obtain ⟨fn, u, hf1, hf2, hu⟩ := fnv_all s (by have : maxLen = 9223372036854775807 := rfl; omega)
        have HF1 := Lib.hid hf1; have HF2 := Lib.hid hf2; have HU := Lib.hid hu
        clear hs e' hf1 hf2 hu hp
        go_wp2_with (first
          | (go_at_call 27; refine (PL _).mono ?_; rintro e w51 ⟨rfl, hd⟩; replace hS := hS.drawn hd; replace hR := Kd.R_below hR hd.below; obtain ⟨nd, rfl⟩ := hd; clear PL)
          | (go_at_call 28; refine (hS.add 0 rfl HF1.out HU.out).mono ?_; rintro e w5 ⟨rfl, hS5, hf⟩; have hR5 := Kd.R_step hR (fun q hq hlt => hf.2.2.2.2 q hlt hq.1 hq.2); clear hS hR hf)
          | (go_at_call 29; refine (varveref06_Of.calls _ _ _ _ HF2.out).mono ?_; rintro e w6 ⟨rfl, hd⟩; have hS6 := hS5.drawn hd; have hR6 := Kd.R_below hR5 hd.below; clear hS5 hR5 hd))
        have hC6 := (Kd.R_reads' hR6).2.2
        have hgS := (hS6.at_ 0 rfl).1.good
        have HC6 := Lib.hid hC6; have HS6 := Lib.hid hS6; have HR6 := Lib.hid hR6
        clear hC6 hS6 hR6 hgS
        go_loopw [10, 11] (fun v10 v11 wr => ∃ (b1 : Bool) (j : Nat), v10 = .bool b1 ∧ v11 = .int .i64 j ∧ j ≤ T.length ∧ Hid (b1 = decide (u ∈ T.take j)) ∧ w6 = wr) (fun _ vi _ => T.length + 1 - (intOf vi).toNat)
        case atStart => exact ⟨false, 0, rfl, rfl, Nat.zero_le _, Lib.hid (by simp), rfl⟩
        case round =>
          obtain ⟨b1, j, rfl, rfl, hjT, HB1, rfl⟩ := hrel
          by_cases hj : j < T.length
          · have hd5 : decide ((j : Int) < (T.length : Int)) = true := decide_eq_true (by omega)
            have hd6 : decide (j < T.length) = true := decide_eq_true hj
            have hin : u ∈ T.take (j + 1) ↔ u ∈ T.take j ∨ T[j] = u := by
              rw [List.take_succ_eq_append_getElem hj, List.mem_append, List.mem_singleton]
              exact ⟨fun h => h.imp id Eq.symm, fun h => h.imp id Eq.symm⟩
            obtain ⟨am, ham, hcm⟩ := Kd.at_int HC6.out (j : Int) (by omega) (by omega)
            rw [Int.toNat_natCast, rd_nat hj] at hcm
            obtain ⟨y, hy⟩ : ∃ y, T[j] = y := ⟨_, rfl⟩
            rw [hy] at hcm hin
            have HIN := Lib.hid hin
            clear hy hin
            subst ham
            cases b1
            · have hnot := of_decide_eq_false HB1.out.symm
              by_cases hyx : y = u
              · have e1 : (y == u) = true := beq_iff_eq.2 hyx
                have HE := Lib.hid hyx
                clear hyx hnot
                go_wp2
                go_roundw
                case rel => exact ⟨true, j + 1, rfl, by go_num, by omega, Lib.hid (decide_eq_true (HIN.out.2 (.inr HE.out))).symm, by first | rfl | trivial⟩
                case measure => simp [intOf]; omega
              · have e1 : (y == u) = false := beq_eq_false_iff_ne.2 hyx
                have HE := Lib.hid hyx; have HNOT := Lib.hid hnot
                clear hyx hnot
                go_wp2
                go_roundw
                case rel => exact ⟨false, j + 1, rfl, by go_num, by omega, Lib.hid (decide_eq_false (fun c => (HIN.out.1 c).elim HNOT.out HE.out)).symm, by first | rfl | trivial⟩
                case measure => simp [intOf]; omega
            · have hyes := of_decide_eq_true HB1.out.symm
              have HYES := Lib.hid hyes
              clear hyes
              go_wp2
              go_roundw
              case rel => exact ⟨true, j + 1, rfl, by go_num, by omega, Lib.hid (decide_eq_true (HIN.out.2 (.inl HYES.out))).symm, by first | rfl | trivial⟩
              case measure => simp [intOf]; omega
          · have hd5 : decide ((j : Int) < (T.length : Int)) = false := decide_eq_false (by omega)
            have hd6 : decide (j < T.length) = false := decide_eq_false hj
            have HT : Hid (b1 = decide (u ∈ T)) := Lib.hid (by rw [HB1.out, List.take_of_length_le (by omega)])
            have HJ := Lib.hid hj
            clear HB1 hj hjT
            have FR := few_step HG.out HTS.out HND.out HU.out (by omega : T.length ≤ 600)
            cases b1
            · have hnot := of_decide_eq_false HT.out.symm
              obtain ⟨f1, f2⟩ := FR.2 hnot
              have F1 := Lib.hid f1; have F2 := Lib.hid f2
              have hR7 := HR6.out
              have hok := hR7.1
              have hbb := HS6.out.bel
              have hlt7 := (HS6.out.at_ 0 rfl).1.lt
              have HOK := Lib.hid hok
              clear FR hnot f1 f2 hok
              go_wp2_with ((with_reducible refine gate_builtin (b := .append) (xs := #[.tmp 90, .tmp 92]) rfl ?_); at_builtin; refine Kd.R_append (Kd.int .u64) (w0 := w) (W := w6) w.heap.size rfl (.tmp 90) (.tmp 92) 22 25 (.int .u64 0) 8 rfl Try.underlying22 info25 rfl (by decide) (by omega) (.slice A T.length c) T u [.int .u64 u] (fun q => q ≠ k ∧ q ≠ b) (fun _ => False) rfl rfl rfl (fun _ hk => hk.elim) (fun q hq => by omega) hR7 hbb hbb.size (by omega) ?_; intro v2 w2 ho2 hb2 hg2 hat2)
              have hS8 := KS.grown1 HS6.out hg2 hb2 (fun q hq => HOK.out q hq)
              go_roundw
              case rel => exact ⟨i + 1, khash S u, T ++ [u], by go_num, by have := HI.out; omega, hS8, ho2, F1.out, F2.out, by rw [List.length_append, List.length_singleton]; omega⟩
              case measure => have := HI.out; simp [intOf]; omega
            · have hyes := of_decide_eq_true HT.out.symm
              have f1 := FR.1 hyes
              have hS8 := HS6.out
              have HF3 := Lib.hid f1
              have HS8 := Lib.hid hS8
              clear FR hyes f1 hS8
              go_wp2
              go_roundw
              case rel => exact ⟨i + 1, khash S u, T, by go_num, by have := HI.out; omega, HS8.out, HR6.out, HND.out, HF3.out, by omega⟩
              case measure => have := HI.out; simp [intOf]; omega
    · have hend : decide ((i : Int) < (l0.length : Int) + (l1.length : Int)) = false ∨ (decide ((i : Int) < (l0.length : Int) + (l1.length : Int)) = true ∧ decide (0 < l0.length) = false) := by
        by_cases c : i < l0.length + l1.length
        · exact .inr ⟨decide_eq_true (by omega), decide_eq_false (fun h => hc ⟨c, h⟩)⟩
        · exact .inl (decide_eq_false (by omega))
      have hl : S.length = T.length := by
        have a1 := nodup_le (asc_nodup HG.out.1) fun x hx => (HTS.out x).2 hx
        have a2 := nodup_le HND.out fun x hx => (HTS.out x).1 hx
        omega
      have D := hS.dist 0 rfl
      rw [kdist_few HG.out (by omega), hl] at D
      have e6 : IntKind.u64.wrap (T.length : Int) = (T.length : Int) := by rw [IntKind.wrap_u64]; omega
      have HCC := Lib.hid hc
      clear hl hc hS hR
      rcases hend with e1 | ⟨e1, e2⟩
      all_goals
        go_wp2_with (first
          | (go_at_call 30; refine D.mono ?_; rintro e w8 ⟨rfl, hS8, hb⟩; clear D hb)
          | (go_at_call 25; refine (awake_u _).mono ?_; rintro e w9 ⟨rfl, hb⟩; have hS9 := hS8.below hb; clear hS8 hb))
        go_ret
        exact ⟨rfl, hS9.bel⟩
theorem Pure.KmvFew_walk (A0 : Option Addr) (c0 : Nat) (l0 : List ByteArray) (A1 : Option Addr) (c1 : Nat) (l1 : List Int) (w : World) (C0 : Kd.C Kd.string w A0 l0.length l0) (_ : l0.length ≤ c0) (w0 : Pure.WS l0) (C1 : Kd.C (Kd.int .i64) w A1 l1.length l1) (_ : l1.length ≤ c1) (w1 : Pure.WI l1) :
    Calls Try.prog 4 #[.slice A0 l0.length c0, .slice A1 l1.length c1] w fun e w' => e = .returned (.bool true) ∧ Below w.heap.size w w' := by
  by_cases h : l0.length ≤ 300 ∧ l1.length ≤ 300
  · exact Few_yes A0 A1 c0 c1 l0 l1 w C0 C1 w0 h.1 h.2
  · exact Few_no A0 A1 _ _ c0 c1 w (by have := w0.1; omega) (by have := w1.1; omega) h
end Go.Proofs.Ytpjchgiemmnikaa
