/- (*kmv.Kmv).Merge and kmv.From by walks over their Go text. -/
import Derived.Test.YtpjchgiemmnikaaKNums
namespace Go.Proofs.Ytpjchgiemmnikaa
set_option linter.unusedVariables false
set_option linter.unusedSimpArgs false
open Go.RowKit Go.Maps Go.Proofs.YtpjchgiemmnikaaW.PrintWords Go.Proofs.Ytpjchgiemmnikaa.Pure

theorem cell_lt {w : World} {p : Addr} {v : Value} (h : w.cell? p = some v) : p.block < w.heap.size := by
  by_cases c : p.block < w.heap.size
  · exact c
  · have e : w.heap[p.block]? = none := Array.getElem?_eq_none (by omega)
    unfold World.cell? at h
    rw [e] at h
    cases h
theorem KM.drewN {w : World} {kb mb : Nat} {S : List Int} (h : KM w kb mb S) (n : Nat) : KM (w.drewN n) kb mb S := h.block rfl rfl
theorem KF.drewN (w : World) (kb mb n : Nat) : KF w (w.drewN n) kb mb := ⟨rfl, rfl, rfl, Nat.le_refl _, fun _ _ _ _ => rfl⟩

set_option maxHeartbeats 1000000 in
theorem merge_bad (kb : Nat) (A : Option Addr) (c : Nat) (l : List Int) (w : World) (h : Kd.C (Kd.int .u64) w A l.length l) (hL : l.length < 4611686018427387904) (hn : ¬ KOk l) :
    Calls Try.prog 37 #[.pointer (some ⟨kb, 0, none⟩), .slice A l.length c] w fun e w' => e = .returned (.int .i64 5) ∧ ∃ n, w' = w.drewN n := by
  have C : Calls Try.prog 20 #[.slice A l.length c] w fun e w' => e = .returned (.bool false) ∧ ∃ n, w' = w.drewN n :=
    (check_u A c l w h hL).mono fun e w' ⟨r, he, hr, hw⟩ => ⟨by cases r; exact he; exact absurd (hr.1 rfl) hn, hw⟩
  clear h hn
  go_enter Try.func37, Try.ntmps37
  go_wp2_with (go_at_call 20; refine C.mono ?_; rintro e w1 ⟨rfl, n, rfl⟩; clear C)
  go_ret
  exact ⟨rfl, n, rfl⟩

set_option maxHeartbeats 1000000 in
theorem merge_u (kb mb : Nat) (S : List Int) (A : Option Addr) (c : Nat) (l : List Int) (w : World) (hk : KM w kb mb S) (h : Kd.C (Kd.int .u64) w A l.length l) (hA : ∀ ad, A = some ad → 0 < l.length → ad.block ≠ kb ∧ ad.block ≠ mb)
    (hr : ∀ x ∈ l, 0 ≤ x ∧ x < 18446744073709551616) (hok : KOk l) :
    Calls Try.prog 37 #[.pointer (some ⟨kb, 0, none⟩), .slice A l.length c] w fun e w' => e = .returned (.int .i64 0) ∧ KM w' kb mb (kmany S l) ∧ KF w w' kb mb := by
  have hL := hok.2
  have C : Calls Try.prog 20 #[.slice A l.length c] w fun e w' => e = .returned (.bool true) ∧ ∃ n, w' = w.drewN n :=
    (check_u A c l w h (by omega)).mono fun e w' ⟨r, he, hr, hw⟩ => ⟨by cases r; exact absurd (hr.2 hok) (by simp); exact he, hw⟩
  have HK := Lib.hid hk; have H := Lib.hid h; have HA := Lib.hid hA; have HR := Lib.hid hr
  clear hk h hA hr hok
  go_enter Try.func37, Try.ntmps37
  go_wp2_with (go_at_call 20; refine C.mono ?_; rintro e w1 ⟨rfl, n, hw⟩; clear C; have HW := Lib.hid hw; clear hw)
  go_loopw [16] (fun vi wr => ∃ i : Nat, vi = .int .i64 i ∧ i ≤ l.length ∧ KM wr kb mb (kmany S (l.take i)) ∧ KF w wr kb mb) (fun vi _ => l.length - (intOf vi).toNat)
  case atStart => exact ⟨0, rfl, Nat.zero_le _, by rw [HW.out]; exact HK.out.drewN n, by rw [HW.out]; exact KF.drewN _ _ _ _⟩
  case round =>
    obtain ⟨i, rfl, hil, hK, hF⟩ := hrel
    have HF := Lib.hid hF
    clear hF
    by_cases hi : i < l.length
    · obtain ⟨ad, rfl, hc1⟩ := Kd.at_int H.out (i : Int) (by omega) (by omega)
      rw [Int.toNat_natCast, rd_nat hi] at hc1
      obtain ⟨a2, a3⟩ := HA.out ad rfl (by omega)
      have eb : (ad.add i).block = ad.block := by unfold Addr.add; split <;> rfl
      have a1 : ad.block < w.heap.size := by rw [← eb]; exact cell_lt hc1
      have d1 : wr.cell? (ad.add i) = some (.int .u64 l[i]) := by
        exact (show wr.cell? (ad.add i) = w.cell? (ad.add i) from World.cell?_of_block (HF.out.2.2.2.2 (ad.add i).block (by rw [eb]; exact a1) (by rw [eb]; exact a2) (by rw [eb]; exact a3))).trans hc1
      obtain ⟨x, hx⟩ : ∃ x, l[i] = x := ⟨_, rfl⟩
      have hx0 := HR.out l[i] (by simp)
      have ek : kmany S (l.take (i + 1)) = khash (kmany S (l.take i)) x := by rw [← hx, ← kmany_snoc, List.take_succ_eq_append_getElem hi]
      rw [hx] at d1 hx0
      have C := hash_u kb mb (kmany S (l.take i)) x hx0 wr hK
      have EK := Lib.hid ek
      have hd : decide ((i : Int) < (l.length : Int)) = true := decide_eq_true (by omega)
      clear eb hc1 hx ek a1 a2 a3 hK hx0
      go_wp2_with (go_at_call 31; refine C.mono ?_; rintro e w2 ⟨rfl, hK2, hF2⟩; clear C)
      go_roundw
      case rel => exact ⟨i + 1, by go_num, by omega, by rw [EK.out]; exact hK2, HF.out.trans hF2⟩
      case measure => simp [intOf]; omega
    · have hd : decide ((i : Int) < (l.length : Int)) = false := decide_eq_false (by omega)
      obtain rfl : i = l.length := by omega
      rw [List.take_length] at hK
      have HK2 := Lib.hid hK
      clear hK
      go_wp2
      go_ret
      exact ⟨rfl, HK2.out, HF.out⟩

theorem from_bad (A : Option Addr) (c : Nat) (l : List Int) (w : World) (h : Kd.C (Kd.int .u64) w A l.length l) (hL : l.length < 4611686018427387904) (hn : ¬ KOk l) :
    Calls Try.prog 34 #[.slice A l.length c] w fun e w' => e = .returned (.tuple #[.pointer none, .int .i64 5]) ∧ Below w.heap.size w w' := by
  have HN := Lib.hid hn; have H := Lib.hid h
  clear hn h
  go_enter Try.func34, Try.ntmps34
  go_wp2_with (first
    | (go_at_call 26; refine (new_u w).mono ?_; rintro e w1 ⟨kb, mb, rfl, _, hk1, hk2, hb⟩; have C := merge_bad kb A c l w1 (Kd.C_below H.out hb) hL HN.out; have HB := Lib.hid hb; clear hb)
    | (go_at_call 37; refine C.mono ?_; rintro e w2 ⟨rfl, n, rfl⟩; clear C))
  refine bodyPost_ret (v := .tuple #[.pointer none, .int .i64 5]) (by simp [results, Try.results34, go_sem]) rfl ?_
  exact ⟨rfl, pw_below_drewN HB.out n⟩
theorem from_u (A : Option Addr) (c : Nat) (l : List Int) (w : World) (h : Kd.C (Kd.int .u64) w A l.length l) (hr : ∀ x ∈ l, 0 ≤ x ∧ x < 18446744073709551616) (hok : KOk l) :
    Calls Try.prog 34 #[.slice A l.length c] w fun e w' => ∃ kb mb, e = .returned (.tuple #[.pointer (some ⟨kb, 0, none⟩), .int .i64 0]) ∧ KM w' kb mb l ∧ w.heap.size ≤ kb ∧ w.heap.size ≤ mb ∧ Below w.heap.size w w' := by
  have hlt : ∀ ad, A = some ad → 0 < l.length → ad.block < w.heap.size := fun ad e hl => by
    obtain ⟨ad', e', hc⟩ := Kd.at_int h (0 : Int) (by omega) (by omega)
    obtain rfl : ad = ad' := by rw [e] at e'; injection e'
    have := cell_lt hc
    have eb : (ad.add (0 : Int).toNat).block = ad.block := by unfold Addr.add; split <;> rfl
    rwa [eb] at this
  have HK := Lib.hid hok; have H := Lib.hid h; have HR := Lib.hid hr; have HLT := Lib.hid hlt
  clear hok h hr hlt
  go_enter Try.func34, Try.ntmps34
  go_wp2_with (first
    | (go_at_call 26; refine (new_u w).mono ?_; rintro e w1 ⟨kb, mb, rfl, hk0, hk1, hk2, hb⟩;
       have C := merge_u kb mb [] A c l w1 hk0 (Kd.C_below H.out hb) (fun ad e hl => ⟨by have := HLT.out ad e hl; omega, by have := HLT.out ad e hl; omega⟩) HR.out HK.out; have HB := Lib.hid hb; clear hb hk0)
    | (go_at_call 37; refine C.mono ?_; rintro e w2 ⟨rfl, hk3, hf⟩; clear C))
  refine bodyPost_ret (v := .tuple #[.pointer (some ⟨kb, 0, none⟩), .int .i64 0]) (by simp [results, Try.results34, go_sem]) rfl ?_
  refine ⟨kb, mb, rfl, by rw [kmany_nil HK.out.1 HK.out.2] at hk3; exact hk3, hk1, hk2, ⟨hf.1.trans HB.out.os, hf.2.1.trans HB.out.tape, hf.2.2.1.trans HB.out.output, Nat.le_trans HB.out.size hf.2.2.2.1, fun i hi => (hf.2.2.2.2 i (Nat.lt_of_lt_of_le hi HB.out.size) (by omega) (by omega)).trans (HB.out.block i hi)⟩⟩
end Go.Proofs.Ytpjchgiemmnikaa
