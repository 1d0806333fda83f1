/- varveref08.Hash by a walk over its Go text: khash. -/
import Derived.Test.YtpjchgiemmnikaaKPlain
import Derived.Test.YtpjchgiemmnikaaKAdd
namespace Go.Proofs.Ytpjchgiemmnikaa
set_option linter.unusedVariables false
set_option linter.unusedSimpArgs false
open Go.RowKit Go.Maps Go.Proofs.YtpjchgiemmnikaaW.PrintWords Go.Proofs.Ytpjchgiemmnikaa.Pure

theorem C_kf {w w' : World} {kb mb : Nat} {A : Option Addr} {n : Nat} {l : List Int} (h : Kd.C (Kd.int .u64) w A n l) (hf : KF w w' kb mb) (hA : ∀ ad, A = some ad → 0 < n → ad.block ≠ kb ∧ ad.block ≠ mb) : Kd.C (Kd.int .u64) w' A n l := by
  have h2 := Kd.reads_of_C (d := (0 : Int)) h
  refine Kd.C_of_reads (d := (0 : Int)) ⟨h2.1, h2.2.1, fun hn => ?_⟩
  obtain ⟨ad, e, hc⟩ := h2.2.2 hn
  refine ⟨ad, e, fun j hj => ?_⟩
  obtain ⟨a1, a2⟩ := hA ad e hn
  have eb : (ad.add j).block = ad.block := by unfold Addr.add; split <;> rfl
  have := hc j hj
  exact (show w'.cell? (ad.add j) = w.cell? (ad.add j) from World.cell?_of_block (hf.2.2.2.2 (ad.add j).block (cell_lt this) (by rw [eb]; exact a1) (by rw [eb]; exact a2))).trans this

theorem own_block {w : World} {base e z n m : Nat} {A : Option Addr} {c : Nat} {xs : List Value} (h : w.ownsRow base e z (.slice A n c) m xs) : ∀ ad, A = some ad → base ≤ ad.block := by
  intro ad e
  subst e
  exact (h.lt ad.block (by simp [Value.ownBlock])).1

set_option maxHeartbeats 1000000 in
set_option maxRecDepth 100000 in
theorem refHash_same (A : Option Addr) (c : Nat) (l : List Int) (hv : Int) (w : World) (hC : Kd.C (Kd.int .u64) w A l.length l) (hok : KOk l) (hcl : l.length ≤ c) :
    Calls Try.prog 36 #[.slice A l.length c, .int .u64 hv] w fun e w' => ∃ A' c', e = .returned (.slice A' (khash l hv).length c') ∧ (khash l hv).length ≤ c' ∧ Kd.C (Kd.int .u64) w' A' (khash l hv).length (khash l hv) ∧ Below w.heap.size w w' ∧ ((A' = A ∧ khash l hv = l) ∨ ∀ ad, A' = some ad → w.heap.size ≤ ad.block) := by
  have H := Lib.hid hC; have HO := Lib.hid hok
  have hL := hok.2
  clear hC hok
  go_enter Try.func36, Try.ntmps36
  go_wp2
  go_loopw [5] (fun vi wr => ∃ k : Nat, vi = .int .i64 k ∧ k ≤ l.length ∧ w = wr ∧ ∀ j (hj : j < k) (hl : j < l.length), l[j] < hv) (fun vi _ => l.length - (intOf vi).toNat)
  case atStart => exact ⟨0, rfl, Nat.zero_le _, rfl, fun j hj => by omega⟩
  case round =>
    obtain ⟨k, rfl, hkl, rfl, hI⟩ := hrel
    have II := Lib.hid hI
    clear hI
    by_cases hi : k < l.length
    · obtain ⟨ad, rfl, hc1⟩ := Kd.at_int H.out (k : Int) (by omega) (by omega)
      rw [Int.toNat_natCast, rd_nat hi] at hc1
      obtain ⟨x, hx⟩ : ∃ x, l[k] = x := ⟨_, rfl⟩
      rw [hx] at hc1
      have HX := Lib.hid hx
      have hd : decide ((k : Int) < (l.length : Int)) = true := decide_eq_true (by omega)
      clear hx
      by_cases hlt : x < hv
      · have hd2 : decide (x < hv) = true := decide_eq_true hlt
        go_wp2
        go_roundw
        case rel => exact ⟨k + 1, by go_num, by omega, by first | exact rfl | trivial, fun j hj hl => by
          rcases Nat.lt_or_ge j k with c | c
          · exact II.out j c hl
          · obtain rfl : j = k := by omega
            rw [HX.out]; exact hlt⟩
        case measure => simp [intOf]; omega
      · have hd2 : decide (x < hv) = false := decide_eq_false hlt
        by_cases he : x = hv
        · subst he
          have E := Lib.hid (khash_at HO.out.1 HO.out.2 hi HX.out)
          go_wp2
          go_ret
          rw [E.out]
          exact ⟨_, _, rfl, by first | omega | assumption, H.out, Below.refl _ _, .inl ⟨rfl, rfl⟩⟩
        · have he2 : (x == hv) = false := beq_eq_false_iff_ne.mpr he
          have hk : ¬ ((1024 : Int) ≤ (k : Int)) := by omega
          go_upto_region 6 with (fail)
          have h0 : w.ownsRow w.heap.size 25 1 (.slice none 0 0) ([] : List Int).length (nums .u64 []) := World.ownsRow_nil w _ _ _
          obtain ⟨i25, hi25, hz25⟩ := Option.map_eq_some_iff.1 info25
          simp only [Prod.mk.injEq] at hz25
          obtain ⟨T1, _⟩ := print_take_of (Value.int .u64) (0 : Int) 22 25 .i64 Try.underlying22 hi25 hz25.2.1 (some ad) c l (k : Int) (by omega) (by omega) hcl
          obtain ⟨A2, T2, T3, T4⟩ := print_drop_of (Value.int .u64) (0 : Int) 22 25 .i64 Try.underlying22 hi25 hz25.2.1 (some ad) c l (k : Int) (by omega) (by omega) hcl
          have r2 := T3 w (Kd.reads_of_C (d := (0 : Int)) H.out)
          rw [Int.toNat_natCast] at T1 T2 r2 T4
          have R2 := Lib.hid r2; have T5 := Lib.hid T4
          clear T3 T4 r2 hi25 hz25
          have r1 : ReadsInt w .u64 (some ad) k (l.take k) := by
            have := Kd.C_take H.out (show k ≤ l.length by omega)
            rw [List.length_take, Nat.min_eq_left (by omega)] at this
            exact Kd.reads_of_C (d := (0 : Int)) this
          have R1 := Lib.hid r1; have KL := Lib.hid (show (l.take k).length = k by rw [List.length_take]; omega)
          rw [show (l.take k).length = k by rw [List.length_take]; omega] at T1
          clear r1
          go_wp2_with (first
            | ((with_reducible refine gate_builtin (b := .append) (xs := #[.const (.slice none 0 0), .tmp 40]) rfl ?_); at_builtin; go_loud (refine print_append_row (w0 := w) w.heap.size rfl (.const (.slice none 0 0)) (.tmp 40) 22 25 .u64 8 rfl Try.underlying22 info25 (by decide) (.slice none 0 0) [] (l.take k) (some ad) k c rfl rfl h0 R1.out (Below.refl _ _) (Nat.le_refl _) (by simp; omega) ?_; intro v1 w1 ho1 hb1 hg1 hat1; rw [List.nil_append] at ho1; have b1 := hb1.size))
            | ((with_reducible refine gate_builtin (b := .append) (xs := #[.tmp 42, .tmp 44]) rfl ?_); at_builtin; go_loud (refine print_append_num (w0 := w) w.heap.size rfl (.tmp 42) (.tmp 44) 22 25 .u64 8 rfl Try.underlying22 info25 (by decide) v1 (l.take k) hv rfl rfl ho1 hb1 b1 (by rw [KL.out]; omega) ?_; intro v2 w2 ho2 hb2 hg2 hat2; have b2 := hb2.size; have r3 : ReadsInt w2 .u64 A2 (l.length - k) (l.drop k) := by have := Kd.reads_of_C (d := (0 : Int)) (Kd.C_below (Kd.C_of_reads (d := (0 : Int)) (h1 := fun _ => rfl) R2.out) hb2); rwa [List.length_drop] at this))
            | ((with_reducible refine gate_builtin (b := .append) (xs := #[.tmp 46, .tmp 49]) rfl ?_); at_builtin; go_loud (refine print_append_row (w0 := w) w.heap.size rfl (.tmp 46) (.tmp 49) 22 25 .u64 8 rfl Try.underlying22 info25 (by decide) v2 (l.take k ++ [hv]) (l.drop k) A2 (l.length - k) (c - k) rfl rfl ho2 r3 hb2 b2 (by rw [List.length_append, KL.out]; simp; omega) ?_; intro v3 w3 ho3 hb3 hg3 hat3; have b3 := hb3.size; obtain ⟨M, hM⟩ : ∃ M, l.take k ++ [hv] ++ l.drop k = M := ⟨_, rfl⟩; rw [hM] at ho3; have hml : M.length = l.length + 1 := (by rw [← hM, List.length_append, List.length_append, List.length_take, List.length_drop]; simp; omega); obtain ⟨A3, c3, rfl, hc3, hC3⟩ := C_of_own ho3; have HNB := Lib.hid (own_block ho3); have HE := Lib.hid (show khash l hv = M.take 1024 from (by rw [← hM, List.append_assoc]; exact khash_split (by omega) II.out (fun hk' => by rw [HX.out]; omega))); have HC3 := Lib.hid hC3; have HML := Lib.hid hml; clear hM hC3 ho3 hml)))
          all_goals first
            | (go_ret
               have hm2 : M.length ≤ 1024 := by omega
               rw [HE.out, List.take_of_length_le hm2]
               exact ⟨_, _, rfl, hc3, HC3.out, hb3, .inr HNB.out⟩)
            | (go_ret
               have hm2 : 1024 ≤ M.length := by omega
               have := Kd.C_take HC3.out hm2
               rw [HE.out]
               rw [List.length_take, Nat.min_eq_left hm2] at this ⊢
               exact ⟨_, _, rfl, by omega, this, hb3, .inr HNB.out⟩)
    · have hke : k = l.length := by omega
      have hd : decide ((k : Int) < (l.length : Int)) = false := decide_eq_false (by omega)
      by_cases hfull : 1024 ≤ k
      · have E := Lib.hid (khash_full HO.out.2 hkl hfull II.out)
        have hk : (1024 : Int) ≤ (k : Int) := by omega
        have HKE := Lib.hid hke
        clear hke
        go_wp2
        go_ret
        rw [E.out]
        exact ⟨_, _, rfl, by first | omega | assumption, H.out, Below.refl _ _, .inl ⟨rfl, rfl⟩⟩
      have hk : ¬ ((1024 : Int) ≤ (k : Int)) := by omega
      have HKE := Lib.hid hke
      clear hke
      go_upto_region 6 with (fail)
      have h0 : w.ownsRow w.heap.size 25 1 (.slice none 0 0) ([] : List Int).length (nums .u64 []) := World.ownsRow_nil w _ _ _
      obtain ⟨i25, hi25, hz25⟩ := Option.map_eq_some_iff.1 info25
      simp only [Prod.mk.injEq] at hz25
      obtain ⟨T1, _⟩ := print_take_of (Value.int .u64) (0 : Int) 22 25 .i64 Try.underlying22 hi25 hz25.2.1 A c l (k : Int) (by omega) (by omega) hcl
      obtain ⟨A2, T2, T3, T4⟩ := print_drop_of (Value.int .u64) (0 : Int) 22 25 .i64 Try.underlying22 hi25 hz25.2.1 A c l (k : Int) (by omega) (by omega) hcl
      have r2 := T3 w (Kd.reads_of_C (d := (0 : Int)) H.out)
      rw [Int.toNat_natCast] at T1 T2 r2 T4
      have R2 := Lib.hid r2; have T5 := Lib.hid T4
      clear T3 T4 r2 hi25 hz25
      have r1 : ReadsInt w .u64 A k (l.take k) := by
        have := Kd.C_take H.out (show k ≤ l.length by omega)
        rw [List.length_take, Nat.min_eq_left (by omega)] at this
        exact Kd.reads_of_C (d := (0 : Int)) this
      have R1 := Lib.hid r1; have KL := Lib.hid (show (l.take k).length = k by rw [List.length_take]; omega)
      rw [show (l.take k).length = k by rw [List.length_take]; omega] at T1
      clear r1
      go_wp2_with (first
        | ((with_reducible refine gate_builtin (b := .append) (xs := #[.const (.slice none 0 0), .tmp 40]) rfl ?_); at_builtin; go_loud (refine print_append_row (w0 := w) w.heap.size rfl (.const (.slice none 0 0)) (.tmp 40) 22 25 .u64 8 rfl Try.underlying22 info25 (by decide) (.slice none 0 0) [] (l.take k) A k c rfl rfl h0 R1.out (Below.refl _ _) (Nat.le_refl _) (by simp; omega) ?_; intro v1 w1 ho1 hb1 hg1 hat1; rw [List.nil_append] at ho1; have b1 := hb1.size))
        | ((with_reducible refine gate_builtin (b := .append) (xs := #[.tmp 42, .tmp 44]) rfl ?_); at_builtin; go_loud (refine print_append_num (w0 := w) w.heap.size rfl (.tmp 42) (.tmp 44) 22 25 .u64 8 rfl Try.underlying22 info25 (by decide) v1 (l.take k) hv rfl rfl ho1 hb1 b1 (by rw [KL.out]; omega) ?_; intro v2 w2 ho2 hb2 hg2 hat2; have b2 := hb2.size; have r3 : ReadsInt w2 .u64 A2 (l.length - k) (l.drop k) := by have := Kd.reads_of_C (d := (0 : Int)) (Kd.C_below (Kd.C_of_reads (d := (0 : Int)) (h1 := fun _ => rfl) R2.out) hb2); rwa [List.length_drop] at this))
        | ((with_reducible refine gate_builtin (b := .append) (xs := #[.tmp 46, .tmp 49]) rfl ?_); at_builtin; go_loud (refine print_append_row (w0 := w) w.heap.size rfl (.tmp 46) (.tmp 49) 22 25 .u64 8 rfl Try.underlying22 info25 (by decide) v2 (l.take k ++ [hv]) (l.drop k) A2 (l.length - k) (c - k) rfl rfl ho2 r3 hb2 b2 (by rw [List.length_append, KL.out]; simp; omega) ?_; intro v3 w3 ho3 hb3 hg3 hat3; have b3 := hb3.size; obtain ⟨M, hM⟩ : ∃ M, l.take k ++ [hv] ++ l.drop k = M := ⟨_, rfl⟩; rw [hM] at ho3; have hml : M.length = l.length + 1 := (by rw [← hM, List.length_append, List.length_append, List.length_take, List.length_drop]; simp; omega); obtain ⟨A3, c3, rfl, hc3, hC3⟩ := C_of_own ho3; have HNB := Lib.hid (own_block ho3); have HE := Lib.hid (show khash l hv = M.take 1024 from (by rw [← hM, List.append_assoc]; exact khash_split (by omega) II.out (fun hk' => absurd hk' hi))); have HC3 := Lib.hid hC3; have HML := Lib.hid hml; clear hM hC3 ho3 hml)))
      all_goals first
        | (go_ret
           have hm2 : M.length ≤ 1024 := by omega
           rw [HE.out, List.take_of_length_le hm2]
           exact ⟨_, _, rfl, hc3, HC3.out, hb3, .inr HNB.out⟩)
        | (go_ret
           have hm2 : 1024 ≤ M.length := by omega
           have := Kd.C_take HC3.out hm2
           rw [HE.out]
           rw [List.length_take, Nat.min_eq_left hm2] at this ⊢
           exact ⟨_, _, rfl, by omega, this, hb3, .inr HNB.out⟩)
end Go.Proofs.Ytpjchgiemmnikaa
