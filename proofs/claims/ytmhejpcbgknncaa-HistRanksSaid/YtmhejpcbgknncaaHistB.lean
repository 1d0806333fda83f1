/- A number's bucket, and the calls of hist.Hist that read and write the counts, by walks over their Go text. -/
import Derived.Test.YtmhejpcbgknncaaHist
import Derived.Lib.Hide
namespace Go.Proofs.Ytmhejpcbgknncaa
open Go.RowKit Go.Proofs.YtmhejpcbgknncaaW.PrintWords Go.Proofs.YtmhejpcbgknncaaW.PrintLast Go.Proofs.YtmhejpcbgknncaaW.PrintMore

/-! ### Buckets of numbers -/
theorem bitLen_bounds (y : Nat) (h : 256 ≤ y) (hy : y < 18446744073709551616) : ∃ e : Nat, Lib.bitLen y = e + 8 ∧ 1 ≤ e ∧ e ≤ 56 ∧ 128 ≤ y / 2 ^ e ∧ y / 2 ^ e < 256 ∧ 2 ^ (e + 7) ≤ y ∧ y < 2 ^ (e + 8) := by
  obtain ⟨s, hs, hL, h0, h1⟩ := D.bitLen_log y (by omega) hy
  have lo : 2 ^ (63 - s) ≤ y := by
    refine Nat.le_of_mul_le_mul_right (c := 2 ^ s) ?_ (Nat.two_pow_pos s)
    rw [← Nat.pow_add, show 63 - s + s = 63 by omega]
    simpa using h0
  have hi : y < 2 ^ (64 - s) := by
    refine Nat.lt_of_mul_lt_mul_right (a := 2 ^ s) ?_
    rw [← Nat.pow_add, show 64 - s + s = 64 by omega]
    simpa using h1
  have hs8 : s ≤ 55 := by
    refine Nat.le_of_not_lt fun hc => ?_
    have : 2 ^ (64 - s) ≤ 2 ^ 8 := Nat.pow_le_pow_right (by decide) (by omega)
    have : (2 : Nat) ^ 8 = 256 := rfl
    omega
  refine ⟨56 - s, by omega, by omega, by omega, ?_, ?_, ?_, ?_⟩
  · rw [Nat.le_div_iff_mul_le (Nat.two_pow_pos _)]
    rw [show (63 - s) = 7 + (56 - s) by omega, Nat.pow_add] at lo
    exact lo
  · refine Nat.div_lt_of_lt_mul ?_
    rw [show (64 - s) = (56 - s) + 8 by omega, Nat.pow_add] at hi
    exact hi
  · rw [show 56 - s + 7 = 63 - s by omega]; exact lo
  · rw [show 56 - s + 8 = 64 - s by omega]; exact hi

/-- A number's bucket. -/
def bucketN (v : Nat) : Nat := if v < 256 then v else 128 * (Lib.bitLen v - 8) + v / 2 ^ (Lib.bitLen v - 8)
theorem bucketN_lt (v : Nat) (hv : v < 18446744073709551616) : bucketN v < 7424 := by
  unfold bucketN
  by_cases h : v < 256
  · rw [if_pos h]; omega
  · obtain ⟨e, h1, h2, h3, h4, h5, _⟩ := bitLen_bounds v (by omega) hv
    rw [if_neg h, h1, Nat.add_sub_cancel]; omega

set_option maxHeartbeats 400000 in
theorem bucket_small (v : Nat) (w : World) (h : v < 256) :
    Calls Try.prog 21 #[.int .u64 (v : Int)] w fun e w' => e = .returned (.int .i64 (v : Int)) ∧ w = w' := by
  have hb : decide ((v : Int) < 256) = true := decide_eq_true (by omega)
  go_enter Try.func21, Try.ntmps21
  go_wp2
  go_ret
  exact ⟨rfl, rfl⟩
set_option maxHeartbeats 400000 in
theorem bucket_great (v q e : Nat) (w : World) (h : 256 ≤ v) (hv : v < 18446744073709551616) (hL : Lib.bitLen v = e + 8) (he : e ≤ 56) (hq : v / 2 ^ e = q) (hq2 : q < 256) :
    Calls Try.prog 21 #[.int .u64 (v : Int)] w fun e' w' => e' = .returned (.int .i64 ((128 * e + q : Nat) : Int)) ∧ w = w' := by
  have hb : decide ((v : Int) < 256) = false := decide_eq_false (by omega)
  have hC := fun w => Try.bits_Len64 (v : Int) w (by omega) (by omega)
  rw [Int.toNat_natCast, hL] at hC
  have H := Lib.hid hL; have HQ := Lib.hid hq
  clear hL hq
  go_enter Try.func21, Try.ntmps21
  go_wp2_with (go_at_call 49; refine (hC _).mono ?_; rintro e w' ⟨rfl, rfl⟩)
  go_ret
  have E : wrap64 (128 * (e : Int) + wrap64 ((v : Int) / 2 ^ e)) = ((128 * e + q : Nat) : Int) := by
    have e1 : (v : Int) / 2 ^ e = (q : Int) := by rw [← HQ.out, Int.natCast_ediv, Int.natCast_pow]; rfl
    rw [e1]; unfold wrap64; omega
  exact ⟨congrArg (fun x => Ending.returned (Value.int IntKind.i64 x)) E, rfl⟩
theorem bucket_any (v : Nat) (w : World) (hv : v < 18446744073709551616) :
    Calls Try.prog 21 #[.int .u64 (v : Int)] w fun e w' => e = .returned (.int .i64 (bucketN v : Int)) ∧ w = w' := by
  by_cases h : v < 256
  · rw [show bucketN v = v from if_pos h]; exact bucket_small v w h
  · obtain ⟨e, h1, h2, h3, h4, h5, _⟩ := bitLen_bounds v (by omega) hv
    rw [show bucketN v = 128 * e + v / 2 ^ e by unfold bucketN; rw [if_neg h, h1, Nat.add_sub_cancel]]
    exact bucket_great v _ e w (by omega) hv h1 h3 rfl h5

/-! ### Add: one count, held -/
def hold (x : Int) : Int := if x < 18446744073709551616 then x else 18446744073709551615
theorem wadd_any (a0 a1 : Int) (w : World) (h0 : 0 ≤ a0) (h1 : a0 < 18446744073709551616) (h2 : 0 ≤ a1) (h3 : a1 < 18446744073709551616) :
    Calls Try.prog 50 #[.int .u64 a0, .int .u64 a1] w fun e w' => e = .returned (.int .u64 (hold (a0 + a1))) ∧ w = w' := add_eq a0 a1 w h0 h1 h2 h3
set_option maxHeartbeats 400000 in
set_option maxRecDepth 100000 in
theorem hadd_any (g at_ : Nat) (l : List Int) (v : Nat) (n x : Int) (w : World) (hv : v < 18446744073709551616) (hH : w.heap[g]? = some (.cells (hcells l) 83 (0, 0)))
    (hat : bucketN v = at_) (hlt : at_ < 7424) (hx : l[at_]? = some x) (hx0 : 0 ≤ x) (hx1 : x < 18446744073709551616) (n0 : 0 ≤ n) (n1 : n < 18446744073709551616) :
    Calls Try.prog 25 #[.pointer (some ⟨g, 0, none⟩), .int .u64 (v : Int), .int .u64 n] w fun e w' => e = .returned (.tuple #[]) ∧ ∃ m, w' = (w.drewN m).setCell ⟨g, at_, none⟩ (.int .u64 (hold (x + n))) := by
  have hB := fun w => bucket_any v w hv
  rw [hat] at hB
  have hA := fun w => wadd_any x n w hx0 hx1 n0 n1
  have hc : w.cell? ⟨g, at_, none⟩ = some (.int .u64 x) := by rw [blk_cell hH, hcells_get, hx]; rfl
  have hf : w.frozen? ⟨g, at_, none⟩ = false := blk_frozen hH _
  have HH := Lib.hid hH
  clear hH hat hx
  go_enter Try.func25, Try.ntmps25
  go_wp2_with (go_at_call 21; refine (hB _).mono ?_; rintro e w' ⟨rfl, rfl⟩)
  refine wp_region_still_tail 13 (by kernel_rfl) (by kernel_rfl) ?_
  simp only [List.take_succ_cons, List.take_zero, List.drop_succ_cons, List.drop_zero]
  change wpStill _ _ w.drew _ _ _
  have hc2 : w.drew.cell? ⟨g, at_, none⟩ = some (.int .u64 x) := hc
  have hf2 : w.drew.frozen? ⟨g, at_, none⟩ = false := hf
  have hlt2 : ((at_ : Int) < 7424) = True := eq_true (by omega)
  obtain ⟨w2, hw2⟩ : ∃ w2, w.drew = w2 := ⟨_, rfl⟩
  rw [hw2] at hc2 hf2 ⊢
  have HW := Lib.hid hw2; clear hw2
  repeat still_step
  still_call ((hA w2).mono fun _ _ ⟨he, hw⟩ => ⟨he, hw.symm⟩)
  repeat still_step
  refine wpStill_nil ?_
  change wpList _ _ _ _ _ w.drew
  rw [HW.out]
  clear hc hf
  go_wp2
  go_end0
  exact ⟨rfl, 1, by rw [← HW.out]; rfl⟩

/-! ### Sums of counts -/
def hsum (l : List Int) : Int := l.foldl (fun s x => hold (s + x)) 0
def Cnt (l : List Int) : Prop := ∀ x ∈ l, 0 ≤ x ∧ x < 18446744073709551616
theorem hold_range {x : Int} (h : 0 ≤ x) : 0 ≤ hold x ∧ hold x < 18446744073709551616 := by unfold hold; split <;> omega
theorem hsum_range (l : List Int) (h : Cnt l) : 0 ≤ hsum l ∧ hsum l < 18446744073709551616 := by
  have key : ∀ (l : List Int) (s : Int), Cnt l → 0 ≤ s ∧ s < 18446744073709551616 → 0 ≤ l.foldl (fun s x => hold (s + x)) s ∧ l.foldl (fun s x => hold (s + x)) s < 18446744073709551616 := by
    intro l
    induction l with
    | nil => intro s _ hs; exact hs
    | cons x l ih =>
      intro s hl hs
      have := hl x (by simp)
      exact ih _ (fun y hy => hl y (by simp [hy])) (hold_range (by omega))
  exact key l 0 h ⟨by omega, by omega⟩
theorem hsum_snoc (l : List Int) (x : Int) : hsum (l ++ [x]) = hold (hsum l + x) := by simp [hsum, List.foldl_append]
theorem Cnt.take {l : List Int} (h : Cnt l) (n : Nat) : Cnt (l.take n) := fun x hx => h x (List.mem_of_mem_take hx)

end Go.Proofs.Ytmhejpcbgknncaa
