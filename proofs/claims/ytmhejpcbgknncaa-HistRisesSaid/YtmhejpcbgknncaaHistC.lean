/- The sums of a histogram's counts: upto, Count, Rank, by walks over their Go text. -/
import Derived.Test.YtmhejpcbgknncaaHistB
namespace Go.Proofs.Ytmhejpcbgknncaa
open Go.RowKit Go.Proofs.YtmhejpcbgknncaaW.PrintWords Go.Proofs.YtmhejpcbgknncaaW.PrintLast Go.Proofs.YtmhejpcbgknncaaW.PrintMore

set_option maxHeartbeats 1000000 in
set_option maxRecDepth 100000 in
theorem upto_any (g at_ : Nat) (l : List Int) (w : World) (hH : w.heap[g]? = some (.cells (hcells l) 83 (0, 0))) (hl : l.length = 7424) (hr : Cnt l) (hat : at_ < 7424) :
    Calls Try.prog 52 #[.pointer (some ⟨g, 0, none⟩), .int .i64 (at_ : Int)] w fun e w' => e = .returned (.int .u64 (hsum (l.take (at_ + 1)))) ∧ w = w' := by
  have hc : ∀ k, k < 7424 → w.cell? ⟨g, k, none⟩ = some (.int .u64 (l.getD k 0)) := fun k hk => by
    rw [blk_cell hH, hcells_get, List.getElem?_eq_getElem (by omega)]
    simp [List.getD, List.getElem?_eq_getElem (show k < l.length by omega)]
  have HC := Lib.hid hc
  have HL := Lib.hid hl
  have HH := Lib.hid hH
  have hsl : ∀ w : World, (Instr.sliceAt 81 (.pointer (some ⟨g, 0, none⟩)) none (some (.int .i64 ((at_ : Int) + 1))) none).run Try.prog w = .ok (.slice (some ⟨g, 0, none⟩) (at_ + 1) 7424) w := fun w => by
    have hlen : Try.prog.arrayLen 81 = 7424 := by kernel_rfl
    have hel : Try.prog.elem 81 = 22 := by kernel_rfl
    have hun : Try.prog.underlying 81 = some (.array (Try.prog.arrayLen 81) (Try.prog.elem 81)) := by rw [hlen, hel]; exact Try.underlying81
    rw [run_sliceAt_array_h w 81 ⟨g, 0, none⟩ hun .i64 ((at_ : Int) + 1) (by omega) (by rw [hlen]; omega), hel, hlen, Try.sizeOf22]
    have e1 : ((at_ : Int) + 1).toNat = at_ + 1 := by omega
    simp only [Result.andThen, slicedAt, e1, Nat.sub_zero]
    by_cases c : 7424 = 0
    · omega
    · simp [c, Addr.add]
  clear hc hl hH
  go_enter Try.func52, Try.ntmps52
  go_wp2
  go_loop [5, 7, 17] (fun s _ i => ∃ k : Nat, k ≤ at_ + 1 ∧ i = .int .i64 k ∧ s = .int .u64 (hsum (l.take k))) (fun _ _ i => at_ + 1 - (intOf i).toNat)
  case atStart => exact ⟨0, Nat.zero_le _, rfl, rfl⟩
  case round =>
    obtain ⟨k, hk, rfl, rfl⟩ := hrel
    by_cases hlt : k < at_ + 1
    · have hl := HL.out
      obtain ⟨y, hy⟩ : ∃ y, l.getD k 0 = y := ⟨_, rfl⟩
      have hcell : w.cell? ⟨g, k, none⟩ = some (.int .u64 y) := by rw [← hy]; exact HC.out k (by omega)
      have hk2 : l[k]? = some y := by rw [← hy, List.getD, List.getElem?_eq_getElem (show k < l.length by omega)]; rfl
      have hx := hr _ (List.mem_of_getElem? hk2)
      have hs := hsum_range _ (hr.take k)
      have hsn : hsum (l.take (k + 1)) = hold (hsum (l.take k) + y) := by
        rw [List.take_add_one, hk2]; exact hsum_snoc _ _
      have HS := Lib.hid hsn
      have A := fun w => wadd_any (hsum (l.take k)) y w hs.1 hs.2 hx.1 hx.2
      clear hl hk2 hsn hx hs hy
      go_wp2_with (go_at_call 50; refine (A _).mono ?_; rintro e w' ⟨rfl, rfl⟩)
      go_round
      case rel => exact ⟨k + 1, by omega, by go_num, by rw [HS.out]⟩
      case measure => simp [intOf]; omega
    · have hk3 : at_ + 1 = k := by omega
      subst hk3
      go_wp2
      go_ret
      exact ⟨rfl, rfl⟩

set_option maxHeartbeats 400000 in
theorem count_any (g : Nat) (l : List Int) (w : World) (hH : w.heap[g]? = some (.cells (hcells l) 83 (0, 0))) (hl : l.length = 7424) (hr : Cnt l) :
    Calls Try.prog 28 #[.pointer (some ⟨g, 0, none⟩)] w fun e w' => e = .returned (.tuple #[.int .u64 (hsum l), .int .i64 (if hsum l = 18446744073709551615 then 11 else 0)]) ∧ w = w' := by
  have U := upto_any g 7423 l w hH hl hr (by omega)
  rw [show l.take (7423 + 1) = l from List.take_of_length_le (by omega)] at U
  clear hH hl
  by_cases hc : hsum l = 18446744073709551615
  · have hb : (hsum l == 18446744073709551615) = true := beq_iff_eq.mpr hc
    rw [if_pos hc]
    clear hc
    go_enter Try.func28, Try.ntmps28
    go_wp2_with (go_at_call 52; refine U.mono ?_; rintro e w' ⟨rfl, rfl⟩)
    go_ret2
    exact ⟨rfl, rfl⟩
  · have hb : (hsum l == 18446744073709551615) = false := beq_eq_false_iff_ne.mpr hc
    rw [if_neg hc]
    clear hc
    go_enter Try.func28, Try.ntmps28
    go_wp2_with (go_at_call 52; refine U.mono ?_; rintro e w' ⟨rfl, rfl⟩)
    go_ret2
    exact ⟨rfl, rfl⟩

set_option maxHeartbeats 400000 in
theorem rank_any (g : Nat) (l : List Int) (v : Nat) (w : World) (hv : v < 18446744073709551616) (hH : w.heap[g]? = some (.cells (hcells l) 83 (0, 0))) (hl : l.length = 7424) (hr : Cnt l) :
    Calls Try.prog 29 #[.pointer (some ⟨g, 0, none⟩), .int .u64 (v : Int)] w fun e w' => e = .returned (.int .u64 (hsum (l.take (bucketN v + 1)))) ∧ w = w' := by
  have U := fun (at_ : Nat) (h : at_ < 7424) => upto_any g at_ l w hH hl hr h
  have U := U (bucketN v) (bucketN_lt v hv)
  have B := fun w => bucket_any v w hv
  clear hH hl hr
  go_enter Try.func29, Try.ntmps29
  go_wp2_with (first | (go_at_call 21; refine (B _).mono ?_; rintro e w' ⟨rfl, rfl⟩) | (go_at_call 52; refine U.mono ?_; rintro e w' ⟨rfl, rfl⟩))
  go_ret
  exact ⟨rfl, rfl⟩

end Go.Proofs.Ytmhejpcbgknncaa
