/- What the methods of hist.Hist do to the array of 7424 counts that they are given, by walks over their Go text. -/
import Derived.Test.YtlfjfgcalilnpaaWide
import Derived.Lib.SliceRun
import Derived.StillTailTactics
import Derived.Lib.Hide
import Derived.Laws.Rows
import Derived.Test.YtlfjfgcalilnpaaBase
namespace Go.Proofs.Ytlfjfgcalilnpaa
set_option linter.unusedVariables false
set_option linter.unusedSimpArgs false
open Go.RowKit Go.Proofs.YtlfjfgcalilnpaaW.PrintWords Go.Proofs.YtlfjfgcalilnpaaW.PrintLast Go.Proofs.YtlfjfgcalilnpaaW.PrintMore

/-- The cells of the counts. -/
def hcells (l : List Int) : Array Value := (l.map (Value.int .u64)).toArray
theorem hcells_get (l : List Int) (i : Nat) : (hcells l)[i]? = (l[i]?).map (Value.int .u64) := by simp [hcells]
theorem hcells_size (l : List Int) : (hcells l).size = l.length := by simp [hcells]
theorem hcells_set (l : List Int) (i : Nat) (x : Int) : (hcells l).setIfInBounds i (.int .u64 x) = hcells (l.set i x) := by
  simp [hcells, List.map_set]

/-- No count at all. -/
def hzero (n : Nat) : List Int := List.replicate n 0
theorem hzero_length (n : Nat) : (hzero n).length = n := by simp [hzero]
theorem hzero_cells (n i : Nat) (h : i < n) : (hcells (hzero n))[i]? = some (.int .u64 0) := by
  rw [hcells_get, hzero, List.getElem?_replicate, if_pos h]; rfl
theorem heap_setCells (b : Nat) (T : TypeId) (news : List Value) : ∀ (o : Nat) (w : World) (cs : Array Value), w.heap[b]? = some (.cells cs T (0, 0)) →
    ∃ cs' : Array Value, (w.setCells b o news).heap[b]? = some (.cells cs' T (0, 0)) ∧ cs'.size = cs.size ∧ ∀ j, j < cs.size → cs'[j]? = if o ≤ j ∧ j < o + news.length then news[j - o]? else cs[j]? := by
  induction news with
  | nil => intro o w cs h; exact ⟨cs, h, rfl, fun j _ => by rw [if_neg (by simp)]⟩
  | cons v news ih =>
    intro o w cs h
    obtain ⟨cs', h1, h2, h3⟩ := ih (o + 1) (w.setCell ⟨b, o, none⟩ v) _ (blk_set h o v)
    refine ⟨cs', h1, by rw [h2]; simp, fun j hj => ?_⟩
    rw [h3 j (by simpa using hj)]
    by_cases c : o = j
    · subst c
      rw [if_neg (by omega), if_pos (by simp)]
      simp [hj]
    · simp only [List.length_cons]
      by_cases d : o + 1 ≤ j ∧ j < o + 1 + news.length
      · rw [if_pos d, if_pos (by omega), show j - o = (j - (o + 1)) + 1 by omega, List.getElem?_cons_succ]
      · rw [if_neg d, if_neg (by omega), Array.getElem?_setIfInBounds, if_neg c]
theorem below_setCells {n : Nat} {w : World} (b : Nat) (hb : n ≤ b) : ∀ (news : List Value) (o : Nat) {w' : World}, Below n w w' → Below n w (w'.setCells b o news)
  | [], _, _, h => h
  | v :: news, o, _, h => below_setCells b hb news (o + 1) (h.setCell hb v)

set_option maxHeartbeats 400000 in
set_option maxRecDepth 100000 in
theorem new_any (w : World) :
    Calls Try.prog 18 #[] w fun e w' => e = .returned (.pointer (some ⟨w.heap.size, 0, none⟩)) ∧ w'.heap[w.heap.size]? = some (.cells (hcells (hzero 7424)) 103 (0, 0)) ∧ Below w.heap.size w w' := by
  have hw : (w.alloc (.cells Try.zeroCells103 103)).heap[w.heap.size]? = some (.cells Try.zeroCells103 103 (0, 0)) := blk_new w _
  have hcl : ∀ ty, (Builtin.clear_ #[22] ty #[.slice (some ⟨w.heap.size, 0, none⟩) 7424 7424]).run Try.prog (w.alloc (.cells Try.zeroCells103 103)) = .ok (.tuple #[]) ((w.alloc (.cells Try.zeroCells103 103)).setCells w.heap.size 0 (List.replicate 7424 (.int .u64 0))) := fun ty =>
    Lib.run_clear_slice _ 22 23 ty (.int .u64 0) Try.underlying22 Try.zeroValue23 rfl rfl w.heap.size 0 7424 7424 (by omega) (fun j hj => by rw [blk_cell hw, Array.getElem?_eq_getElem (by rw [Try.zeroCells103_size]; omega)]; rfl) (fun j hj => blk_frozen hw _)
  go_enter Try.func18, Try.ntmps18
  go_wp2
  refine bodyPost_ret (v := .pointer (some ⟨w.heap.size, 0, none⟩)) (by simp [results, Try.results18, go_sem]) rfl ⟨rfl, ?_, ?_⟩
  · obtain ⟨cs', h1, h2, h3⟩ := heap_setCells w.heap.size 103 (List.replicate 7424 (.int .u64 0)) 0 _ _ hw
    have e : cs' = hcells (hzero 7424) := by
      rw [Try.zeroCells103_size] at h2 h3
      refine Array.ext (by rw [h2, hcells_size, hzero_length]) fun i hi hj => ?_
      have := h3 i (by omega)
      rw [if_pos (by rw [List.length_replicate]; omega), Array.getElem?_eq_getElem hi, List.getElem?_replicate, if_pos (by omega)] at this
      rw [Option.some.inj this]
      have h4 := hzero_cells 7424 i (by omega)
      rw [Array.getElem?_eq_getElem hj] at h4
      exact (Option.some.inj h4).symm
    rw [← e]; exact h1
  · exact below_setCells _ (Nat.le_refl _) _ _ ((Below.refl _ _).alloc (Nat.le_refl _) _)
end Go.Proofs.Ytlfjfgcalilnpaa

namespace Go.Proofs.Ytlfjfgcalilnpaa
set_option linter.unusedVariables false
set_option linter.unusedSimpArgs false
open Go.RowKit Go.Proofs.YtlfjfgcalilnpaaW.PrintWords Go.Proofs.YtlfjfgcalilnpaaW.PrintLast Go.Proofs.YtlfjfgcalilnpaaW.PrintMore

/-! ### Buckets of numbers -/
theorem bitLen_bounds (y : Nat) (h : 256 ≤ y) (hy : y < 18446744073709551616) : ∃ e : Nat, Lib.bitLen y = e + 8 ∧ 1 ≤ e ∧ e ≤ 56 ∧ 128 ≤ y / 2 ^ e ∧ y / 2 ^ e < 256 ∧ 2 ^ (e + 7) ≤ y ∧ y < 2 ^ (e + 8) := by
  obtain ⟨s, hs, hL, h0, h1⟩ := D.bitLen_log y (by omega) hy
  have lo : 2 ^ (63 - s) ≤ y := by
    refine Nat.le_of_mul_le_mul_right (c := 2 ^ s) ?_ (Nat.two_pow_pos s)
    rw [← Nat.pow_add, show 63 - s + s = 63 by omega]
    simpa using h0
  have hi : y < 2 ^ (64 - s) := by
    refine Nat.lt_of_mul_lt_mul_right (a := 2 ^ s) ?_
    rw [← Nat.pow_add, show 64 - s + s = 64 by omega]
    simpa using h1
  have hs8 : s ≤ 55 := by
    refine Nat.le_of_not_lt fun hc => ?_
    have : 2 ^ (64 - s) ≤ 2 ^ 8 := Nat.pow_le_pow_right (by decide) (by omega)
    have : (2 : Nat) ^ 8 = 256 := rfl
    omega
  refine ⟨56 - s, by omega, by omega, by omega, ?_, ?_, ?_, ?_⟩
  · rw [Nat.le_div_iff_mul_le (Nat.two_pow_pos _)]
    rw [show (63 - s) = 7 + (56 - s) by omega, Nat.pow_add] at lo
    exact lo
  · refine Nat.div_lt_of_lt_mul ?_
    rw [show (64 - s) = (56 - s) + 8 by omega, Nat.pow_add] at hi
    exact hi
  · rw [show 56 - s + 7 = 63 - s by omega]; exact lo
  · rw [show 56 - s + 8 = 64 - s by omega]; exact hi

/-- A number's bucket. -/
def bucketN (v : Nat) : Nat := if v < 256 then v else 128 * (Lib.bitLen v - 8) + v / 2 ^ (Lib.bitLen v - 8)
theorem bucketN_lt (v : Nat) (hv : v < 18446744073709551616) : bucketN v < 7424 := by
  unfold bucketN
  by_cases h : v < 256
  · rw [if_pos h]; omega
  · obtain ⟨e, h1, h2, h3, h4, h5, _⟩ := bitLen_bounds v (by omega) hv
    rw [if_neg h, h1, Nat.add_sub_cancel]; omega

set_option maxHeartbeats 400000 in
theorem bucket_small (v : Nat) (w : World) (h : v < 256) :
    Calls Try.prog 62 #[.int .u64 (v : Int)] w fun e w' => e = .returned (.int .i64 (v : Int)) ∧ w = w' := by
  have hb : decide ((v : Int) < 256) = true := decide_eq_true (by omega)
  go_enter Try.func62, Try.ntmps62
  go_wp2
  go_ret
  exact ⟨rfl, rfl⟩
set_option maxHeartbeats 400000 in
theorem bucket_great (v q e : Nat) (w : World) (h : 256 ≤ v) (hv : v < 18446744073709551616) (hL : Lib.bitLen v = e + 8) (he : e ≤ 56) (hq : v / 2 ^ e = q) (hq2 : q < 256) :
    Calls Try.prog 62 #[.int .u64 (v : Int)] w fun e' w' => e' = .returned (.int .i64 ((128 * e + q : Nat) : Int)) ∧ w = w' := by
  have hb : decide ((v : Int) < 256) = false := decide_eq_false (by omega)
  have hC := fun w => Try.bits_Len64 (v : Int) w (by omega) (by omega)
  rw [Int.toNat_natCast, hL] at hC
  have H := Lib.hid hL; have HQ := Lib.hid hq
  clear hL hq
  go_enter Try.func62, Try.ntmps62
  go_wp2_with (go_at_call 110; refine (hC _).mono ?_; rintro e w' ⟨rfl, rfl⟩)
  go_ret
  have E : wrap64 (128 * (e : Int) + wrap64 ((v : Int) / 2 ^ e)) = ((128 * e + q : Nat) : Int) := by
    have e1 : (v : Int) / 2 ^ e = (q : Int) := by rw [← HQ.out, Int.natCast_ediv, Int.natCast_pow]; rfl
    rw [e1]; unfold wrap64; omega
  exact ⟨congrArg (fun x => Ending.returned (Value.int IntKind.i64 x)) E, rfl⟩
theorem bucket_any (v : Nat) (w : World) (hv : v < 18446744073709551616) :
    Calls Try.prog 62 #[.int .u64 (v : Int)] w fun e w' => e = .returned (.int .i64 (bucketN v : Int)) ∧ w = w' := by
  by_cases h : v < 256
  · rw [show bucketN v = v from if_pos h]; exact bucket_small v w h
  · obtain ⟨e, h1, h2, h3, h4, h5, _⟩ := bitLen_bounds v (by omega) hv
    rw [show bucketN v = 128 * e + v / 2 ^ e by unfold bucketN; rw [if_neg h, h1, Nat.add_sub_cancel]]
    exact bucket_great v _ e w (by omega) hv h1 h3 rfl h5

/-! ### Add: one count, held -/
def hold (x : Int) : Int := if x < 18446744073709551616 then x else 18446744073709551615
theorem wadd_any (a0 a1 : Int) (w : World) (h0 : 0 ≤ a0) (h1 : a0 < 18446744073709551616) (h2 : 0 ≤ a1) (h3 : a1 < 18446744073709551616) :
    Calls Try.prog 63 #[.int .u64 a0, .int .u64 a1] w fun e w' => e = .returned (.int .u64 (hold (a0 + a1))) ∧ w = w' := add_eq a0 a1 w h0 h1 h2 h3
set_option maxHeartbeats 400000 in
set_option maxRecDepth 100000 in
theorem hadd_any (g at_ : Nat) (l : List Int) (v : Nat) (n x : Int) (w : World) (hv : v < 18446744073709551616) (hH : w.heap[g]? = some (.cells (hcells l) 103 (0, 0)))
    (hat : bucketN v = at_) (hlt : at_ < 7424) (hx : l[at_]? = some x) (hx0 : 0 ≤ x) (hx1 : x < 18446744073709551616) (n0 : 0 ≤ n) (n1 : n < 18446744073709551616) :
    Calls Try.prog 20 #[.pointer (some ⟨g, 0, none⟩), .int .u64 (v : Int), .int .u64 n] w fun e w' => e = .returned (.tuple #[]) ∧ ∃ m, w' = (w.drewN m).setCell ⟨g, at_, none⟩ (.int .u64 (hold (x + n))) := by
  have hB := fun w => bucket_any v w hv
  rw [hat] at hB
  have hA := fun w => wadd_any x n w hx0 hx1 n0 n1
  have hc : w.cell? ⟨g, at_, none⟩ = some (.int .u64 x) := by rw [blk_cell hH, hcells_get, hx]; rfl
  have hf : w.frozen? ⟨g, at_, none⟩ = false := blk_frozen hH _
  have HH := Lib.hid hH
  clear hH hat hx
  go_enter Try.func20, Try.ntmps20
  go_wp2_with (go_at_call 62; refine (hB _).mono ?_; rintro e w' ⟨rfl, rfl⟩)
  refine wp_region_still_tail 13 (by kernel_rfl) (by kernel_rfl) ?_
  simp only [List.take_succ_cons, List.take_zero, List.drop_succ_cons, List.drop_zero]
  change wpStill _ _ w.drew _ _ _
  have hc2 : w.drew.cell? ⟨g, at_, none⟩ = some (.int .u64 x) := hc
  have hf2 : w.drew.frozen? ⟨g, at_, none⟩ = false := hf
  have hlt2 : ((at_ : Int) < 7424) = True := eq_true (by omega)
  obtain ⟨w2, hw2⟩ : ∃ w2, w.drew = w2 := ⟨_, rfl⟩
  rw [hw2] at hc2 hf2 ⊢
  have HW := Lib.hid hw2; clear hw2
  repeat still_step
  still_call ((hA w2).mono fun _ _ ⟨he, hw⟩ => ⟨he, hw.symm⟩)
  repeat still_step
  refine wpStill_nil ?_
  change wpList _ _ _ _ _ w.drew
  rw [HW.out]
  clear hc hf
  go_wp2
  go_end0
  exact ⟨rfl, 1, by rw [← HW.out]; rfl⟩

/-! ### Sums of counts -/
def hsum (l : List Int) : Int := l.foldl (fun s x => hold (s + x)) 0
def Cnt (l : List Int) : Prop := ∀ x ∈ l, 0 ≤ x ∧ x < 18446744073709551616
theorem hold_range {x : Int} (h : 0 ≤ x) : 0 ≤ hold x ∧ hold x < 18446744073709551616 := by unfold hold; split <;> omega
theorem hsum_range (l : List Int) (h : Cnt l) : 0 ≤ hsum l ∧ hsum l < 18446744073709551616 := by
  have key : ∀ (l : List Int) (s : Int), Cnt l → 0 ≤ s ∧ s < 18446744073709551616 → 0 ≤ l.foldl (fun s x => hold (s + x)) s ∧ l.foldl (fun s x => hold (s + x)) s < 18446744073709551616 := by
    intro l
    induction l with
    | nil => intro s _ hs; exact hs
    | cons x l ih =>
      intro s hl hs
      have := hl x (by simp)
      exact ih _ (fun y hy => hl y (by simp [hy])) (hold_range (by omega))
  exact key l 0 h ⟨by omega, by omega⟩
theorem hsum_snoc (l : List Int) (x : Int) : hsum (l ++ [x]) = hold (hsum l + x) := by simp [hsum, List.foldl_append]
theorem Cnt.take {l : List Int} (h : Cnt l) (n : Nat) : Cnt (l.take n) := fun x hx => h x (List.mem_of_mem_take hx)

end Go.Proofs.Ytlfjfgcalilnpaa

namespace Go.Proofs.Ytlfjfgcalilnpaa
set_option linter.unusedVariables false
set_option linter.unusedSimpArgs false
open Go.RowKit Go.Proofs.YtlfjfgcalilnpaaW.PrintWords Go.Proofs.YtlfjfgcalilnpaaW.PrintLast Go.Proofs.YtlfjfgcalilnpaaW.PrintMore

set_option maxHeartbeats 1000000 in
set_option maxRecDepth 100000 in
theorem upto_any (g at_ : Nat) (l : List Int) (w : World) (hH : w.heap[g]? = some (.cells (hcells l) 103 (0, 0))) (hl : l.length = 7424) (hr : Cnt l) (hat : at_ < 7424) :
    Calls Try.prog 112 #[.pointer (some ⟨g, 0, none⟩), .int .i64 (at_ : Int)] w fun e w' => e = .returned (.int .u64 (hsum (l.take (at_ + 1)))) ∧ w = w' := by
  have hc : ∀ k, k < 7424 → w.cell? ⟨g, k, none⟩ = some (.int .u64 (l.getD k 0)) := fun k hk => by
    rw [blk_cell hH, hcells_get, List.getElem?_eq_getElem (by omega)]
    simp [List.getD, List.getElem?_eq_getElem (show k < l.length by omega)]
  have HC := Lib.hid hc
  have HL := Lib.hid hl
  have HH := Lib.hid hH
  have hsl : ∀ w : World, (Instr.sliceAt 101 (.pointer (some ⟨g, 0, none⟩)) none (some (.int .i64 ((at_ : Int) + 1))) none).run Try.prog w = .ok (.slice (some ⟨g, 0, none⟩) (at_ + 1) 7424) w := fun w => by
    have hlen : Try.prog.arrayLen 101 = 7424 := by kernel_rfl
    have hel : Try.prog.elem 101 = 23 := by kernel_rfl
    have hun : Try.prog.underlying 101 = some (.array (Try.prog.arrayLen 101) (Try.prog.elem 101)) := by rw [hlen, hel]; exact Try.underlying101
    rw [run_sliceAt_array_h w 101 ⟨g, 0, none⟩ hun .i64 ((at_ : Int) + 1) (by omega) (by rw [hlen]; omega), hel, hlen, Try.sizeOf23]
    have e1 : ((at_ : Int) + 1).toNat = at_ + 1 := by omega
    simp only [Result.andThen, slicedAt, e1, Nat.sub_zero]
    by_cases c : 7424 = 0
    · omega
    · simp [c, Addr.add]
  clear hc hl hH
  go_enter Try.func112, Try.ntmps112
  go_wp2
  go_loop [5, 7, 17] (fun s _ i => ∃ k : Nat, k ≤ at_ + 1 ∧ i = .int .i64 k ∧ s = .int .u64 (hsum (l.take k))) (fun _ _ i => at_ + 1 - (intOf i).toNat)
  case atStart => exact ⟨0, Nat.zero_le _, rfl, rfl⟩
  case round =>
    obtain ⟨k, hk, rfl, rfl⟩ := hrel
    by_cases hlt : k < at_ + 1
    · have hl := HL.out
      obtain ⟨y, hy⟩ : ∃ y, l.getD k 0 = y := ⟨_, rfl⟩
      have hcell : w.cell? ⟨g, k, none⟩ = some (.int .u64 y) := by rw [← hy]; exact HC.out k (by omega)
      have hk2 : l[k]? = some y := by rw [← hy, List.getD, List.getElem?_eq_getElem (show k < l.length by omega)]; rfl
      have hx := hr _ (List.mem_of_getElem? hk2)
      have hs := hsum_range _ (hr.take k)
      have hsn : hsum (l.take (k + 1)) = hold (hsum (l.take k) + y) := by
        rw [List.take_add_one, hk2]; exact hsum_snoc _ _
      have HS := Lib.hid hsn
      have A := fun w => wadd_any (hsum (l.take k)) y w hs.1 hs.2 hx.1 hx.2
      clear hl hk2 hsn hx hs hy
      go_wp2_with (go_at_call 63; refine (A _).mono ?_; rintro e w' ⟨rfl, rfl⟩)
      go_round
      case rel => exact ⟨k + 1, by omega, by go_num, by rw [HS.out]⟩
      case measure => simp [intOf]; omega
    · have hk3 : at_ + 1 = k := by omega
      subst hk3
      go_wp2
      go_ret
      exact ⟨rfl, rfl⟩

set_option maxHeartbeats 400000 in
theorem count_any (g : Nat) (l : List Int) (w : World) (hH : w.heap[g]? = some (.cells (hcells l) 103 (0, 0))) (hl : l.length = 7424) (hr : Cnt l) :
    Calls Try.prog 64 #[.pointer (some ⟨g, 0, none⟩)] w fun e w' => e = .returned (.tuple #[.int .u64 (hsum l), .int .i64 (if hsum l = 18446744073709551615 then 11 else 0)]) ∧ w = w' := by
  have U := upto_any g 7423 l w hH hl hr (by omega)
  rw [show l.take (7423 + 1) = l from List.take_of_length_le (by omega)] at U
  clear hH hl
  by_cases hc : hsum l = 18446744073709551615
  · have hb : (hsum l == 18446744073709551615) = true := beq_iff_eq.mpr hc
    rw [if_pos hc]
    clear hc
    go_enter Try.func64, Try.ntmps64
    go_wp2_with (go_at_call 112; refine U.mono ?_; rintro e w' ⟨rfl, rfl⟩)
    go_ret2
    exact ⟨rfl, rfl⟩
  · have hb : (hsum l == 18446744073709551615) = false := beq_eq_false_iff_ne.mpr hc
    rw [if_neg hc]
    clear hc
    go_enter Try.func64, Try.ntmps64
    go_wp2_with (go_at_call 112; refine U.mono ?_; rintro e w' ⟨rfl, rfl⟩)
    go_ret2
    exact ⟨rfl, rfl⟩

end Go.Proofs.Ytlfjfgcalilnpaa

namespace Go.Proofs.Ytlfjfgcalilnpaa
set_option linter.unusedVariables false
set_option linter.unusedSimpArgs false
open Go.RowKit Go.Proofs.YtlfjfgcalilnpaaW.PrintWords Go.Proofs.YtlfjfgcalilnpaaW.PrintLast Go.Proofs.YtlfjfgcalilnpaaW.PrintMore

theorem run_index101 (l : List Int) (k : Nat) (y : Int) (w : World) (hk : k < 7424) (hy : l[k]? = some y) : (Instr.index 101 (.agg (hcells l)) (.int .i64 (k : Int))).run Try.prog w = .ok (.int .u64 y) w := by
  have hg : (hcells l)[k]? = some (.int .u64 y) := by rw [hcells_get, hy]; rfl
  have hu := run_underlying (P := Try.prog) (w := w) Try.underlying101
  have hi : (0 ≤ (k : Int) ∧ (k : Int) < 7424) := by omega
  simp [Instr.index, asIntOf, hu, hi, part, Try.sizeOf23, Try.isAgg23, hg]
  intro h; omega

/-- The sum of numbers, not held. -/
def psum (l : List Int) : Int := l.foldl (· + ·) 0
theorem psum_snoc (l : List Int) (x : Int) : psum (l ++ [x]) = psum l + x := by simp [psum, List.foldl_append]

theorem info101 : (Try.prog.info? 101).map (·.size) = some 7424 := by kernel_rfl

set_option maxHeartbeats 1000000 in
set_option maxRecDepth 100000 in
/-- Quantile, where there is a count and a rank: 'r' is the bucket in which the rank is. -/
theorem quant_walk (g : Nat) (l : List Int) (a b n q k v : Int) (r : Nat) (tr tv : Bool) (w : World) (hH : w.heap[g]? = some (.cells (hcells l) 103 (0, 0))) (hl : l.length = 7424) (hr : Cnt l)
    (hb : (b == 0) = false) (hab : decide (b < a) = false) (hn : hsum l = n) (hs : (n == 18446744073709551615) = false) (hz : (n == 0) = false)
    (hC : ∀ w, Calls Try.prog 65 #[.int .u64 a, .int .u64 n, .int .u64 b] w fun e w' => e = .returned (.tuple #[.int .u64 q, .bool tr]) ∧ Below w.heap.size w w')
    (hk : max 1 q = k)
    (hL : ∀ w, Calls Try.prog 60 #[.int .i64 (r : Int)] w fun e w' => e = .returned (.tuple #[.int .u64 v, .bool tv]) ∧ Drawn0 w w')
    (hr1 : r < 7424) (hr2 : k ≤ psum (l.take (r + 1))) (hr3 : ∀ j, j < r → psum (l.take (j + 1)) < k) (hp : ∀ j, j ≤ r + 1 → 0 ≤ psum (l.take j) ∧ psum (l.take j) < 18446744073709551616) :
    Calls Try.prog 21 #[.pointer (some ⟨g, 0, none⟩), .int .u64 a, .int .u64 b] w fun e w' => e = .returned (.tuple #[.int .u64 v, .int .i64 0]) ∧ Below w.heap.size w w' := by
  have CO := count_any g l w hH hl hr
  rw [hn, if_neg (by simpa using hs)] at CO
  have HH := Lib.hid hH; have HL := Lib.hid hl; have HN := Lib.hid hn; have HP := Lib.hid hp; have HR2 := Lib.hid hr2; have HR3 := Lib.hid hr3
  clear hH hl hn hp hr2 hr3 hs
  go_enter Try.func21, Try.ntmps21
  go_wp2_with (first | (go_at_call 64; refine CO.mono ?_; rintro e w' ⟨rfl, rfl⟩) | (go_at_call 65; refine (hC _).mono ?_; rintro e w1 ⟨rfl, hb1⟩))
  go_step3
  go_wp2_with (first | (go_at_call 64; refine CO.mono ?_; rintro e w' ⟨rfl, rfl⟩) | (go_at_call 65; refine (hC _).mono ?_; rintro e w1 ⟨rfl, hb1⟩))
  have H1 := blk_below HH.out hb1
  have HH1 := Lib.hid H1
  have hinfo : (Try.prog.info? 101).map (·.size) = some (hcells l).size := by rw [info101, hcells_size, HL.out]
  clear H1
  go_step3
  go_wp2_with (refine wpList_load_row rfl _ _ rfl g rfl 103 (hcells l) (0, 0) _ HH1.out Try.underlying101 rfl hinfo ?_)
  clear hinfo HH1 hC CO hb hab hz hk
  go_wp2
  go_loop [12, 14, 15, 48] (fun s _ _ i => ∃ j : Nat, j ≤ r ∧ i = .int .i64 j ∧ s = .int .u64 (psum (l.take j))) (fun _ _ _ i => 7424 - (intOf i).toNat)
  case atStart => exact ⟨0, Nat.zero_le _, rfl, rfl⟩
  case round =>
    obtain ⟨j, hj, rfl, rfl⟩ := hrel
    have hj2 : j < 7424 := by omega
    have hl := HL.out
    obtain ⟨y, hy⟩ : ∃ y, l[j]? = some y := ⟨_, List.getElem?_eq_getElem (by omega)⟩
    obtain ⟨s, hs⟩ : ∃ s, psum (l.take j) = s := ⟨_, rfl⟩
    have hsn : psum (l.take (j + 1)) = s + y := by rw [List.take_add_one, hy, ← hs]; exact psum_snoc _ _
    obtain ⟨s1, hs1⟩ : ∃ s1, psum (l.take (j + 1)) = s1 := ⟨_, rfl⟩
    have hw1 : IntKind.u64.wrap (s + y) = s1 := by
      have := HP.out (j + 1) (by omega)
      rw [← hsn, hs1] at *
      rw [IntKind.wrap_u64]; omega
    have hidx := fun w => run_index101 l j y w hj2 hy
    have hd : decide ((j : Int) < 7424) = true := decide_eq_true (by omega)
    have HS1 := Lib.hid hs1
    have hr2 := HR2.out
    have hr3 := HR3.out j
    rw [hs1] at hr3
    rw [hs]
    by_cases hlt : j < r
    · have hk1 : decide (k ≤ s1) = false := decide_eq_false (by have := hr3 hlt; omega)
      clear hl hy hs hsn hs1 hr2 hr3
      go_wp2
      go_round
      case rel => exact ⟨j + 1, by omega, by go_num, by rw [HS1.out]⟩
      case measure => simp [intOf]; omega
    · have hjr : r = j := by omega
      subst hjr
      have hk1 : decide (k ≤ s1) = true := decide_eq_true (by rw [hs1] at hr2; omega)
      clear hl hy hs hsn hs1 hr2 hr3
      go_wp2_with (go_at_call 60; refine (hL _).mono ?_; rintro e w' ⟨rfl, ⟨m, rfl⟩⟩)
      rw [Exit.noGoto_ret]
      go_ret2
      exact ⟨rfl, pw_below_drewN hb1 m⟩

/-- Quantile, where there is none: a part of nothing or more than all, held counts, no count. -/
theorem quant_invalid (g : Nat) (a b : Int) (w : World) (h : b = 0 ∨ b < a) :
    Calls Try.prog 21 #[.pointer (some ⟨g, 0, none⟩), .int .u64 a, .int .u64 b] w fun e w' => e = .returned (.tuple #[.int .u64 0, .int .i64 5]) ∧ w = w' := by
  by_cases hz : b = 0
  · subst hz
    clear h
    go_enter Try.func21, Try.ntmps21
    go_wp2
    go_step3
    go_wp2
    rw [Exit.noGoto_ret]
    go_ret2
    exact ⟨rfl, rfl⟩
  · have hb : (b == 0) = false := beq_eq_false_iff_ne.mpr hz
    have hab : decide (b < a) = true := decide_eq_true (by omega)
    clear h hz
    go_enter Try.func21, Try.ntmps21
    go_wp2
    go_step3
    go_wp2
    rw [Exit.noGoto_ret]
    go_ret2
    exact ⟨rfl, rfl⟩
theorem quant_held (g : Nat) (l : List Int) (a b : Int) (w : World) (hH : w.heap[g]? = some (.cells (hcells l) 103 (0, 0))) (hl : l.length = 7424) (hr : Cnt l) (hb : b ≠ 0) (hab : a ≤ b) (hs : hsum l = 18446744073709551615) :
    Calls Try.prog 21 #[.pointer (some ⟨g, 0, none⟩), .int .u64 a, .int .u64 b] w fun e w' => e = .returned (.tuple #[.int .u64 0, .int .i64 11]) ∧ w = w' := by
  have CO := count_any g l w hH hl hr
  rw [hs, if_pos rfl] at CO
  have hb' : (b == 0) = false := beq_eq_false_iff_ne.mpr hb
  have hab' : decide (b < a) = false := decide_eq_false (by omega)
  clear hH hl hr hb hab hs
  go_enter Try.func21, Try.ntmps21
  go_wp2
  go_step3
  go_wp2_with (go_at_call 64; refine CO.mono ?_; rintro e w' ⟨rfl, rfl⟩)
  rw [Exit.noGoto_ret]
  go_ret2
  exact ⟨rfl, rfl⟩
theorem quant_empty (g : Nat) (l : List Int) (a b : Int) (w : World) (hH : w.heap[g]? = some (.cells (hcells l) 103 (0, 0))) (hl : l.length = 7424) (hr : Cnt l) (hb : b ≠ 0) (hab : a ≤ b) (hs : hsum l = 0) :
    Calls Try.prog 21 #[.pointer (some ⟨g, 0, none⟩), .int .u64 a, .int .u64 b] w fun e w' => e = .returned (.tuple #[.int .u64 0, .int .i64 3]) ∧ w = w' := by
  have CO := count_any g l w hH hl hr
  rw [hs, if_neg (by decide)] at CO
  have hb' : (b == 0) = false := beq_eq_false_iff_ne.mpr hb
  have hab' : decide (b < a) = false := decide_eq_false (by omega)
  clear hH hl hr hb hab hs
  go_enter Try.func21, Try.ntmps21
  go_wp2
  go_step3
  go_wp2_with (go_at_call 64; refine CO.mono ?_; rintro e w' ⟨rfl, rfl⟩)
  rw [Exit.noGoto_ret]
  go_ret2
  exact ⟨rfl, rfl⟩

end Go.Proofs.Ytlfjfgcalilnpaa

namespace Go.Proofs.Ytlfjfgcalilnpaa
set_option linter.unusedVariables false
set_option linter.unusedSimpArgs false
open Go.RowKit Go.Proofs.YtlfjfgcalilnpaaW.PrintWords Go.Proofs.YtlfjfgcalilnpaaW.PrintLast Go.Proofs.YtlfjfgcalilnpaaW.PrintMore

/-- The counts of a histogram: 7424 numbers of 64 bits. -/
def hgood (l : List Int) : Bool := l.length == 7424 && l.all (fun x => decide (0 ≤ x) && decide (x < 18446744073709551616))
theorem hgood_iff (l : List Int) : hgood l = true ↔ l.length = 7424 ∧ Cnt l := by
  simp [hgood, Cnt]
def hadd (l : List Int) (i : Nat) (n : Int) : List Int := l.set i (hold (l.getD i 0 + n))
theorem getD_get {l : List Int} {i : Nat} (h : i < l.length) : l[i]? = some (l.getD i 0) := by
  rw [List.getElem?_eq_getElem h, List.getD, List.getElem?_eq_getElem h]; rfl
theorem hadd_good {l : List Int} (h : hgood l = true) (i : Nat) (n : Int) (n0 : 0 ≤ n) : hgood (hadd l i n) = true := by
  rw [hgood_iff] at *
  refine ⟨by simp [hadd, h.1], fun x hx => ?_⟩
  unfold hadd at hx
  rcases List.mem_or_eq_of_mem_set hx with hx | rfl
  · exact h.2 x hx
  · refine hold_range ?_
    by_cases c : i < l.length
    · have := h.2 _ (List.mem_of_getElem? (getD_get c)); omega
    · rw [List.getD, List.getElem?_eq_none (by omega)]; simpa using n0
theorem hzero_good : hgood (hzero 7424) = true := by
  rw [hgood_iff]
  refine ⟨hzero_length _, fun x hx => ?_⟩
  rw [hzero, List.mem_replicate] at hx
  rw [hx.2]; omega

/-- Where the counts come to k: the first bucket up to which there are so many. -/
def rankAt (l : List Int) (k : Int) : Nat := ((List.range 7424).find? fun r => decide (k ≤ psum (l.take (r + 1)))).getD 0
theorem rankAt_spec {l : List Int} {k : Int} (hl : l.length = 7424) (h : k ≤ psum l) : rankAt l k < 7424 ∧ k ≤ psum (l.take (rankAt l k + 1)) ∧ ∀ j, j < rankAt l k → psum (l.take (j + 1)) < k := by
  unfold rankAt
  cases hf : (List.range 7424).find? (fun r => decide (k ≤ psum (l.take (r + 1)))) with
  | none =>
    rw [List.find?_eq_none] at hf
    have := hf 7423 (by rw [List.mem_range]; omega)
    rw [show l.take (7423 + 1) = l from List.take_of_length_le (by omega)] at this
    exact absurd h (by simpa using this)
  | some r =>
    rw [List.find?_range_eq_some] at hf
    obtain ⟨h1, h2, h3⟩ := hf
    refine ⟨by simpa using h2, by simpa using h1, fun j hj => ?_⟩
    have := h3 j hj
    simpa using this
theorem psum_nonneg (l : List Int) (h : Cnt l) : 0 ≤ psum l := by
  have key : ∀ (l : List Int) (s : Int), Cnt l → 0 ≤ s → 0 ≤ l.foldl (· + ·) s := by
    intro l
    induction l with
    | nil => intro s _ hs; exact hs
    | cons x l ih => intro s hl hs; exact ih (s + x) (fun y hy => hl y (by simp [hy])) (by have := hl x (by simp); omega)
  exact key l 0 h (by omega)
theorem psum_mono (l : List Int) (h : Cnt l) (j : Nat) : psum (l.take j) ≤ psum l := by
  have e : l = l.take j ++ l.drop j := (List.take_append_drop j l).symm
  have key : ∀ (l : List Int) (s : Int), psum l + s = l.foldl (· + ·) s := by
    intro l
    induction l with
    | nil => intro s; simp [psum]
    | cons x l ih => intro s; have a := ih x; have b := ih (s + x); simp [psum] at *; omega
  have e2 : psum l = psum (l.take j) + psum (l.drop j) := by
    conv => lhs; rw [e]
    have := key (l.drop j) (psum (l.take j))
    simp only [psum, List.foldl_append] at *
    omega
  have := psum_nonneg (l.drop j) (fun x hx => h x (List.mem_of_mem_drop hx))
  omega
theorem hsum_psum (l : List Int) (h : Cnt l) : hsum l = hold (psum l) := by
  have key : ∀ (l : List Int) (s : Int), Cnt l → 0 ≤ s → l.foldl (fun s x => hold (s + x)) (hold s) = hold (l.foldl (· + ·) s) := by
    intro l
    induction l with
    | nil => intro s _ _; rfl
    | cons x l ih =>
      intro s hl hs
      have hx := hl x (by simp)
      have : hold (hold s + x) = hold (s + x) := by unfold hold; repeat' split
                                                    all_goals omega
      simp only [List.foldl_cons]
      rw [this]
      exact ih _ (fun y hy => hl y (by simp [hy])) (by omega)
  exact key l 0 h (by omega)

/-- A bucket has more. -/
def haddAt (s : List Int) (i n : Int) : Option (List Int) := if hgood s = true ∧ (0 ≤ i ∧ i < 7424) ∧ (0 ≤ n ∧ n < 18446744073709551616) then some (hadd s i.toNat n) else none
theorem haddAt_some {s : List Int} {i n : Int} {t : List Int} (h : haddAt s i n = some t) : hgood s = true ∧ 0 ≤ i ∧ i < 7424 ∧ 0 ≤ n ∧ n < 18446744073709551616 ∧ hadd s i.toNat n = t := by
  unfold haddAt at h
  split at h
  case isTrue hr => exact ⟨hr.1, hr.2.1.1, hr.2.1.2, hr.2.2.1, hr.2.2.2, Option.some.inj h⟩
  case isFalse => cases h
/-- A world behind a name. -/
theorem name_world {P : Program} {c : Code} {Q : Exit → Act → World → Prop} {a : Act} (W : World) (h : ∀ W', Hid (W = W') → Code.wp P c Q a W') : Code.wp P c Q a W := h W (Lib.hid rfl)

end Go.Proofs.Ytlfjfgcalilnpaa
