/- Quantile of a histogram, by a walk over its Go text. -/
import Derived.Test.YtmhejpcbgknncaaHistC
import Derived.Laws.Rows
namespace Go.Proofs.Ytmhejpcbgknncaa
open Go.RowKit Go.Proofs.YtmhejpcbgknncaaW.PrintWords Go.Proofs.YtmhejpcbgknncaaW.PrintLast Go.Proofs.YtmhejpcbgknncaaW.PrintMore

theorem run_index81 (l : List Int) (k : Nat) (y : Int) (w : World) (hk : k < 7424) (hy : l[k]? = some y) : (Instr.index 81 (.agg (hcells l)) (.int .i64 (k : Int))).run Try.prog w = .ok (.int .u64 y) w := by
  have hg : (hcells l)[k]? = some (.int .u64 y) := by rw [hcells_get, hy]; rfl
  have hu := run_underlying (P := Try.prog) (w := w) Try.underlying81
  have hi : (0 ≤ (k : Int) ∧ (k : Int) < 7424) := by omega
  simp [Instr.index, asIntOf, hu, hi, part, Try.sizeOf22, Try.isAgg22, hg]
  intro h; omega

/-- The sum of numbers, not held. -/
def psum (l : List Int) : Int := l.foldl (· + ·) 0
theorem psum_snoc (l : List Int) (x : Int) : psum (l ++ [x]) = psum l + x := by simp [psum, List.foldl_append]

theorem info81 : (Try.prog.info? 81).map (·.size) = some 7424 := by kernel_rfl

set_option maxHeartbeats 1000000 in
set_option maxRecDepth 100000 in
/-- Quantile, where there is a count and a rank: 'r' is the bucket in which the rank is. -/
theorem quant_walk (g : Nat) (l : List Int) (a b n q k v : Int) (r : Nat) (tr tv : Bool) (w : World) (hH : w.heap[g]? = some (.cells (hcells l) 83 (0, 0))) (hl : l.length = 7424) (hr : Cnt l)
    (hb : (b == 0) = false) (hab : decide (b < a) = false) (hn : hsum l = n) (hs : (n == 18446744073709551615) = false) (hz : (n == 0) = false)
    (hC : ∀ w, Calls Try.prog 51 #[.int .u64 a, .int .u64 n, .int .u64 b] w fun e w' => e = .returned (.tuple #[.int .u64 q, .bool tr]) ∧ Below w.heap.size w w')
    (hk : max 1 q = k)
    (hL : ∀ w, Calls Try.prog 17 #[.int .i64 (r : Int)] w fun e w' => e = .returned (.tuple #[.int .u64 v, .bool tv]) ∧ Drawn0 w w')
    (hr1 : r < 7424) (hr2 : k ≤ psum (l.take (r + 1))) (hr3 : ∀ j, j < r → psum (l.take (j + 1)) < k) (hp : ∀ j, j ≤ r + 1 → 0 ≤ psum (l.take j) ∧ psum (l.take j) < 18446744073709551616) :
    Calls Try.prog 26 #[.pointer (some ⟨g, 0, none⟩), .int .u64 a, .int .u64 b] w fun e w' => e = .returned (.tuple #[.int .u64 v, .int .i64 0]) ∧ Below w.heap.size w w' := by
  have CO := count_any g l w hH hl hr
  rw [hn, if_neg (by simpa using hs)] at CO
  have HH := Lib.hid hH; have HL := Lib.hid hl; have HN := Lib.hid hn; have HP := Lib.hid hp; have HR2 := Lib.hid hr2; have HR3 := Lib.hid hr3
  clear hH hl hn hp hr2 hr3 hs
  go_enter Try.func26, Try.ntmps26
  go_wp2_with (first | (go_at_call 28; refine CO.mono ?_; rintro e w' ⟨rfl, rfl⟩) | (go_at_call 51; refine (hC _).mono ?_; rintro e w1 ⟨rfl, hb1⟩))
  go_step3
  go_wp2_with (first | (go_at_call 28; refine CO.mono ?_; rintro e w' ⟨rfl, rfl⟩) | (go_at_call 51; refine (hC _).mono ?_; rintro e w1 ⟨rfl, hb1⟩))
  have H1 := blk_below HH.out hb1
  have HH1 := Lib.hid H1
  have hinfo : (Try.prog.info? 81).map (·.size) = some (hcells l).size := by rw [info81, hcells_size, HL.out]
  clear H1
  go_step3
  go_wp2_with (refine wpList_load_row rfl _ _ rfl g rfl 83 (hcells l) (0, 0) _ HH1.out Try.underlying81 rfl hinfo ?_)
  clear hinfo HH1 hC CO hb hab hz hk
  go_wp2
  go_loop [12, 14, 15, 48] (fun s _ _ i => ∃ j : Nat, j ≤ r ∧ i = .int .i64 j ∧ s = .int .u64 (psum (l.take j))) (fun _ _ _ i => 7424 - (intOf i).toNat)
  case atStart => exact ⟨0, Nat.zero_le _, rfl, rfl⟩
  case round =>
    obtain ⟨j, hj, rfl, rfl⟩ := hrel
    have hj2 : j < 7424 := by omega
    have hl := HL.out
    obtain ⟨y, hy⟩ : ∃ y, l[j]? = some y := ⟨_, List.getElem?_eq_getElem (by omega)⟩
    obtain ⟨s, hs⟩ : ∃ s, psum (l.take j) = s := ⟨_, rfl⟩
    have hsn : psum (l.take (j + 1)) = s + y := by rw [List.take_add_one, hy, ← hs]; exact psum_snoc _ _
    obtain ⟨s1, hs1⟩ : ∃ s1, psum (l.take (j + 1)) = s1 := ⟨_, rfl⟩
    have hw1 : IntKind.u64.wrap (s + y) = s1 := by
      have := HP.out (j + 1) (by omega)
      rw [← hsn, hs1] at *
      rw [IntKind.wrap_u64]; omega
    have hidx := fun w => run_index81 l j y w hj2 hy
    have hd : decide ((j : Int) < 7424) = true := decide_eq_true (by omega)
    have HS1 := Lib.hid hs1
    have hr2 := HR2.out
    have hr3 := HR3.out j
    rw [hs1] at hr3
    rw [hs]
    by_cases hlt : j < r
    · have hk1 : decide (k ≤ s1) = false := decide_eq_false (by have := hr3 hlt; omega)
      clear hl hy hs hsn hs1 hr2 hr3
      go_wp2
      go_round
      case rel => exact ⟨j + 1, by omega, by go_num, by rw [HS1.out]⟩
      case measure => simp [intOf]; omega
    · have hjr : r = j := by omega
      subst hjr
      have hk1 : decide (k ≤ s1) = true := decide_eq_true (by rw [hs1] at hr2; omega)
      clear hl hy hs hsn hs1 hr2 hr3
      go_wp2_with (go_at_call 17; refine (hL _).mono ?_; rintro e w' ⟨rfl, ⟨m, rfl⟩⟩)
      rw [Exit.noGoto_ret]
      go_ret2
      exact ⟨rfl, pw_below_drewN hb1 m⟩

/-- Quantile, where there is none: a part of nothing or more than all, held counts, no count. -/
theorem quant_invalid (g : Nat) (a b : Int) (w : World) (h : b = 0 ∨ b < a) :
    Calls Try.prog 26 #[.pointer (some ⟨g, 0, none⟩), .int .u64 a, .int .u64 b] w fun e w' => e = .returned (.tuple #[.int .u64 0, .int .i64 5]) ∧ w = w' := by
  by_cases hz : b = 0
  · subst hz
    clear h
    go_enter Try.func26, Try.ntmps26
    go_wp2
    go_step3
    go_wp2
    rw [Exit.noGoto_ret]
    go_ret2
    exact ⟨rfl, rfl⟩
  · have hb : (b == 0) = false := beq_eq_false_iff_ne.mpr hz
    have hab : decide (b < a) = true := decide_eq_true (by omega)
    clear h hz
    go_enter Try.func26, Try.ntmps26
    go_wp2
    go_step3
    go_wp2
    rw [Exit.noGoto_ret]
    go_ret2
    exact ⟨rfl, rfl⟩
theorem quant_held (g : Nat) (l : List Int) (a b : Int) (w : World) (hH : w.heap[g]? = some (.cells (hcells l) 83 (0, 0))) (hl : l.length = 7424) (hr : Cnt l) (hb : b ≠ 0) (hab : a ≤ b) (hs : hsum l = 18446744073709551615) :
    Calls Try.prog 26 #[.pointer (some ⟨g, 0, none⟩), .int .u64 a, .int .u64 b] w fun e w' => e = .returned (.tuple #[.int .u64 0, .int .i64 11]) ∧ w = w' := by
  have CO := count_any g l w hH hl hr
  rw [hs, if_pos rfl] at CO
  have hb' : (b == 0) = false := beq_eq_false_iff_ne.mpr hb
  have hab' : decide (b < a) = false := decide_eq_false (by omega)
  clear hH hl hr hb hab hs
  go_enter Try.func26, Try.ntmps26
  go_wp2
  go_step3
  go_wp2_with (go_at_call 28; refine CO.mono ?_; rintro e w' ⟨rfl, rfl⟩)
  rw [Exit.noGoto_ret]
  go_ret2
  exact ⟨rfl, rfl⟩
theorem quant_empty (g : Nat) (l : List Int) (a b : Int) (w : World) (hH : w.heap[g]? = some (.cells (hcells l) 83 (0, 0))) (hl : l.length = 7424) (hr : Cnt l) (hb : b ≠ 0) (hab : a ≤ b) (hs : hsum l = 0) :
    Calls Try.prog 26 #[.pointer (some ⟨g, 0, none⟩), .int .u64 a, .int .u64 b] w fun e w' => e = .returned (.tuple #[.int .u64 0, .int .i64 3]) ∧ w = w' := by
  have CO := count_any g l w hH hl hr
  rw [hs, if_neg (by decide)] at CO
  have hb' : (b == 0) = false := beq_eq_false_iff_ne.mpr hb
  have hab' : decide (b < a) = false := decide_eq_false (by omega)
  clear hH hl hr hb hab hs
  go_enter Try.func26, Try.ntmps26
  go_wp2
  go_step3
  go_wp2_with (go_at_call 28; refine CO.mono ?_; rintro e w' ⟨rfl, rfl⟩)
  rw [Exit.noGoto_ret]
  go_ret2
  exact ⟨rfl, rfl⟩

end Go.Proofs.Ytmhejpcbgknncaa
