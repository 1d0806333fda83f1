/- slices.Sort[[]uint64] on a slice that the call owns, nil let in. -/
import Derived.Test.YtpjchgiemmnikaaKBase
namespace Go.Proofs.Ytpjchgiemmnikaa
set_option linter.unusedVariables false
set_option linter.unusedSimpArgs false
open Go.RowKit Go.Sort Go.Proofs.YtpjchgiemmnikaaW.PrintWords Go.Proofs.Ytpjchgiemmnikaa.Pure

theorem insertionSort_nil (w : World) : Calls Try.prog 121 #[.slice none 0 0, .int .i64 0, .int .i64 0] w fun e w' => e = .returned (.tuple #[]) ∧ w' = w := by
  go_enter Try.func121, Try.ntmps121
  go_wp2
  go_loopw [6] (fun vi wr => vi = .int .i64 1 ∧ wr = w) (fun _ _ => 0)
  case atStart => exact ⟨rfl, rfl⟩
  case round =>
    obtain ⟨rfl, rfl⟩ := hrel
    go_wp2
    go_end0
    exact ⟨rfl, rfl⟩
theorem pdqsort_nil (w : World) (lim : Nat) : Calls Try.prog 100 #[.slice none 0 0, .int .i64 0, .int .i64 0, .int .i64 lim] w fun e w' => e = .returned (.tuple #[]) ∧ w' = w := by
  have C := insertionSort_nil w
  go_enter Try.func100, Try.ntmps100
  go_wp2
  go_loopw [1, 2] (fun va vb wr => va = .int .i64 0 ∧ vb = .int .i64 0 ∧ wr = w) (fun _ _ _ => 0)
  case atStart => exact ⟨rfl, rfl, rfl⟩
  case round =>
    obtain ⟨rfl, rfl, rfl⟩ := hrel
    go_wp2_with (go_at_call 121; refine C.mono ?_; rintro e w1 ⟨rfl, rfl⟩)
    (try simp only [Exit.inBlock, Exit.then]); refine bodyPost_ret (results_none rfl _ _ _) rfl ?_
    exact ⟨rfl, rfl⟩
theorem sort_nil (w : World) : Calls Try.prog 66 #[.slice none 0 0] w fun e w' => e = .returned (.tuple #[]) ∧ w' = w := by
  have C := Try.bits_Len 0 w (by omega) (by omega)
  have C2 := pdqsort_nil w (Lib.bitLen (Int.toNat 0))
  go_enter Try.func66, Try.ntmps66
  go_wp2_with (first | (go_at_call 101; refine C.mono ?_; rintro e w' ⟨rfl, rfl⟩; clear C) | (go_at_call 100; refine C2.mono ?_; rintro e w' ⟨rfl, rfl⟩; clear C2))
  go_end0
  exact ⟨rfl, rfl⟩
theorem sort_own {w : World} {base : Nat} {v : Value} {l : List Int} (ho : w.ownsRow base 25 1 v l.length (nums .u64 l)) (hl : l.length < 4611686018427387904) :
    Calls Try.prog 66 #[v] w fun e w' => e = .returned (.tuple #[]) ∧ ∃ l' : List Int, l'.Perm l ∧ l'.Pairwise (fun a b => a ≤ b) ∧ w'.ownsRow base 25 1 v l'.length (nums .u64 l') ∧ Below base w w' := by
  rcases ho.2 with ⟨rfl, h0⟩ | ⟨g, cap, cur, rfl, hbg, hg, hnc, hcm, hcs, htake⟩
  · have hn : l = [] := List.eq_nil_of_length_eq_zero h0
    subst hn
    exact (sort_nil w).mono fun e w' ⟨he, hw⟩ => ⟨he, [], List.Perm.refl _, List.Pairwise.nil, by rw [hw]; exact ho, by rw [hw]; exact Below.refl _ _⟩
  · have hH : Holds (Value.int .u64) w g 0 l.toArray := by
      intro j hj
      have hj' : j < l.length := by simpa using hj
      have hc : cur.toList[j]? = some (Value.int .u64 (l.toArray[j]!)) := by
        have e : (nums .u64 l)[j]? = some (Value.int .u64 (l.toArray[j]!)) := by
          unfold nums
          rw [List.getElem?_map, List.getElem?_eq_getElem hj']
          simp [getElem!_pos, hj']
        rw [← htake] at e
        rw [List.getElem?_take] at e
        split at e
        · exact e
        · cases e
      refine ⟨?_, ?_⟩
      · have := blk_cell hg (0 + j)
        rw [this]
        simpa using hc
      · exact blk_frozen hg (0 + j)
    refine (sort_u g 0 l.length cap l.toArray (by simp) w hH (by have := Array.getElem?_eq_some_iff.1 hg; exact this.1) (by simpa using hl)).mono ?_
    rintro e w' ⟨rfl, d', ⟨hp, hs⟩, hu⟩
    have e1 : d'.size = l.length := by rw [hp.1]; simp
    have hgs : g < w.heap.size := (Array.getElem?_eq_some_iff.1 hg).1
    have hw : w'.heap[g]? = some (.cells (putCells (Value.int .u64) 0 d' cur) 25 (0, 0)) := by
      rw [hu.block g hgs]
      unfold putRow mapBlock
      simp only [Array.getElem?_modify, if_true, hg, Option.map_some, onCells]
    refine ⟨rfl, d'.toList, ?_, ?_, ⟨?_, .inr ⟨g, cap, _, ?_, hbg, hw, ?_, hcm, ?_, ?_⟩⟩, ⟨hu.os, hu.tape, hu.output, hu.size, fun k hk => ?_⟩⟩
    · have := hp.2.2
      have e2 : List.take d'.size l = l := List.take_of_length_le (by omega)
      simpa [← e1, e2] using this
    · rw [List.pairwise_iff_getElem]
      intro i j hi hj hij
      have hj' : j < d'.size := by simpa using hj
      have := hs i j (Nat.zero_le _) hij (by omega)
      rw [getElem!_pos d' j hj', getElem!_pos d' i (by omega)] at this
      simp only [ltInt, decide_eq_false_iff_not, Array.getElem_toList] at this ⊢
      omega
    · simp [nums]
    · congr 1; simp [e1]
    · simpa [e1] using hnc
    · unfold putCells; simpa using hcs
    · unfold putCells nums
      apply List.ext_getElem?
      intro i
      rw [List.getElem?_take]
      by_cases hi : i < l.length
      · have hic : i < cur.size := by omega
        have hid : i < d'.size := by omega
        rw [if_pos (by simpa [e1] using hi)]
        simp [hic, hid, getElem!_pos d' i hid]
      · rw [if_neg (by simpa [e1] using hi), List.getElem?_eq_none (by simp [e1]; omega)]
    · rw [hu.block k (by omega)]
      exact putRow_heap _ _ _ _ _ (by omega)
end Go.Proofs.Ytpjchgiemmnikaa
