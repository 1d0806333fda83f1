/- slices.insertionSortOrdered[uint64] by a walk over its Go text: it is the plain insertion sort. -/
import Derived.Test.YtpjchgiemmnikaaRows
import Derived.Sort.AssemblyPlain
import Derived.Sort.WalkA
import Derived.Deep.CutBlock
import Derived.Lib.Hide
import Derived.Sort.WalkB3
import Derived.Sort.WalkB12
import Derived.Outline
import Derived.Sort.WalkA6
import Derived.Deep.DeepCutAuto
import Derived.Sort.WalkC4
import Derived.Test.YtpjchgiemmnikaaWWords
import Derived.Test.YtpjchgiemmnikaaWLast
import Derived.Test.YtpjchgiemmnikaaWMore
import Derived.Test.YtpjchgiemmnikaaShelf
import Derived.Sort.Walk7a
import Derived.Sort.LotD2
import Derived.Sort.LotD3
import Derived.Sort.LotB
import Derived.Sort.LotC
import Derived.Deep.LoopGhost
import Derived.BigQuiet
namespace Go.Proofs.Ytpjchgiemmnikaa
set_option linter.unusedVariables false
set_option linter.unusedSimpArgs false
open Go.RowKit Go.Sort Go.Proofs

/-- A quiet call behind a quiet region: the draws are one sum. -/
theorem quiet_add_same {P : Program} {f : FuncId} {args : Array Value} {w : World} {a n : Nat} {v : Value} (h : Calls P f args (w.drewN (a + n)) fun e w' => e = .returned v ∧ w' = w.drewN (a + n)) :
    Calls P f args (w.drewN (a + n)) fun e w'' => e = .returned v ∧ ∃ m, w'' = w.drewN (a + m) := h.mono fun _ _ ⟨he, hm⟩ => ⟨he, n, hm⟩
theorem isNaN_u (x : Int) (w : World) : Calls Try.prog 149 #[.int .u64 x] w fun e w' => e = .returned (.bool false) ∧ w' = w := by
  go_enter Try.func149, Try.ntmps149
  go_wp2
  go_ret
  exact ⟨by simp, rfl⟩
theorem less_u (x y : Int) (w : World) : Calls Try.prog 127 #[.int .u64 x, .int .u64 y] w fun e w' => e = .returned (.bool (Sort.ltInt x y)) ∧ w' = w := by
  go_enter Try.func127, Try.ntmps127
  go_wp2_with (go_at_call 149; refine (isNaN_u _ _).mono ?_; rintro e w' ⟨rfl, rfl⟩)
  go_ret
  exact ⟨rfl, rfl⟩

/-- An exchange of two places, some draws on. -/
theorem swapU {wr w : World} {n blk off : Nat} {dk : Array Int} (hw : wr = putRow (Value.int .u64) (Sort.ahead w n) blk off dk) {q j k : Nat} {x y : Int} (hj : j < dk.size) (hk : k < dk.size) (hx : x = dk[k]!) (hy : y = dk[j]!) :
    ((wr.drewN q).setCell ⟨blk, off + j, none⟩ (.int .u64 x)).setCell ⟨blk, off + k, none⟩ (.int .u64 y) = putRow (Value.int .u64) (Sort.ahead w (n + q)) blk off (swp dk j k) := by
  rw [hw, hx, hy]
  exact swap_worldA _ w n q blk off dk j k hj hk

/-- A call on a row behind some draws. -/
theorem thenU {wr w : World} {n blk off q : Nat} {dk d' : Array Int} (hw : wr = putRow (Value.int .u64) (Sort.ahead w n) blk off dk) (hs : d'.size = dk.size) : putRow (Value.int .u64) (Sort.ahead wr q) blk off d' = putRow (Value.int .u64) (Sort.ahead w (n + q)) blk off d' := by
  rw [hw]; exact putRow_ahead_putRow _ _ _ _ _ _ _ _ hs
theorem holdsU {wr w : World} {n blk off : Nat} {d dk : Array Int} (hH : Holds (Value.int .u64) w blk off d) (hs : dk.size = d.size) (hw : wr = putRow (Value.int .u64) (Sort.ahead w n) blk off dk) : Holds (Value.int .u64) wr blk off dk := by
  rw [hw]; exact holds_putRow _ _ _ _ d dk (holds_ahead _ _ _ _ _ _ hH) hs

set_option maxHeartbeats 1000000 in
theorem insertionSort_u (blk off len cap a b : Nat) (d : Array Int) (hlen : d.size = len) (w : World) (hH : Holds (Value.int .u64) w blk off d) (hab : a ≤ b) (hb : b ≤ d.size) (hsz : d.size < 4611686018427387904) :
    Calls Try.prog 121 #[.slice (some ⟨blk, off, none⟩) len cap, .int .i64 a, .int .i64 b] w fun e w' =>
      e = .returned (.tuple #[]) ∧ ∃ n, w' = putRow (Value.int .u64) (Sort.ahead w n) blk off (Sort.insertionSort ltInt d a b) := by
  subst hlen
  go_enter Try.func121, Try.ntmps121
  go_wp2
  go_loopw [6] (fun vi wr => ∃ (i n : Nat) (dk : Array Int), vi = .int .i64 i ∧ a < i ∧ i ≤ b + 1 ∧ dk.size = d.size ∧ wr = putRow (Value.int .u64) (Sort.ahead w n) blk off dk ∧
      insOuter ltInt a b i dk = insOuter ltInt a b (a + 1) d) (fun vi _ => b + 1 - (intOf vi).toNat)
  case atStart => exact ⟨a + 1, 0, d, by go_num, by omega, by omega, rfl, (putRow_self _ _ _ _ _ hH).symm, rfl⟩
  case round =>
    obtain ⟨i, n, dk, rfl, hai, hib, hsk, hwr, hO⟩ := hrel
    have HO := Lib.hid hO
    clear hO
    go_wp2
    · go_loopw [7] (fun vj wr2 => ∃ (j m : Nat) (dj : Array Int), vj = .int .i64 j ∧ a ≤ j ∧ j ≤ i ∧ dj.size = d.size ∧ wr2 = putRow (Value.int .u64) (Sort.ahead w m) blk off dj ∧
          insInner ltInt a j dj = insInner ltInt a i dk) (fun vj _ => (intOf vj).toNat)
      case atStart => exact ⟨i, n, dk, rfl, by omega, Nat.le_refl _, hsk, rfl, rfl⟩
      case round =>
        obtain ⟨j, m, dj, rfl, haj, hji, hsj, hw2, hI⟩ := hrel
        have hlt : i < b := by assumption
        obtain ⟨G, hG⟩ : ∃ G : Nat → Int, ∀ t, G t = dj[t]! := ⟨fun t => dj[t]!, fun _ => rfl⟩
        have hcw : ∀ t, t < d.size → wr.cell? ⟨blk, off + t, none⟩ = some (.int .u64 (G t)) := fun t ht => by
          rw [hw2, hG]; exact cell?_putRow _ _ _ _ d dj (holds_ahead _ _ _ _ _ _ hH) hsj t (by omega)
        have hfw : ∀ t, t < d.size → wr.frozen? ⟨blk, off + t, none⟩ = false := fun t ht => by
          rw [hw2, frozen?_putRow]; exact ((holds_ahead _ _ m _ _ _ hH) t ht).2
        have HW := Lib.hid hw2
        have HG := Lib.hid hG
        have HI := Lib.hid hI
        clear hw2 hG hI hH
        have out : (j ≤ a ∨ ltInt dj[j]! dj[j - 1]! = false) → ∀ q, ∃ i' n' dk', Value.int .i64 ((i : Int) + 1) = .int .i64 (i' : Nat) ∧ a < i' ∧ i' ≤ b + 1 ∧ dk'.size = d.size ∧
            wr.drewN q = putRow (Value.int .u64) (Sort.ahead w n') blk off dk' ∧ insOuter ltInt a b i' dk' = insOuter ltInt a b (a + 1) d := fun hs q =>
          ⟨i + 1, m + q, dj, by go_num, by omega, by omega, hsj, by rw [HW.out]; exact putRow_drewN _ _ _ _ _ _ _,
            by rw [← HO.out, insOuter_go _ _ _ _ _ hlt, ← HI.out, insInner_stop _ _ _ _ hs]⟩
        have OUT := Lib.hid out
        clear out
        go_wp2
        by_cases hja : a < j
        · go_quiet (first | (go_at_call 127; refine Calls.quiet_of_same (less_u _ _ _)))
          go_wp2
          · have hl : ltInt (G j) (G (j - 1)) = true := by assumption
            go_region
            all_goals go_wp2
            go_roundw
            case rel =>
              refine ⟨j - 1, m + (nq + 1), swp dj j (j - 1), by congr 1; omega, by omega, by omega, by rw [size_swp]; exact hsj, ?_, ?_⟩
              · rw [HW.out, HG.out, HG.out]
                exact swap_worldA _ w m (nq + 1) blk off dj j (j - 1) (by omega) (by omega)
              · rw [← HI.out, insInner_go ltInt a j dj hja (by rw [← HG.out, ← HG.out]; exact hl)]
            case measure => simp [intOf]; omega
          · have hl : ltInt (G j) (G (j - 1)) = false := by assumption
            go_roundw
            case rel => exact OUT.out (Or.inr (by rw [← HG.out, ← HG.out]; exact hl)) nq
            case measure => simp [intOf]; omega
        · go_quiet (first | (go_at_call 127; refine Calls.quiet_of_same (less_u _ _ _)))
          go_wp2
          go_roundw
          case rel => exact OUT.out (Or.inl (by omega)) nq
          case measure => simp [intOf]; omega
    · have hge : ¬ i < b := by assumption
      go_end0
      exact ⟨rfl, n, by unfold Sort.insertionSort; rw [← HO.out, insOuter_stop _ _ _ _ _ hge]⟩
end Go.Proofs.Ytpjchgiemmnikaa

namespace Go.Proofs.Ytpjchgiemmnikaa
set_option linter.unusedVariables false
set_option linter.unusedSimpArgs false
open Go.RowKit Go.Sort Go.Proofs

/-- What a row holds behind some draws, its numbers under one name. -/
theorem famU {w wr : World} {m blk off : Nat} {d dj : Array Int} (hH : Holds (Value.int .u64) w blk off d) (hs : dj.size = d.size) (hw : wr = putRow (Value.int .u64) (Sort.ahead w m) blk off dj) :
    ∃ G : Nat → Int, (∀ t, G t = dj[t]!) ∧ (∀ t, t < d.size → wr.cell? ⟨blk, off + t, none⟩ = some (.int .u64 (G t))) ∧ (∀ t, t < d.size → wr.frozen? ⟨blk, off + t, none⟩ = false) :=
  ⟨fun t => dj[t]!, fun _ => rfl, fun t ht => by rw [hw]; exact cell?_putRow _ _ _ _ d dj (holds_ahead _ _ _ _ _ _ hH) hs t (by omega), fun t ht => by rw [hw, frozen?_putRow]; exact ((holds_ahead _ _ m _ _ _ hH) t ht).2⟩

set_option maxHeartbeats 2000000 in
theorem siftDown_u (blk off len cap lo hi first : Nat) (d : Array Int) (hlen : d.size = len) (w : World) (hH : Holds (Value.int .u64) w blk off d) (hb : first + hi ≤ d.size) (hlo : lo ≤ hi) (hsz : d.size < 4611686018427387904) :
    Calls Try.prog 144 #[.slice (some ⟨blk, off, none⟩) len cap, .int .i64 lo, .int .i64 hi, .int .i64 first] w fun e w' =>
      e = .returned (.tuple #[]) ∧ ∃ n, w' = putRow (Value.int .u64) (Sort.ahead w n) blk off (siftDown ltInt hi first lo d) := by
  subst hlen
  go_enter Try.func144, Try.ntmps144
  go_wp2
  go_loopw [8] (fun vi wr => ∃ (i n : Nat) (dk : Array Int), vi = .int .i64 i ∧ i ≤ hi ∧ dk.size = d.size ∧ wr = putRow (Value.int .u64) (Sort.ahead w n) blk off dk ∧
      siftDown ltInt hi first i dk = siftDown ltInt hi first lo d) (fun vi _ => hi - (intOf vi).toNat)
  case atStart => exact ⟨lo, 0, d, rfl, hlo, rfl, (putRow_self _ _ _ _ _ hH).symm, rfl⟩
  case round =>
    obtain ⟨i, n, dk, rfl, hi1, hsk, hwr, hO⟩ := hrel
    obtain ⟨G, hG, hcw, hfw⟩ := famU hH hsk hwr
    have HO := Lib.hid hO; have HG := Lib.hid hG; have HW := Lib.hid hwr
    clear hO hG hwr hH
    have DR : ∀ m, wr.drewN m = putRow (Value.int .u64) (Sort.ahead w (n + m)) blk off dk := fun m => by rw [HW.out]; exact putRow_drewN _ _ _ _ _ _ _
    have HDR := Lib.hid DR
    clear DR
    have e1 : first + (2 * i + 1) = first + 2 * i + 1 := by omega
    have e2 : first + (2 * i + 2) = first + 2 * i + 2 := by omega
    by_cases c1 : 2 * i + 1 < hi
    · by_cases c2 : 2 * i + 2 < hi
      · have g1 : decide (2 * (i : Int) + 1 + 1 < (hi : Int)) = true := decide_eq_true (by omega)
        have g2 : (2 * (i : Int) + 1 + 1 < (hi : Int)) := by omega
        go_wp2
        go_quiet (first | (go_at_call 127; exact Calls.quiet_of_same (less_u _ _ _)) | (go_at_call 127; exact quiet_add_same (less_u _ _ _)))
        go_wp2
        all_goals
          go_quiet (first | (go_at_call 127; exact Calls.quiet_of_same (less_u _ _ _)) | (go_at_call 127; exact quiet_add_same (less_u _ _ _)))
          go_wp2
        · have l12 : ltInt (G (first + 2 * i + 1)) (G (first + 2 * i + 2)) = true := by assumption
          have l0 : (!ltInt (G (first + i)) (G (first + 2 * i + 2))) = true := by assumption
          refine bodyPost_ret (results_none rfl _ _ _) rfl ?_
          exact ⟨rfl, _, by rw [HDR.out, putRow_drewN, ← HO.out, sd_right_stop ltInt dk c2 (by rw [e1, e2, ← HG.out, ← HG.out]; exact l12) (by rw [e2, ← HG.out, ← HG.out]; simpa using l0)]⟩
        · have l12 : ltInt (G (first + 2 * i + 1)) (G (first + 2 * i + 2)) = true := by assumption
          have l0 : (!ltInt (G (first + i)) (G (first + 2 * i + 2))) = false := by assumption
          go_region
          all_goals go_wp2
          go_roundw
          case rel =>
            refine ⟨2 * i + 2, _, swp dk (first + i) (first + 2 * i + 2), by first | rfl | (congr 1; omega), by omega, by rw [size_swp]; exact hsk, swapU HW.out (by omega) (by omega) (HG.out _) (HG.out _), ?_⟩
            rw [← HO.out, sd_right_go ltInt dk c2 (by rw [e1, e2, ← HG.out, ← HG.out]; exact l12) (by rw [e2, ← HG.out, ← HG.out]; simpa using l0), e2]
          case measure => simp [intOf]; omega
        · have l12 : ltInt (G (first + 2 * i + 1)) (G (first + 2 * i + 2)) = false := by assumption
          have l0 : (!ltInt (G (first + i)) (G (first + 2 * i + 1))) = true := by assumption
          refine bodyPost_ret (results_none rfl _ _ _) rfl ?_
          exact ⟨rfl, _, by rw [HDR.out, putRow_drewN, ← HO.out, sd_left_stop ltInt dk c1 (fun _ => by rw [e1, e2, ← HG.out, ← HG.out]; exact l12) (by rw [e1, ← HG.out, ← HG.out]; simpa using l0)]⟩
        · have l12 : ltInt (G (first + 2 * i + 1)) (G (first + 2 * i + 2)) = false := by assumption
          have l0 : (!ltInt (G (first + i)) (G (first + 2 * i + 1))) = false := by assumption
          go_region
          all_goals go_wp2
          go_roundw
          case rel =>
            refine ⟨2 * i + 1, _, swp dk (first + i) (first + 2 * i + 1), by first | rfl | (congr 1; omega), by omega, by rw [size_swp]; exact hsk, swapU HW.out (by omega) (by omega) (HG.out _) (HG.out _), ?_⟩
            rw [← HO.out, sd_left_go ltInt dk c1 (fun _ => by rw [e1, e2, ← HG.out, ← HG.out]; exact l12) (by rw [e1, ← HG.out, ← HG.out]; simpa using l0), e1]
          case measure => simp [intOf]; omega
      · have g1 : decide (2 * (i : Int) + 1 + 1 < (hi : Int)) = false := decide_eq_false (by omega)
        have g2 : ¬ (2 * (i : Int) + 1 + 1 < (hi : Int)) := by omega
        go_wp2
        go_quiet (first | (go_at_call 127; exact Calls.quiet_of_same (less_u _ _ _)) | (go_at_call 127; exact quiet_add_same (less_u _ _ _)))
        go_wp2
        go_quiet (first | (go_at_call 127; exact Calls.quiet_of_same (less_u _ _ _)) | (go_at_call 127; exact quiet_add_same (less_u _ _ _)))
        go_wp2
        · have l0 : (!ltInt (G (first + i)) (G (first + 2 * i + 1))) = true := by assumption
          refine bodyPost_ret (results_none rfl _ _ _) rfl ?_
          exact ⟨rfl, _, by rw [HDR.out, putRow_drewN, ← HO.out, sd_left_stop ltInt dk c1 (fun h => absurd h c2) (by rw [e1, ← HG.out, ← HG.out]; simpa using l0)]⟩
        · have l0 : (!ltInt (G (first + i)) (G (first + 2 * i + 1))) = false := by assumption
          go_region
          all_goals go_wp2
          go_roundw
          case rel =>
            refine ⟨2 * i + 1, _, swp dk (first + i) (first + 2 * i + 1), by first | rfl | (congr 1; omega), by omega, by rw [size_swp]; exact hsk, swapU HW.out (by omega) (by omega) (HG.out _) (HG.out _), ?_⟩
            rw [← HO.out, sd_left_go ltInt dk c1 (fun h => absurd h c2) (by rw [e1, ← HG.out, ← HG.out]; simpa using l0), e1]
          case measure => simp [intOf]; omega
    · go_wp2
      go_end0
      exact ⟨rfl, n, by rw [HW.out, ← HO.out, sd_end ltInt dk (by omega)]⟩
end Go.Proofs.Ytpjchgiemmnikaa

namespace Go.Proofs.Ytpjchgiemmnikaa
set_option linter.unusedVariables false
set_option linter.unusedSimpArgs false
open Go.RowKit Go.Sort Go.Proofs

theorem reverseLoop_go (i j : Nat) (d : Array Int) (h : i < j) : reverseLoop i j d = reverseLoop (i + 1) (j - 1) (swp d i j) := by rw [reverseLoop, if_pos h]
theorem reverseLoop_end (i j : Nat) (d : Array Int) (h : ¬ i < j) : reverseLoop i j d = d := by rw [reverseLoop, if_neg h]

set_option maxHeartbeats 1000000 in
theorem reverseRange_u (blk off len cap a b : Nat) (d : Array Int) (hlen : d.size = len) (w : World) (hH : Holds (Value.int .u64) w blk off d) (hab : a < b) (hb : b ≤ d.size) (hsz : d.size < 4611686018427387904) :
    Calls Try.prog 125 #[.slice (some ⟨blk, off, none⟩) len cap, .int .i64 a, .int .i64 b] w fun e w' =>
      e = .returned (.tuple #[]) ∧ ∃ n, w' = putRow (Value.int .u64) (Sort.ahead w n) blk off (Sort.reverseRange d a b) := by
  subst hlen
  have e0 : (b : Int) - 1 = ((b - 1 : Nat) : Int) := by omega
  go_enter Try.func125, Try.ntmps125
  go_wp2
  go_loopw [6, 7] (fun vi vj wr => ∃ (i j n : Nat) (dk : Array Int), vi = .int .i64 i ∧ vj = .int .i64 j ∧ i ≤ j + 1 ∧ j < b ∧ dk.size = d.size ∧ wr = putRow (Value.int .u64) (Sort.ahead w n) blk off dk ∧
      reverseLoop i j dk = reverseLoop a (b - 1) d) (fun vi _ _ => b - (intOf vi).toNat)
  case atStart => exact ⟨a, b - 1, 0, d, rfl, by first | rfl | rw [e0], by omega, by omega, rfl, (putRow_self _ _ _ _ _ hH).symm, rfl⟩
  case round =>
    obtain ⟨i, j, n, dk, rfl, rfl, hij, hjb, hsk, hwr, hO⟩ := hrel
    obtain ⟨G, hG, hcw, hfw⟩ := famU hH hsk hwr
    have HO := Lib.hid hO; have HG := Lib.hid hG; have HW := Lib.hid hwr
    clear hO hG hwr hH e0
    by_cases c : i < j
    · go_wp2
      go_region
      all_goals go_wp2
      go_roundw
      case rel => exact ⟨i + 1, j - 1, _, swp dk i j, by go_num, by congr 1; omega, by omega, by omega, by rw [size_swp]; exact hsk, swapU (q := 1) HW.out (by omega) (by omega) (HG.out _) (HG.out _), by rw [← HO.out, reverseLoop_go i j dk c]⟩
      case measure => simp [intOf]; omega
    · go_wp2
      go_end0
      exact ⟨rfl, n, by rw [HW.out, Sort.reverseRange, ← HO.out, reverseLoop_end i j dk c]⟩

theorem size_sift (hi F root : Nat) (d : Array Int) : (siftDown ltInt hi F root d).size = d.size := size_siftDown ltInt hi F _ root d (Nat.le_refl _)
theorem build_go (hi F k : Nat) (d : Array Int) : heapBuild ltInt hi F (k + 1) d = heapBuild ltInt hi F k (siftDown ltInt hi F k d) := rfl
theorem pop_go (F k : Nat) (d : Array Int) : heapPop ltInt F (k + 1) d = heapPop ltInt F k (siftDown ltInt k F 0 (swp d F (F + k))) := rfl

set_option maxHeartbeats 2000000 in
theorem heapSort_u (blk off len cap a b : Nat) (d : Array Int) (hlen : d.size = len) (w : World) (hH : Holds (Value.int .u64) w blk off d) (hab : a ≤ b) (hb : b ≤ d.size) (hsz : d.size < 4611686018427387904) :
    Calls Try.prog 122 #[.slice (some ⟨blk, off, none⟩) len cap, .int .i64 a, .int .i64 b] w fun e w' =>
      e = .returned (.tuple #[]) ∧ ∃ n, w' = putRow (Value.int .u64) (Sort.ahead w n) blk off (Sort.heapSort ltInt d a b) := by
  subst hlen
  obtain ⟨hi, hhi⟩ : ∃ hi : Nat, b - a = hi := ⟨_, rfl⟩
  have e0 : (b : Int) - (a : Int) = (hi : Int) := by omega
  have hs := half_start hab
  rw [e0, hhi] at hs
  obtain ⟨T, hT⟩ : ∃ T : Int, T = (((hi - 1) / 2 + 1 : Nat) : Int) - 1 := ⟨_, rfl⟩
  rw [← hT] at hs
  have HS := Lib.hid hs
  have HT := Lib.hid hT
  clear hT
  have HE := Lib.hid e0
  have HI := Lib.hid hhi
  have hb2 : a + hi ≤ d.size := by omega
  have hh : heapSort ltInt d a b = heapPop ltInt a hi (heapBuild ltInt hi a ((hi - 1) / 2 + 1) d) := by unfold Sort.heapSort; rw [hhi]
  have HH := Lib.hid hh
  clear e0 hs hhi hh
  go_enter Try.func122, Try.ntmps122
  go_wp2
  rw [HE.out, HS.out]
  go_loopw [9] (fun vi wr => ∃ (k n : Nat) (z : Int) (dk : Array Int), vi = .int .i64 z ∧ z = (k : Int) - 1 ∧ k ≤ (hi - 1) / 2 + 1 ∧ dk.size = d.size ∧ wr = putRow (Value.int .u64) (Sort.ahead w n) blk off dk ∧
      heapBuild ltInt hi a k dk = heapBuild ltInt hi a ((hi - 1) / 2 + 1) d) (fun vi _ => (intOf vi + 1).toNat)
  case atStart => exact ⟨_, 0, _, d, rfl, HT.out, Nat.le_refl _, rfl, (putRow_self _ _ _ _ _ hH).symm, rfl⟩
  case round =>
    obtain ⟨k, n, z, dk, rfl, hz, hk, hsk, hwr, hO⟩ := hrel
    have HO := Lib.hid hO; have HW := Lib.hid hwr; have HK := Lib.hid hsk
    clear hO hwr
    rcases Nat.eq_zero_or_pos k with hk0 | hk0
    · subst hk0
      have hz2 : ¬ (0 ≤ z) := by omega
      have hz3 : decide (0 ≤ z) = false := decide_eq_false hz2
      go_wp2
      go_loopw [10] (fun vi wr => ∃ (k n : Nat) (z : Int) (dj : Array Int), vi = .int .i64 z ∧ z = (k : Int) - 1 ∧ k ≤ hi ∧ dj.size = d.size ∧ wr = putRow (Value.int .u64) (Sort.ahead w n) blk off dj ∧
          heapPop ltInt a k dj = heapPop ltInt a hi dk) (fun vi _ => (intOf vi + 1).toNat)
      case atStart => exact ⟨hi, n, _, dk, rfl, rfl, Nat.le_refl _, HK.out, HW.out, rfl⟩
      case round =>
        obtain ⟨k, n, z, dj, rfl, hz, hk, hsj, hwr, hP⟩ := hrel
        obtain ⟨G, hG, hcw, hfw⟩ := famU hH hsj hwr
        have HP := Lib.hid hP; have HG := Lib.hid hG; have HW := Lib.hid hwr
        clear hP hG hwr hz2 hz3
        rcases Nat.eq_zero_or_pos k with hk0 | hk0
        · subst hk0
          have hz2 : ¬ (0 ≤ z) := by omega
          have hz3 : decide (0 ≤ z) = false := decide_eq_false hz2
          go_wp2
          go_end0
          exact ⟨rfl, n, by rw [HW.out, HH.out, ← HO.out]; exact congrArg _ (show dj = _ by rw [show heapBuild ltInt hi a 0 dk = dk from rfl, ← HP.out]; rfl)⟩
        · obtain ⟨k, rfl⟩ : ∃ m, k = m + 1 := ⟨k - 1, by omega⟩
          obtain rfl : z = (k : Int) := by omega
          clear hz
          have hca := hcw a (by omega)
          have hck := hcw (a + k) (by omega)
          obtain ⟨v', hy'⟩ := cell?_setCell_some (w := wr) (p := ⟨blk, off + a, none⟩) (x := .int .u64 (G (a + k))) (q := ⟨blk, off + (a + k), none⟩) (v := .int .u64 (G (a + k))) hck
          go_wp2
          go_region
          have SW := fun q x y (hx : x = dj[a + k]!) (hy : y = dj[a]!) => swapU (q := q) HW.out (j := a) (k := a + k) (by omega) (by omega) hx hy
          have hHr := holdsU hH hsj HW.out
          have SZ := size_swp dj a (a + k)
          have SW2 : ((wr.setCell ⟨blk, off + a, none⟩ (.int .u64 (G (a + k)))).setCell ⟨blk, off + (a + k), none⟩ (.int .u64 (G a))).drew = putRow (Value.int .u64) (Sort.ahead w (n + 1)) blk off (swp dj a (a + k)) := SW 1 _ _ (HG.out _) (HG.out _)
          obtain ⟨W2, hW2⟩ : ∃ W2, putRow (Value.int .u64) (Sort.ahead w (n + 1)) blk off (swp dj a (a + k)) = W2 := ⟨_, rfl⟩
          have C := siftDown_u blk off d.size cap 0 k a (swp dj a (a + k)) (by rw [SZ]; exact hsj) W2 (holdsU hH (by rw [SZ]; exact hsj) hW2.symm) (by rw [SZ]; omega) (by omega) (by rw [SZ]; omega)
          rw [hW2] at SW2
          have HW2 := Lib.hid hW2; have HSW2 := Lib.hid SW2
          clear hW2 SW2 hca hck hy' hcw hfw SW hHr
          all_goals
            rw [HSW2.out]
            go_wp2_with (go_at_call 144; refine C.mono ?_; rintro e w1 ⟨rfl, q, rfl⟩; clear C)
            go_roundw
            case rel => first | exact ⟨k, _, _, siftDown ltInt k a 0 (swp dj a (a + k)), rfl, by first | rfl | omega, by omega, by rw [size_sift, SZ]; exact hsj, thenU HW2.out.symm (size_sift _ _ _ _), by rw [← HP.out, pop_go]⟩ | ((repeat apply Exists.intro); exact ⟨⟨k, _, _, siftDown ltInt k a 0 (swp dj a (a + k)), rfl, by first | rfl | omega, by omega, by rw [size_sift, SZ]; exact hsj, thenU HW2.out.symm (size_sift _ _ _ _), by rw [← HP.out, pop_go]⟩, rfl⟩)
            case measure => first | (simp [intOf]; done) | (simp [intOf]; omega)
    · obtain ⟨k, rfl⟩ : ∃ m, k = m + 1 := ⟨k - 1, by omega⟩
      obtain rfl : z = (k : Int) := by omega
      clear hz
      have hHr := holdsU hH hsk HW.out
      have C := siftDown_u blk off d.size cap k hi a dk hsk wr hHr (by omega) (by omega) (by omega)
      clear hHr
      go_wp2_with (go_at_call 144; refine C.mono ?_; rintro e w1 ⟨rfl, q, rfl⟩; clear C)
      go_roundw
      case rel => first | exact ⟨k, _, _, siftDown ltInt hi a k dk, rfl, by first | rfl | omega, by omega, by rw [size_sift]; exact HK.out, thenU HW.out (size_sift _ _ _ _), by rw [← HO.out, build_go]⟩ | ((repeat apply Exists.intro); exact ⟨⟨k, _, _, siftDown ltInt hi a k dk, rfl, by first | rfl | omega, by omega, by rw [size_sift]; exact HK.out, thenU HW.out (size_sift _ _ _ _), by rw [← HO.out, build_go]⟩, rfl⟩)
      case measure => first | (simp [intOf]; done) | (simp [intOf]; omega)
end Go.Proofs.Ytpjchgiemmnikaa

namespace Go.Proofs.Ytpjchgiemmnikaa
set_option linter.unusedVariables false
set_option linter.unusedSimpArgs false
open Go.RowKit Go.Sort Go.Proofs

theorem size_shiftDown (j : Nat) (d : Array Int) : (shiftDown ltInt j d).size = d.size := by
  induction j generalizing d with
  | zero => rw [shiftDown]
  | succ j ih => rw [shiftDown]; split; · rfl
                 · rw [ih, size_swp]
theorem size_shiftUp (b : Nat) : ∀ (n j : Nat) (d : Array Int), b - j ≤ n → (shiftUp ltInt b j d).size = d.size := by
  intro n
  induction n with
  | zero => intro j d h; rw [shiftUp, if_neg (by omega)]
  | succ n ih =>
    intro j d h
    rw [shiftUp]
    split
    · split
      · rfl
      · rw [ih _ _ (by omega), size_swp]
    · rfl
theorem scan_range (d : Array Int) (b : Nat) : ∀ (n i : Nat), b - i ≤ n → i ≤ b → i ≤ scanSorted ltInt d b i ∧ scanSorted ltInt d b i ≤ b := by
  intro n
  induction n with
  | zero => intro i h hi; rw [scanSorted_stop ltInt d b i (.inl (by omega))]; omega
  | succ n ih =>
    intro i h hi
    by_cases c : i < b
    · cases hl : ltInt d[i]! d[i - 1]! with
      | true => rw [scanSorted_stop ltInt d b i (.inr hl)]; omega
      | false => rw [scanSorted_go ltInt d b i c hl]; have := ih (i + 1) (by omega) (by omega); omega
    · rw [scanSorted_stop ltInt d b i (.inl c)]; omega

/-- A world behind a name. -/
theorem name_world {P : Program} {c : Code} {Q : Exit → Act → World → Prop} {a : Act} (W : World) (h : ∀ W', Hid (W = W') → Code.wp P c Q a W') : Code.wp P c Q a W := h W (Lib.hid rfl)

set_option maxHeartbeats 4000000 in
set_option maxRecDepth 100000 in
theorem partialIns_u (blk off len cap a b : Nat) (d : Array Int) (hlen : d.size = len) (w : World) (hH : Holds (Value.int .u64) w blk off d) (hab : a < b) (hb : b ≤ d.size) (hsz : d.size < 4611686018427387904) :
    Calls Try.prog 126 #[.slice (some ⟨blk, off, none⟩) len cap, .int .i64 a, .int .i64 b] w fun e w' =>
      e = .returned (.bool (Sort.partialInsertionSort ltInt d a b).2) ∧ ∃ n, w' = putRow (Value.int .u64) (Sort.ahead w n) blk off (Sort.partialInsertionSort ltInt d a b).1 := by
  subst hlen
  go_enter Try.func126, Try.ntmps126
  go_wp2
  go_loopw [7, 8] (fun vi vs wr => ∃ (i s n : Nat) (dk : Array Int), vi = .int .i64 i ∧ vs = .int .i64 s ∧ s ≤ 5 ∧ a < i ∧ i ≤ b ∧ dk.size = d.size ∧ wr = putRow (Value.int .u64) (Sort.ahead w n) blk off dk ∧
      partialIns ltInt a b (5 - s) i dk = Sort.partialInsertionSort ltInt d a b) (fun _ vs _ => 5 - (intOf vs).toNat)
  case atStart => exact ⟨a + 1, 0, 0, d, by go_num, rfl, by omega, by omega, by omega, rfl, (putRow_self _ _ _ _ _ hH).symm, rfl⟩
  case round =>
    obtain ⟨i, s, n, dk, rfl, rfl, hs5, hai, hib, hsk, hwr, hO⟩ := hrel
    have HO := Lib.hid hO; have HW := Lib.hid hwr
    clear hO hwr
    by_cases c5 : s < 5
    · go_upto_block 2 with (fail)
      go_cut [7] (fun v7 wc => ∃ (i2 m : Nat), v7 = .int .i64 i2 ∧ Hid (scanSorted ltInt dk b i = i2) ∧ Hid (wc = putRow (Value.int .u64) (Sort.ahead w m) blk off dk))
      case first =>
        go_wp2
        go_loopw [7] (fun vi wr2 => ∃ (j m : Nat), vi = .int .i64 j ∧ a < j ∧ j ≤ b ∧ wr2 = putRow (Value.int .u64) (Sort.ahead w m) blk off dk ∧ scanSorted ltInt dk b j = scanSorted ltInt dk b i) (fun vi _ => b - (intOf vi).toNat)
        case atStart => exact ⟨i, n, rfl, hai, hib, HW.out, rfl⟩
        case round =>
          obtain ⟨j, m, rfl, haj, hjb, hw2, hI⟩ := hrel
          obtain ⟨G, hG, hcw, hfw⟩ := famU hH hsk hw2
          have HI := Lib.hid hI; have HG := Lib.hid hG; have HW2 := Lib.hid hw2
          clear hI hG hw2
          by_cases hjb2 : j < b
          · go_wp2
            go_quiet (first | (go_at_call 127; exact Calls.quiet_of_same (less_u _ _ _)) | (go_at_call 127; exact quiet_add_same (less_u _ _ _)))
            go_wp2
            · have hl : (!ltInt (G j) (G (j - 1))) = true := by assumption
              go_roundw
              case rel => exact ⟨j + 1, _, by go_num, by omega, by omega, by rw [HW2.out]; exact putRow_drewN _ _ _ _ _ _ _, by rw [← HI.out, scanSorted_go ltInt dk b j hjb2 (by rw [← HG.out, ← HG.out]; simpa using hl)]⟩
              case measure => simp [intOf]; omega
            · have hl : (!ltInt (G j) (G (j - 1))) = false := by assumption
              go_meet
              case rel => exact ⟨j, _, rfl, Lib.hid (by rw [← HI.out, scanSorted_stop ltInt dk b j (.inr (by rw [← HG.out, ← HG.out]; simpa using hl))]), Lib.hid (by rw [HW2.out]; exact putRow_drewN _ _ _ _ _ _ _)⟩
          · go_wp2
            go_quiet (first | (go_at_call 127; exact Calls.quiet_of_same (less_u _ _ _)) | (go_at_call 127; exact quiet_add_same (less_u _ _ _)))
            go_wp2
            go_meet
            case rel => exact ⟨j, _, rfl, Lib.hid (by rw [← HI.out, scanSorted_stop ltInt dk b j (.inl hjb2)]), Lib.hid (by rw [HW2.out]; exact putRow_drewN _ _ _ _ _ _ _)⟩
      case rest =>
        obtain ⟨i2, m, rfl, HS, HW2⟩ := hcut
        have hr := scan_range dk b _ i (Nat.le_refl _) hib
        rw [HS.out] at hr
        by_cases hib2 : i2 = b
        · have PE := pi_true ltInt a b s i dk c5 (by rw [HS.out, hib2])
          rw [HO.out] at PE
          have HPE := Lib.hid PE
          subst hib2
          clear PE
          go_wp2
          refine bodyPost_ret (v := .bool true) (by simp [results, Try.results126, go_sem]) rfl ⟨by rw [HPE.out], m, by rw [HW2.out, HPE.out]⟩
        · by_cases h50 : b - a < 50
          · have PE := pi_short ltInt a b s i dk c5 (by rw [HS.out]; exact hib2) h50
            rw [HO.out] at PE
            have HPE := Lib.hid PE
            clear PE
            go_wp2
            refine bodyPost_ret (v := .bool false) (by simp [results, Try.results126, go_sem]) rfl ⟨by rw [HPE.out], m, by rw [HW2.out, HPE.out]⟩
          · have PE := pi_go ltInt a b s i i2 dk c5 HS.out hib2 h50
            rw [HO.out] at PE
            have HPE := Lib.hid PE
            clear PE
            obtain ⟨G, hG, hcw, hfw⟩ := famU hH hsk HW2.out
            have HG := Lib.hid hG
            clear hG
            go_wp2
            go_region
            all_goals go_upto_if 61 with (fail)
            refine name_world _ (fun W3 HW3 => ?_)
            have HW4 : Hid (W3 = putRow (Value.int .u64) (Sort.ahead w (m + 1)) blk off (swp dk i2 (i2 - 1))) := Lib.hid (by rw [← HW3.out]; exact swapU (q := 1) HW2.out (by omega) (by omega) (HG.out _) (HG.out _))
            have hs1 : (swp dk i2 (i2 - 1)).size = d.size := by rw [size_swp]; exact hsk
            obtain ⟨d1, hd1⟩ : ∃ d1, swp dk i2 (i2 - 1) = d1 := ⟨_, rfl⟩
            rw [hd1] at HPE HW4 hs1
            have HD1 := Lib.hid hd1
            clear hd1 HW3 hcw hfw
            go_cut [9] (fun v9 wc => ∃ (m2 : Nat) (d2 : Array Int), Hid (fixDown ltInt a i2 d1 = d2) ∧ d2.size = d.size ∧ Hid (wc = putRow (Value.int .u64) (Sort.ahead w m2) blk off d2))
            case first =>
              by_cases h2 : 2 ≤ i2 - a
              · go_wp2
                go_loopw [9] (fun vi wr2 => ∃ (j m : Nat) (dj : Array Int), vi = .int .i64 j ∧ j < i2 ∧ dj.size = d.size ∧ wr2 = putRow (Value.int .u64) (Sort.ahead w m) blk off dj ∧ shiftDown ltInt j dj = shiftDown ltInt (i2 - 1) d1) (fun vi _ => (intOf vi).toNat)
                case atStart => exact ⟨i2 - 1, m + 1, d1, by congr 1; omega, by omega, hs1, HW4.out, rfl⟩
                case round =>
                  obtain ⟨j, m, dj, rfl, hj, hsj, hw2, hI⟩ := hrel
                  obtain ⟨G, hG, hcw, hfw⟩ := famU hH hsj hw2
                  have HI := Lib.hid hI; have HG := Lib.hid hG; have HW6 := Lib.hid hw2
                  have hfd : fixDown ltInt a i2 d1 = shiftDown ltInt (i2 - 1) d1 := if_pos h2
                  have HFD := Lib.hid hfd
                  clear hI hG hw2 hfd
                  by_cases hj1 : 1 ≤ j
                  · go_wp2
                    go_quiet (first | (go_at_call 127; exact Calls.quiet_of_same (less_u _ _ _)) | (go_at_call 127; exact quiet_add_same (less_u _ _ _)))
                    go_wp2
                    · have hl : (!ltInt (G j) (G (j - 1))) = true := by assumption
                      go_meet
                      case rel => exact ⟨_, dj, Lib.hid (by rw [HFD.out, ← HI.out, shiftDown_stop ltInt j dj (.inr (by rw [← HG.out, ← HG.out]; simpa using hl))]), hsj, Lib.hid (by rw [HW6.out]; exact putRow_drewN _ _ _ _ _ _ _)⟩
                    · have hl : (!ltInt (G j) (G (j - 1))) = false := by assumption
                      go_region
                      all_goals go_wp2
                      go_roundw
                      case rel => exact ⟨j - 1, _, swp dj j (j - 1), by congr 1; omega, by omega, by rw [size_swp]; exact hsj, swapU HW6.out (by omega) (by omega) (HG.out _) (HG.out _), by rw [← HI.out, shiftDown_go ltInt j dj hj1 (by rw [← HG.out, ← HG.out]; simpa using hl)]⟩
                      case measure => simp [intOf]; omega
                  · go_wp2
                    go_meet
                    case rel => exact ⟨_, dj, Lib.hid (by rw [HFD.out, ← HI.out, shiftDown_stop ltInt j dj (.inl (by omega))]), hsj, HW6⟩
              · have hfd : fixDown ltInt a i2 d1 = d1 := if_neg h2
                go_wp2
                go_meet
                case rel => exact ⟨_, d1, Lib.hid hfd, hs1, HW4⟩
            case rest =>
              obtain ⟨m2, d2, HD2, hs2, HW5⟩ := hcut
              have fin : ∀ (d3 : Array Int) (m3 : Nat) (wz : World), d3.size = d.size → wz = putRow (Value.int .u64) (Sort.ahead w m3) blk off d3 → fixUp ltInt b i2 d2 = d3 → d3.size = d.size ∧ wz = putRow (Value.int .u64) (Sort.ahead w m3) blk off d3 ∧ partialIns ltInt a b (5 - (s + 1)) i2 d3 = Sort.partialInsertionSort ltInt d a b := fun d3 m3 wz h1 h2 h3 => ⟨h1, h2, by rw [HPE.out, HD2.out, h3]⟩
              have FIN := Lib.hid fin
              clear fin
              by_cases h2 : 2 ≤ b - i2
              · go_wp2
                go_loopw [10] (fun vi wr2 => ∃ (j m : Nat) (dj : Array Int), vi = .int .i64 j ∧ i2 < j ∧ j ≤ b ∧ dj.size = d.size ∧ wr2 = putRow (Value.int .u64) (Sort.ahead w m) blk off dj ∧ shiftUp ltInt b j dj = shiftUp ltInt b (i2 + 1) d2) (fun vi _ => b - (intOf vi).toNat)
                case atStart => exact ⟨i2 + 1, m2, d2, by go_num, by omega, by omega, hs2, HW5.out, rfl⟩
                case round =>
                  obtain ⟨j, m, dj, rfl, hj, hjb, hsj, hw2, hI⟩ := hrel
                  obtain ⟨G, hG, hcw, hfw⟩ := famU hH hsj hw2
                  have HI := Lib.hid hI; have HG := Lib.hid hG; have HW6 := Lib.hid hw2
                  have hfd : fixUp ltInt b i2 d2 = shiftUp ltInt b (i2 + 1) d2 := if_pos h2
                  have HFD := Lib.hid hfd
                  clear hI hG hw2 hfd
                  by_cases hj1 : j < b
                  · go_wp2
                    go_quiet (first | (go_at_call 127; exact Calls.quiet_of_same (less_u _ _ _)) | (go_at_call 127; exact quiet_add_same (less_u _ _ _)))
                    go_wp2
                    · have hl : (!ltInt (G j) (G (j - 1))) = true := by assumption
                      have FE := fun q => FIN.out dj (m + q) (wr.drewN q) hsj (by rw [HW6.out]; exact putRow_drewN _ _ _ _ _ _ _) (by rw [HFD.out, ← HI.out, shiftUp_stop ltInt b j dj (.inr (by rw [← HG.out, ← HG.out]; simpa using hl))])
                      have HFE := Lib.hid FE
                      clear FE
                      go_roundw
                      case rel => first | exact ⟨i2, s + 1, _, dj, rfl, by go_num, by omega, by omega, by omega, (HFE.out 0).1, (HFE.out _).2.1, (HFE.out 0).2.2⟩ | ((repeat apply Exists.intro); exact ⟨⟨i2, s + 1, _, dj, rfl, by go_num, by omega, by omega, by omega, (HFE.out 0).1, (HFE.out _).2.1, (HFE.out 0).2.2⟩, rfl⟩)
                      case measure => simp [intOf]; omega
                    · have hl : (!ltInt (G j) (G (j - 1))) = false := by assumption
                      go_region
                      all_goals go_wp2
                      go_roundw
                      case rel => exact ⟨j + 1, _, swp dj j (j - 1), by go_num, by omega, by omega, by rw [size_swp]; exact hsj, swapU HW6.out (by omega) (by omega) (HG.out _) (HG.out _), by rw [← HI.out, shiftUp_go ltInt b j dj hj1 (by rw [← HG.out, ← HG.out]; simpa using hl)]⟩
                      case measure => simp [intOf]; omega
                  · have FE := FIN.out dj m wr hsj HW6.out (by rw [HFD.out, ← HI.out, shiftUp_stop ltInt b j dj (.inl hj1)])
                    have HFE := Lib.hid FE
                    clear FE
                    go_wp2
                    go_roundw
                    case rel => first | exact ⟨i2, s + 1, _, dj, rfl, by go_num, by omega, by omega, by omega, HFE.out.1, HFE.out.2.1, HFE.out.2.2⟩ | ((repeat apply Exists.intro); exact ⟨⟨i2, s + 1, _, dj, rfl, by go_num, by omega, by omega, by omega, HFE.out.1, HFE.out.2.1, HFE.out.2.2⟩, rfl⟩)
                    case measure => simp [intOf]; omega
              · have FE := FIN.out d2 m2 _ hs2 HW5.out (if_neg h2)
                have HFE := Lib.hid FE
                clear FE
                go_wp2
                go_roundw
                case rel => first | exact ⟨i2, s + 1, _, d2, rfl, by go_num, by omega, by omega, by omega, HFE.out.1, HFE.out.2.1, HFE.out.2.2⟩ | ((repeat apply Exists.intro); exact ⟨⟨i2, s + 1, _, d2, rfl, by go_num, by omega, by omega, by omega, HFE.out.1, HFE.out.2.1, HFE.out.2.2⟩, rfl⟩)
                case measure => simp [intOf]; omega
    · have hs : s = 5 := by omega
      subst hs
      have PE := pi_end ltInt a b i dk
      rw [HO.out] at PE
      have HPE := Lib.hid PE
      clear PE
      go_wp2
      refine bodyPost_ret (v := .bool false) (by simp [results, Try.results126, go_sem]) rfl ⟨by rw [HPE.out], n, by rw [HW.out, HPE.out]⟩
end Go.Proofs.Ytpjchgiemmnikaa

namespace Go.Proofs.Ytpjchgiemmnikaa
set_option linter.unusedVariables false
set_option linter.unusedSimpArgs false
open Go.RowKit Go.Sort Go.Proofs

theorem selfU {w : World} {blk off : Nat} {d : Array Int} (hH : Holds (Value.int .u64) w blk off d) : w = putRow (Value.int .u64) (Sort.ahead w 0) blk off d := (putRow_self _ w _ _ _ hH).symm

set_option maxHeartbeats 4000000 in
set_option maxRecDepth 100000 in
theorem partitionEqual_u (blk off len cap a b pivot : Nat) (d : Array Int) (hlen : d.size = len) (w : World) (hH : Holds (Value.int .u64) w blk off d) (hap : a ≤ pivot) (hpb : pivot < b) (hb : b ≤ d.size) (hsz : d.size < 4611686018427387904) :
    Calls Try.prog 128 #[.slice (some ⟨blk, off, none⟩) len cap, .int .i64 a, .int .i64 b, .int .i64 pivot] w fun e w' =>
      e = .returned (.int .i64 (Sort.partitionEqual ltInt d a b pivot).1) ∧ ∃ n, w' = putRow (Value.int .u64) (Sort.ahead w n) blk off (Sort.partitionEqual ltInt d a b pivot).2 := by
  subst hlen
  obtain ⟨G, hG, hcw, hfw⟩ := famU hH rfl (selfU hH)
  have HG := Lib.hid hG
  clear hG
  have hc1 := hcw a (by omega)
  have hc2 := hcw pivot (by omega)
  obtain ⟨v', hy'⟩ := cell?_setCell_some (w := w) (p := ⟨blk, off + a, none⟩) (x := .int .u64 (G pivot)) (q := ⟨blk, off + pivot, none⟩) (v := .int .u64 (G pivot)) hc2
  go_enter Try.func128, Try.ntmps128
  go_wp2
  go_region
  have HWs : Hid (((w.setCell ⟨blk, off + a, none⟩ (.int .u64 (G pivot))).setCell ⟨blk, off + pivot, none⟩ (.int .u64 (G a))).drew = putRow (Value.int .u64) (Sort.ahead w (0 + 1)) blk off (swp d a pivot)) := Lib.hid (swapU (q := 1) (selfU hH) (by omega) (by omega) (HG.out _) (HG.out _))
  clear hcw hfw hc1 hc2 hy'
  have hs1 : (swp d a pivot).size = d.size := size_swp _ _ _
  obtain ⟨d1, hd1⟩ : ∃ d1, swp d a pivot = d1 := ⟨_, rfl⟩
  have hE : Sort.partitionEqual ltInt d a b pivot = partEqLoop ltInt a (a + 1) (b - 1) d1 := by unfold Sort.partitionEqual; rw [hd1]
  rw [hd1] at HWs hs1
  have HE := Lib.hid hE
  clear hd1 hE
  all_goals
    go_wp2
    refine name_world _ (fun W3 HW3 => ?_)
    have HW4 : Hid (W3 = putRow (Value.int .u64) (Sort.ahead w (0 + 1)) blk off d1) := Lib.hid (by rw [← HW3.out]; exact HWs.out)
    clear HW3 HWs
    go_loopw [9, 10] (fun vi vj wr => ∃ (i j n : Nat) (dk : Array Int), vi = .int .i64 i ∧ vj = .int .i64 j ∧ a < i ∧ i ≤ j + 1 ∧ j < b ∧ dk.size = d.size ∧ wr = putRow (Value.int .u64) (Sort.ahead w n) blk off dk ∧ partEqLoop ltInt a i j dk = partEqLoop ltInt a (a + 1) (b - 1) d1) (fun vi _ _ => b + 1 - (intOf vi).toNat)
    case atStart => exact ⟨a + 1, b - 1, 0 + 1, d1, by go_num, by first | rfl | (congr 1; omega), by omega, by omega, by omega, hs1, HW4.out, rfl⟩
    case round =>
      obtain ⟨i, j, n, dk, rfl, rfl, hai, hij, hjb, hsk, hwr, hO⟩ := hrel
      have HO := Lib.hid hO; have HW := Lib.hid hwr
      clear hO hwr
      go_upto_block 2 with (fail)
      go_cut [9] (fun v wc => ∃ (i2 m2 : Nat), v = .int .i64 i2 ∧ Hid (scanUp (fun x => !ltInt dk[a]! x) dk j i = i2) ∧ i ≤ i2 ∧ i2 ≤ j + 1 ∧ Hid (wc = putRow (Value.int .u64) (Sort.ahead w m2) blk off dk))
      case first =>
        go_wp2
        go_loopw [9] (fun v wr2 => ∃ (t m2 : Nat), v = .int .i64 t ∧ i ≤ t ∧ t ≤ j + 1 ∧ wr2 = putRow (Value.int .u64) (Sort.ahead w m2) blk off dk ∧ scanUp (fun x => !ltInt dk[a]! x) dk j t = scanUp (fun x => !ltInt dk[a]! x) dk j i) (fun v _ => j + 1 - (intOf v).toNat)
        case atStart => exact ⟨i, _, rfl, Nat.le_refl _, by omega, HW.out, rfl⟩
        case round =>
          obtain ⟨t, m2, rfl, ht1, ht2, hw2, hI⟩ := hrel
          obtain ⟨G, hG, hcw, hfw⟩ := famU hH hsk hw2
          have HI := Lib.hid hI; have HG := Lib.hid hG; have HW2 := Lib.hid hw2
          clear hI hG hw2
          by_cases c : t ≤ j
          · go_wp2
            go_quiet (first | (go_at_call 127; exact Calls.quiet_of_same (less_u _ _ _)) | (go_at_call 127; exact quiet_add_same (less_u _ _ _)))
            go_wp2
            · have hl : (!ltInt (G a) (G t)) = true := by assumption
              go_roundw
              case rel => exact ⟨t + 1, _, by go_num, by omega, by omega, by rw [HW2.out]; exact putRow_drewN _ _ _ _ _ _ _, by rw [← HI.out, scanUp_go (fun x => !ltInt dk[a]! x) dk j t c (by show ((!ltInt dk[a]! dk[t]!)) = true; rw [← HG.out, ← HG.out]; simpa using hl)]⟩
              case measure => simp [intOf]; omega
            · have hl : (!ltInt (G a) (G t)) = false := by assumption
              go_meet
              case rel => exact ⟨t, _, rfl, Lib.hid (by rw [← HI.out, scanUp_end (fun x => !ltInt dk[a]! x) dk j t (.inr (by show ((!ltInt dk[a]! dk[t]!)) = false; rw [← HG.out, ← HG.out]; simpa using hl))]), ht1, ht2, Lib.hid (by rw [HW2.out]; exact putRow_drewN _ _ _ _ _ _ _)⟩
          · go_wp2
            go_quiet (first | (go_at_call 127; exact Calls.quiet_of_same (less_u _ _ _)) | (go_at_call 127; exact quiet_add_same (less_u _ _ _)))
            go_wp2
            go_meet
            case rel => exact ⟨t, _, rfl, Lib.hid (by rw [← HI.out, scanUp_end (fun x => !ltInt dk[a]! x) dk j t (.inl c)]), ht1, ht2, Lib.hid (by rw [HW2.out]; exact putRow_drewN _ _ _ _ _ _ _)⟩
      case rest =>
        obtain ⟨i2, m3, rfl, HI2, hi2, hi2j, HW5⟩ := hcut
        go_upto_block 4 with (fail)
        go_cut [10] (fun v wc => ∃ (j2 m2 : Nat), v = .int .i64 j2 ∧ Hid (scanDown (fun x => ltInt dk[a]! x) dk i2 j = j2) ∧ j2 ≤ j ∧ i2 ≤ j2 + 1 ∧ Hid (wc = putRow (Value.int .u64) (Sort.ahead w m2) blk off dk))
        case first =>
          go_wp2
          go_loopw [10] (fun v wr2 => ∃ (t m2 : Nat), v = .int .i64 t ∧ t ≤ j ∧ i2 ≤ t + 1 ∧ wr2 = putRow (Value.int .u64) (Sort.ahead w m2) blk off dk ∧ scanDown (fun x => ltInt dk[a]! x) dk i2 t = scanDown (fun x => ltInt dk[a]! x) dk i2 j) (fun v _ => (intOf v).toNat)
          case atStart => exact ⟨j, _, rfl, Nat.le_refl _, by omega, HW5.out, rfl⟩
          case round =>
            obtain ⟨t, m2, rfl, ht1, ht2, hw2, hI⟩ := hrel
            obtain ⟨G, hG, hcw, hfw⟩ := famU hH hsk hw2
            have HI := Lib.hid hI; have HG := Lib.hid hG; have HW2 := Lib.hid hw2
            clear hI hG hw2
            by_cases c : i2 ≤ t
            · go_wp2
              go_quiet (first | (go_at_call 127; exact Calls.quiet_of_same (less_u _ _ _)) | (go_at_call 127; exact quiet_add_same (less_u _ _ _)))
              go_wp2
              · have hl : ltInt (G a) (G t) = true := by assumption
                go_roundw
                case rel => exact ⟨t - 1, _, by congr 1; omega, by omega, by omega, by rw [HW2.out]; exact putRow_drewN _ _ _ _ _ _ _, by rw [← HI.out, scanDown_go (fun x => ltInt dk[a]! x) dk i2 t c (by omega) (by show (ltInt dk[a]! dk[t]!) = true; rw [← HG.out, ← HG.out]; simpa using hl)]⟩
                case measure => simp [intOf]; omega
              · have hl : ltInt (G a) (G t) = false := by assumption
                go_meet
                case rel => exact ⟨t, _, rfl, Lib.hid (by rw [← HI.out, scanDown_end (fun x => ltInt dk[a]! x) dk i2 t (.inr (by show (ltInt dk[a]! dk[t]!) = false; rw [← HG.out, ← HG.out]; simpa using hl))]), ht1, ht2, Lib.hid (by rw [HW2.out]; exact putRow_drewN _ _ _ _ _ _ _)⟩
            · go_wp2
              go_quiet (first | (go_at_call 127; exact Calls.quiet_of_same (less_u _ _ _)) | (go_at_call 127; exact quiet_add_same (less_u _ _ _)))
              go_wp2
              go_meet
              case rel => exact ⟨t, _, rfl, Lib.hid (by rw [← HI.out, scanDown_end (fun x => ltInt dk[a]! x) dk i2 t (.inl c)]), ht1, ht2, Lib.hid (by rw [HW2.out]; exact putRow_drewN _ _ _ _ _ _ _)⟩
        case rest =>
          obtain ⟨j2, m4, rfl, HJ2, hj2, hij2, HW6⟩ := hcut
          by_cases c : j2 < i2
          · have PE := partEq_break ltInt a i j dk HI2.out.symm HJ2.out.symm c
            rw [HO.out, ← HE.out] at PE
            have HPE := Lib.hid PE
            clear PE
            go_wp2
            refine bodyPost_ret (v := .int .i64 i2) (by simp [results, Try.results128, go_sem]) rfl ⟨by rw [HPE.out], m4, by rw [HW6.out, HPE.out]⟩
          · have PE := partEq_go ltInt a i j dk HI2.out.symm HJ2.out.symm c
            have hlt := scans_lt ltInt a i j dk (by omega) HI2.out.symm HJ2.out.symm (by omega)
            rw [HO.out] at PE
            have HPE := Lib.hid PE
            clear PE
            obtain ⟨G, hG, hcw, hfw⟩ := famU hH hsk HW6.out
            have HG := Lib.hid hG
            clear hG
            go_wp2
            go_region
            all_goals go_wp2
            go_roundw
            case rel => exact ⟨i2 + 1, j2 - 1, _, swp dk i2 j2, by go_num, by congr 1; omega, by omega, by omega, by omega, by rw [size_swp]; exact hsk, swapU (q := 1) HW6.out (by omega) (by omega) (HG.out _) (HG.out _), HPE.out.symm⟩
            case measure => simp [intOf]; omega
end Go.Proofs.Ytpjchgiemmnikaa

namespace Go.Proofs.Ytpjchgiemmnikaa
set_option linter.unusedVariables false
set_option linter.unusedSimpArgs false
open Go.RowKit Go.Sort Go.Proofs

set_option maxHeartbeats 8000000 in
set_option maxRecDepth 100000 in
theorem partition_u (blk off len cap a b pivot : Nat) (d : Array Int) (hlen : d.size = len) (w : World) (hH : Holds (Value.int .u64) w blk off d) (hap : a ≤ pivot) (hpb : pivot < b) (hb : b ≤ d.size) (hsz : d.size < 4611686018427387904) :
    Calls Try.prog 129 #[.slice (some ⟨blk, off, none⟩) len cap, .int .i64 a, .int .i64 b, .int .i64 pivot] w fun e w' =>
      e = .returned (.tuple #[.int .i64 (Sort.partition ltInt d a b pivot).1, .bool (Sort.partition ltInt d a b pivot).2.1]) ∧ ∃ n, w' = putRow (Value.int .u64) (Sort.ahead w n) blk off (Sort.partition ltInt d a b pivot).2.2 := by
  subst hlen
  obtain ⟨G, hG, hcw, hfw⟩ := famU hH rfl (selfU hH)
  have HG := Lib.hid hG
  clear hG
  have hc1 := hcw a (by omega)
  have hc2 := hcw pivot (by omega)
  obtain ⟨v', hy'⟩ := cell?_setCell_some (w := w) (p := ⟨blk, off + a, none⟩) (x := .int .u64 (G pivot)) (q := ⟨blk, off + pivot, none⟩) (v := .int .u64 (G pivot)) hc2
  go_enter Try.func129, Try.ntmps129
  go_wp2
  go_region
  have HWs : Hid (((w.setCell ⟨blk, off + a, none⟩ (.int .u64 (G pivot))).setCell ⟨blk, off + pivot, none⟩ (.int .u64 (G a))).drew = putRow (Value.int .u64) (Sort.ahead w (0 + 1)) blk off (swp d a pivot)) := Lib.hid (swapU (q := 1) (selfU hH) (by omega) (by omega) (HG.out _) (HG.out _))
  clear hcw hfw hc1 hc2 hy'
  have hsk : (swp d a pivot).size = d.size := size_swp _ _ _
  obtain ⟨dk, hdk⟩ : ∃ d1, d1 = swp d a pivot := ⟨_, rfl⟩
  rw [← hdk] at HWs hsk
  have HDK := Lib.hid hdk
  clear hdk
  have eb : (b : Int) - 1 = ((b - 1 : Nat) : Int) := by omega
  have EB := Lib.hid eb
  clear eb
  all_goals
    go_upto_block 0 with (fail)
    refine name_world _ (fun W3 HW3 => ?_)
    have HW4 : Hid (W3 = putRow (Value.int .u64) (Sort.ahead w (0 + 1)) blk off dk) := Lib.hid (by rw [← HW3.out]; exact HWs.out)
    clear HW3 HWs
    rw [EB.out]
    go_upto_block 0 with (fail)
    go_cut [10] (fun v wc => ∃ (i2 m2 : Nat), v = .int .i64 i2 ∧ Hid (scanUp (fun x => ltInt x dk[a]!) dk (b - 1) (a + 1) = i2) ∧ (a + 1) ≤ i2 ∧ i2 ≤ (b - 1) + 1 ∧ Hid (wc = putRow (Value.int .u64) (Sort.ahead w m2) blk off dk))
    case first =>
      go_wp2
      go_loopw [10] (fun v wr2 => ∃ (t m2 : Nat), v = .int .i64 t ∧ (a + 1) ≤ t ∧ t ≤ (b - 1) + 1 ∧ wr2 = putRow (Value.int .u64) (Sort.ahead w m2) blk off dk ∧ scanUp (fun x => ltInt x dk[a]!) dk (b - 1) t = scanUp (fun x => ltInt x dk[a]!) dk (b - 1) (a + 1)) (fun v _ => (b - 1) + 1 - (intOf v).toNat)
      case atStart => exact ⟨(a + 1), _, rfl, Nat.le_refl _, by omega, HW4.out, rfl⟩
      case round =>
        obtain ⟨t, m2, rfl, ht1, ht2, hw2, hI⟩ := hrel
        obtain ⟨G, hG, hcw, hfw⟩ := famU hH hsk hw2
        have HI := Lib.hid hI; have HG := Lib.hid hG; have HW2 := Lib.hid hw2
        clear hI hG hw2
        by_cases c : t ≤ (b - 1)
        · go_wp2
          go_quiet (first | (go_at_call 127; exact Calls.quiet_of_same (less_u _ _ _)) | (go_at_call 127; exact quiet_add_same (less_u _ _ _)))
          go_wp2
          · have hl : ltInt (G t) (G a) = true := by assumption
            go_roundw
            case rel => exact ⟨t + 1, _, by go_num, by omega, by omega, by rw [HW2.out]; exact putRow_drewN _ _ _ _ _ _ _, by rw [← HI.out, scanUp_go (fun x => ltInt x dk[a]!) dk (b - 1) t c (by show (ltInt dk[t]! dk[a]!) = true; rw [← HG.out, ← HG.out]; simpa using hl)]⟩
            case measure => simp [intOf]; omega
          · have hl : ltInt (G t) (G a) = false := by assumption
            go_meet
            case rel => exact ⟨t, _, rfl, Lib.hid (by rw [← HI.out, scanUp_end (fun x => ltInt x dk[a]!) dk (b - 1) t (.inr (by show (ltInt dk[t]! dk[a]!) = false; rw [← HG.out, ← HG.out]; simpa using hl))]), ht1, ht2, Lib.hid (by rw [HW2.out]; exact putRow_drewN _ _ _ _ _ _ _)⟩
        · go_wp2
          go_quiet (first | (go_at_call 127; exact Calls.quiet_of_same (less_u _ _ _)) | (go_at_call 127; exact quiet_add_same (less_u _ _ _)))
          go_wp2
          go_meet
          case rel => exact ⟨t, _, rfl, Lib.hid (by rw [← HI.out, scanUp_end (fun x => ltInt x dk[a]!) dk (b - 1) t (.inl c)]), ht1, ht2, Lib.hid (by rw [HW2.out]; exact putRow_drewN _ _ _ _ _ _ _)⟩
    case rest =>
      obtain ⟨i2, m3, rfl, HI2, hi2, hi2j, HW5⟩ := hcut
      go_upto_block 2 with (fail)
      go_cut [11] (fun v wc => ∃ (j2 m2 : Nat), v = .int .i64 j2 ∧ Hid (scanDown (fun x => !ltInt x dk[a]!) dk i2 (b - 1) = j2) ∧ j2 ≤ (b - 1) ∧ i2 ≤ j2 + 1 ∧ Hid (wc = putRow (Value.int .u64) (Sort.ahead w m2) blk off dk))
      case first =>
        go_wp2
        go_loopw [11] (fun v wr2 => ∃ (t m2 : Nat), v = .int .i64 t ∧ t ≤ (b - 1) ∧ i2 ≤ t + 1 ∧ wr2 = putRow (Value.int .u64) (Sort.ahead w m2) blk off dk ∧ scanDown (fun x => !ltInt x dk[a]!) dk i2 t = scanDown (fun x => !ltInt x dk[a]!) dk i2 (b - 1)) (fun v _ => (intOf v).toNat)
        case atStart => exact ⟨(b - 1), _, rfl, Nat.le_refl _, by omega, HW5.out, rfl⟩
        case round =>
          obtain ⟨t, m2, rfl, ht1, ht2, hw2, hI⟩ := hrel
          obtain ⟨G, hG, hcw, hfw⟩ := famU hH hsk hw2
          have HI := Lib.hid hI; have HG := Lib.hid hG; have HW2 := Lib.hid hw2
          clear hI hG hw2
          by_cases c : i2 ≤ t
          · go_wp2
            go_quiet (first | (go_at_call 127; exact Calls.quiet_of_same (less_u _ _ _)) | (go_at_call 127; exact quiet_add_same (less_u _ _ _)))
            go_wp2
            · have hl : (!ltInt (G t) (G a)) = true := by assumption
              go_roundw
              case rel => exact ⟨t - 1, _, by congr 1; omega, by omega, by omega, by rw [HW2.out]; exact putRow_drewN _ _ _ _ _ _ _, by rw [← HI.out, scanDown_go (fun x => !ltInt x dk[a]!) dk i2 t c (by omega) (by show ((!ltInt dk[t]! dk[a]!)) = true; rw [← HG.out, ← HG.out]; simpa using hl)]⟩
              case measure => simp [intOf]; omega
            · have hl : (!ltInt (G t) (G a)) = false := by assumption
              go_meet
              case rel => exact ⟨t, _, rfl, Lib.hid (by rw [← HI.out, scanDown_end (fun x => !ltInt x dk[a]!) dk i2 t (.inr (by show ((!ltInt dk[t]! dk[a]!)) = false; rw [← HG.out, ← HG.out]; simpa using hl))]), ht1, ht2, Lib.hid (by rw [HW2.out]; exact putRow_drewN _ _ _ _ _ _ _)⟩
          · go_wp2
            go_quiet (first | (go_at_call 127; exact Calls.quiet_of_same (less_u _ _ _)) | (go_at_call 127; exact quiet_add_same (less_u _ _ _)))
            go_wp2
            go_meet
            case rel => exact ⟨t, _, rfl, Lib.hid (by rw [← HI.out, scanDown_end (fun x => !ltInt x dk[a]!) dk i2 t (.inl c)]), ht1, ht2, Lib.hid (by rw [HW2.out]; exact putRow_drewN _ _ _ _ _ _ _)⟩
      case rest =>
        obtain ⟨j2, m4, rfl, HJ2, hj2, hij2, HW6⟩ := hcut
        obtain ⟨G, hG, hcw, hfw⟩ := famU hH hsk HW6.out
        have HG := Lib.hid hG
        clear hG
        by_cases c : j2 < i2
        · have PE := part_first_break ltInt d a b pivot rfl rfl HDK.out HI2.out.symm HJ2.out.symm c
          have HPE := Lib.hid PE
          clear PE
          have hc1 := hcw j2 (by omega)
          have hc2 := hcw a (by omega)
          obtain ⟨v', hy'⟩ := cell?_setCell_some (w := wc) (p := ⟨blk, off + j2, none⟩) (x := .int .u64 (G a)) (q := ⟨blk, off + a, none⟩) (v := .int .u64 (G a)) hc2
          go_wp2
          go_region
          all_goals
            go_wp2
            refine bodyPost_ret (v := .tuple #[.int .i64 j2, .bool true]) (by simp [results, Try.results129, go_sem]) rfl ⟨by rw [HPE.out], _, by rw [HPE.out]; exact swapU (q := 1) HW6.out (by omega) (by omega) (HG.out _) (HG.out _)⟩
        · have PE := part_first_go ltInt d a b pivot rfl rfl HDK.out HI2.out.symm HJ2.out.symm c
          have hlt := part_scans_lt ltInt a (a + 1) (b - 1) dk (by omega) HI2.out.symm HJ2.out.symm (by omega)
          have hs2 : (swp dk i2 j2).size = d.size := by rw [size_swp]; exact hsk
          have SW : ((wc.setCell ⟨blk, off + i2, none⟩ (.int .u64 (G j2))).setCell ⟨blk, off + j2, none⟩ (.int .u64 (G i2))).drew = putRow (Value.int .u64) (Sort.ahead w (m4 + 1)) blk off (swp dk i2 j2) := swapU (q := 1) HW6.out (by omega) (by omega) (HG.out _) (HG.out _)
          obtain ⟨d1, hd1⟩ : ∃ d1, swp dk i2 j2 = d1 := ⟨_, rfl⟩
          rw [hd1] at PE hs2 SW
          have HPE := Lib.hid PE; have HSW := Lib.hid SW
          clear PE SW hd1
          go_wp2
          go_region
          all_goals
            go_wp2
            refine name_world _ (fun W7 HW7 => ?_)
            have HW8 : Hid (W7 = putRow (Value.int .u64) (Sort.ahead w (m4 + 1)) blk off d1) := Lib.hid (by rw [← HW7.out]; exact HSW.out)
            clear HW7 HSW hcw hfw
            go_loopw [10, 11] (fun vi vj wr => ∃ (i j n : Nat) (dj : Array Int), vi = .int .i64 i ∧ vj = .int .i64 j ∧ a < i ∧ i ≤ j + 1 ∧ j < b ∧ dj.size = d.size ∧ wr = putRow (Value.int .u64) (Sort.ahead w n) blk off dj ∧ partLoop ltInt a i j dj = partLoop ltInt a (i2 + 1) (j2 - 1) d1) (fun vi _ _ => b + 1 - (intOf vi).toNat)
            case atStart => exact ⟨i2 + 1, j2 - 1, m4 + 1, d1, by go_num, by first | rfl | (congr 1; omega), by omega, by omega, by omega, hs2, HW8.out, rfl⟩
            case round =>
              obtain ⟨i, j, n, dj, rfl, rfl, hai, hij, hjb, hsj, hwr, hO⟩ := hrel
              have HO := Lib.hid hO; have HW := Lib.hid hwr
              clear hO hwr
              go_upto_block 6 with (fail)
              go_cut [10] (fun v wc => ∃ (i2 m2 : Nat), v = .int .i64 i2 ∧ Hid (scanUp (fun x => ltInt x dj[a]!) dj j i = i2) ∧ i ≤ i2 ∧ i2 ≤ j + 1 ∧ Hid (wc = putRow (Value.int .u64) (Sort.ahead w m2) blk off dj))
              case first =>
                go_wp2
                go_loopw [10] (fun v wr2 => ∃ (t m2 : Nat), v = .int .i64 t ∧ i ≤ t ∧ t ≤ j + 1 ∧ wr2 = putRow (Value.int .u64) (Sort.ahead w m2) blk off dj ∧ scanUp (fun x => ltInt x dj[a]!) dj j t = scanUp (fun x => ltInt x dj[a]!) dj j i) (fun v _ => j + 1 - (intOf v).toNat)
                case atStart => exact ⟨i, _, rfl, Nat.le_refl _, by omega, HW.out, rfl⟩
                case round =>
                  obtain ⟨t, m2, rfl, ht1, ht2, hw2, hI⟩ := hrel
                  obtain ⟨G, hG, hcw, hfw⟩ := famU hH hsj hw2
                  have HI := Lib.hid hI; have HG := Lib.hid hG; have HW2 := Lib.hid hw2
                  clear hI hG hw2
                  by_cases c : t ≤ j
                  · go_wp2
                    go_quiet (first | (go_at_call 127; exact Calls.quiet_of_same (less_u _ _ _)) | (go_at_call 127; exact quiet_add_same (less_u _ _ _)))
                    go_wp2
                    · have hl : ltInt (G t) (G a) = true := by assumption
                      go_roundw
                      case rel => exact ⟨t + 1, _, by go_num, by omega, by omega, by rw [HW2.out]; exact putRow_drewN _ _ _ _ _ _ _, by rw [← HI.out, scanUp_go (fun x => ltInt x dj[a]!) dj j t c (by show (ltInt dj[t]! dj[a]!) = true; rw [← HG.out, ← HG.out]; simpa using hl)]⟩
                      case measure => simp [intOf]; omega
                    · have hl : ltInt (G t) (G a) = false := by assumption
                      go_meet
                      case rel => exact ⟨t, _, rfl, Lib.hid (by rw [← HI.out, scanUp_end (fun x => ltInt x dj[a]!) dj j t (.inr (by show (ltInt dj[t]! dj[a]!) = false; rw [← HG.out, ← HG.out]; simpa using hl))]), ht1, ht2, Lib.hid (by rw [HW2.out]; exact putRow_drewN _ _ _ _ _ _ _)⟩
                  · go_wp2
                    go_quiet (first | (go_at_call 127; exact Calls.quiet_of_same (less_u _ _ _)) | (go_at_call 127; exact quiet_add_same (less_u _ _ _)))
                    go_wp2
                    go_meet
                    case rel => exact ⟨t, _, rfl, Lib.hid (by rw [← HI.out, scanUp_end (fun x => ltInt x dj[a]!) dj j t (.inl c)]), ht1, ht2, Lib.hid (by rw [HW2.out]; exact putRow_drewN _ _ _ _ _ _ _)⟩
              case rest =>
                obtain ⟨i3, m5, rfl, HI3, hi3, hi3j, HW9⟩ := hcut
                go_upto_block 8 with (fail)
                go_cut [11] (fun v wc => ∃ (j2 m2 : Nat), v = .int .i64 j2 ∧ Hid (scanDown (fun x => !ltInt x dj[a]!) dj i3 j = j2) ∧ j2 ≤ j ∧ i3 ≤ j2 + 1 ∧ Hid (wc = putRow (Value.int .u64) (Sort.ahead w m2) blk off dj))
                case first =>
                  go_wp2
                  go_loopw [11] (fun v wr2 => ∃ (t m2 : Nat), v = .int .i64 t ∧ t ≤ j ∧ i3 ≤ t + 1 ∧ wr2 = putRow (Value.int .u64) (Sort.ahead w m2) blk off dj ∧ scanDown (fun x => !ltInt x dj[a]!) dj i3 t = scanDown (fun x => !ltInt x dj[a]!) dj i3 j) (fun v _ => (intOf v).toNat)
                  case atStart => exact ⟨j, _, rfl, Nat.le_refl _, by omega, HW9.out, rfl⟩
                  case round =>
                    obtain ⟨t, m2, rfl, ht1, ht2, hw2, hI⟩ := hrel
                    obtain ⟨G, hG, hcw, hfw⟩ := famU hH hsj hw2
                    have HI := Lib.hid hI; have HG := Lib.hid hG; have HW2 := Lib.hid hw2
                    clear hI hG hw2
                    by_cases c : i3 ≤ t
                    · go_wp2
                      go_quiet (first | (go_at_call 127; exact Calls.quiet_of_same (less_u _ _ _)) | (go_at_call 127; exact quiet_add_same (less_u _ _ _)))
                      go_wp2
                      · have hl : (!ltInt (G t) (G a)) = true := by assumption
                        go_roundw
                        case rel => exact ⟨t - 1, _, by congr 1; omega, by omega, by omega, by rw [HW2.out]; exact putRow_drewN _ _ _ _ _ _ _, by rw [← HI.out, scanDown_go (fun x => !ltInt x dj[a]!) dj i3 t c (by omega) (by show ((!ltInt dj[t]! dj[a]!)) = true; rw [← HG.out, ← HG.out]; simpa using hl)]⟩
                        case measure => simp [intOf]; omega
                      · have hl : (!ltInt (G t) (G a)) = false := by assumption
                        go_meet
                        case rel => exact ⟨t, _, rfl, Lib.hid (by rw [← HI.out, scanDown_end (fun x => !ltInt x dj[a]!) dj i3 t (.inr (by show ((!ltInt dj[t]! dj[a]!)) = false; rw [← HG.out, ← HG.out]; simpa using hl))]), ht1, ht2, Lib.hid (by rw [HW2.out]; exact putRow_drewN _ _ _ _ _ _ _)⟩
                    · go_wp2
                      go_quiet (first | (go_at_call 127; exact Calls.quiet_of_same (less_u _ _ _)) | (go_at_call 127; exact quiet_add_same (less_u _ _ _)))
                      go_wp2
                      go_meet
                      case rel => exact ⟨t, _, rfl, Lib.hid (by rw [← HI.out, scanDown_end (fun x => !ltInt x dj[a]!) dj i3 t (.inl c)]), ht1, ht2, Lib.hid (by rw [HW2.out]; exact putRow_drewN _ _ _ _ _ _ _)⟩
                case rest =>
                  obtain ⟨j3, m6, rfl, HJ3, hj3, hij3, HW10⟩ := hcut
                  obtain ⟨G, hG, hcw, hfw⟩ := famU hH hsj HW10.out
                  have HG := Lib.hid hG
                  clear hG
                  by_cases c2 : j3 < i3
                  · have PL := part_break ltInt a i j dj HI3.out.symm HJ3.out.symm c2
                    rw [HO.out] at PL
                    have PE := HPE.out
                    rw [PL] at PE
                    have HPE2 := Lib.hid PE
                    clear PL PE
                    have hc1 := hcw j3 (by omega)
                    have hc2 := hcw a (by omega)
                    obtain ⟨v', hy'⟩ := cell?_setCell_some (w := wc) (p := ⟨blk, off + j3, none⟩) (x := .int .u64 (G a)) (q := ⟨blk, off + a, none⟩) (v := .int .u64 (G a)) hc2
                    go_wp2
                    go_region
                    all_goals
                      go_wp2
                      refine bodyPost_ret (v := .tuple #[.int .i64 j3, .bool false]) (by simp [results, Try.results129, go_sem]) rfl ⟨by rw [HPE2.out], _, by rw [HPE2.out]; exact swapU (q := 1) HW10.out (by omega) (by omega) (HG.out _) (HG.out _)⟩
                  · have PL := part_go ltInt a i j dj HI3.out.symm HJ3.out.symm c2
                    have hlt3 := part_scans_lt ltInt a i j dj (by omega) HI3.out.symm HJ3.out.symm (by omega)
                    rw [HO.out] at PL
                    have HPL := Lib.hid PL
                    clear PL
                    go_wp2
                    go_region
                    all_goals go_wp2
                    go_roundw
                    case rel => exact ⟨i3 + 1, j3 - 1, _, swp dj i3 j3, by go_num, by congr 1; omega, by omega, by omega, by omega, by rw [size_swp]; exact hsj, swapU (q := 1) HW10.out (by omega) (by omega) (HG.out _) (HG.out _), HPL.out.symm⟩
                    case measure => simp [intOf]; omega
end Go.Proofs.Ytpjchgiemmnikaa

namespace Go.Proofs.Ytpjchgiemmnikaa
set_option linter.unusedVariables false
set_option linter.unusedSimpArgs false
open Go.RowKit Go.Sort Go.Proofs Go.Proofs.YtpjchgiemmnikaaW.PrintWords

theorem holds_heap {α : Type} [Inhabited α] {enc : α → Value} {w w' : World} {blk off : Nat} {d : Array α} (h : Holds enc w blk off d) (he : w'.heap[blk]? = w.heap[blk]?) : Holds enc w' blk off d := fun j hj => by
  have := h j hj
  unfold World.cell? World.frozen? at *
  simp only [he]
  exact this
/-- The row, and the counter of exchanges in a block of its own. -/
def QS (w : World) (blk off : Nat) (d : Array Int) (sb : Nat) : Prop := Holds (Value.int .u64) w blk off d ∧ (∃ s : Int, w.heap[sb]? = some (.cells #[.int .i64 s] 3 (0, 0))) ∧ sb ≠ blk
/-- Nothing but a block has changed. -/
def KX (w w' : World) (sb : Nat) : Prop := w'.heap.size = w.heap.size ∧ (∀ i, i ≠ sb → w'.heap[i]? = w.heap[i]?) ∧ w'.os = w.os ∧ w'.tape = w.tape ∧ w'.output = w.output
theorem KX.refl (w : World) (sb : Nat) : KX w w sb := ⟨rfl, fun _ _ => rfl, rfl, rfl, rfl⟩
theorem KX.trans {a b c : World} {sb : Nat} (h : KX a b sb) (k : KX b c sb) : KX a c sb := ⟨k.1.trans h.1, fun i hi => (k.2.1 i hi).trans (h.2.1 i hi), k.2.2.1.trans h.2.2.1, k.2.2.2.1.trans h.2.2.2.1, k.2.2.2.2.trans h.2.2.2.2⟩
theorem QS.step {w w' : World} {blk off : Nat} {d : Array Int} {sb : Nat} (h : QS w blk off d sb) (t : Int) (n : Nat) : QS ((w.drewN n).setCell ⟨sb, 0, none⟩ (.int .i64 t)) blk off d sb ∧ KX w ((w.drewN n).setCell ⟨sb, 0, none⟩ (.int .i64 t)) sb := by
  obtain ⟨h1, ⟨s, h2⟩, h3⟩ := h
  refine ⟨⟨holds_heap h1 (Below.heap_setCell (w.drewN n) ⟨sb, 0, none⟩ _ blk (Ne.symm h3)), ⟨t, ?_⟩, h3⟩, ?_⟩
  · exact blk_set (blk_drewN h2 n) 0 (.int .i64 t)
  · refine ⟨by simp, fun i hi => Below.heap_setCell (w.drewN n) ⟨sb, 0, none⟩ _ i hi, ?_, ?_, ?_⟩ <;> rfl

set_option maxHeartbeats 1000000 in
theorem order2_u (blk off len cap a b sb : Nat) (d : Array Int) (hlen : d.size = len) (w : World) (h : QS w blk off d sb) (ha : a < d.size) (hb : b < d.size) (hsz : d.size < 4611686018427387904) :
    Calls Try.prog 151 #[.slice (some ⟨blk, off, none⟩) len cap, .int .i64 a, .int .i64 b, .pointer (some ⟨sb, 0, none⟩)] w fun e w' =>
      ∃ x y : Nat, e = .returned (.tuple #[.int .i64 x, .int .i64 y]) ∧ ((x = a ∧ y = b) ∨ (x = b ∧ y = a)) ∧ QS w' blk off d sb ∧ KX w w' sb := by
  subst hlen
  obtain ⟨h1, ⟨s, h2⟩, h3⟩ := id h
  obtain ⟨G, hG, hcw, hfw⟩ := famU h1 rfl (selfU h1)
  have hca := hcw a ha; have hcb := hcw b hb
  have hcs : w.cell? ⟨sb, 0, none⟩ = some (.int .i64 s) := blk_cell h2 0
  have hfs : w.frozen? ⟨sb, 0, none⟩ = false := blk_frozen h2 0
  have H := Lib.hid h
  clear hG hcw hfw h1 h2 h3 h
  go_enter Try.func151, Try.ntmps151
  go_wp2
  go_quiet (first | (go_at_call 127; exact Calls.quiet_of_same (less_u _ _ _)))
  go_wp2
  · refine bodyPost_ret (v := .tuple #[.int .i64 b, .int .i64 a]) (by simp [results, Try.results151, go_sem]) rfl ⟨b, a, rfl, .inr ⟨rfl, rfl⟩, ?_⟩
    exact (H.out.step (w' := w) _ _)
  · refine bodyPost_ret (v := .tuple #[.int .i64 a, .int .i64 b]) (by simp [results, Try.results151, go_sem]) rfl ⟨a, b, rfl, .inl ⟨rfl, rfl⟩, H.out, ?_⟩
    exact ⟨rfl, fun _ _ => rfl, rfl, rfl, rfl⟩
set_option maxHeartbeats 1000000 in
theorem median_u (blk off len cap a b c sb : Nat) (d : Array Int) (hlen : d.size = len) (w : World) (h : QS w blk off d sb) (ha : a < d.size) (hb : b < d.size) (hc : c < d.size) (hsz : d.size < 4611686018427387904) :
    Calls Try.prog 148 #[.slice (some ⟨blk, off, none⟩) len cap, .int .i64 a, .int .i64 b, .int .i64 c, .pointer (some ⟨sb, 0, none⟩)] w fun e w' =>
      ∃ x : Nat, e = .returned (.int .i64 x) ∧ (x = a ∨ x = b ∨ x = c) ∧ QS w' blk off d sb ∧ KX w w' sb := by
  subst hlen
  have C := fun w h x y hx hy => order2_u blk off d.size cap x y sb d rfl w h hx hy hsz
  go_enter Try.func148, Try.ntmps148
  go_wp2_with (go_at_call 151; refine (C _ h _ _ ha hb).mono ?_; rintro e w1 ⟨x1, y1, rfl, h1, q1, k1⟩; clear h)
  have hx1 : x1 < d.size := by omega
  have hy1 : y1 < d.size := by omega
  go_wp2_with (go_at_call 151; refine (C _ q1 _ _ hy1 hc).mono ?_; rintro e w2 ⟨x2, y2, rfl, h2, q2, k2⟩; clear q1)
  have hx2 : x2 < d.size := by omega
  go_wp2_with (go_at_call 151; refine (C _ q2 _ _ hx1 hx2).mono ?_; rintro e w3 ⟨x3, y3, rfl, h3, q3, k3⟩; clear q2)
  go_ret
  exact ⟨y3, rfl, by omega, q3, (k1.trans k2).trans k3⟩
set_option maxHeartbeats 1000000 in
theorem medianAdjacent_u (blk off len cap a sb : Nat) (d : Array Int) (hlen : d.size = len) (w : World) (h : QS w blk off d sb) (h0 : 1 ≤ a) (ha : a + 1 < d.size) (hsz : d.size < 4611686018427387904) :
    Calls Try.prog 147 #[.slice (some ⟨blk, off, none⟩) len cap, .int .i64 a, .pointer (some ⟨sb, 0, none⟩)] w fun e w' =>
      ∃ x : Nat, e = .returned (.int .i64 x) ∧ (x = a - 1 ∨ x = a ∨ x = a + 1) ∧ QS w' blk off d sb ∧ KX w w' sb := by
  subst hlen
  have C := median_u blk off d.size cap (a - 1) a (a + 1) sb d rfl w h (by omega) (by omega) ha hsz
  have e1 : ((a - 1 : Nat) : Int) = (a : Int) - 1 := by omega
  have e2 : ((a + 1 : Nat) : Int) = (a : Int) + 1 := by omega
  rw [e1, e2] at C
  clear e1 e2
  go_enter Try.func147, Try.ntmps147
  go_wp2_with (go_at_call 148; refine C.mono ?_; rintro e w1 ⟨x1, rfl, h1, q1, k1⟩)
  go_ret
  exact ⟨x1, rfl, h1, q1, k1⟩
end Go.Proofs.Ytpjchgiemmnikaa

namespace Go.Proofs.Ytpjchgiemmnikaa
set_option linter.unusedVariables false
set_option linter.unusedSimpArgs false
open Go.RowKit Go.Sort Go.Proofs Go.Proofs.YtpjchgiemmnikaaW.PrintWords

theorem KX.below {w w1 : World} {o : Obj} (h : KX (w.alloc o) w1 w.heap.size) : Below w.heap.size w w1 :=
  ⟨h.2.2.1, h.2.2.2.1, h.2.2.2.2, by rw [h.1]; simp, fun k hk => by rw [h.2.1 k (by omega)]; exact Below.heap_alloc w o k hk⟩
theorem QS.start {w : World} {blk off : Nat} {d : Array Int} (h : Holds (Value.int .u64) w blk off d) (hb : blk < w.heap.size) : QS (w.alloc (.cells #[.int .i64 0] 3)) blk off d w.heap.size :=
  ⟨holds_heap h (Below.heap_alloc w _ blk hb), ⟨0, blk_new w _⟩, by omega⟩

set_option maxHeartbeats 2000000 in
set_option maxRecDepth 100000 in
theorem choosePivot_u (blk off len cap a b : Nat) (d : Array Int) (hlen : d.size = len) (w : World) (h : Holds (Value.int .u64) w blk off d) (hblk : blk < w.heap.size) (hab : a < b) (hb : b ≤ d.size) (hsz : d.size < 4611686018427387904) :
    Calls Try.prog 124 #[.slice (some ⟨blk, off, none⟩) len cap, .int .i64 a, .int .i64 b] w fun e w' =>
      ∃ p hint : Nat, e = .returned (.tuple #[.int .i64 p, .int .i64 hint]) ∧ a ≤ p ∧ p < b ∧ hint ≤ 2 ∧ Below w.heap.size w w' := by
  subst hlen
  obtain ⟨l, hl⟩ : ∃ l : Nat, (b : Int) - (a : Int) = l := ⟨b - a, by omega⟩
  obtain ⟨i, hi⟩ : ∃ i : Nat, a + l / 4 * 1 = i := ⟨_, rfl⟩
  obtain ⟨j, hj⟩ : ∃ i : Nat, a + l / 4 * 2 = i := ⟨_, rfl⟩
  obtain ⟨k, hk⟩ : ∃ i : Nat, a + l / 4 * 3 = i := ⟨_, rfl⟩
  have e1 : (a : Int) + (l : Int) / 4 = (i : Int) := by omega
  have e2 : (a : Int) + (l : Int) / 4 * 2 = (j : Int) := by omega
  have e3 : (a : Int) + (l : Int) / 4 * 3 = (k : Int) := by omega
  have q0 := QS.start h hblk
  have k0 := KX.refl (w.alloc (.cells #[.int .i64 0] 3)) w.heap.size
  have HL := Lib.hid hl; have E1 := Lib.hid e1; have E2 := Lib.hid e2; have E3 := Lib.hid e3
  have jr : a ≤ j ∧ j < b := by omega
  have HI := Lib.hid hi; have HJ := Lib.hid hj; have HK := Lib.hid hk
  have bl : b = a + l := by omega
  have BL := Lib.hid bl
  clear hl e1 e2 e3 h hi hj hk bl
  go_enter Try.func124, Try.ntmps124
  go_upto_if 32 with (fail)
  rw [HL.out, E1.out, E2.out, E3.out]
  go_cut [11] (fun v wc => ∃ p : Nat, v = .int .i64 p ∧ a ≤ p ∧ p < b ∧ QS wc blk off d w.heap.size ∧ KX (w.alloc (.cells #[.int .i64 0] 3)) wc w.heap.size)
  case first =>
    by_cases h8 : 8 ≤ l
    · have hi := HI.out; have hj := HJ.out; have hk := HK.out; have bl := BL.out
      have r1 : 1 ≤ i ∧ i + 1 < b := by omega
      have r2 : 1 ≤ j ∧ j + 1 < b := by omega
      by_cases h50 : 50 ≤ l
      · have r1' : a ≤ i - 1 ∧ 1 ≤ i ∧ i + 1 < b := by omega
        have r2' : a ≤ j - 1 ∧ 1 ≤ j ∧ j + 1 < b := by omega
        have r3' : a ≤ k - 1 ∧ 1 ≤ k ∧ k + 1 < b := by omega
        have C := fun w1 h x h1 h2 => medianAdjacent_u blk off d.size cap x w.heap.size d rfl w1 h h1 h2 hsz
        have M := fun w1 h x y z h1 h2 h3 => median_u blk off d.size cap x y z w.heap.size d rfl w1 h h1 h2 h3 hsz
        clear hi hj hk bl
        go_wp2_with (go_at_call 147; refine (C _ q0 _ r1'.2.1 (by omega)).mono ?_; rintro e w1 ⟨x1, rfl, h1, q1, k1⟩; clear q0)
        have y1 : a ≤ x1 ∧ x1 < b := by omega
        go_wp2_with (go_at_call 147; refine (C _ q1 _ r2'.2.1 (by omega)).mono ?_; rintro e w2 ⟨x2, rfl, h2, q2, k2⟩; clear q1)
        have y2 : a ≤ x2 ∧ x2 < b := by omega
        go_wp2_with (go_at_call 147; refine (C _ q2 _ r3'.2.1 (by omega)).mono ?_; rintro e w3 ⟨x3, rfl, h3, q3, k3⟩; clear q2)
        have y3 : a ≤ x3 ∧ x3 < b := by omega
        go_wp2_with (go_at_call 148; refine (M _ q3 _ _ _ (by omega) (by omega) (by omega)).mono ?_; rintro e w4 ⟨x4, rfl, h4, q4, k4⟩; clear q3)
        go_meet
        case rel => exact ⟨x4, rfl, by omega, by omega, q4, (((k0.trans k1).trans k2).trans k3).trans k4⟩
      · have M := median_u blk off d.size cap i j k w.heap.size d rfl _ q0 (by omega) (by omega) (by omega) hsz
        have r3 : a ≤ i ∧ i < b ∧ a ≤ j ∧ j < b ∧ a ≤ k ∧ k < b := by omega
        clear hi hj hk bl
        go_wp2_with (go_at_call 148; refine M.mono ?_; rintro e w4 ⟨x4, rfl, h4, q4, k4⟩)
        go_meet
        case rel => exact ⟨x4, rfl, by omega, by omega, q4, k0.trans k4⟩
    · go_wp2
      go_meet
      case rel => exact ⟨j, rfl, jr.1, jr.2, q0, k0⟩
  case rest =>
    obtain ⟨p, rfl, p1, p2, q1, k1⟩ := hcut
    obtain ⟨_, ⟨s, hs⟩, _⟩ := q1
    have hcs := blk_cell hs 0
    have hcs' : World.cell? wc ⟨w.heap.size, 0, none⟩ = some (.int .i64 s) := hcs
    have KB := Lib.hid k1.below
    clear hs hcs k0 k1 q0
    by_cases s0 : s = 0
    · subst s0
      go_wp2
      refine bodyPost_ret (v := .tuple #[.int .i64 p, .int .i64 (1 : Nat)]) (by simp [results, Try.results124, go_sem]) rfl ⟨p, 1, rfl, p1, p2, by omega, KB.out⟩
    · have t0 : (s == 0) = false := beq_eq_false_iff_ne.mpr s0
      by_cases s12 : s = 12
      · subst s12
        go_wp2
        refine bodyPost_ret (v := .tuple #[.int .i64 p, .int .i64 (2 : Nat)]) (by simp [results, Try.results124, go_sem]) rfl ⟨p, 2, rfl, p1, p2, by omega, KB.out⟩
      · have t12 : (s == 12) = false := beq_eq_false_iff_ne.mpr s12
        go_wp2
        refine bodyPost_ret (v := .tuple #[.int .i64 p, .int .i64 (0 : Nat)]) (by simp [results, Try.results124, go_sem]) rfl ⟨p, 0, rfl, p1, p2, by omega, KB.out⟩
end Go.Proofs.Ytpjchgiemmnikaa

namespace Go.Proofs.Ytpjchgiemmnikaa
set_option linter.unusedVariables false
set_option linter.unusedSimpArgs false
open Go.RowKit Go.Sort Go.Proofs Go.Proofs.YtpjchgiemmnikaaW.PrintWords

theorem npot_u (n : Nat) (hn : n < 4611686018427387904) (w : World) :
    Calls Try.prog 145 #[.int .i64 n] w fun e w' => e = .returned (.int .u64 ((1 <<< bitsLen n : Nat) : Int)) ∧ w' = w := by
  have hLen : ∀ w, Calls Try.prog 101 #[.int .u64 (n : Int)] w fun e w' => e = .returned (.int .i64 (bitsLen n : Nat)) ∧ w' = w := fun w => by
    have h := Try.bits_Len (n : Int) w (by omega) (by omega)
    rwa [Int.toNat_natCast, bitLen_eq _ (by omega)] at h
  have hk : bitsLen n ≤ 62 := (bitsLen_le_iff n 62).2 (by omega)
  have hp := wrap_two_pow (bitsLen n) hk
  have wr : IntKind.u64.wrap (n : Int) = n := by rw [IntKind.wrap_u64]; omega
  go_enter Try.func145, Try.ntmps145
  go_wp2_with (first | (go_at_call 101; refine (hLen _).mono ?_; rintro e w' ⟨rfl, rfl⟩))
  go_ret
  exact ⟨rfl, rfl⟩

theorem xor_u (a b : Nat) (ha : a < 18446744073709551616) (hb : b < 18446744073709551616) : ∃ c : Nat, c < 18446744073709551616 ∧ bits .xor .u64 (a : Int) (b : Int) = (c : Int) :=
  ⟨a ^^^ b, Nat.xor_lt_two_pow (n := 64) ha hb, bits_xor_u64_nat _ _ ha hb⟩

set_option maxHeartbeats 2000000 in
theorem next_u (rb X : Nat) (hX : X < 18446744073709551616) (w : World) (hc : w.cell? ⟨rb, 0, none⟩ = some (.int .u64 X)) (hf : w.frozen? ⟨rb, 0, none⟩ = false) :
    Calls Try.prog 146 #[.pointer (some ⟨rb, 0, none⟩)] w fun e w' => ∃ Y : Nat, Y < 18446744073709551616 ∧ e = .returned (.int .u64 Y) ∧ w' = (w.setCell ⟨rb, 0, none⟩ (.int .u64 Y)).drewN 3 := by
  obtain ⟨A, lA, e1⟩ : ∃ A : Nat, A < 18446744073709551616 ∧ bits .xor .u64 (X : Int) (IntKind.u64.wrap ((X : Int) * 8192)) = (A : Int) := by
    rw [IntKind.wrap_u64, show ((X : Int) * 8192 % 18446744073709551616) = ((X * 8192 % 18446744073709551616 : Nat) : Int) by omega]; exact xor_u _ _ hX (by omega)
  obtain ⟨B, lB, e2⟩ : ∃ B : Nat, B < 18446744073709551616 ∧ bits .xor .u64 (A : Int) ((A : Int) / 128) = (B : Int) := by
    rw [show ((A : Int) / 128) = ((A / 128 : Nat) : Int) by omega]; exact xor_u _ _ lA (by omega)
  obtain ⟨C, lC, e3⟩ : ∃ C : Nat, C < 18446744073709551616 ∧ bits .xor .u64 (B : Int) (IntKind.u64.wrap ((B : Int) * 131072)) = (C : Int) := by
    rw [IntKind.wrap_u64, show ((B : Int) * 131072 % 18446744073709551616) = ((B * 131072 % 18446744073709551616 : Nat) : Int) by omega]; exact xor_u _ _ lB (by omega)
  have hss : ∀ v v', (w.setCell ⟨rb, 0, none⟩ v).setCell ⟨rb, 0, none⟩ v' = w.setCell ⟨rb, 0, none⟩ v' := setCell_setCell w rb 0
  go_enter Try.func146, Try.ntmps146
  go_wp2
  go_region
  all_goals go_wp2
  all_goals go_region
  all_goals go_wp2
  all_goals go_region
  all_goals go_wp2
  go_ret
  exact ⟨C, lC, rfl, rfl⟩

/-! ### The world in the midst of the sort -/
theorem putRow_heap (w : World) (blk off k : Nat) (d : Array Int) (h : k ≠ blk) : (putRow (Value.int .u64) w blk off d).heap[k]? = w.heap[k]? := by
  unfold putRow mapBlock
  simp only [Array.getElem?_modify]
  rw [if_neg (Ne.symm h)]
/-- Of the blocks that stood, only the row has changed: it holds d. -/
def SU (w0 w : World) (blk off : Nat) (d : Array Int) : Prop := Go.RowKit.Below w0.heap.size (putRow (Value.int .u64) w0 blk off d) w
theorem SU.start {w : World} {blk off : Nat} {d : Array Int} (h : Holds (Value.int .u64) w blk off d) : SU w w blk off d := by
  unfold SU; rw [putRow_self _ _ _ _ _ h]; exact Go.RowKit.Below.refl _ _
theorem SU.holds {w0 w : World} {blk off : Nat} {d0 d : Array Int} (h : SU w0 w blk off d) (hH : Holds (Value.int .u64) w0 blk off d0) (hs : d.size = d0.size) (hb : blk < w0.heap.size) : Holds (Value.int .u64) w blk off d :=
  holds_heap (holds_putRow _ _ _ _ d0 d hH hs) (h.block blk hb)
theorem SU.size {w0 w : World} {blk off : Nat} {d : Array Int} (h : SU w0 w blk off d) : w0.heap.size ≤ w.heap.size := by
  have := Go.RowKit.Below.size h; simpa using this
theorem SU.put {w0 w : World} {blk off : Nat} {d : Array Int} (h : SU w0 w blk off d) (d' : Array Int) (hs : d'.size = d.size) (n : Nat) : SU w0 (putRow (Value.int .u64) (Sort.ahead w n) blk off d') blk off d' := by
  unfold SU
  rw [show putRow (Value.int .u64) w0 blk off d' = putRow (Value.int .u64) (putRow (Value.int .u64) w0 blk off d) blk off d' from (putRow_putRow _ _ _ _ _ _ hs).symm]
  refine ⟨h.os, h.tape, h.output, by simpa using h.size, fun k hk => ?_⟩
  by_cases e : k = blk
  · subst e
    have := h.block k hk
    unfold putRow mapBlock at *
    simp only [Array.getElem?_modify, if_true] at *
    rw [show (Sort.ahead w n).heap = w.heap from rfl, this]
  · rw [putRow_heap _ _ _ _ _ e, putRow_heap _ _ _ _ _ e]; exact h.block k hk
theorem SU.then {w0 w w' : World} {blk off : Nat} {d : Array Int} (h : SU w0 w blk off d) (k : Go.RowKit.Below w.heap.size w w') : SU w0 w' blk off d :=
  Go.RowKit.Below.trans h (k.mono h.size)
end Go.Proofs.Ytpjchgiemmnikaa

namespace Go.Proofs.Ytpjchgiemmnikaa
set_option linter.unusedVariables false
set_option linter.unusedSimpArgs false
open Go.RowKit Go.Sort Go.Proofs Go.Proofs.YtpjchgiemmnikaaW.PrintWords

/-- One round: the generator's cell is written, two places of the row change. -/
theorem SU.round {w wr : World} {blk off : Nat} {d : Array Int} (h : SU w wr blk off d) {d0 : Array Int} (hH : Holds (Value.int .u64) w blk off d0) (hs : d.size = d0.size) (hb : blk < w.heap.size) (Y : Nat) {j k : Nat} (hj : j < d.size) (hk : k < d.size) {x y : Int} (hx : x = d[k]!) (hy : y = d[j]!) (q : Nat) :
    SU w (((((wr.setCell ⟨w.heap.size, 0, none⟩ (.int .u64 Y)).drewN q).setCell ⟨blk, off + j, none⟩ (.int .u64 x)).setCell ⟨blk, off + k, none⟩ (.int .u64 y))) blk off (swp d j k) := by
  have h1 : SU w (wr.setCell ⟨w.heap.size, 0, none⟩ (.int .u64 Y)) blk off d := Go.RowKit.Below.setCell h (Nat.le_refl _) _
  have h2 := h1.holds hH hs hb
  have e := swapU (selfU h2) (q := q) hj hk hx hy
  rw [e]
  exact h1.put _ (size_swp d j k) _
/-- The generator's cell behind a round. -/
theorem gen_round {wr : World} {gb blk off : Nat} {X : Int} (hg : wr.heap[gb]? = some (.cells #[.int .u64 X] 165 (0, 0))) (hne : gb ≠ blk) (Y : Nat) (q j k : Nat) (x y : Value) :
    (((((wr.setCell ⟨gb, 0, none⟩ (.int .u64 Y)).drewN q).setCell ⟨blk, off + j, none⟩ x).setCell ⟨blk, off + k, none⟩ y)).heap[gb]? = some (.cells #[.int .u64 Y] 165 (0, 0)) := by
  rw [Below.heap_setCell _ ⟨blk, off + k, none⟩ _ gb hne, Below.heap_setCell _ ⟨blk, off + j, none⟩ _ gb hne]
  exact blk_set hg 0 (.int .u64 Y)

theorem and_u (Y M : Nat) (hY : Y < 18446744073709551616) (hM : 1 ≤ M) (hM2 : M < 18446744073709551616) : ∃ O : Nat, O ≤ M - 1 ∧ bits .and .u64 (Y : Int) ((M : Int) - 1) = (O : Int) :=
  ⟨Y &&& (M - 1), Nat.and_le_right, by rw [show ((M : Int) - 1) = ((M - 1 : Nat) : Int) by omega, bits_and_u64_nat _ _ hY (by omega)]⟩

set_option maxHeartbeats 4000000 in
set_option maxRecDepth 100000 in
theorem breakPatterns_u (blk off len cap a b : Nat) (d : Array Int) (hlen : d.size = len) (w : World) (hH : Holds (Value.int .u64) w blk off d) (hblk : blk < w.heap.size) (hab : a ≤ b) (hb : b ≤ d.size) (hsz : d.size < 4611686018427387904) :
    Calls Try.prog 123 #[.slice (some ⟨blk, off, none⟩) len cap, .int .i64 a, .int .i64 b] w fun e w' =>
      e = .returned (.tuple #[]) ∧ ∃ d', PermIn a b d d' ∧ SU w w' blk off d' := by
  subst hlen
  obtain ⟨L, rfl⟩ : ∃ L, b = a + L := ⟨b - a, by omega⟩
  obtain ⟨M, hM⟩ : ∃ M : Nat, M = 1 <<< bitsLen L := ⟨_, rfl⟩
  have hNP : ∀ w, Calls Try.prog 145 #[.int .i64 (L : Int)] w fun e w' => e = .returned (.int .u64 (M : Int)) ∧ w' = w := by rw [hM]; exact fun w => npot_u L (by omega) w
  have st := SU.start hH
  have eL : (a : Int) + (L : Int) - (a : Int) = (L : Int) := by omega
  have HH := Lib.hid hH
  by_cases h8 : 8 ≤ L
  · have hM1 : 1 ≤ M := by rw [hM, Nat.one_shiftLeft]; exact Nat.two_pow_pos _
    have hM2 : M ≤ 2 * L := by rw [hM, Nat.one_shiftLeft]; exact two_pow_bitsLen_le (by omega)
    have st2 : SU w (w.alloc (.cells #[.int .u64 (L : Int)] 165)) blk off d := Go.RowKit.Below.alloc st (by simp) _
    have ng : (w.alloc (.cells #[.int .u64 (L : Int)] 165)).heap[w.heap.size]? = some (.cells #[.int .u64 (L : Int)] 165 (0, 0)) := blk_new w _
    have ST := Lib.hid st2; have NG := Lib.hid ng; have EL := Lib.hid eL
    clear hM hH st st2 ng eL
    go_enter Try.func123, Try.ntmps123
    go_wp2_with (first | (go_at_call 145; rw [EL.out]; refine (hNP _).mono ?_; rintro e w' ⟨rfl, rfl⟩))
    go_loopw [9] (fun vi wr => ∃ (t X : Nat) (dk : Array Int), vi = .int .i64 ((a + L / 4 * 2 - 1 + t : Nat) : Int) ∧ t ≤ 3 ∧ X < 18446744073709551616 ∧ PermIn a (a + L) d dk ∧ SU w wr blk off dk ∧
        wr.heap[w.heap.size]? = some (.cells #[.int .u64 (X : Int)] 165 (0, 0))) (fun vi _ => a + L / 4 * 2 + 3 - (intOf vi).toNat)
    case atStart => exact ⟨0, L, d, by congr 1; omega, by omega, by omega, permIn_refl _ _ _, ST.out, NG.out⟩
    case round =>
      obtain ⟨t, X, dk, rfl, ht, hX, hp, hs, hg⟩ := hrel
      have hsk : dk.size = d.size := hp.1
      have hh := hs.holds HH.out hsk hblk
      obtain ⟨G, hG, hcw, hfw⟩ := famU hh rfl (selfU hh)
      have N := next_u w.heap.size X hX wr (blk_cell hg 0) (blk_frozen hg 0)
      have HS := Lib.hid hs; have HP := Lib.hid hp; have HG := Lib.hid hG; have GG := Lib.hid hg
      have hne : w.heap.size ≠ blk := by omega
      clear hs hp hh hG hg
      go_wp2_with (first | (go_at_call 146; refine N.mono ?_; rintro e w' ⟨Y, hY, rfl, rfl⟩; clear N; obtain ⟨O, lO, eO⟩ := and_u Y M hY hM1 (by omega)))
      · have hLO : L ≤ O := by omega
        by_cases hEq : a + L / 4 * 2 - 1 + t = a + (O - L)
        all_goals
          go_region
          all_goals go_wp2
          go_roundw
          case rel =>
            refine ⟨t + 1, Y, swp dk (a + L / 4 * 2 - 1 + t) (a + (O - L)), by first | rfl | (congr 1 <;> omega), by omega, hY, permIn_trans _ _ _ _ _ HP.out (swp_permIn _ _ _ _ _ (by omega) (by omega) (by omega) (by omega) (by omega)), ?_, ?_⟩
            · (try rw [hEq])
              simp only [HG.out]
              exact HS.out.round HH.out hsk hblk Y (by omega) (by omega) rfl rfl _
            · (try rw [hEq])
              exact gen_round GG.out hne Y _ _ _ _ _
          case measure => simp [intOf]; omega
      · have hLO : ¬ L ≤ O := by omega
        by_cases hEq : a + L / 4 * 2 - 1 + t = a + O
        all_goals
          go_region
          all_goals go_wp2
          go_roundw
          case rel =>
            refine ⟨t + 1, Y, swp dk (a + L / 4 * 2 - 1 + t) (a + O), by first | rfl | (congr 1 <;> omega), by omega, hY, permIn_trans _ _ _ _ _ HP.out (swp_permIn _ _ _ _ _ (by omega) (by omega) (by omega) (by omega) (by omega)), ?_, ?_⟩
            · (try rw [hEq])
              simp only [HG.out]
              exact HS.out.round HH.out hsk hblk Y (by omega) (by omega) rfl rfl _
            · (try rw [hEq])
              exact gen_round GG.out hne Y _ _ _ _ _
          case measure => simp [intOf]; omega
      · go_end0
        exact ⟨rfl, dk, HP.out, HS.out⟩
  · have ST := Lib.hid st; have EL := Lib.hid eL
    clear hM hH st eL hNP
    go_enter Try.func123, Try.ntmps123
    go_wp2
    go_end0
    exact ⟨rfl, d, permIn_refl _ _ _, ST.out⟩
end Go.Proofs.Ytpjchgiemmnikaa

namespace Go.Proofs.Ytpjchgiemmnikaa
set_option linter.unusedVariables false
set_option linter.unusedSimpArgs false
open Go.RowKit Go.Sort Go.Proofs Go.Proofs.YtpjchgiemmnikaaW.PrintWords

theorem SU.trans {w0 w1 w2 : World} {blk off : Nat} {d d' : Array Int} (h : SU w0 w1 blk off d) (k : SU w1 w2 blk off d') (hs : d'.size = d.size) : SU w0 w2 blk off d' :=
  (h.put d' hs 0).then (Go.RowKit.Below.mono k (by simp))
theorem SU.draws {w0 w1 : World} {blk off : Nat} {d : Array Int} (h : SU w0 w1 blk off d) (n : Nat) : SU w0 (w1.drewN n) blk off d := ⟨h.os, h.tape, h.output, by have := Go.RowKit.Below.size h; simpa using this, h.block⟩

set_option maxHeartbeats 6400000 in
set_option maxRecDepth 1000000 in
theorem pdqsort_u : ∀ (N blk off len cap a b limit : Nat) (d : Array Int) (_ : d.size = len) (w : World), b - a < N → Holds (Value.int .u64) w blk off d → blk < w.heap.size → a ≤ b → b ≤ d.size → d.size < 4611686018427387904 → limit < 4611686018427387904 → Below ltInt a b d →
    Calls Try.prog 100 #[.slice (some ⟨blk, off, none⟩) len cap, .int .i64 a, .int .i64 b, .int .i64 limit] w fun e w' => e = .returned (.tuple #[]) ∧ ∃ d', (PermIn a b d d' ∧ SortedIn ltInt a b d') ∧ SU w w' blk off d' := by
  intro N
  induction N with
  | zero => intro _ _ _ _ _ _ _ _ _ _ h; exact absurd h (Nat.not_lt_zero _)
  | succ N ih =>
    intro blk off len cap a b limit d hlen w hN hH hblk hab hb hsz hlimit hBel0
    have HH := Lib.hid hH
    have ST := Lib.hid (SU.start hH)
    have HB0 := Lib.hid hBel0
    have IH := Lib.hid ih
    clear hH hBel0 ih
    go_enter Try.func100, Try.ntmps100
    go_wp2
    go_loopg [1, 2, 3, 8, 9] (b - a) (fun k s1 s2 s3 s8 s9 wr => ∃ (a' b' lim : Nat) (wb wp : Bool) (dk : Array Int), s1 = .int .i64 a' ∧ s2 = .int .i64 b' ∧ s3 = .int .i64 lim ∧ s8 = .bool wb ∧ s9 = .bool wp ∧
      a' ≤ b' ∧ b' ≤ d.size ∧ b' - a' ≤ k ∧ k ≤ b - a ∧ lim ≤ limit ∧ dk.size = d.size ∧ Below ltInt a' b' dk ∧ SU w wr blk off dk ∧ ∀ R, PermIn a' b' dk R → SortedIn ltInt a' b' R → PermIn a b d R ∧ SortedIn ltInt a b R)
    case atStart => exact ⟨a, b, limit, true, true, d, rfl, rfl, rfl, rfl, rfl, hab, hb, Nat.le_refl _, Nat.le_refl _, Nat.le_refl _, rfl, HB0.out, ST.out, fun R h1 h2 => ⟨h1, h2⟩⟩
    case round =>
      obtain ⟨a', b', lim, wb, wp, dk, rfl, rfl, rfl, rfl, rfl, hab', hb', hk, hkN, hlim, hds, hBel, hS, hK⟩ := hrel
      have hbl : blk < wr.heap.size := Nat.lt_of_lt_of_le hblk hS.size
      have hh := hS.holds HH.out hds hblk
      have hb2 : b' ≤ dk.size := by omega
      have sz2 : dk.size < 4611686018427387904 := by omega
      have K := Lib.hid hK; have BE := Lib.hid hBel; have HS := Lib.hid hS
      clear hK hBel hS
      by_cases h12 : b' - a' ≤ 12
      · have h12z : (b' : Int) - (a' : Int) ≤ 12 := by omega
        have hc := insertionSort_u blk off len cap a' b' dk (by omega) wr hh hab' hb2 sz2
        obtain ⟨hp, hso⟩ := insertionSort_holds swo_ltInt dk a' b' hab' hb2
        have HP := Lib.hid hp; have HO := Lib.hid hso
        clear hp hso hh
        go_wp2_with (go_at_call 121; refine hc.mono ?_; rintro e w1 ⟨rfl, hw1⟩; clear hc)
        (try simp only [Exit.inBlock, Exit.then]); refine bodyPost_ret (results_none rfl _ _ _) rfl ?_
        obtain ⟨n1, rfl⟩ := hw1
        exact ⟨rfl, _, K.out _ HP.out HO.out, HS.out.put _ HP.out.1 _⟩
      · have h12z : ¬ ((b' : Int) - (a' : Int) ≤ 12) := by omega
        by_cases hl0 : lim = 0
        · subst hl0
          have hc := heapSort_u blk off len cap a' b' dk (by omega) wr hh hab' hb2 sz2
          obtain ⟨hp, hso⟩ := heapSort_holds swo_ltInt dk a' b' hab' hb2
          have HP := Lib.hid hp; have HO := Lib.hid hso
          clear hp hso hh
          go_wp2_with (go_at_call 122; refine hc.mono ?_; rintro e w1 ⟨rfl, hw1⟩; clear hc)
          (try simp only [Exit.inBlock, Exit.then]); refine bodyPost_ret (results_none rfl _ _ _) rfl ?_
          obtain ⟨n1, rfl⟩ := hw1
          exact ⟨rfl, _, K.out _ HP.out HO.out, HS.out.put _ HP.out.1 _⟩
        · have hl0z : ¬ ((lim : Int) = 0) := by omega
          have h12n : a' < b' := by omega
          -- 'if !wasBalanced { breakPatterns; limit-- }': the ways meet
          go_upto_if 35 with fail
          go_cut [3] (fun s3 wc => ∃ (l1 : Nat) (d1 : Array Int), s3 = .int .i64 l1 ∧ l1 ≤ lim ∧ PermIn a' b' dk d1 ∧ SU w wc blk off d1)
          case first =>
            cases wb
            · have hc := breakPatterns_u blk off len cap a' b' dk (by omega) wr hh hbl hab' hb2 sz2
              clear hh
              go_wp2_with (go_at_call 123; refine hc.mono ?_; rintro e w1 ⟨rfl, hw1⟩; clear hc)
              go_meet
              case rel =>
                obtain ⟨d1, hp1, hs1⟩ := hw1
                exact ⟨lim - 1, d1, by congr 1; omega, by omega, hp1, HS.out.trans hs1 hp1.1⟩
            · clear hh
              go_wp2_with fail
              go_meet
              case rel => exact ⟨lim, dk, rfl, Nat.le_refl _, permIn_refl _ _ _, HS.out⟩
          case rest =>
            obtain ⟨l1, d1, rfl, hl1, hp1, hs1⟩ := hcut
            have z1 : d1.size = d.size := hp1.1.trans hds
            have hh1 := hs1.holds HH.out z1 hblk
            have hbl1 : blk < wc.heap.size := Nat.lt_of_lt_of_le hblk hs1.size
            have hc := choosePivot_u blk off len cap a' b' d1 (by omega) wc hh1 hbl1 h12n (by omega) (by omega)
            have HP1 := Lib.hid hp1; have HS1 := Lib.hid hs1
            clear hp1 hs1 hh hh1 hbl
            go_upto_if 50 with (go_at_call 124; refine hc.mono ?_; rintro e w2 ⟨p, hint, rfl, hpa, hpb, hhi, hw2⟩; clear hc)
            have hs2 := HS1.out.then hw2
            have hh2 := hs2.holds HH.out z1 hblk
            have HS2 := Lib.hid hs2
            clear hw2 hs2
            -- 'if hint == decreasingHint { .. }': the ways meet
            go_cut [11, 12] (fun s11 s12 wc => ∃ (p2 h2 : Nat) (d2 : Array Int), s11 = .int .i64 p2 ∧ s12 = .int .i64 h2 ∧ a' ≤ p2 ∧ p2 < b' ∧ PermIn a' b' dk d2 ∧ SU w wc blk off d2)
            case first =>
              by_cases hh3 : hint = 2
              · subst hh3
                have hc := reverseRange_u blk off len cap a' b' d1 (by omega) w2 hh2 h12n (by omega) (by omega)
                have HR := Lib.hid (reverseRange_holds d1 a' b' hab' (by omega))
                clear hh2
                go_wp2_with (go_at_call 125; refine hc.mono ?_; rintro e w3 ⟨rfl, hw3⟩; clear hc)
                go_meet
                case rel =>
                  obtain ⟨n3, rfl⟩ := hw3
                  exact ⟨b' - 1 - (p - a'), 1, _, by congr 1; omega, rfl, by omega, by omega, permIn_trans _ _ _ _ _ HP1.out HR.out, HS2.out.put _ HR.out.1 _⟩
              · have hh3z : ¬ ((hint : Int) = 2) := by omega
                clear hh2
                go_wp2_with fail
                go_meet
                case rel => exact ⟨p, hint, d1, rfl, rfl, hpa, hpb, HP1.out, HS2.out⟩
            case rest =>
              obtain ⟨p2, h2, d2, rfl, rfl, hpa2, hpb2, hp2, hs2⟩ := hcut
              have z2 : d2.size = d.size := hp2.1.trans hds
              have hh4 := hs2.holds HH.out z2 hblk
              have HP2 := Lib.hid hp2; have HS3 := Lib.hid hs2
              clear hp2 hs2 hh2
              go_upto_region 15 with fail
              go_cut [12, 68] (fun s12 s68 wx => s12 = .int .i64 h2 ∧ (∃ c : Bool, s68 = .bool c) ∧ wx = wc)
              case first =>
                by_cases h21 : h2 = 1
                · subst h21
                  cases wb <;> cases wp <;> (go_wp2_with fail; go_meet; exact ⟨rfl, ⟨_, rfl⟩, rfl⟩)
                · have h21z : ¬ ((h2 : Int) = 1) := by omega
                  cases wb <;> cases wp <;> (go_wp2_with fail; go_meet; exact ⟨rfl, ⟨_, rfl⟩, rfl⟩)
              case rest =>
                obtain ⟨rfl, ⟨c, rfl⟩, rfl⟩ := hcut
                -- 'if .. { if partialInsertionSort(..) { return } }': the ways meet, or it returns
                go_upto_if 68 with fail
                go_cut [] (fun wx => ∃ d3 : Array Int, PermIn a' b' dk d3 ∧ SU w wx blk off d3)
                case first =>
                  cases c
                  · clear hh4
                    go_wp2_with fail
                    go_meet
                    case rel => exact ⟨d2, HP2.out, HS3.out⟩
                  · have hpp := partialInsertionSort_holds swo_ltInt d2 a' b' h12n (by omega) (BE.out.perm hb2 HP2.out)
                    have hc := partialIns_u blk off len cap a' b' d2 (by omega) wc hh4 h12n (by omega) (by omega)
                    obtain ⟨pd, pb, hx⟩ : ∃ pd pb, partialInsertionSort ltInt d2 a' b' = (pd, pb) := ⟨_, _, rfl⟩
                    rw [hx] at hc hpp
                    have PP := Lib.hid hpp
                    clear hx hpp hh4
                    go_wp2_with (go_at_call 126; refine hc.mono ?_; rintro e w4 ⟨rfl, hw4⟩; clear hc)
                    all_goals first
                      | (go_meet
                         obtain ⟨n4, rfl⟩ := hw4
                         exact ⟨pd, permIn_trans _ _ _ _ _ HP2.out PP.out.1, HS3.out.put _ PP.out.1.1 _⟩)
                      | ((try simp only [Exit.inBlock, Exit.then]); refine bodyPost_ret (results_none rfl _ _ _) rfl ?_
                         obtain ⟨n4, rfl⟩ := hw4
                         exact ⟨rfl, pd, K.out _ (permIn_trans _ _ _ _ _ HP2.out PP.out.1) (PP.out.2 (by assumption)), HS3.out.put _ PP.out.1.1 _⟩)
                case rest =>
                  obtain ⟨d3, hp3, hs3⟩ := hcut
                  have z3 : d3.size = d.size := hp3.1.trans hds
                  have hh5 := hs3.holds HH.out z3 hblk
                  obtain ⟨G, hG, hcw, hfw⟩ := famU hh5 rfl (selfU hh5)
                  rw [z3] at hcw hfw
                  have HP3 := Lib.hid hp3; have HS4 := Lib.hid hs3; have HH5 := Lib.hid hh5; have HG := Lib.hid hG
                  clear hp3 hs3 hh4 hh5 hG
                  -- 'a > 0 && !cmp.Less(data[a-1], data[pivot])'
                  go_upto_region 17 with fail
                  go_cut [87] (fun s87 wx => ∃ c : Bool, s87 = .bool c ∧ (c = true → 0 < a' ∧ ltInt d3[a' - 1]! d3[p2]! = false) ∧ SU w wx blk off d3)
                  case first =>
                    rcases Nat.eq_zero_or_pos a' with ha0 | ha0
                    · have ha0z : decide ((a' : Int) > 0) = false := decide_eq_false (by omega)
                      go_big_quiet (first | (go_at_call 127; refine Calls.quiet_of_same (less_u _ _ _)))
                      go_wp2_with fail
                      go_meet
                      case rel => exact ⟨_, rfl, fun h => (nomatch h), HS4.out.draws _⟩
                    · have ha0z : (a' : Int) > 0 := by omega
                      go_big_quiet (first | (go_at_call 127; refine Calls.quiet_of_same (less_u _ _ _)))
                      go_wp2_with fail
                      go_meet
                      case rel => exact ⟨_, rfl, fun h => ⟨ha0, by rw [← HG.out, ← HG.out]; simpa using h⟩, HS4.out.draws _⟩
                  case rest =>
                    obtain ⟨c, rfl, hcn, hs4⟩ := hcut
                    have hh6 := hs4.holds HH.out z3 hblk
                    have B3 := BE.out.perm hb2 HP3.out
                    have HS5 := Lib.hid hs4; have CN := Lib.hid hcn
                    clear hcw hfw hs4 hcn
                    cases c
                    · obtain ⟨mid, ap, d4, hx⟩ : ∃ mid ap d4, partition ltInt d3 a' b' p2 = (mid, ap, d4) := ⟨_, _, _, rfl⟩
                      obtain ⟨r1, r2, r3, r4, r5, r6, r7⟩ := round_part swo_ltInt (partition_holds _) hpa2 hpb2 (by omega) B3 hx
                      have hc := partition_u blk off len cap a' b' p2 d3 (by omega) wc hh6 hpa2 hpb2 (by omega) (by omega)
                      rw [hx] at hc
                      have R4 := Lib.hid r4; have R5 := Lib.hid r5; have R6 := Lib.hid r6; have R7 := Lib.hid r7; have R3 := Lib.hid r3; have B4 := Lib.hid B3
                      clear hx hh6 r4 r5 r6 r7 r3 B3
                      go_upto_if 113 with (go_at_call 129; refine hc.mono ?_; rintro e w7 ⟨rfl, hw7⟩; clear hc)
                      have hs7 : SU w w7 blk off d4 := by obtain ⟨n7, rfl⟩ := hw7; exact HS5.out.put _ R3.out _
                      have z4 : d4.size = d.size := R3.out.trans z3
                      have hh7 := hs7.holds HH.out z4 hblk
                      have hbl7 : blk < w7.heap.size := Nat.lt_of_lt_of_le hblk hs7.size
                      have HS7 := Lib.hid hs7
                      clear hw7 hs7
                      by_cases h4 : mid - a' < b' - mid
                      · have h4z : (mid : Int) - (a' : Int) < (b' : Int) - (mid : Int) := by omega
                        have hc := IH.out blk off len cap a' mid l1 d4 (by omega) w7 (by omega) hh7 hbl7 (by omega) (by omega) (by omega) (by omega) R4.out
                        clear hh7
                        go_wp2_with (go_at_call 100; refine hc.mono ?_; rintro e w8 ⟨rfl, hw8⟩; clear hc)
                        go_roundg (b' - (mid + 1))
                        case measure => omega
                        case rel =>
                          obtain ⟨d5, ⟨pL, sL⟩, hs8⟩ := hw8
                          obtain ⟨BL, hfin⟩ := R6.out d5 pL sL
                          exact ⟨mid + 1, b', l1, _, ap, d5, by first | rfl | (congr 1 <;> omega), rfl, rfl, rfl, rfl, by omega, by omega, Nat.le_refl _, by omega, by omega, by rw [pL.1, z4], BL, HS7.out.trans hs8 pL.1,
                            fun R h1 h2 => K.out R (permIn_trans _ _ _ _ _ HP3.out (hfin R h1 h2).1) (hfin R h1 h2).2⟩
                      · have h4z : ¬ ((mid : Int) - (a' : Int) < (b' : Int) - (mid : Int)) := by omega
                        have hc := IH.out blk off len cap (mid + 1) b' l1 d4 (by omega) w7 (by omega) hh7 hbl7 (by omega) (by omega) (by omega) (by omega) R5.out
                        clear hh7
                        go_wp2_with (go_at_call 100; refine hc.mono ?_; rintro e w8 ⟨rfl, hw8⟩; clear hc)
                        go_roundg (mid - a')
                        case measure => omega
                        case rel =>
                          obtain ⟨d5, ⟨pL, sL⟩, hs8⟩ := hw8
                          obtain ⟨BL, hfin⟩ := R7.out d5 pL sL
                          exact ⟨a', mid, l1, _, ap, d5, rfl, rfl, rfl, rfl, rfl, by omega, by omega, Nat.le_refl _, by omega, by omega, by rw [pL.1, z4], BL, HS7.out.trans hs8 pL.1,
                            fun R h1 h2 => K.out R (permIn_trans _ _ _ _ _ HP3.out (hfin R h1 h2).1) (hfin R h1 h2).2⟩
                    · obtain ⟨mid, d4, hx⟩ : ∃ mid d4, partitionEqual ltInt d3 a' b' p2 = (mid, d4) := ⟨_, _, rfl⟩
                      obtain ⟨ha0, hnl⟩ := CN.out rfl
                      obtain ⟨r1, r2, r3, r4, r5⟩ := round_eq swo_ltInt (partitionEqual_holds _) ha0 hpa2 hpb2 (by omega) B3 hnl hx
                      have hc := partitionEqual_u blk off len cap a' b' p2 d3 (by omega) wc hh6 hpa2 hpb2 (by omega) (by omega)
                      rw [hx] at hc
                      have R4 := Lib.hid r4; have R5 := Lib.hid r5; have R3 := Lib.hid r3
                      clear hx hh6 r4 r5 r3 B3 hnl
                      go_wp2_with (go_at_call 128; refine hc.mono ?_; rintro e w7 ⟨rfl, hw7⟩; clear hc)
                      go_roundg (b' - mid)
                      case measure => omega
                      case rel =>
                        obtain ⟨n7, rfl⟩ := hw7
                        exact ⟨mid, b', l1, wb, wp, d4, rfl, rfl, rfl, rfl, rfl, r2, hb', Nat.le_refl _, by omega, by omega, by rw [R3.out]; exact z3, R4.out, HS5.out.put _ R3.out _,
                          fun R h1 h2 => K.out R (permIn_trans _ _ _ _ _ HP3.out (R5.out R h1 h2).1) (R5.out R h1 h2).2⟩
end Go.Proofs.Ytpjchgiemmnikaa

namespace Go.Proofs.Ytpjchgiemmnikaa
set_option linter.unusedVariables false
set_option linter.unusedSimpArgs false
open Go.RowKit Go.Sort Go.Proofs Go.Proofs.YtpjchgiemmnikaaW.PrintWords

theorem sort_u (blk off len cap : Nat) (d : Array Int) (hlen : d.size = len) (w : World) (hH : Holds (Value.int .u64) w blk off d) (hblk : blk < w.heap.size) (hsz : d.size < 4611686018427387904) :
    Calls Try.prog 66 #[.slice (some ⟨blk, off, none⟩) len cap] w fun e w' =>
      e = .returned (.tuple #[]) ∧ ∃ d', (PermIn 0 len d d' ∧ SortedIn ltInt 0 len d') ∧ SU w w' blk off d' := by
  have C := Try.bits_Len len w (by omega) (by omega)
  rw [Int.toNat_natCast, bitLen_eq _ (by omega)] at C
  have hk : bitsLen len ≤ 62 := (bitsLen_le_iff len 62).2 (by omega)
  have wr : IntKind.u64.wrap (len : Int) = len := by rw [IntKind.wrap_u64]; omega
  have hc := fun lim (h : lim < 4611686018427387904) => pdqsort_u (len - 0 + 1) blk off len cap 0 len lim d hlen w (by omega) hH hblk (by omega) (by omega) (by omega) h (Or.inl rfl)
  have hc2 := hc (bitsLen len) (by omega)
  obtain ⟨B, hB⟩ : ∃ B, bitsLen len = B := ⟨_, rfl⟩
  rw [hB] at C hc2 hk
  have WR := Lib.hid wr
  clear hc hB wr hH
  go_enter Try.func66, Try.ntmps66
  go_wp2_with (first | (go_at_call 101; first | (refine C.mono ?_; rintro e w' ⟨rfl, rfl⟩; clear C) | (rw [WR.out]; refine C.mono ?_; rintro e w' ⟨rfl, rfl⟩; clear C)) | (go_at_call 100; refine hc2.mono ?_; rintro e w' ⟨rfl, hw⟩; clear hc2))
  go_end0
  exact ⟨rfl, hw⟩
end Go.Proofs.Ytpjchgiemmnikaa
