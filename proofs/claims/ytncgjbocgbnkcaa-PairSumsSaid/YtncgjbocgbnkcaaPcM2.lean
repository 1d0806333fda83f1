/- What the laws of this folder share, part 2: walks of functions over their Go text, and plain lemmas. Conditions: as each lemma says. -/
import Derived.Test.YtncgjbocgbnkcaaRows
import Derived.Sort.AssemblyPlain
import Derived.Sort.WalkA
import Derived.Deep.CutBlock
import Derived.Lib.Hide
import Derived.Sort.WalkB3
import Derived.Sort.WalkB12
import Derived.Outline
import Derived.Sort.WalkA6
import Derived.Deep.DeepCutAuto
import Derived.Sort.WalkC4
import Derived.Sort.Walk7a
import Derived.Sort.LotD2
import Derived.Sort.LotD3
import Derived.Sort.LotB
import Derived.Sort.LotC
import Derived.Deep.LoopGhost
import Derived.BigQuiet
import Derived.Maps.RangeWalk
import Derived.Maps.OwnSet
import Derived.Maps.OwnOps
import Derived.Maps.Views
import Derived.WalkKit
import Derived.WalkMore
import Derived.StillTail
import Derived.Laws.Externs
import Derived.WalkLawsBesides
import Derived.Test.YtncgjbocgbnkcaaProg
import Derived.Below
import Derived.Deep.Draws
import Derived.Deep.AppendLies
import Derived.Maps.AppendAt
import Derived.OwnWalk
import Derived.Laws.BytesArg
import Derived.Laws.MakeOwn
import Derived.Laws.OwnMore
import Derived.Deep.OwnRows
import Derived.Tactics
import Derived.Lib.ConvBytes
import Derived.Laws.Slices
import Derived.KernelRfl
import Derived.RowKit3
import Derived.Deep.QuietTactic
import Derived.WideLaws
import Derived.Deep.RegionHeld3
import Derived.Laws.Rows
import Derived.Lib.AppendStr
import Derived.ArgAppend
import Derived.Laws.IdiomCopy
import Derived.OrdersHeld
import Derived.Laws.BitsLemmas
import Derived.RowKit
import Derived.StillTailTactics
import Derived.Test.YtncgjbocgbnkcaaPcM1
namespace Go.Proofs.Ytncgjbocgbnkcaa
set_option linter.unusedVariables false
set_option linter.unusedSimpArgs false
open Go.RowKit Go.Sort Go.Proofs
/-- A quiet call behind a quiet region: the draws are one sum. -/
theorem quiet_add_same {P : Program} {f : FuncId} {args : Array Value} {w : World} {a n : Nat} {v : Value} (h : Calls P f args (w.drewN (a + n)) fun e w' => e = .returned v ∧ w' = w.drewN (a + n)) :
    Calls P f args (w.drewN (a + n)) fun e w'' => e = .returned v ∧ ∃ m, w'' = w.drewN (a + m) := h.mono fun _ _ ⟨he, hm⟩ => ⟨he, n, hm⟩
theorem isNaN_u (x : Int) (w : World) : Calls Try.prog 154 #[.int .u64 x] w fun e w' => e = .returned (.bool false) ∧ w' = w := by
  go_enter Try.func154, Try.ntmps154
  go_wp2
  go_ret
  exact ⟨by simp, rfl⟩
theorem less_u (x y : Int) (w : World) : Calls Try.prog 143 #[.int .u64 x, .int .u64 y] w fun e w' => e = .returned (.bool (Sort.ltInt x y)) ∧ w' = w := by
  go_enter Try.func143, Try.ntmps143
  go_wp2_with (go_at_call 154; refine (isNaN_u _ _).mono ?_; rintro e w' ⟨rfl, rfl⟩)
  go_ret
  exact ⟨rfl, rfl⟩
/-- An exchange of two places, some draws on. -/
theorem swapU {wr w : World} {n blk off : Nat} {dk : Array Int} (hw : wr = putRow (Value.int .u64) (Sort.ahead w n) blk off dk) {q j k : Nat} {x y : Int} (hj : j < dk.size) (hk : k < dk.size) (hx : x = dk[k]!) (hy : y = dk[j]!) :
    ((wr.drewN q).setCell ⟨blk, off + j, none⟩ (.int .u64 x)).setCell ⟨blk, off + k, none⟩ (.int .u64 y) = putRow (Value.int .u64) (Sort.ahead w (n + q)) blk off (swp dk j k) := by
  rw [hw, hx, hy]
  exact swap_worldA _ w n q blk off dk j k hj hk
/-- A call on a row behind some draws. -/
theorem thenU {wr w : World} {n blk off q : Nat} {dk d' : Array Int} (hw : wr = putRow (Value.int .u64) (Sort.ahead w n) blk off dk) (hs : d'.size = dk.size) : putRow (Value.int .u64) (Sort.ahead wr q) blk off d' = putRow (Value.int .u64) (Sort.ahead w (n + q)) blk off d' := by
  rw [hw]; exact putRow_ahead_putRow _ _ _ _ _ _ _ _ hs
theorem holdsU {wr w : World} {n blk off : Nat} {d dk : Array Int} (hH : Holds (Value.int .u64) w blk off d) (hs : dk.size = d.size) (hw : wr = putRow (Value.int .u64) (Sort.ahead w n) blk off dk) : Holds (Value.int .u64) wr blk off dk := by
  rw [hw]; exact holds_putRow _ _ _ _ d dk (holds_ahead _ _ _ _ _ _ hH) hs
set_option maxHeartbeats 1000000 in
theorem insertionSort_u (blk off len cap a b : Nat) (d : Array Int) (hlen : d.size = len) (w : World) (hH : Holds (Value.int .u64) w blk off d) (hab : a ≤ b) (hb : b ≤ d.size) (hsz : d.size < 4611686018427387904) :
    Calls Try.prog 137 #[.slice (some ⟨blk, off, none⟩) len cap, .int .i64 a, .int .i64 b] w fun e w' =>
      e = .returned (.tuple #[]) ∧ ∃ n, w' = putRow (Value.int .u64) (Sort.ahead w n) blk off (Sort.insertionSort ltInt d a b) := by
  subst hlen
  go_enter Try.func137, Try.ntmps137
  go_wp2
  go_loopw [6] (fun vi wr => ∃ (i n : Nat) (dk : Array Int), vi = .int .i64 i ∧ a < i ∧ i ≤ b + 1 ∧ dk.size = d.size ∧ wr = putRow (Value.int .u64) (Sort.ahead w n) blk off dk ∧
      insOuter ltInt a b i dk = insOuter ltInt a b (a + 1) d) (fun vi _ => b + 1 - (intOf vi).toNat)
  case atStart => exact ⟨a + 1, 0, d, by go_num, by omega, by omega, rfl, (putRow_self _ _ _ _ _ hH).symm, rfl⟩
  case round =>
    obtain ⟨i, n, dk, rfl, hai, hib, hsk, hwr, hO⟩ := hrel
    have HO := Lib.hid hO
    clear hO
    go_wp2
    · go_loopw [7] (fun vj wr2 => ∃ (j m : Nat) (dj : Array Int), vj = .int .i64 j ∧ a ≤ j ∧ j ≤ i ∧ dj.size = d.size ∧ wr2 = putRow (Value.int .u64) (Sort.ahead w m) blk off dj ∧
          insInner ltInt a j dj = insInner ltInt a i dk) (fun vj _ => (intOf vj).toNat)
      case atStart => exact ⟨i, n, dk, rfl, by omega, Nat.le_refl _, hsk, rfl, rfl⟩
      case round =>
        obtain ⟨j, m, dj, rfl, haj, hji, hsj, hw2, hI⟩ := hrel
        have hlt : i < b := by assumption
        obtain ⟨G, hG⟩ : ∃ G : Nat → Int, ∀ t, G t = dj[t]! := ⟨fun t => dj[t]!, fun _ => rfl⟩
        have hcw : ∀ t, t < d.size → wr.cell? ⟨blk, off + t, none⟩ = some (.int .u64 (G t)) := fun t ht => by
          rw [hw2, hG]; exact cell?_putRow _ _ _ _ d dj (holds_ahead _ _ _ _ _ _ hH) hsj t (by omega)
        have hfw : ∀ t, t < d.size → wr.frozen? ⟨blk, off + t, none⟩ = false := fun t ht => by
          rw [hw2, frozen?_putRow]; exact ((holds_ahead _ _ m _ _ _ hH) t ht).2
        have HW := Lib.hid hw2
        have HG := Lib.hid hG
        have HI := Lib.hid hI
        clear hw2 hG hI hH
        have out : (j ≤ a ∨ ltInt dj[j]! dj[j - 1]! = false) → ∀ q, ∃ i' n' dk', Value.int .i64 ((i : Int) + 1) = .int .i64 (i' : Nat) ∧ a < i' ∧ i' ≤ b + 1 ∧ dk'.size = d.size ∧
            wr.drewN q = putRow (Value.int .u64) (Sort.ahead w n') blk off dk' ∧ insOuter ltInt a b i' dk' = insOuter ltInt a b (a + 1) d := fun hs q =>
          ⟨i + 1, m + q, dj, by go_num, by omega, by omega, hsj, by rw [HW.out]; exact putRow_drewN _ _ _ _ _ _ _,
            by rw [← HO.out, insOuter_go _ _ _ _ _ hlt, ← HI.out, insInner_stop _ _ _ _ hs]⟩
        have OUT := Lib.hid out
        clear out
        go_wp2
        by_cases hja : a < j
        · go_quiet (first | (go_at_call 143; refine Calls.quiet_of_same (less_u _ _ _)))
          go_wp2
          · have hl : ltInt (G j) (G (j - 1)) = true := by assumption
            go_region
            all_goals go_wp2
            go_roundw
            case rel =>
              refine ⟨j - 1, m + (nq + 1), swp dj j (j - 1), by congr 1; omega, by omega, by omega, by rw [size_swp]; exact hsj, ?_, ?_⟩
              · rw [HW.out, HG.out, HG.out]
                exact swap_worldA _ w m (nq + 1) blk off dj j (j - 1) (by omega) (by omega)
              · rw [← HI.out, insInner_go ltInt a j dj hja (by rw [← HG.out, ← HG.out]; exact hl)]
            case measure => simp [intOf]; omega
          · have hl : ltInt (G j) (G (j - 1)) = false := by assumption
            go_roundw
            case rel => exact OUT.out (Or.inr (by rw [← HG.out, ← HG.out]; exact hl)) nq
            case measure => simp [intOf]; omega
        · go_quiet (first | (go_at_call 143; refine Calls.quiet_of_same (less_u _ _ _)))
          go_wp2
          go_roundw
          case rel => exact OUT.out (Or.inl (by omega)) nq
          case measure => simp [intOf]; omega
    · have hge : ¬ i < b := by assumption
      go_end0
      exact ⟨rfl, n, by unfold Sort.insertionSort; rw [← HO.out, insOuter_stop _ _ _ _ _ hge]⟩
end Go.Proofs.Ytncgjbocgbnkcaa
namespace Go.Proofs.Ytncgjbocgbnkcaa
set_option linter.unusedVariables false
set_option linter.unusedSimpArgs false
open Go.RowKit Go.Sort Go.Proofs
/-- What a row holds behind some draws, its numbers under one name. -/
theorem famU {w wr : World} {m blk off : Nat} {d dj : Array Int} (hH : Holds (Value.int .u64) w blk off d) (hs : dj.size = d.size) (hw : wr = putRow (Value.int .u64) (Sort.ahead w m) blk off dj) :
    ∃ G : Nat → Int, (∀ t, G t = dj[t]!) ∧ (∀ t, t < d.size → wr.cell? ⟨blk, off + t, none⟩ = some (.int .u64 (G t))) ∧ (∀ t, t < d.size → wr.frozen? ⟨blk, off + t, none⟩ = false) :=
  ⟨fun t => dj[t]!, fun _ => rfl, fun t ht => by rw [hw]; exact cell?_putRow _ _ _ _ d dj (holds_ahead _ _ _ _ _ _ hH) hs t (by omega), fun t ht => by rw [hw, frozen?_putRow]; exact ((holds_ahead _ _ m _ _ _ hH) t ht).2⟩
set_option maxHeartbeats 2000000 in
theorem siftDown_u (blk off len cap lo hi first : Nat) (d : Array Int) (hlen : d.size = len) (w : World) (hH : Holds (Value.int .u64) w blk off d) (hb : first + hi ≤ d.size) (hlo : lo ≤ hi) (hsz : d.size < 4611686018427387904) :
    Calls Try.prog 149 #[.slice (some ⟨blk, off, none⟩) len cap, .int .i64 lo, .int .i64 hi, .int .i64 first] w fun e w' =>
      e = .returned (.tuple #[]) ∧ ∃ n, w' = putRow (Value.int .u64) (Sort.ahead w n) blk off (siftDown ltInt hi first lo d) := by
  subst hlen
  go_enter Try.func149, Try.ntmps149
  go_wp2
  go_loopw [8] (fun vi wr => ∃ (i n : Nat) (dk : Array Int), vi = .int .i64 i ∧ i ≤ hi ∧ dk.size = d.size ∧ wr = putRow (Value.int .u64) (Sort.ahead w n) blk off dk ∧
      siftDown ltInt hi first i dk = siftDown ltInt hi first lo d) (fun vi _ => hi - (intOf vi).toNat)
  case atStart => exact ⟨lo, 0, d, rfl, hlo, rfl, (putRow_self _ _ _ _ _ hH).symm, rfl⟩
  case round =>
    obtain ⟨i, n, dk, rfl, hi1, hsk, hwr, hO⟩ := hrel
    obtain ⟨G, hG, hcw, hfw⟩ := famU hH hsk hwr
    have HO := Lib.hid hO; have HG := Lib.hid hG; have HW := Lib.hid hwr
    clear hO hG hwr hH
    have DR : ∀ m, wr.drewN m = putRow (Value.int .u64) (Sort.ahead w (n + m)) blk off dk := fun m => by rw [HW.out]; exact putRow_drewN _ _ _ _ _ _ _
    have HDR := Lib.hid DR
    clear DR
    have e1 : first + (2 * i + 1) = first + 2 * i + 1 := by omega
    have e2 : first + (2 * i + 2) = first + 2 * i + 2 := by omega
    by_cases c1 : 2 * i + 1 < hi
    · by_cases c2 : 2 * i + 2 < hi
      · have g1 : decide (2 * (i : Int) + 1 + 1 < (hi : Int)) = true := decide_eq_true (by omega)
        have g2 : (2 * (i : Int) + 1 + 1 < (hi : Int)) := by omega
        go_wp2
        go_quiet (first | (go_at_call 143; exact Calls.quiet_of_same (less_u _ _ _)) | (go_at_call 143; exact quiet_add_same (less_u _ _ _)))
        go_wp2
        all_goals
          go_quiet (first | (go_at_call 143; exact Calls.quiet_of_same (less_u _ _ _)) | (go_at_call 143; exact quiet_add_same (less_u _ _ _)))
          go_wp2
        · have l12 : ltInt (G (first + 2 * i + 1)) (G (first + 2 * i + 2)) = true := by assumption
          have l0 : (!ltInt (G (first + i)) (G (first + 2 * i + 2))) = true := by assumption
          refine bodyPost_ret (results_none rfl _ _ _) rfl ?_
          exact ⟨rfl, _, by rw [HDR.out, putRow_drewN, ← HO.out, sd_right_stop ltInt dk c2 (by rw [e1, e2, ← HG.out, ← HG.out]; exact l12) (by rw [e2, ← HG.out, ← HG.out]; simpa using l0)]⟩
        · have l12 : ltInt (G (first + 2 * i + 1)) (G (first + 2 * i + 2)) = true := by assumption
          have l0 : (!ltInt (G (first + i)) (G (first + 2 * i + 2))) = false := by assumption
          go_region
          all_goals go_wp2
          go_roundw
          case rel =>
            refine ⟨2 * i + 2, _, swp dk (first + i) (first + 2 * i + 2), by first | rfl | (congr 1; omega), by omega, by rw [size_swp]; exact hsk, swapU HW.out (by omega) (by omega) (HG.out _) (HG.out _), ?_⟩
            rw [← HO.out, sd_right_go ltInt dk c2 (by rw [e1, e2, ← HG.out, ← HG.out]; exact l12) (by rw [e2, ← HG.out, ← HG.out]; simpa using l0), e2]
          case measure => simp [intOf]; omega
        · have l12 : ltInt (G (first + 2 * i + 1)) (G (first + 2 * i + 2)) = false := by assumption
          have l0 : (!ltInt (G (first + i)) (G (first + 2 * i + 1))) = true := by assumption
          refine bodyPost_ret (results_none rfl _ _ _) rfl ?_
          exact ⟨rfl, _, by rw [HDR.out, putRow_drewN, ← HO.out, sd_left_stop ltInt dk c1 (fun _ => by rw [e1, e2, ← HG.out, ← HG.out]; exact l12) (by rw [e1, ← HG.out, ← HG.out]; simpa using l0)]⟩
        · have l12 : ltInt (G (first + 2 * i + 1)) (G (first + 2 * i + 2)) = false := by assumption
          have l0 : (!ltInt (G (first + i)) (G (first + 2 * i + 1))) = false := by assumption
          go_region
          all_goals go_wp2
          go_roundw
          case rel =>
            refine ⟨2 * i + 1, _, swp dk (first + i) (first + 2 * i + 1), by first | rfl | (congr 1; omega), by omega, by rw [size_swp]; exact hsk, swapU HW.out (by omega) (by omega) (HG.out _) (HG.out _), ?_⟩
            rw [← HO.out, sd_left_go ltInt dk c1 (fun _ => by rw [e1, e2, ← HG.out, ← HG.out]; exact l12) (by rw [e1, ← HG.out, ← HG.out]; simpa using l0), e1]
          case measure => simp [intOf]; omega
      · have g1 : decide (2 * (i : Int) + 1 + 1 < (hi : Int)) = false := decide_eq_false (by omega)
        have g2 : ¬ (2 * (i : Int) + 1 + 1 < (hi : Int)) := by omega
        go_wp2
        go_quiet (first | (go_at_call 143; exact Calls.quiet_of_same (less_u _ _ _)) | (go_at_call 143; exact quiet_add_same (less_u _ _ _)))
        go_wp2
        go_quiet (first | (go_at_call 143; exact Calls.quiet_of_same (less_u _ _ _)) | (go_at_call 143; exact quiet_add_same (less_u _ _ _)))
        go_wp2
        · have l0 : (!ltInt (G (first + i)) (G (first + 2 * i + 1))) = true := by assumption
          refine bodyPost_ret (results_none rfl _ _ _) rfl ?_
          exact ⟨rfl, _, by rw [HDR.out, putRow_drewN, ← HO.out, sd_left_stop ltInt dk c1 (fun h => absurd h c2) (by rw [e1, ← HG.out, ← HG.out]; simpa using l0)]⟩
        · have l0 : (!ltInt (G (first + i)) (G (first + 2 * i + 1))) = false := by assumption
          go_region
          all_goals go_wp2
          go_roundw
          case rel =>
            refine ⟨2 * i + 1, _, swp dk (first + i) (first + 2 * i + 1), by first | rfl | (congr 1; omega), by omega, by rw [size_swp]; exact hsk, swapU HW.out (by omega) (by omega) (HG.out _) (HG.out _), ?_⟩
            rw [← HO.out, sd_left_go ltInt dk c1 (fun h => absurd h c2) (by rw [e1, ← HG.out, ← HG.out]; simpa using l0), e1]
          case measure => simp [intOf]; omega
    · go_wp2
      go_end0
      exact ⟨rfl, n, by rw [HW.out, ← HO.out, sd_end ltInt dk (by omega)]⟩
end Go.Proofs.Ytncgjbocgbnkcaa
namespace Go.Proofs.Ytncgjbocgbnkcaa
set_option linter.unusedVariables false
set_option linter.unusedSimpArgs false
open Go.RowKit Go.Sort Go.Proofs
theorem reverseLoop_go (i j : Nat) (d : Array Int) (h : i < j) : reverseLoop i j d = reverseLoop (i + 1) (j - 1) (swp d i j) := by rw [reverseLoop, if_pos h]
theorem reverseLoop_end (i j : Nat) (d : Array Int) (h : ¬ i < j) : reverseLoop i j d = d := by rw [reverseLoop, if_neg h]
set_option maxHeartbeats 1000000 in
theorem reverseRange_u (blk off len cap a b : Nat) (d : Array Int) (hlen : d.size = len) (w : World) (hH : Holds (Value.int .u64) w blk off d) (hab : a < b) (hb : b ≤ d.size) (hsz : d.size < 4611686018427387904) :
    Calls Try.prog 141 #[.slice (some ⟨blk, off, none⟩) len cap, .int .i64 a, .int .i64 b] w fun e w' =>
      e = .returned (.tuple #[]) ∧ ∃ n, w' = putRow (Value.int .u64) (Sort.ahead w n) blk off (Sort.reverseRange d a b) := by
  subst hlen
  have e0 : (b : Int) - 1 = ((b - 1 : Nat) : Int) := by omega
  go_enter Try.func141, Try.ntmps141
  go_wp2
  go_loopw [6, 7] (fun vi vj wr => ∃ (i j n : Nat) (dk : Array Int), vi = .int .i64 i ∧ vj = .int .i64 j ∧ i ≤ j + 1 ∧ j < b ∧ dk.size = d.size ∧ wr = putRow (Value.int .u64) (Sort.ahead w n) blk off dk ∧
      reverseLoop i j dk = reverseLoop a (b - 1) d) (fun vi _ _ => b - (intOf vi).toNat)
  case atStart => exact ⟨a, b - 1, 0, d, rfl, by first | rfl | rw [e0], by omega, by omega, rfl, (putRow_self _ _ _ _ _ hH).symm, rfl⟩
  case round =>
    obtain ⟨i, j, n, dk, rfl, rfl, hij, hjb, hsk, hwr, hO⟩ := hrel
    obtain ⟨G, hG, hcw, hfw⟩ := famU hH hsk hwr
    have HO := Lib.hid hO; have HG := Lib.hid hG; have HW := Lib.hid hwr
    clear hO hG hwr hH e0
    by_cases c : i < j
    · go_wp2
      go_region
      all_goals go_wp2
      go_roundw
      case rel => exact ⟨i + 1, j - 1, _, swp dk i j, by go_num, by congr 1; omega, by omega, by omega, by rw [size_swp]; exact hsk, swapU (q := 1) HW.out (by omega) (by omega) (HG.out _) (HG.out _), by rw [← HO.out, reverseLoop_go i j dk c]⟩
      case measure => simp [intOf]; omega
    · go_wp2
      go_end0
      exact ⟨rfl, n, by rw [HW.out, Sort.reverseRange, ← HO.out, reverseLoop_end i j dk c]⟩
theorem size_sift (hi F root : Nat) (d : Array Int) : (siftDown ltInt hi F root d).size = d.size := size_siftDown ltInt hi F _ root d (Nat.le_refl _)
theorem build_go (hi F k : Nat) (d : Array Int) : heapBuild ltInt hi F (k + 1) d = heapBuild ltInt hi F k (siftDown ltInt hi F k d) := rfl
theorem pop_go (F k : Nat) (d : Array Int) : heapPop ltInt F (k + 1) d = heapPop ltInt F k (siftDown ltInt k F 0 (swp d F (F + k))) := rfl
set_option maxHeartbeats 2000000 in
theorem heapSort_u (blk off len cap a b : Nat) (d : Array Int) (hlen : d.size = len) (w : World) (hH : Holds (Value.int .u64) w blk off d) (hab : a ≤ b) (hb : b ≤ d.size) (hsz : d.size < 4611686018427387904) :
    Calls Try.prog 138 #[.slice (some ⟨blk, off, none⟩) len cap, .int .i64 a, .int .i64 b] w fun e w' =>
      e = .returned (.tuple #[]) ∧ ∃ n, w' = putRow (Value.int .u64) (Sort.ahead w n) blk off (Sort.heapSort ltInt d a b) := by
  subst hlen
  obtain ⟨hi, hhi⟩ : ∃ hi : Nat, b - a = hi := ⟨_, rfl⟩
  have e0 : (b : Int) - (a : Int) = (hi : Int) := by omega
  have hs := half_start hab
  rw [e0, hhi] at hs
  obtain ⟨T, hT⟩ : ∃ T : Int, T = (((hi - 1) / 2 + 1 : Nat) : Int) - 1 := ⟨_, rfl⟩
  rw [← hT] at hs
  have HS := Lib.hid hs
  have HT := Lib.hid hT
  clear hT
  have HE := Lib.hid e0
  have HI := Lib.hid hhi
  have hb2 : a + hi ≤ d.size := by omega
  have hh : heapSort ltInt d a b = heapPop ltInt a hi (heapBuild ltInt hi a ((hi - 1) / 2 + 1) d) := by unfold Sort.heapSort; rw [hhi]
  have HH := Lib.hid hh
  clear e0 hs hhi hh
  go_enter Try.func138, Try.ntmps138
  go_wp2
  rw [HE.out, HS.out]
  go_loopw [9] (fun vi wr => ∃ (k n : Nat) (z : Int) (dk : Array Int), vi = .int .i64 z ∧ z = (k : Int) - 1 ∧ k ≤ (hi - 1) / 2 + 1 ∧ dk.size = d.size ∧ wr = putRow (Value.int .u64) (Sort.ahead w n) blk off dk ∧
      heapBuild ltInt hi a k dk = heapBuild ltInt hi a ((hi - 1) / 2 + 1) d) (fun vi _ => (intOf vi + 1).toNat)
  case atStart => exact ⟨_, 0, _, d, rfl, HT.out, Nat.le_refl _, rfl, (putRow_self _ _ _ _ _ hH).symm, rfl⟩
  case round =>
    obtain ⟨k, n, z, dk, rfl, hz, hk, hsk, hwr, hO⟩ := hrel
    have HO := Lib.hid hO; have HW := Lib.hid hwr; have HK := Lib.hid hsk
    clear hO hwr
    rcases Nat.eq_zero_or_pos k with hk0 | hk0
    · subst hk0
      have hz2 : ¬ (0 ≤ z) := by omega
      have hz3 : decide (0 ≤ z) = false := decide_eq_false hz2
      go_wp2
      go_loopw [10] (fun vi wr => ∃ (k n : Nat) (z : Int) (dj : Array Int), vi = .int .i64 z ∧ z = (k : Int) - 1 ∧ k ≤ hi ∧ dj.size = d.size ∧ wr = putRow (Value.int .u64) (Sort.ahead w n) blk off dj ∧
          heapPop ltInt a k dj = heapPop ltInt a hi dk) (fun vi _ => (intOf vi + 1).toNat)
      case atStart => exact ⟨hi, n, _, dk, rfl, rfl, Nat.le_refl _, HK.out, HW.out, rfl⟩
      case round =>
        obtain ⟨k, n, z, dj, rfl, hz, hk, hsj, hwr, hP⟩ := hrel
        obtain ⟨G, hG, hcw, hfw⟩ := famU hH hsj hwr
        have HP := Lib.hid hP; have HG := Lib.hid hG; have HW := Lib.hid hwr
        clear hP hG hwr hz2 hz3
        rcases Nat.eq_zero_or_pos k with hk0 | hk0
        · subst hk0
          have hz2 : ¬ (0 ≤ z) := by omega
          have hz3 : decide (0 ≤ z) = false := decide_eq_false hz2
          go_wp2
          go_end0
          exact ⟨rfl, n, by rw [HW.out, HH.out, ← HO.out]; exact congrArg _ (show dj = _ by rw [show heapBuild ltInt hi a 0 dk = dk from rfl, ← HP.out]; rfl)⟩
        · obtain ⟨k, rfl⟩ : ∃ m, k = m + 1 := ⟨k - 1, by omega⟩
          obtain rfl : z = (k : Int) := by omega
          clear hz
          have hca := hcw a (by omega)
          have hck := hcw (a + k) (by omega)
          obtain ⟨v', hy'⟩ := cell?_setCell_some (w := wr) (p := ⟨blk, off + a, none⟩) (x := .int .u64 (G (a + k))) (q := ⟨blk, off + (a + k), none⟩) (v := .int .u64 (G (a + k))) hck
          go_wp2
          go_region
          have SW := fun q x y (hx : x = dj[a + k]!) (hy : y = dj[a]!) => swapU (q := q) HW.out (j := a) (k := a + k) (by omega) (by omega) hx hy
          have hHr := holdsU hH hsj HW.out
          have SZ := size_swp dj a (a + k)
          have SW2 : ((wr.setCell ⟨blk, off + a, none⟩ (.int .u64 (G (a + k)))).setCell ⟨blk, off + (a + k), none⟩ (.int .u64 (G a))).drew = putRow (Value.int .u64) (Sort.ahead w (n + 1)) blk off (swp dj a (a + k)) := SW 1 _ _ (HG.out _) (HG.out _)
          obtain ⟨W2, hW2⟩ : ∃ W2, putRow (Value.int .u64) (Sort.ahead w (n + 1)) blk off (swp dj a (a + k)) = W2 := ⟨_, rfl⟩
          have C := siftDown_u blk off d.size cap 0 k a (swp dj a (a + k)) (by rw [SZ]; exact hsj) W2 (holdsU hH (by rw [SZ]; exact hsj) hW2.symm) (by rw [SZ]; omega) (by omega) (by rw [SZ]; omega)
          rw [hW2] at SW2
          have HW2 := Lib.hid hW2; have HSW2 := Lib.hid SW2
          clear hW2 SW2 hca hck hy' hcw hfw SW hHr
          all_goals
            rw [HSW2.out]
            go_wp2_with (go_at_call 149; refine C.mono ?_; rintro e w1 ⟨rfl, q, rfl⟩; clear C)
            go_roundw
            case rel => first | exact ⟨k, _, _, siftDown ltInt k a 0 (swp dj a (a + k)), rfl, by first | rfl | omega, by omega, by rw [size_sift, SZ]; exact hsj, thenU HW2.out.symm (size_sift _ _ _ _), by rw [← HP.out, pop_go]⟩ | ((repeat apply Exists.intro); exact ⟨⟨k, _, _, siftDown ltInt k a 0 (swp dj a (a + k)), rfl, by first | rfl | omega, by omega, by rw [size_sift, SZ]; exact hsj, thenU HW2.out.symm (size_sift _ _ _ _), by rw [← HP.out, pop_go]⟩, rfl⟩)
            case measure => first | (simp [intOf]; done) | (simp [intOf]; omega)
    · obtain ⟨k, rfl⟩ : ∃ m, k = m + 1 := ⟨k - 1, by omega⟩
      obtain rfl : z = (k : Int) := by omega
      clear hz
      have hHr := holdsU hH hsk HW.out
      have C := siftDown_u blk off d.size cap k hi a dk hsk wr hHr (by omega) (by omega) (by omega)
      clear hHr
      go_wp2_with (go_at_call 149; refine C.mono ?_; rintro e w1 ⟨rfl, q, rfl⟩; clear C)
      go_roundw
      case rel => first | exact ⟨k, _, _, siftDown ltInt hi a k dk, rfl, by first | rfl | omega, by omega, by rw [size_sift]; exact HK.out, thenU HW.out (size_sift _ _ _ _), by rw [← HO.out, build_go]⟩ | ((repeat apply Exists.intro); exact ⟨⟨k, _, _, siftDown ltInt hi a k dk, rfl, by first | rfl | omega, by omega, by rw [size_sift]; exact HK.out, thenU HW.out (size_sift _ _ _ _), by rw [← HO.out, build_go]⟩, rfl⟩)
      case measure => first | (simp [intOf]; done) | (simp [intOf]; omega)
end Go.Proofs.Ytncgjbocgbnkcaa
namespace Go.Proofs.Ytncgjbocgbnkcaa
set_option linter.unusedVariables false
set_option linter.unusedSimpArgs false
open Go.RowKit Go.Sort Go.Proofs
theorem scan_range (d : Array Int) (b : Nat) : ∀ (n i : Nat), b - i ≤ n → i ≤ b → i ≤ scanSorted ltInt d b i ∧ scanSorted ltInt d b i ≤ b := by
  intro n
  induction n with
  | zero => intro i h hi; rw [scanSorted_stop ltInt d b i (.inl (by omega))]; omega
  | succ n ih =>
    intro i h hi
    by_cases c : i < b
    · cases hl : ltInt d[i]! d[i - 1]! with
      | true => rw [scanSorted_stop ltInt d b i (.inr hl)]; omega
      | false => rw [scanSorted_go ltInt d b i c hl]; have := ih (i + 1) (by omega) (by omega); omega
    · rw [scanSorted_stop ltInt d b i (.inl c)]; omega
set_option maxHeartbeats 4000000 in
set_option maxRecDepth 100000 in
theorem partialIns_u (blk off len cap a b : Nat) (d : Array Int) (hlen : d.size = len) (w : World) (hH : Holds (Value.int .u64) w blk off d) (hab : a < b) (hb : b ≤ d.size) (hsz : d.size < 4611686018427387904) :
    Calls Try.prog 142 #[.slice (some ⟨blk, off, none⟩) len cap, .int .i64 a, .int .i64 b] w fun e w' =>
      e = .returned (.bool (Sort.partialInsertionSort ltInt d a b).2) ∧ ∃ n, w' = putRow (Value.int .u64) (Sort.ahead w n) blk off (Sort.partialInsertionSort ltInt d a b).1 := by
  subst hlen
  go_enter Try.func142, Try.ntmps142
  go_wp2
  go_loopw [7, 8] (fun vi vs wr => ∃ (i s n : Nat) (dk : Array Int), vi = .int .i64 i ∧ vs = .int .i64 s ∧ s ≤ 5 ∧ a < i ∧ i ≤ b ∧ dk.size = d.size ∧ wr = putRow (Value.int .u64) (Sort.ahead w n) blk off dk ∧
      partialIns ltInt a b (5 - s) i dk = Sort.partialInsertionSort ltInt d a b) (fun _ vs _ => 5 - (intOf vs).toNat)
  case atStart => exact ⟨a + 1, 0, 0, d, by go_num, rfl, by omega, by omega, by omega, rfl, (putRow_self _ _ _ _ _ hH).symm, rfl⟩
  case round =>
    obtain ⟨i, s, n, dk, rfl, rfl, hs5, hai, hib, hsk, hwr, hO⟩ := hrel
    have HO := Lib.hid hO; have HW := Lib.hid hwr
    clear hO hwr
    by_cases c5 : s < 5
    · go_upto_block 2 with (fail)
      go_cut [7] (fun v7 wc => ∃ (i2 m : Nat), v7 = .int .i64 i2 ∧ Hid (scanSorted ltInt dk b i = i2) ∧ Hid (wc = putRow (Value.int .u64) (Sort.ahead w m) blk off dk))
      case first =>
        go_wp2
        go_loopw [7] (fun vi wr2 => ∃ (j m : Nat), vi = .int .i64 j ∧ a < j ∧ j ≤ b ∧ wr2 = putRow (Value.int .u64) (Sort.ahead w m) blk off dk ∧ scanSorted ltInt dk b j = scanSorted ltInt dk b i) (fun vi _ => b - (intOf vi).toNat)
        case atStart => exact ⟨i, n, rfl, hai, hib, HW.out, rfl⟩
        case round =>
          obtain ⟨j, m, rfl, haj, hjb, hw2, hI⟩ := hrel
          obtain ⟨G, hG, hcw, hfw⟩ := famU hH hsk hw2
          have HI := Lib.hid hI; have HG := Lib.hid hG; have HW2 := Lib.hid hw2
          clear hI hG hw2
          by_cases hjb2 : j < b
          · go_wp2
            go_quiet (first | (go_at_call 143; exact Calls.quiet_of_same (less_u _ _ _)) | (go_at_call 143; exact quiet_add_same (less_u _ _ _)))
            go_wp2
            · have hl : (!ltInt (G j) (G (j - 1))) = true := by assumption
              go_roundw
              case rel => exact ⟨j + 1, _, by go_num, by omega, by omega, by rw [HW2.out]; exact putRow_drewN _ _ _ _ _ _ _, by rw [← HI.out, scanSorted_go ltInt dk b j hjb2 (by rw [← HG.out, ← HG.out]; simpa using hl)]⟩
              case measure => simp [intOf]; omega
            · have hl : (!ltInt (G j) (G (j - 1))) = false := by assumption
              go_meet
              case rel => exact ⟨j, _, rfl, Lib.hid (by rw [← HI.out, scanSorted_stop ltInt dk b j (.inr (by rw [← HG.out, ← HG.out]; simpa using hl))]), Lib.hid (by rw [HW2.out]; exact putRow_drewN _ _ _ _ _ _ _)⟩
          · go_wp2
            go_quiet (first | (go_at_call 143; exact Calls.quiet_of_same (less_u _ _ _)) | (go_at_call 143; exact quiet_add_same (less_u _ _ _)))
            go_wp2
            go_meet
            case rel => exact ⟨j, _, rfl, Lib.hid (by rw [← HI.out, scanSorted_stop ltInt dk b j (.inl hjb2)]), Lib.hid (by rw [HW2.out]; exact putRow_drewN _ _ _ _ _ _ _)⟩
      case rest =>
        obtain ⟨i2, m, rfl, HS, HW2⟩ := hcut
        have hr := scan_range dk b _ i (Nat.le_refl _) hib
        rw [HS.out] at hr
        by_cases hib2 : i2 = b
        · have PE := pi_true ltInt a b s i dk c5 (by rw [HS.out, hib2])
          rw [HO.out] at PE
          have HPE := Lib.hid PE
          subst hib2
          clear PE
          go_wp2
          refine bodyPost_ret (v := .bool true) (by simp [results, Try.results142, go_sem]) rfl ⟨by rw [HPE.out], m, by rw [HW2.out, HPE.out]⟩
        · by_cases h50 : b - a < 50
          · have PE := pi_short ltInt a b s i dk c5 (by rw [HS.out]; exact hib2) h50
            rw [HO.out] at PE
            have HPE := Lib.hid PE
            clear PE
            go_wp2
            refine bodyPost_ret (v := .bool false) (by simp [results, Try.results142, go_sem]) rfl ⟨by rw [HPE.out], m, by rw [HW2.out, HPE.out]⟩
          · have PE := pi_go ltInt a b s i i2 dk c5 HS.out hib2 h50
            rw [HO.out] at PE
            have HPE := Lib.hid PE
            clear PE
            obtain ⟨G, hG, hcw, hfw⟩ := famU hH hsk HW2.out
            have HG := Lib.hid hG
            clear hG
            go_wp2
            go_region
            all_goals go_upto_if 61 with (fail)
            refine name_world _ (fun W3 HW3 => ?_)
            have HW4 : Hid (W3 = putRow (Value.int .u64) (Sort.ahead w (m + 1)) blk off (swp dk i2 (i2 - 1))) := Lib.hid (by rw [← HW3.out]; exact swapU (q := 1) HW2.out (by omega) (by omega) (HG.out _) (HG.out _))
            have hs1 : (swp dk i2 (i2 - 1)).size = d.size := by rw [size_swp]; exact hsk
            obtain ⟨d1, hd1⟩ : ∃ d1, swp dk i2 (i2 - 1) = d1 := ⟨_, rfl⟩
            rw [hd1] at HPE HW4 hs1
            have HD1 := Lib.hid hd1
            clear hd1 HW3 hcw hfw
            go_cut [9] (fun v9 wc => ∃ (m2 : Nat) (d2 : Array Int), Hid (fixDown ltInt a i2 d1 = d2) ∧ d2.size = d.size ∧ Hid (wc = putRow (Value.int .u64) (Sort.ahead w m2) blk off d2))
            case first =>
              by_cases h2 : 2 ≤ i2 - a
              · go_wp2
                go_loopw [9] (fun vi wr2 => ∃ (j m : Nat) (dj : Array Int), vi = .int .i64 j ∧ j < i2 ∧ dj.size = d.size ∧ wr2 = putRow (Value.int .u64) (Sort.ahead w m) blk off dj ∧ shiftDown ltInt j dj = shiftDown ltInt (i2 - 1) d1) (fun vi _ => (intOf vi).toNat)
                case atStart => exact ⟨i2 - 1, m + 1, d1, by congr 1; omega, by omega, hs1, HW4.out, rfl⟩
                case round =>
                  obtain ⟨j, m, dj, rfl, hj, hsj, hw2, hI⟩ := hrel
                  obtain ⟨G, hG, hcw, hfw⟩ := famU hH hsj hw2
                  have HI := Lib.hid hI; have HG := Lib.hid hG; have HW6 := Lib.hid hw2
                  have hfd : fixDown ltInt a i2 d1 = shiftDown ltInt (i2 - 1) d1 := if_pos h2
                  have HFD := Lib.hid hfd
                  clear hI hG hw2 hfd
                  by_cases hj1 : 1 ≤ j
                  · go_wp2
                    go_quiet (first | (go_at_call 143; exact Calls.quiet_of_same (less_u _ _ _)) | (go_at_call 143; exact quiet_add_same (less_u _ _ _)))
                    go_wp2
                    · have hl : (!ltInt (G j) (G (j - 1))) = true := by assumption
                      go_meet
                      case rel => exact ⟨_, dj, Lib.hid (by rw [HFD.out, ← HI.out, shiftDown_stop ltInt j dj (.inr (by rw [← HG.out, ← HG.out]; simpa using hl))]), hsj, Lib.hid (by rw [HW6.out]; exact putRow_drewN _ _ _ _ _ _ _)⟩
                    · have hl : (!ltInt (G j) (G (j - 1))) = false := by assumption
                      go_region
                      all_goals go_wp2
                      go_roundw
                      case rel => exact ⟨j - 1, _, swp dj j (j - 1), by congr 1; omega, by omega, by rw [size_swp]; exact hsj, swapU HW6.out (by omega) (by omega) (HG.out _) (HG.out _), by rw [← HI.out, shiftDown_go ltInt j dj hj1 (by rw [← HG.out, ← HG.out]; simpa using hl)]⟩
                      case measure => simp [intOf]; omega
                  · go_wp2
                    go_meet
                    case rel => exact ⟨_, dj, Lib.hid (by rw [HFD.out, ← HI.out, shiftDown_stop ltInt j dj (.inl (by omega))]), hsj, HW6⟩
              · have hfd : fixDown ltInt a i2 d1 = d1 := if_neg h2
                go_wp2
                go_meet
                case rel => exact ⟨_, d1, Lib.hid hfd, hs1, HW4⟩
            case rest =>
              obtain ⟨m2, d2, HD2, hs2, HW5⟩ := hcut
              have fin : ∀ (d3 : Array Int) (m3 : Nat) (wz : World), d3.size = d.size → wz = putRow (Value.int .u64) (Sort.ahead w m3) blk off d3 → fixUp ltInt b i2 d2 = d3 → d3.size = d.size ∧ wz = putRow (Value.int .u64) (Sort.ahead w m3) blk off d3 ∧ partialIns ltInt a b (5 - (s + 1)) i2 d3 = Sort.partialInsertionSort ltInt d a b := fun d3 m3 wz h1 h2 h3 => ⟨h1, h2, by rw [HPE.out, HD2.out, h3]⟩
              have FIN := Lib.hid fin
              clear fin
              by_cases h2 : 2 ≤ b - i2
              · go_wp2
                go_loopw [10] (fun vi wr2 => ∃ (j m : Nat) (dj : Array Int), vi = .int .i64 j ∧ i2 < j ∧ j ≤ b ∧ dj.size = d.size ∧ wr2 = putRow (Value.int .u64) (Sort.ahead w m) blk off dj ∧ shiftUp ltInt b j dj = shiftUp ltInt b (i2 + 1) d2) (fun vi _ => b - (intOf vi).toNat)
                case atStart => exact ⟨i2 + 1, m2, d2, by go_num, by omega, by omega, hs2, HW5.out, rfl⟩
                case round =>
                  obtain ⟨j, m, dj, rfl, hj, hjb, hsj, hw2, hI⟩ := hrel
                  obtain ⟨G, hG, hcw, hfw⟩ := famU hH hsj hw2
                  have HI := Lib.hid hI; have HG := Lib.hid hG; have HW6 := Lib.hid hw2
                  have hfd : fixUp ltInt b i2 d2 = shiftUp ltInt b (i2 + 1) d2 := if_pos h2
                  have HFD := Lib.hid hfd
                  clear hI hG hw2 hfd
                  by_cases hj1 : j < b
                  · go_wp2
                    go_quiet (first | (go_at_call 143; exact Calls.quiet_of_same (less_u _ _ _)) | (go_at_call 143; exact quiet_add_same (less_u _ _ _)))
                    go_wp2
                    · have hl : (!ltInt (G j) (G (j - 1))) = true := by assumption
                      have FE := fun q => FIN.out dj (m + q) (wr.drewN q) hsj (by rw [HW6.out]; exact putRow_drewN _ _ _ _ _ _ _) (by rw [HFD.out, ← HI.out, shiftUp_stop ltInt b j dj (.inr (by rw [← HG.out, ← HG.out]; simpa using hl))])
                      have HFE := Lib.hid FE
                      clear FE
                      go_roundw
                      case rel => first | exact ⟨i2, s + 1, _, dj, rfl, by go_num, by omega, by omega, by omega, (HFE.out 0).1, (HFE.out _).2.1, (HFE.out 0).2.2⟩ | ((repeat apply Exists.intro); exact ⟨⟨i2, s + 1, _, dj, rfl, by go_num, by omega, by omega, by omega, (HFE.out 0).1, (HFE.out _).2.1, (HFE.out 0).2.2⟩, rfl⟩)
                      case measure => simp [intOf]; omega
                    · have hl : (!ltInt (G j) (G (j - 1))) = false := by assumption
                      go_region
                      all_goals go_wp2
                      go_roundw
                      case rel => exact ⟨j + 1, _, swp dj j (j - 1), by go_num, by omega, by omega, by rw [size_swp]; exact hsj, swapU HW6.out (by omega) (by omega) (HG.out _) (HG.out _), by rw [← HI.out, shiftUp_go ltInt b j dj hj1 (by rw [← HG.out, ← HG.out]; simpa using hl)]⟩
                      case measure => simp [intOf]; omega
                  · have FE := FIN.out dj m wr hsj HW6.out (by rw [HFD.out, ← HI.out, shiftUp_stop ltInt b j dj (.inl hj1)])
                    have HFE := Lib.hid FE
                    clear FE
                    go_wp2
                    go_roundw
                    case rel => first | exact ⟨i2, s + 1, _, dj, rfl, by go_num, by omega, by omega, by omega, HFE.out.1, HFE.out.2.1, HFE.out.2.2⟩ | ((repeat apply Exists.intro); exact ⟨⟨i2, s + 1, _, dj, rfl, by go_num, by omega, by omega, by omega, HFE.out.1, HFE.out.2.1, HFE.out.2.2⟩, rfl⟩)
                    case measure => simp [intOf]; omega
              · have FE := FIN.out d2 m2 _ hs2 HW5.out (if_neg h2)
                have HFE := Lib.hid FE
                clear FE
                go_wp2
                go_roundw
                case rel => first | exact ⟨i2, s + 1, _, d2, rfl, by go_num, by omega, by omega, by omega, HFE.out.1, HFE.out.2.1, HFE.out.2.2⟩ | ((repeat apply Exists.intro); exact ⟨⟨i2, s + 1, _, d2, rfl, by go_num, by omega, by omega, by omega, HFE.out.1, HFE.out.2.1, HFE.out.2.2⟩, rfl⟩)
                case measure => simp [intOf]; omega
    · have hs : s = 5 := by omega
      subst hs
      have PE := pi_end ltInt a b i dk
      rw [HO.out] at PE
      have HPE := Lib.hid PE
      clear PE
      go_wp2
      refine bodyPost_ret (v := .bool false) (by simp [results, Try.results142, go_sem]) rfl ⟨by rw [HPE.out], n, by rw [HW.out, HPE.out]⟩
end Go.Proofs.Ytncgjbocgbnkcaa
namespace Go.Proofs.Ytncgjbocgbnkcaa
set_option linter.unusedVariables false
set_option linter.unusedSimpArgs false
open Go.RowKit Go.Sort Go.Proofs
theorem selfU {w : World} {blk off : Nat} {d : Array Int} (hH : Holds (Value.int .u64) w blk off d) : w = putRow (Value.int .u64) (Sort.ahead w 0) blk off d := (putRow_self _ w _ _ _ hH).symm
set_option maxHeartbeats 4000000 in
set_option maxRecDepth 100000 in
theorem partitionEqual_u (blk off len cap a b pivot : Nat) (d : Array Int) (hlen : d.size = len) (w : World) (hH : Holds (Value.int .u64) w blk off d) (hap : a ≤ pivot) (hpb : pivot < b) (hb : b ≤ d.size) (hsz : d.size < 4611686018427387904) :
    Calls Try.prog 144 #[.slice (some ⟨blk, off, none⟩) len cap, .int .i64 a, .int .i64 b, .int .i64 pivot] w fun e w' =>
      e = .returned (.int .i64 (Sort.partitionEqual ltInt d a b pivot).1) ∧ ∃ n, w' = putRow (Value.int .u64) (Sort.ahead w n) blk off (Sort.partitionEqual ltInt d a b pivot).2 := by
  subst hlen
  obtain ⟨G, hG, hcw, hfw⟩ := famU hH rfl (selfU hH)
  have HG := Lib.hid hG
  clear hG
  have hc1 := hcw a (by omega)
  have hc2 := hcw pivot (by omega)
  obtain ⟨v', hy'⟩ := cell?_setCell_some (w := w) (p := ⟨blk, off + a, none⟩) (x := .int .u64 (G pivot)) (q := ⟨blk, off + pivot, none⟩) (v := .int .u64 (G pivot)) hc2
  go_enter Try.func144, Try.ntmps144
  go_wp2
  go_region
  have HWs : Hid (((w.setCell ⟨blk, off + a, none⟩ (.int .u64 (G pivot))).setCell ⟨blk, off + pivot, none⟩ (.int .u64 (G a))).drew = putRow (Value.int .u64) (Sort.ahead w (0 + 1)) blk off (swp d a pivot)) := Lib.hid (swapU (q := 1) (selfU hH) (by omega) (by omega) (HG.out _) (HG.out _))
  clear hcw hfw hc1 hc2 hy'
  have hs1 : (swp d a pivot).size = d.size := size_swp _ _ _
  obtain ⟨d1, hd1⟩ : ∃ d1, swp d a pivot = d1 := ⟨_, rfl⟩
  have hE : Sort.partitionEqual ltInt d a b pivot = partEqLoop ltInt a (a + 1) (b - 1) d1 := by unfold Sort.partitionEqual; rw [hd1]
  rw [hd1] at HWs hs1
  have HE := Lib.hid hE
  clear hd1 hE
  all_goals
    go_wp2
    refine name_world _ (fun W3 HW3 => ?_)
    have HW4 : Hid (W3 = putRow (Value.int .u64) (Sort.ahead w (0 + 1)) blk off d1) := Lib.hid (by rw [← HW3.out]; exact HWs.out)
    clear HW3 HWs
    go_loopw [9, 10] (fun vi vj wr => ∃ (i j n : Nat) (dk : Array Int), vi = .int .i64 i ∧ vj = .int .i64 j ∧ a < i ∧ i ≤ j + 1 ∧ j < b ∧ dk.size = d.size ∧ wr = putRow (Value.int .u64) (Sort.ahead w n) blk off dk ∧ partEqLoop ltInt a i j dk = partEqLoop ltInt a (a + 1) (b - 1) d1) (fun vi _ _ => b + 1 - (intOf vi).toNat)
    case atStart => exact ⟨a + 1, b - 1, 0 + 1, d1, by go_num, by first | rfl | (congr 1; omega), by omega, by omega, by omega, hs1, HW4.out, rfl⟩
    case round =>
      obtain ⟨i, j, n, dk, rfl, rfl, hai, hij, hjb, hsk, hwr, hO⟩ := hrel
      have HO := Lib.hid hO; have HW := Lib.hid hwr
      clear hO hwr
      go_upto_block 2 with (fail)
      go_cut [9] (fun v wc => ∃ (i2 m2 : Nat), v = .int .i64 i2 ∧ Hid (scanUp (fun x => !ltInt dk[a]! x) dk j i = i2) ∧ i ≤ i2 ∧ i2 ≤ j + 1 ∧ Hid (wc = putRow (Value.int .u64) (Sort.ahead w m2) blk off dk))
      case first =>
        go_wp2
        go_loopw [9] (fun v wr2 => ∃ (t m2 : Nat), v = .int .i64 t ∧ i ≤ t ∧ t ≤ j + 1 ∧ wr2 = putRow (Value.int .u64) (Sort.ahead w m2) blk off dk ∧ scanUp (fun x => !ltInt dk[a]! x) dk j t = scanUp (fun x => !ltInt dk[a]! x) dk j i) (fun v _ => j + 1 - (intOf v).toNat)
        case atStart => exact ⟨i, _, rfl, Nat.le_refl _, by omega, HW.out, rfl⟩
        case round =>
          obtain ⟨t, m2, rfl, ht1, ht2, hw2, hI⟩ := hrel
          obtain ⟨G, hG, hcw, hfw⟩ := famU hH hsk hw2
          have HI := Lib.hid hI; have HG := Lib.hid hG; have HW2 := Lib.hid hw2
          clear hI hG hw2
          by_cases c : t ≤ j
          · go_wp2
            go_quiet (first | (go_at_call 143; exact Calls.quiet_of_same (less_u _ _ _)) | (go_at_call 143; exact quiet_add_same (less_u _ _ _)))
            go_wp2
            · have hl : (!ltInt (G a) (G t)) = true := by assumption
              go_roundw
              case rel => exact ⟨t + 1, _, by go_num, by omega, by omega, by rw [HW2.out]; exact putRow_drewN _ _ _ _ _ _ _, by rw [← HI.out, scanUp_go (fun x => !ltInt dk[a]! x) dk j t c (by show ((!ltInt dk[a]! dk[t]!)) = true; rw [← HG.out, ← HG.out]; simpa using hl)]⟩
              case measure => simp [intOf]; omega
            · have hl : (!ltInt (G a) (G t)) = false := by assumption
              go_meet
              case rel => exact ⟨t, _, rfl, Lib.hid (by rw [← HI.out, scanUp_end (fun x => !ltInt dk[a]! x) dk j t (.inr (by show ((!ltInt dk[a]! dk[t]!)) = false; rw [← HG.out, ← HG.out]; simpa using hl))]), ht1, ht2, Lib.hid (by rw [HW2.out]; exact putRow_drewN _ _ _ _ _ _ _)⟩
          · go_wp2
            go_quiet (first | (go_at_call 143; exact Calls.quiet_of_same (less_u _ _ _)) | (go_at_call 143; exact quiet_add_same (less_u _ _ _)))
            go_wp2
            go_meet
            case rel => exact ⟨t, _, rfl, Lib.hid (by rw [← HI.out, scanUp_end (fun x => !ltInt dk[a]! x) dk j t (.inl c)]), ht1, ht2, Lib.hid (by rw [HW2.out]; exact putRow_drewN _ _ _ _ _ _ _)⟩
      case rest =>
        obtain ⟨i2, m3, rfl, HI2, hi2, hi2j, HW5⟩ := hcut
        go_upto_block 4 with (fail)
        go_cut [10] (fun v wc => ∃ (j2 m2 : Nat), v = .int .i64 j2 ∧ Hid (scanDown (fun x => ltInt dk[a]! x) dk i2 j = j2) ∧ j2 ≤ j ∧ i2 ≤ j2 + 1 ∧ Hid (wc = putRow (Value.int .u64) (Sort.ahead w m2) blk off dk))
        case first =>
          go_wp2
          go_loopw [10] (fun v wr2 => ∃ (t m2 : Nat), v = .int .i64 t ∧ t ≤ j ∧ i2 ≤ t + 1 ∧ wr2 = putRow (Value.int .u64) (Sort.ahead w m2) blk off dk ∧ scanDown (fun x => ltInt dk[a]! x) dk i2 t = scanDown (fun x => ltInt dk[a]! x) dk i2 j) (fun v _ => (intOf v).toNat)
          case atStart => exact ⟨j, _, rfl, Nat.le_refl _, by omega, HW5.out, rfl⟩
          case round =>
            obtain ⟨t, m2, rfl, ht1, ht2, hw2, hI⟩ := hrel
            obtain ⟨G, hG, hcw, hfw⟩ := famU hH hsk hw2
            have HI := Lib.hid hI; have HG := Lib.hid hG; have HW2 := Lib.hid hw2
            clear hI hG hw2
            by_cases c : i2 ≤ t
            · go_wp2
              go_quiet (first | (go_at_call 143; exact Calls.quiet_of_same (less_u _ _ _)) | (go_at_call 143; exact quiet_add_same (less_u _ _ _)))
              go_wp2
              · have hl : ltInt (G a) (G t) = true := by assumption
                go_roundw
                case rel => exact ⟨t - 1, _, by congr 1; omega, by omega, by omega, by rw [HW2.out]; exact putRow_drewN _ _ _ _ _ _ _, by rw [← HI.out, scanDown_go (fun x => ltInt dk[a]! x) dk i2 t c (by omega) (by show (ltInt dk[a]! dk[t]!) = true; rw [← HG.out, ← HG.out]; simpa using hl)]⟩
                case measure => simp [intOf]; omega
              · have hl : ltInt (G a) (G t) = false := by assumption
                go_meet
                case rel => exact ⟨t, _, rfl, Lib.hid (by rw [← HI.out, scanDown_end (fun x => ltInt dk[a]! x) dk i2 t (.inr (by show (ltInt dk[a]! dk[t]!) = false; rw [← HG.out, ← HG.out]; simpa using hl))]), ht1, ht2, Lib.hid (by rw [HW2.out]; exact putRow_drewN _ _ _ _ _ _ _)⟩
            · go_wp2
              go_quiet (first | (go_at_call 143; exact Calls.quiet_of_same (less_u _ _ _)) | (go_at_call 143; exact quiet_add_same (less_u _ _ _)))
              go_wp2
              go_meet
              case rel => exact ⟨t, _, rfl, Lib.hid (by rw [← HI.out, scanDown_end (fun x => ltInt dk[a]! x) dk i2 t (.inl c)]), ht1, ht2, Lib.hid (by rw [HW2.out]; exact putRow_drewN _ _ _ _ _ _ _)⟩
        case rest =>
          obtain ⟨j2, m4, rfl, HJ2, hj2, hij2, HW6⟩ := hcut
          by_cases c : j2 < i2
          · have PE := partEq_break ltInt a i j dk HI2.out.symm HJ2.out.symm c
            rw [HO.out, ← HE.out] at PE
            have HPE := Lib.hid PE
            clear PE
            go_wp2
            refine bodyPost_ret (v := .int .i64 i2) (by simp [results, Try.results144, go_sem]) rfl ⟨by rw [HPE.out], m4, by rw [HW6.out, HPE.out]⟩
          · have PE := partEq_go ltInt a i j dk HI2.out.symm HJ2.out.symm c
            have hlt := scans_lt ltInt a i j dk (by omega) HI2.out.symm HJ2.out.symm (by omega)
            rw [HO.out] at PE
            have HPE := Lib.hid PE
            clear PE
            obtain ⟨G, hG, hcw, hfw⟩ := famU hH hsk HW6.out
            have HG := Lib.hid hG
            clear hG
            go_wp2
            go_region
            all_goals go_wp2
            go_roundw
            case rel => exact ⟨i2 + 1, j2 - 1, _, swp dk i2 j2, by go_num, by congr 1; omega, by omega, by omega, by omega, by rw [size_swp]; exact hsk, swapU (q := 1) HW6.out (by omega) (by omega) (HG.out _) (HG.out _), HPE.out.symm⟩
            case measure => simp [intOf]; omega
end Go.Proofs.Ytncgjbocgbnkcaa
namespace Go.Proofs.Ytncgjbocgbnkcaa
set_option linter.unusedVariables false
set_option linter.unusedSimpArgs false
open Go.RowKit Go.Sort Go.Proofs
set_option maxHeartbeats 8000000 in
set_option maxRecDepth 100000 in
theorem partition_u (blk off len cap a b pivot : Nat) (d : Array Int) (hlen : d.size = len) (w : World) (hH : Holds (Value.int .u64) w blk off d) (hap : a ≤ pivot) (hpb : pivot < b) (hb : b ≤ d.size) (hsz : d.size < 4611686018427387904) :
    Calls Try.prog 145 #[.slice (some ⟨blk, off, none⟩) len cap, .int .i64 a, .int .i64 b, .int .i64 pivot] w fun e w' =>
      e = .returned (.tuple #[.int .i64 (Sort.partition ltInt d a b pivot).1, .bool (Sort.partition ltInt d a b pivot).2.1]) ∧ ∃ n, w' = putRow (Value.int .u64) (Sort.ahead w n) blk off (Sort.partition ltInt d a b pivot).2.2 := by
  subst hlen
  obtain ⟨G, hG, hcw, hfw⟩ := famU hH rfl (selfU hH)
  have HG := Lib.hid hG
  clear hG
  have hc1 := hcw a (by omega)
  have hc2 := hcw pivot (by omega)
  obtain ⟨v', hy'⟩ := cell?_setCell_some (w := w) (p := ⟨blk, off + a, none⟩) (x := .int .u64 (G pivot)) (q := ⟨blk, off + pivot, none⟩) (v := .int .u64 (G pivot)) hc2
  go_enter Try.func145, Try.ntmps145
  go_wp2
  go_region
  have HWs : Hid (((w.setCell ⟨blk, off + a, none⟩ (.int .u64 (G pivot))).setCell ⟨blk, off + pivot, none⟩ (.int .u64 (G a))).drew = putRow (Value.int .u64) (Sort.ahead w (0 + 1)) blk off (swp d a pivot)) := Lib.hid (swapU (q := 1) (selfU hH) (by omega) (by omega) (HG.out _) (HG.out _))
  clear hcw hfw hc1 hc2 hy'
  have hsk : (swp d a pivot).size = d.size := size_swp _ _ _
  obtain ⟨dk, hdk⟩ : ∃ d1, d1 = swp d a pivot := ⟨_, rfl⟩
  rw [← hdk] at HWs hsk
  have HDK := Lib.hid hdk
  clear hdk
  have eb : (b : Int) - 1 = ((b - 1 : Nat) : Int) := by omega
  have EB := Lib.hid eb
  clear eb
  all_goals
    go_upto_block 0 with (fail)
    refine name_world _ (fun W3 HW3 => ?_)
    have HW4 : Hid (W3 = putRow (Value.int .u64) (Sort.ahead w (0 + 1)) blk off dk) := Lib.hid (by rw [← HW3.out]; exact HWs.out)
    clear HW3 HWs
    rw [EB.out]
    go_upto_block 0 with (fail)
    go_cut [10] (fun v wc => ∃ (i2 m2 : Nat), v = .int .i64 i2 ∧ Hid (scanUp (fun x => ltInt x dk[a]!) dk (b - 1) (a + 1) = i2) ∧ (a + 1) ≤ i2 ∧ i2 ≤ (b - 1) + 1 ∧ Hid (wc = putRow (Value.int .u64) (Sort.ahead w m2) blk off dk))
    case first =>
      go_wp2
      go_loopw [10] (fun v wr2 => ∃ (t m2 : Nat), v = .int .i64 t ∧ (a + 1) ≤ t ∧ t ≤ (b - 1) + 1 ∧ wr2 = putRow (Value.int .u64) (Sort.ahead w m2) blk off dk ∧ scanUp (fun x => ltInt x dk[a]!) dk (b - 1) t = scanUp (fun x => ltInt x dk[a]!) dk (b - 1) (a + 1)) (fun v _ => (b - 1) + 1 - (intOf v).toNat)
      case atStart => exact ⟨(a + 1), _, rfl, Nat.le_refl _, by omega, HW4.out, rfl⟩
      case round =>
        obtain ⟨t, m2, rfl, ht1, ht2, hw2, hI⟩ := hrel
        obtain ⟨G, hG, hcw, hfw⟩ := famU hH hsk hw2
        have HI := Lib.hid hI; have HG := Lib.hid hG; have HW2 := Lib.hid hw2
        clear hI hG hw2
        by_cases c : t ≤ (b - 1)
        · go_wp2
          go_quiet (first | (go_at_call 143; exact Calls.quiet_of_same (less_u _ _ _)) | (go_at_call 143; exact quiet_add_same (less_u _ _ _)))
          go_wp2
          · have hl : ltInt (G t) (G a) = true := by assumption
            go_roundw
            case rel => exact ⟨t + 1, _, by go_num, by omega, by omega, by rw [HW2.out]; exact putRow_drewN _ _ _ _ _ _ _, by rw [← HI.out, scanUp_go (fun x => ltInt x dk[a]!) dk (b - 1) t c (by show (ltInt dk[t]! dk[a]!) = true; rw [← HG.out, ← HG.out]; simpa using hl)]⟩
            case measure => simp [intOf]; omega
          · have hl : ltInt (G t) (G a) = false := by assumption
            go_meet
            case rel => exact ⟨t, _, rfl, Lib.hid (by rw [← HI.out, scanUp_end (fun x => ltInt x dk[a]!) dk (b - 1) t (.inr (by show (ltInt dk[t]! dk[a]!) = false; rw [← HG.out, ← HG.out]; simpa using hl))]), ht1, ht2, Lib.hid (by rw [HW2.out]; exact putRow_drewN _ _ _ _ _ _ _)⟩
        · go_wp2
          go_quiet (first | (go_at_call 143; exact Calls.quiet_of_same (less_u _ _ _)) | (go_at_call 143; exact quiet_add_same (less_u _ _ _)))
          go_wp2
          go_meet
          case rel => exact ⟨t, _, rfl, Lib.hid (by rw [← HI.out, scanUp_end (fun x => ltInt x dk[a]!) dk (b - 1) t (.inl c)]), ht1, ht2, Lib.hid (by rw [HW2.out]; exact putRow_drewN _ _ _ _ _ _ _)⟩
    case rest =>
      obtain ⟨i2, m3, rfl, HI2, hi2, hi2j, HW5⟩ := hcut
      go_upto_block 2 with (fail)
      go_cut [11] (fun v wc => ∃ (j2 m2 : Nat), v = .int .i64 j2 ∧ Hid (scanDown (fun x => !ltInt x dk[a]!) dk i2 (b - 1) = j2) ∧ j2 ≤ (b - 1) ∧ i2 ≤ j2 + 1 ∧ Hid (wc = putRow (Value.int .u64) (Sort.ahead w m2) blk off dk))
      case first =>
        go_wp2
        go_loopw [11] (fun v wr2 => ∃ (t m2 : Nat), v = .int .i64 t ∧ t ≤ (b - 1) ∧ i2 ≤ t + 1 ∧ wr2 = putRow (Value.int .u64) (Sort.ahead w m2) blk off dk ∧ scanDown (fun x => !ltInt x dk[a]!) dk i2 t = scanDown (fun x => !ltInt x dk[a]!) dk i2 (b - 1)) (fun v _ => (intOf v).toNat)
        case atStart => exact ⟨(b - 1), _, rfl, Nat.le_refl _, by omega, HW5.out, rfl⟩
        case round =>
          obtain ⟨t, m2, rfl, ht1, ht2, hw2, hI⟩ := hrel
          obtain ⟨G, hG, hcw, hfw⟩ := famU hH hsk hw2
          have HI := Lib.hid hI; have HG := Lib.hid hG; have HW2 := Lib.hid hw2
          clear hI hG hw2
          by_cases c : i2 ≤ t
          · go_wp2
            go_quiet (first | (go_at_call 143; exact Calls.quiet_of_same (less_u _ _ _)) | (go_at_call 143; exact quiet_add_same (less_u _ _ _)))
            go_wp2
            · have hl : (!ltInt (G t) (G a)) = true := by assumption
              go_roundw
              case rel => exact ⟨t - 1, _, by congr 1; omega, by omega, by omega, by rw [HW2.out]; exact putRow_drewN _ _ _ _ _ _ _, by rw [← HI.out, scanDown_go (fun x => !ltInt x dk[a]!) dk i2 t c (by omega) (by show ((!ltInt dk[t]! dk[a]!)) = true; rw [← HG.out, ← HG.out]; simpa using hl)]⟩
              case measure => simp [intOf]; omega
            · have hl : (!ltInt (G t) (G a)) = false := by assumption
              go_meet
              case rel => exact ⟨t, _, rfl, Lib.hid (by rw [← HI.out, scanDown_end (fun x => !ltInt x dk[a]!) dk i2 t (.inr (by show ((!ltInt dk[t]! dk[a]!)) = false; rw [← HG.out, ← HG.out]; simpa using hl))]), ht1, ht2, Lib.hid (by rw [HW2.out]; exact putRow_drewN _ _ _ _ _ _ _)⟩
          · go_wp2
            go_quiet (first | (go_at_call 143; exact Calls.quiet_of_same (less_u _ _ _)) | (go_at_call 143; exact quiet_add_same (less_u _ _ _)))
            go_wp2
            go_meet
            case rel => exact ⟨t, _, rfl, Lib.hid (by rw [← HI.out, scanDown_end (fun x => !ltInt x dk[a]!) dk i2 t (.inl c)]), ht1, ht2, Lib.hid (by rw [HW2.out]; exact putRow_drewN _ _ _ _ _ _ _)⟩
      case rest =>
        obtain ⟨j2, m4, rfl, HJ2, hj2, hij2, HW6⟩ := hcut
        obtain ⟨G, hG, hcw, hfw⟩ := famU hH hsk HW6.out
        have HG := Lib.hid hG
        clear hG
        by_cases c : j2 < i2
        · have PE := part_first_break ltInt d a b pivot rfl rfl HDK.out HI2.out.symm HJ2.out.symm c
          have HPE := Lib.hid PE
          clear PE
          have hc1 := hcw j2 (by omega)
          have hc2 := hcw a (by omega)
          obtain ⟨v', hy'⟩ := cell?_setCell_some (w := wc) (p := ⟨blk, off + j2, none⟩) (x := .int .u64 (G a)) (q := ⟨blk, off + a, none⟩) (v := .int .u64 (G a)) hc2
          go_wp2
          go_region
          all_goals
            go_wp2
            refine bodyPost_ret (v := .tuple #[.int .i64 j2, .bool true]) (by simp [results, Try.results145, go_sem]) rfl ⟨by rw [HPE.out], _, by rw [HPE.out]; exact swapU (q := 1) HW6.out (by omega) (by omega) (HG.out _) (HG.out _)⟩
        · have PE := part_first_go ltInt d a b pivot rfl rfl HDK.out HI2.out.symm HJ2.out.symm c
          have hlt := part_scans_lt ltInt a (a + 1) (b - 1) dk (by omega) HI2.out.symm HJ2.out.symm (by omega)
          have hs2 : (swp dk i2 j2).size = d.size := by rw [size_swp]; exact hsk
          have SW : ((wc.setCell ⟨blk, off + i2, none⟩ (.int .u64 (G j2))).setCell ⟨blk, off + j2, none⟩ (.int .u64 (G i2))).drew = putRow (Value.int .u64) (Sort.ahead w (m4 + 1)) blk off (swp dk i2 j2) := swapU (q := 1) HW6.out (by omega) (by omega) (HG.out _) (HG.out _)
          obtain ⟨d1, hd1⟩ : ∃ d1, swp dk i2 j2 = d1 := ⟨_, rfl⟩
          rw [hd1] at PE hs2 SW
          have HPE := Lib.hid PE; have HSW := Lib.hid SW
          clear PE SW hd1
          go_wp2
          go_region
          all_goals
            go_wp2
            refine name_world _ (fun W7 HW7 => ?_)
            have HW8 : Hid (W7 = putRow (Value.int .u64) (Sort.ahead w (m4 + 1)) blk off d1) := Lib.hid (by rw [← HW7.out]; exact HSW.out)
            clear HW7 HSW hcw hfw
            go_loopw [10, 11] (fun vi vj wr => ∃ (i j n : Nat) (dj : Array Int), vi = .int .i64 i ∧ vj = .int .i64 j ∧ a < i ∧ i ≤ j + 1 ∧ j < b ∧ dj.size = d.size ∧ wr = putRow (Value.int .u64) (Sort.ahead w n) blk off dj ∧ partLoop ltInt a i j dj = partLoop ltInt a (i2 + 1) (j2 - 1) d1) (fun vi _ _ => b + 1 - (intOf vi).toNat)
            case atStart => exact ⟨i2 + 1, j2 - 1, m4 + 1, d1, by go_num, by first | rfl | (congr 1; omega), by omega, by omega, by omega, hs2, HW8.out, rfl⟩
            case round =>
              obtain ⟨i, j, n, dj, rfl, rfl, hai, hij, hjb, hsj, hwr, hO⟩ := hrel
              have HO := Lib.hid hO; have HW := Lib.hid hwr
              clear hO hwr
              go_upto_block 6 with (fail)
              go_cut [10] (fun v wc => ∃ (i2 m2 : Nat), v = .int .i64 i2 ∧ Hid (scanUp (fun x => ltInt x dj[a]!) dj j i = i2) ∧ i ≤ i2 ∧ i2 ≤ j + 1 ∧ Hid (wc = putRow (Value.int .u64) (Sort.ahead w m2) blk off dj))
              case first =>
                go_wp2
                go_loopw [10] (fun v wr2 => ∃ (t m2 : Nat), v = .int .i64 t ∧ i ≤ t ∧ t ≤ j + 1 ∧ wr2 = putRow (Value.int .u64) (Sort.ahead w m2) blk off dj ∧ scanUp (fun x => ltInt x dj[a]!) dj j t = scanUp (fun x => ltInt x dj[a]!) dj j i) (fun v _ => j + 1 - (intOf v).toNat)
                case atStart => exact ⟨i, _, rfl, Nat.le_refl _, by omega, HW.out, rfl⟩
                case round =>
                  obtain ⟨t, m2, rfl, ht1, ht2, hw2, hI⟩ := hrel
                  obtain ⟨G, hG, hcw, hfw⟩ := famU hH hsj hw2
                  have HI := Lib.hid hI; have HG := Lib.hid hG; have HW2 := Lib.hid hw2
                  clear hI hG hw2
                  by_cases c : t ≤ j
                  · go_wp2
                    go_quiet (first | (go_at_call 143; exact Calls.quiet_of_same (less_u _ _ _)) | (go_at_call 143; exact quiet_add_same (less_u _ _ _)))
                    go_wp2
                    · have hl : ltInt (G t) (G a) = true := by assumption
                      go_roundw
                      case rel => exact ⟨t + 1, _, by go_num, by omega, by omega, by rw [HW2.out]; exact putRow_drewN _ _ _ _ _ _ _, by rw [← HI.out, scanUp_go (fun x => ltInt x dj[a]!) dj j t c (by show (ltInt dj[t]! dj[a]!) = true; rw [← HG.out, ← HG.out]; simpa using hl)]⟩
                      case measure => simp [intOf]; omega
                    · have hl : ltInt (G t) (G a) = false := by assumption
                      go_meet
                      case rel => exact ⟨t, _, rfl, Lib.hid (by rw [← HI.out, scanUp_end (fun x => ltInt x dj[a]!) dj j t (.inr (by show (ltInt dj[t]! dj[a]!) = false; rw [← HG.out, ← HG.out]; simpa using hl))]), ht1, ht2, Lib.hid (by rw [HW2.out]; exact putRow_drewN _ _ _ _ _ _ _)⟩
                  · go_wp2
                    go_quiet (first | (go_at_call 143; exact Calls.quiet_of_same (less_u _ _ _)) | (go_at_call 143; exact quiet_add_same (less_u _ _ _)))
                    go_wp2
                    go_meet
                    case rel => exact ⟨t, _, rfl, Lib.hid (by rw [← HI.out, scanUp_end (fun x => ltInt x dj[a]!) dj j t (.inl c)]), ht1, ht2, Lib.hid (by rw [HW2.out]; exact putRow_drewN _ _ _ _ _ _ _)⟩
              case rest =>
                obtain ⟨i3, m5, rfl, HI3, hi3, hi3j, HW9⟩ := hcut
                go_upto_block 8 with (fail)
                go_cut [11] (fun v wc => ∃ (j2 m2 : Nat), v = .int .i64 j2 ∧ Hid (scanDown (fun x => !ltInt x dj[a]!) dj i3 j = j2) ∧ j2 ≤ j ∧ i3 ≤ j2 + 1 ∧ Hid (wc = putRow (Value.int .u64) (Sort.ahead w m2) blk off dj))
                case first =>
                  go_wp2
                  go_loopw [11] (fun v wr2 => ∃ (t m2 : Nat), v = .int .i64 t ∧ t ≤ j ∧ i3 ≤ t + 1 ∧ wr2 = putRow (Value.int .u64) (Sort.ahead w m2) blk off dj ∧ scanDown (fun x => !ltInt x dj[a]!) dj i3 t = scanDown (fun x => !ltInt x dj[a]!) dj i3 j) (fun v _ => (intOf v).toNat)
                  case atStart => exact ⟨j, _, rfl, Nat.le_refl _, by omega, HW9.out, rfl⟩
                  case round =>
                    obtain ⟨t, m2, rfl, ht1, ht2, hw2, hI⟩ := hrel
                    obtain ⟨G, hG, hcw, hfw⟩ := famU hH hsj hw2
                    have HI := Lib.hid hI; have HG := Lib.hid hG; have HW2 := Lib.hid hw2
                    clear hI hG hw2
                    by_cases c : i3 ≤ t
                    · go_wp2
                      go_quiet (first | (go_at_call 143; exact Calls.quiet_of_same (less_u _ _ _)) | (go_at_call 143; exact quiet_add_same (less_u _ _ _)))
                      go_wp2
                      · have hl : (!ltInt (G t) (G a)) = true := by assumption
                        go_roundw
                        case rel => exact ⟨t - 1, _, by congr 1; omega, by omega, by omega, by rw [HW2.out]; exact putRow_drewN _ _ _ _ _ _ _, by rw [← HI.out, scanDown_go (fun x => !ltInt x dj[a]!) dj i3 t c (by omega) (by show ((!ltInt dj[t]! dj[a]!)) = true; rw [← HG.out, ← HG.out]; simpa using hl)]⟩
                        case measure => simp [intOf]; omega
                      · have hl : (!ltInt (G t) (G a)) = false := by assumption
                        go_meet
                        case rel => exact ⟨t, _, rfl, Lib.hid (by rw [← HI.out, scanDown_end (fun x => !ltInt x dj[a]!) dj i3 t (.inr (by show ((!ltInt dj[t]! dj[a]!)) = false; rw [← HG.out, ← HG.out]; simpa using hl))]), ht1, ht2, Lib.hid (by rw [HW2.out]; exact putRow_drewN _ _ _ _ _ _ _)⟩
                    · go_wp2
                      go_quiet (first | (go_at_call 143; exact Calls.quiet_of_same (less_u _ _ _)) | (go_at_call 143; exact quiet_add_same (less_u _ _ _)))
                      go_wp2
                      go_meet
                      case rel => exact ⟨t, _, rfl, Lib.hid (by rw [← HI.out, scanDown_end (fun x => !ltInt x dj[a]!) dj i3 t (.inl c)]), ht1, ht2, Lib.hid (by rw [HW2.out]; exact putRow_drewN _ _ _ _ _ _ _)⟩
                case rest =>
                  obtain ⟨j3, m6, rfl, HJ3, hj3, hij3, HW10⟩ := hcut
                  obtain ⟨G, hG, hcw, hfw⟩ := famU hH hsj HW10.out
                  have HG := Lib.hid hG
                  clear hG
                  by_cases c2 : j3 < i3
                  · have PL := part_break ltInt a i j dj HI3.out.symm HJ3.out.symm c2
                    rw [HO.out] at PL
                    have PE := HPE.out
                    rw [PL] at PE
                    have HPE2 := Lib.hid PE
                    clear PL PE
                    have hc1 := hcw j3 (by omega)
                    have hc2 := hcw a (by omega)
                    obtain ⟨v', hy'⟩ := cell?_setCell_some (w := wc) (p := ⟨blk, off + j3, none⟩) (x := .int .u64 (G a)) (q := ⟨blk, off + a, none⟩) (v := .int .u64 (G a)) hc2
                    go_wp2
                    go_region
                    all_goals
                      go_wp2
                      refine bodyPost_ret (v := .tuple #[.int .i64 j3, .bool false]) (by simp [results, Try.results145, go_sem]) rfl ⟨by rw [HPE2.out], _, by rw [HPE2.out]; exact swapU (q := 1) HW10.out (by omega) (by omega) (HG.out _) (HG.out _)⟩
                  · have PL := part_go ltInt a i j dj HI3.out.symm HJ3.out.symm c2
                    have hlt3 := part_scans_lt ltInt a i j dj (by omega) HI3.out.symm HJ3.out.symm (by omega)
                    rw [HO.out] at PL
                    have HPL := Lib.hid PL
                    clear PL
                    go_wp2
                    go_region
                    all_goals go_wp2
                    go_roundw
                    case rel => exact ⟨i3 + 1, j3 - 1, _, swp dj i3 j3, by go_num, by congr 1; omega, by omega, by omega, by omega, by rw [size_swp]; exact hsj, swapU (q := 1) HW10.out (by omega) (by omega) (HG.out _) (HG.out _), HPL.out.symm⟩
                    case measure => simp [intOf]; omega
end Go.Proofs.Ytncgjbocgbnkcaa
namespace Go.Proofs.Ytncgjbocgbnkcaa
set_option linter.unusedVariables false
set_option linter.unusedSimpArgs false
open Go.RowKit Go.Sort Go.Proofs Go.Proofs.YtncgjbocgbnkcaaW.PrintWords
theorem holds_heap {α : Type} [Inhabited α] {enc : α → Value} {w w' : World} {blk off : Nat} {d : Array α} (h : Holds enc w blk off d) (he : w'.heap[blk]? = w.heap[blk]?) : Holds enc w' blk off d := fun j hj => by
  have := h j hj
  unfold World.cell? World.frozen? at *
  simp only [he]
  exact this
/-- The row, and the counter of exchanges in a block of its own. -/
def QS (w : World) (blk off : Nat) (d : Array Int) (sb : Nat) : Prop := Holds (Value.int .u64) w blk off d ∧ (∃ s : Int, w.heap[sb]? = some (.cells #[.int .i64 s] 3 (0, 0))) ∧ sb ≠ blk
/-- Nothing but a block has changed. -/
def KX (w w' : World) (sb : Nat) : Prop := w'.heap.size = w.heap.size ∧ (∀ i, i ≠ sb → w'.heap[i]? = w.heap[i]?) ∧ w'.os = w.os ∧ w'.tape = w.tape ∧ w'.output = w.output
theorem KX.refl (w : World) (sb : Nat) : KX w w sb := ⟨rfl, fun _ _ => rfl, rfl, rfl, rfl⟩
theorem KX.trans {a b c : World} {sb : Nat} (h : KX a b sb) (k : KX b c sb) : KX a c sb := ⟨k.1.trans h.1, fun i hi => (k.2.1 i hi).trans (h.2.1 i hi), k.2.2.1.trans h.2.2.1, k.2.2.2.1.trans h.2.2.2.1, k.2.2.2.2.trans h.2.2.2.2⟩
theorem QS.step {w w' : World} {blk off : Nat} {d : Array Int} {sb : Nat} (h : QS w blk off d sb) (t : Int) (n : Nat) : QS ((w.drewN n).setCell ⟨sb, 0, none⟩ (.int .i64 t)) blk off d sb ∧ KX w ((w.drewN n).setCell ⟨sb, 0, none⟩ (.int .i64 t)) sb := by
  obtain ⟨h1, ⟨s, h2⟩, h3⟩ := h
  refine ⟨⟨holds_heap h1 (Below.heap_setCell (w.drewN n) ⟨sb, 0, none⟩ _ blk (Ne.symm h3)), ⟨t, ?_⟩, h3⟩, ?_⟩
  · exact blk_set (blk_drewN h2 n) 0 (.int .i64 t)
  · refine ⟨by simp, fun i hi => Below.heap_setCell (w.drewN n) ⟨sb, 0, none⟩ _ i hi, ?_, ?_, ?_⟩ <;> rfl
set_option maxHeartbeats 1000000 in
theorem order2_u (blk off len cap a b sb : Nat) (d : Array Int) (hlen : d.size = len) (w : World) (h : QS w blk off d sb) (ha : a < d.size) (hb : b < d.size) (hsz : d.size < 4611686018427387904) :
    Calls Try.prog 155 #[.slice (some ⟨blk, off, none⟩) len cap, .int .i64 a, .int .i64 b, .pointer (some ⟨sb, 0, none⟩)] w fun e w' =>
      ∃ x y : Nat, e = .returned (.tuple #[.int .i64 x, .int .i64 y]) ∧ ((x = a ∧ y = b) ∨ (x = b ∧ y = a)) ∧ QS w' blk off d sb ∧ KX w w' sb := by
  subst hlen
  obtain ⟨h1, ⟨s, h2⟩, h3⟩ := id h
  obtain ⟨G, hG, hcw, hfw⟩ := famU h1 rfl (selfU h1)
  have hca := hcw a ha; have hcb := hcw b hb
  have hcs : w.cell? ⟨sb, 0, none⟩ = some (.int .i64 s) := blk_cell h2 0
  have hfs : w.frozen? ⟨sb, 0, none⟩ = false := blk_frozen h2 0
  have H := Lib.hid h
  clear hG hcw hfw h1 h2 h3 h
  go_enter Try.func155, Try.ntmps155
  go_wp2
  go_quiet (first | (go_at_call 143; exact Calls.quiet_of_same (less_u _ _ _)))
  go_wp2
  · refine bodyPost_ret (v := .tuple #[.int .i64 b, .int .i64 a]) (by simp [results, Try.results155, go_sem]) rfl ⟨b, a, rfl, .inr ⟨rfl, rfl⟩, ?_⟩
    exact (H.out.step (w' := w) _ _)
  · refine bodyPost_ret (v := .tuple #[.int .i64 a, .int .i64 b]) (by simp [results, Try.results155, go_sem]) rfl ⟨a, b, rfl, .inl ⟨rfl, rfl⟩, H.out, ?_⟩
    exact ⟨rfl, fun _ _ => rfl, rfl, rfl, rfl⟩
set_option maxHeartbeats 1000000 in
theorem median_u (blk off len cap a b c sb : Nat) (d : Array Int) (hlen : d.size = len) (w : World) (h : QS w blk off d sb) (ha : a < d.size) (hb : b < d.size) (hc : c < d.size) (hsz : d.size < 4611686018427387904) :
    Calls Try.prog 153 #[.slice (some ⟨blk, off, none⟩) len cap, .int .i64 a, .int .i64 b, .int .i64 c, .pointer (some ⟨sb, 0, none⟩)] w fun e w' =>
      ∃ x : Nat, e = .returned (.int .i64 x) ∧ (x = a ∨ x = b ∨ x = c) ∧ QS w' blk off d sb ∧ KX w w' sb := by
  subst hlen
  have C := fun w h x y hx hy => order2_u blk off d.size cap x y sb d rfl w h hx hy hsz
  go_enter Try.func153, Try.ntmps153
  go_wp2_with (go_at_call 155; refine (C _ h _ _ ha hb).mono ?_; rintro e w1 ⟨x1, y1, rfl, h1, q1, k1⟩; clear h)
  have hx1 : x1 < d.size := by omega
  have hy1 : y1 < d.size := by omega
  go_wp2_with (go_at_call 155; refine (C _ q1 _ _ hy1 hc).mono ?_; rintro e w2 ⟨x2, y2, rfl, h2, q2, k2⟩; clear q1)
  have hx2 : x2 < d.size := by omega
  go_wp2_with (go_at_call 155; refine (C _ q2 _ _ hx1 hx2).mono ?_; rintro e w3 ⟨x3, y3, rfl, h3, q3, k3⟩; clear q2)
  go_ret
  exact ⟨y3, rfl, by omega, q3, (k1.trans k2).trans k3⟩
set_option maxHeartbeats 1000000 in
theorem medianAdjacent_u (blk off len cap a sb : Nat) (d : Array Int) (hlen : d.size = len) (w : World) (h : QS w blk off d sb) (h0 : 1 ≤ a) (ha : a + 1 < d.size) (hsz : d.size < 4611686018427387904) :
    Calls Try.prog 152 #[.slice (some ⟨blk, off, none⟩) len cap, .int .i64 a, .pointer (some ⟨sb, 0, none⟩)] w fun e w' =>
      ∃ x : Nat, e = .returned (.int .i64 x) ∧ (x = a - 1 ∨ x = a ∨ x = a + 1) ∧ QS w' blk off d sb ∧ KX w w' sb := by
  subst hlen
  have C := median_u blk off d.size cap (a - 1) a (a + 1) sb d rfl w h (by omega) (by omega) ha hsz
  have e1 : ((a - 1 : Nat) : Int) = (a : Int) - 1 := by omega
  have e2 : ((a + 1 : Nat) : Int) = (a : Int) + 1 := by omega
  rw [e1, e2] at C
  clear e1 e2
  go_enter Try.func152, Try.ntmps152
  go_wp2_with (go_at_call 153; refine C.mono ?_; rintro e w1 ⟨x1, rfl, h1, q1, k1⟩)
  go_ret
  exact ⟨x1, rfl, h1, q1, k1⟩
end Go.Proofs.Ytncgjbocgbnkcaa
namespace Go.Proofs.Ytncgjbocgbnkcaa
set_option linter.unusedVariables false
set_option linter.unusedSimpArgs false
open Go.RowKit Go.Sort Go.Proofs Go.Proofs.YtncgjbocgbnkcaaW.PrintWords
theorem KX.below {w w1 : World} {o : Obj} (h : KX (w.alloc o) w1 w.heap.size) : Below w.heap.size w w1 :=
  ⟨h.2.2.1, h.2.2.2.1, h.2.2.2.2, by rw [h.1]; simp, fun k hk => by rw [h.2.1 k (by omega)]; exact Below.heap_alloc w o k hk⟩
theorem QS.start {w : World} {blk off : Nat} {d : Array Int} (h : Holds (Value.int .u64) w blk off d) (hb : blk < w.heap.size) : QS (w.alloc (.cells #[.int .i64 0] 3)) blk off d w.heap.size :=
  ⟨holds_heap h (Below.heap_alloc w _ blk hb), ⟨0, blk_new w _⟩, by omega⟩
set_option maxHeartbeats 2000000 in
set_option maxRecDepth 100000 in
theorem choosePivot_u (blk off len cap a b : Nat) (d : Array Int) (hlen : d.size = len) (w : World) (h : Holds (Value.int .u64) w blk off d) (hblk : blk < w.heap.size) (hab : a < b) (hb : b ≤ d.size) (hsz : d.size < 4611686018427387904) :
    Calls Try.prog 140 #[.slice (some ⟨blk, off, none⟩) len cap, .int .i64 a, .int .i64 b] w fun e w' =>
      ∃ p hint : Nat, e = .returned (.tuple #[.int .i64 p, .int .i64 hint]) ∧ a ≤ p ∧ p < b ∧ hint ≤ 2 ∧ Below w.heap.size w w' := by
  subst hlen
  obtain ⟨l, hl⟩ : ∃ l : Nat, (b : Int) - (a : Int) = l := ⟨b - a, by omega⟩
  obtain ⟨i, hi⟩ : ∃ i : Nat, a + l / 4 * 1 = i := ⟨_, rfl⟩
  obtain ⟨j, hj⟩ : ∃ i : Nat, a + l / 4 * 2 = i := ⟨_, rfl⟩
  obtain ⟨k, hk⟩ : ∃ i : Nat, a + l / 4 * 3 = i := ⟨_, rfl⟩
  have e1 : (a : Int) + (l : Int) / 4 = (i : Int) := by omega
  have e2 : (a : Int) + (l : Int) / 4 * 2 = (j : Int) := by omega
  have e3 : (a : Int) + (l : Int) / 4 * 3 = (k : Int) := by omega
  have q0 := QS.start h hblk
  have k0 := KX.refl (w.alloc (.cells #[.int .i64 0] 3)) w.heap.size
  have HL := Lib.hid hl; have E1 := Lib.hid e1; have E2 := Lib.hid e2; have E3 := Lib.hid e3
  have jr : a ≤ j ∧ j < b := by omega
  have HI := Lib.hid hi; have HJ := Lib.hid hj; have HK := Lib.hid hk
  have bl : b = a + l := by omega
  have BL := Lib.hid bl
  clear hl e1 e2 e3 h hi hj hk bl
  go_enter Try.func140, Try.ntmps140
  go_upto_if 32 with (fail)
  rw [HL.out, E1.out, E2.out, E3.out]
  go_cut [11] (fun v wc => ∃ p : Nat, v = .int .i64 p ∧ a ≤ p ∧ p < b ∧ QS wc blk off d w.heap.size ∧ KX (w.alloc (.cells #[.int .i64 0] 3)) wc w.heap.size)
  case first =>
    by_cases h8 : 8 ≤ l
    · have hi := HI.out; have hj := HJ.out; have hk := HK.out; have bl := BL.out
      have r1 : 1 ≤ i ∧ i + 1 < b := by omega
      have r2 : 1 ≤ j ∧ j + 1 < b := by omega
      by_cases h50 : 50 ≤ l
      · have r1' : a ≤ i - 1 ∧ 1 ≤ i ∧ i + 1 < b := by omega
        have r2' : a ≤ j - 1 ∧ 1 ≤ j ∧ j + 1 < b := by omega
        have r3' : a ≤ k - 1 ∧ 1 ≤ k ∧ k + 1 < b := by omega
        have C := fun w1 h x h1 h2 => medianAdjacent_u blk off d.size cap x w.heap.size d rfl w1 h h1 h2 hsz
        have M := fun w1 h x y z h1 h2 h3 => median_u blk off d.size cap x y z w.heap.size d rfl w1 h h1 h2 h3 hsz
        clear hi hj hk bl
        go_wp2_with (go_at_call 152; refine (C _ q0 _ r1'.2.1 (by omega)).mono ?_; rintro e w1 ⟨x1, rfl, h1, q1, k1⟩; clear q0)
        have y1 : a ≤ x1 ∧ x1 < b := by omega
        go_wp2_with (go_at_call 152; refine (C _ q1 _ r2'.2.1 (by omega)).mono ?_; rintro e w2 ⟨x2, rfl, h2, q2, k2⟩; clear q1)
        have y2 : a ≤ x2 ∧ x2 < b := by omega
        go_wp2_with (go_at_call 152; refine (C _ q2 _ r3'.2.1 (by omega)).mono ?_; rintro e w3 ⟨x3, rfl, h3, q3, k3⟩; clear q2)
        have y3 : a ≤ x3 ∧ x3 < b := by omega
        go_wp2_with (go_at_call 153; refine (M _ q3 _ _ _ (by omega) (by omega) (by omega)).mono ?_; rintro e w4 ⟨x4, rfl, h4, q4, k4⟩; clear q3)
        go_meet
        case rel => exact ⟨x4, rfl, by omega, by omega, q4, (((k0.trans k1).trans k2).trans k3).trans k4⟩
      · have M := median_u blk off d.size cap i j k w.heap.size d rfl _ q0 (by omega) (by omega) (by omega) hsz
        have r3 : a ≤ i ∧ i < b ∧ a ≤ j ∧ j < b ∧ a ≤ k ∧ k < b := by omega
        clear hi hj hk bl
        go_wp2_with (go_at_call 153; refine M.mono ?_; rintro e w4 ⟨x4, rfl, h4, q4, k4⟩)
        go_meet
        case rel => exact ⟨x4, rfl, by omega, by omega, q4, k0.trans k4⟩
    · go_wp2
      go_meet
      case rel => exact ⟨j, rfl, jr.1, jr.2, q0, k0⟩
  case rest =>
    obtain ⟨p, rfl, p1, p2, q1, k1⟩ := hcut
    obtain ⟨_, ⟨s, hs⟩, _⟩ := q1
    have hcs := blk_cell hs 0
    have hcs' : World.cell? wc ⟨w.heap.size, 0, none⟩ = some (.int .i64 s) := hcs
    have KB := Lib.hid k1.below
    clear hs hcs k0 k1 q0
    by_cases s0 : s = 0
    · subst s0
      go_wp2
      refine bodyPost_ret (v := .tuple #[.int .i64 p, .int .i64 (1 : Nat)]) (by simp [results, Try.results140, go_sem]) rfl ⟨p, 1, rfl, p1, p2, by omega, KB.out⟩
    · have t0 : (s == 0) = false := beq_eq_false_iff_ne.mpr s0
      by_cases s12 : s = 12
      · subst s12
        go_wp2
        refine bodyPost_ret (v := .tuple #[.int .i64 p, .int .i64 (2 : Nat)]) (by simp [results, Try.results140, go_sem]) rfl ⟨p, 2, rfl, p1, p2, by omega, KB.out⟩
      · have t12 : (s == 12) = false := beq_eq_false_iff_ne.mpr s12
        go_wp2
        refine bodyPost_ret (v := .tuple #[.int .i64 p, .int .i64 (0 : Nat)]) (by simp [results, Try.results140, go_sem]) rfl ⟨p, 0, rfl, p1, p2, by omega, KB.out⟩
end Go.Proofs.Ytncgjbocgbnkcaa
namespace Go.Proofs.Ytncgjbocgbnkcaa
set_option linter.unusedVariables false
set_option linter.unusedSimpArgs false
open Go.RowKit Go.Sort Go.Proofs Go.Proofs.YtncgjbocgbnkcaaW.PrintWords
theorem npot_u (n : Nat) (hn : n < 4611686018427387904) (w : World) :
    Calls Try.prog 150 #[.int .i64 n] w fun e w' => e = .returned (.int .u64 ((1 <<< bitsLen n : Nat) : Int)) ∧ w' = w := by
  have hLen : ∀ w, Calls Try.prog 126 #[.int .u64 (n : Int)] w fun e w' => e = .returned (.int .i64 (bitsLen n : Nat)) ∧ w' = w := fun w => by
    have h := Try.bits_Len (n : Int) w (by omega) (by omega)
    rwa [Int.toNat_natCast, bitLen_eq _ (by omega)] at h
  have hk : bitsLen n ≤ 62 := (bitsLen_le_iff n 62).2 (by omega)
  have hp := wrap_two_pow (bitsLen n) hk
  have wr : IntKind.u64.wrap (n : Int) = n := by rw [IntKind.wrap_u64]; omega
  go_enter Try.func150, Try.ntmps150
  go_wp2_with (first | (go_at_call 126; refine (hLen _).mono ?_; rintro e w' ⟨rfl, rfl⟩))
  go_ret
  exact ⟨rfl, rfl⟩
theorem xor_u (a b : Nat) (ha : a < 18446744073709551616) (hb : b < 18446744073709551616) : ∃ c : Nat, c < 18446744073709551616 ∧ bits .xor .u64 (a : Int) (b : Int) = (c : Int) :=
  ⟨a ^^^ b, Nat.xor_lt_two_pow (n := 64) ha hb, bits_xor_u64_nat _ _ ha hb⟩
set_option maxHeartbeats 2000000 in
theorem next_u (rb X : Nat) (hX : X < 18446744073709551616) (w : World) (hc : w.cell? ⟨rb, 0, none⟩ = some (.int .u64 X)) (hf : w.frozen? ⟨rb, 0, none⟩ = false) :
    Calls Try.prog 151 #[.pointer (some ⟨rb, 0, none⟩)] w fun e w' => ∃ Y : Nat, Y < 18446744073709551616 ∧ e = .returned (.int .u64 Y) ∧ w' = (w.setCell ⟨rb, 0, none⟩ (.int .u64 Y)).drewN 3 := by
  obtain ⟨A, lA, e1⟩ : ∃ A : Nat, A < 18446744073709551616 ∧ bits .xor .u64 (X : Int) (IntKind.u64.wrap ((X : Int) * 8192)) = (A : Int) := by
    rw [IntKind.wrap_u64, show ((X : Int) * 8192 % 18446744073709551616) = ((X * 8192 % 18446744073709551616 : Nat) : Int) by omega]; exact xor_u _ _ hX (by omega)
  obtain ⟨B, lB, e2⟩ : ∃ B : Nat, B < 18446744073709551616 ∧ bits .xor .u64 (A : Int) ((A : Int) / 128) = (B : Int) := by
    rw [show ((A : Int) / 128) = ((A / 128 : Nat) : Int) by omega]; exact xor_u _ _ lA (by omega)
  obtain ⟨C, lC, e3⟩ : ∃ C : Nat, C < 18446744073709551616 ∧ bits .xor .u64 (B : Int) (IntKind.u64.wrap ((B : Int) * 131072)) = (C : Int) := by
    rw [IntKind.wrap_u64, show ((B : Int) * 131072 % 18446744073709551616) = ((B * 131072 % 18446744073709551616 : Nat) : Int) by omega]; exact xor_u _ _ lB (by omega)
  have hss : ∀ v v', (w.setCell ⟨rb, 0, none⟩ v).setCell ⟨rb, 0, none⟩ v' = w.setCell ⟨rb, 0, none⟩ v' := setCell_setCell w rb 0
  go_enter Try.func151, Try.ntmps151
  go_wp2
  go_region
  all_goals go_wp2
  all_goals go_region
  all_goals go_wp2
  all_goals go_region
  all_goals go_wp2
  go_ret
  exact ⟨C, lC, rfl, rfl⟩
theorem putRow_heap (w : World) (blk off k : Nat) (d : Array Int) (h : k ≠ blk) : (putRow (Value.int .u64) w blk off d).heap[k]? = w.heap[k]? := by
  unfold putRow mapBlock
  simp only [Array.getElem?_modify]
  rw [if_neg (Ne.symm h)]
/-- Of the blocks that stood, only the row has changed: it holds d. -/
def SU (w0 w : World) (blk off : Nat) (d : Array Int) : Prop := Go.RowKit.Below w0.heap.size (putRow (Value.int .u64) w0 blk off d) w
theorem SU.start {w : World} {blk off : Nat} {d : Array Int} (h : Holds (Value.int .u64) w blk off d) : SU w w blk off d := by
  unfold SU; rw [putRow_self _ _ _ _ _ h]; exact Go.RowKit.Below.refl _ _
theorem SU.holds {w0 w : World} {blk off : Nat} {d0 d : Array Int} (h : SU w0 w blk off d) (hH : Holds (Value.int .u64) w0 blk off d0) (hs : d.size = d0.size) (hb : blk < w0.heap.size) : Holds (Value.int .u64) w blk off d :=
  holds_heap (holds_putRow _ _ _ _ d0 d hH hs) (h.block blk hb)
theorem SU.size {w0 w : World} {blk off : Nat} {d : Array Int} (h : SU w0 w blk off d) : w0.heap.size ≤ w.heap.size := by
  have := Go.RowKit.Below.size h; simpa using this
theorem SU.put {w0 w : World} {blk off : Nat} {d : Array Int} (h : SU w0 w blk off d) (d' : Array Int) (hs : d'.size = d.size) (n : Nat) : SU w0 (putRow (Value.int .u64) (Sort.ahead w n) blk off d') blk off d' := by
  unfold SU
  rw [show putRow (Value.int .u64) w0 blk off d' = putRow (Value.int .u64) (putRow (Value.int .u64) w0 blk off d) blk off d' from (putRow_putRow _ _ _ _ _ _ hs).symm]
  refine ⟨h.os, h.tape, h.output, by simpa using h.size, fun k hk => ?_⟩
  by_cases e : k = blk
  · subst e
    have := h.block k hk
    unfold putRow mapBlock at *
    simp only [Array.getElem?_modify, if_true] at *
    rw [show (Sort.ahead w n).heap = w.heap from rfl, this]
  · rw [putRow_heap _ _ _ _ _ e, putRow_heap _ _ _ _ _ e]; exact h.block k hk
theorem SU.then {w0 w w' : World} {blk off : Nat} {d : Array Int} (h : SU w0 w blk off d) (k : Go.RowKit.Below w.heap.size w w') : SU w0 w' blk off d :=
  Go.RowKit.Below.trans h (k.mono h.size)
end Go.Proofs.Ytncgjbocgbnkcaa
namespace Go.Proofs.Ytncgjbocgbnkcaa
set_option linter.unusedVariables false
set_option linter.unusedSimpArgs false
open Go.RowKit Go.Sort Go.Proofs Go.Proofs.YtncgjbocgbnkcaaW.PrintWords
/-- One round: the generator's cell is written, two places of the row change. -/
theorem SU.round {w wr : World} {blk off : Nat} {d : Array Int} (h : SU w wr blk off d) {d0 : Array Int} (hH : Holds (Value.int .u64) w blk off d0) (hs : d.size = d0.size) (hb : blk < w.heap.size) (Y : Nat) {j k : Nat} (hj : j < d.size) (hk : k < d.size) {x y : Int} (hx : x = d[k]!) (hy : y = d[j]!) (q : Nat) :
    SU w (((((wr.setCell ⟨w.heap.size, 0, none⟩ (.int .u64 Y)).drewN q).setCell ⟨blk, off + j, none⟩ (.int .u64 x)).setCell ⟨blk, off + k, none⟩ (.int .u64 y))) blk off (swp d j k) := by
  have h1 : SU w (wr.setCell ⟨w.heap.size, 0, none⟩ (.int .u64 Y)) blk off d := Go.RowKit.Below.setCell h (Nat.le_refl _) _
  have h2 := h1.holds hH hs hb
  have e := swapU (selfU h2) (q := q) hj hk hx hy
  rw [e]
  exact h1.put _ (size_swp d j k) _
/-- The generator's cell behind a round. -/
theorem gen_round {wr : World} {gb blk off : Nat} {X : Int} (hg : wr.heap[gb]? = some (.cells #[.int .u64 X] 168 (0, 0))) (hne : gb ≠ blk) (Y : Nat) (q j k : Nat) (x y : Value) :
    (((((wr.setCell ⟨gb, 0, none⟩ (.int .u64 Y)).drewN q).setCell ⟨blk, off + j, none⟩ x).setCell ⟨blk, off + k, none⟩ y)).heap[gb]? = some (.cells #[.int .u64 Y] 168 (0, 0)) := by
  rw [Below.heap_setCell _ ⟨blk, off + k, none⟩ _ gb hne, Below.heap_setCell _ ⟨blk, off + j, none⟩ _ gb hne]
  exact blk_set hg 0 (.int .u64 Y)
theorem and_u (Y M : Nat) (hY : Y < 18446744073709551616) (hM : 1 ≤ M) (hM2 : M < 18446744073709551616) : ∃ O : Nat, O ≤ M - 1 ∧ bits .and .u64 (Y : Int) ((M : Int) - 1) = (O : Int) :=
  ⟨Y &&& (M - 1), Nat.and_le_right, by rw [show ((M : Int) - 1) = ((M - 1 : Nat) : Int) by omega, bits_and_u64_nat _ _ hY (by omega)]⟩
set_option maxHeartbeats 4000000 in
set_option maxRecDepth 100000 in
theorem breakPatterns_u (blk off len cap a b : Nat) (d : Array Int) (hlen : d.size = len) (w : World) (hH : Holds (Value.int .u64) w blk off d) (hblk : blk < w.heap.size) (hab : a ≤ b) (hb : b ≤ d.size) (hsz : d.size < 4611686018427387904) :
    Calls Try.prog 139 #[.slice (some ⟨blk, off, none⟩) len cap, .int .i64 a, .int .i64 b] w fun e w' =>
      e = .returned (.tuple #[]) ∧ ∃ d', PermIn a b d d' ∧ SU w w' blk off d' := by
  subst hlen
  obtain ⟨L, rfl⟩ : ∃ L, b = a + L := ⟨b - a, by omega⟩
  obtain ⟨M, hM⟩ : ∃ M : Nat, M = 1 <<< bitsLen L := ⟨_, rfl⟩
  have hNP : ∀ w, Calls Try.prog 150 #[.int .i64 (L : Int)] w fun e w' => e = .returned (.int .u64 (M : Int)) ∧ w' = w := by rw [hM]; exact fun w => npot_u L (by omega) w
  have st := SU.start hH
  have eL : (a : Int) + (L : Int) - (a : Int) = (L : Int) := by omega
  have HH := Lib.hid hH
  by_cases h8 : 8 ≤ L
  · have hM1 : 1 ≤ M := by rw [hM, Nat.one_shiftLeft]; exact Nat.two_pow_pos _
    have hM2 : M ≤ 2 * L := by rw [hM, Nat.one_shiftLeft]; exact two_pow_bitsLen_le (by omega)
    have st2 : SU w (w.alloc (.cells #[.int .u64 (L : Int)] 168)) blk off d := Go.RowKit.Below.alloc st (by simp) _
    have ng : (w.alloc (.cells #[.int .u64 (L : Int)] 168)).heap[w.heap.size]? = some (.cells #[.int .u64 (L : Int)] 168 (0, 0)) := blk_new w _
    have ST := Lib.hid st2; have NG := Lib.hid ng; have EL := Lib.hid eL
    clear hM hH st st2 ng eL
    go_enter Try.func139, Try.ntmps139
    go_wp2_with (first | (go_at_call 150; rw [EL.out]; refine (hNP _).mono ?_; rintro e w' ⟨rfl, rfl⟩))
    go_loopw [9] (fun vi wr => ∃ (t X : Nat) (dk : Array Int), vi = .int .i64 ((a + L / 4 * 2 - 1 + t : Nat) : Int) ∧ t ≤ 3 ∧ X < 18446744073709551616 ∧ PermIn a (a + L) d dk ∧ SU w wr blk off dk ∧
        wr.heap[w.heap.size]? = some (.cells #[.int .u64 (X : Int)] 168 (0, 0))) (fun vi _ => a + L / 4 * 2 + 3 - (intOf vi).toNat)
    case atStart => exact ⟨0, L, d, by congr 1; omega, by omega, by omega, permIn_refl _ _ _, ST.out, NG.out⟩
    case round =>
      obtain ⟨t, X, dk, rfl, ht, hX, hp, hs, hg⟩ := hrel
      have hsk : dk.size = d.size := hp.1
      have hh := hs.holds HH.out hsk hblk
      obtain ⟨G, hG, hcw, hfw⟩ := famU hh rfl (selfU hh)
      have N := next_u w.heap.size X hX wr (blk_cell hg 0) (blk_frozen hg 0)
      have HS := Lib.hid hs; have HP := Lib.hid hp; have HG := Lib.hid hG; have GG := Lib.hid hg
      have hne : w.heap.size ≠ blk := by omega
      clear hs hp hh hG hg
      go_wp2_with (first | (go_at_call 151; refine N.mono ?_; rintro e w' ⟨Y, hY, rfl, rfl⟩; clear N; obtain ⟨O, lO, eO⟩ := and_u Y M hY hM1 (by omega)))
      · have hLO : L ≤ O := by omega
        by_cases hEq : a + L / 4 * 2 - 1 + t = a + (O - L)
        all_goals
          go_region
          all_goals go_wp2
          go_roundw
          case rel =>
            refine ⟨t + 1, Y, swp dk (a + L / 4 * 2 - 1 + t) (a + (O - L)), by first | rfl | (congr 1 <;> omega), by omega, hY, permIn_trans _ _ _ _ _ HP.out (swp_permIn _ _ _ _ _ (by omega) (by omega) (by omega) (by omega) (by omega)), ?_, ?_⟩
            · (try rw [hEq])
              simp only [HG.out]
              exact HS.out.round HH.out hsk hblk Y (by omega) (by omega) rfl rfl _
            · (try rw [hEq])
              exact gen_round GG.out hne Y _ _ _ _ _
          case measure => simp [intOf]; omega
      · have hLO : ¬ L ≤ O := by omega
        by_cases hEq : a + L / 4 * 2 - 1 + t = a + O
        all_goals
          go_region
          all_goals go_wp2
          go_roundw
          case rel =>
            refine ⟨t + 1, Y, swp dk (a + L / 4 * 2 - 1 + t) (a + O), by first | rfl | (congr 1 <;> omega), by omega, hY, permIn_trans _ _ _ _ _ HP.out (swp_permIn _ _ _ _ _ (by omega) (by omega) (by omega) (by omega) (by omega)), ?_, ?_⟩
            · (try rw [hEq])
              simp only [HG.out]
              exact HS.out.round HH.out hsk hblk Y (by omega) (by omega) rfl rfl _
            · (try rw [hEq])
              exact gen_round GG.out hne Y _ _ _ _ _
          case measure => simp [intOf]; omega
      · go_end0
        exact ⟨rfl, dk, HP.out, HS.out⟩
  · have ST := Lib.hid st; have EL := Lib.hid eL
    clear hM hH st eL hNP
    go_enter Try.func139, Try.ntmps139
    go_wp2
    go_end0
    exact ⟨rfl, d, permIn_refl _ _ _, ST.out⟩
end Go.Proofs.Ytncgjbocgbnkcaa
namespace Go.Proofs.Ytncgjbocgbnkcaa
set_option linter.unusedVariables false
set_option linter.unusedSimpArgs false
open Go.RowKit Go.Sort Go.Proofs Go.Proofs.YtncgjbocgbnkcaaW.PrintWords
theorem SU.trans {w0 w1 w2 : World} {blk off : Nat} {d d' : Array Int} (h : SU w0 w1 blk off d) (k : SU w1 w2 blk off d') (hs : d'.size = d.size) : SU w0 w2 blk off d' :=
  (h.put d' hs 0).then (Go.RowKit.Below.mono k (by simp))
theorem SU.draws {w0 w1 : World} {blk off : Nat} {d : Array Int} (h : SU w0 w1 blk off d) (n : Nat) : SU w0 (w1.drewN n) blk off d := ⟨h.os, h.tape, h.output, by have := Go.RowKit.Below.size h; simpa using this, h.block⟩
set_option maxHeartbeats 6400000 in
set_option maxRecDepth 1000000 in
theorem pdqsort_u : ∀ (N blk off len cap a b limit : Nat) (d : Array Int) (_ : d.size = len) (w : World), b - a < N → Holds (Value.int .u64) w blk off d → blk < w.heap.size → a ≤ b → b ≤ d.size → d.size < 4611686018427387904 → limit < 4611686018427387904 → Below ltInt a b d →
    Calls Try.prog 125 #[.slice (some ⟨blk, off, none⟩) len cap, .int .i64 a, .int .i64 b, .int .i64 limit] w fun e w' => e = .returned (.tuple #[]) ∧ ∃ d', (PermIn a b d d' ∧ SortedIn ltInt a b d') ∧ SU w w' blk off d' := by
  intro N
  induction N with
  | zero => intro _ _ _ _ _ _ _ _ _ _ h; exact absurd h (Nat.not_lt_zero _)
  | succ N ih =>
    intro blk off len cap a b limit d hlen w hN hH hblk hab hb hsz hlimit hBel0
    have HH := Lib.hid hH
    have ST := Lib.hid (SU.start hH)
    have HB0 := Lib.hid hBel0
    have IH := Lib.hid ih
    clear hH hBel0 ih
    go_enter Try.func125, Try.ntmps125
    go_wp2
    go_loopg [1, 2, 3, 8, 9] (b - a) (fun k s1 s2 s3 s8 s9 wr => ∃ (a' b' lim : Nat) (wb wp : Bool) (dk : Array Int), s1 = .int .i64 a' ∧ s2 = .int .i64 b' ∧ s3 = .int .i64 lim ∧ s8 = .bool wb ∧ s9 = .bool wp ∧
      a' ≤ b' ∧ b' ≤ d.size ∧ b' - a' ≤ k ∧ k ≤ b - a ∧ lim ≤ limit ∧ dk.size = d.size ∧ Below ltInt a' b' dk ∧ SU w wr blk off dk ∧ ∀ R, PermIn a' b' dk R → SortedIn ltInt a' b' R → PermIn a b d R ∧ SortedIn ltInt a b R)
    case atStart => exact ⟨a, b, limit, true, true, d, rfl, rfl, rfl, rfl, rfl, hab, hb, Nat.le_refl _, Nat.le_refl _, Nat.le_refl _, rfl, HB0.out, ST.out, fun R h1 h2 => ⟨h1, h2⟩⟩
    case round =>
      obtain ⟨a', b', lim, wb, wp, dk, rfl, rfl, rfl, rfl, rfl, hab', hb', hk, hkN, hlim, hds, hBel, hS, hK⟩ := hrel
      have hbl : blk < wr.heap.size := Nat.lt_of_lt_of_le hblk hS.size
      have hh := hS.holds HH.out hds hblk
      have hb2 : b' ≤ dk.size := by omega
      have sz2 : dk.size < 4611686018427387904 := by omega
      have K := Lib.hid hK; have BE := Lib.hid hBel; have HS := Lib.hid hS
      clear hK hBel hS
      by_cases h12 : b' - a' ≤ 12
      · have h12z : (b' : Int) - (a' : Int) ≤ 12 := by omega
        have hc := insertionSort_u blk off len cap a' b' dk (by omega) wr hh hab' hb2 sz2
        obtain ⟨hp, hso⟩ := insertionSort_holds swo_ltInt dk a' b' hab' hb2
        have HP := Lib.hid hp; have HO := Lib.hid hso
        clear hp hso hh
        go_wp2_with (go_at_call 137; refine hc.mono ?_; rintro e w1 ⟨rfl, hw1⟩; clear hc)
        (try simp only [Exit.inBlock, Exit.then]); refine bodyPost_ret (results_none rfl _ _ _) rfl ?_
        obtain ⟨n1, rfl⟩ := hw1
        exact ⟨rfl, _, K.out _ HP.out HO.out, HS.out.put _ HP.out.1 _⟩
      · have h12z : ¬ ((b' : Int) - (a' : Int) ≤ 12) := by omega
        by_cases hl0 : lim = 0
        · subst hl0
          have hc := heapSort_u blk off len cap a' b' dk (by omega) wr hh hab' hb2 sz2
          obtain ⟨hp, hso⟩ := heapSort_holds swo_ltInt dk a' b' hab' hb2
          have HP := Lib.hid hp; have HO := Lib.hid hso
          clear hp hso hh
          go_wp2_with (go_at_call 138; refine hc.mono ?_; rintro e w1 ⟨rfl, hw1⟩; clear hc)
          (try simp only [Exit.inBlock, Exit.then]); refine bodyPost_ret (results_none rfl _ _ _) rfl ?_
          obtain ⟨n1, rfl⟩ := hw1
          exact ⟨rfl, _, K.out _ HP.out HO.out, HS.out.put _ HP.out.1 _⟩
        · have hl0z : ¬ ((lim : Int) = 0) := by omega
          have h12n : a' < b' := by omega
          -- 'if !wasBalanced { breakPatterns; limit-- }': the ways meet
          go_upto_if 35 with fail
          go_cut [3] (fun s3 wc => ∃ (l1 : Nat) (d1 : Array Int), s3 = .int .i64 l1 ∧ l1 ≤ lim ∧ PermIn a' b' dk d1 ∧ SU w wc blk off d1)
          case first =>
            cases wb
            · have hc := breakPatterns_u blk off len cap a' b' dk (by omega) wr hh hbl hab' hb2 sz2
              clear hh
              go_wp2_with (go_at_call 139; refine hc.mono ?_; rintro e w1 ⟨rfl, hw1⟩; clear hc)
              go_meet
              case rel =>
                obtain ⟨d1, hp1, hs1⟩ := hw1
                exact ⟨lim - 1, d1, by congr 1; omega, by omega, hp1, HS.out.trans hs1 hp1.1⟩
            · clear hh
              go_wp2_with fail
              go_meet
              case rel => exact ⟨lim, dk, rfl, Nat.le_refl _, permIn_refl _ _ _, HS.out⟩
          case rest =>
            obtain ⟨l1, d1, rfl, hl1, hp1, hs1⟩ := hcut
            have z1 : d1.size = d.size := hp1.1.trans hds
            have hh1 := hs1.holds HH.out z1 hblk
            have hbl1 : blk < wc.heap.size := Nat.lt_of_lt_of_le hblk hs1.size
            have hc := choosePivot_u blk off len cap a' b' d1 (by omega) wc hh1 hbl1 h12n (by omega) (by omega)
            have HP1 := Lib.hid hp1; have HS1 := Lib.hid hs1
            clear hp1 hs1 hh hh1 hbl
            go_upto_if 50 with (go_at_call 140; refine hc.mono ?_; rintro e w2 ⟨p, hint, rfl, hpa, hpb, hhi, hw2⟩; clear hc)
            have hs2 := HS1.out.then hw2
            have hh2 := hs2.holds HH.out z1 hblk
            have HS2 := Lib.hid hs2
            clear hw2 hs2
            -- 'if hint == decreasingHint { .. }': the ways meet
            go_cut [11, 12] (fun s11 s12 wc => ∃ (p2 h2 : Nat) (d2 : Array Int), s11 = .int .i64 p2 ∧ s12 = .int .i64 h2 ∧ a' ≤ p2 ∧ p2 < b' ∧ PermIn a' b' dk d2 ∧ SU w wc blk off d2)
            case first =>
              by_cases hh3 : hint = 2
              · subst hh3
                have hc := reverseRange_u blk off len cap a' b' d1 (by omega) w2 hh2 h12n (by omega) (by omega)
                have HR := Lib.hid (reverseRange_holds d1 a' b' hab' (by omega))
                clear hh2
                go_wp2_with (go_at_call 141; refine hc.mono ?_; rintro e w3 ⟨rfl, hw3⟩; clear hc)
                go_meet
                case rel =>
                  obtain ⟨n3, rfl⟩ := hw3
                  exact ⟨b' - 1 - (p - a'), 1, _, by congr 1; omega, rfl, by omega, by omega, permIn_trans _ _ _ _ _ HP1.out HR.out, HS2.out.put _ HR.out.1 _⟩
              · have hh3z : ¬ ((hint : Int) = 2) := by omega
                clear hh2
                go_wp2_with fail
                go_meet
                case rel => exact ⟨p, hint, d1, rfl, rfl, hpa, hpb, HP1.out, HS2.out⟩
            case rest =>
              obtain ⟨p2, h2, d2, rfl, rfl, hpa2, hpb2, hp2, hs2⟩ := hcut
              have z2 : d2.size = d.size := hp2.1.trans hds
              have hh4 := hs2.holds HH.out z2 hblk
              have HP2 := Lib.hid hp2; have HS3 := Lib.hid hs2
              clear hp2 hs2 hh2
              go_upto_region 15 with fail
              go_cut [12, 68] (fun s12 s68 wx => s12 = .int .i64 h2 ∧ (∃ c : Bool, s68 = .bool c) ∧ wx = wc)
              case first =>
                by_cases h21 : h2 = 1
                · subst h21
                  cases wb <;> cases wp <;> (go_wp2_with fail; go_meet; exact ⟨rfl, ⟨_, rfl⟩, rfl⟩)
                · have h21z : ¬ ((h2 : Int) = 1) := by omega
                  cases wb <;> cases wp <;> (go_wp2_with fail; go_meet; exact ⟨rfl, ⟨_, rfl⟩, rfl⟩)
              case rest =>
                obtain ⟨rfl, ⟨c, rfl⟩, rfl⟩ := hcut
                -- 'if .. { if partialInsertionSort(..) { return } }': the ways meet, or it returns
                go_upto_if 68 with fail
                go_cut [] (fun wx => ∃ d3 : Array Int, PermIn a' b' dk d3 ∧ SU w wx blk off d3)
                case first =>
                  cases c
                  · clear hh4
                    go_wp2_with fail
                    go_meet
                    case rel => exact ⟨d2, HP2.out, HS3.out⟩
                  · have hpp := partialInsertionSort_holds swo_ltInt d2 a' b' h12n (by omega) (BE.out.perm hb2 HP2.out)
                    have hc := partialIns_u blk off len cap a' b' d2 (by omega) wc hh4 h12n (by omega) (by omega)
                    obtain ⟨pd, pb, hx⟩ : ∃ pd pb, partialInsertionSort ltInt d2 a' b' = (pd, pb) := ⟨_, _, rfl⟩
                    rw [hx] at hc hpp
                    have PP := Lib.hid hpp
                    clear hx hpp hh4
                    go_wp2_with (go_at_call 142; refine hc.mono ?_; rintro e w4 ⟨rfl, hw4⟩; clear hc)
                    all_goals first
                      | (go_meet
                         obtain ⟨n4, rfl⟩ := hw4
                         exact ⟨pd, permIn_trans _ _ _ _ _ HP2.out PP.out.1, HS3.out.put _ PP.out.1.1 _⟩)
                      | ((try simp only [Exit.inBlock, Exit.then]); refine bodyPost_ret (results_none rfl _ _ _) rfl ?_
                         obtain ⟨n4, rfl⟩ := hw4
                         exact ⟨rfl, pd, K.out _ (permIn_trans _ _ _ _ _ HP2.out PP.out.1) (PP.out.2 (by assumption)), HS3.out.put _ PP.out.1.1 _⟩)
                case rest =>
                  obtain ⟨d3, hp3, hs3⟩ := hcut
                  have z3 : d3.size = d.size := hp3.1.trans hds
                  have hh5 := hs3.holds HH.out z3 hblk
                  obtain ⟨G, hG, hcw, hfw⟩ := famU hh5 rfl (selfU hh5)
                  rw [z3] at hcw hfw
                  have HP3 := Lib.hid hp3; have HS4 := Lib.hid hs3; have HH5 := Lib.hid hh5; have HG := Lib.hid hG
                  clear hp3 hs3 hh4 hh5 hG
                  -- 'a > 0 && !cmp.Less(data[a-1], data[pivot])'
                  go_upto_region 17 with fail
                  go_cut [87] (fun s87 wx => ∃ c : Bool, s87 = .bool c ∧ (c = true → 0 < a' ∧ ltInt d3[a' - 1]! d3[p2]! = false) ∧ SU w wx blk off d3)
                  case first =>
                    rcases Nat.eq_zero_or_pos a' with ha0 | ha0
                    · have ha0z : decide ((a' : Int) > 0) = false := decide_eq_false (by omega)
                      go_big_quiet (first | (go_at_call 143; refine Calls.quiet_of_same (less_u _ _ _)))
                      go_wp2_with fail
                      go_meet
                      case rel => exact ⟨_, rfl, fun h => (nomatch h), HS4.out.draws _⟩
                    · have ha0z : (a' : Int) > 0 := by omega
                      go_big_quiet (first | (go_at_call 143; refine Calls.quiet_of_same (less_u _ _ _)))
                      go_wp2_with fail
                      go_meet
                      case rel => exact ⟨_, rfl, fun h => ⟨ha0, by rw [← HG.out, ← HG.out]; simpa using h⟩, HS4.out.draws _⟩
                  case rest =>
                    obtain ⟨c, rfl, hcn, hs4⟩ := hcut
                    have hh6 := hs4.holds HH.out z3 hblk
                    have B3 := BE.out.perm hb2 HP3.out
                    have HS5 := Lib.hid hs4; have CN := Lib.hid hcn
                    clear hcw hfw hs4 hcn
                    cases c
                    · obtain ⟨mid, ap, d4, hx⟩ : ∃ mid ap d4, partition ltInt d3 a' b' p2 = (mid, ap, d4) := ⟨_, _, _, rfl⟩
                      obtain ⟨r1, r2, r3, r4, r5, r6, r7⟩ := round_part swo_ltInt (partition_holds _) hpa2 hpb2 (by omega) B3 hx
                      have hc := partition_u blk off len cap a' b' p2 d3 (by omega) wc hh6 hpa2 hpb2 (by omega) (by omega)
                      rw [hx] at hc
                      have R4 := Lib.hid r4; have R5 := Lib.hid r5; have R6 := Lib.hid r6; have R7 := Lib.hid r7; have R3 := Lib.hid r3; have B4 := Lib.hid B3
                      clear hx hh6 r4 r5 r6 r7 r3 B3
                      go_upto_if 113 with (go_at_call 145; refine hc.mono ?_; rintro e w7 ⟨rfl, hw7⟩; clear hc)
                      have hs7 : SU w w7 blk off d4 := by obtain ⟨n7, rfl⟩ := hw7; exact HS5.out.put _ R3.out _
                      have z4 : d4.size = d.size := R3.out.trans z3
                      have hh7 := hs7.holds HH.out z4 hblk
                      have hbl7 : blk < w7.heap.size := Nat.lt_of_lt_of_le hblk hs7.size
                      have HS7 := Lib.hid hs7
                      clear hw7 hs7
                      by_cases h4 : mid - a' < b' - mid
                      · have h4z : (mid : Int) - (a' : Int) < (b' : Int) - (mid : Int) := by omega
                        have hc := IH.out blk off len cap a' mid l1 d4 (by omega) w7 (by omega) hh7 hbl7 (by omega) (by omega) (by omega) (by omega) R4.out
                        clear hh7
                        go_wp2_with (go_at_call 125; refine hc.mono ?_; rintro e w8 ⟨rfl, hw8⟩; clear hc)
                        go_roundg (b' - (mid + 1))
                        case measure => omega
                        case rel =>
                          obtain ⟨d5, ⟨pL, sL⟩, hs8⟩ := hw8
                          obtain ⟨BL, hfin⟩ := R6.out d5 pL sL
                          exact ⟨mid + 1, b', l1, _, ap, d5, by first | rfl | (congr 1 <;> omega), rfl, rfl, rfl, rfl, by omega, by omega, Nat.le_refl _, by omega, by omega, by rw [pL.1, z4], BL, HS7.out.trans hs8 pL.1,
                            fun R h1 h2 => K.out R (permIn_trans _ _ _ _ _ HP3.out (hfin R h1 h2).1) (hfin R h1 h2).2⟩
                      · have h4z : ¬ ((mid : Int) - (a' : Int) < (b' : Int) - (mid : Int)) := by omega
                        have hc := IH.out blk off len cap (mid + 1) b' l1 d4 (by omega) w7 (by omega) hh7 hbl7 (by omega) (by omega) (by omega) (by omega) R5.out
                        clear hh7
                        go_wp2_with (go_at_call 125; refine hc.mono ?_; rintro e w8 ⟨rfl, hw8⟩; clear hc)
                        go_roundg (mid - a')
                        case measure => omega
                        case rel =>
                          obtain ⟨d5, ⟨pL, sL⟩, hs8⟩ := hw8
                          obtain ⟨BL, hfin⟩ := R7.out d5 pL sL
                          exact ⟨a', mid, l1, _, ap, d5, rfl, rfl, rfl, rfl, rfl, by omega, by omega, Nat.le_refl _, by omega, by omega, by rw [pL.1, z4], BL, HS7.out.trans hs8 pL.1,
                            fun R h1 h2 => K.out R (permIn_trans _ _ _ _ _ HP3.out (hfin R h1 h2).1) (hfin R h1 h2).2⟩
                    · obtain ⟨mid, d4, hx⟩ : ∃ mid d4, partitionEqual ltInt d3 a' b' p2 = (mid, d4) := ⟨_, _, rfl⟩
                      obtain ⟨ha0, hnl⟩ := CN.out rfl
                      obtain ⟨r1, r2, r3, r4, r5⟩ := round_eq swo_ltInt (partitionEqual_holds _) ha0 hpa2 hpb2 (by omega) B3 hnl hx
                      have hc := partitionEqual_u blk off len cap a' b' p2 d3 (by omega) wc hh6 hpa2 hpb2 (by omega) (by omega)
                      rw [hx] at hc
                      have R4 := Lib.hid r4; have R5 := Lib.hid r5; have R3 := Lib.hid r3
                      clear hx hh6 r4 r5 r3 B3 hnl
                      go_wp2_with (go_at_call 144; refine hc.mono ?_; rintro e w7 ⟨rfl, hw7⟩; clear hc)
                      go_roundg (b' - mid)
                      case measure => omega
                      case rel =>
                        obtain ⟨n7, rfl⟩ := hw7
                        exact ⟨mid, b', l1, wb, wp, d4, rfl, rfl, rfl, rfl, rfl, r2, hb', Nat.le_refl _, by omega, by omega, by rw [R3.out]; exact z3, R4.out, HS5.out.put _ R3.out _,
                          fun R h1 h2 => K.out R (permIn_trans _ _ _ _ _ HP3.out (R5.out R h1 h2).1) (R5.out R h1 h2).2⟩
end Go.Proofs.Ytncgjbocgbnkcaa
namespace Go.Proofs.Ytncgjbocgbnkcaa
set_option linter.unusedVariables false
set_option linter.unusedSimpArgs false
open Go.RowKit Go.Sort Go.Proofs Go.Proofs.YtncgjbocgbnkcaaW.PrintWords
theorem sort_u (blk off len cap : Nat) (d : Array Int) (hlen : d.size = len) (w : World) (hH : Holds (Value.int .u64) w blk off d) (hblk : blk < w.heap.size) (hsz : d.size < 4611686018427387904) :
    Calls Try.prog 104 #[.slice (some ⟨blk, off, none⟩) len cap] w fun e w' =>
      e = .returned (.tuple #[]) ∧ ∃ d', (PermIn 0 len d d' ∧ SortedIn ltInt 0 len d') ∧ SU w w' blk off d' := by
  have C := Try.bits_Len len w (by omega) (by omega)
  rw [Int.toNat_natCast, bitLen_eq _ (by omega)] at C
  have hk : bitsLen len ≤ 62 := (bitsLen_le_iff len 62).2 (by omega)
  have wr : IntKind.u64.wrap (len : Int) = len := by rw [IntKind.wrap_u64]; omega
  have hc := fun lim (h : lim < 4611686018427387904) => pdqsort_u (len - 0 + 1) blk off len cap 0 len lim d hlen w (by omega) hH hblk (by omega) (by omega) (by omega) h (Or.inl rfl)
  have hc2 := hc (bitsLen len) (by omega)
  obtain ⟨B, hB⟩ : ∃ B, bitsLen len = B := ⟨_, rfl⟩
  rw [hB] at C hc2 hk
  have WR := Lib.hid wr
  clear hc hB wr hH
  go_enter Try.func104, Try.ntmps104
  go_wp2_with (first | (go_at_call 126; first | (refine C.mono ?_; rintro e w' ⟨rfl, rfl⟩; clear C) | (rw [WR.out]; refine C.mono ?_; rintro e w' ⟨rfl, rfl⟩; clear C)) | (go_at_call 125; refine hc2.mono ?_; rintro e w' ⟨rfl, hw⟩; clear hc2))
  go_end0
  exact ⟨rfl, hw⟩
end Go.Proofs.Ytncgjbocgbnkcaa
namespace Go.Proofs.Ytncgjbocgbnkcaa
set_option linter.unusedVariables false
set_option linter.unusedSimpArgs false
open Go.RowKit Go.Maps Go.Proofs.YtncgjbocgbnkcaaW.PrintWords Go.Proofs.Ytncgjbocgbnkcaa.Pure
abbrev KD := DataW Unit
def kone : KD := .lit (.int .i64 1)
theorem law41 : Keyed Try.prog 41 := int_keyed Try.underlying41
/-- The map has S for its keys, each with a one. -/
structure MapIs (D : KD) (S : List Int) : Prop where
  key : ∀ x, D.atKey (.int .u64 x) (.lit (.int .i64 0)) = .lit (.int .i64 (if x ∈ S then 1 else 0))
  has : ∀ x, Maps.has D (.int .u64 x) = decide (x ∈ S)
  size : Maps.size D = S.length
theorem MapIs.nil : MapIs (.map []) [] := ⟨fun x => rfl, fun x => rfl, rfl⟩
theorem MapIs.put {D : KD} {S S' : List Int} {x : Int} (h : MapIs D S) (ht : Tidy D) (hx : x ∉ S) (hm : ∀ y, y ∈ S' ↔ y = x ∨ y ∈ S) (hl : S'.length = S.length + 1) : MapIs (D.put (.int .u64 x) kone) S' := by
  refine ⟨fun y => ?_, fun y => ?_, ?_⟩
  · by_cases e : y = x
    · subst e
      rw [atKey_put_same (k := .int .u64 y) ht.isMap trivial, if_pos ((hm _).2 (.inl rfl))]; rfl
    · rw [atKey_put_other (by intro c; cases c; exact e rfl), h.key]
      by_cases hy : y ∈ S
      · rw [if_pos hy, if_pos ((hm _).2 (.inr hy))]
      · rw [if_neg hy, if_neg (fun c => by rcases (hm _).1 c with c | c <;> contradiction)]
  · by_cases e : y = x
    · subst e
      rw [has_put_same (k := .int .u64 y) ht.isMap trivial, decide_eq_true ((hm _).2 (.inl rfl))]
    · rw [has_put_other (by intro c; cases c; exact e rfl), h.has]
      exact decide_eq_decide.2 ⟨fun c => (hm _).2 (.inr c), fun c => ((hm _).1 c).resolve_left e⟩
  · rw [size_put ht, h.has, decide_eq_false hx, if_neg (by simp), h.size, hl]
theorem MapIs.del {D : KD} {S S' : List Int} {x : Int} (h : MapIs D S) (ht : Tidy D) (hx : x ∈ S) (hm : ∀ y, y ∈ S' ↔ y ∈ S ∧ y ≠ x) (hl : S.length = S'.length + 1) : MapIs (D.del (.int .u64 x)) S' := by
  refine ⟨fun y => ?_, fun y => ?_, ?_⟩
  · by_cases e : y = x
    · subst e
      rw [atKey_del_same, if_neg (fun c => ((hm _).1 c).2 rfl)]
    · rw [atKey_del_other (by intro c; cases c; exact e rfl), h.key]
      by_cases hy : y ∈ S
      · rw [if_pos hy, if_pos ((hm _).2 ⟨hy, e⟩)]
      · rw [if_neg hy, if_neg (fun c => hy ((hm _).1 c).1)]
  · by_cases e : y = x
    · subst e
      rw [has_del_same, decide_eq_false (fun c => ((hm _).1 c).2 rfl)]
    · rw [has_del_other (by intro c; cases c; exact e rfl), h.has]
      exact decide_eq_decide.2 ⟨fun c => (hm _).2 ⟨c, e⟩, fun c => ((hm _).1 c).1⟩
  · have := size_del (k := .int .u64 x) ht
    rw [h.has, decide_eq_true hx, if_pos rfl, h.size] at this
    omega
/-- The bound on the number of entries may be their number. -/
theorem ownsMap_tight {w : World} {b n : Nat} {D : KD} (h : w.ownsMap Try.prog 41 (plainElem Try.prog 3) b n D) : w.ownsMap Try.prog 41 (plainElem Try.prog 3) b (Maps.size D) D := by
  obtain ⟨es, clock, h1, h2, h3, h4⟩ := h
  refine ⟨es, clock, h1, h2, ?_, h4⟩
  rw [h4]
  simp [Maps.size, length_sorted]
/-- Block mb is the map of S. -/
def KMap (w : World) (mb : Nat) (S : List Int) : Prop := ∃ D : KD, w.ownsMap Try.prog 41 (plainElem Try.prog 3) mb S.length D ∧ MapIs D S
/-- What S must be: it rises, at most 1024 numbers of 64 bits. -/
def KGood (S : List Int) : Prop := Asc S ∧ S.length ≤ 1024 ∧ ∀ x ∈ S, 0 ≤ x ∧ x < 18446744073709551616
/-- Block kb is a Kmv of S with its map in block mb. -/
structure KM (w : World) (kb mb : Nat) (S : List Int) : Prop where
  ne : kb ≠ mb
  map : KMap w mb S
  good : KGood S
  cells : ∃ top : Int, w.heap[kb]? = some (.cells #[.map (some mb), .int .u64 top] 126 (0, 0)) ∧ (S.length = 1024 → top ∈ S ∧ ∀ x ∈ S, x ≤ top)
theorem KMap.block {w w' : World} {mb : Nat} {S : List Int} (h : KMap w mb S) (he : w'.heap[mb]? = w.heap[mb]?) : KMap w' mb S := by
  obtain ⟨D, ⟨es, clock, h1, h2⟩, h3⟩ := h
  exact ⟨D, ⟨es, clock, he.trans h1, h2⟩, h3⟩
theorem KMap.lt {w : World} {mb : Nat} {S : List Int} (h : KMap w mb S) : mb < w.heap.size := by
  obtain ⟨D, h1, _⟩ := h; exact h1.lt
theorem KM.block {w w' : World} {kb mb : Nat} {S : List Int} (h : KM w kb mb S) (h1 : w'.heap[kb]? = w.heap[kb]?) (h2 : w'.heap[mb]? = w.heap[mb]?) : KM w' kb mb S :=
  ⟨h.ne, h.map.block h2, h.good, by obtain ⟨t, e, r⟩ := h.cells; exact ⟨t, h1.trans e, r⟩⟩
theorem below_but {w w' : World} {B r : Nat} (h : w.grownBy w' (some r)) (hr : B ≤ r) (hB : B ≤ w.heap.size) : Below B w w' :=
  Below.grown (Below.refl B w) h hB (fun k e => by cases e; exact hr)
set_option maxHeartbeats 1000000 in
set_option maxRecDepth 100000 in
theorem greatest_u (kb mb : Nat) (top : Int) (S : List Int) (w : World) (hc : w.heap[kb]? = some (.cells #[.map (some mb), .int .u64 top] 126 (0, 0))) (hm : KMap w mb S) (hr : ∀ x ∈ S, 0 ≤ x ∧ x < 18446744073709551616) :
    Calls Try.prog 121 #[.pointer (some ⟨kb, 0, none⟩)] w fun e w' => ∃ m : Int, e = .returned (.int .u64 m) ∧ (∀ x ∈ S, x ≤ m) ∧ (m ∈ S ∨ m = 0) ∧ Below w.heap.size w w' := by
  obtain ⟨D, hown, hD⟩ := hm
  have hc0 := blk_cell hc 0
  have hk : ∀ x ∈ S, Maps.has D (.int .u64 x) = true := fun x hx => by rw [hD.has]; exact decide_eq_true hx
  have hk2 : ∀ x, Maps.has D (.int .u64 x) = true → x ∈ S := fun x hx => by rw [hD.has] at hx; exact of_decide_eq_true hx
  have HK := Lib.hid hk; have HK2 := Lib.hid hk2; have HR := Lib.hid hr
  clear hk hk2 hr hD
  go_enter Try.func121, Try.ntmps121
  go_wp2
  go_step3
  go_wp2
  go_step3
  go_wp2_with (first
    | (at_range; refine wpList_range_own _ rfl _ 124 rfl 41 3 law41 Try.underlying124 _ mb _ _ rfl hown ?_; intro w0 hrg0 hg0 hs0)
    | go_in)
  (try go_frame)
  go_loopw [3] (fun s3 wr => ∃ (left : Lit → Bool) (cnt : Nat) (m : Int), s3 = .int .u64 m ∧ wr.ranges Try.prog 41 (plainElem Try.prog 3) mb w.heap.size S.length D left cnt ∧ Below w.heap.size w wr ∧
      (∀ x ∈ S, left (.int .u64 x) = true ∨ x ≤ m) ∧ (∀ x, left (.int .u64 x) = true → x ∈ S) ∧ (m ∈ S ∨ m = 0))
    (fun _ wr => wr.rangeLeft mb w.heap.size)
  case atStart => exact ⟨_, _, 0, rfl, hrg0, Below.grown (Below.refl _ w) hg0 (Nat.le_refl _) (fun k e => by cases e), fun x hx => .inl (HK.out x hx), HK2.out, .inr rfl⟩
  case round =>
    obtain ⟨left, cnt, m, rfl, hrg, hb, hi1, hi2, hi3⟩ := hrel
    have I1 := Lib.hid hi1; have I2 := Lib.hid hi2; have I3 := Lib.hid hi3
    clear hi1 hi2 hi3
    go_wp2_with (first
      | (at_next; refine wpList_next_ranges_ii _ rfl _ rfl 41 3 .u64 .i64 law41 Try.underlying41 Try.underlying3 mb w.heap.size _ _ _ _ rfl hrg ?_ ?_)
      | go_in)
    · intro _ hl0
      go_wp2
      (try rw [Exit.noGoto_ret])
      go_ret
      exact ⟨m, rfl, fun x hx => (I1.out x hx).resolve_left (by rw [hl0]; simp), I3.out, hb⟩
    · intro x c w1 cnt1 hwx hwc hlx hat hrg1 hlt hg1 hs1 hen
      have hb1 : Below w.heap.size w w1 := hb.trans (below_but hg1 (Nat.le_refl _) hb.size)
      have hxS := I2.out x hlx
      have hx0 := (HR.out x hxS).1
      clear hat hwc hwx
      go_wp2
      · have hle : x ≤ m := by first | assumption | omega
        go_roundw
        case rel => exact ⟨_, cnt1, m, rfl, hrg1, hb1, fun y hy => (I1.out y hy).elim (fun h => if e : y = x then .inr (by omega) else .inl (by simp [h, Lit.sameKey]; exact fun c => e c)) .inr, fun y hy => I2.out y (by simp at hy; exact hy.1), I3.out⟩
        case measure => rw [hrg1.left_eq, hrg.left_eq]; omega
      · have hle : ¬ x ≤ m := by first | assumption | omega
        go_roundw
        case rel => exact ⟨_, cnt1, x, rfl, hrg1, hb1, fun y hy => (I1.out y hy).elim (fun h => if e : y = x then .inr (by omega) else .inl (by simp [h, Lit.sameKey]; exact fun c => e c)) (fun h => .inr (by omega)), fun y hy => I2.out y (by simp at hy; exact hy.1), .inl hxS⟩
        case measure => rw [hrg1.left_eq, hrg.left_eq]; omega
end Go.Proofs.Ytncgjbocgbnkcaa
namespace Go.Proofs.Ytncgjbocgbnkcaa
set_option linter.unusedVariables false
set_option linter.unusedSimpArgs false
open Go.RowKit Go.Sort Go.Proofs.YtncgjbocgbnkcaaW.PrintWords Go.Proofs.Ytncgjbocgbnkcaa.Pure
theorem insertionSort_nil (w : World) : Calls Try.prog 137 #[.slice none 0 0, .int .i64 0, .int .i64 0] w fun e w' => e = .returned (.tuple #[]) ∧ w' = w := by
  go_enter Try.func137, Try.ntmps137
  go_wp2
  go_loopw [6] (fun vi wr => vi = .int .i64 1 ∧ wr = w) (fun _ _ => 0)
  case atStart => exact ⟨rfl, rfl⟩
  case round =>
    obtain ⟨rfl, rfl⟩ := hrel
    go_wp2
    go_end0
    exact ⟨rfl, rfl⟩
theorem pdqsort_nil (w : World) (lim : Nat) : Calls Try.prog 125 #[.slice none 0 0, .int .i64 0, .int .i64 0, .int .i64 lim] w fun e w' => e = .returned (.tuple #[]) ∧ w' = w := by
  have C := insertionSort_nil w
  go_enter Try.func125, Try.ntmps125
  go_wp2
  go_loopw [1, 2] (fun va vb wr => va = .int .i64 0 ∧ vb = .int .i64 0 ∧ wr = w) (fun _ _ _ => 0)
  case atStart => exact ⟨rfl, rfl, rfl⟩
  case round =>
    obtain ⟨rfl, rfl, rfl⟩ := hrel
    go_wp2_with (go_at_call 137; refine C.mono ?_; rintro e w1 ⟨rfl, rfl⟩)
    (try simp only [Exit.inBlock, Exit.then]); refine bodyPost_ret (results_none rfl _ _ _) rfl ?_
    exact ⟨rfl, rfl⟩
theorem sort_nil (w : World) : Calls Try.prog 104 #[.slice none 0 0] w fun e w' => e = .returned (.tuple #[]) ∧ w' = w := by
  have C := Try.bits_Len 0 w (by omega) (by omega)
  have C2 := pdqsort_nil w (Lib.bitLen (Int.toNat 0))
  go_enter Try.func104, Try.ntmps104
  go_wp2_with (first | (go_at_call 126; refine C.mono ?_; rintro e w' ⟨rfl, rfl⟩; clear C) | (go_at_call 125; refine C2.mono ?_; rintro e w' ⟨rfl, rfl⟩; clear C2))
  go_end0
  exact ⟨rfl, rfl⟩
theorem sort_own {w : World} {base : Nat} {v : Value} {l : List Int} (ho : w.ownsRow base 41 1 v l.length (nums .u64 l)) (hl : l.length < 4611686018427387904) :
    Calls Try.prog 104 #[v] w fun e w' => e = .returned (.tuple #[]) ∧ ∃ l' : List Int, l'.Perm l ∧ l'.Pairwise (fun a b => a ≤ b) ∧ w'.ownsRow base 41 1 v l'.length (nums .u64 l') ∧ Below base w w' := by
  rcases ho.2 with ⟨rfl, h0⟩ | ⟨g, cap, cur, rfl, hbg, hg, hnc, hcm, hcs, htake⟩
  · have hn : l = [] := List.eq_nil_of_length_eq_zero h0
    subst hn
    exact (sort_nil w).mono fun e w' ⟨he, hw⟩ => ⟨he, [], List.Perm.refl _, List.Pairwise.nil, by rw [hw]; exact ho, by rw [hw]; exact Below.refl _ _⟩
  · have hH : Holds (Value.int .u64) w g 0 l.toArray := by
      intro j hj
      have hj' : j < l.length := by simpa using hj
      have hc : cur.toList[j]? = some (Value.int .u64 (l.toArray[j]!)) := by
        have e : (nums .u64 l)[j]? = some (Value.int .u64 (l.toArray[j]!)) := by
          unfold nums
          rw [List.getElem?_map, List.getElem?_eq_getElem hj']
          simp [getElem!_pos, hj']
        rw [← htake] at e
        rw [List.getElem?_take] at e
        split at e
        · exact e
        · cases e
      refine ⟨?_, ?_⟩
      · have := blk_cell hg (0 + j)
        rw [this]
        simpa using hc
      · exact blk_frozen hg (0 + j)
    refine (sort_u g 0 l.length cap l.toArray (by simp) w hH (by have := Array.getElem?_eq_some_iff.1 hg; exact this.1) (by simpa using hl)).mono ?_
    rintro e w' ⟨rfl, d', ⟨hp, hs⟩, hu⟩
    have e1 : d'.size = l.length := by rw [hp.1]; simp
    have hgs : g < w.heap.size := (Array.getElem?_eq_some_iff.1 hg).1
    have hw : w'.heap[g]? = some (.cells (putCells (Value.int .u64) 0 d' cur) 41 (0, 0)) := by
      rw [hu.block g hgs]
      unfold putRow mapBlock
      simp only [Array.getElem?_modify, if_true, hg, Option.map_some, onCells]
    refine ⟨rfl, d'.toList, ?_, ?_, ⟨?_, .inr ⟨g, cap, _, ?_, hbg, hw, ?_, hcm, ?_, ?_⟩⟩, ⟨hu.os, hu.tape, hu.output, hu.size, fun k hk => ?_⟩⟩
    · have := hp.2.2
      have e2 : List.take d'.size l = l := List.take_of_length_le (by omega)
      simpa [← e1, e2] using this
    · rw [List.pairwise_iff_getElem]
      intro i j hi hj hij
      have hj' : j < d'.size := by simpa using hj
      have := hs i j (Nat.zero_le _) hij (by omega)
      rw [getElem!_pos d' j hj', getElem!_pos d' i (by omega)] at this
      simp only [ltInt, decide_eq_false_iff_not, Array.getElem_toList] at this ⊢
      omega
    · simp [nums]
    · congr 1; simp [e1]
    · simpa [e1] using hnc
    · unfold putCells; simpa using hcs
    · unfold putCells nums
      apply List.ext_getElem?
      intro i
      rw [List.getElem?_take]
      by_cases hi : i < l.length
      · have hic : i < cur.size := by omega
        have hid : i < d'.size := by omega
        rw [if_pos (by simpa [e1] using hi)]
        simp [hic, hid, getElem!_pos d' i hid]
      · rw [if_neg (by simpa [e1] using hi), List.getElem?_eq_none (by simp [e1]; omega)]
    · rw [hu.block k (by omega)]
      exact putRow_heap _ _ _ _ _ (by omega)
end Go.Proofs.Ytncgjbocgbnkcaa
namespace Go.Proofs.Ytncgjbocgbnkcaa
set_option linter.unusedVariables false
set_option linter.unusedSimpArgs false
open Go.RowKit Go.Maps Go.Proofs.YtncgjbocgbnkcaaW.PrintWords Go.Proofs.Ytncgjbocgbnkcaa.Pure
theorem info41 : (Try.prog.info? 41).map (fun i => (i.zero, i.size, i.bytes)) = some (some (.int .u64 0), 1, 8) := by kernel_rfl
theorem asc_of_sorted {l : List Int} (h : l.Pairwise (fun a b => a ≤ b)) (hn : l.Nodup) : Asc l := by
  have := List.pairwise_and_iff.2 ⟨h, hn⟩
  exact this.imp (fun ⟨a, b⟩ => by have : _ ≠ _ := b; omega)
set_option maxHeartbeats 1000000 in
set_option maxRecDepth 100000 in
theorem hashes_u (kb mb : Nat) (S : List Int) (w : World) (h : KM w kb mb S) :
    Calls Try.prog 69 #[.pointer (some ⟨kb, 0, none⟩)] w fun e w' => ∃ v, e = .returned v ∧ w'.ownsRow w.heap.size 41 1 v S.length (nums .u64 S) ∧ Below w.heap.size w w' := by
  obtain ⟨_, ⟨D, hown, hD⟩, ⟨hA, hL, hr⟩, top, hc, _⟩ := h
  have hc0 := blk_cell hc 0
  have hk : ∀ x, Maps.has D (.int .u64 x) = true ↔ x ∈ S := fun x => by rw [hD.has]; exact decide_eq_true_iff
  have HK := Lib.hid hk; have HA := Lib.hid hA
  clear hk hD hA hr
  go_enter Try.func69, Try.ntmps69
  go_wp2_with (first
    | (at_range; refine wpList_range_own _ rfl _ 124 rfl 41 3 law41 Try.underlying124 _ mb _ _ rfl hown ?_; intro w0 hrg0 hg0 hs0)
    | go_in)
  go_frame
  go_loopw [3] (fun s3 wr => ∃ (left : Lit → Bool) (cnt : Nat) (l : List Int), wr.ranges Try.prog 41 (plainElem Try.prog 3) mb w.heap.size S.length D left cnt ∧ Below w.heap.size w wr ∧
      (Kd.int .u64).R 41 wr w.heap.size (fun k => k ≠ w.heap.size) s3 l ∧ l.Nodup ∧ (∀ x, left (.int .u64 x) = true → x ∈ S) ∧ (∀ x, x ∈ l ↔ x ∈ S ∧ left (.int .u64 x) = false))
    (fun _ wr => wr.rangeLeft mb w.heap.size)
  case atStart => exact ⟨_, _, [], hrg0, Below.grown (Below.refl _ w) hg0 (Nat.le_refl _) (fun k e => by cases e), Kd.R_nil _ _ _ _ _, List.nodup_nil, fun x hx => (HK.out x).1 hx, fun x => ⟨fun c => by simp at c, fun ⟨c1, c2⟩ => by rw [(HK.out x).2 c1] at c2; cases c2⟩⟩
  case round =>
    obtain ⟨left, cnt, l, hrg, hb, hl, hnd, hi1, hi2⟩ := hrel
    have I1 := Lib.hid hi1; have I2 := Lib.hid hi2; have ND := Lib.hid hnd
    clear hi1 hi2 hnd
    go_wp2_with (first
      | (at_next; refine wpList_next_ranges_ii _ rfl _ rfl 41 3 .u64 .i64 law41 Try.underlying41 Try.underlying3 mb w.heap.size _ _ _ _ rfl hrg ?_ ?_)
      | go_in)
    · intro _ hl0
      have hm : ∀ x, x ∈ l ↔ x ∈ S := fun x => by rw [I2.out x, hl0]; simp
      have hlen : l.length ≤ S.length := nodup_le ND.out (fun x hx => (hm x).1 hx)
      have C := sort_own (Kd.own_of_R hl) (by omega)
      have HM := Lib.hid hm; have HB := Lib.hid hb
      clear hm hl0 hl
      go_wp2_with (go_at_call 104; refine C.mono ?_; rintro e w1 ⟨rfl, l', hp, hs, ho, hb1⟩; clear C)
      go_ret
      have e : l' = S := asc_ext (asc_of_sorted hs (hp.nodup_iff.2 ND.out)) HA.out (fun x => by rw [hp.mem_iff, HM.out])
      exact ⟨_, rfl, by rw [← e]; exact ho, HB.out.trans hb1⟩
    · intro x c w1 cnt1 hwx hwc hlx hat hrg1 hlt hg1 hs1 hen
      have hb1 : Below w.heap.size w w1 := hb.trans (below_but hg1 (Nat.le_refl _) hb.size)
      have hl1 : (Kd.int .u64).R 41 w1 w.heap.size (fun k => k ≠ w.heap.size) u3 l := Kd.R_grown hl hg1 (fun k hk c => hk (by simpa using c))
      have hxS := I1.out x hlx
      have hxl : x ∉ l := fun c => by have := ((I2.out x).1 c).2; rw [hlx] at this; cases this
      have hll : l.length ≤ S.length := nodup_le ND.out (fun y hy => ((I2.out y).1 hy).1)
      have hrl := hrg1.lt
      have hmb := hown.lt
      have HX := Lib.hid hxl; have HXS := Lib.hid hxS; have HB := Lib.hid hb1; have HLX := Lib.hid hlx; have HRG := Lib.hid hrg1
      have HBS := Kd.R_base hl1; have HOK := hl1.1
      have HBS := Lib.hid HBS; have HOK := Lib.hid HOK
      clear hat hwc hwx hxl hb hb1 hl hlx hrg1 hxS hs1
      go_wp2_with ((with_reducible refine gate_builtin (b := .append) (xs := #[.tmp 17, .tmp 19]) rfl ?_); at_builtin; refine Kd.R_append (Kd.int .u64) (w0 := w) (W := w1) w.heap.size rfl (.tmp 17) (.tmp 19) 40 41 (.int .u64 0) 8 rfl Try.underlying40 info41 rfl (by decide) (by omega) u3 l x [.int .u64 x] (fun k => k ≠ w.heap.size) (fun _ => False) rfl rfl rfl (fun _ hk => hk.elim) (fun k hk => by omega) hl1 HB.out (by omega) (by omega) ?_; intro v2 w2 ho2 hb2 hg2 hat2)
      go_roundw
      case rel =>
        refine ⟨_, cnt1, l ++ [x], HRG.out.kept hg2 ?_ ?_, hb2, ho2, ?_, ?_, ?_⟩
        · intro c
          have := HBS.out mb c.symm
          omega
        · intro c
          exact HOK.out _ c.symm rfl
        · exact List.nodup_append.2 ⟨ND.out, by simp, fun a ha b hb c => by simp at hb; subst hb; subst c; exact HX.out ha⟩
        · intro y hy
          simp at hy
          exact I1.out y hy.1
        · intro y
          rw [List.mem_append, List.mem_singleton, I2.out y]
          by_cases e : y = x
          · subst e; simp [HXS.out, Lit.sameKey]
          · simp [e, Lit.sameKey]
      case measure => rw [(HRG.out.kept hg2 (fun c => by have := HBS.out mb c.symm; omega) (fun c => HOK.out _ c.symm rfl)).left_eq, hrg.left_eq]; omega
end Go.Proofs.Ytncgjbocgbnkcaa
namespace Go.Proofs.Ytncgjbocgbnkcaa
set_option linter.unusedVariables false
set_option linter.unusedSimpArgs false
open Go.RowKit Go.Maps Go.Proofs.YtncgjbocgbnkcaaW.PrintWords Go.Proofs.Ytncgjbocgbnkcaa.Pure
theorem kgood_nil : KGood [] := ⟨List.Pairwise.nil, by simp, fun x hx => by simp at hx⟩
theorem new_u (w : World) : Calls Try.prog 65 #[] w fun e w' => ∃ kb mb, e = .returned (.pointer (some ⟨kb, 0, none⟩)) ∧ KM w' kb mb [] ∧ w.heap.size ≤ kb ∧ w.heap.size ≤ mb ∧ Below w.heap.size w w' := by
  have h1 := World.ownsMap_made (H := Unit) w Try.prog 41 (plainElem Try.prog 3)
  have h2 := h1.alloc (.cells #[.map (some w.heap.size), .int .u64 0] 126)
  have b1 : Below w.heap.size w ((w.alloc (.map #[] 0)).alloc (.cells #[.map (some w.heap.size), .int .u64 0] 126)) :=
    ((Below.refl w.heap.size w).alloc (Nat.le_refl _) (.map #[] 0)).alloc (by simp) _
  have n1 := blk_new (w.alloc (.map #[] 0)) (Obj.cells #[.map (some w.heap.size), .int .u64 0] 126)
  have H2 := Lib.hid h2; have B1 := Lib.hid b1; have N1 := Lib.hid n1
  clear h1 h2 b1 n1
  have hmk : ∀ w, (Instr.makeMap 124 none).run Try.prog w = .ok (.map (some w.heap.size)) (w.alloc (.map #[] 0)) := fun w => run_makeMap 124 w
  go_enter Try.func65, Try.ntmps65
  go_wp2
  go_ret
  exact ⟨w.heap.size + 1, w.heap.size, by simp, ⟨by omega, ⟨_, H2.out, MapIs.nil⟩, kgood_nil, ⟨0, by simpa using N1.out, by simp⟩⟩, by omega, Nat.le_refl _, B1.out⟩
theorem khash_in {S : List Int} {h : Int} (hA : Asc S) (hl : S.length ≤ 1024) (hm : h ∈ S) : khash S h = S := by
  unfold khash; rw [kins_mem hA hm, List.take_of_length_le hl]
theorem kins_over {h : Int} : ∀ {S : List Int}, (∀ x ∈ S, x < h) → kins h S = S ++ [h] := by
  intro S
  induction S with
  | nil => intro _; rfl
  | cons x r ih =>
    intro hx
    have := hx x (by simp)
    rw [kins, if_neg (by omega), if_neg (by omega), ih (fun y hy => hx y (by simp [hy]))]; rfl
theorem khash_over {S : List Int} {h : Int} (hl : S.length = 1024) (hm : ∀ x ∈ S, x < h) : khash S h = S := by
  unfold khash; rw [kins_over hm, List.take_append_of_le_length (by omega), List.take_of_length_le (by omega)]
theorem khash_new {S : List Int} {h : Int} (hA : Asc S) (hl : S.length < 1024) (hm : h ∉ S) : khash S h = kins h S := by
  unfold khash; rw [List.take_of_length_le (by rw [kins_len hA hm]; omega)]
theorem mem_but_last {L : List Int} {n : Nat} {m : Int} (hA : Asc L) (hl : L.length = n + 1) (hm : m ∈ L) (hx : ∀ x ∈ L, x ≤ m) (y : Int) : y ∈ L.take n ↔ y ∈ L ∧ y ≠ m := by
  rcases List.eq_nil_or_concat L with rfl | ⟨K, z, rfl⟩
  · simp at hl
  · simp only [List.concat_eq_append, List.length_append, List.length_cons, List.length_nil] at *
    have hK : K.length = n := by omega
    have hz : ∀ a ∈ K, a < z := fun a ha => (List.pairwise_append.1 hA).2.2 a ha z (by simp)
    have e : z = m := by
      have h1 := hx z (by simp)
      rcases List.mem_append.1 hm with c | c
      · have := hz m c; omega
      · simp at c; exact c.symm
    rw [List.take_append_of_le_length (by omega), List.take_of_length_le (by omega), ← e]
    simp only [List.mem_append, List.mem_singleton]
    exact ⟨fun c => ⟨.inl c, fun c2 => by have := hz y c; omega⟩, fun ⟨c, c2⟩ => c.resolve_right c2⟩
theorem kgood_khash {S : List Int} (hg : KGood S) {h : Int} (h0 : 0 ≤ h ∧ h < 18446744073709551616) : KGood (khash S h) := by
  refine ⟨asc_khash hg.1 h, khash_len S h, fun x hx => ?_⟩
  rcases (mem_kins h S x).1 (List.mem_of_mem_take hx) with c | c
  · rw [c]; exact h0
  · exact hg.2.2 x c
/-- Only the two blocks of a Kmv have changed of those that stood. -/
def KF (w w' : World) (kb mb : Nat) : Prop := w'.os = w.os ∧ w'.tape = w.tape ∧ w'.output = w.output ∧ w.heap.size ≤ w'.heap.size ∧ ∀ i, i < w.heap.size → i ≠ kb → i ≠ mb → w'.heap[i]? = w.heap[i]?
theorem KF.refl (w : World) (kb mb : Nat) : KF w w kb mb := ⟨rfl, rfl, rfl, Nat.le_refl _, fun _ _ _ _ => rfl⟩
theorem KF.trans {a b c : World} {kb mb : Nat} (h : KF a b kb mb) (k : KF b c kb mb) : KF a c kb mb :=
  ⟨k.1.trans h.1, k.2.1.trans h.2.1, k.2.2.1.trans h.2.2.1, Nat.le_trans h.2.2.2.1 k.2.2.2.1, fun i hi h1 h2 => (k.2.2.2.2 i (Nat.lt_of_lt_of_le hi h.2.2.2.1) h1 h2).trans (h.2.2.2.2 i hi h1 h2)⟩
theorem KF.below {a b : World} {kb mb : Nat} (h : Below a.heap.size a b) : KF a b kb mb := ⟨h.os, h.tape, h.output, h.size, fun i hi _ _ => h.block i hi⟩
theorem KF.grown {a b : World} {kb mb : Nat} (h : a.grownBy b (some mb)) : KF a b kb mb := ⟨h.os, h.tape, h.output, h.size, fun i hi _ h2 => h.block i hi (by simpa using h2)⟩
theorem KF.set {a : World} {kb mb : Nat} (j : Nat) (v : Value) : KF a (a.setCell ⟨kb, j, none⟩ v) kb mb := ⟨rfl, rfl, rfl, by simp, fun i _ h1 _ => Below.heap_setCell a ⟨kb, j, none⟩ v i h1⟩
theorem KM.topped {w : World} {kb mb : Nat} {L : List Int} {t m : Int} (hne : kb ≠ mb) (hm : KMap w mb L) (hg : KGood L) (hc : w.heap[kb]? = some (.cells #[.map (some mb), .int .u64 t] 126 (0, 0))) (hin : m ∈ L) (hx : ∀ x ∈ L, x ≤ m) :
    KM (w.setCell ⟨kb, 1, none⟩ (.int .u64 m)) kb mb L :=
  ⟨hne, hm.block (Below.heap_setCell w ⟨kb, 1, none⟩ _ mb (Ne.symm hne)), hg, ⟨m, blk_set hc 1 (.int .u64 m), fun _ => ⟨hin, hx⟩⟩⟩
theorem greatest_in {L : List Int} {m : Int} (hg : KGood L) (hl : L.length = 1024) (hx : ∀ x ∈ L, x ≤ m) (hin : m ∈ L ∨ m = 0) : m ∈ L := by
  rcases hin with h | h
  · exact h
  · cases L with
    | nil => simp at hl
    | cons x r =>
      have h1 := hx x (by simp)
      have h2 := (hg.2.2 x (by simp)).1
      have : x = m := by omega
      rw [← this]; simp
set_option maxHeartbeats 2000000 in
set_option maxRecDepth 100000 in
theorem hash_u (kb mb : Nat) (S : List Int) (h : Int) (h0 : 0 ≤ h ∧ h < 18446744073709551616) (w : World) (hk : KM w kb mb S) :
    Calls Try.prog 101 #[.pointer (some ⟨kb, 0, none⟩), .int .u64 h] w fun e w' => e = .returned (.tuple #[]) ∧ KM w' kb mb (khash S h) ∧ KF w w' kb mb := by
  have hkm := hk
  obtain ⟨hne, ⟨D, hown, hD⟩, ⟨hA, hL, hr⟩, top, hc, htop⟩ := hk
  have wfh : (Lit.int .u64 h).wf = true := by
    have e1 : IntKind.u64.min = 0 := by decide
    have e2 : IntKind.u64.max = 18446744073709551615 := by decide
    simp only [Lit.wf, e1, e2, Bool.and_eq_true, decide_eq_true_eq]; omega
  have hc0 := blk_cell hc 0
  have hc1 := blk_cell hc 1
  obtain ⟨c, hlook, hat, hwc⟩ := hown.lookup_int law41 Try.underlying124 Try.underlying3 (by rfl) (keyOf_int_mk Try.underlying41 wfh)
  have hlen := fun ty => hown.len Try.underlying124 ty
  rw [hD.size] at hlen
  rw [hD.key] at hat
  by_cases hm : h ∈ S
  · rw [if_pos hm] at hat
    obtain rfl : c = 1 := by injection hat with e; injection e with _ e; exact e.symm
    have E := Lib.hid (khash_in hA hL hm)
    have KK := Lib.hid hkm
    clear hat hwc hA hL hr hm hD hown hkm htop
    go_enter Try.func101, Try.ntmps101
    go_wp2
    (try simp only [Exit.inBlock, Exit.then]); refine bodyPost_ret (results_none rfl _ _ _) rfl ?_
    exact ⟨rfl, by rw [E.out]; exact KK.out, KF.refl _ _ _⟩
  · rw [if_neg hm] at hat
    obtain rfl : c = 0 := by injection hat with e; injection e with _ e; exact e.symm
    clear hat hwc
    have hD1 := hD.put (hown.tidy law41) hm (mem_kins h S) (kins_len hA hm)
    have hkl := kins_len hA hm
    have hval : plainElem (H := Unit) Try.prog 3 (.int .i64 1) = some (kone, []) := plainElem_int Try.underlying3 (by decide)
    have hkb : kb < w.heap.size := (Array.getElem?_eq_some_iff.1 hc).1
    have hkey := keyOf_int_mk Try.underlying41 wfh
    by_cases h1024 : S.length = 1024
    · rw [h1024] at hlen
      obtain ⟨ht1, ht2⟩ := htop h1024
      by_cases hgt : top < h
      · have E := Lib.hid (khash_over (h := h) h1024 (fun x hx => by have := ht2 x hx; omega))
        have KK := Lib.hid hkm
        clear hA hL hr hm hD hown hkm htop hD1 ht2 h1024 hkl hval
        go_enter Try.func101, Try.ntmps101
        go_wp2
        (try simp only [Exit.inBlock, Exit.then]); refine bodyPost_ret (results_none rfl _ _ _) rfl ?_
        exact ⟨rfl, by rw [E.out]; exact KK.out, KF.refl _ _ _⟩
      · have hlt : h < top := by
          have : h ≠ top := fun c => hm (c ▸ ht1)
          omega
        have hle : ¬ top < h := hgt
        have hkl2 : (kins h S).length = 1025 := by omega
        have hin1 : top ∈ kins h S := (mem_kins h S top).2 (.inr ht1)
        have hmax : ∀ x ∈ kins h S, x ≤ top := fun x hx => by rcases (mem_kins h S x).1 hx with c | c; · omega
                                                              · exact ht2 x c
        have hmem := mem_but_last (asc_kins h hA) hkl2 hin1 hmax
        have hgd := kgood_khash hkm.good h0 (h := h)
        have hlk : (khash S h).length = 1024 := by unfold khash; rw [List.length_take]; omega
        have HGD := Lib.hid hgd; have HMEM := Lib.hid hmem; have HIN1 := Lib.hid hin1; have HLK := Lib.hid hlk
        have HD1 := Lib.hid hD1; have HSZ := Lib.hid (hD1.size.trans hkl2); have HL := Lib.hid h1024
        have hr2 := hr top ht1
        clear hA hL hr hm hD hkm htop hD1 hkl hkl2 hgd hmem hin1 hmax ht1 ht2 hlk h1024 hgt
        go_enter Try.func101, Try.ntmps101
        go_upto_if 41 with (first
          | (at_mapUpdate; refine wpList_mapUpdate_own _ rfl _ _ _ 124 rfl 41 3 law41 Try.underlying124 _ mb S.length D rfl hown (by have : maxLen = 9223372036854775807 := rfl; have := HL.out; omega) _ _ (.int .u64 h) rfl rfl hkey kone [] hval ?_; intro w1 hown1 hg1; have hc2 := (hg1.block kb hkb (by simp [hne])).trans hc; have hcc0 := blk_cell hc2 0; have hcc1 := blk_cell hc2 1; have hlen1 := fun ty => hown1.len Try.underlying124 ty; rw [HSZ.out, show ((1025 : Nat) : Int) = 1025 from rfl] at hlen1)
          | go_in)
        have HG1 := Lib.hid hg1
        have k1 := (Array.getElem?_eq_some_iff.1 hc2).1
        have ht1 := hown1.tidy law41
        have own2 := hown1.drew
        have hc3 : w1.drew.heap[kb]? = some (.cells #[.map (some mb), .int .u64 top] 126 (0, 0)) := hc2
        have kF : KF w1 w1.drew kb mb := KF.below (below_drew (Below.refl _ _))
        have TD := Lib.hid ht1
        clear hg1 ht1
        have hd41 : decide ((1024 : Int) < 1025) = true := by decide
        go_wp2
        refine wp_region_still_tail 8 (by kernel_rfl) (by kernel_rfl) ?_
        simp only [List.take_succ_cons, List.take_zero, List.drop_succ_cons, List.drop_zero]
        change wpStill _ _ w1.drew _ _ _
        obtain ⟨W2, hW2⟩ : ∃ W2, w1.drew = W2 := ⟨_, rfl⟩
        rw [hW2] at own2 hc3 kF ⊢
        have HW2 := Lib.hid hW2
        clear hW2 hcc0 hcc1 hlen1 hlen hc0 hc1 hlook hown hc hown1 hc2
        have hcc0 := blk_cell hc3 0; have hcc1 := blk_cell hc3 1
        repeat still_step
        refine wpStill_nil ?_
        change wpList _ _ _ _ _ w1.drew
        rw [HW2.out]
        have wft : (Lit.int .u64 top).wf = true := by
          have e1 : IntKind.u64.min = 0 := by decide
          have e2 : IntKind.u64.max = 18446744073709551615 := by decide
          simp only [Lit.wf, e1, e2, Bool.and_eq_true, decide_eq_true_eq]; omega
        have hkeyt := keyOf_int_mk Try.underlying41 wft
        have hD2 : MapIs _ (khash S h) := HD1.out.del TD.out HIN1.out HMEM.out (by have := HSZ.out; rw [HD1.out.size] at this; have := HLK.out; omega)
        have HD2 := Lib.hid hD2
        have kF2 := Lib.hid ((KF.grown (kb := kb) HG1.out).trans kF)
        have hkb2 := (Array.getElem?_eq_some_iff.1 hc3).1
        clear hD2 hcc0 hcc1 kF
        go_wp2_with (first
          | (at_delete; refine wpList_delete_own _ rfl _ _ 124 41 rfl 3 law41 Try.underlying124 _ mb _ _ rfl own2 (.int .u64 top) (.int .u64 top) rfl hkeyt ?_; intro w3 own3 turn3; have hg3 := turn3.grown; have hc4 := (hg3.block kb hkb2 (by simp [hne])).trans hc3; have hcc0 := blk_cell hc4 0; have hcc1 := blk_cell hc4 1; have hlen3 := fun ty => own3.len Try.underlying124 ty; rw [HD2.out.size, HLK.out, show ((1024 : Nat) : Int) = 1024 from rfl] at hlen3; have HG3 := Lib.hid hg3; clear turn3 hg3;
             have hmap3 : KMap w3 mb (khash S h) := ⟨_, by rw [← HD2.out.size]; exact ownsMap_tight own3, HD2.out⟩; have C := greatest_u kb mb top (khash S h) w3 hc4 hmap3 HGD.out.2.2; have HM3 := Lib.hid hmap3; have hmb3 := own3.lt; clear hmap3)
          | (go_at_call 121; refine C.mono ?_; rintro e w4 ⟨m, rfl, hx, hin, hb2⟩; clear C; have hkb1 := (Array.getElem?_eq_some_iff.1 hc4).1; have hc5 := (hb2.block kb hkb1).trans hc4; have hcd0 := blk_cell hc5 0; have hcd1 := blk_cell hc5 1; have hfd := blk_frozen hc5 1; have HIN := Lib.hid hin; have HX := Lib.hid hx; have HB2 := Lib.hid hb2; clear hin hx hb2)
          | go_in)
        go_end0
        exact ⟨rfl, KM.topped hne (HM3.out.block (HB2.out.block mb hmb3)) HGD.out hc5 (greatest_in HGD.out HLK.out HX.out HIN.out) HX.out, ((kF2.out.trans (KF.grown HG3.out)).trans (KF.below HB2.out)).trans (KF.set 1 _)⟩
    · have hlt : S.length < 1024 := by omega
      have hz1 : decide ((S.length : Int) = 1024) = false := decide_eq_false (by omega)
      have hz2 : decide ((1024 : Int) < ((kins h S).length : Int)) = false := decide_eq_false (by omega)
      have E := Lib.hid (khash_new hA hlt hm)
      have hgd := kgood_khash hkm.good h0 (h := h)
      rw [E.out] at hgd
      have HGD := Lib.hid hgd
      have HD1 := Lib.hid hD1; have HSZ := Lib.hid hD1.size
      clear hA hL hr hm hD hkm htop hD1 hkl hgd
      go_enter Try.func101, Try.ntmps101
      go_upto_if 41 with (first
        | (at_mapUpdate; refine wpList_mapUpdate_own _ rfl _ _ _ 124 rfl 41 3 law41 Try.underlying124 _ mb S.length D rfl hown (by have : maxLen = 9223372036854775807 := rfl; omega) _ _ (.int .u64 h) rfl rfl hkey kone [] hval ?_; intro w1 hown1 hg1; have hc2 := (hg1.block kb hkb (by simp [hne])).trans hc; have hcc0 := blk_cell hc2 0; have hcc1 := blk_cell hc2 1; have hlen1 := fun ty => hown1.len Try.underlying124 ty; rw [HSZ.out] at hlen1)
        | go_in)
      have hmap1 : KMap w1 mb (kins h S) := ⟨_, by rw [← HD1.out.size]; exact ownsMap_tight hown1, HD1.out⟩
      have HM1 := Lib.hid hmap1; have HG1 := Lib.hid hg1
      have hmb1 := hown1.lt
      by_cases hq : (kins h S).length = 1024
      · rw [hq, show ((1024 : Nat) : Int) = 1024 from rfl] at hlen1
        have C := greatest_u kb mb top (kins h S) w1 hc2 hmap1 HGD.out.2.2
        have HQ := Lib.hid hq
        clear hmap1 hg1 hq
        go_wp2_with (go_at_call 121; refine C.mono ?_; rintro e w2 ⟨m, rfl, hx, hin, hb2⟩; clear C; have hkb1 := (Array.getElem?_eq_some_iff.1 hc2).1; have hc3 := (hb2.block kb hkb1).trans hc2; have hcd0 := blk_cell hc3 0; have hcd1 := blk_cell hc3 1; have hfd := blk_frozen hc3 1; have HIN := Lib.hid hin; have HX := Lib.hid hx; have HB2 := Lib.hid hb2; clear hin hx hb2)
        go_end0
        exact ⟨rfl, by rw [E.out]; exact KM.topped hne (HM1.out.block (HB2.out.block mb hmb1)) HGD.out hc3 (greatest_in HGD.out HQ.out HX.out HIN.out) HX.out, ((KF.grown HG1.out).trans (KF.below HB2.out)).trans (KF.set 1 _)⟩
      · have hz3 : (((kins h S).length : Int) == 1024) = false := beq_eq_false_iff_ne.mpr (by omega)
        have HQ := Lib.hid hq
        clear hmap1 hg1 hq
        go_wp2
        go_end0
        exact ⟨rfl, by rw [E.out]; exact ⟨hne, HM1.out, HGD.out, ⟨top, hc2, fun c => absurd c HQ.out⟩⟩, KF.grown HG1.out⟩
end Go.Proofs.Ytncgjbocgbnkcaa
namespace Go.Proofs.Ytncgjbocgbnkcaa
set_option linter.unusedVariables false
set_option linter.unusedSimpArgs false
open Go.RowKit Go.Maps Go.Proofs.YtncgjbocgbnkcaaW.PrintWords Go.Proofs.Ytncgjbocgbnkcaa.Pure
/-- What Check tells. -/
def KOk (l : List Int) : Prop := Asc l ∧ l.length ≤ 1024
theorem rd_nat {l : List Int} {j : Nat} (h : j < l.length) : rd l (j : Int) = l[j] := by
  simp [rd, List.getD, List.getElem?_eq_getElem h]
theorem asc_steps {l : List Int} (h : ∀ j, 1 ≤ j → j < l.length → rd l ((j : Int) - 1) < rd l j) : Asc l := by
  have step : ∀ (d i : Nat), i + d + 1 < l.length → rd l (i : Int) < rd l ((i + d + 1 : Nat) : Int) := by
    intro d
    induction d with
    | zero => intro i hi; have := h (i + 1) (by omega) hi; rwa [show (((i + 1 : Nat) : Int) - 1) = (i : Int) by omega] at this
    | succ d ih =>
      intro i hi
      have h1 := ih i (by omega)
      have h2 := h (i + (d + 1) + 1) (by omega) hi
      rw [show (((i + (d + 1) + 1 : Nat) : Int) - 1) = ((i + d + 1 : Nat) : Int) by omega] at h2
      omega
  rw [show Asc l = l.Pairwise (· < ·) from rfl, List.pairwise_iff_getElem]
  intro i j hi hj hij
  have := step (j - i - 1) i (by omega)
  rw [show i + (j - i - 1) + 1 = j by omega, rd_nat hi, rd_nat hj] at this
  exact this
theorem asc_at {l : List Int} (h : Asc l) {i j : Nat} (hij : i < j) (hj : j < l.length) : rd l (i : Int) < rd l (j : Int) := by
  rw [rd_nat (show i < l.length by omega), rd_nat hj]
  exact List.pairwise_iff_getElem.1 h i j (by omega) hj hij
set_option maxHeartbeats 1000000 in
theorem check_u (A : Option Addr) (c : Nat) (l : List Int) (w : World) (h : Kd.C (Kd.int .u64) w A l.length l) (hL : l.length < 4611686018427387904) :
    Calls Try.prog 74 #[.slice A l.length c] w fun e w' => ∃ r, e = .returned (.bool r) ∧ (r = true ↔ KOk l) ∧ ∃ n, w' = w.drewN n := by
  have H := Lib.hid h
  clear h
  go_enter Try.func74, Try.ntmps74
  go_wp2
  go_loopw [3] (fun vi wr => ∃ i n : Nat, vi = .int .i64 i ∧ 1 ≤ i ∧ wr = w.drewN n ∧ (i ≤ l.length ∨ i = 1) ∧ ∀ j, 1 ≤ j → j < i → rd l ((j : Int) - 1) < rd l j) (fun vi _ => l.length + 1 - (intOf vi).toNat)
  case atStart => exact ⟨1, 0, rfl, Nat.le_refl _, rfl, .inr rfl, fun j h1 h2 => by omega⟩
  case round =>
    obtain ⟨i, n, rfl, hi1, hwr, hle, hI⟩ := hrel
    have II := Lib.hid hI; have HW := Lib.hid hwr
    clear hI hwr
    by_cases hil : i < l.length
    · by_cases hi2 : i ≤ 1024
      · obtain ⟨ad, rfl, hc1⟩ := Kd.at_int H.out (i : Int) (by omega) (by omega)
        obtain ⟨ad', e', hc2⟩ := Kd.at_int H.out ((i : Int) - 1) (by omega) (by omega)
        obtain rfl : ad = ad' := by injection e'
        rw [Int.toNat_natCast] at hc1
        rw [show ((i : Int) - 1).toNat = i - 1 by omega] at hc2
        have d1 : wr.cell? (ad.add i) = some (.int .u64 (rd l i)) := by rw [HW.out]; exact hc1
        have d2 : wr.cell? (ad.add (i - 1)) = some (.int .u64 (rd l ((i : Int) - 1))) := by rw [HW.out]; exact hc2
        have hd : decide ((i : Int) < (l.length : Int)) = true := decide_eq_true (by omega)
        have hd2 : decide ((i : Int) ≤ 1024) = true := decide_eq_true (by omega)
        obtain ⟨p, hp⟩ : ∃ p, rd l (i : Int) = p := ⟨_, rfl⟩
        obtain ⟨q, hq⟩ : ∃ q, rd l ((i : Int) - 1) = q := ⟨_, rfl⟩
        rw [hp] at d1; rw [hq] at d2
        have HP := Lib.hid hp; have HQ := Lib.hid hq
        clear hc1 hc2 e' hp hq
        go_wp2
        go_quiet (fail)
        by_cases hpq : p ≤ q
        · have hpd : decide (p ≤ q) = true := decide_eq_true hpq
          go_wp2
          go_ret
          exact ⟨false, rfl, ⟨fun c => (nomatch c), fun c => by
            have := asc_at c.1 (show i - 1 < i by omega) hil
            rw [show ((i - 1 : Nat) : Int) = (i : Int) - 1 by omega, HP.out, HQ.out] at this; omega⟩, _, by rw [HW.out]; exact World.drewN_drewN _ _ _⟩
        · have hpd : decide (p ≤ q) = false := decide_eq_false hpq
          go_wp2
          go_roundw
          case rel => exact ⟨i + 1, _, by go_num, by omega, by rw [HW.out]; exact World.drewN_drewN _ _ _, .inl (by omega), fun j h1 h2 => by
            rcases Nat.lt_or_ge j i with c | c
            · exact II.out j h1 c
            · obtain rfl : j = i := by omega
              rw [HP.out, HQ.out]; omega⟩
          case measure => simp [intOf]; omega
      · have hd : decide ((i : Int) < (l.length : Int)) = true := decide_eq_true (by omega)
        have hd2 : decide ((i : Int) ≤ 1024) = false := decide_eq_false (by omega)
        have hd3 : decide ((l.length : Int) ≤ 1024) = false := decide_eq_false (by omega)
        go_wp2
        go_ret
        exact ⟨false, by first | rfl | rw [hd3], ⟨fun c => (nomatch c), fun c => by have := c.2; omega⟩, n, HW.out⟩
    · have hd : decide ((i : Int) < (l.length : Int)) = false := decide_eq_false (by omega)
      go_wp2
      go_ret
      exact ⟨decide ((l.length : Int) ≤ 1024), rfl, ⟨fun c => ⟨asc_steps fun j h1 h2 => II.out j h1 (by omega), by have := of_decide_eq_true c; omega⟩, fun c => decide_eq_true (by have := c.2; omega)⟩, n, HW.out⟩
end Go.Proofs.Ytncgjbocgbnkcaa
namespace Go.Proofs.Ytncgjbocgbnkcaa
set_option linter.unusedVariables false
set_option linter.unusedSimpArgs false
open Go.RowKit Go.Maps Go.Proofs.YtncgjbocgbnkcaaW.PrintWords Go.Proofs.Ytncgjbocgbnkcaa.Pure
theorem cell_lt {w : World} {p : Addr} {v : Value} (h : w.cell? p = some v) : p.block < w.heap.size := by
  by_cases c : p.block < w.heap.size
  · exact c
  · have e : w.heap[p.block]? = none := Array.getElem?_eq_none (by omega)
    unfold World.cell? at h
    rw [e] at h
    cases h
theorem KM.drewN {w : World} {kb mb : Nat} {S : List Int} (h : KM w kb mb S) (n : Nat) : KM (w.drewN n) kb mb S := h.block rfl rfl
theorem KF.drewN (w : World) (kb mb n : Nat) : KF w (w.drewN n) kb mb := ⟨rfl, rfl, rfl, Nat.le_refl _, fun _ _ _ _ => rfl⟩
set_option maxHeartbeats 1000000 in
theorem merge_u (kb mb : Nat) (S : List Int) (A : Option Addr) (c : Nat) (l : List Int) (w : World) (hk : KM w kb mb S) (h : Kd.C (Kd.int .u64) w A l.length l) (hA : ∀ ad, A = some ad → 0 < l.length → ad.block ≠ kb ∧ ad.block ≠ mb)
    (hr : ∀ x ∈ l, 0 ≤ x ∧ x < 18446744073709551616) (hok : KOk l) :
    Calls Try.prog 87 #[.pointer (some ⟨kb, 0, none⟩), .slice A l.length c] w fun e w' => e = .returned (.int .i64 0) ∧ KM w' kb mb (kmany S l) ∧ KF w w' kb mb := by
  have hL := hok.2
  have C : Calls Try.prog 74 #[.slice A l.length c] w fun e w' => e = .returned (.bool true) ∧ ∃ n, w' = w.drewN n :=
    (check_u A c l w h (by omega)).mono fun e w' ⟨r, he, hr, hw⟩ => ⟨by cases r; exact absurd (hr.2 hok) (by simp); exact he, hw⟩
  have HK := Lib.hid hk; have H := Lib.hid h; have HA := Lib.hid hA; have HR := Lib.hid hr
  clear hk h hA hr hok
  go_enter Try.func87, Try.ntmps87
  go_wp2_with (go_at_call 74; refine C.mono ?_; rintro e w1 ⟨rfl, n, hw⟩; clear C; have HW := Lib.hid hw; clear hw)
  go_loopw [16] (fun vi wr => ∃ i : Nat, vi = .int .i64 i ∧ i ≤ l.length ∧ KM wr kb mb (kmany S (l.take i)) ∧ KF w wr kb mb) (fun vi _ => l.length - (intOf vi).toNat)
  case atStart => exact ⟨0, rfl, Nat.zero_le _, by rw [HW.out]; exact HK.out.drewN n, by rw [HW.out]; exact KF.drewN _ _ _ _⟩
  case round =>
    obtain ⟨i, rfl, hil, hK, hF⟩ := hrel
    have HF := Lib.hid hF
    clear hF
    by_cases hi : i < l.length
    · obtain ⟨ad, rfl, hc1⟩ := Kd.at_int H.out (i : Int) (by omega) (by omega)
      rw [Int.toNat_natCast, rd_nat hi] at hc1
      obtain ⟨a2, a3⟩ := HA.out ad rfl (by omega)
      have eb : (ad.add i).block = ad.block := by unfold Addr.add; split <;> rfl
      have a1 : ad.block < w.heap.size := by rw [← eb]; exact cell_lt hc1
      have d1 : wr.cell? (ad.add i) = some (.int .u64 l[i]) := by
        exact (show wr.cell? (ad.add i) = w.cell? (ad.add i) from World.cell?_of_block (HF.out.2.2.2.2 (ad.add i).block (by rw [eb]; exact a1) (by rw [eb]; exact a2) (by rw [eb]; exact a3))).trans hc1
      obtain ⟨x, hx⟩ : ∃ x, l[i] = x := ⟨_, rfl⟩
      have hx0 := HR.out l[i] (by simp)
      have ek : kmany S (l.take (i + 1)) = khash (kmany S (l.take i)) x := by rw [← hx, ← kmany_snoc, List.take_succ_eq_append_getElem hi]
      rw [hx] at d1 hx0
      have C := hash_u kb mb (kmany S (l.take i)) x hx0 wr hK
      have EK := Lib.hid ek
      have hd : decide ((i : Int) < (l.length : Int)) = true := decide_eq_true (by omega)
      clear eb hc1 hx ek a1 a2 a3 hK hx0
      go_wp2_with (go_at_call 101; refine C.mono ?_; rintro e w2 ⟨rfl, hK2, hF2⟩; clear C)
      go_roundw
      case rel => exact ⟨i + 1, by go_num, by omega, by rw [EK.out]; exact hK2, HF.out.trans hF2⟩
      case measure => simp [intOf]; omega
    · have hd : decide ((i : Int) < (l.length : Int)) = false := decide_eq_false (by omega)
      obtain rfl : i = l.length := by omega
      rw [List.take_length] at hK
      have HK2 := Lib.hid hK
      clear hK
      go_wp2
      go_ret
      exact ⟨rfl, HK2.out, HF.out⟩
end Go.Proofs.Ytncgjbocgbnkcaa
namespace Go.Proofs.Ytncgjbocgbnkcaa
set_option linter.unusedVariables false
set_option linter.unusedSimpArgs false
open Go.RowKit Go.Maps Go.Proofs.YtncgjbocgbnkcaaW.PrintWords Go.Proofs.YtncgjbocgbnkcaaW.PrintLast Go.Proofs.YtncgjbocgbnkcaaW.PrintMore Go.Proofs.Ytncgjbocgbnkcaa.Pure Go.Proofs.Ytncgjbocgbnkcaa.Q
theorem C_of_own {w : World} {base : Nat} {v : Value} {l : List Int} (h : w.ownsRow base 41 1 v l.length (nums .u64 l)) : ∃ A c, v = .slice A l.length c ∧ l.length ≤ c ∧ Kd.C (Kd.int .u64) w A l.length l := by
  have := Kd.R_reads (Kd.R_of_own (α := Int) (enc := Value.int .u64) (h1 := fun _ => rfl) (ok := fun _ => True) h (fun _ _ => trivial))
  exact this
theorem add_u (kb mb : Nat) (S : List Int) (s : ByteArray) (w : World) (hk : KM w kb mb S) (k : Nat) (r : Int) (hf : fnv_Of.f k s = some r) (hr : 0 ≤ r ∧ r < 18446744073709551616) :
    Calls Try.prog 66 #[.pointer (some ⟨kb, 0, none⟩), .string s] w fun e w' => e = .returned (.tuple #[]) ∧ KM w' kb mb (khash S r) ∧ KF w w' kb mb := by
  have C := fnv_Of.calls k s r w hf
  have HK := Lib.hid hk
  clear hk hf
  go_enter Try.func66, Try.ntmps66
  go_wp2_with (first
    | (go_at_call 102; refine C.mono ?_; rintro e w1 ⟨rfl, hd⟩; clear C; have hb := hd.below; have C2 := hash_u kb mb S r hr w1 (HK.out.block (hb.block kb (Array.getElem?_eq_some_iff.1 HK.out.cells.choose_spec.1).1) (hb.block mb HK.out.map.lt)); have HB := Lib.hid hb; clear hb hd)
    | (go_at_call 101; refine C2.mono ?_; rintro e w2 ⟨rfl, h2, hF⟩; clear C2))
  go_end0
  exact ⟨rfl, h2, (KF.below HB.out).trans hF⟩
end Go.Proofs.Ytncgjbocgbnkcaa
namespace Go.Proofs.Ytncgjbocgbnkcaa
set_option linter.unusedVariables false
set_option linter.unusedSimpArgs false
open Go.RowKit Go.Maps Go.Proofs.YtncgjbocgbnkcaaW.PrintWords Go.Proofs.YtncgjbocgbnkcaaW.PrintLast Go.Proofs.YtncgjbocgbnkcaaW.PrintMore Go.Proofs.Ytncgjbocgbnkcaa.Pure Go.Proofs.Ytncgjbocgbnkcaa.Q
theorem KF.belowOf {w0 w w' : World} {kb mb : Nat} (h : KF w w' kb mb) (hb : Below w0.heap.size w0 w) (h1 : w0.heap.size ≤ kb) (h2 : w0.heap.size ≤ mb) : Below w0.heap.size w0 w' :=
  ⟨h.1.trans hb.os, h.2.1.trans hb.tape, h.2.2.1.trans hb.output, Nat.le_trans hb.size h.2.2.2.1, fun i hi => (h.2.2.2.2 i (Nat.lt_of_lt_of_le hi hb.size) (by omega) (by omega)).trans (hb.block i hi)⟩
end Go.Proofs.Ytncgjbocgbnkcaa
namespace Go.Proofs.Ytncgjbocgbnkcaa
set_option linter.unusedVariables false
set_option linter.unusedSimpArgs false
open Go.RowKit Go.Maps Go.Proofs.YtncgjbocgbnkcaaW.PrintWords Go.Proofs.YtncgjbocgbnkcaaW.PrintLast Go.Proofs.YtncgjbocgbnkcaaW.PrintMore Go.Proofs.Ytncgjbocgbnkcaa.Pure Go.Proofs.Ytncgjbocgbnkcaa.Q
theorem fnv_round (s : ByteArray) (hs : s.size ≤ maxLen) : ∀ (n i : Nat) (x : Int), s.size - i = n → i ≤ s.size → 0 ≤ x ∧ x < 18446744073709551616 →
    ∃ r, fnv_More.l0 (n + 1) x s (s.size : Int) (i : Int) = some r ∧ varveref06_More.l0 (n + 1) x s (i : Int) = some r ∧ 0 ≤ r ∧ r < 18446744073709551616 := by
  have hM : maxLen = 9223372036854775807 := rfl
  intro n
  induction n with
  | zero =>
    intro i x h1 h2 hx
    refine ⟨x, ?_, ?_, hx⟩
    · rw [fnv_More.l0, if_neg (by omega)]
    · rw [varveref06_More.l0, if_neg (by omega)]
  | succ n ih =>
    intro i x h1 h2 hx
    obtain ⟨b, hb⟩ : ∃ b, Go.bits .xor .u64 x (IntKind.u64.wrap (bt s (i : Int))) = b := ⟨_, rfl⟩
    have hw : wrap64 ((i : Int) + 1) = ((i + 1 : Nat) : Int) := by unfold wrap64; omega
    obtain ⟨r, e1, e2, hr⟩ := ih (i + 1) (IntKind.u64.wrap (b * 1099511628211)) (by omega) (by omega) (by rw [IntKind.wrap_u64]; omega)
    refine ⟨r, ?_, ?_, hr⟩
    · rw [fnv_More.l0, if_pos (by omega), if_pos (by omega), if_pos (by omega), hb, hw]; exact e1
    · rw [varveref06_More.l0, if_pos (by omega), if_pos (by omega), hb, hw, ← e2]
      congr 1
      simp only [IntKind.wrap_u64]
      omega
end Go.Proofs.Ytncgjbocgbnkcaa
namespace Go.Proofs.Ytncgjbocgbnkcaa
set_option linter.unusedVariables false
set_option linter.unusedSimpArgs false
open Go.RowKit Go.Maps Go.Proofs.YtncgjbocgbnkcaaW.PrintWords Go.Proofs.YtncgjbocgbnkcaaW.PrintLast Go.Proofs.YtncgjbocgbnkcaaW.PrintMore Go.Proofs.Ytncgjbocgbnkcaa.Pure Go.Proofs.Ytncgjbocgbnkcaa.Q
instance (l : List Int) : Decidable (KOk l) := by unfold KOk; infer_instance
theorem refCheck_go (l : List Int) (hL : l.length ≤ 4611686018427387904) : ∀ (n i : Nat), l.length + 1 - i = n → 1 ≤ i → (∀ j, 1 ≤ j → j < i → j < l.length → rd l ((j : Int) - 1) < rd l j) →
    varveref08_Check.l0 (n + 1) l (i : Int) = some (decide (KOk l)) := by
  intro n
  induction n with
  | zero =>
    intro i h1 h2 h3
    rw [varveref08_Check.l0, if_neg (by omega)]
    congr 1
    refine decide_eq_decide.2 ⟨fun c => ⟨asc_steps fun j a b => h3 j a (by omega) b, by omega⟩, fun c => by have := c.2; omega⟩
  | succ n ih =>
    intro i h1 h2 h3
    by_cases hi : i < l.length
    · have w1 : wrap64 ((i : Int) - 1) = (i : Int) - 1 := by unfold wrap64; omega
      have w2 : wrap64 ((i : Int) + 1) = ((i + 1 : Nat) : Int) := by unfold wrap64; omega
      rw [varveref08_Check.l0, if_pos (by omega), if_pos (by omega), w1, if_pos (by omega), if_pos (by omega), w2]
      by_cases hp : rd l (i : Int) ≤ rd l ((i : Int) - 1)
      · rw [if_pos hp]
        congr 1
        refine (decide_eq_false fun c => ?_).symm
        have := asc_at c.1 (show i - 1 < i by omega) hi
        rw [show ((i - 1 : Nat) : Int) = (i : Int) - 1 by omega] at this
        omega
      · rw [if_neg hp]
        refine ih (i + 1) (by omega) (by omega) fun j a b c => ?_
        rcases Nat.lt_or_ge j i with d | d
        · exact h3 j a d c
        · obtain rfl : j = i := by omega
          omega
    · rw [varveref08_Check.l0, if_neg (by omega)]
      congr 1
      refine decide_eq_decide.2 ⟨fun c => ⟨asc_steps fun j a b => h3 j a (by omega) b, by omega⟩, fun c => by have := c.2; omega⟩
theorem refCheck_all (l : List Int) (hL : l.length ≤ 4611686018427387904) : varveref08_Check.f (l.length + 1) l = some (decide (KOk l)) := by
  unfold varveref08_Check.f
  exact refCheck_go l hL l.length 1 (by omega) (Nat.le_refl _) fun j a b _ => by omega
theorem kmvCheck_go (l : List Int) (hL : l.length ≤ 4611686018427387904) : ∀ (n i : Nat), l.length + 1 - i = n → 1 ≤ i → (∀ j, 1 ≤ j → j < i → j < l.length → rd l ((j : Int) - 1) < rd l j) →
    kmv_Check.l0 (2 * n + 2) l (i : Int) = some (decide (KOk l)) := by
  intro n
  induction n with
  | zero =>
    intro i h1 h2 h3
    rw [show 2 * 0 + 2 = 0 + 1 + 1 from rfl, kmv_Check.l0, if_neg (by omega), kmv_Check.j1, if_neg (by simp)]
    congr 1
    refine decide_eq_decide.2 ⟨fun c => ⟨asc_steps fun j a b => h3 j a (by omega) b, by omega⟩, fun c => by have := c.2; omega⟩
  | succ n ih =>
    intro i h1 h2 h3
    rw [show 2 * (n + 1) + 2 = (2 * n + 2) + 1 + 1 by omega, kmv_Check.l0]
    by_cases hi : i < l.length
    · rw [if_pos (by omega)]
      by_cases h4 : (i : Int) ≤ 1024
      · have w1 : wrap64 ((i : Int) - 1) = (i : Int) - 1 := by unfold wrap64; omega
        have w2 : wrap64 ((i : Int) + 1) = ((i + 1 : Nat) : Int) := by unfold wrap64; omega
        rw [decide_eq_true h4, kmv_Check.j1, if_pos rfl, if_pos (by omega), if_pos (by omega), w1, if_pos (by omega), if_pos (by omega), w2]
        by_cases hp : rd l (i : Int) ≤ rd l ((i : Int) - 1)
        · rw [if_pos hp]
          congr 1
          refine (decide_eq_false fun c => ?_).symm
          have := asc_at c.1 (show i - 1 < i by omega) hi
          rw [show ((i - 1 : Nat) : Int) = (i : Int) - 1 by omega] at this
          omega
        · rw [if_neg hp]
          refine ih (i + 1) (by omega) (by omega) fun j a b c => ?_
          rcases Nat.lt_or_ge j i with d | d
          · exact h3 j a d c
          · obtain rfl : j = i := by omega
            omega
      · rw [decide_eq_false h4, kmv_Check.j1, if_neg (by simp)]
        congr 1
        exact decide_eq_decide.2 ⟨fun c => by omega, fun c => by have := c.2; omega⟩
    · rw [if_neg (by omega), kmv_Check.j1, if_neg (by simp)]
      congr 1
      refine decide_eq_decide.2 ⟨fun c => ⟨asc_steps fun j a b => h3 j a (by omega) b, by omega⟩, fun c => by have := c.2; omega⟩
theorem kmvCheck_all (l : List Int) (hL : l.length ≤ 4611686018427387904) : kmv_Check.f (2 * l.length + 2) l = some (decide (KOk l)) := by
  unfold kmv_Check.f
  exact kmvCheck_go l hL l.length 1 (by omega) (Nat.le_refl _) fun j a b _ => by omega
end Go.Proofs.Ytncgjbocgbnkcaa
namespace Go.Proofs.Ytncgjbocgbnkcaa
set_option linter.unusedVariables false
set_option linter.unusedSimpArgs false
open Go.RowKit Go.Maps Go.Proofs.YtncgjbocgbnkcaaW.PrintWords Go.Proofs.YtncgjbocgbnkcaaW.PrintLast Go.Proofs.YtncgjbocgbnkcaaW.PrintMore Go.Proofs.Ytncgjbocgbnkcaa.Pure Go.Proofs.Ytncgjbocgbnkcaa.Q
/-- The Kmv's that the call made, by their blocks: unlike ones, and nothing that was there before has changed. -/
def KS (w0 W : World) (m : List (Nat × Nat × List Int)) : Prop :=
  (∀ p ∈ m, KM W p.1 p.2.1 p.2.2 ∧ w0.heap.size ≤ p.1 ∧ w0.heap.size ≤ p.2.1) ∧
  (∀ (i j : Nat) (p q : Nat × Nat × List Int), i ≠ j → m[i]? = some p → m[j]? = some q → p.1 ≠ q.1 ∧ p.1 ≠ q.2.1 ∧ p.2.1 ≠ q.1 ∧ p.2.1 ≠ q.2.1) ∧ Below w0.heap.size w0 W
theorem KM.lt {w : World} {kb mb : Nat} {S : List Int} (h : KM w kb mb S) : kb < w.heap.size ∧ mb < w.heap.size := by
  obtain ⟨t, e, _⟩ := h.cells
  exact ⟨(Array.getElem?_eq_some_iff.1 e).1, h.map.lt⟩
theorem KM.below {w w' : World} {kb mb : Nat} {S : List Int} (h : KM w kb mb S) (hb : Below w.heap.size w w') : KM w' kb mb S :=
  h.block (hb.block kb h.lt.1) (hb.block mb h.lt.2)
theorem KM.kf {w w' : World} {kb mb k m : Nat} {S : List Int} (h : KM w kb mb S) (hf : KF w w' k m) (h1 : kb ≠ k) (h2 : kb ≠ m) (h3 : mb ≠ k) (h4 : mb ≠ m) : KM w' kb mb S :=
  h.block (hf.2.2.2.2 kb h.lt.1 h1 h2) (hf.2.2.2.2 mb h.lt.2 h3 h4)
theorem KS.nil (w : World) : KS w w [] := ⟨fun p hp => by simp at hp, fun i j p q _ h => by simp at h, Below.refl _ _⟩
theorem KS.bel {w0 W : World} {m : List (Nat × Nat × List Int)} (h : KS w0 W m) : Below w0.heap.size w0 W := h.2.2
theorem KS.at_ {w0 W : World} {m : List (Nat × Nat × List Int)} (h : KS w0 W m) (i : Nat) {k b : Nat} {s : List Int} (hi : m[i]? = some (k, b, s)) : KM W k b s ∧ w0.heap.size ≤ k ∧ w0.heap.size ≤ b :=
  h.1 _ (List.mem_of_getElem? hi)
theorem KS.below {w0 W W' : World} {m : List (Nat × Nat × List Int)} (h : KS w0 W m) (hb : Below W.heap.size W W') : KS w0 W' m :=
  ⟨fun p hp => ⟨(h.1 p hp).1.below hb, (h.1 p hp).2⟩, h.2.1, h.2.2.trans (hb.mono h.2.2.size)⟩
theorem KS.drawn {w0 W W' : World} {m : List (Nat × Nat × List Int)} (h : KS w0 W m) (hb : Drawn0 W W') : KS w0 W' m := h.below hb.below
theorem KS.more {w0 W W' : World} {m : List (Nat × Nat × List Int)} (h : KS w0 W m) {k b : Nat} {s : List Int} (hb : Below W.heap.size W W') (hg : KM W' k b s) (hk : W.heap.size ≤ k) (hm : W.heap.size ≤ b) : KS w0 W' (m ++ [(k, b, s)]) := by
  have hB := h.below hb
  refine ⟨fun p hp => ?_, fun i j p q hij hp hq => ?_, hB.2.2⟩
  · rcases List.mem_append.1 hp with hp | hp
    · exact hB.1 p hp
    · rw [List.mem_singleton] at hp
      subst hp
      exact ⟨hg, Nat.le_trans h.2.2.size hk, Nat.le_trans h.2.2.size hm⟩
  · have old : ∀ (i : Nat) (p : Nat × Nat × List Int), (m ++ [(k, b, s)])[i]? = some p → (m[i]? = some p ∧ i < m.length) ∨ (i = m.length ∧ p = (k, b, s)) := fun i p hp => by
      rcases Nat.lt_or_ge i m.length with c | c
      · rw [List.getElem?_append_left c] at hp; exact .inl ⟨hp, c⟩
      · rw [List.getElem?_append_right c] at hp
        rcases Nat.lt_or_ge m.length i with d | d
        · rw [List.getElem?_eq_none (by simp; omega)] at hp; cases hp
        · obtain rfl : i = m.length := by omega
          rw [Nat.sub_self] at hp
          exact .inr ⟨rfl, (Option.some.inj hp).symm⟩
    rcases old i p hp with ⟨hp, hi⟩ | ⟨hi, rfl⟩ <;> rcases old j q hq with ⟨hq, hj⟩ | ⟨hj, rfl⟩
    · exact h.2.1 i j p q hij hp hq
    · have := (h.1 p (List.mem_of_getElem? hp)).1.lt
      simp only
      omega
    · have := (h.1 q (List.mem_of_getElem? hq)).1.lt
      simp only
      omega
    · omega
theorem KS.put {w0 W W' : World} {m : List (Nat × Nat × List Int)} (h : KS w0 W m) (i : Nat) {k b : Nat} {s s' : List Int} (hi : m[i]? = some (k, b, s)) (hk : KF W W' k b) (hg : KM W' k b s') : KS w0 W' (m.set i (k, b, s')) := by
  have hlt : i < m.length := (List.getElem?_eq_some_iff.1 hi).1
  have hb : Below w0.heap.size w0 W' := hk.belowOf h.bel (h.at_ i hi).2.1 (h.at_ i hi).2.2
  have old : ∀ (j : Nat) (p : Nat × Nat × List Int), (m.set i (k, b, s'))[j]? = some p → (i = j ∧ p = (k, b, s')) ∨ (i ≠ j ∧ m[j]? = some p) := fun j p hp => by
    rw [List.getElem?_set] at hp
    by_cases c : i = j
    · rw [if_pos c, if_pos (by omega)] at hp
      exact .inl ⟨c, (Option.some.inj hp).symm⟩
    · rw [if_neg c] at hp
      exact .inr ⟨c, hp⟩
  refine ⟨fun p hp => ?_, fun j l p q hjl hp hq => ?_, hb⟩
  · obtain ⟨j, hj⟩ := List.getElem?_of_mem hp
    rcases old j p hj with ⟨_, rfl⟩ | ⟨c, hj⟩
    · exact ⟨hg, (h.at_ i hi).2⟩
    · have hm := h.1 p (List.mem_of_getElem? hj)
      have := h.2.1 j i p _ (Ne.symm c) hj hi
      exact ⟨hm.1.kf hk this.1 this.2.1 this.2.2.1 this.2.2.2, hm.2⟩
  · rcases old j p hp with ⟨hj, rfl⟩ | ⟨cj, hp⟩ <;> rcases old l q hq with ⟨hl, rfl⟩ | ⟨cl, hq⟩
    · omega
    · exact h.2.1 i l (k, b, s) q cl hi hq
    · exact h.2.1 j i p (k, b, s) (Ne.symm cj) hp hi
    · exact h.2.1 j l p q hjl hp hq
theorem KS.new {w0 W : World} {m : List (Nat × Nat × List Int)} (h : KS w0 W m) :
    Calls Try.prog 65 #[] W fun e w' => ∃ k b, e = .returned (.pointer (some ⟨k, 0, none⟩)) ∧ KS w0 w' (m ++ [(k, b, [])]) ∧ Below W.heap.size W w' :=
  (new_u W).mono fun _ _ ⟨k, b, he, hk, l1, l2, hb⟩ => ⟨k, b, he, h.more hb hk l1 l2, hb⟩
theorem KS.hash {w0 W : World} {m : List (Nat × Nat × List Int)} (h : KS w0 W m) (i : Nat) {k b : Nat} {s : List Int} (hi : m[i]? = some (k, b, s)) {v : Int} (hv : 0 ≤ v ∧ v < 18446744073709551616) :
    Calls Try.prog 101 #[.pointer (some ⟨k, 0, none⟩), .int .u64 v] W fun e w' => e = .returned (.tuple #[]) ∧ KS w0 w' (m.set i (k, b, khash s v)) ∧ KF W w' k b :=
  (hash_u k b s v hv W (h.at_ i hi).1).mono fun _ _ ⟨he, hk, hf⟩ => ⟨he, h.put i hi hf hk, hf⟩
theorem KS.add {w0 W : World} {m : List (Nat × Nat × List Int)} (h : KS w0 W m) (i : Nat) {k b : Nat} {s : List Int} (hi : m[i]? = some (k, b, s)) {t : ByteArray} {n : Nat} {v : Int} (hf : fnv_Of.f n t = some v) (hv : 0 ≤ v ∧ v < 18446744073709551616) :
    Calls Try.prog 66 #[.pointer (some ⟨k, 0, none⟩), .string t] W fun e w' => e = .returned (.tuple #[]) ∧ KS w0 w' (m.set i (k, b, khash s v)) ∧ KF W w' k b :=
  (add_u k b s t W (h.at_ i hi).1 n v hf hv).mono fun _ _ ⟨he, hk, hf⟩ => ⟨he, h.put i hi hf hk, hf⟩
theorem KS.hashes {w0 W : World} {m : List (Nat × Nat × List Int)} (h : KS w0 W m) (i : Nat) {k b : Nat} {s : List Int} (hi : m[i]? = some (k, b, s)) :
    Calls Try.prog 69 #[.pointer (some ⟨k, 0, none⟩)] W fun e w' => ∃ A c, e = .returned (.slice A s.length c) ∧ s.length ≤ c ∧ Kd.C (Kd.int .u64) w' A s.length s ∧ w'.ownsRow W.heap.size 41 1 (.slice A s.length c) s.length (nums .u64 s) ∧ KS w0 w' m ∧ Below W.heap.size W w' :=
  (hashes_u k b s W (h.at_ i hi).1).mono fun _ _ ⟨v, he, ho, hb⟩ => by
    obtain ⟨A, c, rfl, hc, hC⟩ := C_of_own ho
    exact ⟨A, c, he, hc, hC, ho, h.below hb, hb⟩
/-- Merge of a list that neither block of this Kmv holds. -/
theorem KS.merge {w0 W : World} {m : List (Nat × Nat × List Int)} (h : KS w0 W m) (i : Nat) {k b : Nat} {s : List Int} (hi : m[i]? = some (k, b, s)) {A : Option Addr} {c : Nat} {l : List Int} (hC : Kd.C (Kd.int .u64) W A l.length l) (hA : ∀ ad, A = some ad → 0 < l.length → ad.block ≠ k ∧ ad.block ≠ b)
    (hr : ∀ x ∈ l, 0 ≤ x ∧ x < 18446744073709551616) (hok : KOk l) :
    Calls Try.prog 87 #[.pointer (some ⟨k, 0, none⟩), .slice A l.length c] W fun e w' => e = .returned (.int .i64 0) ∧ KS w0 w' (m.set i (k, b, kmany s l)) ∧ KF W w' k b :=
  (merge_u k b s A c l W (h.at_ i hi).1 hC hA hr hok).mono fun _ _ ⟨he, hk, hf⟩ => ⟨he, h.put i hi hf hk, hf⟩
theorem C_block {w : World} {A : Option Addr} {l : List Int} (h : Kd.C (Kd.int .u64) w A l.length l) : ∀ ad, A = some ad → 0 < l.length → ad.block < w.heap.size := fun ad e hl => by
  obtain ⟨ad', e', hc⟩ := Kd.at_int h (0 : Int) (by omega) (by omega)
  obtain rfl : ad = ad' := by rw [e] at e'; injection e'
  have := cell_lt hc
  have eb : (ad.add (0 : Int).toNat).block = ad.block := by unfold Addr.add; split <;> rfl
  rwa [eb] at this
/-- Merge of a list that came in. -/
theorem KS.mergeOld {w0 W : World} {m : List (Nat × Nat × List Int)} (h : KS w0 W m) (i : Nat) {k b : Nat} {s : List Int} (hi : m[i]? = some (k, b, s)) {A : Option Addr} {c : Nat} {l : List Int} (hC : Kd.C (Kd.int .u64) w0 A l.length l)
    (hr : ∀ x ∈ l, 0 ≤ x ∧ x < 18446744073709551616) (hok : KOk l) :
    Calls Try.prog 87 #[.pointer (some ⟨k, 0, none⟩), .slice A l.length c] W fun e w' => e = .returned (.int .i64 0) ∧ KS w0 w' (m.set i (k, b, kmany s l)) ∧ KF W w' k b :=
  h.merge i hi (Kd.C_below hC h.bel) (fun ad e hl => by have := C_block hC ad e hl; have := (h.at_ i hi).2; omega) hr hok
end Go.Proofs.Ytncgjbocgbnkcaa
namespace Go.Proofs.Ytncgjbocgbnkcaa
set_option linter.unusedVariables false
set_option linter.unusedSimpArgs false
open Go.RowKit Go.Maps Go.Proofs.YtncgjbocgbnkcaaW.PrintWords Go.Proofs.YtncgjbocgbnkcaaW.PrintLast Go.Proofs.YtncgjbocgbnkcaaW.PrintMore Go.Proofs.Ytncgjbocgbnkcaa.Pure Go.Proofs.Ytncgjbocgbnkcaa.Q
/-- How a list of numbers is read. -/
def Pure.WU (l : List Int) : Prop := l.length * 8 ≤ 140737488351232 ∧ l.length ≤ 9223372036854775807 ∧ ∀ x ∈ l, (Lit.int .u64 x).wf = true
theorem opens40 : Opens Try.prog 40 (Kd.slice 41 (Kd.int .u64)) Pure.WU := opens_slice Try.underlying40 (by kernel_rfl) (by kernel_rfl) (opens_int Try.underlying41)
theorem U_of {x : Int} (h : (Lit.int .u64 x).wf = true) : 0 ≤ x ∧ x < 18446744073709551616 := by
  have e1 : IntKind.u64.min = 0 := by decide
  have e2 : IntKind.u64.max = 18446744073709551615 := by decide
  simp only [Lit.wf, e1, e2, Bool.and_eq_true, decide_eq_true_eq] at h; omega
theorem Pure.WU.num {l : List Int} (h : Pure.WU l) : ∀ x ∈ l, 0 ≤ x ∧ x < 18446744073709551616 := fun x hx => U_of (h.2.2 x hx)
theorem Pure.WU.len {l : List Int} (h : Pure.WU l) : l.length ≤ 17592186043904 := by have := h.1; omega
theorem KGood.of {l : List Int} (h : Pure.WU l) (hk : KOk l) : KGood l := ⟨hk.1, hk.2, h.num⟩
end Go.Proofs.Ytncgjbocgbnkcaa
namespace Go.Proofs.Ytncgjbocgbnkcaa
set_option linter.unusedVariables false
set_option linter.unusedSimpArgs false
open Go.RowKit Go.Proofs.YtncgjbocgbnkcaaW.PrintWords Go.Proofs.YtncgjbocgbnkcaaW.PrintLast Go.Proofs.YtncgjbocgbnkcaaW.PrintMore
/-- No number: the bits of a float that is none. -/
def nanB (b : Int) : Bool := decide (9218868437227405312 < b % 9223372036854775808)
theorem order_self (n : Nat) : (FloatKind.f64.format.order n n != some .eq) = nanB (n : Int) := by
  have e1 : Ieee.double.signWeight = 9223372036854775808 := by decide
  have e2 : Ieee.double.infRung = 9218868437227405312 := by decide
  have e3 : Ieee.double.binade = 4503599627370496 := by decide
  have hF : FloatKind.f64.format = Ieee.double := rfl
  rw [hF]
  unfold Ieee.Format.order Ieee.Format.read nanB
  rw [e1, e2, e3]
  simp only
  generalize (n / 9223372036854775808 % 2 == 1) = s
  obtain ⟨r, hr⟩ : ∃ r, n % 9223372036854775808 = r := ⟨_, rfl⟩
  have hr' : (n : Int) % 9223372036854775808 = (r : Int) := by omega
  rw [hr, hr']
  by_cases a : r < 4503599627370496
  · rw [if_pos a, decide_eq_false (by omega)]
    simp [Ieee.Datum.order]
  · rw [if_neg a]
    by_cases b : r < 9218868437227405312
    · rw [if_pos b, decide_eq_false (by omega)]
      simp [Ieee.Datum.order]
    · rw [if_neg b]
      by_cases c : r = 9218868437227405312
      · rw [if_pos c, decide_eq_false (by omega)]
        simp [Ieee.Datum.order]
      · rw [if_neg c, decide_eq_true (by omega)]
        simp [Ieee.Datum.order]
theorem run_frombits (x : Int) (w : World) : (callFunc 124 #[.int .u64 x]).run Try.prog w = .ok (.value (.float .f64 x.toNat)) w := by
  rw [run_callFunc_extern Try.func124 (by kernel_rfl) (by kernel_rfl) (by kernel_rfl) (e := Go.Extern.MathFloatBits.float64frombits) (by kernel_rfl)]
  rfl
set_option maxHeartbeats 400000 in
theorem isnan_any (x : Nat) (w : World) : Calls Try.prog 123 #[.float .f64 x] w fun e w' => e = .returned (.bool (nanB (x : Int))) ∧ w = w' := by
  have ho := order_self x
  obtain ⟨r, hr⟩ : ∃ r, nanB (x : Int) = r := ⟨_, rfl⟩
  rw [hr] at ho ⊢
  clear hr
  go_enter Try.func123, Try.ntmps123
  go_wp2
  go_ret
  exact ⟨rfl, rfl⟩
set_option maxHeartbeats 400000 in
theorem none_any (b : Int) (w : World) (h0 : 0 ≤ b) : Calls Try.prog 103 #[.int .u64 b] w fun e w' => e = .returned (.bool (nanB b)) ∧ w = w' := by
  have C := fun w => isnan_any b.toNat w
  rw [show ((b.toNat : Nat) : Int) = b by omega] at C
  have hfb := fun w => run_frombits b w
  obtain ⟨r, hr⟩ : ∃ r, nanB b = r := ⟨_, rfl⟩
  obtain ⟨n, hn⟩ : ∃ n, b.toNat = n := ⟨_, rfl⟩
  rw [hr] at C ⊢
  rw [hn] at C hfb
  clear hr hn
  go_enter Try.func103, Try.ntmps103
  go_wp2_with (first | (go_at_call 123; refine (C _).mono ?_; rintro e w' ⟨rfl, rfl⟩) | simp only [hfb])
  go_ret
  exact ⟨rfl, rfl⟩
/-- The exponent's bits and the fraction's. -/
def expB (b : Int) : Int := b / 4503599627370496 % 2048
def fracB (b : Int) : Int := b % 4503599627370496
theorem and_mask (x k : Nat) (m : Nat) (hm : m + 1 = 2 ^ k) (hx : x < 18446744073709551616) (hm2 : m < 18446744073709551616) : bits .and .u64 (x : Int) (m : Int) = ((x % (m + 1) : Nat) : Int) := by
  have h := bits_and_u64_nat x m hx hm2
  have e : x &&& m = x % (m + 1) := by
    have := Nat.and_two_pow_sub_one_eq_mod x k
    rw [← hm, Nat.add_sub_cancel] at this
    exact this
  rw [e] at h
  exact h
theorem exp_bits (b : Int) (h0 : 0 ≤ b) (h1 : b < 18446744073709551616) : bits .and .u64 (b / 4503599627370496) 2047 = expB b := by
  obtain ⟨n, rfl⟩ : ∃ n : Nat, b = n := ⟨b.toNat, by omega⟩
  have := and_mask (n / 4503599627370496) 11 2047 (by decide) (by omega) (by decide)
  unfold expB
  rw [show (n : Int) / 4503599627370496 = ((n / 4503599627370496 : Nat) : Int) by omega]
  exact this
theorem frac_bits (b : Int) (h0 : 0 ≤ b) (h1 : b < 18446744073709551616) : bits .and .u64 b 4503599627370495 = fracB b := by
  obtain ⟨n, rfl⟩ : ∃ n : Nat, b = n := ⟨b.toNat, by omega⟩
  exact and_mask n 52 4503599627370495 (by decide) (by omega) (by decide)
theorem exp_range (b : Int) : 0 ≤ expB b ∧ expB b < 2048 := by unfold expB; omega
set_option maxHeartbeats 400000 in
theorem parts_any (b : Int) (w : World) (h0 : 0 ≤ b) (h1 : b < 18446744073709551616) : Calls Try.prog 147 #[.int .u64 b] w fun e w' => e = .returned (.tuple #[.int .i64 (expB b), .int .u64 (fracB b)]) ∧ w = w' := by
  have e1 := exp_bits b h0 h1
  have e2 := frac_bits b h0 h1
  have e3 := exp_range b
  obtain ⟨p, hp⟩ : ∃ p, expB b = p := ⟨_, rfl⟩
  obtain ⟨q, hq⟩ : ∃ q, fracB b = q := ⟨_, rfl⟩
  rw [hp] at e1 e3 ⊢
  rw [hq] at e2 ⊢
  clear hp hq
  obtain ⟨e3, e4⟩ := e3
  go_enter Try.func147, Try.ntmps147
  go_wp2
  go_ret2
  exact ⟨rfl, rfl⟩
/-- What a float is. -/
def kindB (b : Int) : Int := if nanB b then 4 else if expB b = 2047 then 3 else if 0 < expB b then 1 else if 0 < fracB b then 2 else 0
set_option maxHeartbeats 1000000 in
theorem kind_any (b : Int) (w : World) (h0 : 0 ≤ b) (h1 : b < 18446744073709551616) : Calls Try.prog 130 #[.int .u64 b] w fun e w' => e = .returned (.int .i64 (kindB b)) ∧ w = w' := by
  have C := fun w => isnan_any b.toNat w
  rw [show ((b.toNat : Nat) : Int) = b by omega] at C
  have hfb := fun w => run_frombits b w
  have P := fun w => parts_any b w h0 h1
  have e3 := exp_range b
  unfold kindB
  obtain ⟨r, hr⟩ : ∃ r, nanB b = r := ⟨_, rfl⟩
  obtain ⟨n, hn⟩ : ∃ n, b.toNat = n := ⟨_, rfl⟩
  obtain ⟨p, hp⟩ : ∃ p, expB b = p := ⟨_, rfl⟩
  obtain ⟨q, hq⟩ : ∃ q, fracB b = q := ⟨_, rfl⟩
  rw [hr] at C ⊢
  rw [hn] at C hfb
  rw [hp] at P e3 ⊢
  rw [hq] at P ⊢
  clear hr hn hp hq
  cases r
  · rw [if_neg (by simp)]
    by_cases k1 : p = 2047
    · subst k1
      rw [if_pos rfl]
      clear e3
      go_enter Try.func130, Try.ntmps130
      go_wp2_with (first | (go_at_call 147; refine (P _).mono ?_; rintro e w' ⟨rfl, rfl⟩) | (go_at_call 123; refine (C _).mono ?_; rintro e w' ⟨rfl, rfl⟩) | simp only [hfb])
      go_ret
      exact ⟨rfl, rfl⟩
    · rw [if_neg k1]
      have d1 : (p == 2047) = false := beq_eq_false_iff_ne.2 k1
      by_cases k2 : 0 < p
      · rw [if_pos k2]
        have d2 : decide (0 < p) = true := decide_eq_true k2
        clear e3 k1
        go_enter Try.func130, Try.ntmps130
        go_wp2_with (first | (go_at_call 147; refine (P _).mono ?_; rintro e w' ⟨rfl, rfl⟩) | (go_at_call 123; refine (C _).mono ?_; rintro e w' ⟨rfl, rfl⟩) | simp only [hfb])
        go_ret
        exact ⟨rfl, rfl⟩
      · rw [if_neg k2]
        have d2 : decide (0 < p) = false := decide_eq_false k2
        by_cases k3 : 0 < q
        · rw [if_pos k3]
          have d3 : decide (0 < q) = true := decide_eq_true k3
          clear e3 k1 k2
          go_enter Try.func130, Try.ntmps130
          go_wp2_with (first | (go_at_call 147; refine (P _).mono ?_; rintro e w' ⟨rfl, rfl⟩) | (go_at_call 123; refine (C _).mono ?_; rintro e w' ⟨rfl, rfl⟩) | simp only [hfb])
          go_ret
          exact ⟨rfl, rfl⟩
        · rw [if_neg k3]
          have d3 : decide (0 < q) = false := decide_eq_false k3
          clear e3 k1 k2 k3
          go_enter Try.func130, Try.ntmps130
          go_wp2_with (first | (go_at_call 147; refine (P _).mono ?_; rintro e w' ⟨rfl, rfl⟩) | (go_at_call 123; refine (C _).mono ?_; rintro e w' ⟨rfl, rfl⟩) | simp only [hfb])
          go_ret
          exact ⟨rfl, rfl⟩
  · rw [if_pos rfl]
    clear e3
    go_enter Try.func130, Try.ntmps130
    go_wp2_with (first | (go_at_call 147; refine (P _).mono ?_; rintro e w' ⟨rfl, rfl⟩) | (go_at_call 123; refine (C _).mono ?_; rintro e w' ⟨rfl, rfl⟩) | simp only [hfb])
    go_ret
    exact ⟨rfl, rfl⟩
end Go.Proofs.Ytncgjbocgbnkcaa
namespace Go.Proofs.Ytncgjbocgbnkcaa
set_option linter.unusedVariables false
set_option linter.unusedSimpArgs false
open Go.RowKit Go.Proofs.YtncgjbocgbnkcaaW.PrintWords Go.Proofs.YtncgjbocgbnkcaaW.PrintLast Go.Proofs.YtncgjbocgbnkcaaW.PrintMore
def keyB (b : Int) : Int := if 9223372036854775808 ≤ b then 18446744073709551615 - b else b + 9223372036854775808
theorem sign_bits (b : Int) (h0 : 0 ≤ b) (h1 : b < 18446744073709551616) : bits .and .u64 b 9223372036854775808 = if 9223372036854775808 ≤ b then 9223372036854775808 else 0 := by
  obtain ⟨n, rfl⟩ : ∃ n : Nat, b = n := ⟨b.toNat, by omega⟩
  have h := bits_and_u64_nat n 9223372036854775808 (by omega) (by decide)
  have e : n &&& 9223372036854775808 = if 9223372036854775808 ≤ n then 9223372036854775808 else 0 := by
    have hb : n.testBit 63 = decide (9223372036854775808 ≤ n) := by
      rw [Nat.testBit_eq_decide_div_mod_eq]
      exact decide_eq_decide.2 ⟨fun c => by omega, fun c => by omega⟩
    refine Nat.eq_of_testBit_eq fun i => ?_
    rw [Nat.testBit_and, show (9223372036854775808 : Nat) = 2 ^ 63 from rfl, Nat.testBit_two_pow]
    by_cases c : 9223372036854775808 ≤ n
    · rw [if_pos c, Nat.testBit_two_pow]
      by_cases d : 63 = i
      · subst d; rw [hb, decide_eq_true c]; rfl
      · rw [decide_eq_false d, Bool.and_false]
    · rw [if_neg c, Nat.zero_testBit]
      by_cases d : 63 = i
      · subst d; rw [hb, decide_eq_false c]; rfl
      · rw [decide_eq_false d, Bool.and_false]
  rw [e] at h
  refine (show bits .and .u64 (n : Int) 9223372036854775808 = _ from h).trans ?_
  by_cases c : 9223372036854775808 ≤ n
  · rw [if_pos c, if_pos (by omega)]; rfl
  · rw [if_neg c, if_neg (by omega)]; rfl
theorem not_bits (b : Int) (h0 : 0 ≤ b) (h1 : b < 18446744073709551616) : bits .xor .u64 IntKind.u64.max b = 18446744073709551615 - b := by
  obtain ⟨n, rfl⟩ : ∃ n : Nat, b = n := ⟨b.toNat, by omega⟩
  have h := bits_xor_u64_nat 18446744073709551615 n (by decide) (by omega)
  have e : 18446744073709551615 ^^^ n = 18446744073709551615 - n := by
    refine Nat.eq_of_testBit_eq fun i => ?_
    rw [Nat.testBit_xor, show (18446744073709551615 : Nat) = 2 ^ 64 - 1 from rfl, Nat.testBit_two_pow_sub_one, show 2 ^ 64 - 1 - n = 2 ^ 64 - (n + 1) by omega, Nat.testBit_two_pow_sub_succ (by omega)]
    by_cases d : i < 64
    · rw [decide_eq_true d]; simp
    · rw [decide_eq_false d, Nat.testBit_lt_two_pow (Nat.lt_of_lt_of_le (show n < 2 ^ 64 by omega) (Nat.pow_le_pow_right (by decide) (by omega)))]; rfl
  rw [e] at h
  refine (show bits .xor .u64 IntKind.u64.max (n : Int) = _ from h).trans ?_
  omega
theorem turn_bits (b : Int) (h0 : 0 ≤ b) (h1 : b < 9223372036854775808) : bits .xor .u64 b 9223372036854775808 = b + 9223372036854775808 := by
  obtain ⟨n, rfl⟩ : ∃ n : Nat, b = n := ⟨b.toNat, by omega⟩
  have h := bits_xor_u64_nat n 9223372036854775808 (by omega) (by decide)
  have e : n ^^^ 9223372036854775808 = 9223372036854775808 + n := by
    refine Nat.eq_of_testBit_eq fun i => ?_
    rw [Nat.testBit_xor, show (9223372036854775808 : Nat) = 2 ^ 63 from rfl, Nat.testBit_two_pow]
    rcases Nat.lt_trichotomy i 63 with d | d | d
    · rw [Nat.testBit_two_pow_add_gt d, decide_eq_false (by omega), Bool.xor_false]
    · subst d; rw [Nat.testBit_two_pow_add_eq, decide_eq_true rfl, Bool.xor_true]
    · have l1 : n < 2 ^ i := Nat.lt_of_lt_of_le (show n < 2 ^ 63 by omega) (Nat.pow_le_pow_right (by decide) (by omega))
      have l2 : 2 ^ 63 + n < 2 ^ i := Nat.lt_of_lt_of_le (show 2 ^ 63 + n < 2 ^ 64 by omega) (Nat.pow_le_pow_right (by decide) (by omega))
      rw [Nat.testBit_lt_two_pow l1, Nat.testBit_lt_two_pow l2, decide_eq_false (by omega)]; rfl
  rw [e] at h
  refine (show bits .xor .u64 (n : Int) 9223372036854775808 = _ from h).trans ?_
  omega
set_option maxHeartbeats 400000 in
theorem key_any (b : Int) (w : World) (h0 : 0 ≤ b) (h1 : b < 18446744073709551616) : Calls Try.prog 131 #[.int .u64 b] w fun e w' => e = .returned (.int .u64 (keyB b)) ∧ w = w' := by
  have e1 := sign_bits b h0 h1
  unfold keyB
  by_cases c : 9223372036854775808 ≤ b
  · rw [if_pos c] at e1 ⊢
    have e2 := Lib.hid (not_bits b h0 h1)
    clear c
    go_enter Try.func131, Try.ntmps131
    go_wp2
    go_ret
    exact ⟨congrArg (fun x => Ending.returned (Value.int .u64 x)) e2.out, rfl⟩
  · rw [if_neg c] at e1 ⊢
    have e2 := Lib.hid (turn_bits b h0 (by omega))
    go_enter Try.func131, Try.ntmps131
    go_wp2
    go_ret
    exact ⟨congrArg (fun x => Ending.returned (Value.int .u64 x)) e2.out, rfl⟩
end Go.Proofs.Ytncgjbocgbnkcaa
namespace Go.Proofs.Ytncgjbocgbnkcaa.Gb
open Go.RowKit Go.Proofs.YtncgjbocgbnkcaaW.PrintWords Go.Proofs.YtncgjbocgbnkcaaW.PrintLast Go.Proofs.YtncgjbocgbnkcaaW.PrintMore
attribute [local go_sem] max2_int min2_int max_two min_two max_three min_three max_four min_four   -- for this text's walks alone
set_option linter.unusedVariables false
set_option linter.unusedSimpArgs false
def errW : Option Int → Value
  | none => .nilIface
  | some c => .iface 0 (.int .i64 c)
theorem errW_none : errW none = .nilIface := rfl
theorem errW_some (c : Int) : errW (some c) = .iface 0 (.int .i64 c) := rfl
end Go.Proofs.Ytncgjbocgbnkcaa.Gb
namespace Go.Proofs.Ytncgjbocgbnkcaa.Gb
open Go.RowKit Go.Proofs.YtncgjbocgbnkcaaW.PrintWords Go.Proofs.YtncgjbocgbnkcaaW.PrintLast Go.Proofs.YtncgjbocgbnkcaaW.PrintMore
attribute [local go_sem] max2_int min2_int max_two min_two max_three min_three max_four min_four   -- for this text's walks alone
set_option linter.unusedVariables false
set_option linter.unusedSimpArgs false
def varveref02_exp.f (a0 : Int) : Option (Int) := some (wrap64 (Go.bits .and .u64 (a0 / 4503599627370496) 2047))
set_option maxHeartbeats 8000000 in
set_option maxRecDepth 100000 in
theorem varveref02_exp.calls (a0 : Int) (r : Int) (w : World) (h : varveref02_exp.f a0 = some r) :
    Calls Try.prog 128 #[.int .u64 a0] w fun e w' => e = .returned (.int .i64 r) ∧ Drawn0 w w' := by
  have H : (some (wrap64 (Go.bits .and .u64 (a0 / 4503599627370496) 2047))) = some r := h
  clear h
  obtain rfl := Option.some.inj H
  go_enter Try.func128, Try.ntmps128
  go_wp2
  go_ret
  exact ⟨by first | rfl | (simp; done) | (simp [*]; done), by repeat (first | exact Drawn0.refl _ | apply Drawn0.step)⟩
def varveref02_frac.f (a0 : Int) : Option (Int) := some (Go.bits .and .u64 a0 4503599627370495)
set_option maxHeartbeats 8000000 in
set_option maxRecDepth 100000 in
theorem varveref02_frac.calls (a0 : Int) (r : Int) (w : World) (h : varveref02_frac.f a0 = some r) :
    Calls Try.prog 129 #[.int .u64 a0] w fun e w' => e = .returned (.int .u64 r) ∧ Drawn0 w w' := by
  have H : (some (Go.bits .and .u64 a0 4503599627370495)) = some r := h
  clear h
  obtain rfl := Option.some.inj H
  go_enter Try.func129, Try.ntmps129
  go_wp2
  go_ret
  exact ⟨by first | rfl | (simp; done) | (simp [*]; done), by repeat (first | exact Drawn0.refl _ | apply Drawn0.step)⟩
def varveref02_Kind.j0 : Nat → Int → Bool → Option (Int)
  | 0, _, _ => none
  | k + 1, x0, x3 => if x3 = true then (some 4) else ((varveref02_exp.f x0).bind fun t103 => (if t103 = 2047 then (some 3) else ((varveref02_exp.f x0).bind fun t104 => (if t104 > 0 then (some 1) else ((varveref02_frac.f x0).bind fun t105 => (if t105 > 0 then (some 2) else (some 0)))))))
def varveref02_Kind.f (k : Nat) (a0 : Int) : Option (Int) := (varveref02_exp.f a0).bind fun t101 => (if t101 = 2047 then ((varveref02_frac.f a0).bind fun t102 => (varveref02_Kind.j0 k a0 (decide (t102 > 0)))) else (varveref02_Kind.j0 k a0 false))
theorem varveref02_Kind.mono_l : ∀ k, (∀ y0 y1, LeO (varveref02_Kind.j0 k y0 y1) (varveref02_Kind.j0 (k + 1) y0 y1))
  | 0 => fun _ _ r h => by simp [varveref02_Kind.j0] at h
  | k + 1 => by
    have ih0 := varveref02_Kind.mono_l k
    · intro y0 y1
      unfold varveref02_Kind.j0
      repeat' first
      | (with_reducible exact ih0 _ _)
      | (with_reducible exact LeO.refl _)
      | (with_reducible exact LeO.none _)
      | (with_reducible refine LeO.ite ?_ ?_)
      | (with_reducible refine LeO.bind ?_ (fun _ => ?_))
      | exact ih0 _ _
      | exact LeO.none _
      | refine LeO.ite ?_ ?_
      | refine LeO.bind ?_ (fun _ => ?_)
theorem varveref02_Kind.mono : ∀ a0 k, LeO (varveref02_Kind.f k a0) (varveref02_Kind.f (k + 1) a0) := by
  intro a0 k
  have ih0 := varveref02_Kind.mono_l k
  unfold varveref02_Kind.f
  repeat' first
      | (with_reducible exact ih0 _ _)
      | (with_reducible exact LeO.refl _)
      | (with_reducible exact LeO.none _)
      | (with_reducible refine LeO.ite ?_ ?_)
      | (with_reducible refine LeO.bind ?_ (fun _ => ?_))
      | exact ih0 _ _
      | exact LeO.none _
      | refine LeO.ite ?_ ?_
      | refine LeO.bind ?_ (fun _ => ?_)
set_option maxHeartbeats 8000000 in
set_option maxRecDepth 100000 in
theorem varveref02_Kind.calls (k : Nat) (a0 : Int) (r : Int) (w : World) (h : varveref02_Kind.f k a0 = some r) :
    Calls Try.prog 108 #[.int .u64 a0] w fun e w' => e = .returned (.int .i64 r) ∧ Drawn0 w w' := by
  have H : ((varveref02_exp.f a0).bind fun t101 => (if t101 = 2047 then ((varveref02_frac.f a0).bind fun t102 => (varveref02_Kind.j0 k a0 (decide (t102 > 0)))) else (varveref02_Kind.j0 k a0 false))) = some r := h
  clear h
  have HC2 := Aside0.mk H
  clear H
  go_enter Try.func108, Try.ntmps108
  go_upto_region 1 with (fail)
  go_cut [3] (fun v3 wc => ∃ (kq : Nat) (x3_1 : Bool), v3 = .bool x3_1 ∧ Aside0 (varveref02_Kind.j0 kq a0 x3_1 = some r) ∧ Aside0 (kq ≤ k) ∧ Drawn0 w wc)
  case first =>
    have H := HC2.out
    clear HC2
    replace H := Option.bind_eq_some_iff.mp H
    obtain ⟨t101, A30, H⟩ := H
    replace H : (if t101 = 2047 then ((varveref02_frac.f a0).bind fun t102 => (varveref02_Kind.j0 k a0 (decide (t102 > 0)))) else (varveref02_Kind.j0 k a0 false)) = some r := H
    have A3 := Aside0.mk A30
    clear A30
    by_cases c4 : t101 = 2047
    · rw [if_pos c4] at H
      have c4b0 : (t101 == 2047) = true := beq_iff_eq.mpr c4
      have c4b1 : (t101 != 2047) = false := bne_eq_false_iff_eq.mpr c4
      clear c4
      (first | rw [c4b0] | (simp only [i64_w, i32_w]; rw [c4b0]) | skip)
      replace H := Option.bind_eq_some_iff.mp H
      obtain ⟨t102, A50, H⟩ := H
      replace H : (varveref02_Kind.j0 k a0 (decide (t102 > 0))) = some r := H
      have A5 := Aside0.mk A50
      clear A50
      have H' := Aside0.mk H
      clear H
      go_wp2_with (first | ((with_reducible refine gate_callee (f := 128) rfl ?_); refine goesL_ (some 5) rfl rfl Try.func128 (by kernel_rfl) rfl #[.int .u64 a0] rfl (by (try simp only [List.map_toArray, List.map_cons, List.map_nil]); first | done | rfl | (simp only [List.length_drop, List.length_take]; rfl)) ?_; (with_reducible refine (varveref02_exp.calls a0 t101 _ A3.out).mono ?_); rintro e w' ⟨rfl, ⟨nd, rfl⟩⟩; refine ⟨_, rfl, ?_⟩) | (go_at_call 129; (with_reducible refine (varveref02_frac.calls a0 t102 _ A5.out).mono ?_); rintro e w' ⟨rfl, ⟨nd, rfl⟩⟩))
      go_meet
      case rel => exact ⟨_, (decide (t102 > 0)), (by first | rfl | (simp; done) | (simp [*]; done)), H', ⟨by first | omega | exact Nat.le_refl _⟩, by repeat (first | exact Drawn0.refl _ | apply Drawn0.step)⟩
    · rw [if_neg c4] at H
      have c4b0 : (t101 == 2047) = false := beq_eq_false_iff_ne.mpr c4
      have c4b1 : (t101 != 2047) = true := bne_iff_ne.mpr c4
      (first | rw [c4b0] | (simp only [i64_w, i32_w]; rw [c4b0]) | skip)
      have H' := Aside0.mk H
      clear H
      go_wp2_with (first | ((with_reducible refine gate_callee (f := 128) rfl ?_); refine goesL_ (some 5) rfl rfl Try.func128 (by kernel_rfl) rfl #[.int .u64 a0] rfl (by (try simp only [List.map_toArray, List.map_cons, List.map_nil]); first | done | rfl | (simp only [List.length_drop, List.length_take]; rfl)) ?_; (with_reducible refine (varveref02_exp.calls a0 t101 _ A3.out).mono ?_); rintro e w' ⟨rfl, ⟨nd, rfl⟩⟩; refine ⟨_, rfl, ?_⟩))
      go_meet
      case rel => exact ⟨_, (false), (by first | rfl | (simp; done) | (simp [*]; done)), H', ⟨by first | omega | exact Nat.le_refl _⟩, by repeat (first | exact Drawn0.refl _ | apply Drawn0.step)⟩
  case rest =>
    clear HC2
    try clear c1
    try clear p2
    try clear c4
    try clear c4b0
    try clear c4b1
    obtain ⟨kq, x3_1, rfl, HA, HJ1, ⟨mc1, rfl⟩⟩ := hcut
    cases kq with
    | zero => exact absurd HA.out (by simp [varveref02_Kind.j0])
    | succ kj1 =>
      have H := HA.out
      clear HA
      simp only [varveref02_Kind.j0] at H
      by_cases c6 : x3_1 = true
      · subst c6
        have H1 : (some 4) = some r := by rw [if_pos rfl] at H; exact H
        clear H
        have H := H1
        clear H1
        obtain rfl := Option.some.inj H
        go_wp2
        go_ret
        exact ⟨by first | rfl | (simp; done) | (simp [*]; done), by repeat (first | exact Drawn0.refl _ | apply Drawn0.step)⟩
      · replace c6 := Bool.eq_false_iff.mpr c6
        subst c6
        have H1 : ((varveref02_exp.f a0).bind fun t103 => (if t103 = 2047 then (some 3) else ((varveref02_exp.f a0).bind fun t104 => (if t104 > 0 then (some 1) else ((varveref02_frac.f a0).bind fun t105 => (if t105 > 0 then (some 2) else (some 0))))))) = some r := by rw [if_neg (show ¬ (false = true) by decide)] at H; exact H
        clear H
        have H := H1
        clear H1
        replace H := Option.bind_eq_some_iff.mp H
        obtain ⟨t103, A70, H⟩ := H
        replace H : (if t103 = 2047 then (some 3) else ((varveref02_exp.f a0).bind fun t104 => (if t104 > 0 then (some 1) else ((varveref02_frac.f a0).bind fun t105 => (if t105 > 0 then (some 2) else (some 0)))))) = some r := H
        have A7 := Aside0.mk A70
        clear A70
        by_cases c8 : t103 = 2047
        · rw [if_pos c8] at H
          have c8b0 : (t103 == 2047) = true := beq_iff_eq.mpr c8
          have c8b1 : (t103 != 2047) = false := bne_eq_false_iff_eq.mpr c8
          clear c8
          obtain rfl := Option.some.inj H
          go_wp2_with (first | ((with_reducible refine gate_callee (f := 128) rfl ?_); refine goesL_ (some 14) rfl rfl Try.func128 (by kernel_rfl) rfl #[.int .u64 a0] rfl (by (try simp only [List.map_toArray, List.map_cons, List.map_nil]); first | done | rfl | (simp only [List.length_drop, List.length_take]; rfl)) ?_; (with_reducible refine (varveref02_exp.calls a0 t103 _ A7.out).mono ?_); rintro e w' ⟨rfl, ⟨nd, rfl⟩⟩; refine ⟨_, rfl, ?_⟩))
          go_ret
          exact ⟨by first | rfl | (simp; done) | (simp [*]; done), by repeat (first | exact Drawn0.refl _ | apply Drawn0.step)⟩
        · rw [if_neg c8] at H
          have c8b0 : (t103 == 2047) = false := beq_eq_false_iff_ne.mpr c8
          have c8b1 : (t103 != 2047) = true := bne_iff_ne.mpr c8
          replace H := Option.bind_eq_some_iff.mp H
          obtain ⟨t104, A90, H⟩ := H
          replace H : (if t104 > 0 then (some 1) else ((varveref02_frac.f a0).bind fun t105 => (if t105 > 0 then (some 2) else (some 0)))) = some r := H
          have A9 := Aside0.mk A90
          clear A90
          by_cases c10 : t104 > 0
          · rw [if_pos c10] at H
            have c10b0 : decide (0 < t104) = true := decide_eq_true c10
            clear c10
            obtain rfl := Option.some.inj H
            go_wp2_with (first | ((with_reducible refine gate_callee (f := 128) rfl ?_); refine goesL_ (some 14) rfl rfl Try.func128 (by kernel_rfl) rfl #[.int .u64 a0] rfl (by (try simp only [List.map_toArray, List.map_cons, List.map_nil]); first | done | rfl | (simp only [List.length_drop, List.length_take]; rfl)) ?_; (with_reducible refine (varveref02_exp.calls a0 t103 _ A7.out).mono ?_); rintro e w' ⟨rfl, ⟨nd, rfl⟩⟩; refine ⟨_, rfl, ?_⟩) | ((with_reducible refine gate_callee (f := 128) rfl ?_); refine goesL_ (some 18) rfl rfl Try.func128 (by kernel_rfl) rfl #[.int .u64 a0] rfl (by (try simp only [List.map_toArray, List.map_cons, List.map_nil]); first | done | rfl | (simp only [List.length_drop, List.length_take]; rfl)) ?_; (with_reducible refine (varveref02_exp.calls a0 t104 _ A9.out).mono ?_); rintro e w' ⟨rfl, ⟨nd, rfl⟩⟩; refine ⟨_, rfl, ?_⟩))
            go_ret
            exact ⟨by first | rfl | (simp; done) | (simp [*]; done), by repeat (first | exact Drawn0.refl _ | apply Drawn0.step)⟩
          · rw [if_neg c10] at H
            have c10b0 : decide (0 < t104) = false := decide_eq_false c10
            clear c10
            replace H := Option.bind_eq_some_iff.mp H
            obtain ⟨t105, A110, H⟩ := H
            replace H : (if t105 > 0 then (some 2) else (some 0)) = some r := H
            have A11 := Aside0.mk A110
            clear A110
            by_cases c12 : t105 > 0
            · rw [if_pos c12] at H
              have c12b0 : decide (0 < t105) = true := decide_eq_true c12
              clear c12
              obtain rfl := Option.some.inj H
              go_wp2_with (first | ((with_reducible refine gate_callee (f := 128) rfl ?_); refine goesL_ (some 14) rfl rfl Try.func128 (by kernel_rfl) rfl #[.int .u64 a0] rfl (by (try simp only [List.map_toArray, List.map_cons, List.map_nil]); first | done | rfl | (simp only [List.length_drop, List.length_take]; rfl)) ?_; (with_reducible refine (varveref02_exp.calls a0 t103 _ A7.out).mono ?_); rintro e w' ⟨rfl, ⟨nd, rfl⟩⟩; refine ⟨_, rfl, ?_⟩) | ((with_reducible refine gate_callee (f := 128) rfl ?_); refine goesL_ (some 18) rfl rfl Try.func128 (by kernel_rfl) rfl #[.int .u64 a0] rfl (by (try simp only [List.map_toArray, List.map_cons, List.map_nil]); first | done | rfl | (simp only [List.length_drop, List.length_take]; rfl)) ?_; (with_reducible refine (varveref02_exp.calls a0 t104 _ A9.out).mono ?_); rintro e w' ⟨rfl, ⟨nd, rfl⟩⟩; refine ⟨_, rfl, ?_⟩) | ((with_reducible refine gate_callee (f := 129) rfl ?_); refine goesL_ (some 22) rfl rfl Try.func129 (by kernel_rfl) rfl #[.int .u64 a0] rfl (by (try simp only [List.map_toArray, List.map_cons, List.map_nil]); first | done | rfl | (simp only [List.length_drop, List.length_take]; rfl)) ?_; (with_reducible refine (varveref02_frac.calls a0 t105 _ A11.out).mono ?_); rintro e w' ⟨rfl, ⟨nd, rfl⟩⟩; refine ⟨_, rfl, ?_⟩))
              go_ret
              exact ⟨by first | rfl | (simp; done) | (simp [*]; done), by repeat (first | exact Drawn0.refl _ | apply Drawn0.step)⟩
            · rw [if_neg c12] at H
              have c12b0 : decide (0 < t105) = false := decide_eq_false c12
              clear c12
              obtain rfl := Option.some.inj H
              go_wp2_with (first | ((with_reducible refine gate_callee (f := 128) rfl ?_); refine goesL_ (some 14) rfl rfl Try.func128 (by kernel_rfl) rfl #[.int .u64 a0] rfl (by (try simp only [List.map_toArray, List.map_cons, List.map_nil]); first | done | rfl | (simp only [List.length_drop, List.length_take]; rfl)) ?_; (with_reducible refine (varveref02_exp.calls a0 t103 _ A7.out).mono ?_); rintro e w' ⟨rfl, ⟨nd, rfl⟩⟩; refine ⟨_, rfl, ?_⟩) | ((with_reducible refine gate_callee (f := 128) rfl ?_); refine goesL_ (some 18) rfl rfl Try.func128 (by kernel_rfl) rfl #[.int .u64 a0] rfl (by (try simp only [List.map_toArray, List.map_cons, List.map_nil]); first | done | rfl | (simp only [List.length_drop, List.length_take]; rfl)) ?_; (with_reducible refine (varveref02_exp.calls a0 t104 _ A9.out).mono ?_); rintro e w' ⟨rfl, ⟨nd, rfl⟩⟩; refine ⟨_, rfl, ?_⟩) | ((with_reducible refine gate_callee (f := 129) rfl ?_); refine goesL_ (some 22) rfl rfl Try.func129 (by kernel_rfl) rfl #[.int .u64 a0] rfl (by (try simp only [List.map_toArray, List.map_cons, List.map_nil]); first | done | rfl | (simp only [List.length_drop, List.length_take]; rfl)) ?_; (with_reducible refine (varveref02_frac.calls a0 t105 _ A11.out).mono ?_); rintro e w' ⟨rfl, ⟨nd, rfl⟩⟩; refine ⟨_, rfl, ?_⟩))
              go_ret
              exact ⟨by first | rfl | (simp; done) | (simp [*]; done), by repeat (first | exact Drawn0.refl _ | apply Drawn0.step)⟩
def varveref02_Key.f (a0 : Int) : Option (Int) := if (Go.bits .and .u64 a0 9223372036854775808) > 0 then (some (Go.bits .xor .u64 a0 18446744073709551615)) else (some (Go.bits .or .u64 a0 9223372036854775808))
set_option maxHeartbeats 8000000 in
set_option maxRecDepth 100000 in
theorem varveref02_Key.calls (a0 : Int) (r : Int) (w : World) (h : varveref02_Key.f a0 = some r) :
    Calls Try.prog 134 #[.int .u64 a0] w fun e w' => e = .returned (.int .u64 r) ∧ Drawn0 w w' := by
  have H : (if (Go.bits .and .u64 a0 9223372036854775808) > 0 then (some (Go.bits .xor .u64 a0 18446744073709551615)) else (some (Go.bits .or .u64 a0 9223372036854775808))) = some r := h
  clear h
  by_cases c2 : (Go.bits .and .u64 a0 9223372036854775808) > 0
  · rw [if_pos c2] at H
    have c2b0 : decide (0 < (Go.bits .and .u64 a0 9223372036854775808)) = true := decide_eq_true c2
    clear c2
    obtain rfl := Option.some.inj H
    go_enter Try.func134, Try.ntmps134
    go_wp2
    go_ret
    exact ⟨by first | rfl | (simp; done) | (simp [*]; done), by repeat (first | exact Drawn0.refl _ | apply Drawn0.step)⟩
  · rw [if_neg c2] at H
    have c2b0 : decide (0 < (Go.bits .and .u64 a0 9223372036854775808)) = false := decide_eq_false c2
    clear c2
    obtain rfl := Option.some.inj H
    go_enter Try.func134, Try.ntmps134
    go_wp2
    go_ret
    exact ⟨by first | rfl | (simp; done) | (simp [*]; done), by repeat (first | exact Drawn0.refl _ | apply Drawn0.step)⟩
def varveref02_Less.f (k : Nat) (a0 : Int) (a1 : Int) : Option (Bool) := (varveref02_Kind.f k a0).bind fun t106 => (if t106 = 4 then (some false) else ((varveref02_Kind.f k a1).bind fun t107 => (if t107 = 4 then (some false) else ((varveref02_Key.f a0).bind fun t108 => ((varveref02_Key.f a1).bind fun t109 => (some (decide (t108 < t109))))))))
theorem varveref02_Less.mono : ∀ a0 a1 k, LeO (varveref02_Less.f k a0 a1) (varveref02_Less.f (k + 1) a0 a1) := by
  intro a0 a1 k
  unfold varveref02_Less.f
  repeat' first
      | (with_reducible exact varveref02_Kind.mono _ _)
      | (with_reducible exact LeO.refl _)
      | (with_reducible exact LeO.none _)
      | (with_reducible refine LeO.ite ?_ ?_)
      | (with_reducible refine LeO.bind ?_ (fun _ => ?_))
      | exact varveref02_Kind.mono _ _
      | exact LeO.none _
      | refine LeO.ite ?_ ?_
      | refine LeO.bind ?_ (fun _ => ?_)
set_option maxHeartbeats 8000000 in
set_option maxRecDepth 100000 in
theorem varveref02_Less.calls (k : Nat) (a0 : Int) (a1 : Int) (r : Bool) (w : World) (h : varveref02_Less.f k a0 a1 = some r) :
    Calls Try.prog 113 #[.int .u64 a0, .int .u64 a1] w fun e w' => e = .returned (.bool r) ∧ Drawn0 w w' := by
  have H : ((varveref02_Kind.f k a0).bind fun t106 => (if t106 = 4 then (some false) else ((varveref02_Kind.f k a1).bind fun t107 => (if t107 = 4 then (some false) else ((varveref02_Key.f a0).bind fun t108 => ((varveref02_Key.f a1).bind fun t109 => (some (decide (t108 < t109))))))))) = some r := h
  clear h
  replace H := Option.bind_eq_some_iff.mp H
  obtain ⟨t106, A30, H⟩ := H
  replace H : (if t106 = 4 then (some false) else ((varveref02_Kind.f k a1).bind fun t107 => (if t107 = 4 then (some false) else ((varveref02_Key.f a0).bind fun t108 => ((varveref02_Key.f a1).bind fun t109 => (some (decide (t108 < t109)))))))) = some r := H
  have A3 := Aside0.mk A30
  clear A30
  by_cases c4 : t106 = 4
  · rw [if_pos c4] at H
    have c4b0 : (t106 == 4) = true := beq_iff_eq.mpr c4
    have c4b1 : (t106 != 4) = false := bne_eq_false_iff_eq.mpr c4
    clear c4
    obtain rfl := Option.some.inj H
    go_enter Try.func113, Try.ntmps113
    go_wp2_with (first | ((with_reducible refine gate_callee (f := 108) rfl ?_); refine goesL_ (some 6) rfl rfl Try.func108 (by kernel_rfl) rfl #[.int .u64 a0] rfl (by (try simp only [List.map_toArray, List.map_cons, List.map_nil]); first | done | rfl | (simp only [List.length_drop, List.length_take]; rfl)) ?_; (with_reducible refine (varveref02_Kind.calls k a0 t106 _ A3.out).mono ?_); rintro e w' ⟨rfl, ⟨nd, rfl⟩⟩; refine ⟨_, rfl, ?_⟩))
    go_ret
    exact ⟨by first | rfl | (simp; done) | (simp [*]; done), by repeat (first | exact Drawn0.refl _ | apply Drawn0.step)⟩
  · rw [if_neg c4] at H
    have c4b0 : (t106 == 4) = false := beq_eq_false_iff_ne.mpr c4
    have c4b1 : (t106 != 4) = true := bne_iff_ne.mpr c4
    replace H := Option.bind_eq_some_iff.mp H
    obtain ⟨t107, A50, H⟩ := H
    replace H : (if t107 = 4 then (some false) else ((varveref02_Key.f a0).bind fun t108 => ((varveref02_Key.f a1).bind fun t109 => (some (decide (t108 < t109)))))) = some r := H
    have A5 := Aside0.mk A50
    clear A50
    by_cases c6 : t107 = 4
    · rw [if_pos c6] at H
      have c6b0 : (t107 == 4) = true := beq_iff_eq.mpr c6
      have c6b1 : (t107 != 4) = false := bne_eq_false_iff_eq.mpr c6
      clear c6
      obtain rfl := Option.some.inj H
      go_enter Try.func113, Try.ntmps113
      go_wp2_with (first | ((with_reducible refine gate_callee (f := 108) rfl ?_); refine goesL_ (some 6) rfl rfl Try.func108 (by kernel_rfl) rfl #[.int .u64 a0] rfl (by (try simp only [List.map_toArray, List.map_cons, List.map_nil]); first | done | rfl | (simp only [List.length_drop, List.length_take]; rfl)) ?_; (with_reducible refine (varveref02_Kind.calls k a0 t106 _ A3.out).mono ?_); rintro e w' ⟨rfl, ⟨nd, rfl⟩⟩; refine ⟨_, rfl, ?_⟩) | (go_at_call 108; (with_reducible refine (varveref02_Kind.calls k a1 t107 _ A5.out).mono ?_); rintro e w' ⟨rfl, ⟨nd, rfl⟩⟩))
      go_ret
      exact ⟨by first | rfl | (simp; done) | (simp [*]; done), by repeat (first | exact Drawn0.refl _ | apply Drawn0.step)⟩
    · rw [if_neg c6] at H
      have c6b0 : (t107 == 4) = false := beq_eq_false_iff_ne.mpr c6
      have c6b1 : (t107 != 4) = true := bne_iff_ne.mpr c6
      replace H := Option.bind_eq_some_iff.mp H
      obtain ⟨t108, A70, H⟩ := H
      replace H : ((varveref02_Key.f a1).bind fun t109 => (some (decide (t108 < t109)))) = some r := H
      have A7 := Aside0.mk A70
      clear A70
      replace H := Option.bind_eq_some_iff.mp H
      obtain ⟨t109, A80, H⟩ := H
      replace H : (some (decide (t108 < t109))) = some r := H
      have A8 := Aside0.mk A80
      clear A80
      obtain rfl := Option.some.inj H
      go_enter Try.func113, Try.ntmps113
      go_wp2_with (first | ((with_reducible refine gate_callee (f := 108) rfl ?_); refine goesL_ (some 6) rfl rfl Try.func108 (by kernel_rfl) rfl #[.int .u64 a0] rfl (by (try simp only [List.map_toArray, List.map_cons, List.map_nil]); first | done | rfl | (simp only [List.length_drop, List.length_take]; rfl)) ?_; (with_reducible refine (varveref02_Kind.calls k a0 t106 _ A3.out).mono ?_); rintro e w' ⟨rfl, ⟨nd, rfl⟩⟩; refine ⟨_, rfl, ?_⟩) | (go_at_call 108; (with_reducible refine (varveref02_Kind.calls k a1 t107 _ A5.out).mono ?_); rintro e w' ⟨rfl, ⟨nd, rfl⟩⟩) | (go_at_call 134; (with_reducible refine (varveref02_Key.calls a0 t108 _ A7.out).mono ?_); rintro e w' ⟨rfl, ⟨nd, rfl⟩⟩) | (go_at_call 134; (with_reducible refine (varveref02_Key.calls a1 t109 _ A8.out).mono ?_); rintro e w' ⟨rfl, ⟨nd, rfl⟩⟩))
      go_ret
      exact ⟨by first | rfl | (simp; done) | (simp [*]; done), by repeat (first | exact Drawn0.refl _ | apply Drawn0.step)⟩
/-- THE ONE PURE STATEMENT of varveref02_Less: yours. -/
def varveref02_Less.Pure : Prop := ∀ (a0 : Int) (a1 : Int), (Lit.int .u64 a0).wf = true → (Lit.int .u64 a1).wf = true → ∃ k, varveref02_Less.f k a0 a1 = some true
theorem varveref02_Less.walk (P : varveref02_Less.Pure) (a0 : Int) (a1 : Int) (w : World) (w0 : (Lit.int .u64 a0).wf = true) (w1 : (Lit.int .u64 a1).wf = true) :
    Calls Try.prog 113 #[.int .u64 a0, .int .u64 a1] w fun e w' => e = .returned (.bool true) ∧ Below w.heap.size w w' := by
  obtain ⟨k, h⟩ := P a0 a1 w0 w1
  refine (varveref02_Less.calls k a0 a1 true w h).mono ?_
  rintro e w' ⟨rfl, hd⟩
  exact ⟨rfl, hd.below⟩
def flo_parts.f (a0 : Int) : Option (Int × Int) := some (wrap64 (Go.bits .and .u64 (a0 / 4503599627370496) 2047), Go.bits .and .u64 a0 4503599627370495)
def flo_Kind.f (a0 : Int) : Option (Int) := if 0 ≤ a0 ∧ a0 < 18446744073709551616 then some (kindB a0) else none
theorem flo_Kind.calls (a0 : Int) (r : Int) (w : World) (h : flo_Kind.f a0 = some r) :
    Calls Try.prog 130 #[.int .u64 a0] w fun e w' => e = .returned (.int .i64 r) ∧ Drawn0 w w' := by
  unfold flo_Kind.f at h
  split at h
  case isTrue hr =>
    obtain rfl := Option.some.inj h
    exact (kind_any a0 w hr.1 hr.2).mono fun _ _ ⟨he, hw⟩ => ⟨he, by rw [← hw]; exact Drawn0.refl w⟩
  case isFalse => cases h
def flo_Key.f (a0 : Int) : Option (Int) := if 0 ≤ a0 ∧ a0 < 18446744073709551616 then some (keyB a0) else none
theorem flo_Key.calls (a0 : Int) (r : Int) (w : World) (h : flo_Key.f a0 = some r) :
    Calls Try.prog 131 #[.int .u64 a0] w fun e w' => e = .returned (.int .u64 r) ∧ Drawn0 w w' := by
  unfold flo_Key.f at h
  split at h
  case isTrue hr =>
    obtain rfl := Option.some.inj h
    exact (key_any a0 w hr.1 hr.2).mono fun _ _ ⟨he, hw⟩ => ⟨he, by rw [← hw]; exact Drawn0.refl w⟩
  case isFalse => cases h
def flo_Less.f (a0 : Int) (a1 : Int) : Option (Bool) := (flo_Kind.f a0).bind fun t110 => (if t110 = 4 then (some false) else ((flo_Kind.f a1).bind fun t111 => (if t111 = 4 then (some false) else ((flo_Key.f a0).bind fun t112 => ((flo_Key.f a1).bind fun t113 => (some (decide (t112 < t113))))))))
set_option maxHeartbeats 8000000 in
set_option maxRecDepth 100000 in
theorem flo_Less.calls (a0 : Int) (a1 : Int) (r : Bool) (w : World) (h : flo_Less.f a0 a1 = some r) :
    Calls Try.prog 109 #[.int .u64 a0, .int .u64 a1] w fun e w' => e = .returned (.bool r) ∧ Drawn0 w w' := by
  have H : ((flo_Kind.f a0).bind fun t110 => (if t110 = 4 then (some false) else ((flo_Kind.f a1).bind fun t111 => (if t111 = 4 then (some false) else ((flo_Key.f a0).bind fun t112 => ((flo_Key.f a1).bind fun t113 => (some (decide (t112 < t113))))))))) = some r := h
  clear h
  replace H := Option.bind_eq_some_iff.mp H
  obtain ⟨t110, A30, H⟩ := H
  replace H : (if t110 = 4 then (some false) else ((flo_Kind.f a1).bind fun t111 => (if t111 = 4 then (some false) else ((flo_Key.f a0).bind fun t112 => ((flo_Key.f a1).bind fun t113 => (some (decide (t112 < t113)))))))) = some r := H
  have A3 := Aside0.mk A30
  clear A30
  by_cases c4 : t110 = 4
  · rw [if_pos c4] at H
    have c4b0 : (t110 == 4) = true := beq_iff_eq.mpr c4
    have c4b1 : (t110 != 4) = false := bne_eq_false_iff_eq.mpr c4
    clear c4
    obtain rfl := Option.some.inj H
    go_enter Try.func109, Try.ntmps109
    go_wp2_with (first | ((with_reducible refine gate_callee (f := 130) rfl ?_); refine goesL_ (some 6) rfl rfl Try.func130 (by kernel_rfl) rfl #[.int .u64 a0] rfl (by (try simp only [List.map_toArray, List.map_cons, List.map_nil]); first | done | rfl | (simp only [List.length_drop, List.length_take]; rfl)) ?_; (with_reducible refine (flo_Kind.calls a0 t110 _ A3.out).mono ?_); rintro e w' ⟨rfl, ⟨nd, rfl⟩⟩; refine ⟨_, rfl, ?_⟩))
    go_ret
    exact ⟨by first | rfl | (simp; done) | (simp [*]; done), by repeat (first | exact Drawn0.refl _ | apply Drawn0.step)⟩
  · rw [if_neg c4] at H
    have c4b0 : (t110 == 4) = false := beq_eq_false_iff_ne.mpr c4
    have c4b1 : (t110 != 4) = true := bne_iff_ne.mpr c4
    replace H := Option.bind_eq_some_iff.mp H
    obtain ⟨t111, A50, H⟩ := H
    replace H : (if t111 = 4 then (some false) else ((flo_Key.f a0).bind fun t112 => ((flo_Key.f a1).bind fun t113 => (some (decide (t112 < t113)))))) = some r := H
    have A5 := Aside0.mk A50
    clear A50
    by_cases c6 : t111 = 4
    · rw [if_pos c6] at H
      have c6b0 : (t111 == 4) = true := beq_iff_eq.mpr c6
      have c6b1 : (t111 != 4) = false := bne_eq_false_iff_eq.mpr c6
      clear c6
      obtain rfl := Option.some.inj H
      go_enter Try.func109, Try.ntmps109
      go_wp2_with (first | ((with_reducible refine gate_callee (f := 130) rfl ?_); refine goesL_ (some 6) rfl rfl Try.func130 (by kernel_rfl) rfl #[.int .u64 a0] rfl (by (try simp only [List.map_toArray, List.map_cons, List.map_nil]); first | done | rfl | (simp only [List.length_drop, List.length_take]; rfl)) ?_; (with_reducible refine (flo_Kind.calls a0 t110 _ A3.out).mono ?_); rintro e w' ⟨rfl, ⟨nd, rfl⟩⟩; refine ⟨_, rfl, ?_⟩) | (go_at_call 130; (with_reducible refine (flo_Kind.calls a1 t111 _ A5.out).mono ?_); rintro e w' ⟨rfl, ⟨nd, rfl⟩⟩))
      go_ret
      exact ⟨by first | rfl | (simp; done) | (simp [*]; done), by repeat (first | exact Drawn0.refl _ | apply Drawn0.step)⟩
    · rw [if_neg c6] at H
      have c6b0 : (t111 == 4) = false := beq_eq_false_iff_ne.mpr c6
      have c6b1 : (t111 != 4) = true := bne_iff_ne.mpr c6
      replace H := Option.bind_eq_some_iff.mp H
      obtain ⟨t112, A70, H⟩ := H
      replace H : ((flo_Key.f a1).bind fun t113 => (some (decide (t112 < t113)))) = some r := H
      have A7 := Aside0.mk A70
      clear A70
      replace H := Option.bind_eq_some_iff.mp H
      obtain ⟨t113, A80, H⟩ := H
      replace H : (some (decide (t112 < t113))) = some r := H
      have A8 := Aside0.mk A80
      clear A80
      obtain rfl := Option.some.inj H
      go_enter Try.func109, Try.ntmps109
      go_wp2_with (first | ((with_reducible refine gate_callee (f := 130) rfl ?_); refine goesL_ (some 6) rfl rfl Try.func130 (by kernel_rfl) rfl #[.int .u64 a0] rfl (by (try simp only [List.map_toArray, List.map_cons, List.map_nil]); first | done | rfl | (simp only [List.length_drop, List.length_take]; rfl)) ?_; (with_reducible refine (flo_Kind.calls a0 t110 _ A3.out).mono ?_); rintro e w' ⟨rfl, ⟨nd, rfl⟩⟩; refine ⟨_, rfl, ?_⟩) | (go_at_call 130; (with_reducible refine (flo_Kind.calls a1 t111 _ A5.out).mono ?_); rintro e w' ⟨rfl, ⟨nd, rfl⟩⟩) | (go_at_call 131; (with_reducible refine (flo_Key.calls a0 t112 _ A7.out).mono ?_); rintro e w' ⟨rfl, ⟨nd, rfl⟩⟩) | (go_at_call 131; (with_reducible refine (flo_Key.calls a1 t113 _ A8.out).mono ?_); rintro e w' ⟨rfl, ⟨nd, rfl⟩⟩))
      go_ret
      exact ⟨by first | rfl | (simp; done) | (simp [*]; done), by repeat (first | exact Drawn0.refl _ | apply Drawn0.step)⟩
/-- THE ONE PURE STATEMENT of flo_Less: yours. -/
def flo_Less.Pure : Prop := ∀ (a0 : Int) (a1 : Int), (Lit.int .u64 a0).wf = true → (Lit.int .u64 a1).wf = true → flo_Less.f a0 a1 = some true
theorem flo_Less.walk (P : flo_Less.Pure) (a0 : Int) (a1 : Int) (w : World) (w0 : (Lit.int .u64 a0).wf = true) (w1 : (Lit.int .u64 a1).wf = true) :
    Calls Try.prog 109 #[.int .u64 a0, .int .u64 a1] w fun e w' => e = .returned (.bool true) ∧ Below w.heap.size w w' := by
  have h := P a0 a1 w0 w1
  refine (flo_Less.calls a0 a1 true w h).mono ?_
  rintro e w' ⟨rfl, hd⟩
  exact ⟨rfl, hd.below⟩
end Go.Proofs.Ytncgjbocgbnkcaa.Gb
namespace Go.Proofs.Ytncgjbocgbnkcaa
set_option linter.unusedVariables false
set_option linter.unusedSimpArgs false
open Go.RowKit Go.Proofs.YtncgjbocgbnkcaaW.PrintWords Go.Proofs.YtncgjbocgbnkcaaW.PrintLast Go.Proofs.YtncgjbocgbnkcaaW.PrintMore Go.Proofs.Ytncgjbocgbnkcaa.Hi
/-- The buckets in which something was seen, of the first n. -/
def bksTo (l : List Int) : Nat → List S68
  | 0 => []
  | n + 1 => if l.getD n 0 > 0 then bksTo l n ++ [(⟨(n : Int), l.getD n 0⟩ : S68)] else bksTo l n
def bks (l : List Int) : List S68 := bksTo l 7424
theorem bksTo_len (l : List Int) (n : Nat) : (bksTo l n).length ≤ n := by
  induction n with
  | zero => exact Nat.le_refl _
  | succ n ih =>
    unfold bksTo
    split
    · rw [List.length_append, List.length_cons, List.length_nil]; omega
    · omega
set_option maxHeartbeats 1000000 in
set_option maxRecDepth 100000 in
theorem bk_any (g : Nat) (l : List Int) (w : World) (hH : w.heap[g]? = some (.cells (hcells l) 118 (0, 0))) (hl : l.length = 7424) :
    Calls Try.prog 68 #[.pointer (some ⟨g, 0, none⟩)] w fun e w' => ∃ v0_ : Value, e = .returned v0_ ∧ Kd.R k68 68 w' w.heap.size (fun _ => True) v0_ (bks l) ∧ Below w.heap.size w w' := by
  have hinfo : (Try.prog.info? 116).map (·.size) = some (hcells l).size := by rw [info116, hcells_size, hl]
  have HH := Lib.hid hH; have HL := Lib.hid hl
  have HB := Aside0.mk (Below.refl w.heap.size w)
  clear hH hl
  go_enter Try.func68, Try.ntmps68
  go_wp2_with (refine wpList_load_row rfl _ _ rfl g rfl 118 (hcells l) (0, 0) _ HH.out Try.underlying116 rfl hinfo ?_)
  clear hinfo
  go_loopw [3, 4, 5, 13] (fun s _ _ i wr => ∃ j : Nat, j ≤ 7424 ∧ i = .int .i64 j ∧ Aside0 (Kd.R k68 68 wr w.heap.size (fun _ => True) s (bksTo l j)) ∧ Aside0 (Below w.heap.size w wr)) (fun _ _ _ i _ => 7424 - (intOf i).toNat)
  case atStart => exact ⟨0, Nat.zero_le _, rfl, ⟨Kd.R_nil _ _ _ _ _⟩, HB⟩
  case round =>
    clear HB
    obtain ⟨j, hj, rfl, HO, HB⟩ := hrel
    by_cases hlt : j < 7424
    · have hl := HL.out
      obtain ⟨y, hy⟩ : ∃ y, l[j]? = some y := ⟨_, List.getElem?_eq_getElem (by omega)⟩
      have hyd : l.getD j 0 = y := by rw [List.getD, hy]; rfl
      have hidx := fun w => run_index116 l j y w hlt hy
      have hd : decide ((j : Int) < 7424) = true := decide_eq_true (by omega)
      have hln := bksTo_len l j
      by_cases hp : y > 0
      · have hp0 : decide (0 < y) = true := decide_eq_true hp
        have HY : Hid (bksTo l (j + 1) = bksTo l j ++ [(⟨(j : Int), y⟩ : S68)]) := by rw [bksTo, hyd, if_pos hp]; exact Lib.hid rfl
        have LN := Aside0.mk hln
        clear hl hy hyd hln hp
        go_wp2_with ((with_reducible refine gate_builtin (b := .append) (xs := #[.tmp 19, .tmp 23]) rfl ?_); at_builtin; refine Kd.R_append k68 (w0 := w) w.heap.size rfl (.tmp 19) (.tmp 23) 23 68 (.agg #[(.int .i64 0), (.int .u64 0)]) 16 rfl Try.underlying23 info68 rfl (by decide) (by omega) u3 (bksTo l j) (⟨(j : Int), y⟩ : S68) [.int .i64 (j : Int), .int .u64 y] (fun _ => True) (fun _ => False) rfl rfl ?aP (fun _ hk => hk.elim) ?aF ?aO ?aB ?aS ?aL ?_; (case aP => exact k68_mkM _ _ _ (⟨(j : Int), y⟩ : S68)); (case aB => exact (by repeat (first | (with_reducible first | exact HB.out | apply below_alloc | apply pw_below_drewN | apply below_drew1) | exact HB.out))); (case aF => exact (fun _ _ => trivial)); (case aO => exact (by (with_reducible repeat (first | apply Kd.R_alloc | apply Kd.R_drewN | apply Kd.R_drew)); exact HO.out)); (case aS => exact (below_size (by repeat (first | (with_reducible first | exact HB.out | apply below_alloc | apply pw_below_drewN | apply below_drew1) | exact HB.out)))); (case aL => have := LN.out; omega); intro v128 w13 ho hb hg hat; rw [← HY.out] at ho; have n0_ := Aside0.mk (hb); have n1_ := Aside0.mk (ho); clear HB; clear HO; have HB := n0_; have HO := n1_; clear n0_ n1_; clear ho hb hg hat)
        go_roundw
        case rel => exact ⟨j + 1, by omega, by go_num, HO, HB⟩
        case measure => simp [intOf]; omega
      · have hp0 : decide (0 < y) = false := decide_eq_false hp
        have HY : Hid (bksTo l (j + 1) = bksTo l j) := by rw [bksTo, hyd, if_neg hp]; exact Lib.hid rfl
        clear hl hy hyd hln hp
        go_wp2
        go_roundw
        case rel => exact ⟨j + 1, by omega, by go_num, ⟨by rw [HY.out]; exact HO.out⟩, HB⟩
        case measure => simp [intOf]; omega
    · have hj2 : j = 7424 := by omega
      subst hj2
      clear hlt
      go_wp2
      go_ret
      exact ⟨_, rfl, HO.out, HB.out⟩
end Go.Proofs.Ytncgjbocgbnkcaa
namespace Go.Proofs.Ytncgjbocgbnkcaa
set_option linter.unusedVariables false
set_option linter.unusedSimpArgs false
open Go.RowKit Go.Proofs.YtncgjbocgbnkcaaW.PrintWords Go.Proofs.YtncgjbocgbnkcaaW.PrintLast Go.Proofs.YtncgjbocgbnkcaaW.PrintMore Go.Proofs.Ytncgjbocgbnkcaa.Hi
/-- The histograms that the call made, by their blocks: unlike ones, and nothing that was there before has changed. -/
def HS (w0 W : World) (m : List (Nat × List Int)) : Prop :=
  (∀ p ∈ m, W.heap[p.1]? = some (.cells (hcells p.2) 118 (0, 0)) ∧ w0.heap.size ≤ p.1) ∧ (m.map (·.1)).Nodup ∧ Below w0.heap.size w0 W
theorem HS.nil (w : World) : HS w w [] := ⟨fun p hp => by simp at hp, by simp, Below.refl _ _⟩
theorem HS.bel {w0 W : World} {m : List (Nat × List Int)} (h : HS w0 W m) : Below w0.heap.size w0 W := h.2.2
theorem HS.at_ {w0 W : World} {m : List (Nat × List Int)} (h : HS w0 W m) (i : Nat) {g : Nat} {s : List Int} (hi : m[i]? = some (g, s)) : W.heap[g]? = some (.cells (hcells s) 118 (0, 0)) ∧ w0.heap.size ≤ g :=
  h.1 _ (List.mem_of_getElem? hi)
theorem HS.below {w0 W W' : World} {m : List (Nat × List Int)} (h : HS w0 W m) (hb : Below W.heap.size W W') : HS w0 W' m :=
  ⟨fun p hp => ⟨blk_below (h.1 p hp).1 hb, (h.1 p hp).2⟩, h.2.1, h.2.2.trans (hb.mono h.2.2.size)⟩
theorem HS.drawn {w0 W W' : World} {m : List (Nat × List Int)} (h : HS w0 W m) (hb : Drawn0 W W') : HS w0 W' m := h.below hb.below
theorem HS.more {w0 W W' : World} {m : List (Nat × List Int)} (h : HS w0 W m) {g : Nat} {s : List Int} (hb : Below W.heap.size W W') (hg : W'.heap[g]? = some (.cells (hcells s) 118 (0, 0))) (hn : W.heap.size ≤ g) : HS w0 W' (m ++ [(g, s)]) := by
  have hB := h.below hb
  refine ⟨fun p hp => ?_, ?_, hB.2.2⟩
  · rcases List.mem_append.1 hp with hp | hp
    · exact hB.1 p hp
    · rw [List.mem_singleton] at hp
      subst hp
      exact ⟨hg, Nat.le_trans h.2.2.size hn⟩
  · rw [List.map_append, List.nodup_append]
    refine ⟨h.2.1, by simp, fun a ha b hb' => ?_⟩
    obtain ⟨p, hp, rfl⟩ := List.mem_map.1 ha
    have := blk_lt (h.1 p hp).1
    simp at hb'
    subst hb'
    omega
theorem HS.put {w0 W W' : World} {m : List (Nat × List Int)} (h : HS w0 W m) (i : Nat) {g : Nat} {s s' : List Int} (hi : m[i]? = some (g, s)) (hk : KeepBut W W' g none) (hg : W'.heap[g]? = some (.cells (hcells s') 118 (0, 0))) (hB : Below w0.heap.size w0 W') : HS w0 W' (m.set i (g, s')) := by
  have hlt : i < m.length := (List.getElem?_eq_some_iff.1 hi).1
  have e : (m.set i (g, s')).map (·.1) = m.map (·.1) := by
    refine List.ext_getElem? fun j => ?_
    rw [List.getElem?_map, List.getElem?_map, List.getElem?_set]
    by_cases c : i = j
    · subst c; rw [if_pos rfl, if_pos hlt, hi]; rfl
    · rw [if_neg c]
  refine ⟨fun p hp => ?_, by rw [e]; exact h.2.1, hB⟩
  obtain ⟨j, hj⟩ := List.getElem?_of_mem hp
  rw [List.getElem?_set] at hj
  by_cases c : i = j
  · rw [if_pos c, if_pos (by omega)] at hj
    obtain rfl := Option.some.inj hj
    exact ⟨hg, (h.at_ i hi).2⟩
  · rw [if_neg c] at hj
    have hm := h.1 p (List.mem_of_getElem? hj)
    refine ⟨hk.blk hm.1 ?_ (by simp), hm.2⟩
    intro c2
    have n1 : (m.map (·.1))[i]? = some g := by rw [List.getElem?_map, hi]; rfl
    have n2 : (m.map (·.1))[j]? = some g := by rw [List.getElem?_map, hj, ← c2]; rfl
    exact c ((List.getElem?_inj (by rw [List.length_map]; exact hlt) h.2.1).1 (n1.trans n2.symm))
theorem HS.new {w0 W : World} {m : List (Nat × List Int)} (h : HS w0 W m) :
    Calls Try.prog 57 #[] W fun e w' => ∃ g, e = .returned (.pointer (some ⟨g, 0, none⟩)) ∧ HS w0 w' (m ++ [(g, hzero 7424)]) ∧ Below W.heap.size W w' :=
  (new_any W).mono fun _ _ ⟨he, hh, hb⟩ => ⟨_, he, h.more hb hh (Nat.le_refl _), hb⟩
theorem HS.add {w0 W : World} {m : List (Nat × List Int)} (h : HS w0 W m) (i : Nat) {g : Nat} {s : List Int} (hi : m[i]? = some (g, s)) (hs : hgood s = true) {v n : Int} (hv : 0 ≤ v ∧ v < 18446744073709551616) (hn : 0 ≤ n ∧ n < 18446744073709551616) :
    Calls Try.prog 58 #[.pointer (some ⟨g, 0, none⟩), .int .u64 v, .int .u64 n] W fun e w' => e = .returned (.tuple #[]) ∧ HS w0 w' (m.set i (g, hadd s (bucketN v.toNat) n)) ∧ KeepBut W w' g none :=
  (hist_Hist_Add.calls g s v n _ w0 W (h.at_ i hi) h.bel (by unfold hist_Hist_Add.f; rw [if_pos ⟨hs, hv, hn⟩])).mono fun _ _ ⟨he, hI, hB, hK⟩ => ⟨he, h.put i hi hK hI.1 hB, hK⟩
theorem HS.bks {w0 W : World} {m : List (Nat × List Int)} (h : HS w0 W m) (i : Nat) {g : Nat} {s : List Int} (hi : m[i]? = some (g, s)) (hs : hgood s = true) :
    Calls Try.prog 68 #[.pointer (some ⟨g, 0, none⟩)] W fun e w' => ∃ A c, e = .returned (.slice A (bks s).length c) ∧ (bks s).length ≤ c ∧ Kd.C k68 w' A (Go.Proofs.Ytncgjbocgbnkcaa.bks s).length (Go.Proofs.Ytncgjbocgbnkcaa.bks s) ∧ Kd.R k68 68 w' W.heap.size (fun _ => True) (.slice A (Go.Proofs.Ytncgjbocgbnkcaa.bks s).length c) (Go.Proofs.Ytncgjbocgbnkcaa.bks s) ∧ HS w0 w' m ∧ Below W.heap.size W w' :=
  (bk_any g s W (h.at_ i hi).1 ((hgood_iff _).mp hs).1).mono fun _ _ ⟨v, he, hR, hb⟩ => by
    obtain ⟨A, c, rfl, hc, hC⟩ := Kd.R_reads hR
    exact ⟨A, c, he, hc, hC, hR, h.below hb, hb⟩
theorem R_hist {W W' : World} {base : Nat} {ok : Nat → Prop} {v : Value} {xs : List S68} (h : Kd.R k68 68 W base ok v xs) {g : Nat} {cs : Array Value} (hg : W.heap[g]? = some (.cells cs 118 (0, 0))) (hk : KeepBut W W' g none) : Kd.R k68 68 W' base ok v xs := by
  refine Kd.R_mono (Kd.R_step (Kd.R_bound h) fun k hb hlt => hk.2 k hlt ?_ (by simp)) fun _ hk => hk.1
  rintro rfl
  obtain ⟨_, _, _, q, hq, cells, hc⟩ := hb
  rw [hg] at hc
  have hE : k68.E = [] := rfl
  rw [hE] at hq
  simp at hq hc
  exact absurd (hc.2.trans hq) (by decide)
/-- Merge of a list of the call's own. -/
theorem HS.merge {w0 W : World} {m : List (Nat × List Int)} (h : HS w0 W m) (i : Nat) {g : Nat} {s : List Int} (hi : m[i]? = some (g, s)) (hs : hgood s = true) {A : Option Addr} {c : Nat} {l : List S68} (hc : l.length ≤ c)
    (hr : ∀ W_, KeepBut W W_ g none → Kd.C k68 W_ A l.length l) (hw : Pure.WB l) (hl : Pure.chk l = true) :
    Calls Try.prog 86 #[.pointer (some ⟨g, 0, none⟩), .slice A l.length c] W fun e w' => e = .returned (.int .i64 0) ∧ HS w0 w' (m.set i (g, Pure.merged s l)) ∧ KeepBut W w' g none :=
  (hist_Hist_Merge.calls (l.length + 1) g s A c l 0 (Pure.merged s l) w0 W (h.at_ i hi) h.bel hr hc (Pure.Merge_eq hs hw hl _ (by omega))).mono fun _ _ ⟨he, hI, hB, hK⟩ => ⟨he, h.put i hi hK hI.1 hB, hK⟩
theorem heap51 : Kd.Heap k68 := ⟨fun _ h => h⟩
/-- What came in stays readable while the call's own histograms change. -/
theorem HS.old {w0 W : World} {m : List (Nat × List Int)} (h : HS w0 W m) (i : Nat) {g : Nat} {s : List Int} (hi : m[i]? = some (g, s)) {A : Option Addr} {l : List S68} (hC : Kd.C k68 w0 A l.length l) : ∀ W_, KeepBut W W_ g none → Kd.C k68 W_ A l.length l := fun W_ hk =>
  Kd.C_foot_came heap51 hC h.bel (h.at_ i hi).2 W_ hk
/-- What the call made before stays readable, too. -/
theorem HS.own {w0 W : World} {m : List (Nat × List Int)} (h : HS w0 W m) (i : Nat) {g : Nat} {s : List Int} (hi : m[i]? = some (g, s)) {A : Option Addr} {c : Nat} {l : List S68} {base : Nat} {ok : Nat → Prop} (hR : Kd.R k68 68 W base ok (.slice A l.length c) l) : ∀ W_, KeepBut W W_ g none → Kd.C k68 W_ A l.length l := fun _ hk => by
  have := R_hist hR (h.at_ i hi).1 hk
  exact (Kd.R_reads' this).2.2
end Go.Proofs.Ytncgjbocgbnkcaa
namespace Go.Proofs.Ytncgjbocgbnkcaa
set_option linter.unusedVariables false
set_option linter.unusedSimpArgs false
open Go.RowKit Go.Proofs.YtncgjbocgbnkcaaW.PrintWords Go.Proofs.YtncgjbocgbnkcaaW.PrintLast Go.Proofs.YtncgjbocgbnkcaaW.PrintMore Go.Proofs.Ytncgjbocgbnkcaa.Hi Go.Proofs.Ytncgjbocgbnkcaa.Gb
theorem four (w : World) (oA oB oZ oG : Obj) : ((((w.alloc oA).alloc oB).alloc oZ).alloc oG).heap[w.heap.size]? = some oA ∧ ((((w.alloc oA).alloc oB).alloc oZ).alloc oG).heap[w.heap.size + 1]? = some oB ∧
    ((((w.alloc oA).alloc oB).alloc oZ).alloc oG).heap[w.heap.size + 1 + 1]? = some oZ ∧ ((((w.alloc oA).alloc oB).alloc oZ).alloc oG).heap[w.heap.size + 1 + 1 + 1]? = some oG ∧ Below w.heap.size w ((((w.alloc oA).alloc oB).alloc oZ).alloc oG) := by
  have s1 : (w.alloc oA).heap.size = w.heap.size + 1 := by simp
  have s2 : ((w.alloc oA).alloc oB).heap.size = w.heap.size + 1 + 1 := by simp
  have s3 : (((w.alloc oA).alloc oB).alloc oZ).heap.size = w.heap.size + 1 + 1 + 1 := by simp
  refine ⟨blk_alloc (blk_alloc (blk_alloc (blk_new w _) _) _) _, ?_, ?_, ?_, ?_⟩
  · rw [← s1]; exact blk_alloc (blk_alloc (blk_new _ _) _) _
  · rw [← s2]; exact blk_alloc (blk_new _ _) _
  · rw [← s3]; exact blk_new _ _
  · exact below_alloc (below_alloc (below_alloc (below_alloc (Below.refl _ _) _) _) _) _
set_option maxHeartbeats 4000000 in
set_option maxRecDepth 100000 in
theorem gmerge_any (a0 a1 a2 a3 b0 b1 b2 b3 : Int) (w : World) (ha0 : 0 ≤ a0 ∧ a0 < 18446744073709551616) (ha1 : 0 ≤ a1 ∧ a1 < 18446744073709551616) (hb0 : 0 ≤ b0 ∧ b0 < 18446744073709551616) (hb1 : 0 ≤ b1 ∧ b1 < 18446744073709551616)
    (z y l1 l2 : Bool) (hz : (a0 == 0) = z) (hy : (b0 == 0) = y) (h1 : flo_Less.f b2 a2 = some l1) (h2 : flo_Less.f a3 b3 = some l2) :
    Calls Try.prog 88 #[.agg #[.int .u64 a0, .int .u64 a1, .int .u64 a2, .int .u64 a3], .agg #[.int .u64 b0, .int .u64 b1, .int .u64 b2, .int .u64 b3]] w fun e w' =>
      e = .returned (.agg #[.int .u64 (hold (a0 + b0)), .int .u64 (hold (a1 + b1)), .int .u64 (if z then b2 else if y then a2 else if l1 then b2 else a2), .int .u64 (if z then b3 else if y then a3 else if l2 then b3 else a3)]) ∧ Below w.heap.size w w' := by
  have A1 := fun w => add_eq a1 b1 w ha1.1 ha1.2 hb1.1 hb1.2
  have A0 := fun w => add_eq a0 b0 w ha0.1 ha0.2 hb0.1 hb0.2
  have L1 := fun w => flo_Less.calls b2 a2 l1 w h1
  have L2 := fun w => flo_Less.calls a3 b3 l2 w h2
  obtain ⟨p, hp⟩ : ∃ p, (if a0 + b0 < 18446744073709551616 then a0 + b0 else 18446744073709551615) = p := ⟨_, rfl⟩
  obtain ⟨q, hq⟩ : ∃ q, (if a1 + b1 < 18446744073709551616 then a1 + b1 else 18446744073709551615) = q := ⟨_, rfl⟩
  have HPP := Lib.hid (show hold (a0 + b0) = p from hp)
  have HQQ := Lib.hid (show hold (a1 + b1) = q from hq)
  rw [hp] at A0
  rw [hq] at A1
  rw [HPP.out, HQQ.out]
  clear hp hq ha0 ha1 hb0 hb1 h1 h2
  cases z
  · go_enter Try.func88, Try.ntmps88
    go_wp2
    refine name_world _ (fun WW HW => ?_)
    have F := four w (.cells #[.int .u64 a0, .int .u64 a1, .int .u64 a2, .int .u64 a3] 43) (.cells #[.int .u64 b0, .int .u64 b1, .int .u64 b2, .int .u64 b3] 43) (.cells #[.int .u64 0, .int .u64 0, .int .u64 0, .int .u64 0] 43) (.cells #[.int .u64 a0, .int .u64 a1, .int .u64 a2, .int .u64 a3] 43)
    rw [HW.out] at F
    obtain ⟨bA, bB, bR, bG, bL⟩ := F
    refine wp_region_still_tail 11 (by kernel_rfl) (by kernel_rfl) ?_
    simp only [List.take_succ_cons, List.take_zero, List.drop_succ_cons, List.drop_zero]
    change wpStill _ _ WW.drew _ _ _
    replace bA := blk_drew bA; replace bB := blk_drew bB; replace bR := blk_drew bR; replace bG := blk_drew bG
    replace bL := below_drew bL
    obtain ⟨W2, hW2⟩ : ∃ W2, WW.drew = W2 := ⟨_, rfl⟩
    rw [hW2] at bA bB bR bG bL ⊢
    have HW2 := Lib.hid hW2
    clear hW2 HW
    have c0 := blk_cell bA 0; have c1 := blk_cell bA 1; have c2 := blk_cell bA 2; have c3 := blk_cell bA 3
    have d0 := blk_cell bB 0; have d1 := blk_cell bB 1; have d2 := blk_cell bB 2; have d3 := blk_cell bB 3
    have g0 := blk_cell bG 0; have g1 := blk_cell bG 1; have g2 := blk_cell bG 2; have g3 := blk_cell bG 3
    have r0 := blk_cell bR 0; have r1 := blk_cell bR 1; have r2 := blk_cell bR 2; have r3 := blk_cell bR 3
    have fg0 := blk_frozen bG 0; have fg1 := blk_frozen bG 1; have fg2 := blk_frozen bG 2; have fg3 := blk_frozen bG 3
    have fr0 := blk_frozen bR 0; have fr1 := blk_frozen bR 1; have fr2 := blk_frozen bR 2; have fr3 := blk_frozen bR 3
    have HG := Lib.hid bG; have HR := Lib.hid bR; have HBL := Lib.hid bL
    clear bA bB bG bR bL
    still_step
    still_step
    still_step
    still_step
    still_call ((A1 W2).mono fun _ _ ⟨he, hw⟩ => ⟨he, hw.symm⟩)
    still_step
    still_step
    still_step
    still_step
    still_call ((A0 W2).mono fun _ _ ⟨he, hw⟩ => ⟨he, hw.symm⟩)
    still_step
    refine wpStill_nil ?_
    change wpList _ _ _ _ _ WW.drew
    rw [HW2.out]
    clear A0 A1
    cases y
    · cases l1
      · cases l2
        · go_wp2_with (first
            | (go_at_call 109; refine (L1 _).mono ?_; rintro e w1 ⟨rfl, ⟨n1, rfl⟩⟩; clear L1)
            | (go_at_call 109; refine (L2 _).mono ?_; rintro e w1 ⟨rfl, ⟨n2, rfl⟩⟩; clear L2))
          refine bodyPost_ret (results_cell_row rfl _ _ (w.heap.size + 1 + 1) 43 #[.int .u64 p, .int .u64 q, .int .u64 a2, .int .u64 a3] (0, 0) _ rfl (by (with_reducible repeat (first | refine blk_drewN ?_ _ | refine blk_drew ?_)); refine blk_put (cs := #[.int .u64 p, .int .u64 q, .int .u64 a2, .int .u64 0]) ?_ 3 _ rfl; (with_reducible repeat (first | refine blk_drewN ?_ _ | refine blk_drew ?_)); refine blk_put (cs := #[.int .u64 p, .int .u64 q, .int .u64 0, .int .u64 0]) ?_ 2 _ rfl; (with_reducible repeat (first | refine blk_drewN ?_ _ | refine blk_drew ?_)); refine blk_put (cs := #[.int .u64 p, .int .u64 0, .int .u64 0, .int .u64 0]) ?_ 1 _ rfl; (with_reducible repeat (first | refine blk_drewN ?_ _ | refine blk_drew ?_)); refine blk_put (cs := #[.int .u64 0, .int .u64 0, .int .u64 0, .int .u64 0]) ?_ 0 _ rfl; repeat (first | (with_reducible exact HR.out) | (with_reducible refine blk_drewN ?_ _) | (with_reducible refine blk_drew ?_) | (with_reducible refine blk_far ?_ (by simp) _))) Try.underlying43 rfl (by kernel_rfl)) rfl ⟨rfl, ?_⟩
          repeat (first | (with_reducible exact HBL.out) | (with_reducible refine pw_below_drewN ?_ _) | (with_reducible refine below_drew ?_) | (with_reducible refine below_set ?_ (by omega)))
        · go_wp2_with (first
            | (go_at_call 109; refine (L1 _).mono ?_; rintro e w1 ⟨rfl, ⟨n1, rfl⟩⟩; clear L1)
            | (go_at_call 109; refine (L2 _).mono ?_; rintro e w1 ⟨rfl, ⟨n2, rfl⟩⟩; clear L2))
          refine bodyPost_ret (results_cell_row rfl _ _ (w.heap.size + 1 + 1) 43 #[.int .u64 p, .int .u64 q, .int .u64 a2, .int .u64 b3] (0, 0) _ rfl (by (with_reducible repeat (first | refine blk_drewN ?_ _ | refine blk_drew ?_)); refine blk_put (cs := #[.int .u64 p, .int .u64 q, .int .u64 a2, .int .u64 0]) ?_ 3 _ rfl; (with_reducible repeat (first | refine blk_drewN ?_ _ | refine blk_drew ?_)); refine blk_put (cs := #[.int .u64 p, .int .u64 q, .int .u64 0, .int .u64 0]) ?_ 2 _ rfl; (with_reducible repeat (first | refine blk_drewN ?_ _ | refine blk_drew ?_)); refine blk_put (cs := #[.int .u64 p, .int .u64 0, .int .u64 0, .int .u64 0]) ?_ 1 _ rfl; (with_reducible repeat (first | refine blk_drewN ?_ _ | refine blk_drew ?_)); refine blk_put (cs := #[.int .u64 0, .int .u64 0, .int .u64 0, .int .u64 0]) ?_ 0 _ rfl; repeat (first | (with_reducible exact HR.out) | (with_reducible refine blk_drewN ?_ _) | (with_reducible refine blk_drew ?_) | (with_reducible refine blk_far ?_ (by simp) _))) Try.underlying43 rfl (by kernel_rfl)) rfl ⟨rfl, ?_⟩
          repeat (first | (with_reducible exact HBL.out) | (with_reducible refine pw_below_drewN ?_ _) | (with_reducible refine below_drew ?_) | (with_reducible refine below_set ?_ (by omega)))
      · cases l2
        · go_wp2_with (first
            | (go_at_call 109; refine (L1 _).mono ?_; rintro e w1 ⟨rfl, ⟨n1, rfl⟩⟩; clear L1)
            | (go_at_call 109; refine (L2 _).mono ?_; rintro e w1 ⟨rfl, ⟨n2, rfl⟩⟩; clear L2))
          refine bodyPost_ret (results_cell_row rfl _ _ (w.heap.size + 1 + 1) 43 #[.int .u64 p, .int .u64 q, .int .u64 b2, .int .u64 a3] (0, 0) _ rfl (by (with_reducible repeat (first | refine blk_drewN ?_ _ | refine blk_drew ?_)); refine blk_put (cs := #[.int .u64 p, .int .u64 q, .int .u64 b2, .int .u64 0]) ?_ 3 _ rfl; (with_reducible repeat (first | refine blk_drewN ?_ _ | refine blk_drew ?_)); refine blk_put (cs := #[.int .u64 p, .int .u64 q, .int .u64 0, .int .u64 0]) ?_ 2 _ rfl; (with_reducible repeat (first | refine blk_drewN ?_ _ | refine blk_drew ?_)); refine blk_put (cs := #[.int .u64 p, .int .u64 0, .int .u64 0, .int .u64 0]) ?_ 1 _ rfl; (with_reducible repeat (first | refine blk_drewN ?_ _ | refine blk_drew ?_)); refine blk_put (cs := #[.int .u64 0, .int .u64 0, .int .u64 0, .int .u64 0]) ?_ 0 _ rfl; repeat (first | (with_reducible exact HR.out) | (with_reducible refine blk_drewN ?_ _) | (with_reducible refine blk_drew ?_) | (with_reducible refine blk_far ?_ (by simp) _))) Try.underlying43 rfl (by kernel_rfl)) rfl ⟨rfl, ?_⟩
          repeat (first | (with_reducible exact HBL.out) | (with_reducible refine pw_below_drewN ?_ _) | (with_reducible refine below_drew ?_) | (with_reducible refine below_set ?_ (by omega)))
        · go_wp2_with (first
            | (go_at_call 109; refine (L1 _).mono ?_; rintro e w1 ⟨rfl, ⟨n1, rfl⟩⟩; clear L1)
            | (go_at_call 109; refine (L2 _).mono ?_; rintro e w1 ⟨rfl, ⟨n2, rfl⟩⟩; clear L2))
          refine bodyPost_ret (results_cell_row rfl _ _ (w.heap.size + 1 + 1) 43 #[.int .u64 p, .int .u64 q, .int .u64 b2, .int .u64 b3] (0, 0) _ rfl (by (with_reducible repeat (first | refine blk_drewN ?_ _ | refine blk_drew ?_)); refine blk_put (cs := #[.int .u64 p, .int .u64 q, .int .u64 b2, .int .u64 0]) ?_ 3 _ rfl; (with_reducible repeat (first | refine blk_drewN ?_ _ | refine blk_drew ?_)); refine blk_put (cs := #[.int .u64 p, .int .u64 q, .int .u64 0, .int .u64 0]) ?_ 2 _ rfl; (with_reducible repeat (first | refine blk_drewN ?_ _ | refine blk_drew ?_)); refine blk_put (cs := #[.int .u64 p, .int .u64 0, .int .u64 0, .int .u64 0]) ?_ 1 _ rfl; (with_reducible repeat (first | refine blk_drewN ?_ _ | refine blk_drew ?_)); refine blk_put (cs := #[.int .u64 0, .int .u64 0, .int .u64 0, .int .u64 0]) ?_ 0 _ rfl; repeat (first | (with_reducible exact HR.out) | (with_reducible refine blk_drewN ?_ _) | (with_reducible refine blk_drew ?_) | (with_reducible refine blk_far ?_ (by simp) _))) Try.underlying43 rfl (by kernel_rfl)) rfl ⟨rfl, ?_⟩
          repeat (first | (with_reducible exact HBL.out) | (with_reducible refine pw_below_drewN ?_ _) | (with_reducible refine below_drew ?_) | (with_reducible refine below_set ?_ (by omega)))
    · go_wp2
      refine bodyPost_ret (results_cell_row rfl _ _ (w.heap.size + 1 + 1) 43 #[.int .u64 p, .int .u64 q, .int .u64 a2, .int .u64 a3] (0, 0) _ rfl (by (with_reducible repeat (first | refine blk_drewN ?_ _ | refine blk_drew ?_)); refine blk_put (cs := #[.int .u64 p, .int .u64 q, .int .u64 a2, .int .u64 0]) ?_ 3 _ rfl; (with_reducible repeat (first | refine blk_drewN ?_ _ | refine blk_drew ?_)); refine blk_put (cs := #[.int .u64 p, .int .u64 q, .int .u64 0, .int .u64 0]) ?_ 2 _ rfl; (with_reducible repeat (first | refine blk_drewN ?_ _ | refine blk_drew ?_)); refine blk_put (cs := #[.int .u64 p, .int .u64 0, .int .u64 0, .int .u64 0]) ?_ 1 _ rfl; (with_reducible repeat (first | refine blk_drewN ?_ _ | refine blk_drew ?_)); refine blk_put (cs := #[.int .u64 0, .int .u64 0, .int .u64 0, .int .u64 0]) ?_ 0 _ rfl; repeat (first | (with_reducible exact HR.out) | (with_reducible refine blk_drewN ?_ _) | (with_reducible refine blk_drew ?_) | (with_reducible refine blk_far ?_ (by simp) _))) Try.underlying43 rfl (by kernel_rfl)) rfl ⟨rfl, ?_⟩
      repeat (first | (with_reducible exact HBL.out) | (with_reducible refine pw_below_drewN ?_ _) | (with_reducible refine below_drew ?_) | (with_reducible refine below_set ?_ (by omega)))
  · go_enter Try.func88, Try.ntmps88
    go_wp2
    refine name_world _ (fun WW HW => ?_)
    have F := four w (.cells #[.int .u64 a0, .int .u64 a1, .int .u64 a2, .int .u64 a3] 43) (.cells #[.int .u64 b0, .int .u64 b1, .int .u64 b2, .int .u64 b3] 43) (.cells #[.int .u64 0, .int .u64 0, .int .u64 0, .int .u64 0] 43) (.cells #[.int .u64 b0, .int .u64 b1, .int .u64 b2, .int .u64 b3] 43)
    rw [HW.out] at F
    obtain ⟨bA, bB, bR, bG, bL⟩ := F
    refine wp_region_still_tail 11 (by kernel_rfl) (by kernel_rfl) ?_
    simp only [List.take_succ_cons, List.take_zero, List.drop_succ_cons, List.drop_zero]
    change wpStill _ _ WW.drew _ _ _
    replace bA := blk_drew bA; replace bB := blk_drew bB; replace bR := blk_drew bR; replace bG := blk_drew bG
    replace bL := below_drew bL
    obtain ⟨W2, hW2⟩ : ∃ W2, WW.drew = W2 := ⟨_, rfl⟩
    rw [hW2] at bA bB bR bG bL ⊢
    have HW2 := Lib.hid hW2
    clear hW2 HW
    have c0 := blk_cell bA 0; have c1 := blk_cell bA 1; have c2 := blk_cell bA 2; have c3 := blk_cell bA 3
    have d0 := blk_cell bB 0; have d1 := blk_cell bB 1; have d2 := blk_cell bB 2; have d3 := blk_cell bB 3
    have g0 := blk_cell bG 0; have g1 := blk_cell bG 1; have g2 := blk_cell bG 2; have g3 := blk_cell bG 3
    have r0 := blk_cell bR 0; have r1 := blk_cell bR 1; have r2 := blk_cell bR 2; have r3 := blk_cell bR 3
    have fg0 := blk_frozen bG 0; have fg1 := blk_frozen bG 1; have fg2 := blk_frozen bG 2; have fg3 := blk_frozen bG 3
    have fr0 := blk_frozen bR 0; have fr1 := blk_frozen bR 1; have fr2 := blk_frozen bR 2; have fr3 := blk_frozen bR 3
    have HG := Lib.hid bG; have HR := Lib.hid bR; have HBL := Lib.hid bL
    clear bA bB bG bR bL
    still_step
    still_step
    still_step
    still_step
    still_call ((A1 W2).mono fun _ _ ⟨he, hw⟩ => ⟨he, hw.symm⟩)
    still_step
    still_step
    still_step
    still_step
    still_call ((A0 W2).mono fun _ _ ⟨he, hw⟩ => ⟨he, hw.symm⟩)
    still_step
    refine wpStill_nil ?_
    change wpList _ _ _ _ _ WW.drew
    rw [HW2.out]
    clear A0 A1
    go_wp2
    refine bodyPost_ret (results_cell_row rfl _ _ (w.heap.size + 1 + 1) 43 #[.int .u64 p, .int .u64 q, .int .u64 b2, .int .u64 b3] (0, 0) _ rfl (by (with_reducible repeat (first | refine blk_drewN ?_ _ | refine blk_drew ?_)); refine blk_put (cs := #[.int .u64 p, .int .u64 q, .int .u64 b2, .int .u64 0]) ?_ 3 _ rfl; (with_reducible repeat (first | refine blk_drewN ?_ _ | refine blk_drew ?_)); refine blk_put (cs := #[.int .u64 p, .int .u64 q, .int .u64 0, .int .u64 0]) ?_ 2 _ rfl; (with_reducible repeat (first | refine blk_drewN ?_ _ | refine blk_drew ?_)); refine blk_put (cs := #[.int .u64 p, .int .u64 0, .int .u64 0, .int .u64 0]) ?_ 1 _ rfl; (with_reducible repeat (first | refine blk_drewN ?_ _ | refine blk_drew ?_)); refine blk_put (cs := #[.int .u64 0, .int .u64 0, .int .u64 0, .int .u64 0]) ?_ 0 _ rfl; repeat (first | (with_reducible exact HR.out) | (with_reducible refine blk_drewN ?_ _) | (with_reducible refine blk_drew ?_) | (with_reducible refine blk_far ?_ (by simp) _))) Try.underlying43 rfl (by kernel_rfl)) rfl ⟨rfl, ?_⟩
    repeat (first | (with_reducible exact HBL.out) | (with_reducible refine pw_below_drewN ?_ _) | (with_reducible refine below_drew ?_) | (with_reducible refine below_set ?_ (by omega)))
end Go.Proofs.Ytncgjbocgbnkcaa
namespace Go.Proofs.Ytncgjbocgbnkcaa
set_option linter.unusedVariables false
set_option linter.unusedSimpArgs false
open Go.RowKit Go.Proofs.YtncgjbocgbnkcaaW.PrintWords Go.Proofs.YtncgjbocgbnkcaaW.PrintLast Go.Proofs.YtncgjbocgbnkcaaW.PrintMore Go.Proofs.Ytncgjbocgbnkcaa.Hi Go.Proofs.Ytncgjbocgbnkcaa.Gb
set_option maxHeartbeats 400000 in
theorem radd_eq (a b : Int) (w : World) (ha : 0 ≤ a ∧ a < 18446744073709551616) (hb : 0 ≤ b ∧ b < 18446744073709551616) :
    Calls Try.prog 105 #[.int .u64 a, .int .u64 b] w fun e w' => e = .returned (.int .u64 (hold (a + b))) ∧ w = w' := by
  obtain ⟨ha0, ha1⟩ := ha
  obtain ⟨hb0, hb1⟩ := hb
  unfold hold
  by_cases c : a + b < 18446744073709551616
  · rw [if_pos c]
    have e2 : decide (18446744073709551615 - b < a) = false := decide_eq_false (by omega)
    go_enter Try.func105, Try.ntmps105
    go_wp2
    go_ret
    exact ⟨rfl, rfl⟩
  · rw [if_neg c]
    have e2 : decide (18446744073709551615 - b < a) = true := decide_eq_true (by omega)
    clear c
    go_enter Try.func105, Try.ntmps105
    go_wp2
    go_ret
    exact ⟨rfl, rfl⟩
theorem three (w : World) (oA oB oZ : Obj) : (((w.alloc oA).alloc oB).alloc oZ).heap[w.heap.size]? = some oA ∧ (((w.alloc oA).alloc oB).alloc oZ).heap[w.heap.size + 1]? = some oB ∧
    (((w.alloc oA).alloc oB).alloc oZ).heap[w.heap.size + 1 + 1]? = some oZ ∧ Below w.heap.size w (((w.alloc oA).alloc oB).alloc oZ) ∧ (((w.alloc oA).alloc oB).alloc oZ).heap.size = w.heap.size + 1 + 1 + 1 := by
  have s1 : (w.alloc oA).heap.size = w.heap.size + 1 := by simp
  have s2 : ((w.alloc oA).alloc oB).heap.size = w.heap.size + 1 + 1 := by simp
  refine ⟨blk_alloc (blk_alloc (blk_new w _) _) _, ?_, ?_, ?_, by simp⟩
  · rw [← s1]; exact blk_alloc (blk_new _ _) _
  · rw [← s2]; exact blk_new _ _
  · exact below_alloc (below_alloc (below_alloc (Below.refl _ _) _) _) _
set_option maxHeartbeats 8000000 in
set_option maxRecDepth 100000 in
theorem grmerge_any (a0 a1 a2 a3 b0 b1 b2 b3 : Int) (w : World) (ha0 : 0 ≤ a0 ∧ a0 < 18446744073709551616) (ha1 : 0 ≤ a1 ∧ a1 < 18446744073709551616) (hb0 : 0 ≤ b0 ∧ b0 < 18446744073709551616) (hb1 : 0 ≤ b1 ∧ b1 < 18446744073709551616)
    (z y l1 l2 : Bool) (hz : (a0 == 0) = z) (hy : (b0 == 0) = y) (k : Nat) (h1 : varveref02_Less.f k b2 a2 = some l1) (h2 : varveref02_Less.f k a3 b3 = some l2) :
    Calls Try.prog 85 #[.agg #[.int .u64 a0, .int .u64 a1, .int .u64 a2, .int .u64 a3], .agg #[.int .u64 b0, .int .u64 b1, .int .u64 b2, .int .u64 b3]] w fun e w' =>
      e = .returned (.agg #[.int .u64 (hold (a0 + b0)), .int .u64 (hold (a1 + b1)), .int .u64 (if z then b2 else if y then a2 else if l1 then b2 else a2), .int .u64 (if z then b3 else if y then a3 else if l2 then b3 else a3)]) ∧ Below w.heap.size w w' := by
  have A1 := fun w => radd_eq a1 b1 w ha1 hb1
  have A0 := fun w => radd_eq a0 b0 w ha0 hb0
  have L1 := fun w => varveref02_Less.calls k b2 a2 l1 w h1
  have L2 := fun w => varveref02_Less.calls k a3 b3 l2 w h2
  obtain ⟨p, hp⟩ : ∃ p, hold (a0 + b0) = p := ⟨_, rfl⟩
  obtain ⟨q, hq⟩ : ∃ q, hold (a1 + b1) = q := ⟨_, rfl⟩
  rw [hp] at A0 ⊢
  rw [hq] at A1 ⊢
  clear hp hq ha0 ha1 hb0 hb1 h1 h2
  go_enter Try.func85, Try.ntmps85
  go_wp2
  refine name_world _ (fun WW HW => ?_)
  have F := three w (.cells #[.int .u64 a0, .int .u64 a1, .int .u64 a2, .int .u64 a3] 43) (.cells #[.int .u64 b0, .int .u64 b1, .int .u64 b2, .int .u64 b3] 43) (.cells #[.int .u64 0, .int .u64 0, .int .u64 0, .int .u64 0] 43)
  rw [HW.out] at F
  obtain ⟨bA, bB, bR, bL, bS⟩ := F
  have c0 := blk_cell bA 0; have c1 := blk_cell bA 1; have c2 := blk_cell bA 2; have c3 := blk_cell bA 3
  have d0 := blk_cell bB 0; have d1 := blk_cell bB 1
  have HA := Lib.hid bA; have HB := Lib.hid bB; have HR := Lib.hid bR; have HBL := Lib.hid bL; have HSZ := Lib.hid bS
  clear bA bB bR bL bS HW
  go_region_held3 (fun w' => w'.cell? ⟨w.heap.size, 0, none⟩ = some (.int .u64 a0) ∧ w'.cell? ⟨w.heap.size, 1, none⟩ = some (.int .u64 a1) ∧ w'.cell? ⟨w.heap.size, 2, none⟩ = some (.int .u64 a2) ∧ w'.cell? ⟨w.heap.size, 3, none⟩ = some (.int .u64 a3) ∧ w'.cell? ⟨w.heap.size + 1, 0, none⟩ = some (.int .u64 b0) ∧ w'.cell? ⟨w.heap.size + 1, 1, none⟩ = some (.int .u64 b1))
    (first | go_keep | exact ⟨c0, c1, c2, c3, d0, d1⟩)
    (first | (go_at_call 105; (with_reducible refine (A0 _).mono ?_); rintro e w1 ⟨rfl, rfl⟩) | (go_at_call 105; (with_reducible refine (A1 _).mono ?_); rintro e w1 ⟨rfl, rfl⟩))
  all_goals
    rw [HSZ.out]
    have gA := blk_drew (blk_alloc HA.out (Obj.cells #[.int .u64 p, .int .u64 q, .int .u64 a2, .int .u64 a3] 43)); have gB := blk_drew (blk_alloc HB.out (Obj.cells #[.int .u64 p, .int .u64 q, .int .u64 a2, .int .u64 a3] 43)); have gR := blk_drew (blk_alloc HR.out (Obj.cells #[.int .u64 p, .int .u64 q, .int .u64 a2, .int .u64 a3] 43)); have gL := below_drew (below_alloc HBL.out (Obj.cells #[.int .u64 p, .int .u64 q, .int .u64 a2, .int .u64 a3] 43))
    have gG : (WW.alloc (Obj.cells #[.int .u64 p, .int .u64 q, .int .u64 a2, .int .u64 a3] 43)).drew.heap[w.heap.size + 1 + 1 + 1]? = some (.cells #[.int .u64 p, .int .u64 q, .int .u64 a2, .int .u64 a3] 43 (0, 0)) := by rw [← HSZ.out]; exact blk_drew (blk_new WW (Obj.cells #[.int .u64 p, .int .u64 q, .int .u64 a2, .int .u64 a3] 43))
    obtain ⟨W2, hW2⟩ : ∃ W2, (WW.alloc (Obj.cells #[.int .u64 p, .int .u64 q, .int .u64 a2, .int .u64 a3] 43)).drew = W2 := ⟨_, rfl⟩
    rw [hW2] at gA gB gR gL gG ⊢
    clear hW2 c0 c1 c2 c3 d0 d1
    have c0 := blk_cell gA 0; have c1 := blk_cell gA 1; have c2 := blk_cell gA 2; have c3 := blk_cell gA 3
    have d0 := blk_cell gB 0; have d1 := blk_cell gB 1; have d2 := blk_cell gB 2; have d3 := blk_cell gB 3
    have g0 := blk_cell gG 0; have g1 := blk_cell gG 1; have g2 := blk_cell gG 2; have g3 := blk_cell gG 3
    have r0 := blk_cell gR 0; have r1 := blk_cell gR 1; have r2 := blk_cell gR 2; have r3 := blk_cell gR 3
    have fg0 := blk_frozen gG 0; have fg1 := blk_frozen gG 1; have fg2 := blk_frozen gG 2; have fg3 := blk_frozen gG 3
    have fr0 := blk_frozen gR 0; have fr1 := blk_frozen gR 1; have fr2 := blk_frozen gR 2; have fr3 := blk_frozen gR 3
    have HR2 := Lib.hid gR; have HBL2 := Lib.hid gL
    clear gA gB gG gR gL A0 A1
    cases z
    · cases y
      · cases l1
        · cases l2
          · go_wp2_with (first
              | (go_at_call 113; (with_reducible refine (L1 _).mono ?_); rintro e w1 ⟨rfl, ⟨n1, rfl⟩⟩; clear L1)
              | (go_at_call 113; (with_reducible refine (L2 _).mono ?_); rintro e w1 ⟨rfl, ⟨n2, rfl⟩⟩; clear L2))
            refine bodyPost_ret (results_cell_row rfl _ _ (w.heap.size + 1 + 1) 43 #[.int .u64 p, .int .u64 q, .int .u64 a2, .int .u64 a3] (0, 0) _ rfl (by (with_reducible repeat (first | refine blk_drewN ?_ _ | refine blk_drew ?_)); refine blk_put (cs := #[.int .u64 p, .int .u64 q, .int .u64 a2, .int .u64 0]) ?_ 3 _ rfl; (with_reducible repeat (first | refine blk_drewN ?_ _ | refine blk_drew ?_)); refine blk_put (cs := #[.int .u64 p, .int .u64 q, .int .u64 0, .int .u64 0]) ?_ 2 _ rfl; (with_reducible repeat (first | refine blk_drewN ?_ _ | refine blk_drew ?_)); refine blk_put (cs := #[.int .u64 p, .int .u64 0, .int .u64 0, .int .u64 0]) ?_ 1 _ rfl; (with_reducible repeat (first | refine blk_drewN ?_ _ | refine blk_drew ?_)); refine blk_put (cs := #[.int .u64 0, .int .u64 0, .int .u64 0, .int .u64 0]) ?_ 0 _ rfl; repeat (first | (with_reducible exact HR2.out) | (with_reducible refine blk_drewN ?_ _) | (with_reducible refine blk_drew ?_) | (with_reducible refine blk_far ?_ (by simp) _))) Try.underlying43 rfl (by kernel_rfl)) rfl ⟨rfl, ?_⟩
            repeat (first | (with_reducible exact HBL2.out) | (with_reducible refine pw_below_drewN ?_ _) | (with_reducible refine below_drew ?_) | (with_reducible refine below_set ?_ (by omega)))
          · go_wp2_with (first
              | (go_at_call 113; (with_reducible refine (L1 _).mono ?_); rintro e w1 ⟨rfl, ⟨n1, rfl⟩⟩; clear L1)
              | (go_at_call 113; (with_reducible refine (L2 _).mono ?_); rintro e w1 ⟨rfl, ⟨n2, rfl⟩⟩; clear L2))
            refine bodyPost_ret (results_cell_row rfl _ _ (w.heap.size + 1 + 1) 43 #[.int .u64 p, .int .u64 q, .int .u64 a2, .int .u64 b3] (0, 0) _ rfl (by (with_reducible repeat (first | refine blk_drewN ?_ _ | refine blk_drew ?_)); refine blk_put (cs := #[.int .u64 p, .int .u64 q, .int .u64 a2, .int .u64 0]) ?_ 3 _ rfl; (with_reducible repeat (first | refine blk_drewN ?_ _ | refine blk_drew ?_)); refine blk_put (cs := #[.int .u64 p, .int .u64 q, .int .u64 0, .int .u64 0]) ?_ 2 _ rfl; (with_reducible repeat (first | refine blk_drewN ?_ _ | refine blk_drew ?_)); refine blk_put (cs := #[.int .u64 p, .int .u64 0, .int .u64 0, .int .u64 0]) ?_ 1 _ rfl; (with_reducible repeat (first | refine blk_drewN ?_ _ | refine blk_drew ?_)); refine blk_put (cs := #[.int .u64 0, .int .u64 0, .int .u64 0, .int .u64 0]) ?_ 0 _ rfl; repeat (first | (with_reducible exact HR2.out) | (with_reducible refine blk_drewN ?_ _) | (with_reducible refine blk_drew ?_) | (with_reducible refine blk_far ?_ (by simp) _))) Try.underlying43 rfl (by kernel_rfl)) rfl ⟨rfl, ?_⟩
            repeat (first | (with_reducible exact HBL2.out) | (with_reducible refine pw_below_drewN ?_ _) | (with_reducible refine below_drew ?_) | (with_reducible refine below_set ?_ (by omega)))
        · cases l2
          · go_wp2_with (first
              | (go_at_call 113; (with_reducible refine (L1 _).mono ?_); rintro e w1 ⟨rfl, ⟨n1, rfl⟩⟩; clear L1)
              | (go_at_call 113; (with_reducible refine (L2 _).mono ?_); rintro e w1 ⟨rfl, ⟨n2, rfl⟩⟩; clear L2))
            refine bodyPost_ret (results_cell_row rfl _ _ (w.heap.size + 1 + 1) 43 #[.int .u64 p, .int .u64 q, .int .u64 b2, .int .u64 a3] (0, 0) _ rfl (by (with_reducible repeat (first | refine blk_drewN ?_ _ | refine blk_drew ?_)); refine blk_put (cs := #[.int .u64 p, .int .u64 q, .int .u64 b2, .int .u64 0]) ?_ 3 _ rfl; (with_reducible repeat (first | refine blk_drewN ?_ _ | refine blk_drew ?_)); refine blk_put (cs := #[.int .u64 p, .int .u64 q, .int .u64 0, .int .u64 0]) ?_ 2 _ rfl; (with_reducible repeat (first | refine blk_drewN ?_ _ | refine blk_drew ?_)); refine blk_put (cs := #[.int .u64 p, .int .u64 0, .int .u64 0, .int .u64 0]) ?_ 1 _ rfl; (with_reducible repeat (first | refine blk_drewN ?_ _ | refine blk_drew ?_)); refine blk_put (cs := #[.int .u64 0, .int .u64 0, .int .u64 0, .int .u64 0]) ?_ 0 _ rfl; repeat (first | (with_reducible exact HR2.out) | (with_reducible refine blk_drewN ?_ _) | (with_reducible refine blk_drew ?_) | (with_reducible refine blk_far ?_ (by simp) _))) Try.underlying43 rfl (by kernel_rfl)) rfl ⟨rfl, ?_⟩
            repeat (first | (with_reducible exact HBL2.out) | (with_reducible refine pw_below_drewN ?_ _) | (with_reducible refine below_drew ?_) | (with_reducible refine below_set ?_ (by omega)))
          · go_wp2_with (first
              | (go_at_call 113; (with_reducible refine (L1 _).mono ?_); rintro e w1 ⟨rfl, ⟨n1, rfl⟩⟩; clear L1)
              | (go_at_call 113; (with_reducible refine (L2 _).mono ?_); rintro e w1 ⟨rfl, ⟨n2, rfl⟩⟩; clear L2))
            refine bodyPost_ret (results_cell_row rfl _ _ (w.heap.size + 1 + 1) 43 #[.int .u64 p, .int .u64 q, .int .u64 b2, .int .u64 b3] (0, 0) _ rfl (by (with_reducible repeat (first | refine blk_drewN ?_ _ | refine blk_drew ?_)); refine blk_put (cs := #[.int .u64 p, .int .u64 q, .int .u64 b2, .int .u64 0]) ?_ 3 _ rfl; (with_reducible repeat (first | refine blk_drewN ?_ _ | refine blk_drew ?_)); refine blk_put (cs := #[.int .u64 p, .int .u64 q, .int .u64 0, .int .u64 0]) ?_ 2 _ rfl; (with_reducible repeat (first | refine blk_drewN ?_ _ | refine blk_drew ?_)); refine blk_put (cs := #[.int .u64 p, .int .u64 0, .int .u64 0, .int .u64 0]) ?_ 1 _ rfl; (with_reducible repeat (first | refine blk_drewN ?_ _ | refine blk_drew ?_)); refine blk_put (cs := #[.int .u64 0, .int .u64 0, .int .u64 0, .int .u64 0]) ?_ 0 _ rfl; repeat (first | (with_reducible exact HR2.out) | (with_reducible refine blk_drewN ?_ _) | (with_reducible refine blk_drew ?_) | (with_reducible refine blk_far ?_ (by simp) _))) Try.underlying43 rfl (by kernel_rfl)) rfl ⟨rfl, ?_⟩
            repeat (first | (with_reducible exact HBL2.out) | (with_reducible refine pw_below_drewN ?_ _) | (with_reducible refine below_drew ?_) | (with_reducible refine below_set ?_ (by omega)))
      · go_wp2
        refine bodyPost_ret (results_cell_row rfl _ _ (w.heap.size + 1 + 1) 43 #[.int .u64 p, .int .u64 q, .int .u64 a2, .int .u64 a3] (0, 0) _ rfl (by (with_reducible repeat (first | refine blk_drewN ?_ _ | refine blk_drew ?_)); refine blk_put (cs := #[.int .u64 p, .int .u64 q, .int .u64 a2, .int .u64 0]) ?_ 3 _ rfl; (with_reducible repeat (first | refine blk_drewN ?_ _ | refine blk_drew ?_)); refine blk_put (cs := #[.int .u64 p, .int .u64 q, .int .u64 0, .int .u64 0]) ?_ 2 _ rfl; (with_reducible repeat (first | refine blk_drewN ?_ _ | refine blk_drew ?_)); refine blk_put (cs := #[.int .u64 p, .int .u64 0, .int .u64 0, .int .u64 0]) ?_ 1 _ rfl; (with_reducible repeat (first | refine blk_drewN ?_ _ | refine blk_drew ?_)); refine blk_put (cs := #[.int .u64 0, .int .u64 0, .int .u64 0, .int .u64 0]) ?_ 0 _ rfl; repeat (first | (with_reducible exact HR2.out) | (with_reducible refine blk_drewN ?_ _) | (with_reducible refine blk_drew ?_) | (with_reducible refine blk_far ?_ (by simp) _))) Try.underlying43 rfl (by kernel_rfl)) rfl ⟨rfl, ?_⟩
        repeat (first | (with_reducible exact HBL2.out) | (with_reducible refine pw_below_drewN ?_ _) | (with_reducible refine below_drew ?_) | (with_reducible refine below_set ?_ (by omega)))
    · go_wp2
      refine bodyPost_ret (results_cell_row rfl _ _ (w.heap.size + 1 + 1) 43 #[.int .u64 p, .int .u64 q, .int .u64 b2, .int .u64 b3] (0, 0) _ rfl (by (with_reducible repeat (first | refine blk_drewN ?_ _ | refine blk_drew ?_)); refine blk_put (cs := #[.int .u64 p, .int .u64 q, .int .u64 b2, .int .u64 0]) ?_ 3 _ rfl; (with_reducible repeat (first | refine blk_drewN ?_ _ | refine blk_drew ?_)); refine blk_put (cs := #[.int .u64 p, .int .u64 q, .int .u64 0, .int .u64 0]) ?_ 2 _ rfl; (with_reducible repeat (first | refine blk_drewN ?_ _ | refine blk_drew ?_)); refine blk_put (cs := #[.int .u64 p, .int .u64 0, .int .u64 0, .int .u64 0]) ?_ 1 _ rfl; (with_reducible repeat (first | refine blk_drewN ?_ _ | refine blk_drew ?_)); refine blk_put (cs := #[.int .u64 0, .int .u64 0, .int .u64 0, .int .u64 0]) ?_ 0 _ rfl; repeat (first | (with_reducible exact HR2.out) | (with_reducible refine blk_drewN ?_ _) | (with_reducible refine blk_drew ?_) | (with_reducible refine blk_far ?_ (by simp) _))) Try.underlying43 rfl (by kernel_rfl)) rfl ⟨rfl, ?_⟩
      repeat (first | (with_reducible exact HBL2.out) | (with_reducible refine pw_below_drewN ?_ _) | (with_reducible refine below_drew ?_) | (with_reducible refine below_set ?_ (by omega)))
end Go.Proofs.Ytncgjbocgbnkcaa
namespace Go.Proofs.Ytncgjbocgbnkcaa.Pure
set_option linter.unusedVariables false
set_option linter.unusedSimpArgs false
open Go.RowKit Go.Proofs.Ytncgjbocgbnkcaa.Hi
theorem h_ext {s t : List Int} (hs : s.length = 7424) (ht : t.length = 7424) (h : ∀ i, i < 7424 → s.getD i 0 = t.getD i 0) : s = t := by
  refine List.ext_getElem (by omega) fun i h1 h2 => ?_
  have := h i (by omega)
  rwa [List.getD, List.getElem?_eq_getElem h1, List.getD, List.getElem?_eq_getElem h2] at this
theorem wf_u64 {x : Int} (h0 : 0 ≤ x) (h1 : x < 18446744073709551616) : (Lit.int .u64 x).wf = true := by
  rw [Lit.wf_int_iff]
  simp [IntKind.min, IntKind.max, IntKind.bits, IntKind.signed]; omega
theorem wf_i64 {x : Int} (h0 : -9223372036854775808 ≤ x) (h1 : x ≤ 9223372036854775807) : (Lit.int .i64 x).wf = true := by
  rw [Lit.wf_int_iff]
  simp [IntKind.min, IntKind.max, IntKind.bits, IntKind.signed]; omega
/-- Count by count, held. -/
def hplus (s t : List Int) : List Int := List.zipWith (fun x y => hold (x + y)) s t
theorem good_len {s : List Int} (h : hgood s = true) : s.length = 7424 := ((hgood_iff _).mp h).1
theorem good_get {s : List Int} (h : hgood s = true) (i : Nat) : 0 ≤ s.getD i 0 ∧ s.getD i 0 < 18446744073709551616 := getD_range ((hgood_iff _).mp h).2 i
theorem hplus_len {s t : List Int} (hs : s.length = 7424) (ht : t.length = 7424) : (hplus s t).length = 7424 := by
  unfold hplus; rw [List.length_zipWith]; omega
theorem hplus_get {s t : List Int} (hs : s.length = 7424) (ht : t.length = 7424) (i : Nat) (hi : i < 7424) : (hplus s t).getD i 0 = hold (s.getD i 0 + t.getD i 0) := by
  unfold hplus
  rw [List.getD, List.getElem?_zipWith, getD_get (by omega : i < s.length), getD_get (by omega : i < t.length)]; rfl
theorem hold_hold {x y z : Int} (hx : 0 ≤ x) (hz : 0 ≤ z) : hold (hold (x + y) + z) = hold (x + hold (y + z)) := by
  unfold hold
  repeat' split
  all_goals omega
theorem hplus_assoc {s t u : List Int} (hs : hgood s = true) (ht : hgood t = true) (hu : hgood u = true) : hplus (hplus s t) u = hplus s (hplus t u) := by
  have l1 := good_len hs; have l2 := good_len ht; have l3 := good_len hu
  refine h_ext (hplus_len (hplus_len l1 l2) l3) (hplus_len l1 (hplus_len l2 l3)) fun i hi => ?_
  rw [hplus_get (hplus_len l1 l2) l3 i hi, hplus_get l1 l2 i hi, hplus_get l1 (hplus_len l2 l3) i hi, hplus_get l2 l3 i hi]
  exact hold_hold (good_get hs i).1 (good_get hu i).1
theorem hplus_zero {s : List Int} (hs : hgood s = true) : hplus s (hzero 7424) = s := by
  have l1 := good_len hs; have l2 := good_len hzero_good
  refine h_ext (hplus_len l1 l2) l1 fun i hi => ?_
  rw [hplus_get l1 l2 i hi, hzero_getD, Int.add_zero]
  exact if_pos (good_get hs i).2
theorem hadd_plus {s : List Int} (hs : hgood s = true) (b : Nat) (hb : b < 7424) (n : Int) (hn : 0 ≤ n) (hn2 : n < 18446744073709551616) : hadd s b n = hplus s (hadd (hzero 7424) b n) := by
  have l1 := good_len hs; have g2 := hadd_good hzero_good b n hn; have l2 := good_len g2
  refine h_ext (good_len (hadd_good hs b n hn)) (hplus_len l1 l2) fun i hi => ?_
  rw [hplus_get l1 l2 i hi, hadd_getD s b i n (by omega), hadd_getD (hzero 7424) b i n (by rw [good_len hzero_good]; exact hb), hzero_getD, hzero_getD]
  by_cases c : i = b
  · rw [if_pos c, if_pos c, c, Int.zero_add]; rw [show hold n = n from if_pos hn2]
  · rw [if_neg c, if_neg c, Int.add_zero]; exact (if_pos (good_get hs i).2).symm
/-- Buckets that may be added. -/
def Bok (l : List S68) : Prop := ∀ b ∈ l, 0 ≤ b.f0 ∧ b.f0 < 7424 ∧ 0 ≤ b.f1 ∧ b.f1 < 18446744073709551616
theorem merged_good_of {l : List S68} (h : Bok l) : ∀ {s : List Int}, hgood s = true → hgood (merged s l) = true := by
  induction l with
  | nil => intro s hs; exact hs
  | cons b l ih => intro s hs; exact ih (fun x hx => h x (by simp [hx])) (hadd_good hs _ _ (h b (by simp)).2.2.1)
theorem merged_plus {l : List S68} (h : Bok l) : ∀ {s : List Int}, hgood s = true → merged s l = hplus s (merged (hzero 7424) l) := by
  induction l with
  | nil => intro s hs; exact (hplus_zero hs).symm
  | cons b l ih =>
    intro s hs
    obtain ⟨b0, b1, b2, b3⟩ := h b (by simp)
    have hl : Bok l := fun x hx => h x (by simp [hx])
    have i1 := ih hl (hadd_good hs b.f0.toNat b.f1 b2)
    have i2 := ih hl (hadd_good hzero_good b.f0.toNat b.f1 b2)
    have g := hadd_good hzero_good b.f0.toNat b.f1 b2
    have gm := merged_good_of hl hzero_good
    show merged (hadd s b.f0.toNat b.f1) l = hplus s (merged (hadd (hzero 7424) b.f0.toNat b.f1) l)
    rw [i1, i2, hadd_plus hs _ (by omega) _ b2 b3, hplus_assoc hs g gm]
theorem chk_ok : ∀ (l : List S68) (last : Int), -1 ≤ last → chkFrom last l = true → ∀ b ∈ l, last < b.f0 ∧ b.f0 < 7424 ∧ b.f1 ≠ 0 := by
  intro l
  induction l with
  | nil => intro last _ _ b hb; simp at hb
  | cons c l ih =>
    intro last h0 h b hb
    simp only [chkFrom, Bool.and_eq_true, decide_eq_true_eq, Bool.not_eq_true', beq_eq_false_iff_ne] at h
    obtain ⟨c1, c2, c3, c4⟩ := h
    rcases List.mem_cons.1 hb with rfl | hb
    · exact ⟨c1, c2, c3⟩
    · have := ih c.f0 (by omega) c4 b hb
      exact ⟨by omega, this.2⟩
theorem Bok.of {l : List S68} (hw : WB l) (hc : chk l = true) : Bok l := fun b hb => by
  have := chk_ok l (-1) (by omega) hc b hb
  have u := U.of (hw.2.2 b hb).2
  exact ⟨by omega, this.2.1, u.1, u.2⟩
theorem bksTo_ok {s : List Int} (hs : hgood s = true) : ∀ n, n ≤ 7424 → ∀ b ∈ bksTo s n, 0 ≤ b.f0 ∧ b.f0 < n ∧ 1 ≤ b.f1 ∧ b.f1 < 18446744073709551616 := by
  intro n
  induction n with
  | zero => intro _ b hb; simp [bksTo] at hb
  | succ n ih =>
    intro hn b hb
    have g := good_get hs n
    unfold bksTo at hb
    split at hb
    · rcases List.mem_append.1 hb with hb | hb
      · have := ih (by omega) b hb; omega
      · rw [List.mem_singleton] at hb
        subst hb
        exact ⟨by show 0 ≤ (n : Int); omega, by show (n : Int) < _; omega, by show 1 ≤ s.getD n 0; omega, g.2⟩
    · have := ih (by omega) b hb; omega
theorem bks_Bok {s : List Int} (hs : hgood s = true) : Bok (bks s) := fun b hb => by
  have := bksTo_ok hs 7424 (Nat.le_refl _) b hb
  exact ⟨this.1, by omega, by omega, this.2.2.2⟩
theorem chkFrom_snoc (b : S68) : ∀ (l : List S68) (last : Int), (∀ x ∈ l, x.f0 < b.f0) → last < b.f0 → b.f0 < 7424 → b.f1 ≠ 0 → chkFrom last l = true → chkFrom last (l ++ [b]) = true := by
  intro l
  induction l with
  | nil =>
    intro last _ h1 h2 h3 _
    simp only [List.nil_append, chkFrom, Bool.and_eq_true, decide_eq_true_eq, Bool.not_eq_true', beq_eq_false_iff_ne]
    exact ⟨h1, h2, h3, trivial⟩
  | cons c l ih =>
    intro last hx h1 h2 h3 h
    simp only [List.cons_append, chkFrom, Bool.and_eq_true, decide_eq_true_eq, Bool.not_eq_true', beq_eq_false_iff_ne] at h ⊢
    obtain ⟨c1, c2, c3, c4⟩ := h
    exact ⟨c1, c2, c3, ih c.f0 (fun x hx' => hx x (by simp [hx'])) (hx c (by simp)) h2 h3 c4⟩
theorem bksTo_chk {s : List Int} (hs : hgood s = true) : ∀ n, n ≤ 7424 → chkFrom (-1) (bksTo s n) = true := by
  intro n
  induction n with
  | zero => intro _; rfl
  | succ n ih =>
    intro hn
    unfold bksTo
    split
    · refine chkFrom_snoc _ _ _ (fun x hx => ?_) (by show -1 < (n : Int); omega) (by show (n : Int) < 7424; omega) (by show s.getD n 0 ≠ 0; omega) (ih (by omega))
      exact (bksTo_ok hs n (by omega) x hx).2.1
    · exact ih (by omega)
theorem bks_chk {s : List Int} (hs : hgood s = true) : chk (bks s) = true := bksTo_chk hs 7424 (Nat.le_refl _)
theorem bks_len (s : List Int) : (bks s).length ≤ 7424 := bksTo_len s 7424
theorem bks_WB {s : List Int} (hs : hgood s = true) : WB (bks s) := by
  have := bks_len s
  refine ⟨by omega, by omega, fun b hb => ?_⟩
  have := bksTo_ok hs 7424 (Nat.le_refl _) b hb
  exact ⟨wf_i64 (by omega) (by omega), wf_u64 (by omega) (by omega)⟩
theorem merged_snoc (s : List Int) (l : List S68) (b : S68) : merged s (l ++ [b]) = hadd (merged s l) b.f0.toNat b.f1 := by
  simp [merged, List.foldl_append]
theorem merged_bksTo {s : List Int} (hs : hgood s = true) : ∀ n, n ≤ 7424 → ∀ i, (merged (hzero 7424) (bksTo s n)).getD i 0 = if i < n then s.getD i 0 else 0 := by
  intro n
  induction n with
  | zero => intro _ i; rw [if_neg (by omega)]; exact hzero_getD i
  | succ n ih =>
    intro hn i
    have g := good_get hs n
    have hl : (merged (hzero 7424) (bksTo s n)).length = 7424 := good_len (merged_good_of (fun b hb => by have := bksTo_ok hs n (by omega) b hb; exact ⟨this.1, by omega, by omega, this.2.2.2⟩) hzero_good)
    unfold bksTo
    split
    · rw [merged_snoc, show ((⟨(n : Int), s.getD n 0⟩ : S68).f0).toNat = n from Int.toNat_natCast n, hadd_getD _ _ _ _ (by omega), ih (by omega) n, if_neg (Nat.lt_irrefl n), Int.zero_add]
      by_cases c : i = n
      · rw [if_pos c, if_pos (by omega), c]; exact if_pos g.2
      · rw [if_neg c, ih (by omega)]
        by_cases d : i < n
        · rw [if_pos d, if_pos (by omega)]
        · rw [if_neg d, if_neg (by omega)]
    · rw [ih (by omega)]
      by_cases d : i < n
      · rw [if_pos d, if_pos (by omega)]
      · rw [if_neg d]
        by_cases c : i = n
        · rw [if_pos (by omega), c]; omega
        · rw [if_neg (by omega)]
theorem merged_bks {s : List Int} (hs : hgood s = true) : merged (hzero 7424) (bks s) = s :=
  h_ext (good_len (merged_good_of (bks_Bok hs) hzero_good)) (good_len hs) fun i hi => by
    have := merged_bksTo hs 7424 (Nat.le_refl _) i
    rwa [if_pos hi] at this
end Go.Proofs.Ytncgjbocgbnkcaa.Pure
namespace Go.Proofs.Ytncgjbocgbnkcaa.Pure
set_option linter.unusedVariables false
set_option linter.unusedSimpArgs false
open Go.RowKit Go.Proofs.Ytncgjbocgbnkcaa.Hi Go.Proofs.YtncgjbocgbnkcaaW.PrintWords Go.Proofs.YtncgjbocgbnkcaaW.PrintLast
theorem chk_cons {last : Int} {b : S68} {l : List S68} : chkFrom last (b :: l) = true ↔ last < b.f0 ∧ b.f0 < 7424 ∧ b.f1 ≠ 0 ∧ chkFrom b.f0 l = true := by
  simp only [chkFrom, Bool.and_eq_true, decide_eq_true_eq, Bool.not_eq_true', beq_eq_false_iff_ne]
/-- How many of a bucket. -/
def look : List S68 → Int → Int
  | [], _ => 0
  | b :: r, i => if b.f0 = i then b.f1 else look r i
theorem look_low : ∀ {l : List S68} {last : Int}, chkFrom last l = true → ∀ i, i ≤ last → look l i = 0 := by
  intro l
  induction l with
  | nil => intro _ _ _ _; rfl
  | cons b l ih =>
    intro last h i hi
    obtain ⟨c1, c2, c3, c4⟩ := chk_cons.mp h
    show (if b.f0 = i then b.f1 else look l i) = 0
    rw [if_neg (by omega)]
    exact ih c4 i (by omega)
theorem look_high : ∀ {l : List S68} {last : Int}, chkFrom last l = true → ∀ i, 7424 ≤ i → look l i = 0 := by
  intro l
  induction l with
  | nil => intro _ _ _ _; rfl
  | cons b l ih =>
    intro last h i hi
    obtain ⟨c1, c2, c3, c4⟩ := chk_cons.mp h
    show (if b.f0 = i then b.f1 else look l i) = 0
    rw [if_neg (by omega)]
    exact ih c4 i hi
theorem look_mem : ∀ {l : List S68} {last : Int}, chkFrom last l = true → ∀ b ∈ l, look l b.f0 = b.f1 := by
  intro l
  induction l with
  | nil => intro _ _ b hb; simp at hb
  | cons c l ih =>
    intro last h b hb
    obtain ⟨c1, c2, c3, c4⟩ := chk_cons.mp h
    show (if c.f0 = b.f0 then c.f1 else look l b.f0) = b.f1
    rcases List.mem_cons.1 hb with rfl | hb
    · rw [if_pos rfl]
    · have := (chk_sorted l c.f0 c4 b hb).1
      rw [if_neg (by omega)]
      exact ih c4 b hb
theorem look_none : ∀ {l : List S68} (i : Int), (∀ b ∈ l, b.f0 ≠ i) → look l i = 0 := by
  intro l
  induction l with
  | nil => intro _ _; rfl
  | cons b l ih =>
    intro i h
    show (if b.f0 = i then b.f1 else look l i) = 0
    rw [if_neg (h b (by simp))]
    exact ih i (fun x hx => h x (by simp [hx]))
theorem look_ge {l : List S68} (h : ∀ b ∈ l, 0 ≤ b.f1 ∧ b.f1 < 18446744073709551616) (i : Int) : 0 ≤ look l i ∧ look l i < 18446744073709551616 := by
  induction l with
  | nil => show (0 : Int) ≤ 0 ∧ (0 : Int) < 18446744073709551616; omega
  | cons b l ih =>
    show 0 ≤ (if b.f0 = i then b.f1 else look l i) ∧ (if b.f0 = i then b.f1 else look l i) < 18446744073709551616
    split
    · exact h b (by simp)
    · exact ih (fun x hx => h x (by simp [hx]))
/-- Two lists that may be and tell the same are the same. -/
theorem look_ext : ∀ {l l' : List S68} {last : Int}, chkFrom last l = true → chkFrom last l' = true → (∀ i, last < i → look l i = look l' i) → l = l' := by
  intro l
  induction l with
  | nil =>
    intro l' last _ h' he
    cases l' with
    | nil => rfl
    | cons b r =>
      obtain ⟨c1, c2, c3, c4⟩ := chk_cons.mp h'
      have := he b.f0 c1
      have e : look (b :: r) b.f0 = b.f1 := if_pos rfl
      rw [e] at this
      exact absurd this.symm c3
  | cons a r ih =>
    intro l' last h h' he
    obtain ⟨a1, a2, a3, a4⟩ := chk_cons.mp h
    cases l' with
    | nil =>
      have := he a.f0 a1
      have e : look (a :: r) a.f0 = a.f1 := if_pos rfl
      rw [e] at this
      exact absurd this a3
    | cons b r' =>
      obtain ⟨b1, b2, b3, b4⟩ := chk_cons.mp h'
      have ea : look (a :: r) a.f0 = a.f1 := if_pos rfl
      have eb : look (b :: r') b.f0 = b.f1 := if_pos rfl
      have ha := he a.f0 a1
      have hb := he b.f0 b1
      rw [ea] at ha
      rw [eb] at hb
      have h0 : a.f0 = b.f0 := by
        rcases Int.lt_trichotomy a.f0 b.f0 with c | c | c
        · have e : look (b :: r') a.f0 = look r' a.f0 := if_neg (by omega)
          rw [e, look_low b4 _ (by omega)] at ha
          exact absurd ha a3
        · exact c
        · have e : look (a :: r) b.f0 = look r b.f0 := if_neg (by omega)
          rw [e, look_low a4 _ (by omega)] at hb
          exact absurd hb.symm b3
      have h1 : a.f1 = b.f1 := by rw [ha, h0, eb]
      have hab : a = b := by cases a; cases b; simp at h0 h1; rw [h0, h1]
      subst hab
      congr 1
      refine ih a4 b4 fun i hi => ?_
      have := he i (by omega)
      have e1 : look (a :: r) i = look r i := if_neg (by omega)
      have e2 : look (a :: r') i = look r' i := if_neg (by omega)
      rwa [e1, e2] at this
theorem merged_look {l : List S68} (hb : Bok l) (hc : chk l = true) (i : Nat) : (merged (hzero 7424) l).getD i 0 = look l (i : Int) := by
  obtain ⟨_, _, h3, h4⟩ := merged_spec l (hzero 7424) (-1) hzero_good (by omega) hc (fun b hm => wf_u64 (hb b hm).2.2.1 (hb b hm).2.2.2) (fun i _ => hzero_getD i)
  by_cases c : ∀ b ∈ l, b.f0 ≠ (i : Int)
  · rw [h4 i (by omega) c, look_none _ c]
  · have : ∃ b, b ∈ l ∧ b.f0 = (i : Int) := by
      refine Classical.byContradiction fun h => c fun b hb he => h ⟨b, hb, he⟩
    obtain ⟨b, hm, he⟩ := this
    have e1 := (h3 b hm).2.2.2
    rw [he, Int.toNat_natCast] at e1
    rw [e1, ← he, look_mem hc b hm]
theorem look_bks {s : List Int} (hs : hgood s = true) (i : Nat) : look (bks s) (i : Int) = s.getD i 0 := by
  rw [← merged_look (bks_Bok hs) (bks_chk hs), merged_bks hs]
/-- The list that tells what a histogram holds is its buckets. -/
theorem bks_of {s : List Int} (hs : hgood s = true) {l : List S68} (hc : chk l = true) (h : ∀ i : Nat, i < 7424 → look l (i : Int) = s.getD i 0) : l = bks s := by
  refine look_ext hc (bks_chk hs) fun i hi => ?_
  by_cases c : i < 7424
  · obtain ⟨n, rfl⟩ : ∃ n : Nat, i = n := ⟨i.toNat, by omega⟩
    rw [h n (by omega), look_bks hs]
  · rw [look_high hc _ (by omega), look_high (bks_chk hs) _ (by omega)]
theorem bks_merged {l : List S68} (hb : Bok l) (hc : chk l = true) : bks (merged (hzero 7424) l) = l :=
  (bks_of (merged_good_of hb hzero_good) hc fun i _ => (merged_look hb hc i).symm).symm
def insB (b v : Int) : List S68 → List S68
  | [] => [⟨b, v⟩]
  | x :: r => if x.f0 = b then ⟨b, hold (x.f1 + v)⟩ :: r else if x.f0 > b then ⟨b, v⟩ :: x :: r else x :: insB b v r
theorem hold_ne {x : Int} (h : 1 ≤ x) : hold x ≠ 0 := by unfold hold; split <;> omega
theorem insB_chk (b v : Int) (hb : b < 7424) (hv : 1 ≤ v) : ∀ (l : List S68) (last : Int), last < b → (∀ x ∈ l, 0 ≤ x.f1) → chkFrom last l = true → chkFrom last (insB b v l) = true := by
  intro l
  induction l with
  | nil => intro last h _ _; exact chk_cons.mpr ⟨h, hb, by show v ≠ 0; omega, rfl⟩
  | cons x r ih =>
    intro last h hn hc
    obtain ⟨c1, c2, c3, c4⟩ := chk_cons.mp hc
    have := hn x (by simp)
    unfold insB
    split
    · rename_i e; exact chk_cons.mpr ⟨h, hb, hold_ne (by omega), by rw [e] at c4; exact c4⟩
    · split
      · rename_i e; exact chk_cons.mpr ⟨h, hb, by show v ≠ 0; omega, chk_cons.mpr ⟨by show b < _; omega, c2, c3, c4⟩⟩
      · exact chk_cons.mpr ⟨c1, c2, c3, ih x.f0 (by omega) (fun y hy => hn y (by simp [hy])) c4⟩
theorem insB_look (b v : Int) (hv : 0 ≤ v ∧ v < 18446744073709551616) : ∀ (l : List S68) (last : Int), chkFrom last l = true → ∀ i, look (insB b v l) i = if i = b then hold (look l b + v) else look l i := by
  intro l
  have hv' : hold (0 + v) = v := by unfold hold; rw [if_pos (by omega)]; omega
  induction l with
  | nil =>
    intro last _ i
    show (if b = i then v else 0) = if i = b then hold (0 + v) else 0
    rw [hv']
    by_cases c : i = b
    · rw [if_pos c.symm, if_pos c]
    · rw [if_neg (fun h => c h.symm), if_neg c]
  | cons x r ih =>
    intro last hc i
    obtain ⟨c1, c2, c3, c4⟩ := chk_cons.mp hc
    unfold insB
    by_cases e1 : x.f0 = b
    · rw [if_pos e1]
      show (if b = i then hold (x.f1 + v) else look r i) = if i = b then hold ((if x.f0 = b then x.f1 else look r b) + v) else (if x.f0 = i then x.f1 else look r i)
      rw [if_pos e1]
      by_cases c : i = b
      · rw [if_pos c.symm, if_pos c]
      · rw [if_neg (fun h => c h.symm), if_neg c, if_neg (by omega)]
    · rw [if_neg e1]
      by_cases e2 : x.f0 > b
      · rw [if_pos e2]
        show (if b = i then v else (if x.f0 = i then x.f1 else look r i)) = if i = b then hold ((if x.f0 = b then x.f1 else look r b) + v) else (if x.f0 = i then x.f1 else look r i)
        rw [if_neg e1, look_low c4 b (by omega), hv']
        by_cases c : i = b
        · rw [if_pos c.symm, if_pos c]
        · rw [if_neg (fun h => c h.symm), if_neg c]
      · rw [if_neg e2]
        show (if x.f0 = i then x.f1 else look (insB b v r) i) = if i = b then hold ((if x.f0 = b then x.f1 else look r b) + v) else (if x.f0 = i then x.f1 else look r i)
        rw [ih x.f0 c4 i, if_neg e1]
        by_cases c : i = b
        · rw [if_neg (by omega), if_pos c, if_pos c]
        · rw [if_neg c, if_neg c]
theorem bks_add {s : List Int} (hs : hgood s = true) (b : Nat) (hb : b < 7424) (v : Int) (hv : 1 ≤ v ∧ v < 18446744073709551616) : insB b v (bks s) = bks (hadd s b v) := by
  have hk := bks_Bok hs
  have g := hadd_good hs b v (by omega)
  refine bks_of g (insB_chk b v (by omega) hv.1 _ (-1) (by omega) (fun x hx => (hk x hx).2.2.1) (bks_chk hs)) fun i hi => ?_
  rw [insB_look b v ⟨by omega, hv.2⟩ _ (-1) (bks_chk hs), look_bks hs, look_bks hs, hadd_getD s b i v (by have := good_len hs; omega)]
  by_cases c : i = b
  · rw [if_pos (by omega), if_pos c]
  · rw [if_neg (by omega), if_neg c]
def mrg : List S68 → List S68 → List S68
  | [], ys => ys
  | x :: xs, [] => x :: xs
  | x :: xs, y :: ys => if x.f0 < y.f0 then x :: mrg xs (y :: ys) else if y.f0 < x.f0 then y :: mrg (x :: xs) ys else ⟨x.f0, hold (x.f1 + y.f1)⟩ :: mrg xs ys
termination_by xs ys => xs.length + ys.length
theorem mrg_spec : ∀ (n : Nat) (a b : List S68) (last : Int), a.length + b.length ≤ n → chkFrom last a = true → chkFrom last b = true → (∀ x ∈ a, 0 ≤ x.f1 ∧ x.f1 < 18446744073709551616) → (∀ x ∈ b, 0 ≤ x.f1 ∧ x.f1 < 18446744073709551616) →
    chkFrom last (mrg a b) = true ∧ ∀ i, look (mrg a b) i = hold (look a i + look b i) := by
  intro n
  induction n with
  | zero =>
    intro a b last hn ha hb _ _
    obtain rfl : a = [] := List.length_eq_zero_iff.mp (by omega)
    obtain rfl : b = [] := List.length_eq_zero_iff.mp (by omega)
    rw [mrg]
    exact ⟨rfl, fun i => rfl⟩
  | succ n ih =>
    intro a b last hn ha hb wa wb
    cases a with
    | nil =>
      rw [mrg]
      refine ⟨hb, fun i => ?_⟩
      have := look_ge wb i
      show look b i = hold (0 + look b i)
      rw [Int.zero_add]; exact (if_pos this.2).symm
    | cons x xs =>
      cases b with
      | nil =>
        rw [mrg]
        refine ⟨ha, fun i => ?_⟩
        have := look_ge wa i
        show look (x :: xs) i = hold (look (x :: xs) i + 0)
        rw [Int.add_zero]; exact (if_pos this.2).symm
      | cons y ys =>
        have x1 := wa x (by simp); have y1 := wb y (by simp)
        have wa' : ∀ z ∈ xs, 0 ≤ z.f1 ∧ z.f1 < 18446744073709551616 := fun z hz => wa z (by simp [hz])
        have wb' : ∀ z ∈ ys, 0 ≤ z.f1 ∧ z.f1 < 18446744073709551616 := fun z hz => wb z (by simp [hz])
        obtain ⟨a1, a2, a3, a4⟩ := chk_cons.mp ha
        obtain ⟨b1, b2, b3, b4⟩ := chk_cons.mp hb
        have hx : hold x.f1 = x.f1 := if_pos x1.2
        have hy : hold y.f1 = y.f1 := if_pos y1.2
        simp only [List.length_cons] at hn
        rw [mrg]
        by_cases c1 : x.f0 < y.f0
        · rw [if_pos c1]
          obtain ⟨h1, h2⟩ := ih xs (y :: ys) x.f0 (by simp only [List.length_cons]; omega) a4 (chk_cons.mpr ⟨c1, b2, b3, b4⟩) wa' wb
          refine ⟨chk_cons.mpr ⟨a1, a2, a3, h1⟩, fun i => ?_⟩
          show (if x.f0 = i then x.f1 else look (mrg xs (y :: ys)) i) = hold ((if x.f0 = i then x.f1 else look xs i) + look (y :: ys) i)
          by_cases c : x.f0 = i
          · rw [if_pos c, if_pos c, look_low (chk_cons.mpr ⟨c1, b2, b3, b4⟩ : chkFrom x.f0 (y :: ys) = true) i (by omega), Int.add_zero, hx]
          · rw [if_neg c, if_neg c]; exact h2 i
        · rw [if_neg c1]
          by_cases c2 : y.f0 < x.f0
          · rw [if_pos c2]
            obtain ⟨h1, h2⟩ := ih (x :: xs) ys y.f0 (by simp only [List.length_cons]; omega) (chk_cons.mpr ⟨c2, a2, a3, a4⟩) b4 wa wb'
            refine ⟨chk_cons.mpr ⟨b1, b2, b3, h1⟩, fun i => ?_⟩
            show (if y.f0 = i then y.f1 else look (mrg (x :: xs) ys) i) = hold (look (x :: xs) i + (if y.f0 = i then y.f1 else look ys i))
            by_cases c : y.f0 = i
            · rw [if_pos c, if_pos c, look_low (chk_cons.mpr ⟨c2, a2, a3, a4⟩ : chkFrom y.f0 (x :: xs) = true) i (by omega), Int.zero_add, hy]
            · rw [if_neg c, if_neg c]; exact h2 i
          · rw [if_neg c2]
            have e : x.f0 = y.f0 := by omega
            obtain ⟨h1, h2⟩ := ih xs ys x.f0 (by omega) a4 (by rw [e]; exact b4) wa' wb'
            refine ⟨chk_cons.mpr ⟨a1, a2, hold_ne (by omega), h1⟩, fun i => ?_⟩
            show (if x.f0 = i then hold (x.f1 + y.f1) else look (mrg xs ys) i) = hold ((if x.f0 = i then x.f1 else look xs i) + (if y.f0 = i then y.f1 else look ys i))
            by_cases c : x.f0 = i
            · rw [if_pos c, if_pos c, if_pos (by omega)]
            · rw [if_neg c, if_neg c, if_neg (by omega)]; exact h2 i
theorem bks_mrg {s : List Int} (hs : hgood s = true) {l : List S68} (hb : Bok l) (hc : chk l = true) : mrg (bks s) l = bks (merged s l) := by
  have hk := bks_Bok hs
  obtain ⟨h1, h2⟩ := mrg_spec _ (bks s) l (-1) (Nat.le_refl _) (bks_chk hs) hc (fun x hx => (hk x hx).2.2) (fun x hx => (hb x hx).2.2)
  refine bks_of (merged_good_of hb hs) h1 fun i hi => ?_
  have gm := merged_good_of hb hzero_good
  rw [h2, look_bks hs, merged_plus hb hs, hplus_get (good_len hs) (good_len gm) i hi, merged_look hb hc]
theorem rd_S51 {l : List S68} {n : Nat} (h : n < l.length) : l.drop n = rd_T68 l (n : Int) :: l.drop (n + 1) := rd_drop h
theorem refMerge_end (a b : List S68) (i j k : Nat) (out : List S68) (hi : a.length ≤ i) (hj : b.length ≤ j) (hk : 1 < k) : varveref07_Merge.l0 k a b out (i : Int) (j : Int) = some (out ++ mrg (a.drop i) (b.drop j)) := by
  obtain ⟨k, rfl⟩ : ∃ m, k = m + 2 := ⟨k - 2, by omega⟩
  simp only [varveref07_Merge.l0, varveref07_Merge.j1, ↓reduceIte]
  rw [if_neg (by omega), decide_eq_false (by omega), if_neg (by simp), List.drop_of_length_le (by omega), List.drop_of_length_le (l := b) (by omega), mrg, List.append_nil]
theorem refMerge_l0 (a b : List S68) (hl : a.length + b.length ≤ 8000000000000) (ha : ∀ x ∈ a, 0 ≤ x.f1 ∧ x.f1 < 18446744073709551616) (hb : ∀ x ∈ b, 0 ≤ x.f1 ∧ x.f1 < 18446744073709551616) : ∀ (d i j k : Nat) (out : List S68), i ≤ a.length → j ≤ b.length → (a.length - i) + (b.length - j) ≤ d → 3 * d + 1 < k → out.length ≤ i + j →
    varveref07_Merge.l0 k a b out (i : Int) (j : Int) = some (out ++ mrg (a.drop i) (b.drop j)) := by
  intro d
  induction d with
  | zero => intro i j k out hi hj hd hk ho; exact refMerge_end a b i j k out (by omega) (by omega) (by omega)
  | succ d ih =>
    intro i j k out hi hj hd hk ho
    by_cases c0 : a.length ≤ i ∧ b.length ≤ j
    · exact refMerge_end a b i j k out c0.1 c0.2 (by omega)
    obtain ⟨k, rfl⟩ : ∃ m, k = m + 3 := ⟨k - 3, by omega⟩
    have A := fun (h : i < a.length) => rd_S51 h
    have B := fun (h : j < b.length) => rd_S51 h
    have IA := fun (h : i < a.length) o (ho : o ≤ i + 1 + j) => ih (i + 1) j k
    simp only [varveref07_Merge.l0, varveref07_Merge.j1, ↓reduceIte]
    have first : (if (i : Int) < (a.length : Int) then (if (j : Int) ≥ (b.length : Int) then varveref07_Merge.j2 (k + 1) a b out i j true else if (i : Int) < (a.length : Int) then if 0 ≤ (i : Int) then if 0 ≤ (j : Int) then if (j : Int) < (b.length : Int) then varveref07_Merge.j2 (k + 1) a b out i j (decide ((rd_T68 a i).f0 < (rd_T68 b j).f0)) else none else none else none else varveref07_Merge.j2 (k + 1) a b out i j false)
        else varveref07_Merge.j2 (k + 1) a b out i j false) = some (out ++ mrg (a.drop i) (b.drop j)) := by
      simp only [varveref07_Merge.j2, ↓reduceIte, Bool.false_eq_true]
      by_cases ci : i < a.length
      · have hxm : rd_T68 a (i : Int) ∈ a := List.mem_of_mem_drop (i := i) (by rw [A ci]; simp)
        have hx := ha _ hxm
        rw [if_pos (by omega)]
        by_cases cj : j < b.length
        · have hym : rd_T68 b (j : Int) ∈ b := List.mem_of_mem_drop (i := j) (by rw [B cj]; simp)
          have hy := hb _ hym
          rw [if_neg (by omega), if_pos (by omega), if_pos (by omega), if_pos (by omega), if_pos (by omega), A ci, B cj, mrg]
          rw [← A ci, ← B cj]
          by_cases c1 : (rd_T68 a (i : Int)).f0 < (rd_T68 b (j : Int)).f0
          · rw [decide_eq_true c1, if_pos rfl, if_pos c1, if_pos (by omega), if_pos (by omega), if_pos (by omega), w64 (by omega) (by omega), show (i : Int) + 1 = ((i + 1 : Nat) : Int) by omega, ih (i + 1) j k _ (by omega) hj (by omega) (by omega) (by rw [List.length_append]; simp; omega)]
            simp
          · rw [decide_eq_false c1, if_neg (by simp), if_neg c1, if_neg (by omega), if_pos (by omega), if_pos (by omega), if_pos (by omega), if_pos (by omega)]
            by_cases c2 : (rd_T68 b (j : Int)).f0 < (rd_T68 a (i : Int)).f0
            · rw [if_pos c2, if_pos c2, if_pos (by omega), w64 (by omega) (by omega), show (j : Int) + 1 = ((j + 1 : Nat) : Int) by omega, ih i (j + 1) k _ hi (by omega) (by omega) (by omega) (by rw [List.length_append]; simp; omega)]
              simp
            · rw [if_neg c2, if_neg c2]
              unfold varveref01_Add.f
              rw [if_pos ⟨hx, hy⟩, Option.bind_some, if_pos (by omega), w64 (by omega) (by omega), w64 (by omega) (by omega), show (i : Int) + 1 = ((i + 1 : Nat) : Int) by omega, show (j : Int) + 1 = ((j + 1 : Nat) : Int) by omega, ih (i + 1) (j + 1) k _ (by omega) (by omega) (by omega) (by omega) (by rw [List.length_append]; simp; omega)]
              simp
        · rw [if_pos (by omega), if_pos (by omega), if_pos (by omega), if_pos (by omega), w64 (by omega) (by omega), show (i : Int) + 1 = ((i + 1 : Nat) : Int) by omega, ih (i + 1) j k _ (by omega) hj (by omega) (by omega) (by rw [List.length_append]; simp; omega), A ci, List.drop_of_length_le (l := b) (by omega), mrg]
          cases hD : a.drop (i + 1) with
          | nil => rw [mrg]; simp
          | cons z zs => rw [mrg]; simp
      · rw [if_neg (by omega), if_pos (by omega), if_pos (by omega), if_pos (by omega), if_pos (by omega), w64 (by omega) (by omega), show (j : Int) + 1 = ((j + 1 : Nat) : Int) by omega, ih i (j + 1) k _ hi (by omega) (by omega) (by omega) (by rw [List.length_append]; simp; omega), B (by omega), List.drop_of_length_le (l := a) (by omega), mrg, mrg]
        simp
    by_cases ci : i < a.length
    · rw [if_pos (by omega)]; rw [if_pos (by omega)] at first; exact first
    · rw [if_neg (by omega), decide_eq_true (by omega), if_pos rfl]
      rw [if_neg (by omega)] at first
      rw [if_neg (by omega), if_neg (by omega)]
      exact first
theorem refMerge_list {s : List Int} (hs : hgood s = true) {l : List S68} (hb : Bok l) (hc : chk l = true) (hl : l.length ≤ 7424) (k : Nat) (hk : 50000 ≤ k) : varveref07_Merge.f k (bks s) l = some (bks (merged s l)) := by
  have h1 := bks_len s
  unfold varveref07_Merge.f
  have := refMerge_l0 (bks s) l (by omega) (fun x hx => (bks_Bok hs x hx).2.2) (fun x hx => (hb x hx).2.2) _ 0 0 k [] (by omega) (by omega) (Nat.le_refl _) (by simp; omega) (by simp)
  rw [← bks_mrg hs hb hc]
  simpa using this
end Go.Proofs.Ytncgjbocgbnkcaa.Pure
