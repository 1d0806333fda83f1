/- hist.Hist.Buckets by a walk over its Go text: a new list of the buckets in which something was seen. -/
import Derived.Test.YtlfjfgcalilnpaaHMerge
import Derived.Laws.Rows
namespace Go.Proofs.Ytlfjfgcalilnpaa
set_option linter.unusedVariables false
set_option linter.unusedSimpArgs false
open Go.RowKit Go.Proofs.YtlfjfgcalilnpaaW.PrintWords Go.Proofs.YtlfjfgcalilnpaaW.PrintLast Go.Proofs.YtlfjfgcalilnpaaW.PrintMore Go.Proofs.Ytlfjfgcalilnpaa.Hi

/-- The buckets in which something was seen, of the first n. -/
def bksTo (l : List Int) : Nat → List S75
  | 0 => []
  | n + 1 => if l.getD n 0 > 0 then bksTo l n ++ [(⟨(n : Int), l.getD n 0⟩ : S75)] else bksTo l n
def bks (l : List Int) : List S75 := bksTo l 7424
theorem bksTo_len (l : List Int) (n : Nat) : (bksTo l n).length ≤ n := by
  induction n with
  | zero => exact Nat.le_refl _
  | succ n ih =>
    unfold bksTo
    split
    · rw [List.length_append, List.length_cons, List.length_nil]; omega
    · omega

set_option maxHeartbeats 1000000 in
set_option maxRecDepth 100000 in
theorem bk_any (g : Nat) (l : List Int) (w : World) (hH : w.heap[g]? = some (.cells (hcells l) 103 (0, 0))) (hl : l.length = 7424) :
    Calls Try.prog 82 #[.pointer (some ⟨g, 0, none⟩)] w fun e w' => ∃ v0_ : Value, e = .returned v0_ ∧ Kd.R k75 75 w' w.heap.size (fun _ => True) v0_ (bks l) ∧ Below w.heap.size w w' := by
  have hinfo : (Try.prog.info? 101).map (·.size) = some (hcells l).size := by rw [info101, hcells_size, hl]
  have HH := Lib.hid hH; have HL := Lib.hid hl
  have HB := Aside0.mk (Below.refl w.heap.size w)
  clear hH hl
  go_enter Try.func82, Try.ntmps82
  go_wp2_with (refine wpList_load_row rfl _ _ rfl g rfl 103 (hcells l) (0, 0) _ HH.out Try.underlying101 rfl hinfo ?_)
  clear hinfo
  go_loopw [3, 4, 5, 13] (fun s _ _ i wr => ∃ j : Nat, j ≤ 7424 ∧ i = .int .i64 j ∧ Aside0 (Kd.R k75 75 wr w.heap.size (fun _ => True) s (bksTo l j)) ∧ Aside0 (Below w.heap.size w wr)) (fun _ _ _ i _ => 7424 - (intOf i).toNat)
  case atStart => exact ⟨0, Nat.zero_le _, rfl, ⟨Kd.R_nil _ _ _ _ _⟩, HB⟩
  case round =>
    clear HB
    obtain ⟨j, hj, rfl, HO, HB⟩ := hrel
    by_cases hlt : j < 7424
    · have hl := HL.out
      obtain ⟨y, hy⟩ : ∃ y, l[j]? = some y := ⟨_, List.getElem?_eq_getElem (by omega)⟩
      have hyd : l.getD j 0 = y := by rw [List.getD, hy]; rfl
      have hidx := fun w => run_index101 l j y w hlt hy
      have hd : decide ((j : Int) < 7424) = true := decide_eq_true (by omega)
      have hln := bksTo_len l j
      by_cases hp : y > 0
      · have hp0 : decide (0 < y) = true := decide_eq_true hp
        have HY : Hid (bksTo l (j + 1) = bksTo l j ++ [(⟨(j : Int), y⟩ : S75)]) := by rw [bksTo, hyd, if_pos hp]; exact Lib.hid rfl
        have LN := Aside0.mk hln
        clear hl hy hyd hln hp
        go_wp2_with ((with_reducible refine gate_builtin (b := .append) (xs := #[.tmp 19, .tmp 23]) rfl ?_); at_builtin; refine Kd.R_append k75 (w0 := w) w.heap.size rfl (.tmp 19) (.tmp 23) 34 75 (.agg #[(.int .i64 0), (.int .u64 0)]) 16 rfl Try.underlying34 info75 rfl (by decide) (by omega) u3 (bksTo l j) (⟨(j : Int), y⟩ : S75) [.int .i64 (j : Int), .int .u64 y] (fun _ => True) (fun _ => False) rfl rfl ?aP (fun _ hk => hk.elim) ?aF ?aO ?aB ?aS ?aL ?_; (case aP => exact k75_mkM _ _ _ (⟨(j : Int), y⟩ : S75)); (case aB => exact (by repeat (first | (with_reducible first | exact HB.out | apply below_alloc | apply pw_below_drewN | apply below_drew1) | exact HB.out))); (case aF => exact (fun _ _ => trivial)); (case aO => exact (by (with_reducible repeat (first | apply Kd.R_alloc | apply Kd.R_drewN | apply Kd.R_drew)); exact HO.out)); (case aS => exact (below_size (by repeat (first | (with_reducible first | exact HB.out | apply below_alloc | apply pw_below_drewN | apply below_drew1) | exact HB.out)))); (case aL => have := LN.out; omega); intro v128 w13 ho hb hg hat; rw [← HY.out] at ho; have n0_ := Aside0.mk (hb); have n1_ := Aside0.mk (ho); clear HB; clear HO; have HB := n0_; have HO := n1_; clear n0_ n1_; clear ho hb hg hat)
        go_roundw
        case rel => exact ⟨j + 1, by omega, by go_num, HO, HB⟩
        case measure => simp [intOf]; omega
      · have hp0 : decide (0 < y) = false := decide_eq_false hp
        have HY : Hid (bksTo l (j + 1) = bksTo l j) := by rw [bksTo, hyd, if_neg hp]; exact Lib.hid rfl
        clear hl hy hyd hln hp
        go_wp2
        go_roundw
        case rel => exact ⟨j + 1, by omega, by go_num, ⟨by rw [HY.out]; exact HO.out⟩, HB⟩
        case measure => simp [intOf]; omega
    · have hj2 : j = 7424 := by omega
      subst hj2
      clear hlt
      go_wp2
      go_ret
      exact ⟨_, rfl, HO.out, HB.out⟩
end Go.Proofs.Ytlfjfgcalilnpaa
