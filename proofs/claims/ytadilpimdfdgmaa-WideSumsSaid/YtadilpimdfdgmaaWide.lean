/- What the leaf functions of package wide compute, by walks over their Go text. -/
import Derived.Test.YtadilpimdfdgmaaDiv
import Derived.WalkSpells
import Derived.WalkLawsBesides
import Derived.Laws.Externs
namespace Go.Proofs.Ytadilpimdfdgmaa
open Go.RowKit Go.Proofs.YtadilpimdfdgmaaW.PrintWords Go.Proofs.YtadilpimdfdgmaaW.PrintLast Go.Proofs.YtadilpimdfdgmaaW.PrintMore

theorem mul64_eq (a0 a1 : Int) (w : World) (h0 : 0 ≤ a0) (h1 : a0 < 18446744073709551616) (h2 : 0 ≤ a1) (h3 : a1 < 18446744073709551616) :
    Calls Try.prog 36 #[.int .u64 a0, .int .u64 a1] w fun e w' => e = .returned (.tuple #[.int .u64 (a0 * a1 / 18446744073709551616), .int .u64 (a0 * a1 % 18446744073709551616)]) ∧ w = w' := by
  obtain ⟨x, rfl⟩ : ∃ n : Nat, a0 = n := ⟨a0.toNat, by omega⟩
  obtain ⟨y, rfl⟩ : ∃ n : Nat, a1 = n := ⟨a1.toNat, by omega⟩
  refine (Try.bits_Mul64 x y (by omega) (by omega) w).mono fun e w' ⟨he, hw⟩ => ⟨?_, hw.symm⟩
  rw [he, Int.natCast_ediv, Int.natCast_emod, Int.natCast_mul]
  rfl
theorem mul64_any (a0 a1 : Int) (w : World) (h0 : 0 ≤ a0) (h1 : a0 < 18446744073709551616) (h2 : 0 ≤ a1) (h3 : a1 < 18446744073709551616) :
    Calls Try.prog 36 #[.int .u64 a0, .int .u64 a1] w fun e w' => e = .returned (.tuple #[.int .u64 (a0 * a1 / 18446744073709551616), .int .u64 (a0 * a1 % 18446744073709551616)]) ∧ Drawn0 w w' := by
  obtain ⟨x, rfl⟩ : ∃ n : Nat, a0 = n := ⟨a0.toNat, by omega⟩
  obtain ⟨y, rfl⟩ : ∃ n : Nat, a1 = n := ⟨a1.toNat, by omega⟩
  refine (Try.bits_Mul64 x y (by omega) (by omega) w).mono fun e w' ⟨he, hw⟩ => ⟨?_, by rw [hw]; exact Drawn0.refl w⟩
  rw [he, Int.natCast_ediv, Int.natCast_emod, Int.natCast_mul]
  rfl

theorem run_add64_34 (x y : Int) (h0 : 0 ≤ x) (h1 : 0 ≤ y) (w : World) :
    (callFunc 34 #[.int .u64 x, .int .u64 y, .int .u64 0]).run Try.prog w =
      .ok (.value (.tuple #[.int .u64 ((x + y) % 18446744073709551616), .int .u64 ((x + y) / 18446744073709551616)])) w := by
  rw [run_callFunc_extern Try.func34 (by kernel_rfl) (by kernel_rfl) (by kernel_rfl) (e := add64Entry) (by kernel_rfl), run_add64 x y 0 h0 h1 (by omega) (by omega)]
  simp only [Result.andThen, Int.add_zero]

set_option maxHeartbeats 400000 in
theorem add_any (a0 a1 : Int) (w : World) (h0 : 0 ≤ a0) (h1 : a0 < 18446744073709551616) (h2 : 0 ≤ a1) (h3 : a1 < 18446744073709551616) :
    Calls Try.prog 18 #[.int .u64 a0, .int .u64 a1] w fun e w' => e = .returned (.int .u64 (if a0 + a1 < 18446744073709551616 then a0 + a1 else 18446744073709551615)) ∧ Drawn0 w w' := by
  have hadd := fun w => run_add64_34 a0 a1 h0 h2 w
  by_cases hc : a0 + a1 < 18446744073709551616
  · rw [if_pos hc]
    rw [Int.emod_eq_of_lt (by omega) hc, show (a0 + a1) / 18446744073709551616 = 0 by omega] at hadd
    go_enter Try.func18, Try.ntmps18
    go_wp2_with (simp only [hadd])
    go_ret
    exact ⟨rfl, Drawn0.refl w⟩
  · rw [if_neg hc]
    rw [show (a0 + a1) / 18446744073709551616 = 1 by omega] at hadd
    go_enter Try.func18, Try.ntmps18
    go_wp2_with (simp only [hadd])
    go_ret
    exact ⟨rfl, Drawn0.refl w⟩

set_option maxHeartbeats 400000 in
theorem full_any (a0 a1 : Int) (w : World) (h0 : 0 ≤ a0) (h1 : a0 < 18446744073709551616) (h2 : 0 ≤ a1) (h3 : a1 < 18446744073709551616) :
    Calls Try.prog 33 #[.int .u64 a0, .int .u64 a1] w fun e w' => e = .returned (.agg #[.int .u64 (a0 * a1 / 18446744073709551616), .int .u64 (a0 * a1 % 18446744073709551616)]) ∧ Below w.heap.size w w' := by
  go_enter Try.func33, Try.ntmps33
  go_wp2_with (go_at_call 36; refine (mul64_eq a0 a1 _ h0 h1 h2 h3).mono ?_; rintro e w' ⟨rfl, rfl⟩)
  exact bodyPost_ret (v := .agg #[.int .u64 (a0 * a1 / 18446744073709551616), .int .u64 (a0 * a1 % 18446744073709551616)]) (by simp [results, Try.results33, go_sem]) rfl ⟨rfl, ((Below.refl _ _).alloc (Nat.le_refl _) _)⟩

theorem full_at (a0 a1 h l : Int) (w : World) (h0 : 0 ≤ a0) (h1 : a0 < 18446744073709551616) (h2 : 0 ≤ a1) (h3 : a1 < 18446744073709551616) (eh : a0 * a1 / 18446744073709551616 = h) (el : a0 * a1 % 18446744073709551616 = l) :
    Calls Try.prog 33 #[.int .u64 a0, .int .u64 a1] w fun e w' => e = .returned (.agg #[.int .u64 h, .int .u64 l]) ∧ Below w.heap.size w w' := by
  subst eh; subst el; exact full_any a0 a1 w h0 h1 h2 h3

set_option maxHeartbeats 1000000 in
theorem cmp_1 (a0 a1 a2 a3 x0 x1 y0 y1 : Int) (w : World)
    (F1 : ∀ (w : World), Calls Try.prog 33 #[Value.int IntKind.u64 a0, Value.int IntKind.u64 a3] w fun e w' => e = Ending.returned (Value.agg #[Value.int IntKind.u64 x0, Value.int IntKind.u64 x1]) ∧ Below w.heap.size w w')
    (F2 : ∀ (w : World), Calls Try.prog 33 #[Value.int IntKind.u64 a2, Value.int IntKind.u64 a1] w fun e w' => e = Ending.returned (Value.agg #[Value.int IntKind.u64 y0, Value.int IntKind.u64 y1]) ∧ Below w.heap.size w w')
    (c1 : decide (x0 < y0) = true) :
    Calls Try.prog 30 #[.int .u64 a0, .int .u64 a1, .int .u64 a2, .int .u64 a3] w fun e w' => e = .returned (.int .i64 (-1)) ∧ Below w.heap.size w w' := by
  go_enter Try.func30, Try.ntmps30
  go_wp2_with (first | (go_at_call 33; (with_reducible refine (F1 _).mono ?_); rintro e w1 ⟨rfl, hb1⟩) | (go_at_call 33; (with_reducible refine (F2 _).mono ?_); rintro e w2 ⟨rfl, hb2⟩))
  have hB : ∀ o, Below w.heap.size w (w2.alloc o) := fun o => (hb1.trans (hb2.mono hb1.size)).alloc (Nat.le_trans hb1.size hb2.size) _
  have hB2 : ∀ o o', Below w.heap.size w ((w2.alloc o).alloc o') := fun o o' => (hB o).alloc (hB o).size _
  clear F1 F2 hb1 hb2
  refine wp_loop_rounds 1 ?_
  rw [rounds_succ]
  go_wp2
  go_quiet (fail)
  go_wp2
  go_ret
  exact ⟨rfl, by repeat (first | exact hB2 _ _ | apply pw_below_drewN)⟩
set_option maxHeartbeats 1000000 in
theorem cmp_2 (a0 a1 a2 a3 x0 x1 y0 y1 : Int) (w : World)
    (F1 : ∀ (w : World), Calls Try.prog 33 #[Value.int IntKind.u64 a0, Value.int IntKind.u64 a3] w fun e w' => e = Ending.returned (Value.agg #[Value.int IntKind.u64 x0, Value.int IntKind.u64 x1]) ∧ Below w.heap.size w w')
    (F2 : ∀ (w : World), Calls Try.prog 33 #[Value.int IntKind.u64 a2, Value.int IntKind.u64 a1] w fun e w' => e = Ending.returned (Value.agg #[Value.int IntKind.u64 y0, Value.int IntKind.u64 y1]) ∧ Below w.heap.size w w')
    (c1 : decide (x0 < y0) = false) (c2 : decide (y0 < x0) = true) :
    Calls Try.prog 30 #[.int .u64 a0, .int .u64 a1, .int .u64 a2, .int .u64 a3] w fun e w' => e = .returned (.int .i64 1) ∧ Below w.heap.size w w' := by
  go_enter Try.func30, Try.ntmps30
  go_wp2_with (first | (go_at_call 33; (with_reducible refine (F1 _).mono ?_); rintro e w1 ⟨rfl, hb1⟩) | (go_at_call 33; (with_reducible refine (F2 _).mono ?_); rintro e w2 ⟨rfl, hb2⟩))
  have hB : ∀ o, Below w.heap.size w (w2.alloc o) := fun o => (hb1.trans (hb2.mono hb1.size)).alloc (Nat.le_trans hb1.size hb2.size) _
  have hB2 : ∀ o o', Below w.heap.size w ((w2.alloc o).alloc o') := fun o o' => (hB o).alloc (hB o).size _
  clear F1 F2 hb1 hb2
  refine wp_loop_rounds 1 ?_
  rw [rounds_succ]
  go_wp2
  go_quiet (fail)
  go_wp2
  go_quiet (fail)
  go_wp2
  go_ret
  exact ⟨rfl, by repeat (first | exact hB2 _ _ | apply pw_below_drewN)⟩
set_option maxHeartbeats 1000000 in
theorem cmp_3 (a0 a1 a2 a3 x0 x1 y1 : Int) (w : World)
    (F1 : ∀ (w : World), Calls Try.prog 33 #[Value.int IntKind.u64 a0, Value.int IntKind.u64 a3] w fun e w' => e = Ending.returned (Value.agg #[Value.int IntKind.u64 x0, Value.int IntKind.u64 x1]) ∧ Below w.heap.size w w')
    (F2 : ∀ (w : World), Calls Try.prog 33 #[Value.int IntKind.u64 a2, Value.int IntKind.u64 a1] w fun e w' => e = Ending.returned (Value.agg #[Value.int IntKind.u64 x0, Value.int IntKind.u64 y1]) ∧ Below w.heap.size w w')
    (c1 : decide (x1 < y1) = true) :
    Calls Try.prog 30 #[.int .u64 a0, .int .u64 a1, .int .u64 a2, .int .u64 a3] w fun e w' => e = .returned (.int .i64 (-1)) ∧ Below w.heap.size w w' := by
  go_enter Try.func30, Try.ntmps30
  go_wp2_with (first | (go_at_call 33; (with_reducible refine (F1 _).mono ?_); rintro e w1 ⟨rfl, hb1⟩) | (go_at_call 33; (with_reducible refine (F2 _).mono ?_); rintro e w2 ⟨rfl, hb2⟩))
  have hB : ∀ o, Below w.heap.size w (w2.alloc o) := fun o => (hb1.trans (hb2.mono hb1.size)).alloc (Nat.le_trans hb1.size hb2.size) _
  have hB2 : ∀ o o', Below w.heap.size w ((w2.alloc o).alloc o') := fun o o' => (hB o).alloc (hB o).size _
  clear F1 F2 hb1 hb2
  refine wp_loop_rounds 2 ?_
  rw [rounds_succ]
  go_wp2
  go_quiet (fail)
  go_wp2
  go_quiet (fail)
  go_wp2
  rw [rounds_succ]
  go_wp2
  go_quiet (fail)
  go_wp2
  go_ret
  exact ⟨rfl, by repeat (first | exact hB2 _ _ | apply pw_below_drewN)⟩
set_option maxHeartbeats 1000000 in
theorem cmp_4 (a0 a1 a2 a3 x0 x1 y1 : Int) (w : World)
    (F1 : ∀ (w : World), Calls Try.prog 33 #[Value.int IntKind.u64 a0, Value.int IntKind.u64 a3] w fun e w' => e = Ending.returned (Value.agg #[Value.int IntKind.u64 x0, Value.int IntKind.u64 x1]) ∧ Below w.heap.size w w')
    (F2 : ∀ (w : World), Calls Try.prog 33 #[Value.int IntKind.u64 a2, Value.int IntKind.u64 a1] w fun e w' => e = Ending.returned (Value.agg #[Value.int IntKind.u64 x0, Value.int IntKind.u64 y1]) ∧ Below w.heap.size w w')
    (c1 : decide (x1 < y1) = false) (c2 : decide (y1 < x1) = true) :
    Calls Try.prog 30 #[.int .u64 a0, .int .u64 a1, .int .u64 a2, .int .u64 a3] w fun e w' => e = .returned (.int .i64 1) ∧ Below w.heap.size w w' := by
  go_enter Try.func30, Try.ntmps30
  go_wp2_with (first | (go_at_call 33; (with_reducible refine (F1 _).mono ?_); rintro e w1 ⟨rfl, hb1⟩) | (go_at_call 33; (with_reducible refine (F2 _).mono ?_); rintro e w2 ⟨rfl, hb2⟩))
  have hB : ∀ o, Below w.heap.size w (w2.alloc o) := fun o => (hb1.trans (hb2.mono hb1.size)).alloc (Nat.le_trans hb1.size hb2.size) _
  have hB2 : ∀ o o', Below w.heap.size w ((w2.alloc o).alloc o') := fun o o' => (hB o).alloc (hB o).size _
  clear F1 F2 hb1 hb2
  refine wp_loop_rounds 2 ?_
  rw [rounds_succ]
  go_wp2
  go_quiet (fail)
  go_wp2
  go_quiet (fail)
  go_wp2
  rw [rounds_succ]
  go_wp2
  go_quiet (fail)
  go_wp2
  go_quiet (fail)
  go_wp2
  go_ret
  exact ⟨rfl, by repeat (first | exact hB2 _ _ | apply pw_below_drewN)⟩
set_option maxHeartbeats 1000000 in
theorem cmp_5 (a0 a1 a2 a3 x0 x1 : Int) (w : World)
    (F1 : ∀ (w : World), Calls Try.prog 33 #[Value.int IntKind.u64 a0, Value.int IntKind.u64 a3] w fun e w' => e = Ending.returned (Value.agg #[Value.int IntKind.u64 x0, Value.int IntKind.u64 x1]) ∧ Below w.heap.size w w')
    (F2 : ∀ (w : World), Calls Try.prog 33 #[Value.int IntKind.u64 a2, Value.int IntKind.u64 a1] w fun e w' => e = Ending.returned (Value.agg #[Value.int IntKind.u64 x0, Value.int IntKind.u64 x1]) ∧ Below w.heap.size w w')
     :
    Calls Try.prog 30 #[.int .u64 a0, .int .u64 a1, .int .u64 a2, .int .u64 a3] w fun e w' => e = .returned (.int .i64 0) ∧ Below w.heap.size w w' := by
  go_enter Try.func30, Try.ntmps30
  go_wp2_with (first | (go_at_call 33; (with_reducible refine (F1 _).mono ?_); rintro e w1 ⟨rfl, hb1⟩) | (go_at_call 33; (with_reducible refine (F2 _).mono ?_); rintro e w2 ⟨rfl, hb2⟩))
  have hB : ∀ o, Below w.heap.size w (w2.alloc o) := fun o => (hb1.trans (hb2.mono hb1.size)).alloc (Nat.le_trans hb1.size hb2.size) _
  have hB2 : ∀ o o', Below w.heap.size w ((w2.alloc o).alloc o') := fun o o' => (hB o).alloc (hB o).size _
  clear F1 F2 hb1 hb2
  refine wp_loop_rounds 3 ?_
  rw [rounds_succ]
  go_wp2
  go_quiet (fail)
  go_wp2
  go_quiet (fail)
  go_wp2
  rw [rounds_succ]
  go_wp2
  go_quiet (fail)
  go_wp2
  go_quiet (fail)
  go_wp2
  rw [rounds_succ]
  go_wp2
  go_ret
  exact ⟨rfl, by repeat (first | exact hB2 _ _ | apply pw_below_drewN)⟩
theorem cmp_any (a0 a1 a2 a3 : Int) (w : World) (h0 : 0 ≤ a0) (h1 : a0 < 18446744073709551616) (h2 : 0 ≤ a1) (h3 : a1 < 18446744073709551616) (h4 : 0 ≤ a2) (h5 : a2 < 18446744073709551616) (h6 : 0 ≤ a3) (h7 : a3 < 18446744073709551616) :
    Calls Try.prog 30 #[.int .u64 a0, .int .u64 a1, .int .u64 a2, .int .u64 a3] w fun e w' => e = .returned (.int .i64 (if a0 * a3 < a2 * a1 then -1 else if a2 * a1 < a0 * a3 then 1 else 0)) ∧ Below w.heap.size w w' := by
  obtain ⟨x0, hx0⟩ : ∃ x0, a0 * a3 / 18446744073709551616 = x0 := ⟨_, rfl⟩
  obtain ⟨x1, hx1⟩ : ∃ x1, a0 * a3 % 18446744073709551616 = x1 := ⟨_, rfl⟩
  obtain ⟨y0, hy0⟩ : ∃ y0, a2 * a1 / 18446744073709551616 = y0 := ⟨_, rfl⟩
  obtain ⟨y1, hy1⟩ : ∃ y1, a2 * a1 % 18446744073709551616 = y1 := ⟨_, rfl⟩
  have F1 := fun w => full_at a0 a3 x0 x1 w h0 h1 h6 h7 hx0 hx1
  have F2 := fun w => full_at a2 a1 y0 y1 w h4 h5 h2 h3 hy0 hy1
  have R : (if a0 * a3 < a2 * a1 then (-1 : Int) else if a2 * a1 < a0 * a3 then 1 else 0) = if x0 < y0 then -1 else if y0 < x0 then 1 else if x1 < y1 then -1 else if y1 < x1 then 1 else 0 := by
    clear F1 F2
    generalize a0 * a3 = P at *
    generalize a2 * a1 = Q at *
    repeat' split
    all_goals omega
  rw [R]
  clear hx0 hx1 hy0 hy1 R h0 h1 h2 h3 h4 h5 h6 h7
  by_cases c1 : x0 < y0
  · rw [if_pos c1]; exact cmp_1 a0 a1 a2 a3 x0 x1 y0 y1 w F1 F2 (decide_eq_true c1)
  rw [if_neg c1]
  by_cases c2 : y0 < x0
  · rw [if_pos c2]; exact cmp_2 a0 a1 a2 a3 x0 x1 y0 y1 w F1 F2 (decide_eq_false c1) (decide_eq_true c2)
  rw [if_neg c2]
  obtain rfl : y0 = x0 := by omega
  by_cases c3 : x1 < y1
  · rw [if_pos c3]; exact cmp_3 a0 a1 a2 a3 y0 x1 y1 w F1 F2 (decide_eq_true c3)
  rw [if_neg c3]
  by_cases c4 : y1 < x1
  · rw [if_pos c4]; exact cmp_4 a0 a1 a2 a3 y0 x1 y1 w F1 F2 (decide_eq_false c3) (decide_eq_true c4)
  rw [if_neg c4]
  obtain rfl : y1 = x1 := by omega
  exact cmp_5 a0 a1 a2 a3 y0 y1 w F1 F2

end Go.Proofs.Ytadilpimdfdgmaa
