/- Laid by mp.py, a program of this session, over the kit's printer: the Go text of each function comes to the answers of the function beside it. Conditions: none but that the function answers. -/
import Derived.Test.YtmhejpcbgknncaaQx0
import Derived.Test.YtmhejpcbgknncaaQx2
namespace Go.Proofs.Ytmhejpcbgknncaa.Q
open Go.RowKit Go.Proofs.YtmhejpcbgknncaaW.PrintWords Go.Proofs.YtmhejpcbgknncaaW.PrintLast Go.Proofs.YtmhejpcbgknncaaW.PrintMore
attribute [local go_sem] max2_int min2_int max_two min_two max_three min_three max_four min_four   -- for this text's walks alone
set_option linter.unusedVariables false
set_option linter.unusedSimpArgs false

/-! ### varveref01_Ceil: function 55 -/
def varveref01_Ceil.j0 : Nat → Int → Bool → Bool → Option (Int × Bool)
  | 0, _, _, _ => none
  | k + 1, x10, x12, x31 => if x31 = true then (if x10 = 18446744073709551615 then (some (0, false)) else (some (IntKind.u64.wrap (x10 + 1), x12))) else (some (x10, x12))
def varveref01_Ceil.f (k : Nat) (a0 : Int) (a1 : Int) (a2 : Int) : Option (Int × Bool) := (varveref01_Full.f k a0 a1).bind fun bt115 => ((varveref01_Div.f k bt115.1 bt115.2 a2).bind fun bt117 => (if bt117.2.2 = true then (varveref01_Ceil.j0 k bt117.1 bt117.2.2 (decide (bt117.2.1 > 0))) else (varveref01_Ceil.j0 k bt117.1 bt117.2.2 false)))
theorem varveref01_Ceil.mono_l : ∀ k, (∀ y0 y1 y2, LeO (varveref01_Ceil.j0 k y0 y1 y2) (varveref01_Ceil.j0 (k + 1) y0 y1 y2))
  | 0 => fun _ _ _ r h => by simp [varveref01_Ceil.j0] at h
  | k + 1 => by
    have ih0 := varveref01_Ceil.mono_l k
    · intro y0 y1 y2
      unfold varveref01_Ceil.j0
      repeat' first
      | (with_reducible exact ih0 _ _ _)
      | (with_reducible exact varveref01_Div.mono _ _ _ _)
      | (with_reducible exact varveref01_Full.mono _ _ _)
      | (with_reducible exact LeO.refl _)
      | (with_reducible exact LeO.none _)
      | (with_reducible refine LeO.ite ?_ ?_)
      | (with_reducible refine LeO.bind ?_ (fun _ => ?_))
      | exact ih0 _ _ _
      | exact varveref01_Div.mono _ _ _ _
      | exact varveref01_Full.mono _ _ _
      | exact LeO.none _
      | refine LeO.ite ?_ ?_
      | refine LeO.bind ?_ (fun _ => ?_)
theorem varveref01_Ceil.mono : ∀ a0 a1 a2 k, LeO (varveref01_Ceil.f k a0 a1 a2) (varveref01_Ceil.f (k + 1) a0 a1 a2) := by
  intro a0 a1 a2 k
  have ih0 := varveref01_Ceil.mono_l k
  unfold varveref01_Ceil.f
  repeat' first
      | (with_reducible exact ih0 _ _ _)
      | (with_reducible exact varveref01_Div.mono _ _ _ _)
      | (with_reducible exact varveref01_Full.mono _ _ _)
      | (with_reducible exact LeO.refl _)
      | (with_reducible exact LeO.none _)
      | (with_reducible refine LeO.ite ?_ ?_)
      | (with_reducible refine LeO.bind ?_ (fun _ => ?_))
      | exact ih0 _ _ _
      | exact varveref01_Div.mono _ _ _ _
      | exact varveref01_Full.mono _ _ _
      | exact LeO.none _
      | refine LeO.ite ?_ ?_
      | refine LeO.bind ?_ (fun _ => ?_)
set_option maxHeartbeats 8000000 in
set_option maxRecDepth 100000 in
theorem varveref01_Ceil.calls (k : Nat) (a0 : Int) (a1 : Int) (a2 : Int) (r1 : Int) (r2 : Bool) (w : World) (h : varveref01_Ceil.f k a0 a1 a2 = some (r1, r2)) :
    Calls Try.prog 55 #[.int .u64 a0, .int .u64 a1, .int .u64 a2] w fun e w' => e = .returned (.tuple #[.int .u64 r1, .bool r2]) ∧ Drawn0 w w' := by
  have H : ((varveref01_Full.f k a0 a1).bind fun bt115 => ((varveref01_Div.f k bt115.1 bt115.2 a2).bind fun bt117 => (if bt117.2.2 = true then (varveref01_Ceil.j0 k bt117.1 bt117.2.2 (decide (bt117.2.1 > 0))) else (varveref01_Ceil.j0 k bt117.1 bt117.2.2 false)))) = some (r1, r2) := h
  clear h
  replace H := Option.bind_eq_some_iff.mp H
  obtain ⟨⟨t115, t116⟩, A40, H⟩ := H
  replace H : ((varveref01_Div.f k t115 t116 a2).bind fun bt117 => (if bt117.2.2 = true then (varveref01_Ceil.j0 k bt117.1 bt117.2.2 (decide (bt117.2.1 > 0))) else (varveref01_Ceil.j0 k bt117.1 bt117.2.2 false))) = some (r1, r2) := H
  have A4 := Aside0.mk A40
  clear A40
  replace H := Option.bind_eq_some_iff.mp H
  obtain ⟨⟨t117, t118, t119⟩, A50, H⟩ := H
  replace H : (if t119 = true then (varveref01_Ceil.j0 k t117 t119 (decide (t118 > 0))) else (varveref01_Ceil.j0 k t117 t119 false)) = some (r1, r2) := H
  have A5 := Aside0.mk A50
  clear A50
  have HC6 := Aside0.mk H
  clear H
  go_enter Try.func55, Try.ntmps55
  go_upto_region 3 with (first | ((with_reducible refine gate_callee (f := 66) rfl ?_); refine goesL_ (some 16) rfl rfl Try.func66 (by kernel_rfl) rfl #[.int .u64 a0, .int .u64 a1] rfl (by (try simp only [List.map_toArray, List.map_cons, List.map_nil]); first | done | rfl | (simp only [List.length_drop, List.length_take]; rfl)) ?_; (with_reducible refine (varveref01_Full.calls k a0 a1 t115 t116 _ A4.out).mono ?_); rintro e w' ⟨rfl, ⟨nd, rfl⟩⟩; refine ⟨_, rfl, ?_⟩) | ((with_reducible refine gate_callee (f := 67) rfl ?_); refine goesL_ (some 23) rfl rfl Try.func67 (by kernel_rfl) rfl #[.int .u64 t115, .int .u64 t116, .int .u64 a2] rfl (by (try simp only [List.map_toArray, List.map_cons, List.map_nil]); first | done | rfl | (simp only [List.length_drop, List.length_take]; rfl)) ?_; (with_reducible refine (varveref01_Div.calls k t115 t116 a2 t117 t118 t119 _ A5.out).mono ?_); rintro e w' ⟨rfl, ⟨nd, rfl⟩⟩; refine ⟨_, rfl, ?_⟩))
  (try simp only [Act.put, List.setIfInBounds_toArray, List.set_cons_zero, List.set_cons_succ])
  go_cut [31] (fun v31 wc => ∃ (kq : Nat) (x31_5 : Bool), v31 = .bool x31_5 ∧ Aside0 (varveref01_Ceil.j0 kq t117 t119 x31_5 = some (r1, r2)) ∧ Aside0 (kq ≤ k) ∧ Drawn0 w wc)
  case first =>
    have H := HC6.out
    clear HC6
    by_cases c7 : t119 = true
    · subst c7
      have H1 : (varveref01_Ceil.j0 k t117 true (decide (t118 > 0))) = some (r1, r2) := by rw [if_pos rfl] at H; exact H
      clear H
      have H := H1
      clear H1
      have H' := Aside0.mk H
      clear H
      go_wp2
      go_meet
      case rel => exact ⟨_, (decide (t118 > 0)), (by first | rfl | (simp; done) | (simp [*]; done)), H', ⟨by first | omega | exact Nat.le_refl _⟩, by repeat (first | exact Drawn0.refl _ | apply Drawn0.step)⟩
    · replace c7 := Bool.eq_false_iff.mpr c7
      subst c7
      have H1 : (varveref01_Ceil.j0 k t117 false false) = some (r1, r2) := by rw [if_neg (show ¬ (false = true) by decide)] at H; exact H
      clear H
      have H := H1
      clear H1
      have H' := Aside0.mk H
      clear H
      go_wp2
      go_meet
      case rel => exact ⟨_, (false), (by first | rfl | (simp; done) | (simp [*]; done)), H', ⟨by first | omega | exact Nat.le_refl _⟩, by repeat (first | exact Drawn0.refl _ | apply Drawn0.step)⟩
  case rest =>
    clear HC6
    try clear p2
    try clear c5
    try clear c6
    try clear c7
    obtain ⟨kq, x31_5, rfl, HA, HJ5, ⟨mc5, rfl⟩⟩ := hcut
    cases kq with
    | zero => exact absurd HA.out (by simp [varveref01_Ceil.j0])
    | succ kj5 =>
      have H := HA.out
      clear HA
      simp only [varveref01_Ceil.j0] at H
      by_cases c8 : x31_5 = true
      · subst c8
        have H1 : (if t117 = 18446744073709551615 then (some (0, false)) else (some (IntKind.u64.wrap (t117 + 1), t119))) = some (r1, r2) := by rw [if_pos rfl] at H; exact H
        clear H
        have H := H1
        clear H1
        by_cases c9 : t117 = 18446744073709551615
        · rw [if_pos c9] at H
          have c9b0 : (t117 == 18446744073709551615) = true := beq_iff_eq.mpr c9
          have c9b1 : (t117 != 18446744073709551615) = false := bne_eq_false_iff_eq.mpr c9
          clear c9
          simp only [Option.some.injEq, Prod.mk.injEq] at H
          obtain ⟨rfl, rfl⟩ := H
          go_wp2
          go_ret2
          exact ⟨by first | rfl | (simp; done) | (simp [*]; done), by repeat (first | exact Drawn0.refl _ | apply Drawn0.step)⟩
        · rw [if_neg c9] at H
          have c9b0 : (t117 == 18446744073709551615) = false := beq_eq_false_iff_ne.mpr c9
          have c9b1 : (t117 != 18446744073709551615) = true := bne_iff_ne.mpr c9
          simp only [Option.some.injEq, Prod.mk.injEq] at H
          obtain ⟨rfl, rfl⟩ := H
          go_wp2
          go_ret2
          exact ⟨by first | rfl | (simp; done) | (simp [*]; done), by repeat (first | exact Drawn0.refl _ | apply Drawn0.step)⟩
      · replace c8 := Bool.eq_false_iff.mpr c8
        subst c8
        have H1 : (some (t117, t119)) = some (r1, r2) := by rw [if_neg (show ¬ (false = true) by decide)] at H; exact H
        clear H
        have H := H1
        clear H1
        simp only [Option.some.injEq, Prod.mk.injEq] at H
        obtain ⟨rfl, rfl⟩ := H
        go_wp2
        go_ret2
        exact ⟨by first | rfl | (simp; done) | (simp [*]; done), by repeat (first | exact Drawn0.refl _ | apply Drawn0.step)⟩

/-! ### varveref01_Add: function 53 -/
def varveref01_Add.f (a0 : Int) (a1 : Int) : Option (Int) := if a0 > (IntKind.u64.wrap (18446744073709551615 - a1)) then (some 18446744073709551615) else (some (IntKind.u64.wrap (a0 + a1)))
set_option maxHeartbeats 8000000 in
set_option maxRecDepth 100000 in
theorem varveref01_Add.calls (a0 : Int) (a1 : Int) (r : Int) (w : World) (h : varveref01_Add.f a0 a1 = some r) :
    Calls Try.prog 53 #[.int .u64 a0, .int .u64 a1] w fun e w' => e = .returned (.int .u64 r) ∧ Drawn0 w w' := by
  have H : (if a0 > (IntKind.u64.wrap (18446744073709551615 - a1)) then (some 18446744073709551615) else (some (IntKind.u64.wrap (a0 + a1)))) = some r := h
  clear h
  by_cases c3 : a0 > (IntKind.u64.wrap (18446744073709551615 - a1))
  · rw [if_pos c3] at H
    have c3b0 : decide ((IntKind.u64.wrap (18446744073709551615 - a1)) < a0) = true := decide_eq_true c3
    clear c3
    obtain rfl := Option.some.inj H
    go_enter Try.func53, Try.ntmps53
    go_wp2
    go_ret
    exact ⟨by first | rfl | (simp; done) | (simp [*]; done), by repeat (first | exact Drawn0.refl _ | apply Drawn0.step)⟩
  · rw [if_neg c3] at H
    have c3b0 : decide ((IntKind.u64.wrap (18446744073709551615 - a1)) < a0) = false := decide_eq_false c3
    clear c3
    obtain rfl := Option.some.inj H
    go_enter Try.func53, Try.ntmps53
    go_wp2
    go_ret
    exact ⟨by first | rfl | (simp; done) | (simp [*]; done), by repeat (first | exact Drawn0.refl _ | apply Drawn0.step)⟩

end Go.Proofs.Ytmhejpcbgknncaa.Q
