/- For every list of numbers and thing: fewer than 1024, and one thing more: as many, or one more. No condition. -/
import Derived.Test.YtpjchgiemmnikaaKLaws
namespace Go.Proofs.Ytpjchgiemmnikaa.Pure
set_option linter.unusedVariables false
set_option linter.unusedSimpArgs false
open Go.RowKit Go.Maps Go.Proofs.YtpjchgiemmnikaaW.PrintWords Go.Proofs.YtpjchgiemmnikaaW.PrintLast Go.Proofs.YtpjchgiemmnikaaW.PrintMore Go.Proofs.Ytpjchgiemmnikaa.Q

theorem kdist_few {l : List Int} (h : KGood l) (hl : l.length < 1024) : kdist l = l.length := by
  unfold kdist
  rw [if_neg (c := ¬ KOk l) (fun c => c ⟨h.1, h.2.1⟩), if_pos hl]
theorem khash_twice {l : List Int} (h : KGood l) (hl : l.length < 1023) (v : Int) : khash (khash l v) v = khash l v := by
  refine khash_in (asc_khash h.1 v) (khash_len l v) ?_
  unfold khash
  have : (kins v l).length ≤ 1024 := by
    by_cases c : v ∈ l
    · rw [kins_mem h.1 c]; omega
    · rw [kins_len h.1 c]; omega
  rw [List.take_of_length_le this]
  exact (mem_kins v l v).2 (.inl rfl)
theorem khash_grows {l : List Int} (h : KGood l) (hl : l.length < 1023) (v : Int) : (khash l v).length = l.length ∨ (khash l v).length = l.length + 1 := by
  unfold khash
  rw [List.length_take]
  by_cases c : v ∈ l
  · rw [kins_mem h.1 c]; omega
  · rw [kins_len h.1 c]; omega

set_option maxHeartbeats 1000000 in
theorem Grows_no (A0 : Option Addr) (c0 : Nat) (l0 : List Int) (s : ByteArray) (w : World) (C0 : Kd.C (Kd.int .u64) w A0 l0.length l0) (m0 : l0.length ≤ c0) (w0 : WU l0) (hn : ¬ (KOk l0 ∧ l0.length < 1023)) :
    Calls Try.prog 9 #[.slice A0 l0.length c0, .string s] w fun e w' => e = .returned (.bool true) ∧ Below w.heap.size w w' := by
  have RK := refCheck_c w0 C0 m0
  by_cases hk : KOk l0
  · rw [decide_eq_true hk] at RK
    have hl : decide ((1023 : Int) ≤ (l0.length : Int)) = true := decide_eq_true (by have : ¬ l0.length < 1023 := fun c => hn ⟨hk, c⟩; omega)
    clear hk hn C0 m0 w0
    go_enter Try.func9, Try.ntmps9
    go_wp2_with (first
      | (go_at_call 22; refine RK.mono ?_; rintro e w1 ⟨rfl, hb1⟩; clear RK)
      | (go_at_call 25; refine (awake_u _).mono ?_; rintro e w2 ⟨rfl, hb⟩; have hb2 := hb1.trans (hb.mono hb1.size); clear hb1 hb))
    go_ret
    exact ⟨rfl, hb2⟩
  · rw [decide_eq_false hk] at RK
    clear hk hn C0 m0 w0
    go_enter Try.func9, Try.ntmps9
    go_wp2_with (first
      | (go_at_call 22; refine RK.mono ?_; rintro e w1 ⟨rfl, hb1⟩; clear RK)
      | (go_at_call 25; refine (awake_u _).mono ?_; rintro e w2 ⟨rfl, hb⟩; have hb2 := hb1.trans (hb.mono hb1.size); clear hb1 hb))
    go_ret
    exact ⟨rfl, hb2⟩
set_option maxHeartbeats 2000000 in
theorem Grows_yes (A0 : Option Addr) (c0 : Nat) (l0 : List Int) (s : ByteArray) (w : World) (C0 : Kd.C (Kd.int .u64) w A0 l0.length l0) (m0 : l0.length ≤ c0) (w0 : WU l0) (hk : KOk l0) (hl : l0.length < 1023) (n : Nat) (v : Int) (hf : fnv_Of.f n s = some v) (hv : 0 ≤ v ∧ v < 18446744073709551616) :
    Calls Try.prog 9 #[.slice A0 l0.length c0, .string s] w fun e w' => e = .returned (.bool true) ∧ Below w.heap.size w w' := by
  have hS0 := KS.nil w
  have hg := KGood.of w0 hk
  have RK := refCheck_c w0 C0 m0
  rw [decide_eq_true hk] at RK
  have CP := fun W (h : KS w W []) => nums_c (c := c0) w0 C0 h.bel
  have FR := fun W A c (h : KS w W []) (hC : Kd.C (Kd.int .u64) W A l0.length l0) => h.from (c := c) hC hg
  obtain ⟨L, hL⟩ : ∃ L, khash l0 v = L := ⟨_, rfl⟩
  have A1 := fun W k b (h : KS w W [(k, b, l0)]) => h.add 0 rfl hf hv
  have A2 := fun W k b (h : KS w W [(k, b, L)]) => h.add 0 rfl hf hv
  have e2 := khash_twice hg hl v
  have e3 := khash_grows hg hl v
  rw [hL] at A1 e2 e3
  rw [e2] at A2
  have D1 := fun W k b (h : KS w W [(k, b, l0)]) => h.dist 0 rfl
  have D2 := fun W k b (h : KS w W [(k, b, L)]) => h.dist 0 rfl
  have gL : KGood L := hL ▸ kgood_khash hg hv
  rw [kdist_few hg (by omega)] at D1
  rw [kdist_few gL (by omega)] at D2
  have d1 : decide ((1023 : Int) ≤ (l0.length : Int)) = false := decide_eq_false (by omega)
  have z1 : IntKind.u64.wrap (l0.length : Int) = (l0.length : Int) := by rw [IntKind.wrap_u64]; omega
  obtain ⟨p, hp⟩ : ∃ p : Int, (l0.length : Int) = p := ⟨_, rfl⟩
  obtain ⟨q, hq⟩ : ∃ q : Int, (L.length : Int) = q := ⟨_, rfl⟩
  have hpq : q = p ∨ q = p + 1 := by omega
  have hp0 : 0 ≤ p ∧ p < 1023 := by omega
  have HK := Lib.hid hk
  rw [hp] at D1
  rw [hq] at D2
  have HP := Lib.hid hp
  clear hL e2 e3 gL hf hk hl C0 w0 m0 hg hq hp
  rcases hpq with rfl | rfl
  all_goals
    go_enter Try.func9, Try.ntmps9
    go_wp2_with (first
      | (go_at_call 22; refine RK.mono ?_; rintro e w1 ⟨rfl, hb⟩; have hS1 := hS0.below hb; clear RK hS0 hb)
      | (go_at_call 21; refine (CP _ hS1).mono ?_; rintro e w2 ⟨A2', c2, rfl, lc2, hC2, ho, hb⟩; have hS2 := hS1.below hb; clear hS1 ho hb CP)
      | (go_at_call 34; refine (FR _ _ _ hS2 hC2).mono ?_; rintro e w3 ⟨k, b, rfl, hS3, hb⟩; clear hS2 hb hC2 FR)
      | (go_at_call 30; refine (D1 _ _ _ hS3).mono ?_; rintro e w4 ⟨rfl, hS4, hb⟩; clear hS3 hb D1)
      | (go_at_call 28; refine (A1 _ _ _ hS4).mono ?_; rintro e w5 ⟨rfl, hS5, hb⟩; clear hS4 hb A1)
      | (go_at_call 30; refine (D2 _ _ _ hS5).mono ?_; rintro e w6 ⟨rfl, hS6, hb⟩; clear hS5 hb)
      | (go_at_call 28; refine (A2 _ _ _ hS6).mono ?_; rintro e w7 ⟨rfl, hS7, hb⟩; clear hS6 hb A2)
      | (go_at_call 30; refine (D2 _ _ _ hS7).mono ?_; rintro e w8 ⟨rfl, hS8, hb⟩; clear hS7 hb)
      | (go_at_call 25; refine (awake_u _).mono ?_; rintro e w9 ⟨rfl, hb⟩; have hS9 := hS8.below hb; clear hS8 hb))
    all_goals first
      | (exfalso; have := HP.out; omega)
      | (go_ret; exact ⟨rfl, hS9.bel⟩)
theorem KmvGrows_walk (A0 : Option Addr) (c0 : Nat) (l0 : List Int) (a1 : ByteArray) (w : World) (C0 : Kd.C (Kd.int .u64) w A0 l0.length l0) (m0 : l0.length ≤ c0) (w0 : WU l0) (w1 : a1.size ≤ 140737488351232) :
    Calls Try.prog 9 #[.slice A0 l0.length c0, .string a1] w fun e w' => e = .returned (.bool true) ∧ Below w.heap.size w w' := by
  by_cases h : KOk l0 ∧ l0.length < 1023
  · obtain ⟨k, r, h1, _, h3⟩ := fnv_all a1 (by have : maxLen = 9223372036854775807 := rfl; omega)
    exact Grows_yes A0 c0 l0 a1 w C0 m0 w0 h.1 h.2 k r h1 h3
  · exact Grows_no A0 c0 l0 a1 w C0 m0 w0 h
end Go.Proofs.Ytpjchgiemmnikaa.Pure
