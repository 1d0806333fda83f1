/- For every first hash, gap and number: of more than 1023 unlike hashes the number is told by the 1024th least. No condition. -/
import Derived.Test.YtpjchgiemmnikaaPureKmvTurns
namespace Go.Proofs.Ytpjchgiemmnikaa.Pure
set_option linter.unusedVariables false
set_option linter.unusedSimpArgs false
open Go.RowKit Go.Maps Go.Proofs.YtpjchgiemmnikaaW.PrintWords Go.Proofs.YtpjchgiemmnikaaW.PrintLast Go.Proofs.YtpjchgiemmnikaaW.PrintMore Go.Proofs.Ytpjchgiemmnikaa.Q

/-- The hashes from the j-th to the n-th. -/
def pts (F G : Int) (j n : Nat) : List Int := (List.range' j (n - j)).map (fun i : Nat => F + (i : Int) * G)
theorem pts_len (F G : Int) (j n : Nat) : (pts F G j n).length = n - j := by simp [pts]
theorem pts_cons (F G : Int) {j n : Nat} (h : j < n) : pts F G j n = (F + (j : Int) * G) :: pts F G (j + 1) n := by
  unfold pts
  rw [show n - j = (n - (j + 1)) + 1 by omega, List.range'_succ]; rfl
theorem pts_at (F G : Int) {j n i : Nat} (h : i < n - j) : (pts F G j n)[i]? = some (F + ((j + i : Nat) : Int) * G) := by
  unfold pts
  rw [List.getElem?_map, List.getElem?_range' h]; simp
theorem pts_lt (F G : Int) (hG : 0 < G) {j n : Nat} : ∀ x ∈ pts F G (j + 1) n, F + (j : Int) * G < x := by
  intro x hx
  obtain ⟨i, hi, rfl⟩ := List.mem_map.1 hx
  rw [List.mem_range'] at hi
  obtain ⟨k, hk, rfl⟩ := hi
  have : (j : Int) * G < ((j + 1 + 1 * k : Nat) : Int) * G := Int.mul_lt_mul_of_pos_right (by omega) hG
  omega
theorem khash_low {S : List Int} {h : Int} (hl : ∀ x ∈ S, h < x) : khash S h = (h :: S).take 1024 := by
  unfold khash
  cases S with
  | nil => rfl
  | cons x r => rw [kins, if_pos (hl x (by simp))]
theorem pts_step (F G : Int) (hG : 0 < G) {j n : Nat} (h : j < n) : khash ((pts F G (j + 1) n).take 1024) (F + (j : Int) * G) = (pts F G j n).take 1024 := by
  rw [khash_low (fun x hx => pts_lt F G hG x (List.mem_of_mem_take hx)), pts_cons F G h, List.take_succ_cons, List.take_succ_cons, List.take_take]
  simp

theorem kdist_few {l : List Int} (h : KGood l) (hl : l.length < 1024) : kdist l = l.length := by
  unfold kdist
  rw [if_neg (c := ¬ KOk l) (fun c => c ⟨h.1, h.2.1⟩), if_pos hl]
theorem add1023_ (a : Addr) : a.add (1023 : Int).toNat = ⟨a.block, a.off + 1023, none⟩ := by
  obtain ⟨b, o, p⟩ := a
  cases p <;> simp [Addr.add]
theorem add0_ (a : Addr) : a.add (0 : Int).toNat = a := by
  obtain ⟨b, o, p⟩ := a
  cases p <;> simp [Addr.add]
set_option maxHeartbeats 4000000 in
set_option maxRecDepth 100000 in
theorem Many_walk (f g m p : Int) (hf : 0 ≤ f ∧ f < 18446744073709551616) (hg : 0 ≤ g ∧ g < 18446744073709551616) (hp : varvelaw00_Place.f m 100 = some p) (hp1 : 0 ≤ p ∧ p < 100) (w : World) :
    Calls Try.prog 5 #[.int .u64 f, .int .u64 g, .int .i64 m] w fun e w' => e = .returned (.bool true) ∧ Below w.heap.size w w' := by
  have PL := fun W => varvelaw00_Place.calls m 100 p W hp
  have hS0 := KS.nil w
  obtain ⟨f0, f1⟩ := hf
  obtain ⟨g0, g1⟩ := hg
  obtain ⟨p0, p1⟩ := hp1
  clear hp
  go_enter Try.func5, Try.ntmps5
  go_wp2_with (first
    | (go_at_call 26; refine hS0.new.mono ?_; rintro e w1 ⟨k, b, rfl, hS1, hb⟩; clear hS0 hb)
    | (go_at_call 27; refine (PL _).mono ?_; rintro e w2 ⟨rfl, hd⟩; have hS2 := hS1.drawn hd; clear hS1 hd PL))
  have F0 := Int.emod_nonneg f (show (1152921504606846976 : Int) ≠ 0 by omega)
  have F1 := Int.emod_lt_of_pos f (show (0 : Int) < 1152921504606846976 by omega)
  have G0 : 1 ≤ 1 + g % 1125899906842624 := by omega
  have G1 : 1 + g % 1125899906842624 ≤ 1125899906842624 := by omega
  generalize f % 1152921504606846976 = F at F0 F1 ⊢
  generalize 1 + g % 1125899906842624 = G at G0 G1 ⊢
  obtain ⟨n, hn⟩ : ∃ n : Nat, 1000 + p = n := ⟨(1000 + p).toNat, by omega⟩
  rw [hn]
  have n0 : 1000 ≤ n := by omega
  have n1 : n < 1100 := by omega
  clear hn p0 p1 f0 f1 g0 g1
  go_loopw [9] (fun v9 wr => ∃ (j : Nat) (z : Int), v9 = .int .i64 z ∧ Hid (z = (j : Int) - 1) ∧ j ≤ n ∧ KS w wr [(k, b, (pts F G j n).take 1024)]) (fun v9 _ => (intOf v9 + 1).toNat)
  case atStart => exact ⟨n, _, rfl, Lib.hid rfl, Nat.le_refl _, by simpa [pts] using hS2⟩
  case round =>
    clear hS2
    obtain ⟨j, z, rfl, HZ, hj, hS⟩ := hrel
    by_cases hz : 0 ≤ z
    · obtain ⟨i, rfl⟩ : ∃ i : Nat, j = i + 1 := ⟨j - 1, by have := HZ.out; omega⟩
      obtain rfl : z = (i : Int) := by have := HZ.out; omega
      have m0 : 0 ≤ (i : Int) * G := Int.mul_nonneg (by omega) (by omega)
      have m1 : (i : Int) * G ≤ 1100 * 1125899906842624 := Int.mul_le_mul (by omega) G1 (by omega) (by omega)
      have hv : 0 ≤ F + (i : Int) * G ∧ F + (i : Int) * G < 18446744073709551616 := by omega
      have e1 : IntKind.u64.wrap (i : Int) = (i : Int) := by rw [IntKind.wrap_u64]; omega
      have e2 : IntKind.u64.wrap ((i : Int) * G) = (i : Int) * G := by rw [IntKind.wrap_u64]; omega
      have e3 : IntKind.u64.wrap (F + (i : Int) * G) = F + (i : Int) * G := by rw [IntKind.wrap_u64]; omega
      have es := pts_step F G (by omega) (show i < n by omega)
      have C := hS.hash 0 rfl hv
      rw [es] at C
      have hd : decide (0 ≤ (i : Int)) = true := decide_eq_true hz
      clear hS hv es m0 m1 HZ
      go_wp2_with (go_at_call 31; refine C.mono ?_; rintro e w5 ⟨rfl, hS5, hf⟩; clear hf C)
      go_roundw
      case rel => exact ⟨i, _, rfl, Lib.hid rfl, by omega, hS5⟩
      case measure => first | (simp [intOf]; done) | (simp [intOf]; omega)
    · have hd : decide (0 ≤ z) = false := decide_eq_false hz
      obtain rfl : j = 0 := by have := HZ.out; omega
      clear HZ
      have hb0 := hS.bel
      by_cases hn : n < 1024
      · have eL : (pts F G 0 n).take 1024 = pts F G 0 n := List.take_of_length_le (by rw [pts_len]; omega)
        rw [eL] at hS
        have lL := pts_len F G 0 n
        rw [Nat.sub_zero] at lL
        have gL := (hS.at_ 0 rfl).1.good
        obtain ⟨L, hL⟩ : ∃ L, pts F G 0 n = L := ⟨_, rfl⟩
        rw [hL] at hS lL gL
        have dL := kdist_few gL (by omega)
        rw [lL] at dL
        have C := hS.hashes 0 rfl
        rw [lL] at C
        have D := fun W (h : KS w W [(k, b, L)]) => h.dist 0 rfl
        rw [dL] at D
        have hd1 : decide ((n : Int) < 1024) = true := decide_eq_true (by omega)
        have hd2 : decide (n < 1024) = true := decide_eq_true hn
        have e1 : IntKind.u64.wrap (n : Int) = (n : Int) := by rw [IntKind.wrap_u64]; omega
        clear hS eL lL gL hL dL hb0
        go_wp2_with (first
          | (go_at_call 32; refine C.mono ?_; rintro e w6 ⟨A6, c6, rfl, lc6, hC6, ho, hS6, hb⟩; clear C hC6 ho hb lc6)
          | (go_at_call 30; refine (D _ hS6).mono ?_; rintro e w7 ⟨rfl, hS7, hb⟩; clear D hS6 hb)
          | (go_at_call 25; refine (awake_u _).mono ?_; rintro e w8 ⟨rfl, hb⟩; have hS8 := hS7.below hb; clear hS7 hb))
        go_ret
        exact ⟨rfl, hS8.bel⟩
      · have lL : ((pts F G 0 n).take 1024).length = 1024 := by rw [List.length_take, pts_len]; omega
        have h0 : ((pts F G 0 n).take 1024)[0]? = some F := by
          rw [List.getElem?_take_of_lt (by omega), pts_at F G (by omega)]; simp
        have h1 : ((pts F G 0 n).take 1024)[1023]? = some (F + 1023 * G) := by
          rw [List.getElem?_take_of_lt (by omega), pts_at F G (by omega)]; simp
        have gL := (hS.at_ 0 rfl).1.good
        obtain ⟨L, hL⟩ : ∃ L, (pts F G 0 n).take 1024 = L := ⟨_, rfl⟩
        rw [hL] at hS lL gL h0 h1
        have r0 : rd L 0 = F := by rw [show (0 : Int) = ((0 : Nat) : Int) from rfl, rd_nat (by omega)]; exact (List.getElem?_eq_some_iff.1 h0).2
        have r1 : rd L 1023 = F + 1023 * G := by rw [show (1023 : Int) = ((1023 : Nat) : Int) from rfl, rd_nat (by omega)]; exact (List.getElem?_eq_some_iff.1 h1).2
        have dL : kdist L = 1023 * 18446744073709551616 / (F + 1023 * G + 1) := by
          unfold kdist
          rw [if_neg (c := ¬ KOk L) (fun c => c ⟨gL.1, gL.2.1⟩), if_neg (c := L.length < 1024) (by omega), r1, if_neg (by omega)]
        have DV := fun W => varveref01_Div.calls 67 1023 0 (F + 1023 * G + 1) _ _ _ W (by
          rw [refDiv_eq ⟨by omega, by omega⟩ ⟨by omega, by omega⟩ ⟨by omega, by omega⟩ _ (by omega), div128_yes (by omega)])
        obtain ⟨q, hq⟩ : ∃ q : Int, 1023 * 18446744073709551616 / (F + 1023 * G + 1) = q := ⟨_, rfl⟩
        rw [Int.add_zero, hq] at DV
        rw [hq] at dL
        have C := hS.hashes 0 rfl
        have D := fun W (h : KS w W [(k, b, L)]) => h.dist 0 rfl
        rw [dL] at D
        have hd1 : decide ((n : Int) < 1024) = false := decide_eq_false (by omega)
        have hd2 : decide (n < 1024) = false := decide_eq_false hn
        have HLL := Lib.hid lL; have HR0 := Lib.hid r0; have HR1 := Lib.hid r1
        clear hS lL gL hL dL hb0 h0 h1 r0 r1 hq
        go_wp2_with (first
          | (go_at_call 32; refine C.mono ?_; rintro e w6 ⟨A6, c6, rfl, lc6, hC6, ho, hS6, hb⟩; clear C ho hb; obtain ⟨am, rfl, d1⟩ := Kd.at_int hC6 0 (by omega) (by have := HLL.out; omega); obtain ⟨am', e', d2⟩ := Kd.at_int hC6 1023 (by omega) (by have := HLL.out; omega); obtain rfl : am = am' := (by injection e'); rw [HR0.out, add0_] at d1; rw [HR1.out, add1023_] at d2; rw [HLL.out]; clear hC6 e' lc6)
          | (go_at_call 33; refine (DV _).mono ?_; rintro e w7 ⟨rfl, hd⟩; have hS7 := hS6.drawn hd; obtain ⟨nd, rfl⟩ := hd; clear DV hS6)
          | (go_at_call 30; refine (D _ hS7).mono ?_; rintro e w8 ⟨rfl, hS8, hb⟩; clear D hS7 hb)
          | (go_at_call 25; refine (awake_u _).mono ?_; rintro e w9 ⟨rfl, hb⟩; have hS9 := hS8.below hb; clear hS8 hb))
        go_ret
        exact ⟨rfl, hS9.bel⟩
theorem KmvMany_walk (a0 : Int) (a1 : Int) (a2 : Int) (w : World) (w0 : (Lit.int .u64 a0).wf = true) (w1 : (Lit.int .u64 a1).wf = true) (w2 : (Lit.int .i64 a2).wf = true) :
    Calls Try.prog 5 #[.int .u64 a0, .int .u64 a1, .int .i64 a2] w fun e w' => e = .returned (.bool true) ∧ Below w.heap.size w w' := by
  have hp : ∃ p : Int, varvelaw00_Place.f a2 100 = some p ∧ 0 ≤ p ∧ p < 100 := by
    have e := Int.mul_tdiv_add_tmod a2 100
    have l1 := Int.tmod_lt_of_pos a2 (show (0 : Int) < 100 by omega)
    have l2 : -100 < Int.tmod a2 100 := Int.lt_tmod_of_pos a2 (by omega)
    unfold varvelaw00_Place.f
    rw [if_neg (by omega)]
    by_cases c : Int.tmod a2 100 < 0
    · rw [if_pos c, show wrap64 (Int.tmod a2 100 + 100) = Int.tmod a2 100 + 100 from by unfold wrap64; omega]
      exact ⟨_, rfl, by omega⟩
    · rw [if_neg c]
      exact ⟨_, rfl, by omega⟩
  obtain ⟨p, hp, hp1⟩ := hp
  exact Many_walk a0 a1 a2 p (U_of w0) (U_of w1) hp hp1 w
end Go.Proofs.Ytpjchgiemmnikaa.Pure
