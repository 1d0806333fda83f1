/- What is asked of the law HistTimes: the walk over its Go text. No condition but how an argument is read. -/
import Derived.Test.YtmhejpcbgknncaaHMany
import Derived.Test.YtmhejpcbgknncaaHpx
namespace Go.Proofs.Ytmhejpcbgknncaa
open Go.RowKit Go.Proofs.YtmhejpcbgknncaaW.PrintWords Go.Proofs.YtmhejpcbgknncaaW.PrintLast Go.Proofs.YtmhejpcbgknncaaW.PrintMore Go.Proofs.Ytmhejpcbgknncaa.Hi Go.Proofs.Ytmhejpcbgknncaa.Hj Go.Proofs.Ytmhejpcbgknncaa.Hp

/-- So often one more. -/
def ones (s : List Int) (b : Nat) : Nat → List Int
  | 0 => s
  | n + 1 => hadd (ones s b n) b 1
theorem ones_good {s : List Int} (h : hgood s = true) (b : Nat) (n : Nat) : hgood (ones s b n) = true := by
  induction n with
  | zero => exact h
  | succ n ih => exact hadd_good ih b 1 (by omega)
theorem awake_calls (w : World) : Calls Try.prog 23 #[] w fun e w' => e = .returned (.bool true) ∧ Below w.heap.size w w' := varvelaw07_awake.calls true w Pure.awake_true

set_option maxHeartbeats 1000000 in
set_option maxRecDepth 100000 in
theorem HistTimes_walk_ (v n u : Int) (hv : 0 ≤ v ∧ v < 18446744073709551616) (hu : 0 ≤ u ∧ u < 18446744073709551616) (k : Nat) (hk : varvelaw00_Place.f n 60 = some (k : Int)) (hk60 : k < 60)
    (s : List Int) (hs : s = hadd (hzero 7424) (bucketN u.toNat) 1) (hsame : bks (hadd s (bucketN v.toNat) k) = bks (ones s (bucketN v.toNat) k)) (hlen : (bks (hadd s (bucketN v.toNat) k)).length < 8796093022208)
    (hsum1 : hsum (hadd s (bucketN v.toNat) k) = (k : Int) + 1) (w : World) :
    Calls Try.prog 8 #[.int .u64 v, .int .i64 n, .int .u64 u] w fun e w' => e = .returned (.bool true) ∧ Below w.heap.size w w' := by
  have g0 : hgood s = true := by rw [hs]; exact hadd_good hzero_good _ 1 (by omega)
  have g1 : hgood (hadd s (bucketN v.toNat) k) = true := hadd_good g0 _ _ (by omega)
  have g2 := fun n => ones_good g0 (bucketN v.toNat) n
  have hS0 := HS.nil w
  have S1 := fun W g m (h : HS w W ((g, hzero 7424) :: m)) => (HS.add h 0 rfl hzero_good hu (n := 1) ⟨by omega, by omega⟩)
  have S2 := fun W ga gb sa (h : HS w W [(ga, sa), (gb, hzero 7424)]) => (HS.add h 1 rfl hzero_good hu (n := 1) ⟨by omega, by omega⟩)
  rw [← hs] at S1 S2
  have GS := Lib.hid hsame; have GL := Lib.hid hlen; have GH := Lib.hid hsum1; have G0 := Lib.hid g0; have G1 := Lib.hid g1; have G2 := Lib.hid g2
  have PL := fun w => varvelaw00_Place.calls n 60 k w hk
  clear hsame hlen hsum1 g0 g1 g2 hs hk
  go_enter Try.func8, Try.ntmps8
  go_wp2_with (first
    | (go_at_call 24; refine (HS.new hS0).mono ?_; rintro e w1 ⟨ga, rfl, hS1, hb⟩; clear hS0 hb)
    | (go_at_call 24; refine (HS.new hS1).mono ?_; rintro e w2 ⟨gb, rfl, hS2, hb⟩; clear hS1 hb)
    | (go_at_call 34; refine (PL _).mono ?_; rintro e w3 ⟨rfl, hd⟩; have hS3 := hS2.drawn hd; clear hS2 hd)
    | (go_at_call 25; refine (S1 _ _ _ hS3).mono ?_; rintro e w4 ⟨rfl, hS4, hb⟩; clear hS3 hb)
    | (go_at_call 25; refine (S2 _ _ _ _ hS4).mono ?_; rintro e w5 ⟨rfl, hS5, hb⟩; clear hS4 hb)
    | (go_at_call 25; refine (HS.add hS5 0 rfl G0.out hv (n := k) (by omega)).mono ?_; rintro e w6 ⟨rfl, hS6, hb⟩; clear hS5 hb))
  have hS7 : HS w w6 [(ga, hadd s (bucketN v.toNat) k), (gb, ones s (bucketN v.toNat) 0)] := hS6
  clear hS6 S1 S2 PL hu
  go_loopw [10] (fun i wr => ∃ j : Nat, j ≤ k ∧ i = .int .i64 j ∧ HS w wr [(ga, hadd s (bucketN v.toNat) k), (gb, ones s (bucketN v.toNat) j)]) (fun i _ => k - (intOf i).toNat)
  case atStart => exact ⟨0, Nat.zero_le _, rfl, hS7⟩
  case round =>
    clear hS7
    obtain ⟨j, hj, rfl, hS⟩ := hrel
    by_cases hlt : j < k
    · have hd : decide (j < k) = true := decide_eq_true (by omega)
      have HLT := Lib.hid hlt
      clear hlt
      go_wp2_with (go_at_call 25; refine (HS.add hS 1 rfl (G2.out j) hv (n := 1) (by omega)).mono ?_; rintro e w8 ⟨rfl, hS8, hb⟩; clear hS hb)
      go_roundw
      case rel => exact ⟨j + 1, by have := HLT.out; omega, by go_num, hS8⟩
      case measure => have := HLT.out; simp [intOf]; omega
    · have hjk : j = k := by omega
      subst hjk
      have hd : decide (j < j) = false := decide_eq_false (by omega)
      have hc : IntKind.u64.wrap ((j : Int) + 1) = (j : Int) + 1 := by rw [IntKind.wrap_u64]; omega
      have h15 : ¬ (hsum (hadd s (bucketN v.toNat) j) = 18446744073709551615) := by rw [GH.out]; omega
      have C1 := HS.count hS 0 rfl G1.out
      rw [if_neg h15, GH.out] at C1
      clear hlt h15
      go_wp2_with (first
        | (go_at_call 28; refine C1.mono ?_; rintro e w9 ⟨rfl, rfl⟩; clear C1)
        | (go_at_call 35; refine (HS.bks hS 0 rfl G1.out).mono ?_; rintro e w10 ⟨A, c, rfl, lc, hC, _, hS10, _⟩; clear hS)
        | (go_at_call 35; refine (HS.bks hS10 1 rfl (G2.out j)).mono ?_; rintro e w11 ⟨A', c', rfl, lc', hC', _, hS11, hb11⟩; clear hS10; have hC2 := Kd.C_below hC hb11; clear hC hb11; rw [← GS.out] at hC' lc'; rw [← GS.out])
        | (go_at_call 33; refine (varvelaw00_SameBuckets.calls _ A c _ A' c' _ true _ hC2 lc hC' lc' (Pure.Same_self _ GL.out _ (Nat.lt_succ_self _))).mono ?_; rintro e w12 ⟨rfl, hd12⟩; have hS12 := hS11.drawn hd12; clear hS11 hd12 hC2 hC')
        | (go_at_call 23; refine (awake_calls _).mono ?_; rintro e w13 ⟨rfl, hb13⟩; have hS13 := hS12.below hb13; clear hS12 hb13))
      go_ret
      exact ⟨rfl, hS13.bel⟩
end Go.Proofs.Ytmhejpcbgknncaa
