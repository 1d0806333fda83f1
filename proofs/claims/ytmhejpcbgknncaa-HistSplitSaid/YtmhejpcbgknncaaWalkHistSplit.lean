/- What is asked of the law HistSplit: the walk over its Go text. No condition but how an argument is read. -/
import Derived.Test.YtmhejpcbgknncaaHMany
import Derived.Test.YtmhejpcbgknncaaHPlus
import Derived.Test.YtmhejpcbgknncaaHpx
namespace Go.Proofs.Ytmhejpcbgknncaa
open Go.RowKit Go.Proofs.YtmhejpcbgknncaaW.PrintWords Go.Proofs.YtmhejpcbgknncaaW.PrintLast Go.Proofs.YtmhejpcbgknncaaW.PrintMore Go.Proofs.Ytmhejpcbgknncaa.Hi Go.Proofs.Ytmhejpcbgknncaa.Hj Go.Proofs.Ytmhejpcbgknncaa.Hp

/-- One of each number. -/
def addAll (s : List Int) (l : List Int) : List Int := l.foldl (fun s v => hadd s (bucketN v.toNat) 1) s
abbrev hz : List Int := hzero 7424
theorem addAll_good {l : List Int} : ∀ {s : List Int}, hgood s = true → hgood (addAll s l) = true := by
  induction l with
  | nil => intro s h; exact h
  | cons v l ih => intro s h; exact ih (hadd_good h _ 1 (by omega))
theorem addAll_snoc (s l : List Int) (x : Int) : addAll s (l ++ [x]) = hadd (addAll s l) (bucketN x.toNat) 1 := by simp [addAll, List.foldl_append]
theorem awake_true_calls (w : World) : Calls Try.prog 23 #[] w fun e w' => e = .returned (.bool true) ∧ Below w.heap.size w w' := varvelaw07_awake.calls true w Pure.awake_true
theorem take_rd (l : List Int) (j : Nat) (h : j < l.length) : l.take (j + 1) = l.take j ++ [rd l (j : Int)] := by
  rw [List.take_add_one, rd, Int.toNat_natCast, getD_get h]; rfl

set_option maxHeartbeats 1000000 in
set_option maxRecDepth 100000 in
theorem HistSplit_long (A : Option Addr) (c : Nat) (l : List Int) (at_ : Int) (h : 300 < l.length) (hm : l.length ≤ 9223372036854775807) (w : World) :
    Calls Try.prog 11 #[.slice A l.length c, .int .i64 at_] w fun e w' => e = .returned (.bool true) ∧ Below w.heap.size w w' := by
  have hS0 := HS.nil w
  have h2 : decide (300 < l.length) = true := decide_eq_true h
  have h3 : decide (300 < (l.length : Int)) = true := decide_eq_true (by omega)
  clear h
  go_enter Try.func11, Try.ntmps11
  go_wp2_with (first
    | (go_at_call 24; refine (HS.new hS0).mono ?_; rintro e w1 ⟨ga, rfl, hS1, hb⟩; clear hS0 hb)
    | (go_at_call 24; refine (HS.new hS1).mono ?_; rintro e w2 ⟨gb, rfl, hS2, hb⟩; clear hS1 hb)
    | (go_at_call 24; refine (HS.new hS2).mono ?_; rintro e w3 ⟨gc, rfl, hS3, hb⟩; clear hS2 hb)
    | (go_at_call 23; refine (awake_true_calls _).mono ?_; rintro e w13 ⟨rfl, hb13⟩; have hS13 := hS3.below hb13; clear hS3 hb13))
  go_ret
  exact ⟨rfl, hS13.bel⟩
set_option maxHeartbeats 2000000 in
set_option maxRecDepth 100000 in
theorem HistSplit_walk_ (A : Option Addr) (c : Nat) (l : List Int) (at_ : Int) (k : Nat) (hk : varvelaw00_Place.f at_ ((l.length : Int) + 1) = some (k : Int)) (h : l.length ≤ 300) (hl : ∀ x ∈ l, 0 ≤ x ∧ x < 18446744073709551616)
    (hsame : bks (Pure.merged (addAll hz (l.drop k)) (bks (addAll hz (l.take k)))) = bks (addAll hz l)) (w : World) (hR : (Kd.int .u64).C w A l.length l) :
    Calls Try.prog 11 #[.slice A l.length c, .int .i64 at_] w fun e w' => e = .returned (.bool true) ∧ Below w.heap.size w w' := by
  have GA := fun x => addAll_good (l := x) (s := hz) hzero_good
  have GM := Pure.merged_good_of (Pure.bks_Bok (GA (l.take k))) (GA (l.drop k))
  have GL := Lib.hid (Pure.bks_len (addAll hz l))
  have GS := Lib.hid hsame; have GA' := Lib.hid GA; have GM' := Lib.hid GM; have HL := Lib.hid hl; have HR := Lib.hid hR
  have PL := fun w => varvelaw00_Place.calls at_ ((l.length : Int) + 1) k w hk
  have hS0 := HS.nil w
  have h2 : decide (300 < l.length) = false := decide_eq_false (by omega)
  have H := Lib.hid h
  clear hsame GA GM hk hl hR h
  go_enter Try.func11, Try.ntmps11
  have hb1 := H.out
  go_wp2_with (first
    | (go_at_call 24; refine (HS.new hS0).mono ?_; rintro e w1 ⟨ga, rfl, hS1, hb⟩; clear hS0 hb)
    | (go_at_call 24; refine (HS.new hS1).mono ?_; rintro e w2 ⟨gb, rfl, hS2, hb⟩; clear hS1 hb)
    | (go_at_call 24; refine (HS.new hS2).mono ?_; rintro e w3 ⟨gc, rfl, hS3, hb⟩; clear hS2 hb)
    | (go_at_call 34; refine (PL _).mono ?_; rintro e w4 ⟨rfl, hd⟩; have hS4 := hS3.drawn hd; clear hS3 hd PL))
  have hS5 : HS w w4 [(ga, addAll hz ((l.take 0).take k)), (gb, addAll hz ((l.take 0).drop k)), (gc, addAll hz (l.take 0))] := by
    rw [List.take_zero, List.take_nil, List.drop_nil]; exact hS4
  clear hS4 h2
  go_loopw [9] (fun i wr => ∃ j : Nat, j ≤ l.length ∧ i = .int .i64 j ∧ HS w wr [(ga, addAll hz ((l.take j).take k)), (gb, addAll hz ((l.take j).drop k)), (gc, addAll hz (l.take j))]) (fun i _ => l.length - (intOf i).toNat)
  case atStart => exact ⟨0, Nat.zero_le _, rfl, hS5⟩
  case round =>
    clear hS5
    obtain ⟨j, hj, rfl, hS⟩ := hrel
    by_cases hlt : j < l.length
    · have HLT := Lib.hid hlt
      have hd : decide (j < l.length) = true := decide_eq_true (by omega)
      obtain ⟨x, hx⟩ : ∃ x, rd l (j : Int) = x := ⟨_, rfl⟩
      obtain ⟨ad, rfl, hc⟩ := Kd.at_int HR.out (j : Int) (by omega) (by omega)
      rw [hx, Int.toNat_natCast] at hc
      have HC0 := Lib.hid hc
      have HLB := Lib.hid (World.block_lt_of_cell? w _ hc)
      replace hc := (hS.bel.cell HLB.out).trans HC0.out
      have hxr : 0 ≤ x ∧ x < 18446744073709551616 := HL.out x (by rw [← hx, rd, Int.toNat_natCast]; exact List.mem_of_getElem? (getD_get hlt))
      have T := take_rd l j hlt
      rw [hx] at T
      have p1 : 0 ≤ (j : Int) := by omega
      have q1 : (j : Int) < (l.length : Int) := by omega
      have TL : (l.take j).length = j := by rw [List.length_take]; omega
      have E3 : Hid (addAll hz (l.take (j + 1)) = hadd (addAll hz (l.take j)) (bucketN x.toNat) 1) := by rw [T, addAll_snoc]; exact Lib.hid rfl
      by_cases hjk : j < k
      · have hd2 : decide (j < k) = true := decide_eq_true hjk
        have E1 : Hid (addAll hz ((l.take (j + 1)).take k) = hadd (addAll hz ((l.take j).take k)) (bucketN x.toNat) 1) := by
          rw [T, List.take_of_length_le (l := l.take j ++ [x]) (by rw [List.length_append, TL]; simp; omega), List.take_of_length_le (l := l.take j) (by omega), addAll_snoc]; exact Lib.hid rfl
        have E2 : Hid (addAll hz ((l.take (j + 1)).drop k) = addAll hz ((l.take j).drop k)) := by
          rw [T, List.drop_of_length_le (l := l.take j ++ [x]) (by rw [List.length_append, TL]; simp; omega), List.drop_of_length_le (l := l.take j) (by omega)]; exact Lib.hid rfl
        clear hlt T TL hx hjk
        go_wp2_with (first
          | (go_at_call 25; refine (HS.add hS 2 rfl (GA'.out _) hxr (n := 1) (by omega)).mono ?_; rintro e w8 ⟨rfl, hS8, hk8⟩; clear hS hk8 hc; have hc := (hS8.bel.cell HLB.out).trans HC0.out)
          | (go_at_call 25; refine (HS.add hS8 0 rfl (GA'.out _) hxr (n := 1) (by omega)).mono ?_; rintro e w9 ⟨rfl, hS9, hk9⟩; clear hS8 hk9))
        go_roundw
        case rel => exact ⟨j + 1, by have := HLT.out; omega, by go_num, by rw [E1.out, E2.out, E3.out]; exact hS9⟩
        case measure => have := HLT.out; simp [intOf]; omega
      · have hd2 : decide (j < k) = false := decide_eq_false hjk
        have E1 : Hid (addAll hz ((l.take (j + 1)).take k) = addAll hz ((l.take j).take k)) := by
          rw [T, List.take_append_of_le_length (by omega)]; exact Lib.hid rfl
        have E2 : Hid (addAll hz ((l.take (j + 1)).drop k) = hadd (addAll hz ((l.take j).drop k)) (bucketN x.toNat) 1) := by
          rw [T, List.drop_append_of_le_length (by omega), addAll_snoc]; exact Lib.hid rfl
        clear hlt T TL hx hjk
        go_wp2_with (first
          | (go_at_call 25; refine (HS.add hS 2 rfl (GA'.out _) hxr (n := 1) (by omega)).mono ?_; rintro e w8 ⟨rfl, hS8, hk8⟩; clear hS hk8 hc; have hc := (hS8.bel.cell HLB.out).trans HC0.out)
          | (go_at_call 25; refine (HS.add hS8 1 rfl (GA'.out _) hxr (n := 1) (by omega)).mono ?_; rintro e w9 ⟨rfl, hS9, hk9⟩; clear hS8 hk9))
        go_roundw
        case rel => exact ⟨j + 1, by have := HLT.out; omega, by go_num, by rw [E1.out, E2.out, E3.out]; exact hS9⟩
        case measure => have := HLT.out; simp [intOf]; omega
    · have hje : j = l.length := by omega
      subst hje
      have hd : decide (l.length < l.length) = false := decide_eq_false (by omega)
      have hS0 : HS w wr [(ga, addAll hz (l.take k)), (gb, addAll hz (l.drop k)), (gc, addAll hz l)] := by rw [List.take_length] at hS; exact hS
      clear hlt hS
      go_wp2_with (first
        | (go_at_call 35; refine (HS.bks hS0 0 rfl (GA'.out _)).mono ?_; rintro e w10 ⟨A1, c1, rfl, lc1, _, hR1, hS1, _⟩; clear hS0)
        | (go_at_call 37; refine (HS.merge hS1 1 rfl (GA'.out _) lc1 (HS.own hS1 1 rfl hR1) (Pure.bks_WB (GA'.out _)) (Pure.bks_chk (GA'.out _))).mono ?_; rintro e w11 ⟨rfl, hS2, _⟩; clear hS1 hR1)
        | (go_at_call 35; refine (HS.bks hS2 1 rfl GM'.out).mono ?_; rintro e w12 ⟨A2, c2, rfl, lc2, hC2, _, hS3, _⟩; clear hS2; rw [GS.out] at lc2 hC2; rw [GS.out])
        | (go_at_call 35; refine (HS.bks hS3 2 rfl (GA'.out _)).mono ?_; rintro e w13 ⟨A3, c3, rfl, lc3, hC3, _, hS4, hb4⟩; clear hS3; have hC22 := Kd.C_below hC2 hb4; clear hC2 hb4)
        | (go_at_call 33; refine (varvelaw00_SameBuckets.calls _ A2 c2 _ A3 c3 _ true _ hC22 lc2 hC3 lc3 (Pure.Same_self _ (Nat.lt_of_le_of_lt GL.out (by decide)) _ (Nat.lt_succ_self _))).mono ?_; rintro e w14 ⟨rfl, hd14⟩; have hS5 := hS4.drawn hd14; clear hS4 hd14 hC22 hC3)
        | (go_at_call 23; refine (awake_true_calls _).mono ?_; rintro e w15 ⟨rfl, hb15⟩; have hS6 := hS5.below hb15; clear hS5 hb15))
      go_ret
      exact ⟨rfl, hS6.bel⟩
end Go.Proofs.Ytmhejpcbgknncaa
