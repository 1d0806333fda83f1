/- For every number, count and number: so often at once is so often one by one. No condition. -/
import Derived.Test.YtmhejpcbgknncaaWalkHistTimes
namespace Go.Proofs.Ytmhejpcbgknncaa.Pure
open Go.RowKit Go.Proofs.Ytmhejpcbgknncaa.Hi Go.Proofs.Ytmhejpcbgknncaa.Hj Go.Proofs.Ytmhejpcbgknncaa.Hp Go.Proofs.YtmhejpcbgknncaaW.PrintWords Go.Proofs.YtmhejpcbgknncaaW.PrintLast

theorem Place_eq (n m : Int) (h0 : 0 < m) (hm : m ≤ 1000000000) : ∃ k : Nat, varvelaw00_Place.f n m = some (k : Int) ∧ (k : Int) < m := by
  have e := Int.mul_tdiv_add_tmod n m
  have l1 := Int.tmod_lt_of_pos n h0
  have l2 : -m < Int.tmod n m := by
    have := Int.lt_tmod_of_pos n h0
    omega
  unfold varvelaw00_Place.f
  rw [if_neg (by omega)]
  by_cases c : Int.tmod n m < 0
  · rw [if_pos c]
    refine ⟨(Int.tmod n m + m).toNat, ?_, by omega⟩
    rw [w64 (by omega) (by omega)]
    congr 1; omega
  · rw [if_neg c]
    exact ⟨(Int.tmod n m).toNat, by congr 1; omega, by omega⟩
theorem ones_eq {s : List Int} (hs : hgood s = true) (b : Nat) (hb : b < 7424) (n : Nat) : ones s b n = hadd s b n := by
  have gg := (hgood_iff _).mp hs
  have hr := getD_range gg.2 b
  induction n with
  | zero =>
    show s = s.set b _
    have : hold (s.getD b 0 + ((0 : Nat) : Int)) = s.getD b 0 := by unfold hold; rw [if_pos (by omega)]; omega
    rw [this]
    refine List.ext_getElem? fun j => ?_
    rw [List.getElem?_set]
    by_cases c : b = j
    · subst c; rw [if_pos rfl, if_pos (by omega), getD_get (by omega)]
    · rw [if_neg c]
  | succ n ih =>
    show hadd (ones s b n) b 1 = _
    rw [ih]
    unfold hadd
    rw [List.set_set]
    congr 1
    have e : (s.set b (hold (s.getD b 0 + (n : Int)))).getD b 0 = hold (s.getD b 0 + (n : Int)) := by
      rw [List.getD, List.getElem?_set_self (by omega)]; rfl
    rw [e]
    generalize s.getD b 0 = x at *
    unfold hold
    repeat' split
    all_goals omega
theorem HistTimes_walk (v n u : Int) (w : World) (hv : (Lit.int .u64 v).wf = true) (_ : (Lit.int .i64 n).wf = true) (hu : (Lit.int .u64 u).wf = true) :
    Calls Try.prog 8 #[.int .u64 v, .int .i64 n, .int .u64 u] w fun e w' => e = .returned (.bool true) ∧ Below w.heap.size w w' := by
  replace hv := U.of_wf hv; replace hu := U.of_wf hu
  obtain ⟨k, hk, hlt⟩ := Place_eq n 60 (by omega) (by omega)
  have b1 : bucketN u.toNat < 7424 := bucketN_lt _ (by have := hu.1; have := hu.2; omega)
  have b2 : bucketN v.toNat < 7424 := bucketN_lt _ (by have := hv.1; have := hv.2; omega)
  have g0 := hadd_good hzero_good (bucketN u.toNat) 1 (by omega)
  refine HistTimes_walk_ v n u hv hu k hk (by omega) _ rfl (by rw [ones_eq g0 _ b2]) (by have := bksTo_len (hadd (hadd (hzero 7424) (bucketN u.toNat) 1) (bucketN v.toNat) k) 7424; unfold bks; omega) ?_ w
  rw [hsum_hadd g0 _ b2 _ (by omega), hsum_hadd hzero_good _ b1 _ (by omega), hsum_hzero]
  unfold hold
  repeat' split
  all_goals omega
end Go.Proofs.Ytmhejpcbgknncaa.Pure
