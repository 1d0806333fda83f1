/- For every list of numbers and place: numbers in two parts, merged, are the numbers in one. No condition. -/
import Derived.Test.YtmhejpcbgknncaaWalkHistSplit
import Derived.Test.YtmhejpcbgknncaaOpens
namespace Go.Proofs.Ytmhejpcbgknncaa
open Go.Proofs.YtmhejpcbgknncaaW.PrintWords
/-- How a list of numbers is read. -/
def Pure.WU (l : List Int) : Prop := l.length * 8 ≤ 140737488351232 ∧ l.length ≤ 9223372036854775807 ∧ ∀ x ∈ l, (Lit.int .u64 x).wf = true
theorem opens29 : Opens Try.prog 29 (Kd.slice 22 (Kd.int .u64)) Pure.WU := opens_slice Try.underlying29 (by kernel_rfl) (by kernel_rfl) (opens_int Try.underlying22)
namespace Pure
open Go.RowKit Go.Proofs.Ytmhejpcbgknncaa.Hi Go.Proofs.Ytmhejpcbgknncaa.Hj Go.Proofs.Ytmhejpcbgknncaa.Hp Go.Proofs.YtmhejpcbgknncaaW.PrintLast

theorem Place_at (n m : Int) (h0 : 0 < m) (hm : m ≤ 1000000000) : ∃ k : Nat, varvelaw00_Place.f n m = some (k : Int) ∧ (k : Int) < m := by
  have e := Int.mul_tdiv_add_tmod n m
  have l1 := Int.tmod_lt_of_pos n h0
  have l2 : -m < Int.tmod n m := by
    have := Int.lt_tmod_of_pos n h0
    omega
  unfold varvelaw00_Place.f
  rw [if_neg (by omega)]
  by_cases c : Int.tmod n m < 0
  · rw [if_pos c]
    refine ⟨(Int.tmod n m + m).toNat, ?_, by omega⟩
    rw [w64 (by omega) (by omega)]
    congr 1; omega
  · rw [if_neg c]
    exact ⟨(Int.tmod n m).toNat, by congr 1; omega, by omega⟩
theorem addAll_plus {l : List Int} (hl : ∀ x ∈ l, 0 ≤ x ∧ x < 18446744073709551616) : ∀ {s : List Int}, hgood s = true → addAll s l = hplus s (addAll hz l) := by
  induction l with
  | nil => intro s hs; exact (hplus_zero hs).symm
  | cons v l ih =>
    intro s hs
    have hv := hl v (by simp)
    have hb := bucketN_lt v.toNat (by omega)
    have hl' : ∀ x ∈ l, 0 ≤ x ∧ x < 18446744073709551616 := fun x hx => hl x (by simp [hx])
    have g0 : hgood hz = true := hzero_good
    have g1 := hadd_good g0 (bucketN v.toNat) 1 (by omega)
    show addAll (hadd s (bucketN v.toNat) 1) l = hplus s (addAll (hadd hz (bucketN v.toNat) 1) l)
    rw [ih hl' (hadd_good hs _ 1 (by omega)), ih hl' g1, hadd_plus hs _ hb 1 (by omega) (by omega), hplus_assoc hs g1 (addAll_good g0)]
theorem HistSplit_walk (A0 : Option Addr) (c0 : Nat) (l0 : List Int) (a1 : Int) (w : World) (C0 : Kd.C (Kd.int .u64) w A0 l0.length l0) (_ : l0.length ≤ c0) (w0 : WU l0) (_ : (Lit.int .i64 a1).wf = true) :
    Calls Try.prog 11 #[.slice A0 l0.length c0, .int .i64 a1] w fun e w' => e = .returned (.bool true) ∧ Below w.heap.size w w' := by
  by_cases h : 300 < l0.length
  · exact HistSplit_long A0 c0 l0 a1 h w0.2.1 w
  · have hl : ∀ x ∈ l0, 0 ≤ x ∧ x < 18446744073709551616 := fun x hx => U.of (w0.2.2 x hx)
    obtain ⟨k, hk, _⟩ := Place_at a1 ((l0.length : Int) + 1) (by omega) (by omega)
    refine HistSplit_walk_ A0 c0 l0 a1 k hk (by omega) hl ?_ w C0
    have g0 : hgood hz = true := hzero_good
    have gt := addAll_good (l := l0.take k) g0
    have gd := addAll_good (l := l0.drop k) g0
    have e : addAll hz l0 = addAll (addAll hz (l0.take k)) (l0.drop k) := by
      unfold addAll
      rw [← List.foldl_append, List.take_append_drop]
    rw [merged_plus (bks_Bok gt) gd, merged_bks gt, e, addAll_plus (fun x hx => hl x (List.mem_of_mem_drop hx)) gt, hplus_comm gd gt]
end Pure
end Go.Proofs.Ytmhejpcbgknncaa
