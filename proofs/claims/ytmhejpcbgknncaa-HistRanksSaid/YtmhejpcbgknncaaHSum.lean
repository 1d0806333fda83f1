/- Sums of counts behind an addition. Plain Lean, no program in sight. -/
import Derived.Test.YtmhejpcbgknncaaHBase
namespace Go.Proofs.Ytmhejpcbgknncaa.Pure
open Go.RowKit Go.Proofs.Ytmhejpcbgknncaa.Hi

theorem psum_foldl (l : List Int) (s : Int) : l.foldl (· + ·) s = s + psum l := by
  induction l generalizing s with
  | nil => simp [psum]
  | cons x l ih => have a := ih (s + x); have b := ih (0 + x); simp only [psum, List.foldl_cons] at *; omega
theorem psum_cons (x : Int) (l : List Int) : psum (x :: l) = x + psum l := by
  have := psum_foldl l (0 + x)
  simp only [psum, List.foldl_cons] at *
  omega
theorem psum_append (a b : List Int) : psum (a ++ b) = psum a + psum b := by
  rw [psum, List.foldl_append, psum_foldl]; rfl
theorem psum_set (l : List Int) (i : Nat) (x : Int) (h : i < l.length) : psum (l.set i x) = psum l - l.getD i 0 + x := by
  induction l generalizing i with
  | nil => simp at h
  | cons y l ih =>
    cases i with
    | zero => rw [List.set_cons_zero, psum_cons, psum_cons]; simp; omega
    | succ i =>
      rw [List.set_cons_succ, psum_cons, psum_cons, ih i (by simpa using h)]
      simp; omega
theorem psum_hzero (n : Nat) : psum (hzero n) = 0 := by
  induction n with
  | zero => rfl
  | succ n ih => unfold hzero at *; rw [List.replicate_succ, psum_cons, ih]; rfl
theorem psum_ge (l : List Int) (h : Cnt l) (i : Nat) (hi : i < l.length) : l.getD i 0 ≤ psum l := by
  induction l generalizing i with
  | nil => simp at hi
  | cons y l ih =>
    have hy := h y (by simp)
    have hl : Cnt l := fun x hx => h x (by simp [hx])
    have hp := psum_nonneg l hl
    rw [psum_cons]
    cases i with
    | zero => simp; omega
    | succ i => have := ih hl i (by simpa using hi); simp at *; omega
theorem getD_range {l : List Int} (h : Cnt l) (i : Nat) : 0 ≤ l.getD i 0 ∧ l.getD i 0 < 18446744073709551616 := by
  by_cases c : i < l.length
  · exact h _ (List.mem_of_getElem? (getD_get c))
  · rw [List.getD, List.getElem?_eq_none (by omega)]; simp
theorem hsum_hadd {l : List Int} (h : hgood l = true) (i : Nat) (hi : i < 7424) (n : Int) (n0 : 0 ≤ n) : hsum (hadd l i n) = hold (hsum l + n) := by
  have g := (hgood_iff _).mp h
  have g2 := (hgood_iff _).mp (hadd_good h i n n0)
  rw [hsum_psum _ g2.2, hsum_psum _ g.2]
  have e : psum (hadd l i n) = psum l - l.getD i 0 + hold (l.getD i 0 + n) := psum_set l i _ (by omega)
  rw [e]
  have a := psum_ge l g.2 i (by omega)
  have b := getD_range g.2 i
  generalize l.getD i 0 = y at *
  generalize psum l = s at *
  unfold hold
  repeat' split
  all_goals omega
theorem hsum_hzero : hsum (hzero 7424) = 0 := by
  rw [hsum_psum _ ((hgood_iff _).mp hzero_good).2, psum_hzero]; rfl
theorem New_eq : hist_New.f = some (hzero 7424) := by unfold hist_New.f; exact Eq.refl _
theorem Hist_Add_eq {l : List Int} (h : hgood l = true) (v : Nat) (hv : v < 18446744073709551616) (n : Int) (hn : U n) : hist_Hist_Add.f l (v : Int) n = some (hadd l (bucketN v) n) := by
  unfold hist_Hist_Add.f
  rw [if_pos ⟨h, ⟨by omega, by omega⟩, hn⟩, Int.toNat_natCast]
end Go.Proofs.Ytmhejpcbgknncaa.Pure
