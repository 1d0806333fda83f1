/- The seed's theorem of histograms, in plain lists: the bucket of a rank is that of the number of that rank. Plain Lean. -/
import Derived.Test.YtlfjfgcalilnpaaHMany
import Derived.Test.YtlfjfgcalilnpaaHPlus
namespace Go.Proofs.Ytlfjfgcalilnpaa.Pure
set_option linter.unusedVariables false
set_option linter.unusedSimpArgs false
open Go.RowKit Go.Proofs.Ytlfjfgcalilnpaa.Hi Go.Proofs.YtlfjfgcalilnpaaW.PrintWords Go.Proofs.YtlfjfgcalilnpaaW.PrintLast

/-- All of a list, one by one. -/
def addEach (l : List Int) : List Int := l.foldl (fun s v => hadd s (bucketN v.toNat) 1) (hzero 7424)
theorem addEach_snoc (l : List Int) (x : Int) : addEach (l ++ [x]) = hadd (addEach l) (bucketN x.toNat) 1 := by simp [addEach, List.foldl_append]
/-- How many of a list are in the buckets up to r. -/
def upTo (l : List Int) (r : Nat) : Nat := l.countP (fun x => decide (bucketN x.toNat < r))
theorem snoc_ind {P : List Int → Prop} (h0 : P []) (h1 : ∀ l x, P l → P (l ++ [x])) (l : List Int) : P l := by
  have : ∀ r : List Int, P r.reverse := by
    intro r
    induction r with
    | nil => exact h0
    | cons x r ih => rw [List.reverse_cons]; exact h1 _ x ih
  have := this l.reverse
  rwa [List.reverse_reverse] at this
theorem addEach_spec (l : List Int) (hl : ∀ x ∈ l, 0 ≤ x ∧ x < 18446744073709551616) (hn : l.length ≤ 1000) :
    hgood (addEach l) = true ∧ psum (addEach l) = l.length ∧ ∀ r, r ≤ 7424 → psum ((addEach l).take r) = upTo l r := by
  revert hl hn
  refine snoc_ind (P := fun l => (∀ x ∈ l, 0 ≤ x ∧ x < 18446744073709551616) → l.length ≤ 1000 → hgood (addEach l) = true ∧ psum (addEach l) = l.length ∧ ∀ r, r ≤ 7424 → psum ((addEach l).take r) = upTo l r) ?_ ?_ l
  · intro _ _
    refine ⟨hzero_good, psum_hzero 7424, fun r hr => ?_⟩
    show psum ((hzero 7424).take r) = 0
    unfold hzero
    rw [List.take_replicate]
    exact psum_hzero _
  · intro l x ih hl hn
    rw [List.length_append, List.length_singleton] at hn
    obtain ⟨h1, h2, h3⟩ := ih (fun y hy => hl y (by simp [hy])) (by omega)
    have hx := hl x (by simp)
    have hb := bucketN_lt x.toNat (by omega)
    have gg := (hgood_iff _).mp h1
    have hge := psum_ge _ gg.2 (bucketN x.toNat) (by omega)
    have hg0 := getD_range gg.2 (bucketN x.toNat)
    rw [addEach_snoc]
    have hh : hold ((addEach l).getD (bucketN x.toNat) 0 + 1) = (addEach l).getD (bucketN x.toNat) 0 + 1 := by
      unfold hold; rw [if_pos (by omega)]
    refine ⟨hadd_good h1 _ _ (by omega), ?_, fun r hr => ?_⟩
    · unfold hadd
      rw [hh, psum_set _ _ _ (by omega), h2, List.length_append, List.length_singleton]
      omega
    · have h4 := h3 r hr
      unfold hadd upTo
      rw [hh, List.take_set, List.countP_append]
      by_cases c : bucketN x.toNat < r
      · rw [psum_set _ _ _ (by rw [List.length_take]; omega), h4, take_getD _ _ _ c]
        simp only [List.countP_singleton, decide_eq_true c, if_true]
        unfold upTo
        omega
      · rw [List.set_eq_of_length_le (by rw [List.length_take]; omega), h4]
        simp only [List.countP_singleton, decide_eq_false c, upTo]
        simp
theorem upTo_perm {l t : List Int} (h : t.Perm l) (r : Nat) : upTo t r = upTo l r := h.countP_eq _
/-- The rank of the k-th least number is in that number's bucket. -/
theorem rank_of {l t : List Int} (hp : t.Perm l) (hs : t.Pairwise (· ≤ ·)) (hl : ∀ x ∈ l, 0 ≤ x ∧ x < 18446744073709551616) (hn : l.length ≤ 1000) {k : Nat} (h0 : 0 < k) (hk : k ≤ l.length) :
    rankAt (addEach l) (k : Int) = bucketN (t.getD (k - 1) 0).toNat := by
  obtain ⟨h1, h2, h3⟩ := addEach_spec l hl hn
  have gg := (hgood_iff _).mp h1
  have hlen : t.length = l.length := hp.length_eq
  have ht : ∀ x ∈ t, 0 ≤ x ∧ x < 18446744073709551616 := fun x hx => hl x (hp.mem_iff.1 hx)
  have hkt : k - 1 < t.length := by omega
  have ex : t.getD (k - 1) 0 = t[k - 1] := by rw [List.getD, List.getElem?_eq_getElem hkt]; rfl
  rw [ex]
  have hx := ht t[k - 1] (List.getElem_mem _)
  have hb := bucketN_lt t[k - 1].toNat (by omega)
  have mono : ∀ x y : Int, x ∈ t → y ∈ t → x ≤ y → bucketN x.toNat ≤ bucketN y.toNat := fun x y hx hy h => bucket_mono (by have := ht y hy; omega) (by omega)
  have hle : ∀ x ∈ t.take k, x ≤ t[k - 1] := by
    intro x hx
    obtain ⟨i, hi, rfl⟩ := List.getElem_of_mem hx
    rw [List.length_take] at hi
    rw [List.getElem_take]
    rcases Nat.lt_or_ge i (k - 1) with c | c
    · exact List.pairwise_iff_getElem.1 hs i (k - 1) (by omega) hkt c
    · have : i = k - 1 := by omega
      subst this; exact Int.le_refl _
  have hge : ∀ x ∈ t.drop (k - 1), t[k - 1] ≤ x := by
    intro x hx
    obtain ⟨i, hi, rfl⟩ := List.getElem_of_mem hx
    rw [List.length_drop] at hi
    rw [List.getElem_drop]
    rcases Nat.eq_zero_or_pos i with c | c
    · subst c; simp
    · exact List.pairwise_iff_getElem.1 hs (k - 1) (k - 1 + i) hkt (by omega) (by omega)
  refine rankAt_eq gg.1 gg.2 hb ?_ ?_
  · rw [h3 _ (by omega), ← upTo_perm hp]
    have e : upTo t (bucketN t[k - 1].toNat + 1) = upTo (t.take k) (bucketN t[k - 1].toNat + 1) + upTo (t.drop k) (bucketN t[k - 1].toNat + 1) := by
      unfold upTo; rw [← List.countP_append, List.take_append_drop]
    have e2 : upTo (t.take k) (bucketN t[k - 1].toNat + 1) = (t.take k).length := by
      unfold upTo
      rw [List.countP_eq_length]
      intro x hx
      have := mono x _ (List.mem_of_mem_take hx) (List.getElem_mem hkt) (hle x hx)
      exact decide_eq_true (by omega)
    rw [List.length_take] at e2
    omega
  · rw [h3 _ (by omega), ← upTo_perm hp]
    have e : upTo t (bucketN t[k - 1].toNat) = upTo (t.take (k - 1)) (bucketN t[k - 1].toNat) + upTo (t.drop (k - 1)) (bucketN t[k - 1].toNat) := by
      unfold upTo; rw [← List.countP_append, List.take_append_drop]
    have e2 : upTo (t.drop (k - 1)) (bucketN t[k - 1].toNat) = 0 := by
      unfold upTo
      rw [List.countP_eq_zero]
      intro x hx
      have := mono _ x (List.getElem_mem hkt) (List.mem_of_mem_drop hx) (hge x hx)
      simp only [decide_eq_true_eq]; omega
    have e3 : upTo (t.take (k - 1)) (bucketN t[k - 1].toNat) ≤ (t.take (k - 1)).length := List.countP_le_length
    rw [List.length_take] at e3
    omega
/-- What Quantile tells of a list: the lower end of the bucket of the k-th least, k its part rounded up. -/
theorem quant_each {l t : List Int} (hp : t.Perm l) (hs : t.Pairwise (· ≤ ·)) (hl : ∀ x ∈ l, 0 ≤ x ∧ x < 18446744073709551616) (hn : l.length ≤ 1000) (hne : 0 < l.length) {a b : Int} (ha : U a) (hb : U b) (h0 : b ≠ 0) (hab : a ≤ b) :
    ∃ k : Nat, (k : Int) = max 1 (up a l.length b) ∧ 0 < k ∧ k ≤ l.length ∧ hist_Hist_Quantile.f (addEach l) a b = some ((lowN (bucketN (t.getD (k - 1) 0).toNat) : Int), 0, addEach l) := by
  obtain ⟨h1, h2, h3⟩ := addEach_spec l hl hn
  have gg := (hgood_iff _).mp h1
  have hsum_ : hsum (addEach l) = l.length := by
    rw [hsum_psum _ gg.2, h2]; unfold hold; rw [if_pos (by omega)]
  have Q := Quantile_eq h1 ha hb h0 hab (by rw [hsum_]; omega) (by rw [hsum_]; omega)
  obtain ⟨q1, q2, q3, q4⟩ := Q
  rw [hsum_] at q1 q3 q4
  rw [h2] at q4
  refine ⟨(max 1 (up a l.length b)).toNat, by omega, by omega, by omega, ?_⟩
  rw [q1]
  have := rank_of hp hs hl hn (k := (max 1 (up a l.length b)).toNat) (by omega) (by omega)
  rw [show (((max 1 (up a (l.length : Int) b)).toNat : Nat) : Int) = max 1 (up a (l.length : Int) b) by omega] at this
  rw [this]
end Go.Proofs.Ytlfjfgcalilnpaa.Pure
