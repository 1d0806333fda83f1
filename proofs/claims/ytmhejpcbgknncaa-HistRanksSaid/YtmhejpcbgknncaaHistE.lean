/- What the calls of hist.Hist compute, as plain functions of the list of counts. -/
import Derived.Test.YtmhejpcbgknncaaHistD
import Derived.Test.YtmhejpcbgknncaaBase
namespace Go.Proofs.Ytmhejpcbgknncaa
open Go.RowKit Go.Proofs.YtmhejpcbgknncaaW.PrintWords Go.Proofs.YtmhejpcbgknncaaW.PrintLast Go.Proofs.YtmhejpcbgknncaaW.PrintMore

/-- The counts of a histogram: 7424 numbers of 64 bits. -/
def hgood (l : List Int) : Bool := l.length == 7424 && l.all (fun x => decide (0 ≤ x) && decide (x < 18446744073709551616))
theorem hgood_iff (l : List Int) : hgood l = true ↔ l.length = 7424 ∧ Cnt l := by
  simp [hgood, Cnt]
def hadd (l : List Int) (i : Nat) (n : Int) : List Int := l.set i (hold (l.getD i 0 + n))
theorem getD_get {l : List Int} {i : Nat} (h : i < l.length) : l[i]? = some (l.getD i 0) := by
  rw [List.getElem?_eq_getElem h, List.getD, List.getElem?_eq_getElem h]; rfl
theorem hadd_good {l : List Int} (h : hgood l = true) (i : Nat) (n : Int) (n0 : 0 ≤ n) : hgood (hadd l i n) = true := by
  rw [hgood_iff] at *
  refine ⟨by simp [hadd, h.1], fun x hx => ?_⟩
  unfold hadd at hx
  rcases List.mem_or_eq_of_mem_set hx with hx | rfl
  · exact h.2 x hx
  · refine hold_range ?_
    by_cases c : i < l.length
    · have := h.2 _ (List.mem_of_getElem? (getD_get c)); omega
    · rw [List.getD, List.getElem?_eq_none (by omega)]; simpa using n0
theorem hzero_good : hgood (hzero 7424) = true := by
  rw [hgood_iff]
  refine ⟨hzero_length _, fun x hx => ?_⟩
  rw [hzero, List.mem_replicate] at hx
  rw [hx.2]; omega

/-- Where the counts come to k: the first bucket up to which there are so many. -/
def rankAt (l : List Int) (k : Int) : Nat := ((List.range 7424).find? fun r => decide (k ≤ psum (l.take (r + 1)))).getD 0
theorem rankAt_spec {l : List Int} {k : Int} (hl : l.length = 7424) (h : k ≤ psum l) : rankAt l k < 7424 ∧ k ≤ psum (l.take (rankAt l k + 1)) ∧ ∀ j, j < rankAt l k → psum (l.take (j + 1)) < k := by
  unfold rankAt
  cases hf : (List.range 7424).find? (fun r => decide (k ≤ psum (l.take (r + 1)))) with
  | none =>
    rw [List.find?_eq_none] at hf
    have := hf 7423 (by rw [List.mem_range]; omega)
    rw [show l.take (7423 + 1) = l from List.take_of_length_le (by omega)] at this
    exact absurd h (by simpa using this)
  | some r =>
    rw [List.find?_range_eq_some] at hf
    obtain ⟨h1, h2, h3⟩ := hf
    refine ⟨by simpa using h2, by simpa using h1, fun j hj => ?_⟩
    have := h3 j hj
    simpa using this
theorem psum_nonneg (l : List Int) (h : Cnt l) : 0 ≤ psum l := by
  have key : ∀ (l : List Int) (s : Int), Cnt l → 0 ≤ s → 0 ≤ l.foldl (· + ·) s := by
    intro l
    induction l with
    | nil => intro s _ hs; exact hs
    | cons x l ih => intro s hl hs; exact ih (s + x) (fun y hy => hl y (by simp [hy])) (by have := hl x (by simp); omega)
  exact key l 0 h (by omega)
theorem psum_mono (l : List Int) (h : Cnt l) (j : Nat) : psum (l.take j) ≤ psum l := by
  have e : l = l.take j ++ l.drop j := (List.take_append_drop j l).symm
  have key : ∀ (l : List Int) (s : Int), psum l + s = l.foldl (· + ·) s := by
    intro l
    induction l with
    | nil => intro s; simp [psum]
    | cons x l ih => intro s; have a := ih x; have b := ih (s + x); simp [psum] at *; omega
  have e2 : psum l = psum (l.take j) + psum (l.drop j) := by
    conv => lhs; rw [e]
    have := key (l.drop j) (psum (l.take j))
    simp only [psum, List.foldl_append] at *
    omega
  have := psum_nonneg (l.drop j) (fun x hx => h x (List.mem_of_mem_drop hx))
  omega
theorem hsum_psum (l : List Int) (h : Cnt l) : hsum l = hold (psum l) := by
  have key : ∀ (l : List Int) (s : Int), Cnt l → 0 ≤ s → l.foldl (fun s x => hold (s + x)) (hold s) = hold (l.foldl (· + ·) s) := by
    intro l
    induction l with
    | nil => intro s _ _; rfl
    | cons x l ih =>
      intro s hl hs
      have hx := hl x (by simp)
      have : hold (hold s + x) = hold (s + x) := by unfold hold; repeat' split
                                                    all_goals omega
      simp only [List.foldl_cons]
      rw [this]
      exact ih _ (fun y hy => hl y (by simp [hy])) (by omega)
  exact key l 0 h (by omega)

/-- A bucket has more. -/
def haddAt (s : List Int) (i n : Int) : Option (List Int) := if hgood s = true ∧ (0 ≤ i ∧ i < 7424) ∧ (0 ≤ n ∧ n < 18446744073709551616) then some (hadd s i.toNat n) else none
theorem haddAt_some {s : List Int} {i n : Int} {t : List Int} (h : haddAt s i n = some t) : hgood s = true ∧ 0 ≤ i ∧ i < 7424 ∧ 0 ≤ n ∧ n < 18446744073709551616 ∧ hadd s i.toNat n = t := by
  unfold haddAt at h
  split at h
  case isTrue hr => exact ⟨hr.1, hr.2.1.1, hr.2.1.2, hr.2.2.1, hr.2.2.2, Option.some.inj h⟩
  case isFalse => cases h
/-- A world behind a name. -/
theorem name_world {P : Program} {c : Code} {Q : Exit → Act → World → Prop} {a : Act} (W : World) (h : ∀ W', Hid (W = W') → Code.wp P c Q a W') : Code.wp P c Q a W := h W (Lib.hid rfl)

end Go.Proofs.Ytmhejpcbgknncaa
