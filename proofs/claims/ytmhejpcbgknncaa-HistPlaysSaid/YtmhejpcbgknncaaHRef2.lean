/- What the reference tells of a list of buckets is what the histogram tells. Plain Lean, no program in sight. -/
import Derived.Test.YtmhejpcbgknncaaHRef
namespace Go.Proofs.Ytmhejpcbgknncaa.Pure
open Go.RowKit Go.Proofs.Ytmhejpcbgknncaa.Hi Go.Proofs.Ytmhejpcbgknncaa.Hj Go.Proofs.Ytmhejpcbgknncaa.Hr Go.Proofs.YtmhejpcbgknncaaW.PrintWords Go.Proofs.YtmhejpcbgknncaaW.PrintLast

def lsum (l : List S51) : Int := psum (l.map (·.f1))
theorem lsum_append (a b : List S51) : lsum (a ++ b) = lsum a + lsum b := by unfold lsum; rw [List.map_append, psum_append]
theorem lsum_cons (b : S51) (l : List S51) : lsum (b :: l) = b.f1 + lsum l := by unfold lsum; rw [List.map_cons, psum_cons]
theorem lsum_nil : lsum [] = 0 := rfl
theorem psum_take_s (l : List Int) (r : Nat) (h : r < l.length) : psum (l.take (r + 1)) = psum (l.take r) + l.getD r 0 := psum_take_succ l r h
theorem lsum_bksTo {s : List Int} (hs : hgood s = true) : ∀ n, n ≤ 7424 → lsum (bksTo s n) = psum (s.take n) := by
  intro n
  induction n with
  | zero => intro _; rw [List.take_zero]; rfl
  | succ n ih =>
    intro hn
    have g := good_get hs n
    rw [psum_take_s s n (by have := good_len hs; omega), ← ih (by omega)]
    have e : bksTo s (n + 1) = if s.getD n 0 > 0 then bksTo s n ++ [(⟨(n : Int), s.getD n 0⟩ : S51)] else bksTo s n := rfl
    rw [e]
    split
    · rw [lsum_append, lsum_cons, lsum_nil]; show _ + (s.getD n 0 + 0) = _; omega
    · omega
theorem lsum_bks {s : List Int} (hs : hgood s = true) : lsum (bks s) = psum s := by
  have := lsum_bksTo hs 7424 (Nat.le_refl _)
  rwa [List.take_of_length_le (by have := good_len hs; omega)] at this
theorem lsum_nonneg {l : List S51} (h : ∀ x ∈ l, 0 ≤ x.f1) : 0 ≤ lsum l := by
  induction l with
  | nil => rw [lsum_nil]; omega
  | cons b l ih => rw [lsum_cons]; have := h b (by simp); have := ih (fun x hx => h x (by simp [hx])); omega

theorem hold_step {x y : Int} (_ : 0 ≤ x) (hy : 0 ≤ y) : hold (hold x + y) = hold (x + y) := by
  unfold hold
  repeat' split
  all_goals omega
theorem refCount_l0 (l : List S51) (hl : l.length ≤ 8000000000000) (hr : ∀ x ∈ l, 0 ≤ x.f1 ∧ x.f1 < 18446744073709551616) : ∀ (d n k : Nat) (t : Int), n + d = l.length → d < k → 0 ≤ t →
    varveref07_Count.l0 k l (hold t) (n : Int) = some (hold (t + lsum (l.drop n)), if hold (t + lsum (l.drop n)) = 18446744073709551615 then 11 else 0) := by
  intro d
  induction d with
  | zero =>
    intro n k t hn hk ht
    obtain ⟨k, rfl⟩ : ∃ m, k = m + 1 := ⟨k - 1, by omega⟩
    simp only [varveref07_Count.l0]
    rw [if_neg (by omega), List.drop_of_length_le (by omega), lsum_nil, Int.add_zero]
    split <;> rfl
  | succ d ih =>
    intro n k t hn hk ht
    obtain ⟨k, rfl⟩ : ∃ m, k = m + 1 := ⟨k - 1, by omega⟩
    have hd := rd_S51 (show n < l.length by omega)
    have hx := hr (rd_T51 l (n : Int)) (List.mem_of_mem_drop (i := n) (by rw [hd]; simp))
    simp only [varveref07_Count.l0]
    unfold varveref01_Add.f
    rw [if_pos (by omega), if_pos (by omega), if_pos ⟨hold_range ht, hx⟩, Option.bind_some, hold_step ht hx.1, w64 (by omega) (by omega), show (n : Int) + 1 = ((n + 1 : Nat) : Int) by omega, ih (n + 1) k _ (by omega) (by omega) (by omega), hd, lsum_cons, Int.add_assoc]
theorem refCount_list {s : List Int} (hs : hgood s = true) (k : Nat) (hk : 10000 ≤ k) : varveref07_Count.f k (bks s) = some (hsum s, if hsum s = 18446744073709551615 then 11 else 0) := by
  have hl := bks_len s
  have := refCount_l0 (bks s) (by omega) (fun x hx => (bks_Bok hs x hx).2.2) (bks s).length 0 k 0 (by omega) (by omega) (Int.le_refl _)
  rw [List.drop_zero, Int.zero_add, lsum_bks hs, ← hsum_psum s ((hgood_iff _).mp hs).2] at this
  unfold varveref07_Count.f
  exact this

/-! ### Rank -/
def rk (B t : Int) : List S51 → Int
  | [] => hold t
  | b :: r => if b.f0 ≤ B then rk B (t + b.f1) r else hold t
theorem rk_split (B : Int) (b : List S51) (hb : ∀ x ∈ b, B < x.f0) : ∀ (a : List S51) (t : Int), (∀ x ∈ a, x.f0 ≤ B) → rk B t (a ++ b) = hold (t + lsum a) := by
  intro a
  induction a with
  | nil =>
    intro t _
    rw [lsum_nil, Int.add_zero, List.nil_append]
    cases b with
    | nil => rfl
    | cons y ys => unfold rk; rw [if_neg (by have := hb y (by simp); omega)]
  | cons x xs ih =>
    intro t ha
    rw [List.cons_append]
    unfold rk
    rw [if_pos (ha x (by simp)), ih _ (fun y hy => ha y (by simp [hy])), lsum_cons, Int.add_assoc]
theorem bksTo_split (s : List Int) : ∀ (m d : Nat), ∃ r, bksTo s (m + d) = bksTo s m ++ r ∧ ∀ x ∈ r, (m : Int) ≤ x.f0 := by
  intro m d
  induction d with
  | zero => exact ⟨[], by simp, fun x hx => by simp at hx⟩
  | succ d ih =>
    obtain ⟨r, h1, h2⟩ := ih
    show ∃ r, (if s.getD (m + d) 0 > 0 then bksTo s (m + d) ++ [⟨((m + d : Nat) : Int), s.getD (m + d) 0⟩] else bksTo s (m + d)) = _ ∧ _
    split
    · refine ⟨r ++ [⟨((m + d : Nat) : Int), s.getD (m + d) 0⟩], by rw [h1, List.append_assoc], fun x hx => ?_⟩
      rcases List.mem_append.1 hx with hx | hx
      · exact h2 x hx
      · rw [List.mem_singleton] at hx; subst hx; show (m : Int) ≤ ((m + d : Nat) : Int); omega
    · exact ⟨r, h1, h2⟩
theorem refRank_l0 (l : List S51) (hl : l.length ≤ 8000000000000) (hr : ∀ x ∈ l, 0 ≤ x.f1 ∧ x.f1 < 18446744073709551616) (v : Nat) (hv : v < 18446744073709551616) : ∀ (d n k : Nat) (t : Int), n + d = l.length → d + 70 < k → 0 ≤ t →
    varveref07_Rank.l0 k l (v : Int) (hold t) (n : Int) = some (rk (bucketN v : Int) t (l.drop n)) := by
  intro d
  induction d with
  | zero =>
    intro n k t hn hk ht
    obtain ⟨k, rfl⟩ : ∃ m, k = m + 1 := ⟨k - 1, by omega⟩
    simp only [varveref07_Rank.l0]
    rw [if_neg (by omega), List.drop_of_length_le (by omega)]; rfl
  | succ d ih =>
    intro n k t hn hk ht
    obtain ⟨k, rfl⟩ : ∃ m, k = m + 1 := ⟨k - 1, by omega⟩
    have hd := rd_S51 (show n < l.length by omega)
    have hx := hr (rd_T51 l (n : Int)) (List.mem_of_mem_drop (i := n) (by rw [hd]; simp))
    simp only [varveref07_Rank.l0]
    rw [if_pos (by omega), if_pos (by omega), refBucket_eq v hv k (by omega), Option.bind_some, hd]
    unfold rk
    split
    · unfold varveref01_Add.f
      rw [if_pos ⟨hold_range ht, hx⟩, Option.bind_some, hold_step ht hx.1, w64 (by omega) (by omega), show (n : Int) + 1 = ((n + 1 : Nat) : Int) by omega, ih (n + 1) k _ (by omega) (by omega) (by omega)]
    · rfl
theorem refRank_list {s : List Int} (hs : hgood s = true) (v : Nat) (hv : v < 18446744073709551616) (k : Nat) (hk : 10000 ≤ k) : varveref07_Rank.f k (bks s) (v : Int) = some (hsum (s.take (bucketN v + 1))) := by
  have hl := bks_len s
  have hb := bucketN_lt v hv
  have := refRank_l0 (bks s) (by omega) (fun x hx => (bks_Bok hs x hx).2.2) v hv (bks s).length 0 k 0 (by omega) (by omega) (Int.le_refl _)
  unfold varveref07_Rank.f
  refine this.trans ?_
  obtain ⟨r, h1, h2⟩ := bksTo_split s (bucketN v + 1) (7424 - (bucketN v + 1))
  rw [show bucketN v + 1 + (7424 - (bucketN v + 1)) = 7424 by omega] at h1
  have e : (bks s).drop 0 = bksTo s (bucketN v + 1) ++ r := h1
  rw [e, rk_split _ r (fun x hx => by have := h2 x hx; omega) _ _ (fun x hx => by have := bksTo_ok hs (bucketN v + 1) (by omega) x hx; omega), Int.zero_add, lsum_bksTo hs _ (by omega), ← hsum_psum _ (((hgood_iff _).mp hs).2.take _)]

/-! ### Quantile -/
theorem refQuant_l0 (l : List S51) (hl : l.length ≤ 8000000000000) (hr : ∀ x ∈ l, 0 ≤ x.f1 ∧ x.f1 < 18446744073709551616) (q : Int) (A : List S51) (B : S51) (C : List S51) (hB : 0 ≤ B.f0 ∧ B.f0 < 7424) (hA : lsum A < q) (hAB : q ≤ lsum A + B.f1) (hm : lsum A + B.f1 < 18446744073709551616) (hl2 : l = A ++ B :: C) : ∀ (d n k : Nat) (t : Int), n + d = A.length → d + 2 < k → t = lsum (A.take n) →
    varveref07_Quantile.l0 k l q t (n : Int) = some ((lowN B.f0.toNat : Int), 0) := by
  intro d
  have hA0 : ∀ x ∈ A, 0 ≤ x.f1 := fun x hx => (hr x (by rw [hl2]; simp [hx])).1
  have hB1 := hr B (by rw [hl2]; simp)
  have hlen : l.length = A.length + 1 + C.length := by rw [hl2]; simp; omega
  induction d with
  | zero =>
    intro n k t hn hk ht
    obtain ⟨k, rfl⟩ : ∃ m, k = m + 1 := ⟨k - 1, by omega⟩
    have hlt : n < l.length := by omega
    have e : rd_T51 l (n : Int) = B := by
      rw [rd_T51, Int.toNat_natCast, hl2, List.getD, List.getElem?_append_right (by omega), show n - A.length = 0 by omega]; rfl
    have ht2 : t = lsum A := by rw [ht, List.take_of_length_le (by omega)]
    have t0 : 0 ≤ lsum A := lsum_nonneg hA0
    simp only [varveref07_Quantile.l0]
    rw [if_pos (by omega), if_pos (by omega), e, ht2, IntKind.wrap_u64, Int.emod_eq_of_lt (by omega) (by omega), if_pos (by omega)]
    have := refLow_eq B.f0.toNat (by omega) k (by omega)
    rw [Int.toNat_of_nonneg hB.1] at this
    rw [this, Option.bind_some]
  | succ d ih =>
    intro n k t hn hk ht
    obtain ⟨k, rfl⟩ : ∃ m, k = m + 1 := ⟨k - 1, by omega⟩
    have hlt : n < A.length := by omega
    have e : rd_T51 l (n : Int) = A[n] := by
      rw [rd_T51, Int.toNat_natCast, hl2, List.getD, List.getElem?_append_left hlt, List.getElem?_eq_getElem hlt]; rfl
    have tk : A.take (n + 1) = A.take n ++ [A[n]] := List.take_succ_eq_append_getElem hlt
    have ts : lsum (A.take (n + 1)) = t + (A[n]).f1 := by rw [tk, lsum_append, lsum_cons, lsum_nil, ← ht]; omega
    have t0 : 0 ≤ t := by rw [ht]; exact lsum_nonneg fun x hx => hA0 x (List.mem_of_mem_take hx)
    have t1 : lsum A = lsum (A.take (n + 1)) + lsum (A.drop (n + 1)) := by rw [← lsum_append, List.take_append_drop]
    have t2 : 0 ≤ lsum (A.drop (n + 1)) := lsum_nonneg fun x hx => hA0 x (List.mem_of_mem_drop hx)
    have t3 := hA0 A[n] (List.getElem_mem hlt)
    simp only [varveref07_Quantile.l0]
    rw [if_pos (by omega), if_pos (by omega), e, IntKind.wrap_u64, Int.emod_eq_of_lt (by omega) (by omega), if_neg (by omega), w64 (by omega) (by omega), show (n : Int) + 1 = ((n + 1 : Nat) : Int) by omega]
    exact ih (n + 1) k _ (by omega) (by omega) ts.symm
theorem refQuant_find {s : List Int} (hs : hgood s = true) (q : Int) (h1 : 1 ≤ q) (h2 : q ≤ psum s) (hm : psum s < 18446744073709551616) (k : Nat) (hk : 10000 ≤ k) :
    varveref07_Quantile.l0 k (bks s) q 0 0 = some ((lowN (rankAt s q) : Int), 0) := by
  have hl := bks_len s
  have gl := good_len hs
  have gc := ((hgood_iff _).mp hs).2
  obtain ⟨r1, r2, r3⟩ := rankAt_spec gl h2
  generalize rankAt s q = r at *
  have ps := psum_take_s s r (by omega)
  have pr : psum (s.take r) < q := by
    cases r with
    | zero => rw [List.take_zero]; show (0 : Int) < q; omega
    | succ r => exact r3 r (by omega)
  obtain ⟨C, c1, c2⟩ := bksTo_split s (r + 1) (7424 - (r + 1))
  rw [show r + 1 + (7424 - (r + 1)) = 7424 by omega] at c1
  have e : bksTo s (r + 1) = bksTo s r ++ [⟨(r : Int), s.getD r 0⟩] := if_pos (by omega)
  have e2 : bks s = bksTo s r ++ (⟨(r : Int), s.getD r 0⟩ : S51) :: C := by
    show bksTo s 7424 = _
    rw [c1, e, List.append_assoc]; rfl
  have lt := bksTo_len s r
  have ls := lsum_bksTo hs r (by omega)
  have mm := psum_mono s gc (r + 1)
  have := refQuant_l0 (bks s) (by omega) (fun x hx => (bks_Bok hs x hx).2.2) q (bksTo s r) ⟨(r : Int), s.getD r 0⟩ C ⟨by show (0 : Int) ≤ r; omega, by show (r : Int) < 7424; omega⟩ (by omega) (by show q ≤ _ + s.getD r 0; omega) (by show _ + s.getD r 0 < _; omega) e2 (bksTo s r).length 0 k 0 (by omega) (by omega) (by rw [List.take_zero]; rfl)
  simpa using this
theorem refQuant_list {s : List Int} (hs : hgood s = true) {a b : Int} (ha : U a) (hb : U b) (k : Nat) (hk : 20000 ≤ k) : ∃ v e, varveref07_Quantile.f k (bks s) a b = some (v, e) ∧ hist_Hist_Quantile.f s a b = some (v, e, s) := by
  obtain ⟨k, rfl⟩ : ∃ m, k = m + 2 := ⟨k - 2, by omega⟩
  have gg := (hgood_iff _).mp hs
  have hr := hsum_range s gg.2
  have hp := hsum_psum s gg.2
  by_cases c : b = 0 ∨ b < a
  · refine ⟨0, 5, ?_, ?_⟩
    · unfold varveref07_Quantile.f
      by_cases c1 : b = 0
      · rw [if_pos c1]; simp only [varveref07_Quantile.j0, ↓reduceIte]
      · rw [if_neg c1, decide_eq_true (by omega)]; simp only [varveref07_Quantile.j0, ↓reduceIte]
    · unfold hist_Hist_Quantile.f
      rw [if_pos ⟨hs, ha, hb⟩, if_pos c]
  · have f : varveref07_Quantile.f (k + 2) (bks s) a b = varveref07_Quantile.j0 (k + 2) (bks s) a b false := by
      unfold varveref07_Quantile.f
      rw [if_neg (by omega), decide_eq_false (by omega)]
    rw [f]
    simp only [varveref07_Quantile.j0, ↓reduceIte, Bool.false_eq_true]
    rw [refCount_list hs (k + 1) (by omega), Option.bind_some]
    dsimp only
    by_cases c1 : hsum s = 18446744073709551615
    · refine ⟨0, 11, ?_, ?_⟩
      · rw [if_pos c1, if_neg (by omega)]
      · unfold hist_Hist_Quantile.f
        rw [if_pos ⟨hs, ha, hb⟩, if_neg c, if_pos c1]
    · rw [if_neg c1, if_pos rfl]
      by_cases c2 : hsum s = 0
      · refine ⟨0, 3, by rw [if_pos c2], ?_⟩
        unfold hist_Hist_Quantile.f
        rw [if_pos ⟨hs, ha, hb⟩, if_neg c, if_neg c1, if_pos c2]
      · obtain ⟨q, e, q1, q2⟩ := Quantile_eq hs ha hb (by omega) (by omega) c1 c2
        refine ⟨_, 0, ?_, q⟩
        rw [if_neg c2]
        unfold varveref01_Ceil.f
        rw [if_pos ⟨ha, hr, hb⟩, Option.bind_some, ceil_up ha hb ⟨hr.1, by omega⟩ (by omega) (by omega)]
        simp only [varveref07_Quantile.j1]
        have F := refQuant_find hs (max 1 (up a (hsum s) b)) q1 q2 (by omega) k (by omega)
        by_cases c3 : up a (hsum s) b < 1
        · rw [if_pos c3]; rw [show max 1 (up a (hsum s) b) = 1 by omega] at F ⊢; exact F
        · rw [if_neg c3]; rw [show max 1 (up a (hsum s) b) = up a (hsum s) b by omega] at F ⊢; exact F
end Go.Proofs.Ytmhejpcbgknncaa.Pure
