/- hist.From of buckets that may be, by a walk over its Go text: a new histogram that holds them. -/
import Derived.Test.YtlfjfgcalilnpaaHix
import Derived.Test.YtlfjfgcalilnpaaOpens
import Derived.Test.YtlfjfgcalilnpaaLBase
namespace Go.Proofs.Ytlfjfgcalilnpaa
set_option linter.unusedVariables false
set_option linter.unusedSimpArgs false
open Go.RowKit Go.Proofs.YtlfjfgcalilnpaaW.PrintWords Go.Proofs.YtlfjfgcalilnpaaW.PrintLast Go.Proofs.YtlfjfgcalilnpaaW.PrintMore Go.Proofs.Ytlfjfgcalilnpaa.Hi

end Go.Proofs.Ytlfjfgcalilnpaa

namespace Go.Proofs.Ytlfjfgcalilnpaa
set_option linter.unusedVariables false
set_option linter.unusedSimpArgs false
open Go.Proofs.YtlfjfgcalilnpaaW.PrintWords Go.Proofs.Ytlfjfgcalilnpaa.Hi
theorem opens75 : Opens Try.prog 75 k75 (fun b => (Lit.int .i64 b.f0).wf = true ∧ (Lit.int .u64 b.f1).wf = true) :=
  opens_iso (fun x : S75 => (x.f0, x.f1)) (fun p => ⟨p.1, p.2⟩) (fun _ => rfl) (opens_struct Try.underlying75 (by kernel_rfl) (opensFields_cons rfl (by kernel_rfl) (opens_int Try.underlying3) (opensFields_one rfl (by kernel_rfl) (opens_int Try.underlying23))))
theorem opens34 : Opens Try.prog 34 (Kd.slice 75 k75) Pure.WB := opens_slice Try.underlying34 (by kernel_rfl) (by kernel_rfl) opens75
end Go.Proofs.Ytlfjfgcalilnpaa

namespace Go.Proofs.Ytlfjfgcalilnpaa.Pure
set_option linter.unusedVariables false
set_option linter.unusedSimpArgs false
open Go.RowKit Go.Proofs.Ytlfjfgcalilnpaa.Hi

def merged (s : List Int) (l : List S75) : List Int := l.foldl (fun s b => hadd s b.f0.toNat b.f1) s
theorem U.of {x : Int} (h : (Lit.int .u64 x).wf = true) : 0 ≤ x ∧ x < 18446744073709551616 := U.of_wf h
theorem hadd_getD (s : List Int) (i j : Nat) (n : Int) (hi : i < s.length) : (hadd s i n).getD j 0 = if j = i then hold (s.getD i 0 + n) else s.getD j 0 := by
  unfold hadd
  by_cases c : j = i
  · subst c
    rw [if_pos rfl, List.getD, List.getElem?_set_self hi]; rfl
  · rw [if_neg c, List.getD, List.getElem?_set_ne (by omega)]; rfl

/-- Behind a bucket there is nothing yet; then the list's buckets hold what it says, and the others are as they were. -/
theorem merged_spec : ∀ (l : List S75) (s : List Int) (last : Int), hgood s = true → -1 ≤ last → chkFrom last l = true → (∀ b ∈ l, (Lit.int .u64 b.f1).wf = true) → (∀ i : Nat, last < (i : Int) → s.getD i 0 = 0) →
    hgood (merged s l) = true ∧ (∀ i : Nat, (i : Int) ≤ last → (merged s l).getD i 0 = s.getD i 0) ∧ (∀ b ∈ l, last < b.f0 ∧ b.f0 < 7424 ∧ 1 ≤ b.f1 ∧ (merged s l).getD b.f0.toNat 0 = b.f1) ∧ (∀ i : Nat, last < (i : Int) → (∀ b ∈ l, b.f0 ≠ (i : Int)) → (merged s l).getD i 0 = 0) := by
  intro l
  induction l with
  | nil => intro s last hg _ _ _ hz; exact ⟨hg, fun _ _ => rfl, fun b hb => by simp at hb, fun i hi _ => hz i hi⟩
  | cons b l ih =>
    intro s last hg h0 hc hw hz
    simp only [chkFrom, Bool.and_eq_true, decide_eq_true_eq, Bool.not_eq_true', beq_eq_false_iff_ne] at hc
    obtain ⟨c1, c2, c3, c4⟩ := hc
    have hb := U.of (hw b (by simp))
    have hlen := ((hgood_iff _).mp hg).1
    obtain ⟨n, hn⟩ : ∃ n : Nat, b.f0 = n := ⟨b.f0.toNat, by omega⟩
    have hnat : b.f0.toNat = n := by omega
    have hs0 : s.getD n 0 = 0 := hz n (by omega)
    have hget : ∀ j, (hadd s n b.f1).getD j 0 = if j = n then b.f1 else s.getD j 0 := fun j => by
      rw [hadd_getD s n j b.f1 (by omega), hs0, Int.zero_add]
      have : hold b.f1 = b.f1 := if_pos hb.2
      rw [this]
    have hm : merged s (b :: l) = merged (hadd s n b.f1) l := by simp only [merged, List.foldl_cons, hnat]
    obtain ⟨i1, i2, i3, i4⟩ := ih (hadd s n b.f1) b.f0 (hadd_good hg n b.f1 hb.1) (by omega) c4 (fun x hx => hw x (by simp [hx])) (fun i hi => by rw [hget, if_neg (by omega)]; exact hz i (by omega))
    rw [hm]
    refine ⟨i1, fun i hi => by rw [i2 i (by omega), hget, if_neg (by omega)], fun x hx => ?_, fun i hi hx => ?_⟩
    · rcases List.mem_cons.1 hx with rfl | hx
      · refine ⟨c1, c2, by omega, ?_⟩
        rw [hnat, i2 n (by omega), hget, if_pos rfl]
      · obtain ⟨j1, j2, j3, j4⟩ := i3 x hx
        exact ⟨by omega, j2, j3, j4⟩
    · by_cases c : b.f0 < (i : Int)
      · exact i4 i c (fun x hx' => hx x (by simp [hx']))
      · have := hx b (by simp)
        rw [i2 i (by omega), hget, if_neg (by omega)]
        exact hz i hi
theorem hzero_getD (i : Nat) : (hzero 7424).getD i 0 = 0 := by
  unfold hzero
  by_cases c : i < 7424
  · rw [List.getD, List.getElem?_replicate, if_pos c]; rfl
  · rw [List.getD, List.getElem?_replicate, if_neg c]; rfl

theorem merge_l0 (l : List S75) (hl : l.length < 8796093022208) (hw : ∀ b ∈ l, (Lit.int .u64 b.f1).wf = true) : ∀ (d n k : Nat) (last : Int) (s : List Int), n + d = l.length → d < k → hgood s = true → -1 ≤ last → chkFrom last (l.drop n) = true →
    hist_Hist_Merge.l0 k l (l.length : Int) (n : Int) s = some (0, merged s (l.drop n)) := by
  intro d
  induction d with
  | zero =>
    intro n k last s hn hk _ _ _
    obtain ⟨k, rfl⟩ : ∃ m, k = m + 1 := ⟨k - 1, by omega⟩
    simp only [hist_Hist_Merge.l0]
    rw [if_neg (by omega), List.drop_of_length_le (by omega)]; rfl
  | succ d ih =>
    intro n k last s hn hk hg h0 hc
    obtain ⟨k, rfl⟩ : ∃ m, k = m + 1 := ⟨k - 1, by omega⟩
    have hd := rd_drop (show n < l.length by omega)
    have hmem : rd_T75 l (n : Int) ∈ l := List.mem_of_mem_drop (i := n) (by rw [hd]; simp)
    have hb := U.of (hw _ hmem)
    rw [hd] at hc ⊢
    simp only [hist_Hist_Merge.l0]
    rw [if_pos (by omega), if_pos (by omega), if_pos (by omega), w64 (n := (n : Int) + 1) (by omega) (by omega)]
    generalize rd_T75 l (n : Int) = b at *
    simp only [chkFrom, Bool.and_eq_true, decide_eq_true_eq, Bool.not_eq_true', beq_eq_false_iff_ne] at hc
    obtain ⟨c1, c2, c3, c4⟩ := hc
    have ha : haddAt s b.f0 b.f1 = some (hadd s b.f0.toNat b.f1) := by
      unfold haddAt
      rw [if_pos ⟨hg, ⟨by omega, c2⟩, hb⟩]
    rw [ha, Option.bind_some, show (n : Int) + 1 = ((n + 1 : Nat) : Int) by omega]
    exact ih (n + 1) k b.f0 (hadd s b.f0.toNat b.f1) (by omega) (by omega) (hadd_good hg _ _ hb.1) (by omega) c4
theorem Merge_eq {s : List Int} {l : List S75} (hg : hgood s = true) (hw : WB l) (hc : chk l = true) (k : Nat) (hk : l.length < k) : hist_Hist_Merge.f k s l = some (0, merged s l) := by
  unfold hist_Hist_Merge.f
  rw [Check_eq l hw.len k hk, Option.bind_some, hc, if_pos rfl]
  have := merge_l0 l hw.len (fun b hb => (hw.2.2 b hb).2) l.length 0 k (-1) s (by omega) hk hg (by omega) hc
  simpa using this
theorem Merge_no {s : List Int} {l : List S75} (hw : WB l) (hc : chk l = false) (k : Nat) (hk : l.length < k) : hist_Hist_Merge.f k s l = some (5, s) := by
  unfold hist_Hist_Merge.f
  rw [Check_eq l hw.len k hk, Option.bind_some, hc, if_neg (by simp)]
/-! ### Prefixes -/
theorem psum_take_succ (l : List Int) (r : Nat) (h : r < l.length) : psum (l.take (r + 1)) = psum (l.take r) + l.getD r 0 := by
  rw [List.take_add_one, getD_get h, psum_append]
  congr 1
  simp [psum]
theorem psum_zero (l : List Int) (h : ∀ i, i < l.length → l.getD i 0 = 0) : psum l = 0 := by
  induction l with
  | nil => rfl
  | cons x l ih =>
    have h0 := h 0 (by simp)
    have := ih (fun i hi => by have := h (i + 1) (by simpa using hi); simpa using this)
    rw [psum_cons, this]; simpa using h0
theorem take_getD (l : List Int) (r i : Nat) (h : i < r) : (l.take r).getD i 0 = l.getD i 0 := by
  rw [List.getD, List.getD, List.getElem?_take_of_lt h]
theorem psum_take_mono {l : List Int} (h : Cnt l) {a b : Nat} (hab : a ≤ b) : psum (l.take a) ≤ psum (l.take b) := by
  have := psum_mono (l.take b) (h.take b) a
  rwa [List.take_take, Nat.min_eq_left hab] at this
theorem rankAt_eq {l : List Int} {k : Int} {r : Nat} (hl : l.length = 7424) (hc : Cnt l) (_h1 : r < 7424) (h2 : k ≤ psum (l.take (r + 1))) (h3 : psum (l.take r) < k) : rankAt l k = r := by
  have hk : k ≤ psum l := Int.le_trans h2 (psum_mono l hc _)
  obtain ⟨k1, k2, k3⟩ := rankAt_spec hl hk
  rcases Nat.lt_trichotomy (rankAt l k) r with c | c | c
  · have := psum_take_mono hc (a := rankAt l k + 1) (b := r) c; omega
  · exact c
  · have := k3 r c; omega
theorem rankAt_mono {l : List Int} {k k' : Int} (hl : l.length = 7424) (hk : k ≤ k') (hk' : k' ≤ psum l) : rankAt l k ≤ rankAt l k' := by
  obtain ⟨a1, a2, a3⟩ := rankAt_spec hl (Int.le_trans hk hk')
  obtain ⟨b1, b2, b3⟩ := rankAt_spec hl hk'
  refine Nat.le_of_not_lt fun c => ?_
  have := a3 _ c
  omega

/-! ### Quantiles -/
theorem pr_mul {a b n : Int} (ha : 0 ≤ a ∧ a < 18446744073709551616) (hb : 0 ≤ b ∧ b < 18446744073709551616) (hn : 0 ≤ n ∧ n < 18446744073709551615) (h0 : b ≠ 0) (hab : a ≤ b) :
    pr a n b = (a * n / b, a * n % b, true) ∧ 0 ≤ a * n % b ∧ a * n % b < b ∧ b * (a * n / b) + a * n % b = a * n ∧ 0 ≤ a * n / b ∧ a * n / b ≤ n := by
  have un : U n := ⟨hn.1, by omega⟩
  have le : a * n ≤ b * n := Int.mul_le_mul_of_nonneg_right hab hn.1
  have lt : b * n < b * 18446744073709551616 := Int.mul_lt_mul_of_pos_left (by omega) (by omega)
  obtain ⟨e, u, r0, r1, r2⟩ := pr_yes ha un hb (Int.ediv_lt_of_lt_mul (by omega) (by omega))
  refine ⟨e, r0, r1, r2, u.1, ?_⟩
  refine Int.le_of_mul_le_mul_left (a := b) ?_ (by omega)
  omega
/-- a times n by b, rounded up. -/
def up (a n b : Int) : Int := if a * n % b > 0 then a * n / b + 1 else a * n / b
theorem ceil_up {a b n : Int} (ha : 0 ≤ a ∧ a < 18446744073709551616) (hb : 0 ≤ b ∧ b < 18446744073709551616) (hn : 0 ≤ n ∧ n < 18446744073709551615) (h0 : b ≠ 0) (hab : a ≤ b) : (ceil128 (pr a n b)).1 = up a n b := by
  obtain ⟨e, r0, r1, r2, q0, q1⟩ := pr_mul ha hb hn h0 hab
  rw [e]
  unfold ceil128 up
  simp only
  rw [if_neg (by simp)]
  by_cases p : a * n % b > 0
  · rw [if_pos p, if_pos p, if_neg (by omega)]
  · rw [if_neg p, if_neg p]
theorem up_mono {a a' b n : Int} (hn : 0 ≤ n) (hb : 0 < b) (h : a ≤ a') : up a n b ≤ up a' n b := by
  have le : a * n ≤ a' * n := Int.mul_le_mul_of_nonneg_right h hn
  have e1 := Int.mul_ediv_add_emod (a * n) b
  have e2 := Int.mul_ediv_add_emod (a' * n) b
  have m1 := Int.emod_nonneg (a * n) (b := b) (by omega)
  have m2 := Int.emod_nonneg (a' * n) (b := b) (by omega)
  have l1 := Int.emod_lt_of_pos (a * n) hb
  have l2 := Int.emod_lt_of_pos (a' * n) hb
  unfold up
  generalize a * n / b = q at *
  generalize a' * n / b = q' at *
  generalize a * n % b = r at *
  generalize a' * n % b = r' at *
  have key : q ≤ q' := by
    refine Int.le_of_lt_add_one (Int.lt_of_mul_lt_mul_left (a := b) ?_ (by omega))
    rw [Int.mul_add, Int.mul_one]; omega
  by_cases c : q = q'
  · subst c
    repeat' split
    all_goals omega
  · repeat' split
    all_goals omega
theorem up_all {b n : Int} (hb : 0 < b) : up b n b = n := by
  unfold up
  rw [Int.mul_emod_right, if_neg (by omega), Int.mul_ediv_cancel_left _ (by omega)]
theorem up_none {b n : Int} : up 0 n b = 0 := by
  unfold up
  rw [Int.zero_mul, Int.zero_emod, if_neg (by omega), Int.zero_ediv]
theorem up_le {a b n : Int} (hn : 0 ≤ n) (hb : 0 < b) (h : a ≤ b) : up a n b ≤ n := by
  have := up_mono (n := n) hn hb h
  rwa [up_all hb] at this

/-- What Quantile tells where there is one. -/
theorem Quantile_eq {s : List Int} (hg : hgood s = true) {a b : Int} (ha : U a) (hb : U b) (h0 : b ≠ 0) (hab : a ≤ b) (hs : hsum s ≠ 18446744073709551615) (hz : hsum s ≠ 0) :
    hist_Hist_Quantile.f s a b = some ((lowN (rankAt s (max 1 (up a (hsum s) b))) : Int), 0, s) ∧ hsum s = psum s ∧ 1 ≤ max 1 (up a (hsum s) b) ∧ max 1 (up a (hsum s) b) ≤ psum s := by
  have gg := (hgood_iff _).mp hg
  have hr := hsum_range s gg.2
  have hp := hsum_psum s gg.2
  have hpn : hsum s = psum s := by
    unfold hold at hp
    split at hp
    · exact hp
    · omega
  have ule := up_le (a := a) (b := b) (n := hsum s) hr.1 (by have := hb.1; omega) hab
  refine ⟨?_, hpn, by omega, by omega⟩
  unfold hist_Hist_Quantile.f
  rw [if_pos ⟨hg, ha, hb⟩, if_neg (by omega), if_neg hs, if_neg hz]
  unfold kOf
  rw [ceil_up ha hb ⟨hr.1, by omega⟩ h0 hab]
  have sp := rankAt_spec (l := s) (k := max 1 (up a (hsum s) b)) gg.1 (by omega)
  rw [low_eq _ sp.1, Option.bind_some]

/-! ### The first and the last bucket -/
theorem chk_sorted : ∀ (l : List S75) (last : Int), chkFrom last l = true → ∀ b ∈ l, last < b.f0 ∧ ∀ d : S75, b.f0 ≤ (l.getLastD d).f0 := by
  intro l
  induction l with
  | nil => intro last _ b hb; simp at hb
  | cons c l ih =>
    intro last h b hb
    simp only [chkFrom, Bool.and_eq_true, decide_eq_true_eq, Bool.not_eq_true', beq_eq_false_iff_ne] at h
    obtain ⟨c1, c2, c3, c4⟩ := h
    rcases List.mem_cons.1 hb with rfl | hb
    · refine ⟨c1, fun d => ?_⟩
      cases l with
      | nil => exact Int.le_refl _
      | cons e l =>
        have := (ih b.f0 c4 e (by simp)).1
        have := (ih b.f0 c4 e (by simp)).2 b
        simp only [List.getLastD_cons] at this ⊢
        omega
    · obtain ⟨i1, i2⟩ := ih c.f0 c4 b hb
      refine ⟨by omega, fun d => ?_⟩
      rw [List.getLastD_cons]
      exact i2 c
theorem psum_split (l : List Int) (r : Nat) : psum l = psum (l.take r) + psum (l.drop r) := by
  rw [← psum_append, List.take_append_drop]
theorem merged_good {l : List S75} (hw : WB l) (hc : chk l = true) : hgood (merged (hzero 7424) l) = true :=
  (merged_spec l (hzero 7424) (-1) hzero_good (by omega) hc (fun b hb => (hw.2.2 b hb).2) (fun i _ => hzero_getD i)).1
/-- A bucket b in front of which all is zero is where the first number is; one behind which all is zero is where the last is. -/
theorem rank_first {L : List Int} (hg : hgood L = true) {p : Nat} (hp : p < 7424) (h0 : ∀ i, i < p → L.getD i 0 = 0) (h1 : 1 ≤ L.getD p 0) : rankAt L 1 = p := by
  have gg := (hgood_iff _).mp hg
  have z : psum (L.take p) = 0 := psum_zero _ fun i hi => by
    rw [List.length_take] at hi
    rw [take_getD _ _ _ (by omega)]; exact h0 i (by omega)
  have s := psum_take_succ L p (by omega)
  exact rankAt_eq gg.1 gg.2 hp (by omega) (by omega)
theorem rank_last {L : List Int} (hg : hgood L = true) {p : Nat} (hp : p < 7424) (h0 : ∀ i, p < i → L.getD i 0 = 0) (h1 : 1 ≤ L.getD p 0) : rankAt L (psum L) = p ∧ 1 ≤ psum L := by
  have gg := (hgood_iff _).mp hg
  have z : psum (L.drop (p + 1)) = 0 := psum_zero _ fun i hi => by
    have := h0 (p + 1 + i) (by omega)
    rw [List.getD, List.getElem?_drop]; exact this
  have s := psum_take_succ L p (by omega)
  have sp := psum_split L (p + 1)
  have n0 := psum_nonneg _ (gg.2.take p)
  exact ⟨rankAt_eq gg.1 gg.2 hp (by omega) (by omega), by omega⟩
/-- The two ends of what a list of buckets gives. -/
theorem merged_ends {l : List S75} (hw : WB l) (hc : chk l = true) (hne : l.length ≠ 0) :
    let L := merged (hzero 7424) l
    (0 ≤ (rd_T75 l 0).f0 ∧ (rd_T75 l 0).f0 < 7424 ∧ rankAt L 1 = (rd_T75 l 0).f0.toNat) ∧ (0 ≤ (rd_T75 l ((l.length : Int) - 1)).f0 ∧ (rd_T75 l ((l.length : Int) - 1)).f0 < 7424 ∧ rankAt L (psum L) = (rd_T75 l ((l.length : Int) - 1)).f0.toNat) ∧ 1 ≤ psum L := by
  intro L
  obtain ⟨hg, _, hin, hout⟩ := merged_spec l (hzero 7424) (-1) hzero_good (by omega) hc (fun b hb => (hw.2.2 b hb).2) (fun i _ => hzero_getD i)
  have hso := chk_sorted l (-1) hc
  have hlast : rd_T75 l ((l.length : Int) - 1) ∈ l ∧ ∀ d, l.getLastD d = rd_T75 l ((l.length : Int) - 1) := by
    have hn : ((l.length : Int) - 1).toNat = l.length - 1 := by omega
    have hlt : l.length - 1 < l.length := by omega
    have e : rd_T75 l ((l.length : Int) - 1) = l[l.length - 1] := by
      rw [rd_T75, hn, List.getD, List.getElem?_eq_getElem hlt]; rfl
    refine ⟨by rw [e]; exact List.getElem_mem _, fun d => ?_⟩
    rw [e, List.getLastD_eq_getLast?, List.getLast?_eq_getElem?, List.getElem?_eq_getElem hlt]; rfl
  have hfirst : rd_T75 l 0 ∈ l ∧ ∀ b ∈ l, (rd_T75 l 0).f0 ≤ b.f0 := by
    cases l with
    | nil => simp at hne
    | cons c l =>
      have e : rd_T75 (c :: l) 0 = c := by rw [rd_T75]; rfl
      rw [e]
      refine ⟨by simp, fun b hb => ?_⟩
      rcases List.mem_cons.1 hb with rfl | hb
      · exact Int.le_refl _
      · have h := hc
        simp only [chk, chkFrom, Bool.and_eq_true, decide_eq_true_eq, Bool.not_eq_true', beq_eq_false_iff_ne] at h
        have := (chk_sorted l c.f0 h.2.2.2 b hb).1
        omega
  obtain ⟨f1, f2⟩ := hfirst
  obtain ⟨l1, l2⟩ := hlast
  generalize rd_T75 l 0 = F at *
  generalize rd_T75 l ((l.length : Int) - 1) = E at *
  obtain ⟨a1, a2, a3, a4⟩ := hin F f1
  obtain ⟨b1, b2, b3, b4⟩ := hin E l1
  have r1 := rank_first (L := L) hg (p := F.f0.toNat) (by omega) (fun i hi => hout i (by omega) fun b hb => by have := f2 b hb; omega) (by rw [a4]; exact a3)
  have r2 := rank_last (L := L) hg (p := E.f0.toNat) (by omega) (fun i hi => hout i (by omega) fun b hb => by have := (hso b hb).2 F; rw [l2] at this; omega) (by rw [b4]; exact b3)
  exact ⟨⟨by omega, a2, r1⟩, ⟨by omega, b2, r2.1⟩, r2.2⟩
end Go.Proofs.Ytlfjfgcalilnpaa.Pure
