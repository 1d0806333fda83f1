/- Sums of histograms, count by count; the buckets of a histogram, and back. Plain Lean, no program in sight. -/
import Derived.Test.YtlfjfgcalilnpaaHBk
namespace Go.Proofs.Ytlfjfgcalilnpaa.Pure
set_option linter.unusedVariables false
set_option linter.unusedSimpArgs false
open Go.RowKit Go.Proofs.Ytlfjfgcalilnpaa.Hi

theorem h_ext {s t : List Int} (hs : s.length = 7424) (ht : t.length = 7424) (h : ∀ i, i < 7424 → s.getD i 0 = t.getD i 0) : s = t := by
  refine List.ext_getElem (by omega) fun i h1 h2 => ?_
  have := h i (by omega)
  rwa [List.getD, List.getElem?_eq_getElem h1, List.getD, List.getElem?_eq_getElem h2] at this
theorem wf_u64 {x : Int} (h0 : 0 ≤ x) (h1 : x < 18446744073709551616) : (Lit.int .u64 x).wf = true := by
  rw [Lit.wf_int_iff]
  simp [IntKind.min, IntKind.max, IntKind.bits, IntKind.signed]; omega
theorem wf_i64 {x : Int} (h0 : -9223372036854775808 ≤ x) (h1 : x ≤ 9223372036854775807) : (Lit.int .i64 x).wf = true := by
  rw [Lit.wf_int_iff]
  simp [IntKind.min, IntKind.max, IntKind.bits, IntKind.signed]; omega
/-- Count by count, held. -/
def hplus (s t : List Int) : List Int := List.zipWith (fun x y => hold (x + y)) s t
theorem good_len {s : List Int} (h : hgood s = true) : s.length = 7424 := ((hgood_iff _).mp h).1
theorem good_get {s : List Int} (h : hgood s = true) (i : Nat) : 0 ≤ s.getD i 0 ∧ s.getD i 0 < 18446744073709551616 := getD_range ((hgood_iff _).mp h).2 i
theorem hplus_len {s t : List Int} (hs : s.length = 7424) (ht : t.length = 7424) : (hplus s t).length = 7424 := by
  unfold hplus; rw [List.length_zipWith]; omega
theorem hplus_get {s t : List Int} (hs : s.length = 7424) (ht : t.length = 7424) (i : Nat) (hi : i < 7424) : (hplus s t).getD i 0 = hold (s.getD i 0 + t.getD i 0) := by
  unfold hplus
  rw [List.getD, List.getElem?_zipWith, getD_get (by omega : i < s.length), getD_get (by omega : i < t.length)]; rfl
theorem hplus_good {s t : List Int} (hs : hgood s = true) (ht : hgood t = true) : hgood (hplus s t) = true := by
  rw [hgood_iff]
  have hl := hplus_len (good_len hs) (good_len ht)
  refine ⟨hl, fun x hx => ?_⟩
  obtain ⟨i, hi, rfl⟩ := List.mem_iff_getElem.1 hx
  have := hplus_get (good_len hs) (good_len ht) i (by omega)
  rw [List.getD, List.getElem?_eq_getElem hi] at this
  have e : (hplus s t)[i] = hold (s.getD i 0 + t.getD i 0) := this
  rw [e]
  exact hold_range (by have := good_get hs i; have := good_get ht i; omega)
theorem hplus_comm {s t : List Int} (hs : hgood s = true) (ht : hgood t = true) : hplus s t = hplus t s :=
  h_ext (hplus_len (good_len hs) (good_len ht)) (hplus_len (good_len ht) (good_len hs)) fun i hi => by
    rw [hplus_get (good_len hs) (good_len ht) i hi, hplus_get (good_len ht) (good_len hs) i hi, Int.add_comm]
theorem hold_hold {x y z : Int} (hx : 0 ≤ x) (hz : 0 ≤ z) : hold (hold (x + y) + z) = hold (x + hold (y + z)) := by
  unfold hold
  repeat' split
  all_goals omega
theorem hplus_assoc {s t u : List Int} (hs : hgood s = true) (ht : hgood t = true) (hu : hgood u = true) : hplus (hplus s t) u = hplus s (hplus t u) := by
  have l1 := good_len hs; have l2 := good_len ht; have l3 := good_len hu
  refine h_ext (hplus_len (hplus_len l1 l2) l3) (hplus_len l1 (hplus_len l2 l3)) fun i hi => ?_
  rw [hplus_get (hplus_len l1 l2) l3 i hi, hplus_get l1 l2 i hi, hplus_get l1 (hplus_len l2 l3) i hi, hplus_get l2 l3 i hi]
  exact hold_hold (good_get hs i).1 (good_get hu i).1
theorem hplus_zero {s : List Int} (hs : hgood s = true) : hplus s (hzero 7424) = s := by
  have l1 := good_len hs; have l2 := good_len hzero_good
  refine h_ext (hplus_len l1 l2) l1 fun i hi => ?_
  rw [hplus_get l1 l2 i hi, hzero_getD, Int.add_zero]
  exact if_pos (good_get hs i).2
theorem hadd_plus {s : List Int} (hs : hgood s = true) (b : Nat) (hb : b < 7424) (n : Int) (hn : 0 ≤ n) (hn2 : n < 18446744073709551616) : hadd s b n = hplus s (hadd (hzero 7424) b n) := by
  have l1 := good_len hs; have g2 := hadd_good hzero_good b n hn; have l2 := good_len g2
  refine h_ext (good_len (hadd_good hs b n hn)) (hplus_len l1 l2) fun i hi => ?_
  rw [hplus_get l1 l2 i hi, hadd_getD s b i n (by omega), hadd_getD (hzero 7424) b i n (by rw [good_len hzero_good]; exact hb), hzero_getD, hzero_getD]
  by_cases c : i = b
  · rw [if_pos c, if_pos c, c, Int.zero_add]; rw [show hold n = n from if_pos hn2]
  · rw [if_neg c, if_neg c, Int.add_zero]; exact (if_pos (good_get hs i).2).symm

/-- Buckets that may be added. -/
def Bok (l : List S75) : Prop := ∀ b ∈ l, 0 ≤ b.f0 ∧ b.f0 < 7424 ∧ 0 ≤ b.f1 ∧ b.f1 < 18446744073709551616
theorem merged_good_of {l : List S75} (h : Bok l) : ∀ {s : List Int}, hgood s = true → hgood (merged s l) = true := by
  induction l with
  | nil => intro s hs; exact hs
  | cons b l ih => intro s hs; exact ih (fun x hx => h x (by simp [hx])) (hadd_good hs _ _ (h b (by simp)).2.2.1)
theorem merged_plus {l : List S75} (h : Bok l) : ∀ {s : List Int}, hgood s = true → merged s l = hplus s (merged (hzero 7424) l) := by
  induction l with
  | nil => intro s hs; exact (hplus_zero hs).symm
  | cons b l ih =>
    intro s hs
    obtain ⟨b0, b1, b2, b3⟩ := h b (by simp)
    have hl : Bok l := fun x hx => h x (by simp [hx])
    have i1 := ih hl (hadd_good hs b.f0.toNat b.f1 b2)
    have i2 := ih hl (hadd_good hzero_good b.f0.toNat b.f1 b2)
    have g := hadd_good hzero_good b.f0.toNat b.f1 b2
    have gm := merged_good_of hl hzero_good
    show merged (hadd s b.f0.toNat b.f1) l = hplus s (merged (hadd (hzero 7424) b.f0.toNat b.f1) l)
    rw [i1, i2, hadd_plus hs _ (by omega) _ b2 b3, hplus_assoc hs g gm]
theorem chk_ok : ∀ (l : List S75) (last : Int), -1 ≤ last → chkFrom last l = true → ∀ b ∈ l, last < b.f0 ∧ b.f0 < 7424 ∧ b.f1 ≠ 0 := by
  intro l
  induction l with
  | nil => intro last _ _ b hb; simp at hb
  | cons c l ih =>
    intro last h0 h b hb
    simp only [chkFrom, Bool.and_eq_true, decide_eq_true_eq, Bool.not_eq_true', beq_eq_false_iff_ne] at h
    obtain ⟨c1, c2, c3, c4⟩ := h
    rcases List.mem_cons.1 hb with rfl | hb
    · exact ⟨c1, c2, c3⟩
    · have := ih c.f0 (by omega) c4 b hb
      exact ⟨by omega, this.2⟩
theorem Bok.of {l : List S75} (hw : WB l) (hc : chk l = true) : Bok l := fun b hb => by
  have := chk_ok l (-1) (by omega) hc b hb
  have u := U.of (hw.2.2 b hb).2
  exact ⟨by omega, this.2.1, u.1, u.2⟩

/-! ### The buckets of a histogram -/
theorem bksTo_ok {s : List Int} (hs : hgood s = true) : ∀ n, n ≤ 7424 → ∀ b ∈ bksTo s n, 0 ≤ b.f0 ∧ b.f0 < n ∧ 1 ≤ b.f1 ∧ b.f1 < 18446744073709551616 := by
  intro n
  induction n with
  | zero => intro _ b hb; simp [bksTo] at hb
  | succ n ih =>
    intro hn b hb
    have g := good_get hs n
    unfold bksTo at hb
    split at hb
    · rcases List.mem_append.1 hb with hb | hb
      · have := ih (by omega) b hb; omega
      · rw [List.mem_singleton] at hb
        subst hb
        exact ⟨by show 0 ≤ (n : Int); omega, by show (n : Int) < _; omega, by show 1 ≤ s.getD n 0; omega, g.2⟩
    · have := ih (by omega) b hb; omega
theorem bks_Bok {s : List Int} (hs : hgood s = true) : Bok (bks s) := fun b hb => by
  have := bksTo_ok hs 7424 (Nat.le_refl _) b hb
  exact ⟨this.1, by omega, by omega, this.2.2.2⟩
theorem chkFrom_snoc (b : S75) : ∀ (l : List S75) (last : Int), (∀ x ∈ l, x.f0 < b.f0) → last < b.f0 → b.f0 < 7424 → b.f1 ≠ 0 → chkFrom last l = true → chkFrom last (l ++ [b]) = true := by
  intro l
  induction l with
  | nil =>
    intro last _ h1 h2 h3 _
    simp only [List.nil_append, chkFrom, Bool.and_eq_true, decide_eq_true_eq, Bool.not_eq_true', beq_eq_false_iff_ne]
    exact ⟨h1, h2, h3, trivial⟩
  | cons c l ih =>
    intro last hx h1 h2 h3 h
    simp only [List.cons_append, chkFrom, Bool.and_eq_true, decide_eq_true_eq, Bool.not_eq_true', beq_eq_false_iff_ne] at h ⊢
    obtain ⟨c1, c2, c3, c4⟩ := h
    exact ⟨c1, c2, c3, ih c.f0 (fun x hx' => hx x (by simp [hx'])) (hx c (by simp)) h2 h3 c4⟩
theorem bksTo_chk {s : List Int} (hs : hgood s = true) : ∀ n, n ≤ 7424 → chkFrom (-1) (bksTo s n) = true := by
  intro n
  induction n with
  | zero => intro _; rfl
  | succ n ih =>
    intro hn
    unfold bksTo
    split
    · refine chkFrom_snoc _ _ _ (fun x hx => ?_) (by show -1 < (n : Int); omega) (by show (n : Int) < 7424; omega) (by show s.getD n 0 ≠ 0; omega) (ih (by omega))
      exact (bksTo_ok hs n (by omega) x hx).2.1
    · exact ih (by omega)
theorem bks_chk {s : List Int} (hs : hgood s = true) : chk (bks s) = true := bksTo_chk hs 7424 (Nat.le_refl _)
theorem bks_len (s : List Int) : (bks s).length ≤ 7424 := bksTo_len s 7424
theorem bks_WB {s : List Int} (hs : hgood s = true) : WB (bks s) := by
  have := bks_len s
  refine ⟨by omega, by omega, fun b hb => ?_⟩
  have := bksTo_ok hs 7424 (Nat.le_refl _) b hb
  exact ⟨wf_i64 (by omega) (by omega), wf_u64 (by omega) (by omega)⟩
theorem merged_snoc (s : List Int) (l : List S75) (b : S75) : merged s (l ++ [b]) = hadd (merged s l) b.f0.toNat b.f1 := by
  simp [merged, List.foldl_append]
theorem merged_bksTo {s : List Int} (hs : hgood s = true) : ∀ n, n ≤ 7424 → ∀ i, (merged (hzero 7424) (bksTo s n)).getD i 0 = if i < n then s.getD i 0 else 0 := by
  intro n
  induction n with
  | zero => intro _ i; rw [if_neg (by omega)]; exact hzero_getD i
  | succ n ih =>
    intro hn i
    have g := good_get hs n
    have hl : (merged (hzero 7424) (bksTo s n)).length = 7424 := good_len (merged_good_of (fun b hb => by have := bksTo_ok hs n (by omega) b hb; exact ⟨this.1, by omega, by omega, this.2.2.2⟩) hzero_good)
    unfold bksTo
    split
    · rw [merged_snoc, show ((⟨(n : Int), s.getD n 0⟩ : S75).f0).toNat = n from Int.toNat_natCast n, hadd_getD _ _ _ _ (by omega), ih (by omega) n, if_neg (Nat.lt_irrefl n), Int.zero_add]
      by_cases c : i = n
      · rw [if_pos c, if_pos (by omega), c]; exact if_pos g.2
      · rw [if_neg c, ih (by omega)]
        by_cases d : i < n
        · rw [if_pos d, if_pos (by omega)]
        · rw [if_neg d, if_neg (by omega)]
    · rw [ih (by omega)]
      by_cases d : i < n
      · rw [if_pos d, if_pos (by omega)]
      · rw [if_neg d]
        by_cases c : i = n
        · rw [if_pos (by omega), c]; omega
        · rw [if_neg (by omega)]
theorem merged_bks {s : List Int} (hs : hgood s = true) : merged (hzero 7424) (bks s) = s :=
  h_ext (good_len (merged_good_of (bks_Bok hs) hzero_good)) (good_len hs) fun i hi => by
    have := merged_bksTo hs 7424 (Nat.le_refl _) i
    rwa [if_pos hi] at this
end Go.Proofs.Ytlfjfgcalilnpaa.Pure
