/- The reference's lists of buckets, and the histogram that each stands for. Plain Lean, no program in sight. -/
import Derived.Test.YtmhejpcbgknncaaHrx
import Derived.Test.YtmhejpcbgknncaaHPlus
namespace Go.Proofs.Ytmhejpcbgknncaa.Pure
open Go.RowKit Go.Proofs.Ytmhejpcbgknncaa.Hi Go.Proofs.Ytmhejpcbgknncaa.Hj Go.Proofs.Ytmhejpcbgknncaa.Hr Go.Proofs.YtmhejpcbgknncaaW.PrintWords Go.Proofs.YtmhejpcbgknncaaW.PrintLast

theorem chk_cons {last : Int} {b : S51} {l : List S51} : chkFrom last (b :: l) = true ↔ last < b.f0 ∧ b.f0 < 7424 ∧ b.f1 ≠ 0 ∧ chkFrom b.f0 l = true := by
  simp only [chkFrom, Bool.and_eq_true, decide_eq_true_eq, Bool.not_eq_true', beq_eq_false_iff_ne]
/-- How many of a bucket. -/
def look : List S51 → Int → Int
  | [], _ => 0
  | b :: r, i => if b.f0 = i then b.f1 else look r i
theorem look_low : ∀ {l : List S51} {last : Int}, chkFrom last l = true → ∀ i, i ≤ last → look l i = 0 := by
  intro l
  induction l with
  | nil => intro _ _ _ _; rfl
  | cons b l ih =>
    intro last h i hi
    obtain ⟨c1, c2, c3, c4⟩ := chk_cons.mp h
    show (if b.f0 = i then b.f1 else look l i) = 0
    rw [if_neg (by omega)]
    exact ih c4 i (by omega)
theorem look_high : ∀ {l : List S51} {last : Int}, chkFrom last l = true → ∀ i, 7424 ≤ i → look l i = 0 := by
  intro l
  induction l with
  | nil => intro _ _ _ _; rfl
  | cons b l ih =>
    intro last h i hi
    obtain ⟨c1, c2, c3, c4⟩ := chk_cons.mp h
    show (if b.f0 = i then b.f1 else look l i) = 0
    rw [if_neg (by omega)]
    exact ih c4 i hi
theorem look_mem : ∀ {l : List S51} {last : Int}, chkFrom last l = true → ∀ b ∈ l, look l b.f0 = b.f1 := by
  intro l
  induction l with
  | nil => intro _ _ b hb; simp at hb
  | cons c l ih =>
    intro last h b hb
    obtain ⟨c1, c2, c3, c4⟩ := chk_cons.mp h
    show (if c.f0 = b.f0 then c.f1 else look l b.f0) = b.f1
    rcases List.mem_cons.1 hb with rfl | hb
    · rw [if_pos rfl]
    · have := (chk_sorted l c.f0 c4 b hb).1
      rw [if_neg (by omega)]
      exact ih c4 b hb
theorem look_none : ∀ {l : List S51} (i : Int), (∀ b ∈ l, b.f0 ≠ i) → look l i = 0 := by
  intro l
  induction l with
  | nil => intro _ _; rfl
  | cons b l ih =>
    intro i h
    show (if b.f0 = i then b.f1 else look l i) = 0
    rw [if_neg (h b (by simp))]
    exact ih i (fun x hx => h x (by simp [hx]))
theorem look_ge {l : List S51} (h : ∀ b ∈ l, 0 ≤ b.f1 ∧ b.f1 < 18446744073709551616) (i : Int) : 0 ≤ look l i ∧ look l i < 18446744073709551616 := by
  induction l with
  | nil => show (0 : Int) ≤ 0 ∧ (0 : Int) < 18446744073709551616; omega
  | cons b l ih =>
    show 0 ≤ (if b.f0 = i then b.f1 else look l i) ∧ (if b.f0 = i then b.f1 else look l i) < 18446744073709551616
    split
    · exact h b (by simp)
    · exact ih (fun x hx => h x (by simp [hx]))
/-- Two lists that may be and tell the same are the same. -/
theorem look_ext : ∀ {l l' : List S51} {last : Int}, chkFrom last l = true → chkFrom last l' = true → (∀ i, last < i → look l i = look l' i) → l = l' := by
  intro l
  induction l with
  | nil =>
    intro l' last _ h' he
    cases l' with
    | nil => rfl
    | cons b r =>
      obtain ⟨c1, c2, c3, c4⟩ := chk_cons.mp h'
      have := he b.f0 c1
      have e : look (b :: r) b.f0 = b.f1 := if_pos rfl
      rw [e] at this
      exact absurd this.symm c3
  | cons a r ih =>
    intro l' last h h' he
    obtain ⟨a1, a2, a3, a4⟩ := chk_cons.mp h
    cases l' with
    | nil =>
      have := he a.f0 a1
      have e : look (a :: r) a.f0 = a.f1 := if_pos rfl
      rw [e] at this
      exact absurd this a3
    | cons b r' =>
      obtain ⟨b1, b2, b3, b4⟩ := chk_cons.mp h'
      have ea : look (a :: r) a.f0 = a.f1 := if_pos rfl
      have eb : look (b :: r') b.f0 = b.f1 := if_pos rfl
      have ha := he a.f0 a1
      have hb := he b.f0 b1
      rw [ea] at ha
      rw [eb] at hb
      have h0 : a.f0 = b.f0 := by
        rcases Int.lt_trichotomy a.f0 b.f0 with c | c | c
        · have e : look (b :: r') a.f0 = look r' a.f0 := if_neg (by omega)
          rw [e, look_low b4 _ (by omega)] at ha
          exact absurd ha a3
        · exact c
        · have e : look (a :: r) b.f0 = look r b.f0 := if_neg (by omega)
          rw [e, look_low a4 _ (by omega)] at hb
          exact absurd hb.symm b3
      have h1 : a.f1 = b.f1 := by rw [ha, h0, eb]
      have hab : a = b := by cases a; cases b; simp at h0 h1; rw [h0, h1]
      subst hab
      congr 1
      refine ih a4 b4 fun i hi => ?_
      have := he i (by omega)
      have e1 : look (a :: r) i = look r i := if_neg (by omega)
      have e2 : look (a :: r') i = look r' i := if_neg (by omega)
      rwa [e1, e2] at this
theorem merged_look {l : List S51} (hb : Bok l) (hc : chk l = true) (i : Nat) : (merged (hzero 7424) l).getD i 0 = look l (i : Int) := by
  obtain ⟨_, _, h3, h4⟩ := merged_spec l (hzero 7424) (-1) hzero_good (by omega) hc (fun b hm => wf_u64 (hb b hm).2.2.1 (hb b hm).2.2.2) (fun i _ => hzero_getD i)
  by_cases c : ∀ b ∈ l, b.f0 ≠ (i : Int)
  · rw [h4 i (by omega) c, look_none _ c]
  · have : ∃ b, b ∈ l ∧ b.f0 = (i : Int) := by
      refine Classical.byContradiction fun h => c fun b hb he => h ⟨b, hb, he⟩
    obtain ⟨b, hm, he⟩ := this
    have e1 := (h3 b hm).2.2.2
    rw [he, Int.toNat_natCast] at e1
    rw [e1, ← he, look_mem hc b hm]
theorem look_bks {s : List Int} (hs : hgood s = true) (i : Nat) : look (bks s) (i : Int) = s.getD i 0 := by
  rw [← merged_look (bks_Bok hs) (bks_chk hs), merged_bks hs]
/-- The list that tells what a histogram holds is its buckets. -/
theorem bks_of {s : List Int} (hs : hgood s = true) {l : List S51} (hc : chk l = true) (h : ∀ i : Nat, i < 7424 → look l (i : Int) = s.getD i 0) : l = bks s := by
  refine look_ext hc (bks_chk hs) fun i hi => ?_
  by_cases c : i < 7424
  · obtain ⟨n, rfl⟩ : ∃ n : Nat, i = n := ⟨i.toNat, by omega⟩
    rw [h n (by omega), look_bks hs]
  · rw [look_high hc _ (by omega), look_high (bks_chk hs) _ (by omega)]
theorem bks_merged {l : List S51} (hb : Bok l) (hc : chk l = true) : bks (merged (hzero 7424) l) = l :=
  (bks_of (merged_good_of hb hzero_good) hc fun i _ => (merged_look hb hc i).symm).symm

/-! ### Add -/
def insB (b v : Int) : List S51 → List S51
  | [] => [⟨b, v⟩]
  | x :: r => if x.f0 = b then ⟨b, hold (x.f1 + v)⟩ :: r else if x.f0 > b then ⟨b, v⟩ :: x :: r else x :: insB b v r
theorem hold_ne {x : Int} (h : 1 ≤ x) : hold x ≠ 0 := by unfold hold; split <;> omega
theorem insB_chk (b v : Int) (hb : b < 7424) (hv : 1 ≤ v) : ∀ (l : List S51) (last : Int), last < b → (∀ x ∈ l, 0 ≤ x.f1) → chkFrom last l = true → chkFrom last (insB b v l) = true := by
  intro l
  induction l with
  | nil => intro last h _ _; exact chk_cons.mpr ⟨h, hb, by show v ≠ 0; omega, rfl⟩
  | cons x r ih =>
    intro last h hn hc
    obtain ⟨c1, c2, c3, c4⟩ := chk_cons.mp hc
    have := hn x (by simp)
    unfold insB
    split
    · rename_i e; exact chk_cons.mpr ⟨h, hb, hold_ne (by omega), by rw [e] at c4; exact c4⟩
    · split
      · rename_i e; exact chk_cons.mpr ⟨h, hb, by show v ≠ 0; omega, chk_cons.mpr ⟨by show b < _; omega, c2, c3, c4⟩⟩
      · exact chk_cons.mpr ⟨c1, c2, c3, ih x.f0 (by omega) (fun y hy => hn y (by simp [hy])) c4⟩
theorem insB_look (b v : Int) (hv : 0 ≤ v ∧ v < 18446744073709551616) : ∀ (l : List S51) (last : Int), chkFrom last l = true → ∀ i, look (insB b v l) i = if i = b then hold (look l b + v) else look l i := by
  intro l
  have hv' : hold (0 + v) = v := by unfold hold; rw [if_pos (by omega)]; omega
  induction l with
  | nil =>
    intro last _ i
    show (if b = i then v else 0) = if i = b then hold (0 + v) else 0
    rw [hv']
    by_cases c : i = b
    · rw [if_pos c.symm, if_pos c]
    · rw [if_neg (fun h => c h.symm), if_neg c]
  | cons x r ih =>
    intro last hc i
    obtain ⟨c1, c2, c3, c4⟩ := chk_cons.mp hc
    unfold insB
    by_cases e1 : x.f0 = b
    · rw [if_pos e1]
      show (if b = i then hold (x.f1 + v) else look r i) = if i = b then hold ((if x.f0 = b then x.f1 else look r b) + v) else (if x.f0 = i then x.f1 else look r i)
      rw [if_pos e1]
      by_cases c : i = b
      · rw [if_pos c.symm, if_pos c]
      · rw [if_neg (fun h => c h.symm), if_neg c, if_neg (by omega)]
    · rw [if_neg e1]
      by_cases e2 : x.f0 > b
      · rw [if_pos e2]
        show (if b = i then v else (if x.f0 = i then x.f1 else look r i)) = if i = b then hold ((if x.f0 = b then x.f1 else look r b) + v) else (if x.f0 = i then x.f1 else look r i)
        rw [if_neg e1, look_low c4 b (by omega), hv']
        by_cases c : i = b
        · rw [if_pos c.symm, if_pos c]
        · rw [if_neg (fun h => c h.symm), if_neg c]
      · rw [if_neg e2]
        show (if x.f0 = i then x.f1 else look (insB b v r) i) = if i = b then hold ((if x.f0 = b then x.f1 else look r b) + v) else (if x.f0 = i then x.f1 else look r i)
        rw [ih x.f0 c4 i, if_neg e1]
        by_cases c : i = b
        · rw [if_neg (by omega), if_pos c, if_pos c]
        · rw [if_neg c, if_neg c]
theorem bks_add {s : List Int} (hs : hgood s = true) (b : Nat) (hb : b < 7424) (v : Int) (hv : 1 ≤ v ∧ v < 18446744073709551616) : insB b v (bks s) = bks (hadd s b v) := by
  have hk := bks_Bok hs
  have g := hadd_good hs b v (by omega)
  refine bks_of g (insB_chk b v (by omega) hv.1 _ (-1) (by omega) (fun x hx => (hk x hx).2.2.1) (bks_chk hs)) fun i hi => ?_
  rw [insB_look b v ⟨by omega, hv.2⟩ _ (-1) (bks_chk hs), look_bks hs, look_bks hs, hadd_getD s b i v (by have := good_len hs; omega)]
  by_cases c : i = b
  · rw [if_pos (by omega), if_pos c]
  · rw [if_neg (by omega), if_neg c]
theorem hadd_zero {s : List Int} (hs : hgood s = true) (b : Nat) : hadd s b 0 = s := by
  have g := hadd_good hs b 0 (Int.le_refl _)
  refine h_ext (good_len g) (good_len hs) fun i hi => ?_
  by_cases hb : b < s.length
  · rw [hadd_getD s b i 0 hb, Int.add_zero]
    by_cases c : i = b
    · rw [if_pos c, c]; exact if_pos (good_get hs b).2
    · rw [if_neg c]
  · unfold hadd; rw [List.set_eq_of_length_le (by omega)]

/-! ### Merge -/
def mrg : List S51 → List S51 → List S51
  | [], ys => ys
  | x :: xs, [] => x :: xs
  | x :: xs, y :: ys => if x.f0 < y.f0 then x :: mrg xs (y :: ys) else if y.f0 < x.f0 then y :: mrg (x :: xs) ys else ⟨x.f0, hold (x.f1 + y.f1)⟩ :: mrg xs ys
termination_by xs ys => xs.length + ys.length
theorem mrg_spec : ∀ (n : Nat) (a b : List S51) (last : Int), a.length + b.length ≤ n → chkFrom last a = true → chkFrom last b = true → (∀ x ∈ a, 0 ≤ x.f1 ∧ x.f1 < 18446744073709551616) → (∀ x ∈ b, 0 ≤ x.f1 ∧ x.f1 < 18446744073709551616) →
    chkFrom last (mrg a b) = true ∧ ∀ i, look (mrg a b) i = hold (look a i + look b i) := by
  intro n
  induction n with
  | zero =>
    intro a b last hn ha hb _ _
    obtain rfl : a = [] := List.length_eq_zero_iff.mp (by omega)
    obtain rfl : b = [] := List.length_eq_zero_iff.mp (by omega)
    rw [mrg]
    exact ⟨rfl, fun i => rfl⟩
  | succ n ih =>
    intro a b last hn ha hb wa wb
    cases a with
    | nil =>
      rw [mrg]
      refine ⟨hb, fun i => ?_⟩
      have := look_ge wb i
      show look b i = hold (0 + look b i)
      rw [Int.zero_add]; exact (if_pos this.2).symm
    | cons x xs =>
      cases b with
      | nil =>
        rw [mrg]
        refine ⟨ha, fun i => ?_⟩
        have := look_ge wa i
        show look (x :: xs) i = hold (look (x :: xs) i + 0)
        rw [Int.add_zero]; exact (if_pos this.2).symm
      | cons y ys =>
        have x1 := wa x (by simp); have y1 := wb y (by simp)
        have wa' : ∀ z ∈ xs, 0 ≤ z.f1 ∧ z.f1 < 18446744073709551616 := fun z hz => wa z (by simp [hz])
        have wb' : ∀ z ∈ ys, 0 ≤ z.f1 ∧ z.f1 < 18446744073709551616 := fun z hz => wb z (by simp [hz])
        obtain ⟨a1, a2, a3, a4⟩ := chk_cons.mp ha
        obtain ⟨b1, b2, b3, b4⟩ := chk_cons.mp hb
        have hx : hold x.f1 = x.f1 := if_pos x1.2
        have hy : hold y.f1 = y.f1 := if_pos y1.2
        simp only [List.length_cons] at hn
        rw [mrg]
        by_cases c1 : x.f0 < y.f0
        · rw [if_pos c1]
          obtain ⟨h1, h2⟩ := ih xs (y :: ys) x.f0 (by simp only [List.length_cons]; omega) a4 (chk_cons.mpr ⟨c1, b2, b3, b4⟩) wa' wb
          refine ⟨chk_cons.mpr ⟨a1, a2, a3, h1⟩, fun i => ?_⟩
          show (if x.f0 = i then x.f1 else look (mrg xs (y :: ys)) i) = hold ((if x.f0 = i then x.f1 else look xs i) + look (y :: ys) i)
          by_cases c : x.f0 = i
          · rw [if_pos c, if_pos c, look_low (chk_cons.mpr ⟨c1, b2, b3, b4⟩ : chkFrom x.f0 (y :: ys) = true) i (by omega), Int.add_zero, hx]
          · rw [if_neg c, if_neg c]; exact h2 i
        · rw [if_neg c1]
          by_cases c2 : y.f0 < x.f0
          · rw [if_pos c2]
            obtain ⟨h1, h2⟩ := ih (x :: xs) ys y.f0 (by simp only [List.length_cons]; omega) (chk_cons.mpr ⟨c2, a2, a3, a4⟩) b4 wa wb'
            refine ⟨chk_cons.mpr ⟨b1, b2, b3, h1⟩, fun i => ?_⟩
            show (if y.f0 = i then y.f1 else look (mrg (x :: xs) ys) i) = hold (look (x :: xs) i + (if y.f0 = i then y.f1 else look ys i))
            by_cases c : y.f0 = i
            · rw [if_pos c, if_pos c, look_low (chk_cons.mpr ⟨c2, a2, a3, a4⟩ : chkFrom y.f0 (x :: xs) = true) i (by omega), Int.zero_add, hy]
            · rw [if_neg c, if_neg c]; exact h2 i
          · rw [if_neg c2]
            have e : x.f0 = y.f0 := by omega
            obtain ⟨h1, h2⟩ := ih xs ys x.f0 (by omega) a4 (by rw [e]; exact b4) wa' wb'
            refine ⟨chk_cons.mpr ⟨a1, a2, hold_ne (by omega), h1⟩, fun i => ?_⟩
            show (if x.f0 = i then hold (x.f1 + y.f1) else look (mrg xs ys) i) = hold ((if x.f0 = i then x.f1 else look xs i) + (if y.f0 = i then y.f1 else look ys i))
            by_cases c : x.f0 = i
            · rw [if_pos c, if_pos c, if_pos (by omega)]
            · rw [if_neg c, if_neg c, if_neg (by omega)]; exact h2 i
theorem mrg_len (n : Nat) : ∀ (a b : List S51), a.length + b.length ≤ n → (mrg a b).length ≤ a.length + b.length := by
  induction n with
  | zero =>
    intro a b h
    obtain rfl : a = [] := List.length_eq_zero_iff.mp (by omega)
    rw [mrg]; simp
  | succ n ih =>
    intro a b h
    cases a with
    | nil => rw [mrg]; simp
    | cons x xs =>
      cases b with
      | nil => rw [mrg]; simp
      | cons y ys =>
        simp only [List.length_cons] at h
        rw [mrg]
        have h1 := ih xs (y :: ys) (by simp only [List.length_cons]; omega)
        have h2 := ih (x :: xs) ys (by simp only [List.length_cons]; omega)
        have h3 := ih xs ys (by omega)
        simp only [List.length_cons] at h1 h2
        split
        · simp only [List.length_cons]; omega
        · split <;> simp only [List.length_cons] <;> omega
theorem bks_mrg {s : List Int} (hs : hgood s = true) {l : List S51} (hb : Bok l) (hc : chk l = true) : mrg (bks s) l = bks (merged s l) := by
  have hk := bks_Bok hs
  obtain ⟨h1, h2⟩ := mrg_spec _ (bks s) l (-1) (Nat.le_refl _) (bks_chk hs) hc (fun x hx => (hk x hx).2.2) (fun x hx => (hb x hx).2.2)
  refine bks_of (merged_good_of hb hs) h1 fun i hi => ?_
  have gm := merged_good_of hb hzero_good
  rw [h2, look_bks hs, merged_plus hb hs, hplus_get (good_len hs) (good_len gm) i hi, merged_look hb hc]

/-! ### The reference's loops -/
theorem rd_S51 {l : List S51} {n : Nat} (h : n < l.length) : l.drop n = rd_T51 l (n : Int) :: l.drop (n + 1) := rd_drop h
theorem refAdd_done (l : List S51) (hl : l.length ≤ 8000000000000) (b v : Int) : ∀ (d n k : Nat) (out : List S51), n + d = l.length → 2 * d < k → out.length ≤ n + 1 →
    varveref07_Add.l0 k l b v out true (n : Int) = some (out ++ l.drop n) := by
  intro d
  induction d with
  | zero =>
    intro n k out hn hk ho
    obtain ⟨k, rfl⟩ : ∃ m, k = m + 1 := ⟨k - 1, by omega⟩
    simp only [varveref07_Add.l0, ↓reduceIte]
    rw [if_neg (by omega), List.drop_of_length_le (by omega), List.append_nil]
  | succ d ih =>
    intro n k out hn hk ho
    obtain ⟨k, rfl⟩ : ∃ m, k = m + 2 := ⟨k - 2, by omega⟩
    simp only [varveref07_Add.l0, varveref07_Add.j1, ↓reduceIte, Bool.false_eq_true]
    rw [if_pos (by omega), if_pos (by omega), if_pos (by omega), if_pos (by omega), w64 (n := (n : Int) + 1) (by omega) (by omega), rd_S51 (show n < l.length by omega)]
    rw [show (n : Int) + 1 = ((n + 1 : Nat) : Int) by omega, ih (n + 1) k _ (by omega) (by omega) (by rw [List.length_append]; simp; omega)]
    simp
theorem refAdd_open (l : List S51) (hl : l.length ≤ 8000000000000) (hr : ∀ x ∈ l, 0 ≤ x.f1 ∧ x.f1 < 18446744073709551616) (b v : Int) (hv : 0 ≤ v ∧ v < 18446744073709551616) : ∀ (d n k : Nat) (out : List S51), n + d = l.length → 2 * d < k → out.length ≤ n →
    varveref07_Add.l0 k l b v out false (n : Int) = some (out ++ insB b v (l.drop n)) := by
  intro d
  induction d with
  | zero =>
    intro n k out hn hk ho
    obtain ⟨k, rfl⟩ : ∃ m, k = m + 1 := ⟨k - 1, by omega⟩
    simp only [varveref07_Add.l0, ↓reduceIte, Bool.false_eq_true]
    rw [if_neg (by omega), if_pos (by omega), List.drop_of_length_le (by omega)]; rfl
  | succ d ih =>
    intro n k out hn hk ho
    obtain ⟨k, rfl⟩ : ∃ m, k = m + 2 := ⟨k - 2, by omega⟩
    have hlt : n < l.length := by omega
    have hd := rd_S51 hlt
    have hm : rd_T51 l (n : Int) ∈ l := List.mem_of_mem_drop (i := n) (by rw [hd]; simp)
    have hx := hr _ hm
    have IH := ih (n + 1) k
    have DN := refAdd_done l hl b v d (n + 1) k
    simp only [varveref07_Add.l0, varveref07_Add.j1, ↓reduceIte, Bool.false_eq_true]
    rw [if_pos (by omega), if_pos (by omega), w64 (n := (n : Int) + 1) (by omega) (by omega), hd]
    rw [show (n : Int) + 1 = ((n + 1 : Nat) : Int) by omega]
    generalize rd_T51 l (n : Int) = x at *
    unfold insB
    by_cases e1 : x.f0 = b
    · have : (x.f0 == b) = true := beq_iff_eq.mpr e1
      rw [this, if_pos rfl, if_pos (by omega), if_pos (by omega), if_pos e1]
      unfold varveref01_Add.f
      rw [if_pos ⟨hx, hv⟩, Option.bind_some, if_pos (by omega), DN _ (by omega) (by omega) (by rw [List.length_append]; simp; omega)]
      simp
    · have : (x.f0 == b) = false := beq_eq_false_iff_ne.mpr e1
      rw [this, if_neg (by simp), if_pos (by omega), if_pos (by omega), if_neg e1]
      by_cases e2 : x.f0 > b
      · rw [if_pos e2, if_pos e2, if_pos (by omega), Option.bind_some, if_pos (by rw [List.length_append]; simp; omega), DN _ (by omega) (by omega) (by simp; omega)]
        simp
      · rw [if_neg e2, if_neg e2, if_pos (by omega), IH _ (by omega) (by omega) (by rw [List.length_append]; simp; omega)]
        simp
theorem refAdd_list {s : List Int} (hs : hgood s = true) (b : Nat) (hb : b < 7424) (v : Int) (hv : 0 ≤ v ∧ v < 18446744073709551616) (k : Nat) (hk : 20000 ≤ k) : varveref07_Add.f k (bks s) (b : Int) v = some (bks (hadd s b v)) := by
  have hl := bks_len s
  unfold varveref07_Add.f
  by_cases c : v = 0
  · subst c
    rw [show ((0 : Int) == 0) = true from rfl]
    have := refAdd_done (bks s) (by omega) (b : Int) 0 (bks s).length 0 k [] (by omega) (by omega) (by simp)
    rw [hadd_zero hs]
    simpa using this
  · rw [beq_eq_false_iff_ne.mpr c]
    have := refAdd_open (bks s) (by omega) (fun x hx => (bks_Bok hs x hx).2.2) (b : Int) v hv (bks s).length 0 k [] (by omega) (by omega) (by simp)
    rw [← bks_add hs b hb v (by omega)]
    simpa using this
theorem refMerge_end (a b : List S51) (i j k : Nat) (out : List S51) (hi : a.length ≤ i) (hj : b.length ≤ j) (hk : 1 < k) : varveref07_Merge.l0 k a b out (i : Int) (j : Int) = some (out ++ mrg (a.drop i) (b.drop j)) := by
  obtain ⟨k, rfl⟩ : ∃ m, k = m + 2 := ⟨k - 2, by omega⟩
  simp only [varveref07_Merge.l0, varveref07_Merge.j1, ↓reduceIte]
  rw [if_neg (by omega), decide_eq_false (by omega), if_neg (by simp), List.drop_of_length_le (by omega), List.drop_of_length_le (l := b) (by omega), mrg, List.append_nil]
theorem refMerge_l0 (a b : List S51) (hl : a.length + b.length ≤ 8000000000000) (ha : ∀ x ∈ a, 0 ≤ x.f1 ∧ x.f1 < 18446744073709551616) (hb : ∀ x ∈ b, 0 ≤ x.f1 ∧ x.f1 < 18446744073709551616) : ∀ (d i j k : Nat) (out : List S51), i ≤ a.length → j ≤ b.length → (a.length - i) + (b.length - j) ≤ d → 3 * d + 1 < k → out.length ≤ i + j →
    varveref07_Merge.l0 k a b out (i : Int) (j : Int) = some (out ++ mrg (a.drop i) (b.drop j)) := by
  intro d
  induction d with
  | zero => intro i j k out hi hj hd hk ho; exact refMerge_end a b i j k out (by omega) (by omega) (by omega)
  | succ d ih =>
    intro i j k out hi hj hd hk ho
    by_cases c0 : a.length ≤ i ∧ b.length ≤ j
    · exact refMerge_end a b i j k out c0.1 c0.2 (by omega)
    obtain ⟨k, rfl⟩ : ∃ m, k = m + 3 := ⟨k - 3, by omega⟩
    have A := fun (h : i < a.length) => rd_S51 h
    have B := fun (h : j < b.length) => rd_S51 h
    have IA := fun (h : i < a.length) o (ho : o ≤ i + 1 + j) => ih (i + 1) j k
    simp only [varveref07_Merge.l0, varveref07_Merge.j1, ↓reduceIte]
    have first : (if (i : Int) < (a.length : Int) then (if (j : Int) ≥ (b.length : Int) then varveref07_Merge.j2 (k + 1) a b out i j true else if (i : Int) < (a.length : Int) then if 0 ≤ (i : Int) then if 0 ≤ (j : Int) then if (j : Int) < (b.length : Int) then varveref07_Merge.j2 (k + 1) a b out i j (decide ((rd_T51 a i).f0 < (rd_T51 b j).f0)) else none else none else none else varveref07_Merge.j2 (k + 1) a b out i j false)
        else varveref07_Merge.j2 (k + 1) a b out i j false) = some (out ++ mrg (a.drop i) (b.drop j)) := by
      simp only [varveref07_Merge.j2, ↓reduceIte, Bool.false_eq_true]
      by_cases ci : i < a.length
      · have hxm : rd_T51 a (i : Int) ∈ a := List.mem_of_mem_drop (i := i) (by rw [A ci]; simp)
        have hx := ha _ hxm
        rw [if_pos (by omega)]
        by_cases cj : j < b.length
        · have hym : rd_T51 b (j : Int) ∈ b := List.mem_of_mem_drop (i := j) (by rw [B cj]; simp)
          have hy := hb _ hym
          rw [if_neg (by omega), if_pos (by omega), if_pos (by omega), if_pos (by omega), if_pos (by omega), A ci, B cj, mrg]
          rw [← A ci, ← B cj]
          by_cases c1 : (rd_T51 a (i : Int)).f0 < (rd_T51 b (j : Int)).f0
          · rw [decide_eq_true c1, if_pos rfl, if_pos c1, if_pos (by omega), if_pos (by omega), if_pos (by omega), w64 (by omega) (by omega), show (i : Int) + 1 = ((i + 1 : Nat) : Int) by omega, ih (i + 1) j k _ (by omega) hj (by omega) (by omega) (by rw [List.length_append]; simp; omega)]
            simp
          · rw [decide_eq_false c1, if_neg (by simp), if_neg c1, if_neg (by omega), if_pos (by omega), if_pos (by omega), if_pos (by omega), if_pos (by omega)]
            by_cases c2 : (rd_T51 b (j : Int)).f0 < (rd_T51 a (i : Int)).f0
            · rw [if_pos c2, if_pos c2, if_pos (by omega), w64 (by omega) (by omega), show (j : Int) + 1 = ((j + 1 : Nat) : Int) by omega, ih i (j + 1) k _ hi (by omega) (by omega) (by omega) (by rw [List.length_append]; simp; omega)]
              simp
            · rw [if_neg c2, if_neg c2]
              unfold varveref01_Add.f
              rw [if_pos ⟨hx, hy⟩, Option.bind_some, if_pos (by omega), w64 (by omega) (by omega), w64 (by omega) (by omega), show (i : Int) + 1 = ((i + 1 : Nat) : Int) by omega, show (j : Int) + 1 = ((j + 1 : Nat) : Int) by omega, ih (i + 1) (j + 1) k _ (by omega) (by omega) (by omega) (by omega) (by rw [List.length_append]; simp; omega)]
              simp
        · rw [if_pos (by omega), if_pos (by omega), if_pos (by omega), if_pos (by omega), w64 (by omega) (by omega), show (i : Int) + 1 = ((i + 1 : Nat) : Int) by omega, ih (i + 1) j k _ (by omega) hj (by omega) (by omega) (by rw [List.length_append]; simp; omega), A ci, List.drop_of_length_le (l := b) (by omega), mrg]
          cases hD : a.drop (i + 1) with
          | nil => rw [mrg]; simp
          | cons z zs => rw [mrg]; simp
      · rw [if_neg (by omega), if_pos (by omega), if_pos (by omega), if_pos (by omega), if_pos (by omega), w64 (by omega) (by omega), show (j : Int) + 1 = ((j + 1 : Nat) : Int) by omega, ih i (j + 1) k _ hi (by omega) (by omega) (by omega) (by rw [List.length_append]; simp; omega), B (by omega), List.drop_of_length_le (l := a) (by omega), mrg, mrg]
        simp
    by_cases ci : i < a.length
    · rw [if_pos (by omega)]; rw [if_pos (by omega)] at first; exact first
    · rw [if_neg (by omega), decide_eq_true (by omega), if_pos rfl]
      rw [if_neg (by omega)] at first
      rw [if_neg (by omega), if_neg (by omega)]
      exact first
theorem refMerge_list {s : List Int} (hs : hgood s = true) {l : List S51} (hb : Bok l) (hc : chk l = true) (hl : l.length ≤ 7424) (k : Nat) (hk : 50000 ≤ k) : varveref07_Merge.f k (bks s) l = some (bks (merged s l)) := by
  have h1 := bks_len s
  unfold varveref07_Merge.f
  have := refMerge_l0 (bks s) l (by omega) (fun x hx => (bks_Bok hs x hx).2.2) (fun x hx => (hb x hx).2.2) _ 0 0 k [] (by omega) (by omega) (Nat.le_refl _) (by simp; omega) (by simp)
  rw [← bks_mrg hs hb hc]
  simpa using this
end Go.Proofs.Ytmhejpcbgknncaa.Pure
