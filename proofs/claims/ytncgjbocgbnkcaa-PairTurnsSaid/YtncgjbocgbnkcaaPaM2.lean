/- What the laws of this folder share, part 2: walks of functions over their Go text, and plain lemmas. Conditions: as each lemma says. -/
import Derived.Test.YtncgjbocgbnkcaaProg
import Derived.Test.YtncgjbocgbnkcaaRows
import Derived.Below
import Derived.Deep.Draws
import Derived.Deep.AppendLies
import Derived.Maps.AppendAt
import Derived.OwnWalk
import Derived.Laws.BytesArg
import Derived.Laws.MakeOwn
import Derived.Laws.OwnMore
import Derived.Deep.OwnRows
import Derived.Tactics
import Derived.Lib.ConvBytes
import Derived.Laws.Slices
import Derived.WalkKit
import Derived.KernelRfl
import Derived.RowKit3
import Derived.Deep.LoopGhost
import Derived.Deep.QuietTactic
import Derived.BigQuiet
import Derived.WideLaws
import Derived.Deep.DeepCutAuto
import Derived.Deep.CutBlock
import Derived.Deep.RegionHeld3
import Derived.Laws.Rows
import Derived.Lib.AppendStr
import Derived.ArgAppend
import Derived.Laws.IdiomCopy
import Derived.OrdersHeld
import Derived.Laws.BitsLemmas
import Derived.RowKit
import Derived.Test.YtncgjbocgbnkcaaPaM1
namespace Go.Proofs.Ytncgjbocgbnkcaa.Pure
set_option linter.unusedVariables false
set_option linter.unusedSimpArgs false
open Go.RowKit Go.Proofs.Ytncgjbocgbnkcaa.Hi
theorem h_ext {s t : List Int} (hs : s.length = 7424) (ht : t.length = 7424) (h : ∀ i, i < 7424 → s.getD i 0 = t.getD i 0) : s = t := by
  refine List.ext_getElem (by omega) fun i h1 h2 => ?_
  have := h i (by omega)
  rwa [List.getD, List.getElem?_eq_getElem h1, List.getD, List.getElem?_eq_getElem h2] at this
theorem wf_u64 {x : Int} (h0 : 0 ≤ x) (h1 : x < 18446744073709551616) : (Lit.int .u64 x).wf = true := by
  rw [Lit.wf_int_iff]
  simp [IntKind.min, IntKind.max, IntKind.bits, IntKind.signed]; omega
theorem wf_i64 {x : Int} (h0 : -9223372036854775808 ≤ x) (h1 : x ≤ 9223372036854775807) : (Lit.int .i64 x).wf = true := by
  rw [Lit.wf_int_iff]
  simp [IntKind.min, IntKind.max, IntKind.bits, IntKind.signed]; omega
/-- Count by count, held. -/
def hplus (s t : List Int) : List Int := List.zipWith (fun x y => hold (x + y)) s t
theorem good_len {s : List Int} (h : hgood s = true) : s.length = 7424 := ((hgood_iff _).mp h).1
theorem good_get {s : List Int} (h : hgood s = true) (i : Nat) : 0 ≤ s.getD i 0 ∧ s.getD i 0 < 18446744073709551616 := getD_range ((hgood_iff _).mp h).2 i
theorem hplus_len {s t : List Int} (hs : s.length = 7424) (ht : t.length = 7424) : (hplus s t).length = 7424 := by
  unfold hplus; rw [List.length_zipWith]; omega
theorem hplus_get {s t : List Int} (hs : s.length = 7424) (ht : t.length = 7424) (i : Nat) (hi : i < 7424) : (hplus s t).getD i 0 = hold (s.getD i 0 + t.getD i 0) := by
  unfold hplus
  rw [List.getD, List.getElem?_zipWith, getD_get (by omega : i < s.length), getD_get (by omega : i < t.length)]; rfl
theorem hplus_good {s t : List Int} (hs : hgood s = true) (ht : hgood t = true) : hgood (hplus s t) = true := by
  rw [hgood_iff]
  have hl := hplus_len (good_len hs) (good_len ht)
  refine ⟨hl, fun x hx => ?_⟩
  obtain ⟨i, hi, rfl⟩ := List.mem_iff_getElem.1 hx
  have := hplus_get (good_len hs) (good_len ht) i (by omega)
  rw [List.getD, List.getElem?_eq_getElem hi] at this
  have e : (hplus s t)[i] = hold (s.getD i 0 + t.getD i 0) := this
  rw [e]
  exact hold_range (by have := good_get hs i; have := good_get ht i; omega)
theorem hplus_comm {s t : List Int} (hs : hgood s = true) (ht : hgood t = true) : hplus s t = hplus t s :=
  h_ext (hplus_len (good_len hs) (good_len ht)) (hplus_len (good_len ht) (good_len hs)) fun i hi => by
    rw [hplus_get (good_len hs) (good_len ht) i hi, hplus_get (good_len ht) (good_len hs) i hi, Int.add_comm]
theorem hold_hold {x y z : Int} (hx : 0 ≤ x) (hz : 0 ≤ z) : hold (hold (x + y) + z) = hold (x + hold (y + z)) := by
  unfold hold
  repeat' split
  all_goals omega
theorem hplus_assoc {s t u : List Int} (hs : hgood s = true) (ht : hgood t = true) (hu : hgood u = true) : hplus (hplus s t) u = hplus s (hplus t u) := by
  have l1 := good_len hs; have l2 := good_len ht; have l3 := good_len hu
  refine h_ext (hplus_len (hplus_len l1 l2) l3) (hplus_len l1 (hplus_len l2 l3)) fun i hi => ?_
  rw [hplus_get (hplus_len l1 l2) l3 i hi, hplus_get l1 l2 i hi, hplus_get l1 (hplus_len l2 l3) i hi, hplus_get l2 l3 i hi]
  exact hold_hold (good_get hs i).1 (good_get hu i).1
theorem hplus_zero {s : List Int} (hs : hgood s = true) : hplus s (hzero 7424) = s := by
  have l1 := good_len hs; have l2 := good_len hzero_good
  refine h_ext (hplus_len l1 l2) l1 fun i hi => ?_
  rw [hplus_get l1 l2 i hi, hzero_getD, Int.add_zero]
  exact if_pos (good_get hs i).2
theorem hadd_plus {s : List Int} (hs : hgood s = true) (b : Nat) (hb : b < 7424) (n : Int) (hn : 0 ≤ n) (hn2 : n < 18446744073709551616) : hadd s b n = hplus s (hadd (hzero 7424) b n) := by
  have l1 := good_len hs; have g2 := hadd_good hzero_good b n hn; have l2 := good_len g2
  refine h_ext (good_len (hadd_good hs b n hn)) (hplus_len l1 l2) fun i hi => ?_
  rw [hplus_get l1 l2 i hi, hadd_getD s b i n (by omega), hadd_getD (hzero 7424) b i n (by rw [good_len hzero_good]; exact hb), hzero_getD, hzero_getD]
  by_cases c : i = b
  · rw [if_pos c, if_pos c, c, Int.zero_add]; rw [show hold n = n from if_pos hn2]
  · rw [if_neg c, if_neg c, Int.add_zero]; exact (if_pos (good_get hs i).2).symm
/-- Buckets that may be added. -/
def Bok (l : List S68) : Prop := ∀ b ∈ l, 0 ≤ b.f0 ∧ b.f0 < 7424 ∧ 0 ≤ b.f1 ∧ b.f1 < 18446744073709551616
theorem merged_good_of {l : List S68} (h : Bok l) : ∀ {s : List Int}, hgood s = true → hgood (merged s l) = true := by
  induction l with
  | nil => intro s hs; exact hs
  | cons b l ih => intro s hs; exact ih (fun x hx => h x (by simp [hx])) (hadd_good hs _ _ (h b (by simp)).2.2.1)
theorem merged_plus {l : List S68} (h : Bok l) : ∀ {s : List Int}, hgood s = true → merged s l = hplus s (merged (hzero 7424) l) := by
  induction l with
  | nil => intro s hs; exact (hplus_zero hs).symm
  | cons b l ih =>
    intro s hs
    obtain ⟨b0, b1, b2, b3⟩ := h b (by simp)
    have hl : Bok l := fun x hx => h x (by simp [hx])
    have i1 := ih hl (hadd_good hs b.f0.toNat b.f1 b2)
    have i2 := ih hl (hadd_good hzero_good b.f0.toNat b.f1 b2)
    have g := hadd_good hzero_good b.f0.toNat b.f1 b2
    have gm := merged_good_of hl hzero_good
    show merged (hadd s b.f0.toNat b.f1) l = hplus s (merged (hadd (hzero 7424) b.f0.toNat b.f1) l)
    rw [i1, i2, hadd_plus hs _ (by omega) _ b2 b3, hplus_assoc hs g gm]
theorem chk_ok : ∀ (l : List S68) (last : Int), -1 ≤ last → chkFrom last l = true → ∀ b ∈ l, last < b.f0 ∧ b.f0 < 7424 ∧ b.f1 ≠ 0 := by
  intro l
  induction l with
  | nil => intro last _ _ b hb; simp at hb
  | cons c l ih =>
    intro last h0 h b hb
    simp only [chkFrom, Bool.and_eq_true, decide_eq_true_eq, Bool.not_eq_true', beq_eq_false_iff_ne] at h
    obtain ⟨c1, c2, c3, c4⟩ := h
    rcases List.mem_cons.1 hb with rfl | hb
    · exact ⟨c1, c2, c3⟩
    · have := ih c.f0 (by omega) c4 b hb
      exact ⟨by omega, this.2⟩
theorem Bok.of {l : List S68} (hw : WB l) (hc : chk l = true) : Bok l := fun b hb => by
  have := chk_ok l (-1) (by omega) hc b hb
  have u := U.of (hw.2.2 b hb).2
  exact ⟨by omega, this.2.1, u.1, u.2⟩
theorem bksTo_ok {s : List Int} (hs : hgood s = true) : ∀ n, n ≤ 7424 → ∀ b ∈ bksTo s n, 0 ≤ b.f0 ∧ b.f0 < n ∧ 1 ≤ b.f1 ∧ b.f1 < 18446744073709551616 := by
  intro n
  induction n with
  | zero => intro _ b hb; simp [bksTo] at hb
  | succ n ih =>
    intro hn b hb
    have g := good_get hs n
    unfold bksTo at hb
    split at hb
    · rcases List.mem_append.1 hb with hb | hb
      · have := ih (by omega) b hb; omega
      · rw [List.mem_singleton] at hb
        subst hb
        exact ⟨by show 0 ≤ (n : Int); omega, by show (n : Int) < _; omega, by show 1 ≤ s.getD n 0; omega, g.2⟩
    · have := ih (by omega) b hb; omega
theorem bks_Bok {s : List Int} (hs : hgood s = true) : Bok (bks s) := fun b hb => by
  have := bksTo_ok hs 7424 (Nat.le_refl _) b hb
  exact ⟨this.1, by omega, by omega, this.2.2.2⟩
theorem chkFrom_snoc (b : S68) : ∀ (l : List S68) (last : Int), (∀ x ∈ l, x.f0 < b.f0) → last < b.f0 → b.f0 < 7424 → b.f1 ≠ 0 → chkFrom last l = true → chkFrom last (l ++ [b]) = true := by
  intro l
  induction l with
  | nil =>
    intro last _ h1 h2 h3 _
    simp only [List.nil_append, chkFrom, Bool.and_eq_true, decide_eq_true_eq, Bool.not_eq_true', beq_eq_false_iff_ne]
    exact ⟨h1, h2, h3, trivial⟩
  | cons c l ih =>
    intro last hx h1 h2 h3 h
    simp only [List.cons_append, chkFrom, Bool.and_eq_true, decide_eq_true_eq, Bool.not_eq_true', beq_eq_false_iff_ne] at h ⊢
    obtain ⟨c1, c2, c3, c4⟩ := h
    exact ⟨c1, c2, c3, ih c.f0 (fun x hx' => hx x (by simp [hx'])) (hx c (by simp)) h2 h3 c4⟩
theorem bksTo_chk {s : List Int} (hs : hgood s = true) : ∀ n, n ≤ 7424 → chkFrom (-1) (bksTo s n) = true := by
  intro n
  induction n with
  | zero => intro _; rfl
  | succ n ih =>
    intro hn
    unfold bksTo
    split
    · refine chkFrom_snoc _ _ _ (fun x hx => ?_) (by show -1 < (n : Int); omega) (by show (n : Int) < 7424; omega) (by show s.getD n 0 ≠ 0; omega) (ih (by omega))
      exact (bksTo_ok hs n (by omega) x hx).2.1
    · exact ih (by omega)
theorem bks_chk {s : List Int} (hs : hgood s = true) : chk (bks s) = true := bksTo_chk hs 7424 (Nat.le_refl _)
theorem bks_len (s : List Int) : (bks s).length ≤ 7424 := bksTo_len s 7424
theorem bks_WB {s : List Int} (hs : hgood s = true) : WB (bks s) := by
  have := bks_len s
  refine ⟨by omega, by omega, fun b hb => ?_⟩
  have := bksTo_ok hs 7424 (Nat.le_refl _) b hb
  exact ⟨wf_i64 (by omega) (by omega), wf_u64 (by omega) (by omega)⟩
theorem merged_snoc (s : List Int) (l : List S68) (b : S68) : merged s (l ++ [b]) = hadd (merged s l) b.f0.toNat b.f1 := by
  simp [merged, List.foldl_append]
theorem merged_bksTo {s : List Int} (hs : hgood s = true) : ∀ n, n ≤ 7424 → ∀ i, (merged (hzero 7424) (bksTo s n)).getD i 0 = if i < n then s.getD i 0 else 0 := by
  intro n
  induction n with
  | zero => intro _ i; rw [if_neg (by omega)]; exact hzero_getD i
  | succ n ih =>
    intro hn i
    have g := good_get hs n
    have hl : (merged (hzero 7424) (bksTo s n)).length = 7424 := good_len (merged_good_of (fun b hb => by have := bksTo_ok hs n (by omega) b hb; exact ⟨this.1, by omega, by omega, this.2.2.2⟩) hzero_good)
    unfold bksTo
    split
    · rw [merged_snoc, show ((⟨(n : Int), s.getD n 0⟩ : S68).f0).toNat = n from Int.toNat_natCast n, hadd_getD _ _ _ _ (by omega), ih (by omega) n, if_neg (Nat.lt_irrefl n), Int.zero_add]
      by_cases c : i = n
      · rw [if_pos c, if_pos (by omega), c]; exact if_pos g.2
      · rw [if_neg c, ih (by omega)]
        by_cases d : i < n
        · rw [if_pos d, if_pos (by omega)]
        · rw [if_neg d, if_neg (by omega)]
    · rw [ih (by omega)]
      by_cases d : i < n
      · rw [if_pos d, if_pos (by omega)]
      · rw [if_neg d]
        by_cases c : i = n
        · rw [if_pos (by omega), c]; omega
        · rw [if_neg (by omega)]
theorem merged_bks {s : List Int} (hs : hgood s = true) : merged (hzero 7424) (bks s) = s :=
  h_ext (good_len (merged_good_of (bks_Bok hs) hzero_good)) (good_len hs) fun i hi => by
    have := merged_bksTo hs 7424 (Nat.le_refl _) i
    rwa [if_pos hi] at this
end Go.Proofs.Ytncgjbocgbnkcaa.Pure
namespace Go.Proofs.Ytncgjbocgbnkcaa.Pure
set_option linter.unusedVariables false
set_option linter.unusedSimpArgs false
open Go.RowKit Go.Proofs.Ytncgjbocgbnkcaa.Hi Go.Proofs.YtncgjbocgbnkcaaW.PrintWords Go.Proofs.YtncgjbocgbnkcaaW.PrintLast
theorem chk_cons {last : Int} {b : S68} {l : List S68} : chkFrom last (b :: l) = true ↔ last < b.f0 ∧ b.f0 < 7424 ∧ b.f1 ≠ 0 ∧ chkFrom b.f0 l = true := by
  simp only [chkFrom, Bool.and_eq_true, decide_eq_true_eq, Bool.not_eq_true', beq_eq_false_iff_ne]
/-- How many of a bucket. -/
def look : List S68 → Int → Int
  | [], _ => 0
  | b :: r, i => if b.f0 = i then b.f1 else look r i
theorem look_low : ∀ {l : List S68} {last : Int}, chkFrom last l = true → ∀ i, i ≤ last → look l i = 0 := by
  intro l
  induction l with
  | nil => intro _ _ _ _; rfl
  | cons b l ih =>
    intro last h i hi
    obtain ⟨c1, c2, c3, c4⟩ := chk_cons.mp h
    show (if b.f0 = i then b.f1 else look l i) = 0
    rw [if_neg (by omega)]
    exact ih c4 i (by omega)
theorem look_high : ∀ {l : List S68} {last : Int}, chkFrom last l = true → ∀ i, 7424 ≤ i → look l i = 0 := by
  intro l
  induction l with
  | nil => intro _ _ _ _; rfl
  | cons b l ih =>
    intro last h i hi
    obtain ⟨c1, c2, c3, c4⟩ := chk_cons.mp h
    show (if b.f0 = i then b.f1 else look l i) = 0
    rw [if_neg (by omega)]
    exact ih c4 i hi
theorem look_mem : ∀ {l : List S68} {last : Int}, chkFrom last l = true → ∀ b ∈ l, look l b.f0 = b.f1 := by
  intro l
  induction l with
  | nil => intro _ _ b hb; simp at hb
  | cons c l ih =>
    intro last h b hb
    obtain ⟨c1, c2, c3, c4⟩ := chk_cons.mp h
    show (if c.f0 = b.f0 then c.f1 else look l b.f0) = b.f1
    rcases List.mem_cons.1 hb with rfl | hb
    · rw [if_pos rfl]
    · have := (chk_sorted l c.f0 c4 b hb).1
      rw [if_neg (by omega)]
      exact ih c4 b hb
theorem look_none : ∀ {l : List S68} (i : Int), (∀ b ∈ l, b.f0 ≠ i) → look l i = 0 := by
  intro l
  induction l with
  | nil => intro _ _; rfl
  | cons b l ih =>
    intro i h
    show (if b.f0 = i then b.f1 else look l i) = 0
    rw [if_neg (h b (by simp))]
    exact ih i (fun x hx => h x (by simp [hx]))
/-- Two lists that may be and tell the same are the same. -/
theorem look_ext : ∀ {l l' : List S68} {last : Int}, chkFrom last l = true → chkFrom last l' = true → (∀ i, last < i → look l i = look l' i) → l = l' := by
  intro l
  induction l with
  | nil =>
    intro l' last _ h' he
    cases l' with
    | nil => rfl
    | cons b r =>
      obtain ⟨c1, c2, c3, c4⟩ := chk_cons.mp h'
      have := he b.f0 c1
      have e : look (b :: r) b.f0 = b.f1 := if_pos rfl
      rw [e] at this
      exact absurd this.symm c3
  | cons a r ih =>
    intro l' last h h' he
    obtain ⟨a1, a2, a3, a4⟩ := chk_cons.mp h
    cases l' with
    | nil =>
      have := he a.f0 a1
      have e : look (a :: r) a.f0 = a.f1 := if_pos rfl
      rw [e] at this
      exact absurd this a3
    | cons b r' =>
      obtain ⟨b1, b2, b3, b4⟩ := chk_cons.mp h'
      have ea : look (a :: r) a.f0 = a.f1 := if_pos rfl
      have eb : look (b :: r') b.f0 = b.f1 := if_pos rfl
      have ha := he a.f0 a1
      have hb := he b.f0 b1
      rw [ea] at ha
      rw [eb] at hb
      have h0 : a.f0 = b.f0 := by
        rcases Int.lt_trichotomy a.f0 b.f0 with c | c | c
        · have e : look (b :: r') a.f0 = look r' a.f0 := if_neg (by omega)
          rw [e, look_low b4 _ (by omega)] at ha
          exact absurd ha a3
        · exact c
        · have e : look (a :: r) b.f0 = look r b.f0 := if_neg (by omega)
          rw [e, look_low a4 _ (by omega)] at hb
          exact absurd hb.symm b3
      have h1 : a.f1 = b.f1 := by rw [ha, h0, eb]
      have hab : a = b := by cases a; cases b; simp at h0 h1; rw [h0, h1]
      subst hab
      congr 1
      refine ih a4 b4 fun i hi => ?_
      have := he i (by omega)
      have e1 : look (a :: r) i = look r i := if_neg (by omega)
      have e2 : look (a :: r') i = look r' i := if_neg (by omega)
      rwa [e1, e2] at this
theorem merged_look {l : List S68} (hb : Bok l) (hc : chk l = true) (i : Nat) : (merged (hzero 7424) l).getD i 0 = look l (i : Int) := by
  obtain ⟨_, _, h3, h4⟩ := merged_spec l (hzero 7424) (-1) hzero_good (by omega) hc (fun b hm => wf_u64 (hb b hm).2.2.1 (hb b hm).2.2.2) (fun i _ => hzero_getD i)
  by_cases c : ∀ b ∈ l, b.f0 ≠ (i : Int)
  · rw [h4 i (by omega) c, look_none _ c]
  · have : ∃ b, b ∈ l ∧ b.f0 = (i : Int) := by
      refine Classical.byContradiction fun h => c fun b hb he => h ⟨b, hb, he⟩
    obtain ⟨b, hm, he⟩ := this
    have e1 := (h3 b hm).2.2.2
    rw [he, Int.toNat_natCast] at e1
    rw [e1, ← he, look_mem hc b hm]
theorem look_bks {s : List Int} (hs : hgood s = true) (i : Nat) : look (bks s) (i : Int) = s.getD i 0 := by
  rw [← merged_look (bks_Bok hs) (bks_chk hs), merged_bks hs]
/-- The list that tells what a histogram holds is its buckets. -/
theorem bks_of {s : List Int} (hs : hgood s = true) {l : List S68} (hc : chk l = true) (h : ∀ i : Nat, i < 7424 → look l (i : Int) = s.getD i 0) : l = bks s := by
  refine look_ext hc (bks_chk hs) fun i hi => ?_
  by_cases c : i < 7424
  · obtain ⟨n, rfl⟩ : ∃ n : Nat, i = n := ⟨i.toNat, by omega⟩
    rw [h n (by omega), look_bks hs]
  · rw [look_high hc _ (by omega), look_high (bks_chk hs) _ (by omega)]
theorem bks_merged {l : List S68} (hb : Bok l) (hc : chk l = true) : bks (merged (hzero 7424) l) = l :=
  (bks_of (merged_good_of hb hzero_good) hc fun i _ => (merged_look hb hc i).symm).symm
def insB (b v : Int) : List S68 → List S68
  | [] => [⟨b, v⟩]
  | x :: r => if x.f0 = b then ⟨b, hold (x.f1 + v)⟩ :: r else if x.f0 > b then ⟨b, v⟩ :: x :: r else x :: insB b v r
theorem hold_ne {x : Int} (h : 1 ≤ x) : hold x ≠ 0 := by unfold hold; split <;> omega
theorem insB_chk (b v : Int) (hb : b < 7424) (hv : 1 ≤ v) : ∀ (l : List S68) (last : Int), last < b → (∀ x ∈ l, 0 ≤ x.f1) → chkFrom last l = true → chkFrom last (insB b v l) = true := by
  intro l
  induction l with
  | nil => intro last h _ _; exact chk_cons.mpr ⟨h, hb, by show v ≠ 0; omega, rfl⟩
  | cons x r ih =>
    intro last h hn hc
    obtain ⟨c1, c2, c3, c4⟩ := chk_cons.mp hc
    have := hn x (by simp)
    unfold insB
    split
    · rename_i e; exact chk_cons.mpr ⟨h, hb, hold_ne (by omega), by rw [e] at c4; exact c4⟩
    · split
      · rename_i e; exact chk_cons.mpr ⟨h, hb, by show v ≠ 0; omega, chk_cons.mpr ⟨by show b < _; omega, c2, c3, c4⟩⟩
      · exact chk_cons.mpr ⟨c1, c2, c3, ih x.f0 (by omega) (fun y hy => hn y (by simp [hy])) c4⟩
theorem insB_look (b v : Int) (hv : 0 ≤ v ∧ v < 18446744073709551616) : ∀ (l : List S68) (last : Int), chkFrom last l = true → ∀ i, look (insB b v l) i = if i = b then hold (look l b + v) else look l i := by
  intro l
  have hv' : hold (0 + v) = v := by unfold hold; rw [if_pos (by omega)]; omega
  induction l with
  | nil =>
    intro last _ i
    show (if b = i then v else 0) = if i = b then hold (0 + v) else 0
    rw [hv']
    by_cases c : i = b
    · rw [if_pos c.symm, if_pos c]
    · rw [if_neg (fun h => c h.symm), if_neg c]
  | cons x r ih =>
    intro last hc i
    obtain ⟨c1, c2, c3, c4⟩ := chk_cons.mp hc
    unfold insB
    by_cases e1 : x.f0 = b
    · rw [if_pos e1]
      show (if b = i then hold (x.f1 + v) else look r i) = if i = b then hold ((if x.f0 = b then x.f1 else look r b) + v) else (if x.f0 = i then x.f1 else look r i)
      rw [if_pos e1]
      by_cases c : i = b
      · rw [if_pos c.symm, if_pos c]
      · rw [if_neg (fun h => c h.symm), if_neg c, if_neg (by omega)]
    · rw [if_neg e1]
      by_cases e2 : x.f0 > b
      · rw [if_pos e2]
        show (if b = i then v else (if x.f0 = i then x.f1 else look r i)) = if i = b then hold ((if x.f0 = b then x.f1 else look r b) + v) else (if x.f0 = i then x.f1 else look r i)
        rw [if_neg e1, look_low c4 b (by omega), hv']
        by_cases c : i = b
        · rw [if_pos c.symm, if_pos c]
        · rw [if_neg (fun h => c h.symm), if_neg c]
      · rw [if_neg e2]
        show (if x.f0 = i then x.f1 else look (insB b v r) i) = if i = b then hold ((if x.f0 = b then x.f1 else look r b) + v) else (if x.f0 = i then x.f1 else look r i)
        rw [ih x.f0 c4 i, if_neg e1]
        by_cases c : i = b
        · rw [if_neg (by omega), if_pos c, if_pos c]
        · rw [if_neg c, if_neg c]
theorem bks_add {s : List Int} (hs : hgood s = true) (b : Nat) (hb : b < 7424) (v : Int) (hv : 1 ≤ v ∧ v < 18446744073709551616) : insB b v (bks s) = bks (hadd s b v) := by
  have hk := bks_Bok hs
  have g := hadd_good hs b v (by omega)
  refine bks_of g (insB_chk b v (by omega) hv.1 _ (-1) (by omega) (fun x hx => (hk x hx).2.2.1) (bks_chk hs)) fun i hi => ?_
  rw [insB_look b v ⟨by omega, hv.2⟩ _ (-1) (bks_chk hs), look_bks hs, look_bks hs, hadd_getD s b i v (by have := good_len hs; omega)]
  by_cases c : i = b
  · rw [if_pos (by omega), if_pos c]
  · rw [if_neg (by omega), if_neg c]
end Go.Proofs.Ytncgjbocgbnkcaa.Pure
namespace Go.Proofs.Ytncgjbocgbnkcaa.Ga
open Go.RowKit Go.Proofs.YtncgjbocgbnkcaaW.PrintWords Go.Proofs.YtncgjbocgbnkcaaW.PrintLast Go.Proofs.YtncgjbocgbnkcaaW.PrintMore Go.Proofs.Ytncgjbocgbnkcaa.Hi Go.Proofs.Ytncgjbocgbnkcaa.Q Go.Proofs.Ytncgjbocgbnkcaa.Gb
attribute [local go_sem] max2_int min2_int max_two min_two max_three min_three max_four min_four   -- for this text's walks alone
set_option linter.unusedVariables false
set_option linter.unusedSimpArgs false
def errW : Option Int → Value
  | none => .nilIface
  | some c => .iface 0 (.int .i64 c)
theorem errW_none : errW none = .nilIface := rfl
theorem errW_some (c : Int) : errW (some c) = .iface 0 (.int .i64 c) := rfl
theorem info41 : (Try.prog.info? 41).map (fun i => (i.zero, i.size, i.bytes)) = some (some (.int .u64 0), 1, 8) := by kernel_rfl
theorem info68 : (Try.prog.info? 68).map (fun i => (i.zero, i.size, i.bytes)) = some (some (.agg #[(.int .i64 0), (.int .u64 0)]), 2, 16) := by kernel_rfl
structure S90 where
  f0 : Int
  f1 : ByteArray
  f2 : Int
def z90 : S90 := ⟨(0 : Int), (⟨#[]⟩ : ByteArray), (0 : Int)⟩
def k90 : Kd S90 := Kd.iso (Kd.pair (Kd.int .u64) (Kd.pair Kd.string (Kd.int .u64))) (fun x : S90 => (x.f0, x.f1, x.f2))
theorem k90_open {w : World} {x : S90} {cs : List Value} (h : k90.K w x cs) : cs = [.int .u64 x.f0, .string x.f1, .int .u64 x.f2] := by
  obtain ⟨_, _, rfl, rfl, ⟨_, _, rfl, rfl, rfl⟩⟩ := h
  exact rfl
theorem k90_mk (w : World) (x : S90)  : k90.K w x [.int .u64 x.f0, .string x.f1, .int .u64 x.f2] := ⟨[.int .u64 x.f0], [.string x.f1, .int .u64 x.f2], rfl, rfl, ⟨[.string x.f1], [.int .u64 x.f2], rfl, rfl, rfl⟩⟩
def rd_T90 (xs : List S90) (i : Int) : S90 := xs.getD i.toNat z90
theorem at_T90 {w : World} {A : Option Addr} {n : Nat} {xs : List S90} (h : Kd.C k90 w A n xs) (i : Int) (h0 : 0 ≤ i) (h1 : i < n) : ∃ ad , A = some ad ∧ w.cell? (ad.add (i.toNat * 3)) = some (.int .u64 (rd_T90 xs i).f0) ∧ w.cell? ⟨(ad.add (i.toNat * 3)).block, (ad.add (i.toNat * 3)).off + 1, none⟩ = some (.string (rd_T90 xs i).f1) ∧ w.cell? ⟨(ad.add (i.toNat * 3)).block, (ad.add (i.toNat * 3)).off + 2, none⟩ = some (.int .u64 (rd_T90 xs i).f2) := by
  obtain ⟨ad, c, e, _, hK, hc0⟩ := Kd.C_get h z90 i h0 h1
  have hc : ∀ j u, c[j]? = some u → w.cell? (ad.add (i.toNat * 3 + j)) = some u := hc0
  obtain rfl := k90_open hK
  exact ⟨ad, e, hc 0 _ rfl, by rw [← add_field _ _ 1 (by omega)]; exact hc 1 _ rfl, by rw [← add_field _ _ 2 (by omega)]; exact hc 2 _ rfl⟩
end Go.Proofs.Ytncgjbocgbnkcaa.Ga
namespace Go.Proofs.Ytncgjbocgbnkcaa.Ga
open Go.RowKit Go.Proofs.YtncgjbocgbnkcaaW.PrintWords Go.Proofs.YtncgjbocgbnkcaaW.PrintLast Go.Proofs.YtncgjbocgbnkcaaW.PrintMore Go.Proofs.Ytncgjbocgbnkcaa.Hi Go.Proofs.Ytncgjbocgbnkcaa.Q Go.Proofs.Ytncgjbocgbnkcaa.Gb
attribute [local go_sem] max2_int min2_int max_two min_two max_three min_three max_four min_four   -- for this text's walks alone
set_option linter.unusedVariables false
set_option linter.unusedSimpArgs false
theorem eqA43 (d : Nat) (w : World) (x0 y0 : Int) (x1 y1 : Int) (x2 y2 : Int) (x3 y3 : Int) :
    (Op.equalIn (d + 2) 43 (.agg #[.int .u64 x0, .int .u64 x1, .int .u64 x2, .int .u64 x3]) (.agg #[.int .u64 y0, .int .u64 y1, .int .u64 y2, .int .u64 y3])).run Try.prog w = .ok (x0 == y0 && (x1 == y1 && (x2 == y2 && (x3 == y3)))) w := by
  refine eqA_of Try.underlying43 (by kernel_rfl) ?_
  refine eqf_cons (by rfl) (by go_simp; rfl) (by go_simp; rfl) (by go_simp) ?_
  refine eqf_cons (by rfl) (by go_simp; rfl) (by go_simp; rfl) (by go_simp) ?_
  refine eqf_cons (by rfl) (by go_simp; rfl) (by go_simp; rfl) (by go_simp) ?_
  exact eqf_last (by rfl) (by go_simp; rfl) (by go_simp; rfl) (by go_simp)
end Go.Proofs.Ytncgjbocgbnkcaa.Ga
namespace Go.Proofs.Ytncgjbocgbnkcaa.Ga
open Go.RowKit Go.Proofs.YtncgjbocgbnkcaaW.PrintWords Go.Proofs.YtncgjbocgbnkcaaW.PrintLast Go.Proofs.YtncgjbocgbnkcaaW.PrintMore Go.Proofs.Ytncgjbocgbnkcaa.Hi Go.Proofs.Ytncgjbocgbnkcaa.Q Go.Proofs.Ytncgjbocgbnkcaa.Gb
attribute [local go_sem] max2_int min2_int max_two min_two max_three min_three max_four min_four   -- for this text's walks alone
set_option linter.unusedVariables false
set_option linter.unusedSimpArgs false
theorem eqA68 (d : Nat) (w : World) (x0 y0 : Int) (x1 y1 : Int) :
    (Op.equalIn (d + 2) 68 (.agg #[.int .i64 x0, .int .u64 x1]) (.agg #[.int .i64 y0, .int .u64 y1])).run Try.prog w = .ok (x0 == y0 && (x1 == y1)) w := by
  refine eqA_of Try.underlying68 (by kernel_rfl) ?_
  refine eqf_cons (by rfl) (by go_simp; rfl) (by go_simp; rfl) (by go_simp) ?_
  exact eqf_last (by rfl) (by go_simp; rfl) (by go_simp; rfl) (by go_simp)
end Go.Proofs.Ytncgjbocgbnkcaa.Ga
namespace Go.Proofs.Ytncgjbocgbnkcaa.Ga
open Go.RowKit Go.Proofs.YtncgjbocgbnkcaaW.PrintWords Go.Proofs.YtncgjbocgbnkcaaW.PrintLast Go.Proofs.YtncgjbocgbnkcaaW.PrintMore Go.Proofs.Ytncgjbocgbnkcaa.Hi Go.Proofs.Ytncgjbocgbnkcaa.Q Go.Proofs.Ytncgjbocgbnkcaa.Gb
attribute [local go_sem] max2_int min2_int max_two min_two max_three min_three max_four min_four   -- for this text's walks alone
set_option linter.unusedVariables false
set_option linter.unusedSimpArgs false
attribute [local go_sem high] eqA43
def gauge_Merge.f (a0_0 : Int) (a0_1 : Int) (a0_2 : Int) (a0_3 : Int) (a1_0 : Int) (a1_1 : Int) (a1_2 : Int) (a1_3 : Int) : Option (Int × Int × Int × Int) :=
  if (0 ≤ a0_0 ∧ a0_0 < 18446744073709551616) ∧ (0 ≤ a0_1 ∧ a0_1 < 18446744073709551616) ∧ (0 ≤ a1_0 ∧ a1_0 < 18446744073709551616) ∧ (0 ≤ a1_1 ∧ a1_1 < 18446744073709551616) then
    (flo_Less.f a1_2 a0_2).bind fun l1 => (flo_Less.f a0_3 a1_3).bind fun l2 =>
      some (hold (a0_0 + a1_0), hold (a0_1 + a1_1), (if (a0_0 == 0) = true then a1_2 else if (a1_0 == 0) = true then a0_2 else if l1 then a1_2 else a0_2), (if (a0_0 == 0) = true then a1_3 else if (a1_0 == 0) = true then a0_3 else if l2 then a1_3 else a0_3))
  else none
theorem gauge_Merge.calls (a0_0 : Int) (a0_1 : Int) (a0_2 : Int) (a0_3 : Int) (a1_0 : Int) (a1_1 : Int) (a1_2 : Int) (a1_3 : Int) (r1 : Int) (r2 : Int) (r3 : Int) (r4 : Int) (w : World) (h : gauge_Merge.f a0_0 a0_1 a0_2 a0_3 a1_0 a1_1 a1_2 a1_3 = some (r1, r2, r3, r4)) :
    Calls Try.prog 88 #[.agg #[.int .u64 a0_0, .int .u64 a0_1, .int .u64 a0_2, .int .u64 a0_3], .agg #[.int .u64 a1_0, .int .u64 a1_1, .int .u64 a1_2, .int .u64 a1_3]] w fun e w' => e = .returned (.agg #[.int .u64 r1, .int .u64 r2, .int .u64 r3, .int .u64 r4]) ∧ Below w.heap.size w w' := by
  unfold gauge_Merge.f at h
  split at h
  case isTrue hr =>
    obtain ⟨l1, e1, h⟩ := Option.bind_eq_some_iff.mp h
    obtain ⟨l2, e2, h⟩ := Option.bind_eq_some_iff.mp h
    simp only [Option.some.injEq, Prod.mk.injEq] at h
    obtain ⟨rfl, rfl, rfl, rfl⟩ := h
    exact gmerge_any a0_0 a0_1 a0_2 a0_3 a1_0 a1_1 a1_2 a1_3 w hr.1 hr.2.1 hr.2.2.1 hr.2.2.2 _ _ l1 l2 rfl rfl e1 e2
  case isFalse => cases h
def gauge_none.f (a0 : Int) : Option (Bool) := if 0 ≤ a0 ∧ a0 < 18446744073709551616 then some (nanB a0) else none
theorem gauge_none.calls (a0 : Int) (r : Bool) (w : World) (h : gauge_none.f a0 = some r) :
    Calls Try.prog 103 #[.int .u64 a0] w fun e w' => e = .returned (.bool r) ∧ Drawn0 w w' := by
  unfold gauge_none.f at h
  split at h
  case isTrue hr =>
    obtain rfl := Option.some.inj h
    exact (none_any a0 w hr.1).mono fun _ _ ⟨he, hw⟩ => ⟨he, by rw [← hw]; exact Drawn0.refl w⟩
  case isFalse => cases h
def gauge_Add.f (a0_0 : Int) (a0_1 : Int) (a0_2 : Int) (a0_3 : Int) (a1 : Int) : Option (Int × Int × Int × Int) := (gauge_none.f a1).bind fun t116 => (if t116 = true then ((Hi.wide_Add.f a0_1 1).bind fun t117 => (some (a0_0, t117, a0_2, a0_3))) else ((gauge_Merge.f a0_0 a0_1 a0_2 a0_3 1 0 a1 a1).bind fun bt118 => (some (bt118.1, bt118.2.1, bt118.2.2.1, bt118.2.2.2))))
theorem two_ (w : World) (oA oB : Obj) : ((w.alloc oA).alloc oB).heap[w.heap.size]? = some oA ∧ ((w.alloc oA).alloc oB).heap[w.heap.size + 1]? = some oB ∧ Below w.heap.size w ((w.alloc oA).alloc oB) := by
  have s1 : (w.alloc oA).heap.size = w.heap.size + 1 := by simp
  exact ⟨blk_alloc (blk_new w _) _, by rw [← s1]; exact blk_new _ _, below_alloc (below_alloc (Below.refl _ _) _) _⟩
set_option maxHeartbeats 2000000 in
set_option maxRecDepth 100000 in
theorem gauge_Add.calls (a0_0 : Int) (a0_1 : Int) (a0_2 : Int) (a0_3 : Int) (a1 : Int) (r1 : Int) (r2 : Int) (r3 : Int) (r4 : Int) (w : World) (h : gauge_Add.f a0_0 a0_1 a0_2 a0_3 a1 = some (r1, r2, r3, r4)) :
    Calls Try.prog 67 #[.agg #[.int .u64 a0_0, .int .u64 a0_1, .int .u64 a0_2, .int .u64 a0_3], .int .u64 a1] w fun e w' => e = .returned (.agg #[.int .u64 r1, .int .u64 r2, .int .u64 r3, .int .u64 r4]) ∧ Below w.heap.size w w' := by
  unfold gauge_Add.f at h
  obtain ⟨t, h1, h⟩ := Option.bind_eq_some_iff.mp h
  have CN := fun w => gauge_none.calls a1 t w h1
  have F := two_ w (.cells #[.int .u64 a0_0, .int .u64 a0_1, .int .u64 a0_2, .int .u64 a0_3] 43) (.cells #[.int .u64 0, .int .u64 0, .int .u64 0, .int .u64 0] 43)
  obtain ⟨W, hW⟩ : ∃ W, (w.alloc (.cells #[.int .u64 a0_0, .int .u64 a0_1, .int .u64 a0_2, .int .u64 a0_3] 43)).alloc (.cells #[.int .u64 0, .int .u64 0, .int .u64 0, .int .u64 0] 43) = W := ⟨_, rfl⟩
  have HW := Lib.hid hW
  rw [hW] at F
  obtain ⟨bA, bR, bL⟩ := F
  have HA := Lib.hid bA; have HR := Lib.hid bR; have HL := Lib.hid bL
  clear h1 hW bA bR bL
  cases t
  · rw [if_neg (by simp)] at h
    obtain ⟨⟨x1, x2, x3, x4⟩, h2, h⟩ := Option.bind_eq_some_iff.mp h
    simp only [Option.some.injEq, Prod.mk.injEq] at h
    obtain ⟨rfl, rfl, rfl, rfl⟩ := h
    have CM := fun w => gauge_Merge.calls a0_0 a0_1 a0_2 a0_3 1 0 a1 a1 x1 x2 x3 x4 w h2
    clear h2
    go_enter Try.func67, Try.ntmps67
    go_wp2_with fail
    rw [HW.out]
    (with_reducible refine (CN _).mono ?_)
    rintro e w1 ⟨rfl, hd⟩
    have gA := blk_below HA.out hd.below; have gR := blk_below HR.out hd.below; have gL := HL.out.trans (hd.below.mono HL.out.size)
    have c0 := blk_cell gA 0; have c1 := blk_cell gA 1; have c2 := blk_cell gA 2; have c3 := blk_cell gA 3
    have HR2 := Lib.hid gR; have HL2 := Lib.hid gL
    clear gA gR gL hd CN
    go_wp2_with fail
    (with_reducible refine (CM _).mono ?_)
    rintro e w2 ⟨rfl, hb⟩
    have gR := blk_below HR2.out hb; have gL := HL2.out.trans (hb.mono HL2.out.size)
    have r0 := blk_cell gR 0; have r1 := blk_cell gR 1; have r2 := blk_cell gR 2; have r3 := blk_cell gR 3
    have f0 := blk_frozen gR 0; have f1 := blk_frozen gR 1; have f2 := blk_frozen gR 2; have f3 := blk_frozen gR 3
    have HR3 := Lib.hid gR; have HL3 := Lib.hid gL
    clear gR gL hb CM c0 c1 c2 c3
    go_wp2
    refine bodyPost_ret (results_cell_row rfl _ _ (w.heap.size + 1) 43 #[.int .u64 x1, .int .u64 x2, .int .u64 x3, .int .u64 x4] (0, 0) _ rfl (by refine blk_put (cs := #[.int .u64 x1, .int .u64 x2, .int .u64 x3, .int .u64 0]) ?_ 3 _ rfl; refine blk_put (cs := #[.int .u64 x1, .int .u64 x2, .int .u64 0, .int .u64 0]) ?_ 2 _ rfl; refine blk_put (cs := #[.int .u64 x1, .int .u64 0, .int .u64 0, .int .u64 0]) ?_ 1 _ rfl; refine blk_put (cs := #[.int .u64 0, .int .u64 0, .int .u64 0, .int .u64 0]) ?_ 0 _ rfl; (with_reducible exact HR3.out)) Try.underlying43 rfl (by kernel_rfl)) rfl ⟨rfl, ?_⟩
    repeat (first | (with_reducible exact HL3.out) | (with_reducible refine below_set ?_ (by omega)))
  · rw [if_pos rfl] at h
    obtain ⟨x, h2, h⟩ := Option.bind_eq_some_iff.mp h
    simp only [Option.some.injEq, Prod.mk.injEq] at h
    obtain ⟨rfl, rfl, rfl, rfl⟩ := h
    have CA := fun w => Hi.wide_Add.calls a0_1 1 x w h2
    clear h2
    go_enter Try.func67, Try.ntmps67
    go_wp2_with fail
    rw [HW.out]
    (with_reducible refine (CN _).mono ?_)
    rintro e w1 ⟨rfl, hd⟩
    have gA := blk_below HA.out hd.below; have gR := blk_below HR.out hd.below; have gL := HL.out.trans (hd.below.mono HL.out.size)
    have c0 := blk_cell gA 0; have c1 := blk_cell gA 1; have c2 := blk_cell gA 2; have c3 := blk_cell gA 3
    have HA2 := Lib.hid gA; have HR2 := Lib.hid gR; have HL2 := Lib.hid gL
    clear gA gR gL hd CN
    go_wp2_with fail
    (with_reducible refine (CA _).mono ?_)
    rintro e w2 ⟨rfl, hd⟩
    have hb := hd.below
    have gA := blk_below HA2.out hb; have gR := blk_below HR2.out hb; have gL := HL2.out.trans (hb.mono HL2.out.size)
    clear c0 c1 c2 c3
    have c0 := blk_cell gA 0; have c1 := blk_cell gA 1; have c2 := blk_cell gA 2; have c3 := blk_cell gA 3
    have fa := blk_frozen gA 1
    have r0 := blk_cell gR 0; have r1 := blk_cell gR 1; have r2 := blk_cell gR 2; have r3 := blk_cell gR 3
    have f0 := blk_frozen gR 0; have f1 := blk_frozen gR 1; have f2 := blk_frozen gR 2; have f3 := blk_frozen gR 3
    have HR3 := Lib.hid gR; have HL3 := Lib.hid gL
    clear gA gR gL hb CA hd
    go_wp2
    refine bodyPost_ret (results_cell_row rfl _ _ (w.heap.size + 1) 43 #[.int .u64 a0_0, .int .u64 x, .int .u64 a0_2, .int .u64 a0_3] (0, 0) _ rfl (by refine blk_put (cs := #[.int .u64 a0_0, .int .u64 x, .int .u64 a0_2, .int .u64 0]) ?_ 3 _ rfl; refine blk_put (cs := #[.int .u64 a0_0, .int .u64 x, .int .u64 0, .int .u64 0]) ?_ 2 _ rfl; refine blk_put (cs := #[.int .u64 a0_0, .int .u64 0, .int .u64 0, .int .u64 0]) ?_ 1 _ rfl; refine blk_put (cs := #[.int .u64 0, .int .u64 0, .int .u64 0, .int .u64 0]) ?_ 0 _ rfl; repeat (first | (with_reducible exact HR3.out) | (with_reducible refine blk_far ?_ (by simp) _))) Try.underlying43 rfl (by kernel_rfl)) rfl ⟨rfl, ?_⟩
    repeat (first | (with_reducible exact HL3.out) | (with_reducible refine below_set ?_ (by omega)))
def gauge_Check.f (a0_0 : Int) (a0_1 : Int) (a0_2 : Int) (a0_3 : Int) : Option (Bool) := if a0_0 = 0 then (some (a0_0 == 0 && (a0_2 == 0 && (a0_3 == 0)))) else ((gauge_none.f a0_2).bind fun t108 => (if t108 = true then (some false) else ((gauge_none.f a0_3).bind fun t109 => (if t109 = true then (some false) else ((flo_Less.f a0_3 a0_2).bind fun t110 => (some (!t110)))))))
set_option maxHeartbeats 8000000 in
set_option maxRecDepth 100000 in
theorem gauge_Check.calls (a0_0 : Int) (a0_1 : Int) (a0_2 : Int) (a0_3 : Int) (r : Bool) (w : World) (h : gauge_Check.f a0_0 a0_1 a0_2 a0_3 = some r) :
    Calls Try.prog 75 #[.agg #[.int .u64 a0_0, .int .u64 a0_1, .int .u64 a0_2, .int .u64 a0_3]] w fun e w' => e = .returned (.bool r) ∧ Below w.heap.size w w' := by
  have hu43 := Try.underlying43
  have HB := Aside0.mk (Below.refl w.heap.size w)
  have H : (if a0_0 = 0 then (some (a0_0 == 0 && (a0_2 == 0 && (a0_3 == 0)))) else ((gauge_none.f a0_2).bind fun t108 => (if t108 = true then (some false) else ((gauge_none.f a0_3).bind fun t109 => (if t109 = true then (some false) else ((flo_Less.f a0_3 a0_2).bind fun t110 => (some (!t110)))))))) = some r := h
  clear h
  by_cases c2 : a0_0 = 0
  · rw [if_pos c2] at H
    have c2b0 : (a0_0 == 0) = true := beq_iff_eq.mpr c2
    have c2b1 : (a0_0 != 0) = false := bne_eq_false_iff_eq.mpr c2
    clear c2
    obtain rfl := Option.some.inj H
    go_enter Try.func75, Try.ntmps75
    go_wp2_with (first | ((with_reducible refine gate_dst (N := 1) rfl ?_); refine box_event ?hg (N := 1) ?hd (cs := #[.int .u64 a0_0, .int .u64 a0_1, .int .u64 a0_2, .int .u64 a0_3]) (t := 43) ?hr ?_; (case hd => rfl); (case hg => rfl); (case hr => first | (go_simp; done) | (go_simp; rfl)); intro gb107 hg w3 hbox hb; have n0_ := Aside0.mk (below_step (by repeat (first | (with_reducible first | exact HB.out | apply below_alloc | apply pw_below_drewN | apply below_drew1) | exact HB.out)) hb); have n1_ := Aside0.mk (hbox); have n2_ := Aside0.mk ((by rw [hg]; exact (below_size (by repeat (first | (with_reducible first | exact HB.out | apply below_alloc | apply pw_below_drewN | apply below_drew1) | exact HB.out))) : w.heap.size ≤ gb107)); have n3_ := Aside0.mk ((by rw [hg]; exact (below_size (by repeat (first | (with_reducible first | exact HB.out | apply below_alloc | apply pw_below_drewN | apply below_drew1) | exact HB.out))) : w.heap.size ≤ gb107)); clear HB; have HB := n0_; have BK107 := n1_; have GW107 := n2_; have GE107 := n3_; clear n0_ n1_ n2_ n3_; clear hb hbox hg; have hcz4_0 : w3.cell? ⟨gb107, 0, none⟩ = some (.int .u64 a0_0) := (blk_cell BK107.out 0).trans rfl; have hcz4_1 : w3.cell? ⟨gb107, 1, none⟩ = some (.int .u64 a0_1) := (blk_cell BK107.out 1).trans rfl; have hcz4_2 : w3.cell? ⟨gb107, 2, none⟩ = some (.int .u64 a0_2) := (blk_cell BK107.out 2).trans rfl; have hcz4_3 : w3.cell? ⟨gb107, 3, none⟩ = some (.int .u64 a0_3) := (blk_cell BK107.out 3).trans rfl; have hfz4_0 := blk_frozen BK107.out 0; have hfz4_1 := blk_frozen BK107.out 1; have hfz4_2 := blk_frozen BK107.out 2; have hfz4_3 := blk_frozen BK107.out 3))
    go_ret
    exact ⟨by first | rfl | (simp [errW_none, errW_some] <;> rfl) | (simp [*, errW_none, errW_some] <;> rfl), by repeat (first | (with_reducible first | exact HB.out | apply below_alloc | apply pw_below_drewN | apply below_drew1 | refine below_set ?_ GE107.out) | exact HB.out)⟩
  · rw [if_neg c2] at H
    have c2b0 : (a0_0 == 0) = false := beq_eq_false_iff_ne.mpr c2
    have c2b1 : (a0_0 != 0) = true := bne_iff_ne.mpr c2
    replace H := Option.bind_eq_some_iff.mp H
    obtain ⟨t108, A50, H⟩ := H
    replace H : (if t108 = true then (some false) else ((gauge_none.f a0_3).bind fun t109 => (if t109 = true then (some false) else ((flo_Less.f a0_3 a0_2).bind fun t110 => (some (!t110)))))) = some r := H
    have A5 := Aside0.mk A50
    clear A50
    by_cases c6 : t108 = true
    · subst c6
      have H1 : (some false) = some r := by rw [if_pos rfl] at H; exact H
      clear H
      have H := H1
      clear H1
      obtain rfl := Option.some.inj H
      go_enter Try.func75, Try.ntmps75
      go_wp2_with (first | ((with_reducible refine gate_dst (N := 1) rfl ?_); refine box_event ?hg (N := 1) ?hd (cs := #[.int .u64 a0_0, .int .u64 a0_1, .int .u64 a0_2, .int .u64 a0_3]) (t := 43) ?hr ?_; (case hd => rfl); (case hg => rfl); (case hr => first | (go_simp; done) | (go_simp; rfl)); intro gb107 hg w7 hbox hb; have n0_ := Aside0.mk (below_step (by repeat (first | (with_reducible first | exact HB.out | apply below_alloc | apply pw_below_drewN | apply below_drew1) | exact HB.out)) hb); have n1_ := Aside0.mk (hbox); have n2_ := Aside0.mk ((by rw [hg]; exact (below_size (by repeat (first | (with_reducible first | exact HB.out | apply below_alloc | apply pw_below_drewN | apply below_drew1) | exact HB.out))) : w.heap.size ≤ gb107)); have n3_ := Aside0.mk ((by rw [hg]; exact (below_size (by repeat (first | (with_reducible first | exact HB.out | apply below_alloc | apply pw_below_drewN | apply below_drew1) | exact HB.out))) : w.heap.size ≤ gb107)); clear HB; have HB := n0_; have BK107 := n1_; have GW107 := n2_; have GE107 := n3_; clear n0_ n1_ n2_ n3_; clear hb hbox hg; have hcz8_0 : w7.cell? ⟨gb107, 0, none⟩ = some (.int .u64 a0_0) := (blk_cell BK107.out 0).trans rfl; have hcz8_1 : w7.cell? ⟨gb107, 1, none⟩ = some (.int .u64 a0_1) := (blk_cell BK107.out 1).trans rfl; have hcz8_2 : w7.cell? ⟨gb107, 2, none⟩ = some (.int .u64 a0_2) := (blk_cell BK107.out 2).trans rfl; have hcz8_3 : w7.cell? ⟨gb107, 3, none⟩ = some (.int .u64 a0_3) := (blk_cell BK107.out 3).trans rfl; have hfz8_0 := blk_frozen BK107.out 0; have hfz8_1 := blk_frozen BK107.out 1; have hfz8_2 := blk_frozen BK107.out 2; have hfz8_3 := blk_frozen BK107.out 3) | ((with_reducible refine gate_callee (f := 103) rfl ?_); refine goesL_ (some 13) rfl rfl Try.func103 (by kernel_rfl) rfl #[.int .u64 a0_2] rfl (by (try simp only [List.map_toArray, List.map_cons, List.map_nil]); first | done | rfl | (simp only [List.length_drop, List.length_take]; rfl)) ?_; (with_reducible refine (gauge_none.calls a0_2 true _ A5.out).mono ?_); rintro e w' ⟨rfl, ⟨nd, rfl⟩⟩; refine ⟨_, rfl, ?_⟩))
      go_ret
      exact ⟨by first | rfl | (simp [errW_none, errW_some] <;> rfl) | (simp [*, errW_none, errW_some] <;> rfl), by repeat (first | (with_reducible first | exact HB.out | apply below_alloc | apply pw_below_drewN | apply below_drew1 | refine below_set ?_ GE107.out) | exact HB.out)⟩
    · replace c6 := Bool.eq_false_iff.mpr c6
      subst c6
      have H1 : ((gauge_none.f a0_3).bind fun t109 => (if t109 = true then (some false) else ((flo_Less.f a0_3 a0_2).bind fun t110 => (some (!t110))))) = some r := by rw [if_neg (show ¬ (false = true) by decide)] at H; exact H
      clear H
      have H := H1
      clear H1
      replace H := Option.bind_eq_some_iff.mp H
      obtain ⟨t109, A90, H⟩ := H
      replace H : (if t109 = true then (some false) else ((flo_Less.f a0_3 a0_2).bind fun t110 => (some (!t110)))) = some r := H
      have A9 := Aside0.mk A90
      clear A90
      by_cases c10 : t109 = true
      · subst c10
        have H1 : (some false) = some r := by rw [if_pos rfl] at H; exact H
        clear H
        have H := H1
        clear H1
        obtain rfl := Option.some.inj H
        go_enter Try.func75, Try.ntmps75
        go_wp2_with (first | ((with_reducible refine gate_dst (N := 1) rfl ?_); refine box_event ?hg (N := 1) ?hd (cs := #[.int .u64 a0_0, .int .u64 a0_1, .int .u64 a0_2, .int .u64 a0_3]) (t := 43) ?hr ?_; (case hd => rfl); (case hg => rfl); (case hr => first | (go_simp; done) | (go_simp; rfl)); intro gb107 hg w11 hbox hb; have n0_ := Aside0.mk (below_step (by repeat (first | (with_reducible first | exact HB.out | apply below_alloc | apply pw_below_drewN | apply below_drew1) | exact HB.out)) hb); have n1_ := Aside0.mk (hbox); have n2_ := Aside0.mk ((by rw [hg]; exact (below_size (by repeat (first | (with_reducible first | exact HB.out | apply below_alloc | apply pw_below_drewN | apply below_drew1) | exact HB.out))) : w.heap.size ≤ gb107)); have n3_ := Aside0.mk ((by rw [hg]; exact (below_size (by repeat (first | (with_reducible first | exact HB.out | apply below_alloc | apply pw_below_drewN | apply below_drew1) | exact HB.out))) : w.heap.size ≤ gb107)); clear HB; have HB := n0_; have BK107 := n1_; have GW107 := n2_; have GE107 := n3_; clear n0_ n1_ n2_ n3_; clear hb hbox hg; have hcz12_0 : w11.cell? ⟨gb107, 0, none⟩ = some (.int .u64 a0_0) := (blk_cell BK107.out 0).trans rfl; have hcz12_1 : w11.cell? ⟨gb107, 1, none⟩ = some (.int .u64 a0_1) := (blk_cell BK107.out 1).trans rfl; have hcz12_2 : w11.cell? ⟨gb107, 2, none⟩ = some (.int .u64 a0_2) := (blk_cell BK107.out 2).trans rfl; have hcz12_3 : w11.cell? ⟨gb107, 3, none⟩ = some (.int .u64 a0_3) := (blk_cell BK107.out 3).trans rfl; have hfz12_0 := blk_frozen BK107.out 0; have hfz12_1 := blk_frozen BK107.out 1; have hfz12_2 := blk_frozen BK107.out 2; have hfz12_3 := blk_frozen BK107.out 3) | ((with_reducible refine gate_callee (f := 103) rfl ?_); refine goesL_ (some 13) rfl rfl Try.func103 (by kernel_rfl) rfl #[.int .u64 a0_2] rfl (by (try simp only [List.map_toArray, List.map_cons, List.map_nil]); first | done | rfl | (simp only [List.length_drop, List.length_take]; rfl)) ?_; (with_reducible refine (gauge_none.calls a0_2 false _ A5.out).mono ?_); rintro e w' ⟨rfl, ⟨nd, rfl⟩⟩; refine ⟨_, rfl, ?_⟩) | (go_at_call 103; (with_reducible refine (gauge_none.calls a0_3 true _ A9.out).mono ?_); rintro e w' ⟨rfl, ⟨nd, rfl⟩⟩))
        go_ret
        exact ⟨by first | rfl | (simp [errW_none, errW_some] <;> rfl) | (simp [*, errW_none, errW_some] <;> rfl), by repeat (first | (with_reducible first | exact HB.out | apply below_alloc | apply pw_below_drewN | apply below_drew1 | refine below_set ?_ GE107.out) | exact HB.out)⟩
      · replace c10 := Bool.eq_false_iff.mpr c10
        subst c10
        have H1 : ((flo_Less.f a0_3 a0_2).bind fun t110 => (some (!t110))) = some r := by rw [if_neg (show ¬ (false = true) by decide)] at H; exact H
        clear H
        have H := H1
        clear H1
        replace H := Option.bind_eq_some_iff.mp H
        obtain ⟨t110, A130, H⟩ := H
        replace H : (some (!t110)) = some r := H
        have A13 := Aside0.mk A130
        clear A130
        obtain rfl := Option.some.inj H
        go_enter Try.func75, Try.ntmps75
        go_wp2_with (first | ((with_reducible refine gate_dst (N := 1) rfl ?_); refine box_event ?hg (N := 1) ?hd (cs := #[.int .u64 a0_0, .int .u64 a0_1, .int .u64 a0_2, .int .u64 a0_3]) (t := 43) ?hr ?_; (case hd => rfl); (case hg => rfl); (case hr => first | (go_simp; done) | (go_simp; rfl)); intro gb107 hg w14 hbox hb; have n0_ := Aside0.mk (below_step (by repeat (first | (with_reducible first | exact HB.out | apply below_alloc | apply pw_below_drewN | apply below_drew1) | exact HB.out)) hb); have n1_ := Aside0.mk (hbox); have n2_ := Aside0.mk ((by rw [hg]; exact (below_size (by repeat (first | (with_reducible first | exact HB.out | apply below_alloc | apply pw_below_drewN | apply below_drew1) | exact HB.out))) : w.heap.size ≤ gb107)); have n3_ := Aside0.mk ((by rw [hg]; exact (below_size (by repeat (first | (with_reducible first | exact HB.out | apply below_alloc | apply pw_below_drewN | apply below_drew1) | exact HB.out))) : w.heap.size ≤ gb107)); clear HB; have HB := n0_; have BK107 := n1_; have GW107 := n2_; have GE107 := n3_; clear n0_ n1_ n2_ n3_; clear hb hbox hg; have hcz15_0 : w14.cell? ⟨gb107, 0, none⟩ = some (.int .u64 a0_0) := (blk_cell BK107.out 0).trans rfl; have hcz15_1 : w14.cell? ⟨gb107, 1, none⟩ = some (.int .u64 a0_1) := (blk_cell BK107.out 1).trans rfl; have hcz15_2 : w14.cell? ⟨gb107, 2, none⟩ = some (.int .u64 a0_2) := (blk_cell BK107.out 2).trans rfl; have hcz15_3 : w14.cell? ⟨gb107, 3, none⟩ = some (.int .u64 a0_3) := (blk_cell BK107.out 3).trans rfl; have hfz15_0 := blk_frozen BK107.out 0; have hfz15_1 := blk_frozen BK107.out 1; have hfz15_2 := blk_frozen BK107.out 2; have hfz15_3 := blk_frozen BK107.out 3) | ((with_reducible refine gate_callee (f := 103) rfl ?_); refine goesL_ (some 13) rfl rfl Try.func103 (by kernel_rfl) rfl #[.int .u64 a0_2] rfl (by (try simp only [List.map_toArray, List.map_cons, List.map_nil]); first | done | rfl | (simp only [List.length_drop, List.length_take]; rfl)) ?_; (with_reducible refine (gauge_none.calls a0_2 false _ A5.out).mono ?_); rintro e w' ⟨rfl, ⟨nd, rfl⟩⟩; refine ⟨_, rfl, ?_⟩) | (go_at_call 103; (with_reducible refine (gauge_none.calls a0_3 false _ A9.out).mono ?_); rintro e w' ⟨rfl, ⟨nd, rfl⟩⟩) | (go_at_call 109; (with_reducible refine (flo_Less.calls a0_3 a0_2 t110 _ A13.out).mono ?_); rintro e w' ⟨rfl, ⟨nd, rfl⟩⟩))
        go_ret
        exact ⟨by first | rfl | (simp [errW_none, errW_some] <;> rfl) | (simp [*, errW_none, errW_some] <;> rfl), by repeat (first | (with_reducible first | exact HB.out | apply below_alloc | apply pw_below_drewN | apply below_drew1 | refine below_set ?_ GE107.out) | exact HB.out)⟩
def varveref09_Merge.f (a0_0 : Int) (a0_1 : Int) (a0_2 : Int) (a0_3 : Int) (a1_0 : Int) (a1_1 : Int) (a1_2 : Int) (a1_3 : Int) : Option (Int × Int × Int × Int) :=
  if (0 ≤ a0_0 ∧ a0_0 < 18446744073709551616) ∧ (0 ≤ a0_1 ∧ a0_1 < 18446744073709551616) ∧ (0 ≤ a1_0 ∧ a1_0 < 18446744073709551616) ∧ (0 ≤ a1_1 ∧ a1_1 < 18446744073709551616) then
    (varveref02_Less.f 1 a1_2 a0_2).bind fun l1 => (varveref02_Less.f 1 a0_3 a1_3).bind fun l2 =>
      some (hold (a0_0 + a1_0), hold (a0_1 + a1_1), (if (a0_0 == 0) = true then a1_2 else if (a1_0 == 0) = true then a0_2 else if l1 then a1_2 else a0_2), (if (a0_0 == 0) = true then a1_3 else if (a1_0 == 0) = true then a0_3 else if l2 then a1_3 else a0_3))
  else none
def varveref09_Add.f (k : Nat) (a0_0 : Int) (a0_1 : Int) (a0_2 : Int) (a0_3 : Int) (a1 : Int) : Option (Int × Int × Int × Int) := (varveref02_Kind.f k a1).bind fun t123 => (if t123 = 4 then ((varveref09_Merge.f a0_0 a0_1 a0_2 a0_3 0 1 0 0).bind fun bt124 => (some (bt124.1, bt124.2.1, bt124.2.2.1, bt124.2.2.2))) else ((varveref09_Merge.f a0_0 a0_1 a0_2 a0_3 1 0 a1 a1).bind fun bt128 => (some (bt128.1, bt128.2.1, bt128.2.2.1, bt128.2.2.2))))
theorem varveref09_Add.mono : ∀ a0 a1 a2 a3 a4 k, LeO (varveref09_Add.f k a0 a1 a2 a3 a4) (varveref09_Add.f (k + 1) a0 a1 a2 a3 a4) := by
  intro a0 a1 a2 a3 a4 k
  unfold varveref09_Add.f
  repeat' first
      | (with_reducible exact varveref02_Kind.mono _ _)
      | (with_reducible exact LeO.refl _)
      | (with_reducible exact LeO.none _)
      | (with_reducible refine LeO.ite ?_ ?_)
      | (with_reducible refine LeO.bind ?_ (fun _ => ?_))
      | exact varveref02_Kind.mono _ _
      | exact LeO.none _
      | refine LeO.ite ?_ ?_
      | refine LeO.bind ?_ (fun _ => ?_)
def varveref09_Check.f (k : Nat) (a0_0 : Int) (a0_1 : Int) (a0_2 : Int) (a0_3 : Int) : Option (Bool) := if a0_0 = 0 then (if a0_2 = 0 then (some (a0_3 == 0)) else (some false)) else ((varveref02_Kind.f k a0_2).bind fun t133 => (if t133 = 4 then (some false) else ((varveref02_Kind.f k a0_3).bind fun t134 => (if t134 = 4 then (some false) else ((varveref02_Less.f k a0_3 a0_2).bind fun t135 => (some (!t135)))))))
theorem varveref09_Check.mono : ∀ a0 a1 a2 a3 k, LeO (varveref09_Check.f k a0 a1 a2 a3) (varveref09_Check.f (k + 1) a0 a1 a2 a3) := by
  intro a0 a1 a2 a3 k
  unfold varveref09_Check.f
  repeat' first
      | (with_reducible exact varveref02_Kind.mono _ _)
      | (with_reducible exact varveref02_Less.mono _ _ _)
      | (with_reducible exact LeO.refl _)
      | (with_reducible exact LeO.none _)
      | (with_reducible refine LeO.ite ?_ ?_)
      | (with_reducible refine LeO.bind ?_ (fun _ => ?_))
      | exact varveref02_Kind.mono _ _
      | exact varveref02_Less.mono _ _ _
      | exact LeO.none _
      | refine LeO.ite ?_ ?_
      | refine LeO.bind ?_ (fun _ => ?_)
set_option maxHeartbeats 8000000 in
set_option maxRecDepth 100000 in
theorem varveref09_Check.calls (k : Nat) (a0_0 : Int) (a0_1 : Int) (a0_2 : Int) (a0_3 : Int) (r : Bool) (w : World) (h : varveref09_Check.f k a0_0 a0_1 a0_2 a0_3 = some r) :
    Calls Try.prog 80 #[.agg #[.int .u64 a0_0, .int .u64 a0_1, .int .u64 a0_2, .int .u64 a0_3]] w fun e w' => e = .returned (.bool r) ∧ Below w.heap.size w w' := by
  have hu43 := Try.underlying43
  have HB := Aside0.mk (Below.refl w.heap.size w)
  have H : (if a0_0 = 0 then (if a0_2 = 0 then (some (a0_3 == 0)) else (some false)) else ((varveref02_Kind.f k a0_2).bind fun t133 => (if t133 = 4 then (some false) else ((varveref02_Kind.f k a0_3).bind fun t134 => (if t134 = 4 then (some false) else ((varveref02_Less.f k a0_3 a0_2).bind fun t135 => (some (!t135)))))))) = some r := h
  clear h
  by_cases c2 : a0_0 = 0
  · rw [if_pos c2] at H
    have c2b0 : (a0_0 == 0) = true := beq_iff_eq.mpr c2
    have c2b1 : (a0_0 != 0) = false := bne_eq_false_iff_eq.mpr c2
    clear c2
    by_cases c3 : a0_2 = 0
    · rw [if_pos c3] at H
      have c3b0 : (a0_2 == 0) = true := beq_iff_eq.mpr c3
      have c3b1 : (a0_2 != 0) = false := bne_eq_false_iff_eq.mpr c3
      clear c3
      obtain rfl := Option.some.inj H
      go_enter Try.func80, Try.ntmps80
      go_wp2_with (first | ((with_reducible refine gate_dst (N := 1) rfl ?_); refine box_event ?hg (N := 1) ?hd (cs := #[.int .u64 a0_0, .int .u64 a0_1, .int .u64 a0_2, .int .u64 a0_3]) (t := 43) ?hr ?_; (case hd => rfl); (case hg => rfl); (case hr => first | (go_simp; done) | (go_simp; rfl)); intro gb132 hg w4 hbox hb; have n0_ := Aside0.mk (below_step (by repeat (first | (with_reducible first | exact HB.out | apply below_alloc | apply pw_below_drewN | apply below_drew1) | exact HB.out)) hb); have n1_ := Aside0.mk (hbox); have n2_ := Aside0.mk ((by rw [hg]; exact (below_size (by repeat (first | (with_reducible first | exact HB.out | apply below_alloc | apply pw_below_drewN | apply below_drew1) | exact HB.out))) : w.heap.size ≤ gb132)); have n3_ := Aside0.mk ((by rw [hg]; exact (below_size (by repeat (first | (with_reducible first | exact HB.out | apply below_alloc | apply pw_below_drewN | apply below_drew1) | exact HB.out))) : w.heap.size ≤ gb132)); clear HB; have HB := n0_; have BK132 := n1_; have GW132 := n2_; have GE132 := n3_; clear n0_ n1_ n2_ n3_; clear hb hbox hg; have hcz5_0 : w4.cell? ⟨gb132, 0, none⟩ = some (.int .u64 a0_0) := (blk_cell BK132.out 0).trans rfl; have hcz5_1 : w4.cell? ⟨gb132, 1, none⟩ = some (.int .u64 a0_1) := (blk_cell BK132.out 1).trans rfl; have hcz5_2 : w4.cell? ⟨gb132, 2, none⟩ = some (.int .u64 a0_2) := (blk_cell BK132.out 2).trans rfl; have hcz5_3 : w4.cell? ⟨gb132, 3, none⟩ = some (.int .u64 a0_3) := (blk_cell BK132.out 3).trans rfl; have hfz5_0 := blk_frozen BK132.out 0; have hfz5_1 := blk_frozen BK132.out 1; have hfz5_2 := blk_frozen BK132.out 2; have hfz5_3 := blk_frozen BK132.out 3))
      go_ret
      exact ⟨by first | rfl | (simp [errW_none, errW_some] <;> rfl) | (simp [*, errW_none, errW_some] <;> rfl), by repeat (first | (with_reducible first | exact HB.out | apply below_alloc | apply pw_below_drewN | apply below_drew1 | refine below_set ?_ GE132.out) | exact HB.out)⟩
    · rw [if_neg c3] at H
      have c3b0 : (a0_2 == 0) = false := beq_eq_false_iff_ne.mpr c3
      have c3b1 : (a0_2 != 0) = true := bne_iff_ne.mpr c3
      obtain rfl := Option.some.inj H
      go_enter Try.func80, Try.ntmps80
      go_wp2_with (first | ((with_reducible refine gate_dst (N := 1) rfl ?_); refine box_event ?hg (N := 1) ?hd (cs := #[.int .u64 a0_0, .int .u64 a0_1, .int .u64 a0_2, .int .u64 a0_3]) (t := 43) ?hr ?_; (case hd => rfl); (case hg => rfl); (case hr => first | (go_simp; done) | (go_simp; rfl)); intro gb132 hg w6 hbox hb; have n0_ := Aside0.mk (below_step (by repeat (first | (with_reducible first | exact HB.out | apply below_alloc | apply pw_below_drewN | apply below_drew1) | exact HB.out)) hb); have n1_ := Aside0.mk (hbox); have n2_ := Aside0.mk ((by rw [hg]; exact (below_size (by repeat (first | (with_reducible first | exact HB.out | apply below_alloc | apply pw_below_drewN | apply below_drew1) | exact HB.out))) : w.heap.size ≤ gb132)); have n3_ := Aside0.mk ((by rw [hg]; exact (below_size (by repeat (first | (with_reducible first | exact HB.out | apply below_alloc | apply pw_below_drewN | apply below_drew1) | exact HB.out))) : w.heap.size ≤ gb132)); clear HB; have HB := n0_; have BK132 := n1_; have GW132 := n2_; have GE132 := n3_; clear n0_ n1_ n2_ n3_; clear hb hbox hg; have hcz7_0 : w6.cell? ⟨gb132, 0, none⟩ = some (.int .u64 a0_0) := (blk_cell BK132.out 0).trans rfl; have hcz7_1 : w6.cell? ⟨gb132, 1, none⟩ = some (.int .u64 a0_1) := (blk_cell BK132.out 1).trans rfl; have hcz7_2 : w6.cell? ⟨gb132, 2, none⟩ = some (.int .u64 a0_2) := (blk_cell BK132.out 2).trans rfl; have hcz7_3 : w6.cell? ⟨gb132, 3, none⟩ = some (.int .u64 a0_3) := (blk_cell BK132.out 3).trans rfl; have hfz7_0 := blk_frozen BK132.out 0; have hfz7_1 := blk_frozen BK132.out 1; have hfz7_2 := blk_frozen BK132.out 2; have hfz7_3 := blk_frozen BK132.out 3))
      go_ret
      exact ⟨by first | rfl | (simp [errW_none, errW_some] <;> rfl) | (simp [*, errW_none, errW_some] <;> rfl), by repeat (first | (with_reducible first | exact HB.out | apply below_alloc | apply pw_below_drewN | apply below_drew1 | refine below_set ?_ GE132.out) | exact HB.out)⟩
  · rw [if_neg c2] at H
    have c2b0 : (a0_0 == 0) = false := beq_eq_false_iff_ne.mpr c2
    have c2b1 : (a0_0 != 0) = true := bne_iff_ne.mpr c2
    replace H := Option.bind_eq_some_iff.mp H
    obtain ⟨t133, A80, H⟩ := H
    replace H : (if t133 = 4 then (some false) else ((varveref02_Kind.f k a0_3).bind fun t134 => (if t134 = 4 then (some false) else ((varveref02_Less.f k a0_3 a0_2).bind fun t135 => (some (!t135)))))) = some r := H
    have A8 := Aside0.mk A80
    clear A80
    by_cases c9 : t133 = 4
    · rw [if_pos c9] at H
      have c9b0 : (t133 == 4) = true := beq_iff_eq.mpr c9
      have c9b1 : (t133 != 4) = false := bne_eq_false_iff_eq.mpr c9
      clear c9
      obtain rfl := Option.some.inj H
      go_enter Try.func80, Try.ntmps80
      go_wp2_with (first | ((with_reducible refine gate_dst (N := 1) rfl ?_); refine box_event ?hg (N := 1) ?hd (cs := #[.int .u64 a0_0, .int .u64 a0_1, .int .u64 a0_2, .int .u64 a0_3]) (t := 43) ?hr ?_; (case hd => rfl); (case hg => rfl); (case hr => first | (go_simp; done) | (go_simp; rfl)); intro gb132 hg w10 hbox hb; have n0_ := Aside0.mk (below_step (by repeat (first | (with_reducible first | exact HB.out | apply below_alloc | apply pw_below_drewN | apply below_drew1) | exact HB.out)) hb); have n1_ := Aside0.mk (hbox); have n2_ := Aside0.mk ((by rw [hg]; exact (below_size (by repeat (first | (with_reducible first | exact HB.out | apply below_alloc | apply pw_below_drewN | apply below_drew1) | exact HB.out))) : w.heap.size ≤ gb132)); have n3_ := Aside0.mk ((by rw [hg]; exact (below_size (by repeat (first | (with_reducible first | exact HB.out | apply below_alloc | apply pw_below_drewN | apply below_drew1) | exact HB.out))) : w.heap.size ≤ gb132)); clear HB; have HB := n0_; have BK132 := n1_; have GW132 := n2_; have GE132 := n3_; clear n0_ n1_ n2_ n3_; clear hb hbox hg; have hcz11_0 : w10.cell? ⟨gb132, 0, none⟩ = some (.int .u64 a0_0) := (blk_cell BK132.out 0).trans rfl; have hcz11_1 : w10.cell? ⟨gb132, 1, none⟩ = some (.int .u64 a0_1) := (blk_cell BK132.out 1).trans rfl; have hcz11_2 : w10.cell? ⟨gb132, 2, none⟩ = some (.int .u64 a0_2) := (blk_cell BK132.out 2).trans rfl; have hcz11_3 : w10.cell? ⟨gb132, 3, none⟩ = some (.int .u64 a0_3) := (blk_cell BK132.out 3).trans rfl; have hfz11_0 := blk_frozen BK132.out 0; have hfz11_1 := blk_frozen BK132.out 1; have hfz11_2 := blk_frozen BK132.out 2; have hfz11_3 := blk_frozen BK132.out 3) | ((with_reducible refine gate_callee (f := 108) rfl ?_); refine goesL_ (some 16) rfl rfl Try.func108 (by kernel_rfl) rfl #[.int .u64 a0_2] rfl (by (try simp only [List.map_toArray, List.map_cons, List.map_nil]); first | done | rfl | (simp only [List.length_drop, List.length_take]; rfl)) ?_; (with_reducible refine (varveref02_Kind.calls k a0_2 t133 _ A8.out).mono ?_); rintro e w' ⟨rfl, ⟨nd, rfl⟩⟩; refine ⟨_, rfl, ?_⟩))
      go_ret
      exact ⟨by first | rfl | (simp [errW_none, errW_some] <;> rfl) | (simp [*, errW_none, errW_some] <;> rfl), by repeat (first | (with_reducible first | exact HB.out | apply below_alloc | apply pw_below_drewN | apply below_drew1 | refine below_set ?_ GE132.out) | exact HB.out)⟩
    · rw [if_neg c9] at H
      have c9b0 : (t133 == 4) = false := beq_eq_false_iff_ne.mpr c9
      have c9b1 : (t133 != 4) = true := bne_iff_ne.mpr c9
      replace H := Option.bind_eq_some_iff.mp H
      obtain ⟨t134, A120, H⟩ := H
      replace H : (if t134 = 4 then (some false) else ((varveref02_Less.f k a0_3 a0_2).bind fun t135 => (some (!t135)))) = some r := H
      have A12 := Aside0.mk A120
      clear A120
      by_cases c13 : t134 = 4
      · rw [if_pos c13] at H
        have c13b0 : (t134 == 4) = true := beq_iff_eq.mpr c13
        have c13b1 : (t134 != 4) = false := bne_eq_false_iff_eq.mpr c13
        clear c13
        obtain rfl := Option.some.inj H
        go_enter Try.func80, Try.ntmps80
        go_wp2_with (first | ((with_reducible refine gate_dst (N := 1) rfl ?_); refine box_event ?hg (N := 1) ?hd (cs := #[.int .u64 a0_0, .int .u64 a0_1, .int .u64 a0_2, .int .u64 a0_3]) (t := 43) ?hr ?_; (case hd => rfl); (case hg => rfl); (case hr => first | (go_simp; done) | (go_simp; rfl)); intro gb132 hg w14 hbox hb; have n0_ := Aside0.mk (below_step (by repeat (first | (with_reducible first | exact HB.out | apply below_alloc | apply pw_below_drewN | apply below_drew1) | exact HB.out)) hb); have n1_ := Aside0.mk (hbox); have n2_ := Aside0.mk ((by rw [hg]; exact (below_size (by repeat (first | (with_reducible first | exact HB.out | apply below_alloc | apply pw_below_drewN | apply below_drew1) | exact HB.out))) : w.heap.size ≤ gb132)); have n3_ := Aside0.mk ((by rw [hg]; exact (below_size (by repeat (first | (with_reducible first | exact HB.out | apply below_alloc | apply pw_below_drewN | apply below_drew1) | exact HB.out))) : w.heap.size ≤ gb132)); clear HB; have HB := n0_; have BK132 := n1_; have GW132 := n2_; have GE132 := n3_; clear n0_ n1_ n2_ n3_; clear hb hbox hg; have hcz15_0 : w14.cell? ⟨gb132, 0, none⟩ = some (.int .u64 a0_0) := (blk_cell BK132.out 0).trans rfl; have hcz15_1 : w14.cell? ⟨gb132, 1, none⟩ = some (.int .u64 a0_1) := (blk_cell BK132.out 1).trans rfl; have hcz15_2 : w14.cell? ⟨gb132, 2, none⟩ = some (.int .u64 a0_2) := (blk_cell BK132.out 2).trans rfl; have hcz15_3 : w14.cell? ⟨gb132, 3, none⟩ = some (.int .u64 a0_3) := (blk_cell BK132.out 3).trans rfl; have hfz15_0 := blk_frozen BK132.out 0; have hfz15_1 := blk_frozen BK132.out 1; have hfz15_2 := blk_frozen BK132.out 2; have hfz15_3 := blk_frozen BK132.out 3) | ((with_reducible refine gate_callee (f := 108) rfl ?_); refine goesL_ (some 16) rfl rfl Try.func108 (by kernel_rfl) rfl #[.int .u64 a0_2] rfl (by (try simp only [List.map_toArray, List.map_cons, List.map_nil]); first | done | rfl | (simp only [List.length_drop, List.length_take]; rfl)) ?_; (with_reducible refine (varveref02_Kind.calls k a0_2 t133 _ A8.out).mono ?_); rintro e w' ⟨rfl, ⟨nd, rfl⟩⟩; refine ⟨_, rfl, ?_⟩) | (go_at_call 108; (with_reducible refine (varveref02_Kind.calls k a0_3 t134 _ A12.out).mono ?_); rintro e w' ⟨rfl, ⟨nd, rfl⟩⟩))
        go_ret
        exact ⟨by first | rfl | (simp [errW_none, errW_some] <;> rfl) | (simp [*, errW_none, errW_some] <;> rfl), by repeat (first | (with_reducible first | exact HB.out | apply below_alloc | apply pw_below_drewN | apply below_drew1 | refine below_set ?_ GE132.out) | exact HB.out)⟩
      · rw [if_neg c13] at H
        have c13b0 : (t134 == 4) = false := beq_eq_false_iff_ne.mpr c13
        have c13b1 : (t134 != 4) = true := bne_iff_ne.mpr c13
        replace H := Option.bind_eq_some_iff.mp H
        obtain ⟨t135, A160, H⟩ := H
        replace H : (some (!t135)) = some r := H
        have A16 := Aside0.mk A160
        clear A160
        obtain rfl := Option.some.inj H
        go_enter Try.func80, Try.ntmps80
        go_wp2_with (first | ((with_reducible refine gate_dst (N := 1) rfl ?_); refine box_event ?hg (N := 1) ?hd (cs := #[.int .u64 a0_0, .int .u64 a0_1, .int .u64 a0_2, .int .u64 a0_3]) (t := 43) ?hr ?_; (case hd => rfl); (case hg => rfl); (case hr => first | (go_simp; done) | (go_simp; rfl)); intro gb132 hg w17 hbox hb; have n0_ := Aside0.mk (below_step (by repeat (first | (with_reducible first | exact HB.out | apply below_alloc | apply pw_below_drewN | apply below_drew1) | exact HB.out)) hb); have n1_ := Aside0.mk (hbox); have n2_ := Aside0.mk ((by rw [hg]; exact (below_size (by repeat (first | (with_reducible first | exact HB.out | apply below_alloc | apply pw_below_drewN | apply below_drew1) | exact HB.out))) : w.heap.size ≤ gb132)); have n3_ := Aside0.mk ((by rw [hg]; exact (below_size (by repeat (first | (with_reducible first | exact HB.out | apply below_alloc | apply pw_below_drewN | apply below_drew1) | exact HB.out))) : w.heap.size ≤ gb132)); clear HB; have HB := n0_; have BK132 := n1_; have GW132 := n2_; have GE132 := n3_; clear n0_ n1_ n2_ n3_; clear hb hbox hg; have hcz18_0 : w17.cell? ⟨gb132, 0, none⟩ = some (.int .u64 a0_0) := (blk_cell BK132.out 0).trans rfl; have hcz18_1 : w17.cell? ⟨gb132, 1, none⟩ = some (.int .u64 a0_1) := (blk_cell BK132.out 1).trans rfl; have hcz18_2 : w17.cell? ⟨gb132, 2, none⟩ = some (.int .u64 a0_2) := (blk_cell BK132.out 2).trans rfl; have hcz18_3 : w17.cell? ⟨gb132, 3, none⟩ = some (.int .u64 a0_3) := (blk_cell BK132.out 3).trans rfl; have hfz18_0 := blk_frozen BK132.out 0; have hfz18_1 := blk_frozen BK132.out 1; have hfz18_2 := blk_frozen BK132.out 2; have hfz18_3 := blk_frozen BK132.out 3) | ((with_reducible refine gate_callee (f := 108) rfl ?_); refine goesL_ (some 16) rfl rfl Try.func108 (by kernel_rfl) rfl #[.int .u64 a0_2] rfl (by (try simp only [List.map_toArray, List.map_cons, List.map_nil]); first | done | rfl | (simp only [List.length_drop, List.length_take]; rfl)) ?_; (with_reducible refine (varveref02_Kind.calls k a0_2 t133 _ A8.out).mono ?_); rintro e w' ⟨rfl, ⟨nd, rfl⟩⟩; refine ⟨_, rfl, ?_⟩) | (go_at_call 108; (with_reducible refine (varveref02_Kind.calls k a0_3 t134 _ A12.out).mono ?_); rintro e w' ⟨rfl, ⟨nd, rfl⟩⟩) | (go_at_call 113; (with_reducible refine (varveref02_Less.calls k a0_3 a0_2 t135 _ A16.out).mono ?_); rintro e w' ⟨rfl, ⟨nd, rfl⟩⟩))
        go_ret
        exact ⟨by first | rfl | (simp [errW_none, errW_some] <;> rfl) | (simp [*, errW_none, errW_some] <;> rfl), by repeat (first | (with_reducible first | exact HB.out | apply below_alloc | apply pw_below_drewN | apply below_drew1 | refine below_set ?_ GE132.out) | exact HB.out)⟩
def pair_Empty.f (l0_0 : List (S68)) (l0_1 : List Int) (a0_2 : Int) (a0_3 : Int) (a0_4 : Int) (a0_5 : Int) : Option (Bool) := if (l0_0.length : Int) = 0 then (if (l0_1.length : Int) = 0 then (if a0_2 = 0 then (some (a0_3 == 0)) else (some false)) else (some false)) else (some false)
set_option maxHeartbeats 8000000 in
set_option maxRecDepth 100000 in
theorem pair_Empty.calls (A0_0 : Option Addr) (c0_0 : Nat) (l0_0 : List (S68)) (A0_1 : Option Addr) (c0_1 : Nat) (l0_1 : List Int) (a0_2 : Int) (a0_3 : Int) (a0_4 : Int) (a0_5 : Int) (r : Bool) (w : World) (hr0_0 : Kd.C k68 w A0_0 l0_0.length l0_0) (hc0_0 : l0_0.length ≤ c0_0) (hr0_1 : Kd.C (Kd.int .u64) w A0_1 l0_1.length l0_1) (hc0_1 : l0_1.length ≤ c0_1) (h : pair_Empty.f l0_0 l0_1 a0_2 a0_3 a0_4 a0_5 = some r) :
    Calls Try.prog 30 #[.agg #[.slice A0_0 l0_0.length c0_0, .slice A0_1 l0_1.length c0_1, .int .u64 a0_2, .int .u64 a0_3, .int .u64 a0_4, .int .u64 a0_5]] w fun e w' => e = .returned (.bool r) ∧ Below w.heap.size w w' := by
  have hu45 := Try.underlying45
  have HR0_0 := Aside0.mk hr0_0
  have HC0_0 := Aside0.mk hc0_0
  clear hr0_0 hc0_0
  have HR0_1 := Aside0.mk hr0_1
  have HC0_1 := Aside0.mk hc0_1
  clear hr0_1 hc0_1
  have HB := Aside0.mk (Below.refl w.heap.size w)
  have H : (if (l0_0.length : Int) = 0 then (if (l0_1.length : Int) = 0 then (if a0_2 = 0 then (some (a0_3 == 0)) else (some false)) else (some false)) else (some false)) = some r := h
  clear h
  by_cases c2 : (l0_0.length : Int) = 0
  · rw [if_pos c2] at H
    have c2b0 : ((l0_0.length : Int) == 0) = true := beq_iff_eq.mpr c2
    have c2b1 : ((l0_0.length : Int) != 0) = false := bne_eq_false_iff_eq.mpr c2
    clear c2
    by_cases c3 : (l0_1.length : Int) = 0
    · rw [if_pos c3] at H
      have c3b0 : ((l0_1.length : Int) == 0) = true := beq_iff_eq.mpr c3
      have c3b1 : ((l0_1.length : Int) != 0) = false := bne_eq_false_iff_eq.mpr c3
      clear c3
      by_cases c4 : a0_2 = 0
      · rw [if_pos c4] at H
        have c4b0 : (a0_2 == 0) = true := beq_iff_eq.mpr c4
        have c4b1 : (a0_2 != 0) = false := bne_eq_false_iff_eq.mpr c4
        clear c4
        obtain rfl := Option.some.inj H
        go_enter Try.func30, Try.ntmps30
        go_wp2_with (first | ((with_reducible refine gate_dst (N := 1) rfl ?_); (try (refine gate_guard (by rfl) ?_; dsimp only)); refine box_event ?hg (N := 1) ?hd (cs := #[.slice A0_0 l0_0.length c0_0, .slice A0_1 l0_1.length c0_1, .int .u64 a0_2, .int .u64 a0_3, .int .u64 a0_4, .int .u64 a0_5]) (t := 45) ?hr ?_; (case hd => rfl); (case hg => rfl); (case hr => first | (go_simp; done) | (go_simp; rfl)); intro gb136 hg w5 hbox hb; have n0_ := Aside0.mk (below_step (by repeat (first | (with_reducible first | exact HB.out | apply below_alloc | apply pw_below_drewN | apply below_drew1) | exact HB.out)) hb); have n1_ := Aside0.mk (hbox); have n2_ := Aside0.mk ((by rw [hg]; exact (below_size (by repeat (first | (with_reducible first | exact HB.out | apply below_alloc | apply pw_below_drewN | apply below_drew1) | exact HB.out))) : w.heap.size ≤ gb136)); have n3_ := Aside0.mk ((by rw [hg]; exact (below_size (by repeat (first | (with_reducible first | exact HB.out | apply below_alloc | apply pw_below_drewN | apply below_drew1) | exact HB.out))) : w.heap.size ≤ gb136)); clear HB; have HB := n0_; have BK136 := n1_; have GW136 := n2_; have GE136 := n3_; clear n0_ n1_ n2_ n3_; clear hb hbox hg; have hcz6_0 : w5.cell? ⟨gb136, 0, none⟩ = some (.slice A0_0 l0_0.length c0_0) := (blk_cell BK136.out 0).trans rfl; have hcz6_1 : w5.cell? ⟨gb136, 1, none⟩ = some (.slice A0_1 l0_1.length c0_1) := (blk_cell BK136.out 1).trans rfl; have hcz6_2 : w5.cell? ⟨gb136, 2, none⟩ = some (.int .u64 a0_2) := (blk_cell BK136.out 2).trans rfl; have hcz6_3 : w5.cell? ⟨gb136, 3, none⟩ = some (.int .u64 a0_3) := (blk_cell BK136.out 3).trans rfl; have hcz6_4 : w5.cell? ⟨gb136, 4, none⟩ = some (.int .u64 a0_4) := (blk_cell BK136.out 4).trans rfl; have hcz6_5 : w5.cell? ⟨gb136, 5, none⟩ = some (.int .u64 a0_5) := (blk_cell BK136.out 5).trans rfl; have hfz6_0 := blk_frozen BK136.out 0; have hfz6_1 := blk_frozen BK136.out 1; have hfz6_2 := blk_frozen BK136.out 2; have hfz6_3 := blk_frozen BK136.out 3; have hfz6_4 := blk_frozen BK136.out 4; have hfz6_5 := blk_frozen BK136.out 5))
        go_ret
        exact ⟨by first | rfl | (simp [errW_none, errW_some] <;> rfl) | (simp [*, errW_none, errW_some] <;> rfl), by repeat (first | (with_reducible first | exact HB.out | apply below_alloc | apply pw_below_drewN | apply below_drew1 | refine below_set ?_ GE136.out) | exact HB.out)⟩
      · rw [if_neg c4] at H
        have c4b0 : (a0_2 == 0) = false := beq_eq_false_iff_ne.mpr c4
        have c4b1 : (a0_2 != 0) = true := bne_iff_ne.mpr c4
        obtain rfl := Option.some.inj H
        go_enter Try.func30, Try.ntmps30
        go_wp2_with (first | ((with_reducible refine gate_dst (N := 1) rfl ?_); (try (refine gate_guard (by rfl) ?_; dsimp only)); refine box_event ?hg (N := 1) ?hd (cs := #[.slice A0_0 l0_0.length c0_0, .slice A0_1 l0_1.length c0_1, .int .u64 a0_2, .int .u64 a0_3, .int .u64 a0_4, .int .u64 a0_5]) (t := 45) ?hr ?_; (case hd => rfl); (case hg => rfl); (case hr => first | (go_simp; done) | (go_simp; rfl)); intro gb136 hg w7 hbox hb; have n0_ := Aside0.mk (below_step (by repeat (first | (with_reducible first | exact HB.out | apply below_alloc | apply pw_below_drewN | apply below_drew1) | exact HB.out)) hb); have n1_ := Aside0.mk (hbox); have n2_ := Aside0.mk ((by rw [hg]; exact (below_size (by repeat (first | (with_reducible first | exact HB.out | apply below_alloc | apply pw_below_drewN | apply below_drew1) | exact HB.out))) : w.heap.size ≤ gb136)); have n3_ := Aside0.mk ((by rw [hg]; exact (below_size (by repeat (first | (with_reducible first | exact HB.out | apply below_alloc | apply pw_below_drewN | apply below_drew1) | exact HB.out))) : w.heap.size ≤ gb136)); clear HB; have HB := n0_; have BK136 := n1_; have GW136 := n2_; have GE136 := n3_; clear n0_ n1_ n2_ n3_; clear hb hbox hg; have hcz8_0 : w7.cell? ⟨gb136, 0, none⟩ = some (.slice A0_0 l0_0.length c0_0) := (blk_cell BK136.out 0).trans rfl; have hcz8_1 : w7.cell? ⟨gb136, 1, none⟩ = some (.slice A0_1 l0_1.length c0_1) := (blk_cell BK136.out 1).trans rfl; have hcz8_2 : w7.cell? ⟨gb136, 2, none⟩ = some (.int .u64 a0_2) := (blk_cell BK136.out 2).trans rfl; have hcz8_3 : w7.cell? ⟨gb136, 3, none⟩ = some (.int .u64 a0_3) := (blk_cell BK136.out 3).trans rfl; have hcz8_4 : w7.cell? ⟨gb136, 4, none⟩ = some (.int .u64 a0_4) := (blk_cell BK136.out 4).trans rfl; have hcz8_5 : w7.cell? ⟨gb136, 5, none⟩ = some (.int .u64 a0_5) := (blk_cell BK136.out 5).trans rfl; have hfz8_0 := blk_frozen BK136.out 0; have hfz8_1 := blk_frozen BK136.out 1; have hfz8_2 := blk_frozen BK136.out 2; have hfz8_3 := blk_frozen BK136.out 3; have hfz8_4 := blk_frozen BK136.out 4; have hfz8_5 := blk_frozen BK136.out 5))
        go_ret
        exact ⟨by first | rfl | (simp [errW_none, errW_some] <;> rfl) | (simp [*, errW_none, errW_some] <;> rfl), by repeat (first | (with_reducible first | exact HB.out | apply below_alloc | apply pw_below_drewN | apply below_drew1 | refine below_set ?_ GE136.out) | exact HB.out)⟩
    · rw [if_neg c3] at H
      have c3b0 : ((l0_1.length : Int) == 0) = false := beq_eq_false_iff_ne.mpr c3
      have c3b1 : ((l0_1.length : Int) != 0) = true := bne_iff_ne.mpr c3
      have c3b2 : ¬ (l0_1 = []) := fun h_ => c3 (by rw [h_]; rfl)
      obtain rfl := Option.some.inj H
      go_enter Try.func30, Try.ntmps30
      go_wp2_with (first | ((with_reducible refine gate_dst (N := 1) rfl ?_); (try (refine gate_guard (by rfl) ?_; dsimp only)); refine box_event ?hg (N := 1) ?hd (cs := #[.slice A0_0 l0_0.length c0_0, .slice A0_1 l0_1.length c0_1, .int .u64 a0_2, .int .u64 a0_3, .int .u64 a0_4, .int .u64 a0_5]) (t := 45) ?hr ?_; (case hd => rfl); (case hg => rfl); (case hr => first | (go_simp; done) | (go_simp; rfl)); intro gb136 hg w9 hbox hb; have n0_ := Aside0.mk (below_step (by repeat (first | (with_reducible first | exact HB.out | apply below_alloc | apply pw_below_drewN | apply below_drew1) | exact HB.out)) hb); have n1_ := Aside0.mk (hbox); have n2_ := Aside0.mk ((by rw [hg]; exact (below_size (by repeat (first | (with_reducible first | exact HB.out | apply below_alloc | apply pw_below_drewN | apply below_drew1) | exact HB.out))) : w.heap.size ≤ gb136)); have n3_ := Aside0.mk ((by rw [hg]; exact (below_size (by repeat (first | (with_reducible first | exact HB.out | apply below_alloc | apply pw_below_drewN | apply below_drew1) | exact HB.out))) : w.heap.size ≤ gb136)); clear HB; have HB := n0_; have BK136 := n1_; have GW136 := n2_; have GE136 := n3_; clear n0_ n1_ n2_ n3_; clear hb hbox hg; have hcz10_0 : w9.cell? ⟨gb136, 0, none⟩ = some (.slice A0_0 l0_0.length c0_0) := (blk_cell BK136.out 0).trans rfl; have hcz10_1 : w9.cell? ⟨gb136, 1, none⟩ = some (.slice A0_1 l0_1.length c0_1) := (blk_cell BK136.out 1).trans rfl; have hcz10_2 : w9.cell? ⟨gb136, 2, none⟩ = some (.int .u64 a0_2) := (blk_cell BK136.out 2).trans rfl; have hcz10_3 : w9.cell? ⟨gb136, 3, none⟩ = some (.int .u64 a0_3) := (blk_cell BK136.out 3).trans rfl; have hcz10_4 : w9.cell? ⟨gb136, 4, none⟩ = some (.int .u64 a0_4) := (blk_cell BK136.out 4).trans rfl; have hcz10_5 : w9.cell? ⟨gb136, 5, none⟩ = some (.int .u64 a0_5) := (blk_cell BK136.out 5).trans rfl; have hfz10_0 := blk_frozen BK136.out 0; have hfz10_1 := blk_frozen BK136.out 1; have hfz10_2 := blk_frozen BK136.out 2; have hfz10_3 := blk_frozen BK136.out 3; have hfz10_4 := blk_frozen BK136.out 4; have hfz10_5 := blk_frozen BK136.out 5))
      go_ret
      exact ⟨by first | rfl | (simp [errW_none, errW_some] <;> rfl) | (simp [*, errW_none, errW_some] <;> rfl), by repeat (first | (with_reducible first | exact HB.out | apply below_alloc | apply pw_below_drewN | apply below_drew1 | refine below_set ?_ GE136.out) | exact HB.out)⟩
  · rw [if_neg c2] at H
    have c2b0 : ((l0_0.length : Int) == 0) = false := beq_eq_false_iff_ne.mpr c2
    have c2b1 : ((l0_0.length : Int) != 0) = true := bne_iff_ne.mpr c2
    have c2b2 : ¬ (l0_0 = []) := fun h_ => c2 (by rw [h_]; rfl)
    obtain rfl := Option.some.inj H
    go_enter Try.func30, Try.ntmps30
    go_wp2_with (first | ((with_reducible refine gate_dst (N := 1) rfl ?_); (try (refine gate_guard (by rfl) ?_; dsimp only)); refine box_event ?hg (N := 1) ?hd (cs := #[.slice A0_0 l0_0.length c0_0, .slice A0_1 l0_1.length c0_1, .int .u64 a0_2, .int .u64 a0_3, .int .u64 a0_4, .int .u64 a0_5]) (t := 45) ?hr ?_; (case hd => rfl); (case hg => rfl); (case hr => first | (go_simp; done) | (go_simp; rfl)); intro gb136 hg w11 hbox hb; have n0_ := Aside0.mk (below_step (by repeat (first | (with_reducible first | exact HB.out | apply below_alloc | apply pw_below_drewN | apply below_drew1) | exact HB.out)) hb); have n1_ := Aside0.mk (hbox); have n2_ := Aside0.mk ((by rw [hg]; exact (below_size (by repeat (first | (with_reducible first | exact HB.out | apply below_alloc | apply pw_below_drewN | apply below_drew1) | exact HB.out))) : w.heap.size ≤ gb136)); have n3_ := Aside0.mk ((by rw [hg]; exact (below_size (by repeat (first | (with_reducible first | exact HB.out | apply below_alloc | apply pw_below_drewN | apply below_drew1) | exact HB.out))) : w.heap.size ≤ gb136)); clear HB; have HB := n0_; have BK136 := n1_; have GW136 := n2_; have GE136 := n3_; clear n0_ n1_ n2_ n3_; clear hb hbox hg; have hcz12_0 : w11.cell? ⟨gb136, 0, none⟩ = some (.slice A0_0 l0_0.length c0_0) := (blk_cell BK136.out 0).trans rfl; have hcz12_1 : w11.cell? ⟨gb136, 1, none⟩ = some (.slice A0_1 l0_1.length c0_1) := (blk_cell BK136.out 1).trans rfl; have hcz12_2 : w11.cell? ⟨gb136, 2, none⟩ = some (.int .u64 a0_2) := (blk_cell BK136.out 2).trans rfl; have hcz12_3 : w11.cell? ⟨gb136, 3, none⟩ = some (.int .u64 a0_3) := (blk_cell BK136.out 3).trans rfl; have hcz12_4 : w11.cell? ⟨gb136, 4, none⟩ = some (.int .u64 a0_4) := (blk_cell BK136.out 4).trans rfl; have hcz12_5 : w11.cell? ⟨gb136, 5, none⟩ = some (.int .u64 a0_5) := (blk_cell BK136.out 5).trans rfl; have hfz12_0 := blk_frozen BK136.out 0; have hfz12_1 := blk_frozen BK136.out 1; have hfz12_2 := blk_frozen BK136.out 2; have hfz12_3 := blk_frozen BK136.out 3; have hfz12_4 := blk_frozen BK136.out 4; have hfz12_5 := blk_frozen BK136.out 5))
    go_ret
    exact ⟨by first | rfl | (simp [errW_none, errW_some] <;> rfl) | (simp [*, errW_none, errW_some] <;> rfl), by repeat (first | (with_reducible first | exact HB.out | apply below_alloc | apply pw_below_drewN | apply below_drew1 | refine below_set ?_ GE136.out) | exact HB.out)⟩
def varveref10_Empty.f (l0_0 : List (S68)) (l0_1 : List Int) (a0_2 : Int) (a0_3 : Int) (a0_4 : Int) (a0_5 : Int) : Option (Bool) := if (l0_0.length : Int) = 0 then (if (l0_1.length : Int) = 0 then (if a0_2 = 0 then (some (a0_3 == 0)) else (some false)) else (some false)) else (some false)
end Go.Proofs.Ytncgjbocgbnkcaa.Ga
namespace Go.Proofs.Ytncgjbocgbnkcaa.Ga
open Go.RowKit Go.Proofs.YtncgjbocgbnkcaaW.PrintWords Go.Proofs.YtncgjbocgbnkcaaW.PrintLast Go.Proofs.YtncgjbocgbnkcaaW.PrintMore Go.Proofs.Ytncgjbocgbnkcaa.Hi Go.Proofs.Ytncgjbocgbnkcaa.Q Go.Proofs.Ytncgjbocgbnkcaa.Gb
attribute [local go_sem] max2_int min2_int max_two min_two max_three min_three max_four min_four   -- for this text's walks alone
set_option linter.unusedVariables false
set_option linter.unusedSimpArgs false
attribute [local go_sem high] eqA43 eqA68
mutual
def varveref10_Same.j0 : Nat → Bool → List (S68) → List Int → Int → Int → Int → Int → List (S68) → List Int → Int → Int → Int → Int → Option (Bool)
  | 0, _, _, _, _, _, _, _, _, _, _, _, _, _ => none
  | k + 1, x29, x139000, x139001, x139002, x139003, x139004, x139005, x140000, x140001, x140002, x140003, x140004, x140005 => if x29 = true then (some false) else (varveref10_Same.l0 k 0 x139000 x139001 x139002 x139003 x139004 x139005 x140000 x140001 x140002 x140003 x140004 x140005)
def varveref10_Same.l0 : Nat → Int → List (S68) → List Int → Int → Int → Int → Int → List (S68) → List Int → Int → Int → Int → Int → Option (Bool)
  | 0, _, _, _, _, _, _, _, _, _, _, _, _, _ => none
  | k + 1, x5, x139000, x139001, x139002, x139003, x139004, x139005, x140000, x140001, x140002, x140003, x140004, x140005 => if x5 < (x139000.length : Int) then (if 0 ≤ x5 then (if x5 < (x140000.length : Int) then (if (!(((rd_T68 x139000 x5).f0) == ((rd_T68 x140000 x5).f0)) || (!(((rd_T68 x139000 x5).f1) == ((rd_T68 x140000 x5).f1)))) = true then (some false) else (varveref10_Same.l0 k (wrap64 (x5 + 1)) x139000 x139001 x139002 x139003 x139004 x139005 x140000 x140001 x140002 x140003 x140004 x140005)) else (none)) else (none)) else (varveref10_Same.l1 k 0 x139000 x139001 x139002 x139003 x139004 x139005 x140000 x140001 x140002 x140003 x140004 x140005)
def varveref10_Same.l1 : Nat → Int → List (S68) → List Int → Int → Int → Int → Int → List (S68) → List Int → Int → Int → Int → Int → Option (Bool)
  | 0, _, _, _, _, _, _, _, _, _, _, _, _, _ => none
  | k + 1, x6, x139000, x139001, x139002, x139003, x139004, x139005, x140000, x140001, x140002, x140003, x140004, x140005 => if x6 < (x139001.length : Int) then (if 0 ≤ x6 then (if x6 < (x140001.length : Int) then (if (rd x139001 x6) = (rd x140001 x6) then (varveref10_Same.l1 k (wrap64 (x6 + 1)) x139000 x139001 x139002 x139003 x139004 x139005 x140000 x140001 x140002 x140003 x140004 x140005) else (some false)) else (none)) else (none)) else (some true)
end
def varveref10_Same.f (k : Nat) (l0_0 : List (S68)) (l0_1 : List Int) (a0_2 : Int) (a0_3 : Int) (a0_4 : Int) (a0_5 : Int) (l1_0 : List (S68)) (l1_1 : List Int) (a1_2 : Int) (a1_3 : Int) (a1_4 : Int) (a1_5 : Int) : Option (Bool) := if (l0_0.length : Int) = (l1_0.length : Int) then (if (l0_1.length : Int) = (l1_1.length : Int) then (varveref10_Same.j0 k (!(a0_2 == a1_2) || (!(a0_3 == a1_3) || (!(a0_4 == a1_4) || (!(a0_5 == a1_5))))) l0_0 l0_1 a0_2 a0_3 a0_4 a0_5 l1_0 l1_1 a1_2 a1_3 a1_4 a1_5) else (varveref10_Same.j0 k true l0_0 l0_1 a0_2 a0_3 a0_4 a0_5 l1_0 l1_1 a1_2 a1_3 a1_4 a1_5)) else (varveref10_Same.j0 k true l0_0 l0_1 a0_2 a0_3 a0_4 a0_5 l1_0 l1_1 a1_2 a1_3 a1_4 a1_5)
end Go.Proofs.Ytncgjbocgbnkcaa.Ga
namespace Go.Proofs.Ytncgjbocgbnkcaa.Ga
open Go.RowKit Go.Proofs.YtncgjbocgbnkcaaW.PrintWords Go.Proofs.YtncgjbocgbnkcaaW.PrintLast Go.Proofs.YtncgjbocgbnkcaaW.PrintMore Go.Proofs.Ytncgjbocgbnkcaa.Hi Go.Proofs.Ytncgjbocgbnkcaa.Q Go.Proofs.Ytncgjbocgbnkcaa.Gb
attribute [local go_sem] max2_int min2_int max_two min_two max_three min_three max_four min_four   -- for this text's walks alone
set_option linter.unusedVariables false
set_option linter.unusedSimpArgs false
def pair_Check.f (k : Nat) (l0_0 : List (S68)) (l0_1 : List Int) (a0_2 : Int) (a0_3 : Int) (a0_4 : Int) (a0_5 : Int) : Option (Bool) := (hist_Check.f k l0_0).bind fun t149 => (if t149 = true then ((kmv_Check.f k l0_1).bind fun t150 => (if t150 = true then ((gauge_Check.f a0_2 a0_3 a0_4 a0_5).bind fun t151 => (some t151)) else (some false))) else (some false))
theorem pair_Check.mono : ∀ a0 a1 a2 a3 a4 a5 k, LeO (pair_Check.f k a0 a1 a2 a3 a4 a5) (pair_Check.f (k + 1) a0 a1 a2 a3 a4 a5) := by
  intro a0 a1 a2 a3 a4 a5 k
  unfold pair_Check.f
  repeat' first
      | (with_reducible exact hist_Check.mono _ _)
      | (with_reducible exact kmv_Check.mono _ _)
      | (with_reducible exact LeO.refl _)
      | (with_reducible exact LeO.none _)
      | (with_reducible refine LeO.ite ?_ ?_)
      | (with_reducible refine LeO.bind ?_ (fun _ => ?_))
      | exact hist_Check.mono _ _
      | exact kmv_Check.mono _ _
      | exact LeO.none _
      | refine LeO.ite ?_ ?_
      | refine LeO.bind ?_ (fun _ => ?_)
set_option maxHeartbeats 8000000 in
set_option maxRecDepth 100000 in
theorem pair_Check.calls (k : Nat) (A0_0 : Option Addr) (c0_0 : Nat) (l0_0 : List (S68)) (A0_1 : Option Addr) (c0_1 : Nat) (l0_1 : List Int) (a0_2 : Int) (a0_3 : Int) (a0_4 : Int) (a0_5 : Int) (r : Bool) (w : World) (hr0_0 : Kd.C k68 w A0_0 l0_0.length l0_0) (hc0_0 : l0_0.length ≤ c0_0) (hr0_1 : Kd.C (Kd.int .u64) w A0_1 l0_1.length l0_1) (hc0_1 : l0_1.length ≤ c0_1) (h : pair_Check.f k l0_0 l0_1 a0_2 a0_3 a0_4 a0_5 = some r) :
    Calls Try.prog 29 #[.agg #[.slice A0_0 l0_0.length c0_0, .slice A0_1 l0_1.length c0_1, .int .u64 a0_2, .int .u64 a0_3, .int .u64 a0_4, .int .u64 a0_5]] w fun e w' => e = .returned (.bool r) ∧ Below w.heap.size w w' := by
  have hu45 := Try.underlying45
  have hu43 := Try.underlying43
  have HR0_0 := Aside0.mk hr0_0
  have HC0_0 := Aside0.mk hc0_0
  clear hr0_0 hc0_0
  have HR0_1 := Aside0.mk hr0_1
  have HC0_1 := Aside0.mk hc0_1
  clear hr0_1 hc0_1
  have HB := Aside0.mk (Below.refl w.heap.size w)
  have H : ((hist_Check.f k l0_0).bind fun t149 => (if t149 = true then ((kmv_Check.f k l0_1).bind fun t150 => (if t150 = true then ((gauge_Check.f a0_2 a0_3 a0_4 a0_5).bind fun t151 => (some t151)) else (some false))) else (some false))) = some r := h
  clear h
  replace H := Option.bind_eq_some_iff.mp H
  obtain ⟨t149, A20, H⟩ := H
  replace H : (if t149 = true then ((kmv_Check.f k l0_1).bind fun t150 => (if t150 = true then ((gauge_Check.f a0_2 a0_3 a0_4 a0_5).bind fun t151 => (some t151)) else (some false))) else (some false)) = some r := H
  have A2 := Aside0.mk A20
  clear A20
  by_cases c3 : t149 = true
  · subst c3
    have H1 : ((kmv_Check.f k l0_1).bind fun t150 => (if t150 = true then ((gauge_Check.f a0_2 a0_3 a0_4 a0_5).bind fun t151 => (some t151)) else (some false))) = some r := by rw [if_pos rfl] at H; exact H
    clear H
    have H := H1
    clear H1
    replace H := Option.bind_eq_some_iff.mp H
    obtain ⟨t150, A40, H⟩ := H
    replace H : (if t150 = true then ((gauge_Check.f a0_2 a0_3 a0_4 a0_5).bind fun t151 => (some t151)) else (some false)) = some r := H
    have A4 := Aside0.mk A40
    clear A40
    by_cases c5 : t150 = true
    · subst c5
      have H1 : ((gauge_Check.f a0_2 a0_3 a0_4 a0_5).bind fun t151 => (some t151)) = some r := by rw [if_pos rfl] at H; exact H
      clear H
      have H := H1
      clear H1
      replace H := Option.bind_eq_some_iff.mp H
      obtain ⟨t151, A60, H⟩ := H
      replace H : (some t151) = some r := H
      have A6 := Aside0.mk A60
      clear A60
      obtain rfl := Option.some.inj H
      go_enter Try.func29, Try.ntmps29
      go_wp2_with (first | ((with_reducible refine gate_dst (N := 1) rfl ?_); refine box_event ?hg (N := 1) ?hd (cs := #[.slice A0_0 l0_0.length c0_0, .slice A0_1 l0_1.length c0_1, .int .u64 a0_2, .int .u64 a0_3, .int .u64 a0_4, .int .u64 a0_5]) (t := 45) ?hr ?_; (case hd => rfl); (case hg => rfl); (case hr => first | (go_simp; done) | (go_simp; rfl)); intro gb148 hg w7 hbox hb; have n0_ := Aside0.mk (below_step (by repeat (first | (with_reducible first | exact HB.out | apply below_alloc | apply pw_below_drewN | apply below_drew1) | exact HB.out)) hb); have n1_ := Aside0.mk (hbox); have n2_ := Aside0.mk ((by rw [hg]; exact (below_size (by repeat (first | (with_reducible first | exact HB.out | apply below_alloc | apply pw_below_drewN | apply below_drew1) | exact HB.out))) : w.heap.size ≤ gb148)); have n3_ := Aside0.mk ((by rw [hg]; exact (below_size (by repeat (first | (with_reducible first | exact HB.out | apply below_alloc | apply pw_below_drewN | apply below_drew1) | exact HB.out))) : w.heap.size ≤ gb148)); clear HB; have HB := n0_; have BK148 := n1_; have GW148 := n2_; have GE148 := n3_; clear n0_ n1_ n2_ n3_; clear hb hbox hg; have hcz8_0 : w7.cell? ⟨gb148, 0, none⟩ = some (.slice A0_0 l0_0.length c0_0) := (blk_cell BK148.out 0).trans rfl; have hcz8_1 : w7.cell? ⟨gb148, 1, none⟩ = some (.slice A0_1 l0_1.length c0_1) := (blk_cell BK148.out 1).trans rfl; have hcz8_2 : w7.cell? ⟨gb148, 2, none⟩ = some (.int .u64 a0_2) := (blk_cell BK148.out 2).trans rfl; have hcz8_3 : w7.cell? ⟨gb148, 3, none⟩ = some (.int .u64 a0_3) := (blk_cell BK148.out 3).trans rfl; have hcz8_4 : w7.cell? ⟨gb148, 4, none⟩ = some (.int .u64 a0_4) := (blk_cell BK148.out 4).trans rfl; have hcz8_5 : w7.cell? ⟨gb148, 5, none⟩ = some (.int .u64 a0_5) := (blk_cell BK148.out 5).trans rfl; have hfz8_0 := blk_frozen BK148.out 0; have hfz8_1 := blk_frozen BK148.out 1; have hfz8_2 := blk_frozen BK148.out 2; have hfz8_3 := blk_frozen BK148.out 3; have hfz8_4 := blk_frozen BK148.out 4; have hfz8_5 := blk_frozen BK148.out 5) | ((with_reducible refine gate_callee (f := 52) rfl ?_); refine goesL_ (some 5) rfl rfl Try.func52 (by kernel_rfl) rfl #[.slice A0_0 l0_0.length c0_0] rfl (by (try simp only [List.map_toArray, List.map_cons, List.map_nil]); first | done | rfl | (simp only [List.length_drop, List.length_take]; rfl)) ?_; (with_reducible refine (hist_Check.calls k _ _ l0_0 true _ ?side1 ?side2 A2.out).mono ?_); (case side1 => repeat (first | exact (Kd.C_below HR0_0.out HB.out) | (with_reducible refine Kd.C_alloc ?_ _) | (with_reducible refine Kd.C_drewN ?_ _) | (with_reducible refine Kd.C_drew ?_))); (case side2 => exact HC0_0.out); rintro e w9 ⟨rfl, hb⟩; refine ⟨_, rfl, ?_⟩; have n0_ := Aside0.mk (blk_below (g := gb148) (o := .cells #[.slice A0_0 l0_0.length c0_0, .slice A0_1 l0_1.length c0_1, .int .u64 a0_2, .int .u64 a0_3, .int .u64 a0_4, .int .u64 a0_5] 45 (0, 0)) (by (with_reducible repeat (first | refine blk_drewN ?_ _ | refine blk_drew ?_ | refine blk_alloc ?_ _)); exact BK148.out) hb); have n1_ := Aside0.mk (below_step (by repeat (first | (with_reducible first | exact HB.out | apply below_alloc | apply pw_below_drewN | apply below_drew1 | refine below_set ?_ GE148.out) | exact HB.out)) hb); clear BK148; clear HB; have BK148 := n0_; have HB := n1_; clear n0_ n1_; (try clear hb); (try clear hb2); (try clear hk); (try clear hi); have hcz10_0 : w9.cell? ⟨gb148, 0, none⟩ = some (.slice A0_0 l0_0.length c0_0) := (blk_cell BK148.out 0).trans rfl; have hcz10_1 : w9.cell? ⟨gb148, 1, none⟩ = some (.slice A0_1 l0_1.length c0_1) := (blk_cell BK148.out 1).trans rfl; have hcz10_2 : w9.cell? ⟨gb148, 2, none⟩ = some (.int .u64 a0_2) := (blk_cell BK148.out 2).trans rfl; have hcz10_3 : w9.cell? ⟨gb148, 3, none⟩ = some (.int .u64 a0_3) := (blk_cell BK148.out 3).trans rfl; have hcz10_4 : w9.cell? ⟨gb148, 4, none⟩ = some (.int .u64 a0_4) := (blk_cell BK148.out 4).trans rfl; have hcz10_5 : w9.cell? ⟨gb148, 5, none⟩ = some (.int .u64 a0_5) := (blk_cell BK148.out 5).trans rfl; have hfz10_0 := blk_frozen BK148.out 0; have hfz10_1 := blk_frozen BK148.out 1; have hfz10_2 := blk_frozen BK148.out 2; have hfz10_3 := blk_frozen BK148.out 3; have hfz10_4 := blk_frozen BK148.out 4; have hfz10_5 := blk_frozen BK148.out 5) | (go_at_call 74; (with_reducible refine (kmv_Check.calls k _ _ l0_1 true _ ?side1 ?side2 A4.out).mono ?_); (case side1 => repeat (first | exact (Kd.C_below HR0_1.out HB.out) | (with_reducible refine Kd.C_alloc ?_ _) | (with_reducible refine Kd.C_drewN ?_ _) | (with_reducible refine Kd.C_drew ?_))); (case side2 => exact HC0_1.out); rintro e w' ⟨rfl, ⟨nd, rfl⟩⟩) | (go_at_call 75; (with_reducible refine (gauge_Check.calls a0_2 a0_3 a0_4 a0_5 t151 _ A6.out).mono ?_); rintro e w11 ⟨rfl, hb⟩; have n0_ := Aside0.mk (blk_below (g := gb148) (o := .cells #[.slice A0_0 l0_0.length c0_0, .slice A0_1 l0_1.length c0_1, .int .u64 a0_2, .int .u64 a0_3, .int .u64 a0_4, .int .u64 a0_5] 45 (0, 0)) (by (with_reducible repeat (first | refine blk_drewN ?_ _ | refine blk_drew ?_ | refine blk_alloc ?_ _)); exact BK148.out) hb); have n1_ := Aside0.mk (below_step (by repeat (first | (with_reducible first | exact HB.out | apply below_alloc | apply pw_below_drewN | apply below_drew1 | refine below_set ?_ GE148.out) | exact HB.out)) hb); clear BK148; clear HB; have BK148 := n0_; have HB := n1_; clear n0_ n1_; (try clear hb); (try clear hb2); (try clear hk); (try clear hi)))
      go_ret
      exact ⟨by first | rfl | (simp [errW_none, errW_some] <;> rfl) | (simp [*, errW_none, errW_some] <;> rfl), by repeat (first | (with_reducible first | exact HB.out | apply below_alloc | apply pw_below_drewN | apply below_drew1 | refine below_set ?_ GE148.out) | exact HB.out)⟩
    · replace c5 := Bool.eq_false_iff.mpr c5
      subst c5
      have H1 : (some false) = some r := by rw [if_neg (show ¬ (false = true) by decide)] at H; exact H
      clear H
      have H := H1
      clear H1
      obtain rfl := Option.some.inj H
      go_enter Try.func29, Try.ntmps29
      go_wp2_with (first | ((with_reducible refine gate_dst (N := 1) rfl ?_); refine box_event ?hg (N := 1) ?hd (cs := #[.slice A0_0 l0_0.length c0_0, .slice A0_1 l0_1.length c0_1, .int .u64 a0_2, .int .u64 a0_3, .int .u64 a0_4, .int .u64 a0_5]) (t := 45) ?hr ?_; (case hd => rfl); (case hg => rfl); (case hr => first | (go_simp; done) | (go_simp; rfl)); intro gb148 hg w12 hbox hb; have n0_ := Aside0.mk (below_step (by repeat (first | (with_reducible first | exact HB.out | apply below_alloc | apply pw_below_drewN | apply below_drew1) | exact HB.out)) hb); have n1_ := Aside0.mk (hbox); have n2_ := Aside0.mk ((by rw [hg]; exact (below_size (by repeat (first | (with_reducible first | exact HB.out | apply below_alloc | apply pw_below_drewN | apply below_drew1) | exact HB.out))) : w.heap.size ≤ gb148)); have n3_ := Aside0.mk ((by rw [hg]; exact (below_size (by repeat (first | (with_reducible first | exact HB.out | apply below_alloc | apply pw_below_drewN | apply below_drew1) | exact HB.out))) : w.heap.size ≤ gb148)); clear HB; have HB := n0_; have BK148 := n1_; have GW148 := n2_; have GE148 := n3_; clear n0_ n1_ n2_ n3_; clear hb hbox hg; have hcz13_0 : w12.cell? ⟨gb148, 0, none⟩ = some (.slice A0_0 l0_0.length c0_0) := (blk_cell BK148.out 0).trans rfl; have hcz13_1 : w12.cell? ⟨gb148, 1, none⟩ = some (.slice A0_1 l0_1.length c0_1) := (blk_cell BK148.out 1).trans rfl; have hcz13_2 : w12.cell? ⟨gb148, 2, none⟩ = some (.int .u64 a0_2) := (blk_cell BK148.out 2).trans rfl; have hcz13_3 : w12.cell? ⟨gb148, 3, none⟩ = some (.int .u64 a0_3) := (blk_cell BK148.out 3).trans rfl; have hcz13_4 : w12.cell? ⟨gb148, 4, none⟩ = some (.int .u64 a0_4) := (blk_cell BK148.out 4).trans rfl; have hcz13_5 : w12.cell? ⟨gb148, 5, none⟩ = some (.int .u64 a0_5) := (blk_cell BK148.out 5).trans rfl; have hfz13_0 := blk_frozen BK148.out 0; have hfz13_1 := blk_frozen BK148.out 1; have hfz13_2 := blk_frozen BK148.out 2; have hfz13_3 := blk_frozen BK148.out 3; have hfz13_4 := blk_frozen BK148.out 4; have hfz13_5 := blk_frozen BK148.out 5) | ((with_reducible refine gate_callee (f := 52) rfl ?_); refine goesL_ (some 5) rfl rfl Try.func52 (by kernel_rfl) rfl #[.slice A0_0 l0_0.length c0_0] rfl (by (try simp only [List.map_toArray, List.map_cons, List.map_nil]); first | done | rfl | (simp only [List.length_drop, List.length_take]; rfl)) ?_; (with_reducible refine (hist_Check.calls k _ _ l0_0 true _ ?side1 ?side2 A2.out).mono ?_); (case side1 => repeat (first | exact (Kd.C_below HR0_0.out HB.out) | (with_reducible refine Kd.C_alloc ?_ _) | (with_reducible refine Kd.C_drewN ?_ _) | (with_reducible refine Kd.C_drew ?_))); (case side2 => exact HC0_0.out); rintro e w14 ⟨rfl, hb⟩; refine ⟨_, rfl, ?_⟩; have n0_ := Aside0.mk (blk_below (g := gb148) (o := .cells #[.slice A0_0 l0_0.length c0_0, .slice A0_1 l0_1.length c0_1, .int .u64 a0_2, .int .u64 a0_3, .int .u64 a0_4, .int .u64 a0_5] 45 (0, 0)) (by (with_reducible repeat (first | refine blk_drewN ?_ _ | refine blk_drew ?_ | refine blk_alloc ?_ _)); exact BK148.out) hb); have n1_ := Aside0.mk (below_step (by repeat (first | (with_reducible first | exact HB.out | apply below_alloc | apply pw_below_drewN | apply below_drew1 | refine below_set ?_ GE148.out) | exact HB.out)) hb); clear BK148; clear HB; have BK148 := n0_; have HB := n1_; clear n0_ n1_; (try clear hb); (try clear hb2); (try clear hk); (try clear hi); have hcz15_0 : w14.cell? ⟨gb148, 0, none⟩ = some (.slice A0_0 l0_0.length c0_0) := (blk_cell BK148.out 0).trans rfl; have hcz15_1 : w14.cell? ⟨gb148, 1, none⟩ = some (.slice A0_1 l0_1.length c0_1) := (blk_cell BK148.out 1).trans rfl; have hcz15_2 : w14.cell? ⟨gb148, 2, none⟩ = some (.int .u64 a0_2) := (blk_cell BK148.out 2).trans rfl; have hcz15_3 : w14.cell? ⟨gb148, 3, none⟩ = some (.int .u64 a0_3) := (blk_cell BK148.out 3).trans rfl; have hcz15_4 : w14.cell? ⟨gb148, 4, none⟩ = some (.int .u64 a0_4) := (blk_cell BK148.out 4).trans rfl; have hcz15_5 : w14.cell? ⟨gb148, 5, none⟩ = some (.int .u64 a0_5) := (blk_cell BK148.out 5).trans rfl; have hfz15_0 := blk_frozen BK148.out 0; have hfz15_1 := blk_frozen BK148.out 1; have hfz15_2 := blk_frozen BK148.out 2; have hfz15_3 := blk_frozen BK148.out 3; have hfz15_4 := blk_frozen BK148.out 4; have hfz15_5 := blk_frozen BK148.out 5) | (go_at_call 74; (with_reducible refine (kmv_Check.calls k _ _ l0_1 false _ ?side1 ?side2 A4.out).mono ?_); (case side1 => repeat (first | exact (Kd.C_below HR0_1.out HB.out) | (with_reducible refine Kd.C_alloc ?_ _) | (with_reducible refine Kd.C_drewN ?_ _) | (with_reducible refine Kd.C_drew ?_))); (case side2 => exact HC0_1.out); rintro e w' ⟨rfl, ⟨nd, rfl⟩⟩))
      go_ret
      exact ⟨by first | rfl | (simp [errW_none, errW_some] <;> rfl) | (simp [*, errW_none, errW_some] <;> rfl), by repeat (first | (with_reducible first | exact HB.out | apply below_alloc | apply pw_below_drewN | apply below_drew1 | refine below_set ?_ GE148.out) | exact HB.out)⟩
  · replace c3 := Bool.eq_false_iff.mpr c3
    subst c3
    have H1 : (some false) = some r := by rw [if_neg (show ¬ (false = true) by decide)] at H; exact H
    clear H
    have H := H1
    clear H1
    obtain rfl := Option.some.inj H
    go_enter Try.func29, Try.ntmps29
    go_wp2_with (first | ((with_reducible refine gate_dst (N := 1) rfl ?_); refine box_event ?hg (N := 1) ?hd (cs := #[.slice A0_0 l0_0.length c0_0, .slice A0_1 l0_1.length c0_1, .int .u64 a0_2, .int .u64 a0_3, .int .u64 a0_4, .int .u64 a0_5]) (t := 45) ?hr ?_; (case hd => rfl); (case hg => rfl); (case hr => first | (go_simp; done) | (go_simp; rfl)); intro gb148 hg w16 hbox hb; have n0_ := Aside0.mk (below_step (by repeat (first | (with_reducible first | exact HB.out | apply below_alloc | apply pw_below_drewN | apply below_drew1) | exact HB.out)) hb); have n1_ := Aside0.mk (hbox); have n2_ := Aside0.mk ((by rw [hg]; exact (below_size (by repeat (first | (with_reducible first | exact HB.out | apply below_alloc | apply pw_below_drewN | apply below_drew1) | exact HB.out))) : w.heap.size ≤ gb148)); have n3_ := Aside0.mk ((by rw [hg]; exact (below_size (by repeat (first | (with_reducible first | exact HB.out | apply below_alloc | apply pw_below_drewN | apply below_drew1) | exact HB.out))) : w.heap.size ≤ gb148)); clear HB; have HB := n0_; have BK148 := n1_; have GW148 := n2_; have GE148 := n3_; clear n0_ n1_ n2_ n3_; clear hb hbox hg; have hcz17_0 : w16.cell? ⟨gb148, 0, none⟩ = some (.slice A0_0 l0_0.length c0_0) := (blk_cell BK148.out 0).trans rfl; have hcz17_1 : w16.cell? ⟨gb148, 1, none⟩ = some (.slice A0_1 l0_1.length c0_1) := (blk_cell BK148.out 1).trans rfl; have hcz17_2 : w16.cell? ⟨gb148, 2, none⟩ = some (.int .u64 a0_2) := (blk_cell BK148.out 2).trans rfl; have hcz17_3 : w16.cell? ⟨gb148, 3, none⟩ = some (.int .u64 a0_3) := (blk_cell BK148.out 3).trans rfl; have hcz17_4 : w16.cell? ⟨gb148, 4, none⟩ = some (.int .u64 a0_4) := (blk_cell BK148.out 4).trans rfl; have hcz17_5 : w16.cell? ⟨gb148, 5, none⟩ = some (.int .u64 a0_5) := (blk_cell BK148.out 5).trans rfl; have hfz17_0 := blk_frozen BK148.out 0; have hfz17_1 := blk_frozen BK148.out 1; have hfz17_2 := blk_frozen BK148.out 2; have hfz17_3 := blk_frozen BK148.out 3; have hfz17_4 := blk_frozen BK148.out 4; have hfz17_5 := blk_frozen BK148.out 5) | ((with_reducible refine gate_callee (f := 52) rfl ?_); refine goesL_ (some 5) rfl rfl Try.func52 (by kernel_rfl) rfl #[.slice A0_0 l0_0.length c0_0] rfl (by (try simp only [List.map_toArray, List.map_cons, List.map_nil]); first | done | rfl | (simp only [List.length_drop, List.length_take]; rfl)) ?_; (with_reducible refine (hist_Check.calls k _ _ l0_0 false _ ?side1 ?side2 A2.out).mono ?_); (case side1 => repeat (first | exact (Kd.C_below HR0_0.out HB.out) | (with_reducible refine Kd.C_alloc ?_ _) | (with_reducible refine Kd.C_drewN ?_ _) | (with_reducible refine Kd.C_drew ?_))); (case side2 => exact HC0_0.out); rintro e w18 ⟨rfl, hb⟩; refine ⟨_, rfl, ?_⟩; have n0_ := Aside0.mk (blk_below (g := gb148) (o := .cells #[.slice A0_0 l0_0.length c0_0, .slice A0_1 l0_1.length c0_1, .int .u64 a0_2, .int .u64 a0_3, .int .u64 a0_4, .int .u64 a0_5] 45 (0, 0)) (by (with_reducible repeat (first | refine blk_drewN ?_ _ | refine blk_drew ?_ | refine blk_alloc ?_ _)); exact BK148.out) hb); have n1_ := Aside0.mk (below_step (by repeat (first | (with_reducible first | exact HB.out | apply below_alloc | apply pw_below_drewN | apply below_drew1 | refine below_set ?_ GE148.out) | exact HB.out)) hb); clear BK148; clear HB; have BK148 := n0_; have HB := n1_; clear n0_ n1_; (try clear hb); (try clear hb2); (try clear hk); (try clear hi)))
    go_ret
    exact ⟨by first | rfl | (simp [errW_none, errW_some] <;> rfl) | (simp [*, errW_none, errW_some] <;> rfl), by repeat (first | (with_reducible first | exact HB.out | apply below_alloc | apply pw_below_drewN | apply below_drew1 | refine below_set ?_ GE148.out) | exact HB.out)⟩
end Go.Proofs.Ytncgjbocgbnkcaa.Ga
namespace Go.Proofs.Ytncgjbocgbnkcaa.Ga
open Go.RowKit Go.Proofs.YtncgjbocgbnkcaaW.PrintWords Go.Proofs.YtncgjbocgbnkcaaW.PrintLast Go.Proofs.YtncgjbocgbnkcaaW.PrintMore Go.Proofs.Ytncgjbocgbnkcaa.Hi Go.Proofs.Ytncgjbocgbnkcaa.Q Go.Proofs.Ytncgjbocgbnkcaa.Gb
attribute [local go_sem] max2_int min2_int max_two min_two max_three min_three max_four min_four   -- for this text's walks alone
set_option linter.unusedVariables false
set_option linter.unusedSimpArgs false
def varveref10_Check.f (k : Nat) (l0_0 : List (S68)) (l0_1 : List Int) (a0_2 : Int) (a0_3 : Int) (a0_4 : Int) (a0_5 : Int) : Option (Bool) := (varveref07_Check.f k l0_0).bind fun t160 => (if t160 = true then ((varveref08_Check.f k l0_1).bind fun t161 => (if t161 = true then ((varveref09_Check.f k a0_2 a0_3 a0_4 a0_5).bind fun t162 => (some t162)) else (some false))) else (some false))
theorem varveref10_Check.mono : ∀ a0 a1 a2 a3 a4 a5 k, LeO (varveref10_Check.f k a0 a1 a2 a3 a4 a5) (varveref10_Check.f (k + 1) a0 a1 a2 a3 a4 a5) := by
  intro a0 a1 a2 a3 a4 a5 k
  unfold varveref10_Check.f
  repeat' first
      | (with_reducible exact varveref07_Check.mono _ _)
      | (with_reducible exact varveref08_Check.mono _ _)
      | (with_reducible exact varveref09_Check.mono _ _ _ _ _)
      | (with_reducible exact LeO.refl _)
      | (with_reducible exact LeO.none _)
      | (with_reducible refine LeO.ite ?_ ?_)
      | (with_reducible refine LeO.bind ?_ (fun _ => ?_))
      | exact varveref07_Check.mono _ _
      | exact varveref08_Check.mono _ _
      | exact varveref09_Check.mono _ _ _ _ _
      | exact LeO.none _
      | refine LeO.ite ?_ ?_
      | refine LeO.bind ?_ (fun _ => ?_)
set_option maxHeartbeats 8000000 in
set_option maxRecDepth 100000 in
theorem varveref10_Check.calls (k : Nat) (A0_0 : Option Addr) (c0_0 : Nat) (l0_0 : List (S68)) (A0_1 : Option Addr) (c0_1 : Nat) (l0_1 : List Int) (a0_2 : Int) (a0_3 : Int) (a0_4 : Int) (a0_5 : Int) (r : Bool) (w : World) (hr0_0 : Kd.C k68 w A0_0 l0_0.length l0_0) (hc0_0 : l0_0.length ≤ c0_0) (hr0_1 : Kd.C (Kd.int .u64) w A0_1 l0_1.length l0_1) (hc0_1 : l0_1.length ≤ c0_1) (h : varveref10_Check.f k l0_0 l0_1 a0_2 a0_3 a0_4 a0_5 = some r) :
    Calls Try.prog 40 #[.agg #[.slice A0_0 l0_0.length c0_0, .slice A0_1 l0_1.length c0_1, .int .u64 a0_2, .int .u64 a0_3, .int .u64 a0_4, .int .u64 a0_5]] w fun e w' => e = .returned (.bool r) ∧ Below w.heap.size w w' := by
  have hu45 := Try.underlying45
  have hu43 := Try.underlying43
  have HR0_0 := Aside0.mk hr0_0
  have HC0_0 := Aside0.mk hc0_0
  clear hr0_0 hc0_0
  have HR0_1 := Aside0.mk hr0_1
  have HC0_1 := Aside0.mk hc0_1
  clear hr0_1 hc0_1
  have HB := Aside0.mk (Below.refl w.heap.size w)
  have H : ((varveref07_Check.f k l0_0).bind fun t160 => (if t160 = true then ((varveref08_Check.f k l0_1).bind fun t161 => (if t161 = true then ((varveref09_Check.f k a0_2 a0_3 a0_4 a0_5).bind fun t162 => (some t162)) else (some false))) else (some false))) = some r := h
  clear h
  replace H := Option.bind_eq_some_iff.mp H
  obtain ⟨t160, A20, H⟩ := H
  replace H : (if t160 = true then ((varveref08_Check.f k l0_1).bind fun t161 => (if t161 = true then ((varveref09_Check.f k a0_2 a0_3 a0_4 a0_5).bind fun t162 => (some t162)) else (some false))) else (some false)) = some r := H
  have A2 := Aside0.mk A20
  clear A20
  by_cases c3 : t160 = true
  · subst c3
    have H1 : ((varveref08_Check.f k l0_1).bind fun t161 => (if t161 = true then ((varveref09_Check.f k a0_2 a0_3 a0_4 a0_5).bind fun t162 => (some t162)) else (some false))) = some r := by rw [if_pos rfl] at H; exact H
    clear H
    have H := H1
    clear H1
    replace H := Option.bind_eq_some_iff.mp H
    obtain ⟨t161, A40, H⟩ := H
    replace H : (if t161 = true then ((varveref09_Check.f k a0_2 a0_3 a0_4 a0_5).bind fun t162 => (some t162)) else (some false)) = some r := H
    have A4 := Aside0.mk A40
    clear A40
    by_cases c5 : t161 = true
    · subst c5
      have H1 : ((varveref09_Check.f k a0_2 a0_3 a0_4 a0_5).bind fun t162 => (some t162)) = some r := by rw [if_pos rfl] at H; exact H
      clear H
      have H := H1
      clear H1
      replace H := Option.bind_eq_some_iff.mp H
      obtain ⟨t162, A60, H⟩ := H
      replace H : (some t162) = some r := H
      have A6 := Aside0.mk A60
      clear A60
      obtain rfl := Option.some.inj H
      go_enter Try.func40, Try.ntmps40
      go_wp2_with (first | ((with_reducible refine gate_dst (N := 1) rfl ?_); refine box_event ?hg (N := 1) ?hd (cs := #[.slice A0_0 l0_0.length c0_0, .slice A0_1 l0_1.length c0_1, .int .u64 a0_2, .int .u64 a0_3, .int .u64 a0_4, .int .u64 a0_5]) (t := 45) ?hr ?_; (case hd => rfl); (case hg => rfl); (case hr => first | (go_simp; done) | (go_simp; rfl)); intro gb159 hg w7 hbox hb; have n0_ := Aside0.mk (below_step (by repeat (first | (with_reducible first | exact HB.out | apply below_alloc | apply pw_below_drewN | apply below_drew1) | exact HB.out)) hb); have n1_ := Aside0.mk (hbox); have n2_ := Aside0.mk ((by rw [hg]; exact (below_size (by repeat (first | (with_reducible first | exact HB.out | apply below_alloc | apply pw_below_drewN | apply below_drew1) | exact HB.out))) : w.heap.size ≤ gb159)); have n3_ := Aside0.mk ((by rw [hg]; exact (below_size (by repeat (first | (with_reducible first | exact HB.out | apply below_alloc | apply pw_below_drewN | apply below_drew1) | exact HB.out))) : w.heap.size ≤ gb159)); clear HB; have HB := n0_; have BK159 := n1_; have GW159 := n2_; have GE159 := n3_; clear n0_ n1_ n2_ n3_; clear hb hbox hg; have hcz8_0 : w7.cell? ⟨gb159, 0, none⟩ = some (.slice A0_0 l0_0.length c0_0) := (blk_cell BK159.out 0).trans rfl; have hcz8_1 : w7.cell? ⟨gb159, 1, none⟩ = some (.slice A0_1 l0_1.length c0_1) := (blk_cell BK159.out 1).trans rfl; have hcz8_2 : w7.cell? ⟨gb159, 2, none⟩ = some (.int .u64 a0_2) := (blk_cell BK159.out 2).trans rfl; have hcz8_3 : w7.cell? ⟨gb159, 3, none⟩ = some (.int .u64 a0_3) := (blk_cell BK159.out 3).trans rfl; have hcz8_4 : w7.cell? ⟨gb159, 4, none⟩ = some (.int .u64 a0_4) := (blk_cell BK159.out 4).trans rfl; have hcz8_5 : w7.cell? ⟨gb159, 5, none⟩ = some (.int .u64 a0_5) := (blk_cell BK159.out 5).trans rfl; have hfz8_0 := blk_frozen BK159.out 0; have hfz8_1 := blk_frozen BK159.out 1; have hfz8_2 := blk_frozen BK159.out 2; have hfz8_3 := blk_frozen BK159.out 3; have hfz8_4 := blk_frozen BK159.out 4; have hfz8_5 := blk_frozen BK159.out 5) | ((with_reducible refine gate_callee (f := 23) rfl ?_); refine goesL_ (some 5) rfl rfl Try.func23 (by kernel_rfl) rfl #[.slice A0_0 l0_0.length c0_0] rfl (by (try simp only [List.map_toArray, List.map_cons, List.map_nil]); first | done | rfl | (simp only [List.length_drop, List.length_take]; rfl)) ?_; (with_reducible refine (varveref07_Check.calls k _ _ l0_0 true _ ?side1 ?side2 A2.out).mono ?_); (case side1 => repeat (first | exact (Kd.C_below HR0_0.out HB.out) | (with_reducible refine Kd.C_alloc ?_ _) | (with_reducible refine Kd.C_drewN ?_ _) | (with_reducible refine Kd.C_drew ?_))); (case side2 => exact HC0_0.out); rintro e w' ⟨rfl, ⟨nd, rfl⟩⟩; refine ⟨_, rfl, ?_⟩) | (go_at_call 33; (with_reducible refine (varveref08_Check.calls k _ _ l0_1 true _ ?side1 ?side2 A4.out).mono ?_); (case side1 => repeat (first | exact (Kd.C_below HR0_1.out (by repeat (first | (with_reducible first | exact HB.out | apply below_alloc | apply pw_below_drewN | apply below_drew1 | refine below_set ?_ GE159.out) | exact HB.out))) | (with_reducible refine Kd.C_alloc ?_ _) | (with_reducible refine Kd.C_drewN ?_ _) | (with_reducible refine Kd.C_drew ?_))); (case side2 => exact HC0_1.out); rintro e w' ⟨rfl, ⟨nd, rfl⟩⟩) | (go_at_call 80; (with_reducible refine (varveref09_Check.calls k a0_2 a0_3 a0_4 a0_5 t162 _ A6.out).mono ?_); rintro e w9 ⟨rfl, hb⟩; have n0_ := Aside0.mk (blk_below (g := gb159) (o := .cells #[.slice A0_0 l0_0.length c0_0, .slice A0_1 l0_1.length c0_1, .int .u64 a0_2, .int .u64 a0_3, .int .u64 a0_4, .int .u64 a0_5] 45 (0, 0)) (by (with_reducible repeat (first | refine blk_drewN ?_ _ | refine blk_drew ?_ | refine blk_alloc ?_ _)); exact BK159.out) hb); have n1_ := Aside0.mk (below_step (by repeat (first | (with_reducible first | exact HB.out | apply below_alloc | apply pw_below_drewN | apply below_drew1 | refine below_set ?_ GE159.out) | exact HB.out)) hb); clear BK159; clear HB; have BK159 := n0_; have HB := n1_; clear n0_ n1_; (try clear hb); (try clear hb2); (try clear hk); (try clear hi)))
      go_ret
      exact ⟨by first | rfl | (simp [errW_none, errW_some] <;> rfl) | (simp [*, errW_none, errW_some] <;> rfl), by repeat (first | (with_reducible first | exact HB.out | apply below_alloc | apply pw_below_drewN | apply below_drew1 | refine below_set ?_ GE159.out) | exact HB.out)⟩
    · replace c5 := Bool.eq_false_iff.mpr c5
      subst c5
      have H1 : (some false) = some r := by rw [if_neg (show ¬ (false = true) by decide)] at H; exact H
      clear H
      have H := H1
      clear H1
      obtain rfl := Option.some.inj H
      go_enter Try.func40, Try.ntmps40
      go_wp2_with (first | ((with_reducible refine gate_dst (N := 1) rfl ?_); refine box_event ?hg (N := 1) ?hd (cs := #[.slice A0_0 l0_0.length c0_0, .slice A0_1 l0_1.length c0_1, .int .u64 a0_2, .int .u64 a0_3, .int .u64 a0_4, .int .u64 a0_5]) (t := 45) ?hr ?_; (case hd => rfl); (case hg => rfl); (case hr => first | (go_simp; done) | (go_simp; rfl)); intro gb159 hg w10 hbox hb; have n0_ := Aside0.mk (below_step (by repeat (first | (with_reducible first | exact HB.out | apply below_alloc | apply pw_below_drewN | apply below_drew1) | exact HB.out)) hb); have n1_ := Aside0.mk (hbox); have n2_ := Aside0.mk ((by rw [hg]; exact (below_size (by repeat (first | (with_reducible first | exact HB.out | apply below_alloc | apply pw_below_drewN | apply below_drew1) | exact HB.out))) : w.heap.size ≤ gb159)); have n3_ := Aside0.mk ((by rw [hg]; exact (below_size (by repeat (first | (with_reducible first | exact HB.out | apply below_alloc | apply pw_below_drewN | apply below_drew1) | exact HB.out))) : w.heap.size ≤ gb159)); clear HB; have HB := n0_; have BK159 := n1_; have GW159 := n2_; have GE159 := n3_; clear n0_ n1_ n2_ n3_; clear hb hbox hg; have hcz11_0 : w10.cell? ⟨gb159, 0, none⟩ = some (.slice A0_0 l0_0.length c0_0) := (blk_cell BK159.out 0).trans rfl; have hcz11_1 : w10.cell? ⟨gb159, 1, none⟩ = some (.slice A0_1 l0_1.length c0_1) := (blk_cell BK159.out 1).trans rfl; have hcz11_2 : w10.cell? ⟨gb159, 2, none⟩ = some (.int .u64 a0_2) := (blk_cell BK159.out 2).trans rfl; have hcz11_3 : w10.cell? ⟨gb159, 3, none⟩ = some (.int .u64 a0_3) := (blk_cell BK159.out 3).trans rfl; have hcz11_4 : w10.cell? ⟨gb159, 4, none⟩ = some (.int .u64 a0_4) := (blk_cell BK159.out 4).trans rfl; have hcz11_5 : w10.cell? ⟨gb159, 5, none⟩ = some (.int .u64 a0_5) := (blk_cell BK159.out 5).trans rfl; have hfz11_0 := blk_frozen BK159.out 0; have hfz11_1 := blk_frozen BK159.out 1; have hfz11_2 := blk_frozen BK159.out 2; have hfz11_3 := blk_frozen BK159.out 3; have hfz11_4 := blk_frozen BK159.out 4; have hfz11_5 := blk_frozen BK159.out 5) | ((with_reducible refine gate_callee (f := 23) rfl ?_); refine goesL_ (some 5) rfl rfl Try.func23 (by kernel_rfl) rfl #[.slice A0_0 l0_0.length c0_0] rfl (by (try simp only [List.map_toArray, List.map_cons, List.map_nil]); first | done | rfl | (simp only [List.length_drop, List.length_take]; rfl)) ?_; (with_reducible refine (varveref07_Check.calls k _ _ l0_0 true _ ?side1 ?side2 A2.out).mono ?_); (case side1 => repeat (first | exact (Kd.C_below HR0_0.out HB.out) | (with_reducible refine Kd.C_alloc ?_ _) | (with_reducible refine Kd.C_drewN ?_ _) | (with_reducible refine Kd.C_drew ?_))); (case side2 => exact HC0_0.out); rintro e w' ⟨rfl, ⟨nd, rfl⟩⟩; refine ⟨_, rfl, ?_⟩) | (go_at_call 33; (with_reducible refine (varveref08_Check.calls k _ _ l0_1 false _ ?side1 ?side2 A4.out).mono ?_); (case side1 => repeat (first | exact (Kd.C_below HR0_1.out (by repeat (first | (with_reducible first | exact HB.out | apply below_alloc | apply pw_below_drewN | apply below_drew1 | refine below_set ?_ GE159.out) | exact HB.out))) | (with_reducible refine Kd.C_alloc ?_ _) | (with_reducible refine Kd.C_drewN ?_ _) | (with_reducible refine Kd.C_drew ?_))); (case side2 => exact HC0_1.out); rintro e w' ⟨rfl, ⟨nd, rfl⟩⟩))
      go_ret
      exact ⟨by first | rfl | (simp [errW_none, errW_some] <;> rfl) | (simp [*, errW_none, errW_some] <;> rfl), by repeat (first | (with_reducible first | exact HB.out | apply below_alloc | apply pw_below_drewN | apply below_drew1 | refine below_set ?_ GE159.out) | exact HB.out)⟩
  · replace c3 := Bool.eq_false_iff.mpr c3
    subst c3
    have H1 : (some false) = some r := by rw [if_neg (show ¬ (false = true) by decide)] at H; exact H
    clear H
    have H := H1
    clear H1
    obtain rfl := Option.some.inj H
    go_enter Try.func40, Try.ntmps40
    go_wp2_with (first | ((with_reducible refine gate_dst (N := 1) rfl ?_); refine box_event ?hg (N := 1) ?hd (cs := #[.slice A0_0 l0_0.length c0_0, .slice A0_1 l0_1.length c0_1, .int .u64 a0_2, .int .u64 a0_3, .int .u64 a0_4, .int .u64 a0_5]) (t := 45) ?hr ?_; (case hd => rfl); (case hg => rfl); (case hr => first | (go_simp; done) | (go_simp; rfl)); intro gb159 hg w12 hbox hb; have n0_ := Aside0.mk (below_step (by repeat (first | (with_reducible first | exact HB.out | apply below_alloc | apply pw_below_drewN | apply below_drew1) | exact HB.out)) hb); have n1_ := Aside0.mk (hbox); have n2_ := Aside0.mk ((by rw [hg]; exact (below_size (by repeat (first | (with_reducible first | exact HB.out | apply below_alloc | apply pw_below_drewN | apply below_drew1) | exact HB.out))) : w.heap.size ≤ gb159)); have n3_ := Aside0.mk ((by rw [hg]; exact (below_size (by repeat (first | (with_reducible first | exact HB.out | apply below_alloc | apply pw_below_drewN | apply below_drew1) | exact HB.out))) : w.heap.size ≤ gb159)); clear HB; have HB := n0_; have BK159 := n1_; have GW159 := n2_; have GE159 := n3_; clear n0_ n1_ n2_ n3_; clear hb hbox hg; have hcz13_0 : w12.cell? ⟨gb159, 0, none⟩ = some (.slice A0_0 l0_0.length c0_0) := (blk_cell BK159.out 0).trans rfl; have hcz13_1 : w12.cell? ⟨gb159, 1, none⟩ = some (.slice A0_1 l0_1.length c0_1) := (blk_cell BK159.out 1).trans rfl; have hcz13_2 : w12.cell? ⟨gb159, 2, none⟩ = some (.int .u64 a0_2) := (blk_cell BK159.out 2).trans rfl; have hcz13_3 : w12.cell? ⟨gb159, 3, none⟩ = some (.int .u64 a0_3) := (blk_cell BK159.out 3).trans rfl; have hcz13_4 : w12.cell? ⟨gb159, 4, none⟩ = some (.int .u64 a0_4) := (blk_cell BK159.out 4).trans rfl; have hcz13_5 : w12.cell? ⟨gb159, 5, none⟩ = some (.int .u64 a0_5) := (blk_cell BK159.out 5).trans rfl; have hfz13_0 := blk_frozen BK159.out 0; have hfz13_1 := blk_frozen BK159.out 1; have hfz13_2 := blk_frozen BK159.out 2; have hfz13_3 := blk_frozen BK159.out 3; have hfz13_4 := blk_frozen BK159.out 4; have hfz13_5 := blk_frozen BK159.out 5) | ((with_reducible refine gate_callee (f := 23) rfl ?_); refine goesL_ (some 5) rfl rfl Try.func23 (by kernel_rfl) rfl #[.slice A0_0 l0_0.length c0_0] rfl (by (try simp only [List.map_toArray, List.map_cons, List.map_nil]); first | done | rfl | (simp only [List.length_drop, List.length_take]; rfl)) ?_; (with_reducible refine (varveref07_Check.calls k _ _ l0_0 false _ ?side1 ?side2 A2.out).mono ?_); (case side1 => repeat (first | exact (Kd.C_below HR0_0.out HB.out) | (with_reducible refine Kd.C_alloc ?_ _) | (with_reducible refine Kd.C_drewN ?_ _) | (with_reducible refine Kd.C_drew ?_))); (case side2 => exact HC0_0.out); rintro e w' ⟨rfl, ⟨nd, rfl⟩⟩; refine ⟨_, rfl, ?_⟩))
    go_ret
    exact ⟨by first | rfl | (simp [errW_none, errW_some] <;> rfl) | (simp [*, errW_none, errW_some] <;> rfl), by repeat (first | (with_reducible first | exact HB.out | apply below_alloc | apply pw_below_drewN | apply below_drew1 | refine below_set ?_ GE159.out) | exact HB.out)⟩
end Go.Proofs.Ytncgjbocgbnkcaa.Ga
namespace Go.Proofs.Ytncgjbocgbnkcaa.Ga
open Go.RowKit Go.Proofs.YtncgjbocgbnkcaaW.PrintWords Go.Proofs.YtncgjbocgbnkcaaW.PrintLast Go.Proofs.YtncgjbocgbnkcaaW.PrintMore Go.Proofs.Ytncgjbocgbnkcaa.Hi Go.Proofs.Ytncgjbocgbnkcaa.Q Go.Proofs.Ytncgjbocgbnkcaa.Gb
attribute [local go_sem] max2_int min2_int max_two min_two max_three min_three max_four min_four   -- for this text's walks alone
set_option linter.unusedVariables false
set_option linter.unusedSimpArgs false
def varveref10_Merge.f (k : Nat) (l0_0 : List (S68)) (l0_1 : List Int) (a0_2 : Int) (a0_3 : Int) (a0_4 : Int) (a0_5 : Int) (l1_0 : List (S68)) (l1_1 : List Int) (a1_2 : Int) (a1_3 : Int) (a1_4 : Int) (a1_5 : Int) : Option ((List (S68)) × List Int × Int × Int × Int × Int) := (varveref07_Merge.f k l0_0 l1_0).bind fun t209 => ((varveref08_Merge.f k l0_1 l1_1).bind fun t212 => ((varveref09_Merge.f a0_2 a0_3 a0_4 a0_5 a1_2 a1_3 a1_4 a1_5).bind fun bt215 => (some (t209, t212, bt215.1, bt215.2.1, bt215.2.2.1, bt215.2.2.2))))
def varveref10_Merge.T1 : Bool × List (List Nat × List Nat) := (true, [([], []), ([0], [0]), ([], []), ([2], [2]), ([1, 3], [1, 3]), ([], []), ([5], [5]), ([], []), ([7], [7]), ([6, 8, 4], [6, 8]), ([], []), ([10], [10]), ([], []), ([12], [12]), ([11, 13, 9], [11, 13]), ([4, 9, 14], [4, 9, 14]), ([15, 14, 0, 1, 2, 3, 4, 5, 6, 7, 8, 9, 10, 11, 12, 13, 14, 15], [15])])
def varveref10_Merge.B1 : List Nat := [0, 1, 0, 4, 15, 0, 32, 0, 128, 511, 0, 1024, 0, 4096, 16383, 32767, 65535]
end Go.Proofs.Ytncgjbocgbnkcaa.Ga
namespace Go.Proofs.Ytncgjbocgbnkcaa.Ga
open Go.RowKit Go.Proofs.YtncgjbocgbnkcaaW.PrintWords Go.Proofs.YtncgjbocgbnkcaaW.PrintLast Go.Proofs.YtncgjbocgbnkcaaW.PrintMore Go.Proofs.Ytncgjbocgbnkcaa.Hi Go.Proofs.Ytncgjbocgbnkcaa.Q Go.Proofs.Ytncgjbocgbnkcaa.Gb
attribute [local go_sem] max2_int min2_int max_two min_two max_three min_three max_four min_four   -- for this text's walks alone
set_option linter.unusedVariables false
set_option linter.unusedSimpArgs false
attribute [local go_sem high] eqA43 eqA68
def api_Bucket.l0 : Nat → List (S68) → List (S68) → Int → Int → Option (Bool)
  | 0, _, _, _, _ => none
  | k + 1, x0, x1, x12, x13 => if x13 < x12 then (if 0 ≤ x13 then (if x13 < (x0.length : Int) then (if x13 < (x1.length : Int) then (if (!(((rd_T68 x0 x13).f0) == ((rd_T68 x1 x13).f0)) || (!(((rd_T68 x0 x13).f1) == ((rd_T68 x1 x13).f1)))) = true then (some false) else (api_Bucket.l0 k x0 x1 x12 (wrap64 (x13 + 1)))) else (none)) else (none)) else (none)) else (some true)
def api_Bucket.f (k : Nat) (l0 : List (S68)) (l1 : List (S68)) : Option (Bool) := if (l0.length : Int) = (l1.length : Int) then (api_Bucket.l0 k l0 l1 (l0.length : Int) 0) else (some false)
theorem api_Bucket.mono_l : ∀ k, (∀ y0 y1 y2 y3, LeO (api_Bucket.l0 k y0 y1 y2 y3) (api_Bucket.l0 (k + 1) y0 y1 y2 y3))
  | 0 => fun _ _ _ _ r h => by simp [api_Bucket.l0] at h
  | k + 1 => by
    have ih0 := api_Bucket.mono_l k
    · intro y0 y1 y2 y3
      unfold api_Bucket.l0
      repeat' first
      | (with_reducible exact ih0 _ _ _ _)
      | (with_reducible exact LeO.refl _)
      | (with_reducible exact LeO.none _)
      | (with_reducible refine LeO.ite ?_ ?_)
      | (with_reducible refine LeO.bind ?_ (fun _ => ?_))
      | exact ih0 _ _ _ _
      | exact LeO.none _
      | refine LeO.ite ?_ ?_
      | refine LeO.bind ?_ (fun _ => ?_)
theorem api_Bucket.mono : ∀ a0 a1 k, LeO (api_Bucket.f k a0 a1) (api_Bucket.f (k + 1) a0 a1) := by
  intro a0 a1 k
  have ih0 := api_Bucket.mono_l k
  unfold api_Bucket.f
  repeat' first
      | (with_reducible exact ih0 _ _ _ _)
      | (with_reducible exact LeO.refl _)
      | (with_reducible exact LeO.none _)
      | (with_reducible refine LeO.ite ?_ ?_)
      | (with_reducible refine LeO.bind ?_ (fun _ => ?_))
      | exact ih0 _ _ _ _
      | exact LeO.none _
      | refine LeO.ite ?_ ?_
      | refine LeO.bind ?_ (fun _ => ?_)
set_option maxHeartbeats 8000000 in
set_option maxRecDepth 100000 in
theorem api_Bucket.calls (k : Nat) (A0 : Option Addr) (c0 : Nat) (l0 : List (S68)) (A1 : Option Addr) (c1 : Nat) (l1 : List (S68)) (r : Bool) (w : World) (hr0 : Kd.C k68 w A0 l0.length l0) (hc0 : l0.length ≤ c0) (hr1 : Kd.C k68 w A1 l1.length l1) (hc1 : l1.length ≤ c1) (h : api_Bucket.f k l0 l1 = some r) :
    Calls Try.prog 81 #[.slice A0 l0.length c0, .slice A1 l1.length c1] w fun e w' => e = .returned (.bool r) ∧ Drawn0 w w' := by
  have hu68 := Try.underlying68
  have HR0 := Aside0.mk hr0
  have HC0 := Aside0.mk hc0
  clear hr0 hc0
  have HR1 := Aside0.mk hr1
  have HC1 := Aside0.mk hc1
  clear hr1 hc1
  have H : (if (l0.length : Int) = (l1.length : Int) then (api_Bucket.l0 k l0 l1 (l0.length : Int) 0) else (some false)) = some r := h
  clear h
  by_cases c3 : (l0.length : Int) = (l1.length : Int)
  · rw [if_pos c3] at H
    have c3b0 : ((l0.length : Int) == (l1.length : Int)) = true := beq_iff_eq.mpr c3
    have c3b1 : ((l0.length : Int) != (l1.length : Int)) = false := bne_eq_false_iff_eq.mpr c3
    have c3b2 : (l0.length == l1.length) = true := by first | simpa using c3 | (simp at c3 ⊢; omega)
    clear c3
    have H' := Aside0.mk H
    clear H
    go_enter Try.func81, Try.ntmps81
    go_wp2
    repeat (go_quiet (fail); try go_wp2)
    go_loopg [13] k (fun kq v13 w' => ∃ (x13_1 : Int), v13 = .int .i64 x13_1 ∧ Aside0 (api_Bucket.l0 kq l0 l1 (l0.length : Int) x13_1 = some r) ∧ Aside0 (kq ≤ k) ∧ Drawn0 w w')
    case atStart => exact ⟨(0), (by first | rfl | (simp; done) | (simp [*]; done)), H', ⟨Nat.le_refl _⟩, by repeat (first | exact Drawn0.refl _ | apply Drawn0.step)⟩
    case round =>
      clear H'
      try clear c1
      try clear p2
      try clear c3
      try clear c3b0
      try clear c3b1
      try clear c3b2
      obtain ⟨x13_1, rfl, HA, HK1, ⟨m1, rfl⟩⟩ := hrel
      cases gk with
      | zero => exact absurd HA.out (by simp [api_Bucket.l0])
      | succ k1 =>
        have H := HA.out
        clear HA
        simp only [api_Bucket.l0] at H
        by_cases c4 : x13_1 < (l0.length : Int)
        · rw [if_pos c4] at H
          have c4b0 : decide (x13_1 < (l0.length : Int)) = true := decide_eq_true c4
          clear c4
          by_cases c5 : 0 ≤ x13_1
          · rw [if_pos c5] at H
            have c5b0 : decide (0 ≤ x13_1) = true := decide_eq_true c5
            clear c5
            by_cases c6 : x13_1 < (l0.length : Int)
            · rw [if_pos c6] at H
              have c6b0 : decide (x13_1 < (l0.length : Int)) = true := decide_eq_true c6
              clear c6
              by_cases c7 : x13_1 < (l1.length : Int)
              · rw [if_pos c7] at H
                have c7b0 : decide (x13_1 < (l1.length : Int)) = true := decide_eq_true c7
                clear c7
                by_cases c8 : (!(((rd_T68 l0 x13_1).f0) == ((rd_T68 l1 x13_1).f0)) || (!(((rd_T68 l0 x13_1).f1) == ((rd_T68 l1 x13_1).f1)))) = true
                · rw [if_pos c8] at H
                  have c8b0 : (!(((rd_T68 l0 x13_1).f0) == ((rd_T68 l1 x13_1).f0)) || (!(((rd_T68 l0 x13_1).f1) == ((rd_T68 l1 x13_1).f1)))) = true := c8
                  clear c8
                  obtain rfl := Option.some.inj H
                  have p219 : 0 ≤ (x13_1 : Int) := of_decide_eq_true (by first | (with_reducible assumption) | assumption)
                  have q219 : x13_1 < (l0.length : Int) := of_decide_eq_true (by first | (with_reducible assumption) | assumption)
                  obtain ⟨ad219, e219, hx219_0, hx219_1⟩ := at_T68 HR0.out x13_1 p219 q219
                  cases e219
                  replace p219 := eq_true p219
                  replace q219 := eq_true q219
                  have p220 : 0 ≤ (x13_1 : Int) := of_decide_eq_true (by first | (with_reducible assumption) | assumption)
                  have q220 : x13_1 < (l1.length : Int) := of_decide_eq_true (by first | (with_reducible assumption) | assumption)
                  obtain ⟨ad220, e220, hx220_0, hx220_1⟩ := at_T68 HR1.out x13_1 p220 q220
                  cases e220
                  replace p220 := eq_true p220
                  replace q220 := eq_true q220
                  go_wp2
                  repeat (go_quiet (fail); try go_wp2)
                  go_ret
                  exact ⟨by first | rfl | (simp; done) | (simp [*]; done), by repeat (first | exact Drawn0.refl _ | apply Drawn0.step)⟩
                · rw [if_neg c8] at H
                  have c8b0 : (!(((rd_T68 l0 x13_1).f0) == ((rd_T68 l1 x13_1).f0)) || (!(((rd_T68 l0 x13_1).f1) == ((rd_T68 l1 x13_1).f1)))) = false := by simpa using c8
                  clear c8
                  have H' := Aside0.mk H
                  clear H
                  have p219 : 0 ≤ (x13_1 : Int) := of_decide_eq_true (by first | (with_reducible assumption) | assumption)
                  have q219 : x13_1 < (l0.length : Int) := of_decide_eq_true (by first | (with_reducible assumption) | assumption)
                  obtain ⟨ad219, e219, hx219_0, hx219_1⟩ := at_T68 HR0.out x13_1 p219 q219
                  cases e219
                  replace p219 := eq_true p219
                  replace q219 := eq_true q219
                  have p220 : 0 ≤ (x13_1 : Int) := of_decide_eq_true (by first | (with_reducible assumption) | assumption)
                  have q220 : x13_1 < (l1.length : Int) := of_decide_eq_true (by first | (with_reducible assumption) | assumption)
                  obtain ⟨ad220, e220, hx220_0, hx220_1⟩ := at_T68 HR1.out x13_1 p220 q220
                  cases e220
                  replace p220 := eq_true p220
                  replace q220 := eq_true q220
                  go_wp2
                  repeat (go_quiet (fail); try go_wp2)
                  go_roundg k1
                  case measure => have := HK1.out; omega
                  case rel => exact ⟨(wrap64 (x13_1 + 1)), (by first | rfl | (simp; done) | (simp [*]; done)), H', ⟨by have := HK1.out; omega⟩, by repeat (first | exact Drawn0.refl _ | apply Drawn0.step)⟩
              · rw [if_neg c7] at H
                exact absurd H (by simp)
            · rw [if_neg c6] at H
              exact absurd H (by simp)
          · rw [if_neg c5] at H
            exact absurd H (by simp)
        · rw [if_neg c4] at H
          have c4b0 : decide (x13_1 < (l0.length : Int)) = false := decide_eq_false c4
          clear c4
          obtain rfl := Option.some.inj H
          go_wp2
          repeat (go_quiet (fail); try go_wp2)
          go_ret
          exact ⟨by first | rfl | (simp; done) | (simp [*]; done), by repeat (first | exact Drawn0.refl _ | apply Drawn0.step)⟩
  · rw [if_neg c3] at H
    have c3b0 : ((l0.length : Int) == (l1.length : Int)) = false := beq_eq_false_iff_ne.mpr c3
    have c3b1 : ((l0.length : Int) != (l1.length : Int)) = true := bne_iff_ne.mpr c3
    have c3b2 : (l0.length == l1.length) = false := by first | simpa using c3 | (simp at c3 ⊢; omega)
    obtain rfl := Option.some.inj H
    go_enter Try.func81, Try.ntmps81
    go_wp2
    repeat (go_quiet (fail); try go_wp2)
    go_ret
    exact ⟨by first | rfl | (simp; done) | (simp [*]; done), by repeat (first | exact Drawn0.refl _ | apply Drawn0.step)⟩
def slices_Equal_uint64_uint64.l0 : Nat → List Int → List Int → Int → Int → Option (Bool)
  | 0, _, _, _, _ => none
  | k + 1, x0, x1, x12, x13 => if x13 < x12 then (if 0 ≤ x13 then (if x13 < (x0.length : Int) then (if x13 < (x1.length : Int) then (if (rd x0 x13) = (rd x1 x13) then (slices_Equal_uint64_uint64.l0 k x0 x1 x12 (wrap64 (x13 + 1))) else (some false)) else (none)) else (none)) else (none)) else (some true)
def slices_Equal_uint64_uint64.f (k : Nat) (l0 : List Int) (l1 : List Int) : Option (Bool) := if (l0.length : Int) = (l1.length : Int) then (slices_Equal_uint64_uint64.l0 k l0 l1 (l0.length : Int) 0) else (some false)
theorem slices_Equal_uint64_uint64.mono_l : ∀ k, (∀ y0 y1 y2 y3, LeO (slices_Equal_uint64_uint64.l0 k y0 y1 y2 y3) (slices_Equal_uint64_uint64.l0 (k + 1) y0 y1 y2 y3))
  | 0 => fun _ _ _ _ r h => by simp [slices_Equal_uint64_uint64.l0] at h
  | k + 1 => by
    have ih0 := slices_Equal_uint64_uint64.mono_l k
    · intro y0 y1 y2 y3
      unfold slices_Equal_uint64_uint64.l0
      repeat' first
      | (with_reducible exact ih0 _ _ _ _)
      | (with_reducible exact LeO.refl _)
      | (with_reducible exact LeO.none _)
      | (with_reducible refine LeO.ite ?_ ?_)
      | (with_reducible refine LeO.bind ?_ (fun _ => ?_))
      | exact ih0 _ _ _ _
      | exact LeO.none _
      | refine LeO.ite ?_ ?_
      | refine LeO.bind ?_ (fun _ => ?_)
theorem slices_Equal_uint64_uint64.mono : ∀ a0 a1 k, LeO (slices_Equal_uint64_uint64.f k a0 a1) (slices_Equal_uint64_uint64.f (k + 1) a0 a1) := by
  intro a0 a1 k
  have ih0 := slices_Equal_uint64_uint64.mono_l k
  unfold slices_Equal_uint64_uint64.f
  repeat' first
      | (with_reducible exact ih0 _ _ _ _)
      | (with_reducible exact LeO.refl _)
      | (with_reducible exact LeO.none _)
      | (with_reducible refine LeO.ite ?_ ?_)
      | (with_reducible refine LeO.bind ?_ (fun _ => ?_))
      | exact ih0 _ _ _ _
      | exact LeO.none _
      | refine LeO.ite ?_ ?_
      | refine LeO.bind ?_ (fun _ => ?_)
set_option maxHeartbeats 8000000 in
set_option maxRecDepth 100000 in
theorem slices_Equal_uint64_uint64.calls (k : Nat) (A0 : Option Addr) (c0 : Nat) (l0 : List Int) (A1 : Option Addr) (c1 : Nat) (l1 : List Int) (r : Bool) (w : World) (hr0 : Kd.C (Kd.int .u64) w A0 l0.length l0) (hc0 : l0.length ≤ c0) (hr1 : Kd.C (Kd.int .u64) w A1 l1.length l1) (hc1 : l1.length ≤ c1) (h : slices_Equal_uint64_uint64.f k l0 l1 = some r) :
    Calls Try.prog 82 #[.slice A0 l0.length c0, .slice A1 l1.length c1] w fun e w' => e = .returned (.bool r) ∧ Drawn0 w w' := by
  have HR0 := Aside0.mk hr0
  have HC0 := Aside0.mk hc0
  clear hr0 hc0
  have HR1 := Aside0.mk hr1
  have HC1 := Aside0.mk hc1
  clear hr1 hc1
  have H : (if (l0.length : Int) = (l1.length : Int) then (slices_Equal_uint64_uint64.l0 k l0 l1 (l0.length : Int) 0) else (some false)) = some r := h
  clear h
  by_cases c3 : (l0.length : Int) = (l1.length : Int)
  · rw [if_pos c3] at H
    have c3b0 : ((l0.length : Int) == (l1.length : Int)) = true := beq_iff_eq.mpr c3
    have c3b1 : ((l0.length : Int) != (l1.length : Int)) = false := bne_eq_false_iff_eq.mpr c3
    have c3b2 : (l0.length == l1.length) = true := by first | simpa using c3 | (simp at c3 ⊢; omega)
    clear c3
    have H' := Aside0.mk H
    clear H
    go_enter Try.func82, Try.ntmps82
    go_wp2
    repeat (go_quiet (fail); try go_wp2)
    go_loopg [13] k (fun kq v13 w' => ∃ (x13_1 : Int), v13 = .int .i64 x13_1 ∧ Aside0 (slices_Equal_uint64_uint64.l0 kq l0 l1 (l0.length : Int) x13_1 = some r) ∧ Aside0 (kq ≤ k) ∧ Drawn0 w w')
    case atStart => exact ⟨(0), (by first | rfl | (simp; done) | (simp [*]; done)), H', ⟨Nat.le_refl _⟩, by repeat (first | exact Drawn0.refl _ | apply Drawn0.step)⟩
    case round =>
      clear H'
      try clear c1
      try clear p2
      try clear c3
      try clear c3b0
      try clear c3b1
      try clear c3b2
      obtain ⟨x13_1, rfl, HA, HK1, ⟨m1, rfl⟩⟩ := hrel
      cases gk with
      | zero => exact absurd HA.out (by simp [slices_Equal_uint64_uint64.l0])
      | succ k1 =>
        have H := HA.out
        clear HA
        simp only [slices_Equal_uint64_uint64.l0] at H
        by_cases c4 : x13_1 < (l0.length : Int)
        · rw [if_pos c4] at H
          have c4b0 : decide (x13_1 < (l0.length : Int)) = true := decide_eq_true c4
          clear c4
          by_cases c5 : 0 ≤ x13_1
          · rw [if_pos c5] at H
            have c5b0 : decide (0 ≤ x13_1) = true := decide_eq_true c5
            clear c5
            by_cases c6 : x13_1 < (l0.length : Int)
            · rw [if_pos c6] at H
              have c6b0 : decide (x13_1 < (l0.length : Int)) = true := decide_eq_true c6
              clear c6
              by_cases c7 : x13_1 < (l1.length : Int)
              · rw [if_pos c7] at H
                have c7b0 : decide (x13_1 < (l1.length : Int)) = true := decide_eq_true c7
                clear c7
                by_cases c8 : (rd l0 x13_1) = (rd l1 x13_1)
                · rw [if_pos c8] at H
                  have c8b0 : ((rd l0 x13_1) == (rd l1 x13_1)) = true := beq_iff_eq.mpr c8
                  have c8b1 : ((rd l0 x13_1) != (rd l1 x13_1)) = false := bne_eq_false_iff_eq.mpr c8
                  clear c8
                  have H' := Aside0.mk H
                  clear H
                  have p221 : 0 ≤ (x13_1 : Int) := of_decide_eq_true (by first | (with_reducible assumption) | assumption)
                  have q221 : x13_1 < (l0.length : Int) := of_decide_eq_true (by first | (with_reducible assumption) | assumption)
                  obtain ⟨ad221, e221, hx221_0⟩ := Kd.at_int HR0.out x13_1 p221 q221
                  cases e221
                  replace p221 := eq_true p221
                  replace q221 := eq_true q221
                  have p222 : 0 ≤ (x13_1 : Int) := of_decide_eq_true (by first | (with_reducible assumption) | assumption)
                  have q222 : x13_1 < (l1.length : Int) := of_decide_eq_true (by first | (with_reducible assumption) | assumption)
                  obtain ⟨ad222, e222, hx222_0⟩ := Kd.at_int HR1.out x13_1 p222 q222
                  cases e222
                  replace p222 := eq_true p222
                  replace q222 := eq_true q222
                  go_wp2
                  repeat (go_quiet (fail); try go_wp2)
                  go_roundg k1
                  case measure => have := HK1.out; omega
                  case rel => exact ⟨(wrap64 (x13_1 + 1)), (by first | rfl | (simp; done) | (simp [*]; done)), H', ⟨by have := HK1.out; omega⟩, by repeat (first | exact Drawn0.refl _ | apply Drawn0.step)⟩
                · rw [if_neg c8] at H
                  have c8b0 : ((rd l0 x13_1) == (rd l1 x13_1)) = false := beq_eq_false_iff_ne.mpr c8
                  have c8b1 : ((rd l0 x13_1) != (rd l1 x13_1)) = true := bne_iff_ne.mpr c8
                  obtain rfl := Option.some.inj H
                  have p221 : 0 ≤ (x13_1 : Int) := of_decide_eq_true (by first | (with_reducible assumption) | assumption)
                  have q221 : x13_1 < (l0.length : Int) := of_decide_eq_true (by first | (with_reducible assumption) | assumption)
                  obtain ⟨ad221, e221, hx221_0⟩ := Kd.at_int HR0.out x13_1 p221 q221
                  cases e221
                  replace p221 := eq_true p221
                  replace q221 := eq_true q221
                  have p222 : 0 ≤ (x13_1 : Int) := of_decide_eq_true (by first | (with_reducible assumption) | assumption)
                  have q222 : x13_1 < (l1.length : Int) := of_decide_eq_true (by first | (with_reducible assumption) | assumption)
                  obtain ⟨ad222, e222, hx222_0⟩ := Kd.at_int HR1.out x13_1 p222 q222
                  cases e222
                  replace p222 := eq_true p222
                  replace q222 := eq_true q222
                  go_wp2
                  repeat (go_quiet (fail); try go_wp2)
                  go_ret
                  exact ⟨by first | rfl | (simp; done) | (simp [*]; done), by repeat (first | exact Drawn0.refl _ | apply Drawn0.step)⟩
              · rw [if_neg c7] at H
                exact absurd H (by simp)
            · rw [if_neg c6] at H
              exact absurd H (by simp)
          · rw [if_neg c5] at H
            exact absurd H (by simp)
        · rw [if_neg c4] at H
          have c4b0 : decide (x13_1 < (l0.length : Int)) = false := decide_eq_false c4
          clear c4
          obtain rfl := Option.some.inj H
          go_wp2
          repeat (go_quiet (fail); try go_wp2)
          go_ret
          exact ⟨by first | rfl | (simp; done) | (simp [*]; done), by repeat (first | exact Drawn0.refl _ | apply Drawn0.step)⟩
  · rw [if_neg c3] at H
    have c3b0 : ((l0.length : Int) == (l1.length : Int)) = false := beq_eq_false_iff_ne.mpr c3
    have c3b1 : ((l0.length : Int) != (l1.length : Int)) = true := bne_iff_ne.mpr c3
    have c3b2 : (l0.length == l1.length) = false := by first | simpa using c3 | (simp at c3 ⊢; omega)
    obtain rfl := Option.some.inj H
    go_enter Try.func82, Try.ntmps82
    go_wp2
    repeat (go_quiet (fail); try go_wp2)
    go_ret
    exact ⟨by first | rfl | (simp; done) | (simp [*]; done), by repeat (first | exact Drawn0.refl _ | apply Drawn0.step)⟩
def pair_Same.f (k : Nat) (l0_0 : List (S68)) (l0_1 : List Int) (a0_2 : Int) (a0_3 : Int) (a0_4 : Int) (a0_5 : Int) (l1_0 : List (S68)) (l1_1 : List Int) (a1_2 : Int) (a1_3 : Int) (a1_4 : Int) (a1_5 : Int) : Option (Bool) := (api_Bucket.f k l0_0 l1_0).bind fun t225 => (if t225 = true then ((slices_Equal_uint64_uint64.f k l0_1 l1_1).bind fun t226 => (if t226 = true then (some (a0_2 == a1_2 && (a0_3 == a1_3 && (a0_4 == a1_4 && (a0_5 == a1_5))))) else (some false))) else (some false))
theorem pair_Same.mono : ∀ a0 a1 a2 a3 a4 a5 a6 a7 a8 a9 a10 a11 k, LeO (pair_Same.f k a0 a1 a2 a3 a4 a5 a6 a7 a8 a9 a10 a11) (pair_Same.f (k + 1) a0 a1 a2 a3 a4 a5 a6 a7 a8 a9 a10 a11) := by
  intro a0 a1 a2 a3 a4 a5 a6 a7 a8 a9 a10 a11 k
  unfold pair_Same.f
  repeat' first
      | (with_reducible exact api_Bucket.mono _ _ _)
      | (with_reducible exact slices_Equal_uint64_uint64.mono _ _ _)
      | (with_reducible exact LeO.refl _)
      | (with_reducible exact LeO.none _)
      | (with_reducible refine LeO.ite ?_ ?_)
      | (with_reducible refine LeO.bind ?_ (fun _ => ?_))
      | exact api_Bucket.mono _ _ _
      | exact slices_Equal_uint64_uint64.mono _ _ _
      | exact LeO.none _
      | refine LeO.ite ?_ ?_
      | refine LeO.bind ?_ (fun _ => ?_)
set_option maxHeartbeats 8000000 in
set_option maxRecDepth 100000 in
theorem pair_Same.calls (k : Nat) (A0_0 : Option Addr) (c0_0 : Nat) (l0_0 : List (S68)) (A0_1 : Option Addr) (c0_1 : Nat) (l0_1 : List Int) (a0_2 : Int) (a0_3 : Int) (a0_4 : Int) (a0_5 : Int) (A1_0 : Option Addr) (c1_0 : Nat) (l1_0 : List (S68)) (A1_1 : Option Addr) (c1_1 : Nat) (l1_1 : List Int) (a1_2 : Int) (a1_3 : Int) (a1_4 : Int) (a1_5 : Int) (r : Bool) (w : World) (hr0_0 : Kd.C k68 w A0_0 l0_0.length l0_0) (hc0_0 : l0_0.length ≤ c0_0) (hr0_1 : Kd.C (Kd.int .u64) w A0_1 l0_1.length l0_1) (hc0_1 : l0_1.length ≤ c0_1) (hr1_0 : Kd.C k68 w A1_0 l1_0.length l1_0) (hc1_0 : l1_0.length ≤ c1_0) (hr1_1 : Kd.C (Kd.int .u64) w A1_1 l1_1.length l1_1) (hc1_1 : l1_1.length ≤ c1_1) (h : pair_Same.f k l0_0 l0_1 a0_2 a0_3 a0_4 a0_5 l1_0 l1_1 a1_2 a1_3 a1_4 a1_5 = some r) :
    Calls Try.prog 42 #[.agg #[.slice A0_0 l0_0.length c0_0, .slice A0_1 l0_1.length c0_1, .int .u64 a0_2, .int .u64 a0_3, .int .u64 a0_4, .int .u64 a0_5], .agg #[.slice A1_0 l1_0.length c1_0, .slice A1_1 l1_1.length c1_1, .int .u64 a1_2, .int .u64 a1_3, .int .u64 a1_4, .int .u64 a1_5]] w fun e w' => e = .returned (.bool r) ∧ Below w.heap.size w w' := by
  have hu45 := Try.underlying45
  have hu43 := Try.underlying43
  have HR0_0 := Aside0.mk hr0_0
  have HC0_0 := Aside0.mk hc0_0
  clear hr0_0 hc0_0
  have HR0_1 := Aside0.mk hr0_1
  have HC0_1 := Aside0.mk hc0_1
  clear hr0_1 hc0_1
  have HR1_0 := Aside0.mk hr1_0
  have HC1_0 := Aside0.mk hc1_0
  clear hr1_0 hc1_0
  have HR1_1 := Aside0.mk hr1_1
  have HC1_1 := Aside0.mk hc1_1
  clear hr1_1 hc1_1
  have HB := Aside0.mk (Below.refl w.heap.size w)
  have H : ((api_Bucket.f k l0_0 l1_0).bind fun t225 => (if t225 = true then ((slices_Equal_uint64_uint64.f k l0_1 l1_1).bind fun t226 => (if t226 = true then (some (a0_2 == a1_2 && (a0_3 == a1_3 && (a0_4 == a1_4 && (a0_5 == a1_5))))) else (some false))) else (some false))) = some r := h
  clear h
  replace H := Option.bind_eq_some_iff.mp H
  obtain ⟨t225, A30, H⟩ := H
  replace H : (if t225 = true then ((slices_Equal_uint64_uint64.f k l0_1 l1_1).bind fun t226 => (if t226 = true then (some (a0_2 == a1_2 && (a0_3 == a1_3 && (a0_4 == a1_4 && (a0_5 == a1_5))))) else (some false))) else (some false)) = some r := H
  have A3 := Aside0.mk A30
  clear A30
  by_cases c4 : t225 = true
  · subst c4
    have H1 : ((slices_Equal_uint64_uint64.f k l0_1 l1_1).bind fun t226 => (if t226 = true then (some (a0_2 == a1_2 && (a0_3 == a1_3 && (a0_4 == a1_4 && (a0_5 == a1_5))))) else (some false))) = some r := by rw [if_pos rfl] at H; exact H
    clear H
    have H := H1
    clear H1
    replace H := Option.bind_eq_some_iff.mp H
    obtain ⟨t226, A50, H⟩ := H
    replace H : (if t226 = true then (some (a0_2 == a1_2 && (a0_3 == a1_3 && (a0_4 == a1_4 && (a0_5 == a1_5))))) else (some false)) = some r := H
    have A5 := Aside0.mk A50
    clear A50
    by_cases c6 : t226 = true
    · subst c6
      have H1 : (some (a0_2 == a1_2 && (a0_3 == a1_3 && (a0_4 == a1_4 && (a0_5 == a1_5))))) = some r := by rw [if_pos rfl] at H; exact H
      clear H
      have H := H1
      clear H1
      obtain rfl := Option.some.inj H
      go_enter Try.func42, Try.ntmps42
      go_wp2_with (first | ((with_reducible refine gate_dst (N := 2) rfl ?_); refine box_event ?hg (N := 2) ?hd (cs := #[.slice A0_0 l0_0.length c0_0, .slice A0_1 l0_1.length c0_1, .int .u64 a0_2, .int .u64 a0_3, .int .u64 a0_4, .int .u64 a0_5]) (t := 45) ?hr ?_; (case hd => rfl); (case hg => rfl); (case hr => first | (go_simp; done) | (go_simp; rfl)); intro gb223 hg w7 hbox hb; have n0_ := Aside0.mk (below_step (by repeat (first | (with_reducible first | exact HB.out | apply below_alloc | apply pw_below_drewN | apply below_drew1) | exact HB.out)) hb); have n1_ := Aside0.mk (hbox); have n2_ := Aside0.mk ((by rw [hg]; exact (below_size (by repeat (first | (with_reducible first | exact HB.out | apply below_alloc | apply pw_below_drewN | apply below_drew1) | exact HB.out))) : w.heap.size ≤ gb223)); have n3_ := Aside0.mk ((by rw [hg]; exact (below_size (by repeat (first | (with_reducible first | exact HB.out | apply below_alloc | apply pw_below_drewN | apply below_drew1) | exact HB.out))) : w.heap.size ≤ gb223)); clear HB; have HB := n0_; have BK223 := n1_; have GW223 := n2_; have GE223 := n3_; clear n0_ n1_ n2_ n3_; clear hb hbox hg) | ((with_reducible refine gate_dst (N := 3) rfl ?_); refine box_event ?hg (N := 3) ?hd (cs := #[.slice A1_0 l1_0.length c1_0, .slice A1_1 l1_1.length c1_1, .int .u64 a1_2, .int .u64 a1_3, .int .u64 a1_4, .int .u64 a1_5]) (t := 45) ?hr ?_; (case hd => rfl); (case hg => rfl); (case hr => first | (go_simp; done) | (go_simp; rfl)); intro gb224 hg w8 hbox hb; have n0_ := Aside0.mk (blk_below (g := gb223) (o := .cells #[.slice A0_0 l0_0.length c0_0, .slice A0_1 l0_1.length c0_1, .int .u64 a0_2, .int .u64 a0_3, .int .u64 a0_4, .int .u64 a0_5] 45 (0, 0)) (by (with_reducible repeat (first | refine blk_drewN ?_ _ | refine blk_drew ?_ | refine blk_alloc ?_ _)); exact BK223.out) hb); have n1_ := Aside0.mk (below_step (by repeat (first | (with_reducible first | exact HB.out | apply below_alloc | apply pw_below_drewN | apply below_drew1 | refine below_set ?_ GE223.out) | exact HB.out)) hb); have n2_ := Aside0.mk (hbox); have n3_ := Aside0.mk ((by rw [hg]; exact (below_size (by repeat (first | (with_reducible first | exact HB.out | apply below_alloc | apply pw_below_drewN | apply below_drew1 | refine below_set ?_ GE223.out) | exact HB.out))) : w.heap.size ≤ gb224)); have n4_ := Aside0.mk ((by rw [hg]; exact (below_size (by repeat (first | (with_reducible first | exact HB.out | apply below_alloc | apply pw_below_drewN | apply below_drew1 | refine below_set ?_ GE223.out) | exact HB.out))) : w.heap.size ≤ gb224)); have n5_ := Aside0.mk ((by rw [hg]; exact Nat.ne_of_lt (blk_lt (g := gb223) (o := .cells #[.slice A0_0 l0_0.length c0_0, .slice A0_1 l0_1.length c0_1, .int .u64 a0_2, .int .u64 a0_3, .int .u64 a0_4, .int .u64 a0_5] 45 (0, 0)) (by (with_reducible repeat (first | refine blk_drewN ?_ _ | refine blk_drew ?_ | refine blk_alloc ?_ _)); exact BK223.out)) : gb223 ≠ gb224)); have n6_ := Aside0.mk ((by rw [hg]; exact Nat.ne_of_gt (blk_lt (g := gb223) (o := .cells #[.slice A0_0 l0_0.length c0_0, .slice A0_1 l0_1.length c0_1, .int .u64 a0_2, .int .u64 a0_3, .int .u64 a0_4, .int .u64 a0_5] 45 (0, 0)) (by (with_reducible repeat (first | refine blk_drewN ?_ _ | refine blk_drew ?_ | refine blk_alloc ?_ _)); exact BK223.out)) : gb224 ≠ gb223)); clear BK223; clear HB; have BK223 := n0_; have HB := n1_; have BK224 := n2_; have GW224 := n3_; have GE224 := n4_; have NB223_224 := n5_; have NB224_223 := n6_; clear n0_ n1_ n2_ n3_ n4_ n5_ n6_; clear hb hbox hg; have hnb9 := NB223_224.out; have hnc9 := NB224_223.out; have hcz10_0 : w8.cell? ⟨gb223, 0, none⟩ = some (.slice A0_0 l0_0.length c0_0) := (blk_cell BK223.out 0).trans rfl; have hcz10_1 : w8.cell? ⟨gb223, 1, none⟩ = some (.slice A0_1 l0_1.length c0_1) := (blk_cell BK223.out 1).trans rfl; have hcz10_2 : w8.cell? ⟨gb223, 2, none⟩ = some (.int .u64 a0_2) := (blk_cell BK223.out 2).trans rfl; have hcz10_3 : w8.cell? ⟨gb223, 3, none⟩ = some (.int .u64 a0_3) := (blk_cell BK223.out 3).trans rfl; have hcz10_4 : w8.cell? ⟨gb223, 4, none⟩ = some (.int .u64 a0_4) := (blk_cell BK223.out 4).trans rfl; have hcz10_5 : w8.cell? ⟨gb223, 5, none⟩ = some (.int .u64 a0_5) := (blk_cell BK223.out 5).trans rfl; have hfz10_0 := blk_frozen BK223.out 0; have hfz10_1 := blk_frozen BK223.out 1; have hfz10_2 := blk_frozen BK223.out 2; have hfz10_3 := blk_frozen BK223.out 3; have hfz10_4 := blk_frozen BK223.out 4; have hfz10_5 := blk_frozen BK223.out 5; have hcz11_0 : w8.cell? ⟨gb224, 0, none⟩ = some (.slice A1_0 l1_0.length c1_0) := (blk_cell BK224.out 0).trans rfl; have hcz11_1 : w8.cell? ⟨gb224, 1, none⟩ = some (.slice A1_1 l1_1.length c1_1) := (blk_cell BK224.out 1).trans rfl; have hcz11_2 : w8.cell? ⟨gb224, 2, none⟩ = some (.int .u64 a1_2) := (blk_cell BK224.out 2).trans rfl; have hcz11_3 : w8.cell? ⟨gb224, 3, none⟩ = some (.int .u64 a1_3) := (blk_cell BK224.out 3).trans rfl; have hcz11_4 : w8.cell? ⟨gb224, 4, none⟩ = some (.int .u64 a1_4) := (blk_cell BK224.out 4).trans rfl; have hcz11_5 : w8.cell? ⟨gb224, 5, none⟩ = some (.int .u64 a1_5) := (blk_cell BK224.out 5).trans rfl; have hfz11_0 := blk_frozen BK224.out 0; have hfz11_1 := blk_frozen BK224.out 1; have hfz11_2 := blk_frozen BK224.out 2; have hfz11_3 := blk_frozen BK224.out 3; have hfz11_4 := blk_frozen BK224.out 4; have hfz11_5 := blk_frozen BK224.out 5) | ((with_reducible refine gate_callee (f := 81) rfl ?_); refine goesL_ (some 9) rfl rfl Try.func81 (by kernel_rfl) rfl #[.slice A0_0 l0_0.length c0_0, .slice A1_0 l1_0.length c1_0] rfl (by (try simp only [List.map_toArray, List.map_cons, List.map_nil]); first | done | rfl | (simp only [List.length_drop, List.length_take]; rfl)) ?_; (with_reducible refine (api_Bucket.calls k _ _ l0_0 _ _ l1_0 true _ ?side1 ?side2 ?side3 ?side4 A3.out).mono ?_); (case side1 => repeat (first | exact (Kd.C_below HR0_0.out HB.out) | (with_reducible refine Kd.C_alloc ?_ _) | (with_reducible refine Kd.C_drewN ?_ _) | (with_reducible refine Kd.C_drew ?_))); (case side2 => exact HC0_0.out); (case side3 => repeat (first | exact (Kd.C_below HR1_0.out HB.out) | (with_reducible refine Kd.C_alloc ?_ _) | (with_reducible refine Kd.C_drewN ?_ _) | (with_reducible refine Kd.C_drew ?_))); (case side4 => exact HC1_0.out); rintro e w' ⟨rfl, ⟨nd, rfl⟩⟩; refine ⟨_, rfl, ?_⟩) | (go_at_call 82; (with_reducible refine (slices_Equal_uint64_uint64.calls k _ _ l0_1 _ _ l1_1 true _ ?side1 ?side2 ?side3 ?side4 A5.out).mono ?_); (case side1 => repeat (first | exact (Kd.C_below HR0_1.out (by repeat (first | (with_reducible first | exact HB.out | apply below_alloc | apply pw_below_drewN | apply below_drew1 | refine below_set ?_ GE223.out | refine below_set ?_ GE224.out) | exact HB.out))) | (with_reducible refine Kd.C_alloc ?_ _) | (with_reducible refine Kd.C_drewN ?_ _) | (with_reducible refine Kd.C_drew ?_))); (case side2 => exact HC0_1.out); (case side3 => repeat (first | exact (Kd.C_below HR1_1.out (by repeat (first | (with_reducible first | exact HB.out | apply below_alloc | apply pw_below_drewN | apply below_drew1 | refine below_set ?_ GE223.out | refine below_set ?_ GE224.out) | exact HB.out))) | (with_reducible refine Kd.C_alloc ?_ _) | (with_reducible refine Kd.C_drewN ?_ _) | (with_reducible refine Kd.C_drew ?_))); (case side4 => exact HC1_1.out); rintro e w' ⟨rfl, ⟨nd, rfl⟩⟩))
      go_ret
      exact ⟨by first | rfl | (simp [errW_none, errW_some] <;> rfl) | (simp [*, errW_none, errW_some] <;> rfl), by repeat (first | (with_reducible first | exact HB.out | apply below_alloc | apply pw_below_drewN | apply below_drew1 | refine below_set ?_ GE223.out | refine below_set ?_ GE224.out) | exact HB.out)⟩
    · replace c6 := Bool.eq_false_iff.mpr c6
      subst c6
      have H1 : (some false) = some r := by rw [if_neg (show ¬ (false = true) by decide)] at H; exact H
      clear H
      have H := H1
      clear H1
      obtain rfl := Option.some.inj H
      go_enter Try.func42, Try.ntmps42
      go_wp2_with (first | ((with_reducible refine gate_dst (N := 2) rfl ?_); refine box_event ?hg (N := 2) ?hd (cs := #[.slice A0_0 l0_0.length c0_0, .slice A0_1 l0_1.length c0_1, .int .u64 a0_2, .int .u64 a0_3, .int .u64 a0_4, .int .u64 a0_5]) (t := 45) ?hr ?_; (case hd => rfl); (case hg => rfl); (case hr => first | (go_simp; done) | (go_simp; rfl)); intro gb223 hg w12 hbox hb; have n0_ := Aside0.mk (below_step (by repeat (first | (with_reducible first | exact HB.out | apply below_alloc | apply pw_below_drewN | apply below_drew1) | exact HB.out)) hb); have n1_ := Aside0.mk (hbox); have n2_ := Aside0.mk ((by rw [hg]; exact (below_size (by repeat (first | (with_reducible first | exact HB.out | apply below_alloc | apply pw_below_drewN | apply below_drew1) | exact HB.out))) : w.heap.size ≤ gb223)); have n3_ := Aside0.mk ((by rw [hg]; exact (below_size (by repeat (first | (with_reducible first | exact HB.out | apply below_alloc | apply pw_below_drewN | apply below_drew1) | exact HB.out))) : w.heap.size ≤ gb223)); clear HB; have HB := n0_; have BK223 := n1_; have GW223 := n2_; have GE223 := n3_; clear n0_ n1_ n2_ n3_; clear hb hbox hg) | ((with_reducible refine gate_dst (N := 3) rfl ?_); refine box_event ?hg (N := 3) ?hd (cs := #[.slice A1_0 l1_0.length c1_0, .slice A1_1 l1_1.length c1_1, .int .u64 a1_2, .int .u64 a1_3, .int .u64 a1_4, .int .u64 a1_5]) (t := 45) ?hr ?_; (case hd => rfl); (case hg => rfl); (case hr => first | (go_simp; done) | (go_simp; rfl)); intro gb224 hg w13 hbox hb; have n0_ := Aside0.mk (blk_below (g := gb223) (o := .cells #[.slice A0_0 l0_0.length c0_0, .slice A0_1 l0_1.length c0_1, .int .u64 a0_2, .int .u64 a0_3, .int .u64 a0_4, .int .u64 a0_5] 45 (0, 0)) (by (with_reducible repeat (first | refine blk_drewN ?_ _ | refine blk_drew ?_ | refine blk_alloc ?_ _)); exact BK223.out) hb); have n1_ := Aside0.mk (below_step (by repeat (first | (with_reducible first | exact HB.out | apply below_alloc | apply pw_below_drewN | apply below_drew1 | refine below_set ?_ GE223.out) | exact HB.out)) hb); have n2_ := Aside0.mk (hbox); have n3_ := Aside0.mk ((by rw [hg]; exact (below_size (by repeat (first | (with_reducible first | exact HB.out | apply below_alloc | apply pw_below_drewN | apply below_drew1 | refine below_set ?_ GE223.out) | exact HB.out))) : w.heap.size ≤ gb224)); have n4_ := Aside0.mk ((by rw [hg]; exact (below_size (by repeat (first | (with_reducible first | exact HB.out | apply below_alloc | apply pw_below_drewN | apply below_drew1 | refine below_set ?_ GE223.out) | exact HB.out))) : w.heap.size ≤ gb224)); have n5_ := Aside0.mk ((by rw [hg]; exact Nat.ne_of_lt (blk_lt (g := gb223) (o := .cells #[.slice A0_0 l0_0.length c0_0, .slice A0_1 l0_1.length c0_1, .int .u64 a0_2, .int .u64 a0_3, .int .u64 a0_4, .int .u64 a0_5] 45 (0, 0)) (by (with_reducible repeat (first | refine blk_drewN ?_ _ | refine blk_drew ?_ | refine blk_alloc ?_ _)); exact BK223.out)) : gb223 ≠ gb224)); have n6_ := Aside0.mk ((by rw [hg]; exact Nat.ne_of_gt (blk_lt (g := gb223) (o := .cells #[.slice A0_0 l0_0.length c0_0, .slice A0_1 l0_1.length c0_1, .int .u64 a0_2, .int .u64 a0_3, .int .u64 a0_4, .int .u64 a0_5] 45 (0, 0)) (by (with_reducible repeat (first | refine blk_drewN ?_ _ | refine blk_drew ?_ | refine blk_alloc ?_ _)); exact BK223.out)) : gb224 ≠ gb223)); clear BK223; clear HB; have BK223 := n0_; have HB := n1_; have BK224 := n2_; have GW224 := n3_; have GE224 := n4_; have NB223_224 := n5_; have NB224_223 := n6_; clear n0_ n1_ n2_ n3_ n4_ n5_ n6_; clear hb hbox hg; have hnb14 := NB223_224.out; have hnc14 := NB224_223.out; have hcz15_0 : w13.cell? ⟨gb223, 0, none⟩ = some (.slice A0_0 l0_0.length c0_0) := (blk_cell BK223.out 0).trans rfl; have hcz15_1 : w13.cell? ⟨gb223, 1, none⟩ = some (.slice A0_1 l0_1.length c0_1) := (blk_cell BK223.out 1).trans rfl; have hcz15_2 : w13.cell? ⟨gb223, 2, none⟩ = some (.int .u64 a0_2) := (blk_cell BK223.out 2).trans rfl; have hcz15_3 : w13.cell? ⟨gb223, 3, none⟩ = some (.int .u64 a0_3) := (blk_cell BK223.out 3).trans rfl; have hcz15_4 : w13.cell? ⟨gb223, 4, none⟩ = some (.int .u64 a0_4) := (blk_cell BK223.out 4).trans rfl; have hcz15_5 : w13.cell? ⟨gb223, 5, none⟩ = some (.int .u64 a0_5) := (blk_cell BK223.out 5).trans rfl; have hfz15_0 := blk_frozen BK223.out 0; have hfz15_1 := blk_frozen BK223.out 1; have hfz15_2 := blk_frozen BK223.out 2; have hfz15_3 := blk_frozen BK223.out 3; have hfz15_4 := blk_frozen BK223.out 4; have hfz15_5 := blk_frozen BK223.out 5; have hcz16_0 : w13.cell? ⟨gb224, 0, none⟩ = some (.slice A1_0 l1_0.length c1_0) := (blk_cell BK224.out 0).trans rfl; have hcz16_1 : w13.cell? ⟨gb224, 1, none⟩ = some (.slice A1_1 l1_1.length c1_1) := (blk_cell BK224.out 1).trans rfl; have hcz16_2 : w13.cell? ⟨gb224, 2, none⟩ = some (.int .u64 a1_2) := (blk_cell BK224.out 2).trans rfl; have hcz16_3 : w13.cell? ⟨gb224, 3, none⟩ = some (.int .u64 a1_3) := (blk_cell BK224.out 3).trans rfl; have hcz16_4 : w13.cell? ⟨gb224, 4, none⟩ = some (.int .u64 a1_4) := (blk_cell BK224.out 4).trans rfl; have hcz16_5 : w13.cell? ⟨gb224, 5, none⟩ = some (.int .u64 a1_5) := (blk_cell BK224.out 5).trans rfl; have hfz16_0 := blk_frozen BK224.out 0; have hfz16_1 := blk_frozen BK224.out 1; have hfz16_2 := blk_frozen BK224.out 2; have hfz16_3 := blk_frozen BK224.out 3; have hfz16_4 := blk_frozen BK224.out 4; have hfz16_5 := blk_frozen BK224.out 5) | ((with_reducible refine gate_callee (f := 81) rfl ?_); refine goesL_ (some 9) rfl rfl Try.func81 (by kernel_rfl) rfl #[.slice A0_0 l0_0.length c0_0, .slice A1_0 l1_0.length c1_0] rfl (by (try simp only [List.map_toArray, List.map_cons, List.map_nil]); first | done | rfl | (simp only [List.length_drop, List.length_take]; rfl)) ?_; (with_reducible refine (api_Bucket.calls k _ _ l0_0 _ _ l1_0 true _ ?side1 ?side2 ?side3 ?side4 A3.out).mono ?_); (case side1 => repeat (first | exact (Kd.C_below HR0_0.out HB.out) | (with_reducible refine Kd.C_alloc ?_ _) | (with_reducible refine Kd.C_drewN ?_ _) | (with_reducible refine Kd.C_drew ?_))); (case side2 => exact HC0_0.out); (case side3 => repeat (first | exact (Kd.C_below HR1_0.out HB.out) | (with_reducible refine Kd.C_alloc ?_ _) | (with_reducible refine Kd.C_drewN ?_ _) | (with_reducible refine Kd.C_drew ?_))); (case side4 => exact HC1_0.out); rintro e w' ⟨rfl, ⟨nd, rfl⟩⟩; refine ⟨_, rfl, ?_⟩) | (go_at_call 82; (with_reducible refine (slices_Equal_uint64_uint64.calls k _ _ l0_1 _ _ l1_1 false _ ?side1 ?side2 ?side3 ?side4 A5.out).mono ?_); (case side1 => repeat (first | exact (Kd.C_below HR0_1.out (by repeat (first | (with_reducible first | exact HB.out | apply below_alloc | apply pw_below_drewN | apply below_drew1 | refine below_set ?_ GE223.out | refine below_set ?_ GE224.out) | exact HB.out))) | (with_reducible refine Kd.C_alloc ?_ _) | (with_reducible refine Kd.C_drewN ?_ _) | (with_reducible refine Kd.C_drew ?_))); (case side2 => exact HC0_1.out); (case side3 => repeat (first | exact (Kd.C_below HR1_1.out (by repeat (first | (with_reducible first | exact HB.out | apply below_alloc | apply pw_below_drewN | apply below_drew1 | refine below_set ?_ GE223.out | refine below_set ?_ GE224.out) | exact HB.out))) | (with_reducible refine Kd.C_alloc ?_ _) | (with_reducible refine Kd.C_drewN ?_ _) | (with_reducible refine Kd.C_drew ?_))); (case side4 => exact HC1_1.out); rintro e w' ⟨rfl, ⟨nd, rfl⟩⟩))
      go_ret
      exact ⟨by first | rfl | (simp [errW_none, errW_some] <;> rfl) | (simp [*, errW_none, errW_some] <;> rfl), by repeat (first | (with_reducible first | exact HB.out | apply below_alloc | apply pw_below_drewN | apply below_drew1 | refine below_set ?_ GE223.out | refine below_set ?_ GE224.out) | exact HB.out)⟩
  · replace c4 := Bool.eq_false_iff.mpr c4
    subst c4
    have H1 : (some false) = some r := by rw [if_neg (show ¬ (false = true) by decide)] at H; exact H
    clear H
    have H := H1
    clear H1
    obtain rfl := Option.some.inj H
    go_enter Try.func42, Try.ntmps42
    go_wp2_with (first | ((with_reducible refine gate_dst (N := 2) rfl ?_); refine box_event ?hg (N := 2) ?hd (cs := #[.slice A0_0 l0_0.length c0_0, .slice A0_1 l0_1.length c0_1, .int .u64 a0_2, .int .u64 a0_3, .int .u64 a0_4, .int .u64 a0_5]) (t := 45) ?hr ?_; (case hd => rfl); (case hg => rfl); (case hr => first | (go_simp; done) | (go_simp; rfl)); intro gb223 hg w17 hbox hb; have n0_ := Aside0.mk (below_step (by repeat (first | (with_reducible first | exact HB.out | apply below_alloc | apply pw_below_drewN | apply below_drew1) | exact HB.out)) hb); have n1_ := Aside0.mk (hbox); have n2_ := Aside0.mk ((by rw [hg]; exact (below_size (by repeat (first | (with_reducible first | exact HB.out | apply below_alloc | apply pw_below_drewN | apply below_drew1) | exact HB.out))) : w.heap.size ≤ gb223)); have n3_ := Aside0.mk ((by rw [hg]; exact (below_size (by repeat (first | (with_reducible first | exact HB.out | apply below_alloc | apply pw_below_drewN | apply below_drew1) | exact HB.out))) : w.heap.size ≤ gb223)); clear HB; have HB := n0_; have BK223 := n1_; have GW223 := n2_; have GE223 := n3_; clear n0_ n1_ n2_ n3_; clear hb hbox hg) | ((with_reducible refine gate_dst (N := 3) rfl ?_); refine box_event ?hg (N := 3) ?hd (cs := #[.slice A1_0 l1_0.length c1_0, .slice A1_1 l1_1.length c1_1, .int .u64 a1_2, .int .u64 a1_3, .int .u64 a1_4, .int .u64 a1_5]) (t := 45) ?hr ?_; (case hd => rfl); (case hg => rfl); (case hr => first | (go_simp; done) | (go_simp; rfl)); intro gb224 hg w18 hbox hb; have n0_ := Aside0.mk (blk_below (g := gb223) (o := .cells #[.slice A0_0 l0_0.length c0_0, .slice A0_1 l0_1.length c0_1, .int .u64 a0_2, .int .u64 a0_3, .int .u64 a0_4, .int .u64 a0_5] 45 (0, 0)) (by (with_reducible repeat (first | refine blk_drewN ?_ _ | refine blk_drew ?_ | refine blk_alloc ?_ _)); exact BK223.out) hb); have n1_ := Aside0.mk (below_step (by repeat (first | (with_reducible first | exact HB.out | apply below_alloc | apply pw_below_drewN | apply below_drew1 | refine below_set ?_ GE223.out) | exact HB.out)) hb); have n2_ := Aside0.mk (hbox); have n3_ := Aside0.mk ((by rw [hg]; exact (below_size (by repeat (first | (with_reducible first | exact HB.out | apply below_alloc | apply pw_below_drewN | apply below_drew1 | refine below_set ?_ GE223.out) | exact HB.out))) : w.heap.size ≤ gb224)); have n4_ := Aside0.mk ((by rw [hg]; exact (below_size (by repeat (first | (with_reducible first | exact HB.out | apply below_alloc | apply pw_below_drewN | apply below_drew1 | refine below_set ?_ GE223.out) | exact HB.out))) : w.heap.size ≤ gb224)); have n5_ := Aside0.mk ((by rw [hg]; exact Nat.ne_of_lt (blk_lt (g := gb223) (o := .cells #[.slice A0_0 l0_0.length c0_0, .slice A0_1 l0_1.length c0_1, .int .u64 a0_2, .int .u64 a0_3, .int .u64 a0_4, .int .u64 a0_5] 45 (0, 0)) (by (with_reducible repeat (first | refine blk_drewN ?_ _ | refine blk_drew ?_ | refine blk_alloc ?_ _)); exact BK223.out)) : gb223 ≠ gb224)); have n6_ := Aside0.mk ((by rw [hg]; exact Nat.ne_of_gt (blk_lt (g := gb223) (o := .cells #[.slice A0_0 l0_0.length c0_0, .slice A0_1 l0_1.length c0_1, .int .u64 a0_2, .int .u64 a0_3, .int .u64 a0_4, .int .u64 a0_5] 45 (0, 0)) (by (with_reducible repeat (first | refine blk_drewN ?_ _ | refine blk_drew ?_ | refine blk_alloc ?_ _)); exact BK223.out)) : gb224 ≠ gb223)); clear BK223; clear HB; have BK223 := n0_; have HB := n1_; have BK224 := n2_; have GW224 := n3_; have GE224 := n4_; have NB223_224 := n5_; have NB224_223 := n6_; clear n0_ n1_ n2_ n3_ n4_ n5_ n6_; clear hb hbox hg; have hnb19 := NB223_224.out; have hnc19 := NB224_223.out; have hcz20_0 : w18.cell? ⟨gb223, 0, none⟩ = some (.slice A0_0 l0_0.length c0_0) := (blk_cell BK223.out 0).trans rfl; have hcz20_1 : w18.cell? ⟨gb223, 1, none⟩ = some (.slice A0_1 l0_1.length c0_1) := (blk_cell BK223.out 1).trans rfl; have hcz20_2 : w18.cell? ⟨gb223, 2, none⟩ = some (.int .u64 a0_2) := (blk_cell BK223.out 2).trans rfl; have hcz20_3 : w18.cell? ⟨gb223, 3, none⟩ = some (.int .u64 a0_3) := (blk_cell BK223.out 3).trans rfl; have hcz20_4 : w18.cell? ⟨gb223, 4, none⟩ = some (.int .u64 a0_4) := (blk_cell BK223.out 4).trans rfl; have hcz20_5 : w18.cell? ⟨gb223, 5, none⟩ = some (.int .u64 a0_5) := (blk_cell BK223.out 5).trans rfl; have hfz20_0 := blk_frozen BK223.out 0; have hfz20_1 := blk_frozen BK223.out 1; have hfz20_2 := blk_frozen BK223.out 2; have hfz20_3 := blk_frozen BK223.out 3; have hfz20_4 := blk_frozen BK223.out 4; have hfz20_5 := blk_frozen BK223.out 5; have hcz21_0 : w18.cell? ⟨gb224, 0, none⟩ = some (.slice A1_0 l1_0.length c1_0) := (blk_cell BK224.out 0).trans rfl; have hcz21_1 : w18.cell? ⟨gb224, 1, none⟩ = some (.slice A1_1 l1_1.length c1_1) := (blk_cell BK224.out 1).trans rfl; have hcz21_2 : w18.cell? ⟨gb224, 2, none⟩ = some (.int .u64 a1_2) := (blk_cell BK224.out 2).trans rfl; have hcz21_3 : w18.cell? ⟨gb224, 3, none⟩ = some (.int .u64 a1_3) := (blk_cell BK224.out 3).trans rfl; have hcz21_4 : w18.cell? ⟨gb224, 4, none⟩ = some (.int .u64 a1_4) := (blk_cell BK224.out 4).trans rfl; have hcz21_5 : w18.cell? ⟨gb224, 5, none⟩ = some (.int .u64 a1_5) := (blk_cell BK224.out 5).trans rfl; have hfz21_0 := blk_frozen BK224.out 0; have hfz21_1 := blk_frozen BK224.out 1; have hfz21_2 := blk_frozen BK224.out 2; have hfz21_3 := blk_frozen BK224.out 3; have hfz21_4 := blk_frozen BK224.out 4; have hfz21_5 := blk_frozen BK224.out 5) | ((with_reducible refine gate_callee (f := 81) rfl ?_); refine goesL_ (some 9) rfl rfl Try.func81 (by kernel_rfl) rfl #[.slice A0_0 l0_0.length c0_0, .slice A1_0 l1_0.length c1_0] rfl (by (try simp only [List.map_toArray, List.map_cons, List.map_nil]); first | done | rfl | (simp only [List.length_drop, List.length_take]; rfl)) ?_; (with_reducible refine (api_Bucket.calls k _ _ l0_0 _ _ l1_0 false _ ?side1 ?side2 ?side3 ?side4 A3.out).mono ?_); (case side1 => repeat (first | exact (Kd.C_below HR0_0.out HB.out) | (with_reducible refine Kd.C_alloc ?_ _) | (with_reducible refine Kd.C_drewN ?_ _) | (with_reducible refine Kd.C_drew ?_))); (case side2 => exact HC0_0.out); (case side3 => repeat (first | exact (Kd.C_below HR1_0.out HB.out) | (with_reducible refine Kd.C_alloc ?_ _) | (with_reducible refine Kd.C_drewN ?_ _) | (with_reducible refine Kd.C_drew ?_))); (case side4 => exact HC1_0.out); rintro e w' ⟨rfl, ⟨nd, rfl⟩⟩; refine ⟨_, rfl, ?_⟩))
    go_ret
    exact ⟨by first | rfl | (simp [errW_none, errW_some] <;> rfl) | (simp [*, errW_none, errW_some] <;> rfl), by repeat (first | (with_reducible first | exact HB.out | apply below_alloc | apply pw_below_drewN | apply below_drew1 | refine below_set ?_ GE223.out | refine below_set ?_ GE224.out) | exact HB.out)⟩
def varvelaw00_Nums.f (l0 : List Int) : Option (List Int) := if ([] : List Int).length + l0.length < 17592186044416 then (some (([] : List Int) ++ l0)) else (none)
set_option maxHeartbeats 8000000 in
set_option maxRecDepth 100000 in
theorem varvelaw00_Nums.calls (A0 : Option Addr) (c0 : Nat) (l0 : List Int) (r : List Int) (w : World) (hr0 : Kd.C (Kd.int .u64) w A0 l0.length l0) (hc0 : l0.length ≤ c0) (h : varvelaw00_Nums.f l0 = some r) :
    Calls Try.prog 32 #[.slice A0 l0.length c0] w fun e w' => ∃ v0_ : Value, e = .returned (v0_) ∧ Kd.R (Kd.int .u64) 41 w' w.heap.size (fun _ => True) v0_ r ∧ Below w.heap.size w w' := by
  have HR0 := Aside0.mk hr0
  have HC0 := Aside0.mk hc0
  clear hr0 hc0
  have HB := Aside0.mk (Below.refl w.heap.size w)
  have H : (if ([] : List Int).length + l0.length < 17592186044416 then (some (([] : List Int) ++ l0)) else (none)) = some r := h
  clear h
  by_cases c2 : ([] : List Int).length + l0.length < 17592186044416
  · rw [if_pos c2] at H
    have LMc2 := Aside0.mk c2
    clear c2
    obtain ⟨y230, hy230⟩ : ∃ y_ : List Int, y_ = (([] : List Int) ++ l0) := ⟨_, rfl⟩
    replace H : (some y230) = some r := by first | (rw [hy230]; with_reducible exact H) | (have H2_ := (Option.bind_some _ _).symm.trans H; rw [hy230]; with_reducible exact H2_) | (have H2_ := (Option.bind_some _ _).symm.trans H; with_reducible exact H2_) | with_reducible exact H | (rw [hy230]; exact H) | exact H
    have Ny230 := Aside0.mk hy230
    clear hy230
    obtain rfl := Option.some.inj H
    go_enter Try.func32, Try.ntmps32
    go_wp2_with (first | ((with_reducible refine gate_builtin (b := .append) (xs := #[.const (.slice none 0 0), .tmp 3]) rfl ?_); at_builtin; refine Kd.R_append_rows (Kd.int .u64) (w0 := w) w.heap.size rfl (.const (.slice none 0 0)) (.tmp 3) 40 41 (.int .u64 0) 8 rfl Try.underlying40 info41 rfl (by decide) (by omega) (.slice none 0 0) ([] : List Int) l0 _ _ _ (fun _ => True) (fun _ => False) rfl rfl ?aO ?aR (fun _ _ h => h) (fun _ h => h.elim) ?aF ?aB ?aS ?aL ?_; (case aR => repeat (first | exact HR0.out | (with_reducible refine Kd.C_alloc ?_ _) | (with_reducible refine Kd.C_drewN ?_ _) | (with_reducible refine Kd.C_drew ?_))); (case aB => exact (by repeat (first | (with_reducible first | exact HB.out | apply below_alloc | apply pw_below_drewN | apply below_drew1) | exact HB.out))); (case aF => exact (fun _ _ => trivial)); (case aO => exact ((Kd.R_nil _ _ _ _ (fun _ => True)))); (case aS => exact (below_size (by repeat (first | (with_reducible first | exact HB.out | apply below_alloc | apply pw_below_drewN | apply below_drew1) | exact HB.out)))); (case aL => have := LMc2.out; omega); intro v231 w3 ho hb hg hat; rw [← Ny230.out] at ho; have n0_ := Aside0.mk (hb); have n1_ := Aside0.mk (ho); clear HB; have HB := n0_; have HO232 := n1_; clear n0_ n1_; clear ho hb hg hat))
    go_ret
    exact ⟨_, by first | rfl | (simp [errW_none, errW_some] <;> rfl) | (simp [*, errW_none, errW_some] <;> rfl), by (with_reducible repeat (first | apply Kd.R_alloc | apply Kd.R_drewN | apply Kd.R_drew)); exact HO232.out, by repeat (first | (with_reducible first | exact HB.out | apply below_alloc | apply pw_below_drewN | apply below_drew1) | exact HB.out)⟩
  · rw [if_neg c2] at H
    exact absurd H (by simp)
def varvelaw00_Sketch.f (l0_0 : List (S68)) (l0_1 : List Int) (a0_2 : Int) (a0_3 : Int) (a0_4 : Int) (a0_5 : Int) : Option ((List (S68)) × List Int × Int × Int × Int × Int) := (varvelaw00_Buckets.f l0_0).bind fun t235 => ((varvelaw00_Nums.f l0_1).bind fun t238 => (some (t235, t238, a0_2, a0_3, a0_4, a0_5)))
set_option maxHeartbeats 8000000 in
set_option maxRecDepth 100000 in
theorem varvelaw00_Sketch.calls (A0_0 : Option Addr) (c0_0 : Nat) (l0_0 : List (S68)) (A0_1 : Option Addr) (c0_1 : Nat) (l0_1 : List Int) (a0_2 : Int) (a0_3 : Int) (a0_4 : Int) (a0_5 : Int) (r1 : List (S68)) (r2 : List Int) (r3 : Int) (r4 : Int) (r5 : Int) (r6 : Int) (w : World) (hr0_0 : Kd.C k68 w A0_0 l0_0.length l0_0) (hc0_0 : l0_0.length ≤ c0_0) (hr0_1 : Kd.C (Kd.int .u64) w A0_1 l0_1.length l0_1) (hc0_1 : l0_1.length ≤ c0_1) (h : varvelaw00_Sketch.f l0_0 l0_1 a0_2 a0_3 a0_4 a0_5 = some (r1, r2, r3, r4, r5, r6)) :
    Calls Try.prog 39 #[.agg #[.slice A0_0 l0_0.length c0_0, .slice A0_1 l0_1.length c0_1, .int .u64 a0_2, .int .u64 a0_3, .int .u64 a0_4, .int .u64 a0_5]] w fun e w' => ∃ v0_ v1_ : Value, e = .returned (.agg #[v0_, v1_, .int .u64 r3, .int .u64 r4, .int .u64 r5, .int .u64 r6]) ∧ Kd.R k68 68 w' w.heap.size (fun _ => True) v0_ r1 ∧ Kd.R (Kd.int .u64) 41 w' w.heap.size (fun _ => True) v1_ r2 ∧ Below w.heap.size w w' := by
  have hu45 := Try.underlying45
  have HR0_0 := Aside0.mk hr0_0
  have HC0_0 := Aside0.mk hc0_0
  clear hr0_0 hc0_0
  have HR0_1 := Aside0.mk hr0_1
  have HC0_1 := Aside0.mk hc0_1
  clear hr0_1 hc0_1
  have HB := Aside0.mk (Below.refl w.heap.size w)
  have H : ((varvelaw00_Buckets.f l0_0).bind fun t235 => ((varvelaw00_Nums.f l0_1).bind fun t238 => (some (t235, t238, a0_2, a0_3, a0_4, a0_5)))) = some (r1, r2, r3, r4, r5, r6) := h
  clear h
  replace H := Option.bind_eq_some_iff.mp H
  obtain ⟨t235, A20, H⟩ := H
  replace H : ((varvelaw00_Nums.f l0_1).bind fun t238 => (some (t235, t238, a0_2, a0_3, a0_4, a0_5))) = some (r1, r2, r3, r4, r5, r6) := H
  have A2 := Aside0.mk A20
  clear A20
  replace H := Option.bind_eq_some_iff.mp H
  obtain ⟨t238, A30, H⟩ := H
  replace H : (some (t235, t238, a0_2, a0_3, a0_4, a0_5)) = some (r1, r2, r3, r4, r5, r6) := H
  have A3 := Aside0.mk A30
  clear A30
  simp only [Option.some.injEq, Prod.mk.injEq] at H
  obtain ⟨rfl, rfl, rfl, rfl, rfl, rfl⟩ := H
  go_enter Try.func39, Try.ntmps39
  go_wp2_with (first | ((with_reducible refine gate_dst (N := 1) rfl ?_); refine box_event ?hg (N := 1) ?hd (cs := #[.slice A0_0 l0_0.length c0_0, .slice A0_1 l0_1.length c0_1, .int .u64 a0_2, .int .u64 a0_3, .int .u64 a0_4, .int .u64 a0_5]) (t := 45) ?hr ?_; (case hd => rfl); (case hg => rfl); (case hr => first | (go_simp; done) | (go_simp; rfl)); intro gb233 hg w4 hbox hb; have n0_ := Aside0.mk (below_step (by repeat (first | (with_reducible first | exact HB.out | apply below_alloc | apply pw_below_drewN | apply below_drew1) | exact HB.out)) hb); have n1_ := Aside0.mk (hbox); have n2_ := Aside0.mk ((by rw [hg]; exact (below_size (by repeat (first | (with_reducible first | exact HB.out | apply below_alloc | apply pw_below_drewN | apply below_drew1) | exact HB.out))) : w.heap.size ≤ gb233)); have n3_ := Aside0.mk ((by rw [hg]; exact (below_size (by repeat (first | (with_reducible first | exact HB.out | apply below_alloc | apply pw_below_drewN | apply below_drew1) | exact HB.out))) : w.heap.size ≤ gb233)); clear HB; have HB := n0_; have BK233 := n1_; have GW233 := n2_; have GE233 := n3_; clear n0_ n1_ n2_ n3_; clear hb hbox hg) | ((with_reducible refine gate_dst (N := 2) rfl ?_); refine box_event ?hg (N := 2) ?hd (cs := #[.slice none 0 0, .slice none 0 0, .int .u64 0, .int .u64 0, .int .u64 0, .int .u64 0]) (t := 45) ?hr ?_; (case hd => rfl); (case hg => rfl); (case hr => first | (go_simp; done) | (go_simp; rfl)); intro gb234 hg w5 hbox hb; have n0_ := Aside0.mk (blk_below (g := gb233) (o := .cells #[.slice A0_0 l0_0.length c0_0, .slice A0_1 l0_1.length c0_1, .int .u64 a0_2, .int .u64 a0_3, .int .u64 a0_4, .int .u64 a0_5] 45 (0, 0)) (by (with_reducible repeat (first | refine blk_drewN ?_ _ | refine blk_drew ?_ | refine blk_alloc ?_ _)); exact BK233.out) hb); have n1_ := Aside0.mk (below_step (by repeat (first | (with_reducible first | exact HB.out | apply below_alloc | apply pw_below_drewN | apply below_drew1 | refine below_set ?_ GE233.out) | exact HB.out)) hb); have n2_ := Aside0.mk (hbox); have n3_ := Aside0.mk ((by rw [hg]; exact (below_size (by repeat (first | (with_reducible first | exact HB.out | apply below_alloc | apply pw_below_drewN | apply below_drew1 | refine below_set ?_ GE233.out) | exact HB.out))) : w.heap.size ≤ gb234)); have n4_ := Aside0.mk ((by rw [hg]; exact (below_size (by repeat (first | (with_reducible first | exact HB.out | apply below_alloc | apply pw_below_drewN | apply below_drew1 | refine below_set ?_ GE233.out) | exact HB.out))) : w.heap.size ≤ gb234)); have n5_ := Aside0.mk ((by rw [hg]; exact Nat.ne_of_lt (blk_lt (g := gb233) (o := .cells #[.slice A0_0 l0_0.length c0_0, .slice A0_1 l0_1.length c0_1, .int .u64 a0_2, .int .u64 a0_3, .int .u64 a0_4, .int .u64 a0_5] 45 (0, 0)) (by (with_reducible repeat (first | refine blk_drewN ?_ _ | refine blk_drew ?_ | refine blk_alloc ?_ _)); exact BK233.out)) : gb233 ≠ gb234)); have n6_ := Aside0.mk ((by rw [hg]; exact Nat.ne_of_gt (blk_lt (g := gb233) (o := .cells #[.slice A0_0 l0_0.length c0_0, .slice A0_1 l0_1.length c0_1, .int .u64 a0_2, .int .u64 a0_3, .int .u64 a0_4, .int .u64 a0_5] 45 (0, 0)) (by (with_reducible repeat (first | refine blk_drewN ?_ _ | refine blk_drew ?_ | refine blk_alloc ?_ _)); exact BK233.out)) : gb234 ≠ gb233)); clear BK233; clear HB; have BK233 := n0_; have HB := n1_; have BK234 := n2_; have GW234 := n3_; have GE234 := n4_; have NB233_234 := n5_; have NB234_233 := n6_; clear n0_ n1_ n2_ n3_ n4_ n5_ n6_; clear hb hbox hg; have hnb6 := NB233_234.out; have hnc6 := NB234_233.out; have hcz7_0 : w5.cell? ⟨gb233, 0, none⟩ = some (.slice A0_0 l0_0.length c0_0) := (blk_cell BK233.out 0).trans rfl; have hcz7_1 : w5.cell? ⟨gb233, 1, none⟩ = some (.slice A0_1 l0_1.length c0_1) := (blk_cell BK233.out 1).trans rfl; have hcz7_2 : w5.cell? ⟨gb233, 2, none⟩ = some (.int .u64 a0_2) := (blk_cell BK233.out 2).trans rfl; have hcz7_3 : w5.cell? ⟨gb233, 3, none⟩ = some (.int .u64 a0_3) := (blk_cell BK233.out 3).trans rfl; have hcz7_4 : w5.cell? ⟨gb233, 4, none⟩ = some (.int .u64 a0_4) := (blk_cell BK233.out 4).trans rfl; have hcz7_5 : w5.cell? ⟨gb233, 5, none⟩ = some (.int .u64 a0_5) := (blk_cell BK233.out 5).trans rfl; have hfz7_0 := blk_frozen BK233.out 0; have hfz7_1 := blk_frozen BK233.out 1; have hfz7_2 := blk_frozen BK233.out 2; have hfz7_3 := blk_frozen BK233.out 3; have hfz7_4 := blk_frozen BK233.out 4; have hfz7_5 := blk_frozen BK233.out 5) | ((with_reducible refine gate_callee (f := 22) rfl ?_); refine goesL_ (some 5) rfl rfl Try.func22 (by kernel_rfl) rfl #[.slice A0_0 l0_0.length c0_0] rfl (by (try simp only [List.map_toArray, List.map_cons, List.map_nil]); first | done | rfl | (simp only [List.length_drop, List.length_take]; rfl)) ?_; (with_reducible refine (varvelaw00_Buckets.calls _ _ l0_0 t235 _ ?side1 ?side2 A2.out).mono ?_); (case side1 => repeat (first | exact (Kd.C_below HR0_0.out HB.out) | (with_reducible refine Kd.C_alloc ?_ _) | (with_reducible refine Kd.C_drewN ?_ _) | (with_reducible refine Kd.C_drew ?_))); (case side2 => exact HC0_0.out); rintro e w8 ⟨v236, rfl, ho0, hb⟩; refine ⟨_, rfl, ?_⟩; have n0_ := Aside0.mk (Kd.R_lower ho0 (below_size (by repeat (first | (with_reducible first | exact HB.out | apply below_alloc | apply pw_below_drewN | apply below_drew1 | refine below_set ?_ GE233.out | refine below_set ?_ GE234.out) | exact HB.out)))); have n1_ := Aside0.mk (blk_below (g := gb233) (o := .cells #[.slice A0_0 l0_0.length c0_0, .slice A0_1 l0_1.length c0_1, .int .u64 a0_2, .int .u64 a0_3, .int .u64 a0_4, .int .u64 a0_5] 45 (0, 0)) (by (with_reducible repeat (first | refine blk_drewN ?_ _ | refine blk_drew ?_ | refine blk_alloc ?_ _)); exact BK233.out) hb); have n2_ := Aside0.mk (blk_below (g := gb234) (o := .cells #[.slice none 0 0, .slice none 0 0, .int .u64 0, .int .u64 0, .int .u64 0, .int .u64 0] 45 (0, 0)) (by (with_reducible repeat (first | refine blk_drewN ?_ _ | refine blk_drew ?_ | refine blk_alloc ?_ _)); exact BK234.out) hb); have n3_ := Aside0.mk (below_step (by repeat (first | (with_reducible first | exact HB.out | apply below_alloc | apply pw_below_drewN | apply below_drew1 | refine below_set ?_ GE233.out | refine below_set ?_ GE234.out) | exact HB.out)) hb); clear BK233; clear BK234; clear HB; have HO237 := n0_; have BK233 := n1_; have BK234 := n2_; have HB := n3_; clear n0_ n1_ n2_ n3_; (try clear hb); (try clear hb2); (try clear hk); (try clear hi); (try clear ho0); obtain ⟨Ao9, co9, eo9⟩ := Kd.R_slice HO237.out; subst eo9; have hcz10_0 : w8.cell? ⟨gb233, 0, none⟩ = some (.slice A0_0 l0_0.length c0_0) := (blk_cell BK233.out 0).trans rfl; have hcz10_1 : w8.cell? ⟨gb233, 1, none⟩ = some (.slice A0_1 l0_1.length c0_1) := (blk_cell BK233.out 1).trans rfl; have hcz10_2 : w8.cell? ⟨gb233, 2, none⟩ = some (.int .u64 a0_2) := (blk_cell BK233.out 2).trans rfl; have hcz10_3 : w8.cell? ⟨gb233, 3, none⟩ = some (.int .u64 a0_3) := (blk_cell BK233.out 3).trans rfl; have hcz10_4 : w8.cell? ⟨gb233, 4, none⟩ = some (.int .u64 a0_4) := (blk_cell BK233.out 4).trans rfl; have hcz10_5 : w8.cell? ⟨gb233, 5, none⟩ = some (.int .u64 a0_5) := (blk_cell BK233.out 5).trans rfl; have hfz10_0 := blk_frozen BK233.out 0; have hfz10_1 := blk_frozen BK233.out 1; have hfz10_2 := blk_frozen BK233.out 2; have hfz10_3 := blk_frozen BK233.out 3; have hfz10_4 := blk_frozen BK233.out 4; have hfz10_5 := blk_frozen BK233.out 5) | ((with_reducible refine gate_callee (f := 32) rfl ?_); refine goesL_ (some 9) rfl rfl Try.func32 (by kernel_rfl) rfl #[.slice A0_1 l0_1.length c0_1] rfl (by (try simp only [List.map_toArray, List.map_cons, List.map_nil]); first | done | rfl | (simp only [List.length_drop, List.length_take]; rfl)) ?_; (with_reducible refine (varvelaw00_Nums.calls _ _ l0_1 t238 _ ?side1 ?side2 A3.out).mono ?_); (case side1 => exact Kd.C_below HR0_1.out (by repeat (first | (with_reducible first | exact HB.out | apply below_alloc | apply pw_below_drewN | apply below_drew1 | refine below_set ?_ GE233.out | refine below_set ?_ GE234.out) | exact HB.out))); (case side2 => exact HC0_1.out); rintro e w11 ⟨v239, rfl, ho0, hb⟩; refine ⟨_, rfl, ?_⟩; have n0_ := Aside0.mk (Kd.R_below (by (with_reducible repeat (first | apply Kd.R_alloc | apply Kd.R_drewN | apply Kd.R_drew)); exact (Kd.R_mono (Kd.R_far (p := ⟨gb233, 0, none⟩) (Kd.R_types HO237.out BK233.out (by decide)) (fun _ hk => hk.2) (.slice Ao9 t235.length co9)) (fun _ h_ => h_.1))) hb); have n1_ := Aside0.mk (Kd.R_lower ho0 (below_size (by repeat (first | (with_reducible first | exact HB.out | apply below_alloc | apply pw_below_drewN | apply below_drew1 | refine below_set ?_ GE233.out | refine below_set ?_ GE234.out) | exact HB.out)))); have n2_ := Aside0.mk (blk_below (g := gb233) (o := .cells #[.slice Ao9 t235.length co9, .slice A0_1 l0_1.length c0_1, .int .u64 a0_2, .int .u64 a0_3, .int .u64 a0_4, .int .u64 a0_5] 45 (0, 0)) (by (with_reducible repeat (first | refine blk_drewN ?_ _ | refine blk_drew ?_ | refine blk_alloc ?_ _)); refine blk_put (cs := #[.slice A0_0 l0_0.length c0_0, .slice A0_1 l0_1.length c0_1, .int .u64 a0_2, .int .u64 a0_3, .int .u64 a0_4, .int .u64 a0_5]) ?_ 0 _ rfl; (with_reducible repeat (first | refine blk_drewN ?_ _ | refine blk_drew ?_ | refine blk_alloc ?_ _)); exact BK233.out) hb); have n3_ := Aside0.mk (blk_below (g := gb234) (o := .cells #[.slice none 0 0, .slice none 0 0, .int .u64 0, .int .u64 0, .int .u64 0, .int .u64 0] 45 (0, 0)) (by (with_reducible repeat (first | refine blk_drewN ?_ _ | refine blk_drew ?_ | refine blk_alloc ?_ _)); refine blk_far ?_ NB234_233.out _; (with_reducible repeat (first | refine blk_drewN ?_ _ | refine blk_drew ?_ | refine blk_alloc ?_ _)); exact BK234.out) hb); have n4_ := Aside0.mk (below_step (by repeat (first | (with_reducible first | exact HB.out | apply below_alloc | apply pw_below_drewN | apply below_drew1 | refine below_set ?_ GE233.out | refine below_set ?_ GE234.out) | exact HB.out)) hb); clear HO237; clear BK233; clear BK234; clear HB; have HO237 := n0_; have HO240 := n1_; have BK233 := n2_; have BK234 := n3_; have HB := n4_; clear n0_ n1_ n2_ n3_ n4_; (try clear hb); (try clear hb2); (try clear hk); (try clear hi); (try clear ho0); obtain ⟨Ao12, co12, eo12⟩ := Kd.R_slice HO240.out; subst eo12; have hcz13_0 : w11.cell? ⟨gb233, 0, none⟩ = some (.slice Ao9 t235.length co9) := (blk_cell BK233.out 0).trans rfl; have hcz13_1 : w11.cell? ⟨gb233, 1, none⟩ = some (.slice A0_1 l0_1.length c0_1) := (blk_cell BK233.out 1).trans rfl; have hcz13_2 : w11.cell? ⟨gb233, 2, none⟩ = some (.int .u64 a0_2) := (blk_cell BK233.out 2).trans rfl; have hcz13_3 : w11.cell? ⟨gb233, 3, none⟩ = some (.int .u64 a0_3) := (blk_cell BK233.out 3).trans rfl; have hcz13_4 : w11.cell? ⟨gb233, 4, none⟩ = some (.int .u64 a0_4) := (blk_cell BK233.out 4).trans rfl; have hcz13_5 : w11.cell? ⟨gb233, 5, none⟩ = some (.int .u64 a0_5) := (blk_cell BK233.out 5).trans rfl; have hfz13_0 := blk_frozen BK233.out 0; have hfz13_1 := blk_frozen BK233.out 1; have hfz13_2 := blk_frozen BK233.out 2; have hfz13_3 := blk_frozen BK233.out 3; have hfz13_4 := blk_frozen BK233.out 4; have hfz13_5 := blk_frozen BK233.out 5; have hcz14_0 : w11.cell? ⟨gb234, 0, none⟩ = some (.slice none 0 0) := (blk_cell BK234.out 0).trans rfl; have hcz14_1 : w11.cell? ⟨gb234, 1, none⟩ = some (.slice none 0 0) := (blk_cell BK234.out 1).trans rfl; have hcz14_2 : w11.cell? ⟨gb234, 2, none⟩ = some (.int .u64 0) := (blk_cell BK234.out 2).trans rfl; have hcz14_3 : w11.cell? ⟨gb234, 3, none⟩ = some (.int .u64 0) := (blk_cell BK234.out 3).trans rfl; have hcz14_4 : w11.cell? ⟨gb234, 4, none⟩ = some (.int .u64 0) := (blk_cell BK234.out 4).trans rfl; have hcz14_5 : w11.cell? ⟨gb234, 5, none⟩ = some (.int .u64 0) := (blk_cell BK234.out 5).trans rfl; have hfz14_0 := blk_frozen BK234.out 0; have hfz14_1 := blk_frozen BK234.out 1; have hfz14_2 := blk_frozen BK234.out 2; have hfz14_3 := blk_frozen BK234.out 3; have hfz14_4 := blk_frozen BK234.out 4; have hfz14_5 := blk_frozen BK234.out 5))
  refine bodyPost_ret (results_cell_row rfl _ _ gb234 45 #[.slice Ao9 t235.length co9, .slice Ao12 t238.length co12, .int .u64 a0_2, .int .u64 a0_3, .int .u64 a0_4, .int .u64 a0_5] (0, 0) _ rfl (by (with_reducible repeat (first | refine blk_drewN ?_ _ | refine blk_drew ?_ | refine blk_alloc ?_ _)); refine blk_put (cs := #[.slice Ao9 t235.length co9, .slice Ao12 t238.length co12, .int .u64 a0_2, .int .u64 a0_3, .int .u64 a0_4, .int .u64 0]) ?_ 5 _ rfl; (with_reducible repeat (first | refine blk_drewN ?_ _ | refine blk_drew ?_ | refine blk_alloc ?_ _)); refine blk_put (cs := #[.slice Ao9 t235.length co9, .slice Ao12 t238.length co12, .int .u64 a0_2, .int .u64 a0_3, .int .u64 0, .int .u64 0]) ?_ 4 _ rfl; (with_reducible repeat (first | refine blk_drewN ?_ _ | refine blk_drew ?_ | refine blk_alloc ?_ _)); refine blk_put (cs := #[.slice Ao9 t235.length co9, .slice Ao12 t238.length co12, .int .u64 a0_2, .int .u64 0, .int .u64 0, .int .u64 0]) ?_ 3 _ rfl; (with_reducible repeat (first | refine blk_drewN ?_ _ | refine blk_drew ?_ | refine blk_alloc ?_ _)); refine blk_put (cs := #[.slice Ao9 t235.length co9, .slice Ao12 t238.length co12, .int .u64 0, .int .u64 0, .int .u64 0, .int .u64 0]) ?_ 2 _ rfl; (with_reducible repeat (first | refine blk_drewN ?_ _ | refine blk_drew ?_ | refine blk_alloc ?_ _)); refine blk_put (cs := #[.slice Ao9 t235.length co9, .slice none 0 0, .int .u64 0, .int .u64 0, .int .u64 0, .int .u64 0]) ?_ 1 _ rfl; (with_reducible repeat (first | refine blk_drewN ?_ _ | refine blk_drew ?_ | refine blk_alloc ?_ _)); refine blk_put (cs := #[.slice none 0 0, .slice none 0 0, .int .u64 0, .int .u64 0, .int .u64 0, .int .u64 0]) ?_ 0 _ rfl; (with_reducible repeat (first | refine blk_drewN ?_ _ | refine blk_drew ?_ | refine blk_alloc ?_ _)); refine blk_far ?_ NB234_233.out _; (with_reducible repeat (first | refine blk_drewN ?_ _ | refine blk_drew ?_ | refine blk_alloc ?_ _)); exact BK234.out) Try.underlying45 rfl (by kernel_rfl)) rfl ?_
  exact ⟨_, _, by first | rfl | (simp [errW_none, errW_some] <;> rfl) | (simp [*, errW_none, errW_some] <;> rfl), by (with_reducible repeat (first | apply Kd.R_alloc | apply Kd.R_drewN | apply Kd.R_drew)); exact Kd.R_mono (Kd.R_far (p := ⟨gb234, 5, none⟩) (Kd.R_far (p := ⟨gb234, 4, none⟩) (Kd.R_far (p := ⟨gb234, 3, none⟩) (Kd.R_far (p := ⟨gb234, 2, none⟩) (Kd.R_far (p := ⟨gb234, 1, none⟩) (Kd.R_far (p := ⟨gb234, 0, none⟩) (Kd.R_far (p := ⟨gb233, 1, none⟩) (Kd.R_types (Kd.R_types HO237.out BK233.out (by decide)) BK234.out (by decide)) (fun _ hk => hk.1.2) (.slice Ao12 t238.length co12)) (fun _ hk => hk.2) (.slice Ao9 t235.length co9)) (fun _ hk => hk.2) (.slice Ao12 t238.length co12)) (fun _ hk => hk.2) (.int .u64 a0_2)) (fun _ hk => hk.2) (.int .u64 a0_3)) (fun _ hk => hk.2) (.int .u64 a0_4)) (fun _ hk => hk.2) (.int .u64 a0_5)) (fun _ hk => trivial), by (with_reducible repeat (first | apply Kd.R_alloc | apply Kd.R_drewN | apply Kd.R_drew)); exact Kd.R_mono (Kd.R_far (p := ⟨gb234, 5, none⟩) (Kd.R_far (p := ⟨gb234, 4, none⟩) (Kd.R_far (p := ⟨gb234, 3, none⟩) (Kd.R_far (p := ⟨gb234, 2, none⟩) (Kd.R_far (p := ⟨gb234, 1, none⟩) (Kd.R_far (p := ⟨gb234, 0, none⟩) (Kd.R_far (p := ⟨gb233, 1, none⟩) (Kd.R_types (Kd.R_types HO240.out BK233.out (by decide)) BK234.out (by decide)) (fun _ hk => hk.1.2) (.slice Ao12 t238.length co12)) (fun _ hk => hk.2) (.slice Ao9 t235.length co9)) (fun _ hk => hk.2) (.slice Ao12 t238.length co12)) (fun _ hk => hk.2) (.int .u64 a0_2)) (fun _ hk => hk.2) (.int .u64 a0_3)) (fun _ hk => hk.2) (.int .u64 a0_4)) (fun _ hk => hk.2) (.int .u64 a0_5)) (fun _ hk => trivial), by repeat (first | (with_reducible first | exact HB.out | apply below_alloc | apply pw_below_drewN | apply below_drew1 | refine below_set ?_ GE233.out | refine below_set ?_ GE234.out) | exact HB.out)⟩
end Go.Proofs.Ytncgjbocgbnkcaa.Ga
namespace Go.Proofs.Ytncgjbocgbnkcaa.Pure
set_option linter.unusedVariables false
set_option linter.unusedSimpArgs false
open Go.RowKit Go.Proofs.YtncgjbocgbnkcaaW.PrintWords Go.Proofs.YtncgjbocgbnkcaaW.PrintLast Go.Proofs.YtncgjbocgbnkcaaW.PrintMore Go.Proofs.Ytncgjbocgbnkcaa.Hi Go.Proofs.Ytncgjbocgbnkcaa.Q Go.Proofs.Ytncgjbocgbnkcaa.Gb Go.Proofs.Ytncgjbocgbnkcaa.Ga
/-- Comes a ahead of b? -/
def lessB (a b : Int) : Bool := !nanB a && !nanB b && decide (keyB a < keyB b)
theorem kind4 (b : Int) : kindB b = 4 ↔ nanB b = true := by
  unfold kindB
  split
  · rename_i h; simp [h]
  · rename_i h
    refine ⟨fun c => ?_, fun c => absurd c h⟩
    split at c
    · omega
    · split at c
      · omega
      · split at c <;> omega
theorem floLess {a b : Int} (ha : U a) (hb : U b) : flo_Less.f a b = some (lessB a b) := by
  unfold flo_Less.f flo_Kind.f flo_Key.f lessB
  have ka : 0 ≤ a ∧ a < 18446744073709551616 := ha
  have kb : 0 ≤ b ∧ b < 18446744073709551616 := hb
  rw [if_pos ka, if_pos kb, if_pos ka, if_pos kb]
  simp only [Option.bind_some]
  by_cases c1 : kindB a = 4
  · rw [if_pos c1, (kind4 a).1 c1]; rfl
  · rw [if_neg c1]
    have n1 : nanB a = false := by cases h : nanB a; rfl; exact absurd ((kind4 a).2 h) c1
    by_cases c2 : kindB b = 4
    · rw [if_pos c2, (kind4 b).1 c2]; simp
    · have n2 : nanB b = false := by cases h : nanB b; rfl; exact absurd ((kind4 b).2 h) c2
      rw [if_neg c2, n1, n2]; simp
theorem nan_parts (b : Int) : nanB b = (decide (expB b = 2047) && decide (0 < fracB b)) := by
  unfold nanB expB fracB
  rw [← Bool.decide_and]
  exact decide_eq_decide.2 ⟨fun h => by omega, fun h => by omega⟩
theorem refExp {b : Int} (hb : U b) : varveref02_exp.f b = some (expB b) := by
  unfold varveref02_exp.f
  rw [exp_bits b hb.1 hb.2]
  have := exp_range b
  congr 1
  unfold wrap64; omega
theorem refFrac {b : Int} (hb : U b) : varveref02_frac.f b = some (fracB b) := by
  unfold varveref02_frac.f
  rw [frac_bits b hb.1 hb.2]
theorem refKind {b : Int} (hb : U b) (k : Nat) (hk : 1 ≤ k) : ∃ r, varveref02_Kind.f k b = some r ∧ (r = 4 ↔ nanB b = true) := by
  obtain ⟨k, rfl⟩ : ∃ m, k = m + 1 := ⟨k - 1, by omega⟩
  unfold varveref02_Kind.f
  rw [refExp hb, nan_parts]
  simp only [Option.bind_some]
  by_cases c : expB b = 2047
  · rw [if_pos c, refFrac hb, decide_eq_true c]
    simp only [Option.bind_some, Bool.true_and]
    by_cases d : 0 < fracB b
    · refine ⟨4, ?_, by simp [d]⟩
      rw [varveref02_Kind.j0, if_pos (decide_eq_true d)]
    · refine ⟨3, ?_, by simp [d]⟩
      rw [varveref02_Kind.j0, if_neg (by simpa using d), refExp hb]
      simp only [Option.bind_some]
      rw [if_pos c]
  · rw [if_neg c, decide_eq_false c, varveref02_Kind.j0, if_neg (by simp), refExp hb]
    simp only [Option.bind_some]
    rw [if_neg c]
    by_cases e : expB b > 0
    · rw [if_pos e]; exact ⟨1, rfl, by simp⟩
    · rw [if_neg e, refFrac hb]
      simp only [Option.bind_some]
      by_cases g : fracB b > 0
      · rw [if_pos g]; exact ⟨2, rfl, by simp⟩
      · rw [if_neg g]; exact ⟨0, rfl, by simp⟩
theorem not_bits2 (b : Int) (hb : U b) : bits .xor .u64 b 18446744073709551615 = 18446744073709551615 - b := by
  have h := not_bits b hb.1 hb.2
  obtain ⟨n, rfl⟩ : ∃ n : Nat, b = n := ⟨b.toNat, by have := hb.1; omega⟩
  have h1 := bits_xor_u64_nat 18446744073709551615 n (by decide) (by have := hb.2; omega)
  have h2 := bits_xor_u64_nat n 18446744073709551615 (by have := hb.2; omega) (by decide)
  rw [Nat.xor_comm] at h2
  exact ((show bits .xor .u64 (n : Int) 18446744073709551615 = _ from h2).trans h1.symm).trans h
theorem or_sign (b : Int) (h0 : 0 ≤ b) (h1 : b < 9223372036854775808) : bits .or .u64 b 9223372036854775808 = b + 9223372036854775808 := by
  obtain ⟨n, rfl⟩ : ∃ n : Nat, b = n := ⟨b.toNat, by omega⟩
  have h := bits_or_u64_nat n 9223372036854775808 (by omega) (by decide)
  have e : n ||| 9223372036854775808 = 9223372036854775808 + n := by
    refine Nat.eq_of_testBit_eq fun i => ?_
    rw [Nat.testBit_or, show (9223372036854775808 : Nat) = 2 ^ 63 from rfl, Nat.testBit_two_pow]
    rcases Nat.lt_trichotomy i 63 with d | d | d
    · rw [Nat.testBit_two_pow_add_gt d, decide_eq_false (by omega), Bool.or_false]
    · subst d
      rw [Nat.testBit_two_pow_add_eq, decide_eq_true rfl, Bool.or_true, Nat.testBit_lt_two_pow (show n < 2 ^ 63 by omega)]; rfl
    · have l1 : n < 2 ^ i := Nat.lt_of_lt_of_le (show n < 2 ^ 63 by omega) (Nat.pow_le_pow_right (by decide) (by omega))
      have l2 : 2 ^ 63 + n < 2 ^ i := Nat.lt_of_lt_of_le (show 2 ^ 63 + n < 2 ^ 64 by omega) (Nat.pow_le_pow_right (by decide) (by omega))
      rw [Nat.testBit_lt_two_pow l1, Nat.testBit_lt_two_pow l2, decide_eq_false (by omega)]; rfl
  rw [e] at h
  refine (show bits .or .u64 (n : Int) 9223372036854775808 = _ from h).trans ?_
  omega
theorem refKey {b : Int} (hb : U b) : varveref02_Key.f b = some (keyB b) := by
  unfold varveref02_Key.f keyB
  rw [sign_bits b hb.1 hb.2]
  by_cases c : 9223372036854775808 ≤ b
  · rw [if_pos c, if_pos (by omega), if_pos c, not_bits2 b hb]
  · rw [if_neg c, if_neg (by omega), if_neg c, or_sign b hb.1 (by omega)]
theorem refLess {a b : Int} (ha : U a) (hb : U b) (k : Nat) (hk : 1 ≤ k) : varveref02_Less.f k a b = some (lessB a b) := by
  obtain ⟨r, e1, h1⟩ := refKind ha k hk
  obtain ⟨s, e2, h2⟩ := refKind hb k hk
  unfold varveref02_Less.f lessB
  rw [e1, e2, refKey ha, refKey hb]
  simp only [Option.bind_some]
  by_cases c1 : r = 4
  · rw [if_pos c1, h1.1 c1]; rfl
  · rw [if_neg c1]
    have n1 : nanB a = false := by cases h : nanB a; rfl; exact absurd (h1.2 h) c1
    by_cases c2 : s = 4
    · rw [if_pos c2, h2.1 c2]; simp
    · have n2 : nanB b = false := by cases h : nanB b; rfl; exact absurd (h2.2 h) c2
      rw [if_neg c2, n1, n2]; simp
/-- A gauge: how many, how many none, the least, the greatest. -/
structure G4 where
  n : Int
  nans : Int
  lo : Int
  hi : Int
def G4.wf (g : G4) : Prop := U g.n ∧ U g.nans ∧ U g.lo ∧ U g.hi
def gzero : G4 := ⟨0, 0, 0, 0⟩
/-- Both. -/
def gmerge (a b : G4) : G4 :=
  ⟨hold (a.n + b.n), hold (a.nans + b.nans), if a.n = 0 then b.lo else if b.n = 0 then a.lo else if lessB b.lo a.lo then b.lo else a.lo, if a.n = 0 then b.hi else if b.n = 0 then a.hi else if lessB a.hi b.hi then b.hi else a.hi⟩
def G4.tup (g : G4) : Int × Int × Int × Int := (g.n, g.nans, g.lo, g.hi)
theorem gmerge_wf {a b : G4} (ha : a.wf) (hb : b.wf) : (gmerge a b).wf := by
  obtain ⟨a1, a2, a3, a4⟩ := ha
  obtain ⟨b1, b2, b3, b4⟩ := hb
  refine ⟨hold_range (by have := a1.1; have := b1.1; omega), hold_range (by have := a2.1; have := b2.1; omega), ?_, ?_⟩
  · show U (if a.n = 0 then b.lo else if b.n = 0 then a.lo else if lessB b.lo a.lo then b.lo else a.lo)
    repeat' split
    all_goals assumption
  · show U (if a.n = 0 then b.hi else if b.n = 0 then a.hi else if lessB a.hi b.hi then b.hi else a.hi)
    repeat' split
    all_goals assumption
theorem wideAdd {a b : Int} (ha : U a) (hb : U b) : Hi.wide_Add.f a b = some (hold (a + b)) := by
  unfold Hi.wide_Add.f; rw [if_pos ⟨ha.1, ha.2, hb.1, hb.2⟩]
theorem merge_eq {a b : G4} (ha : a.wf) (hb : b.wf) : gauge_Merge.f a.n a.nans a.lo a.hi b.n b.nans b.lo b.hi = some (gmerge a b).tup := by
  obtain ⟨a1, a2, a3, a4⟩ := ha
  obtain ⟨b1, b2, b3, b4⟩ := hb
  unfold gauge_Merge.f gmerge G4.tup
  rw [if_pos ⟨a1, a2, b1, b2⟩, floLess b3 a3, floLess a4 b4]
  simp only [Option.bind_some, beq_iff_eq]
/-- What may be. -/
def gchk (g : G4) : Bool := if g.n = 0 then g.lo == 0 && g.hi == 0 else !nanB g.lo && !nanB g.hi && !lessB g.hi g.lo
theorem check_eq {g : G4} (h : g.wf) : gauge_Check.f g.n g.nans g.lo g.hi = some (gchk g) := by
  obtain ⟨h1, h2, h3, h4⟩ := h
  unfold gauge_Check.f gchk gauge_none.f
  by_cases c : g.n = 0
  · rw [if_pos c, if_pos c, c]; rfl
  · have k3 : 0 ≤ g.lo ∧ g.lo < 18446744073709551616 := h3
    have k4 : 0 ≤ g.hi ∧ g.hi < 18446744073709551616 := h4
    rw [if_neg c, if_neg c, if_pos k3, if_pos k4, floLess h4 h3]
    simp only [Option.bind_some]
    cases nanB g.lo <;> cases nanB g.hi <;> simp
theorem refGCheck_eq {g : G4} (h : g.wf) (k : Nat) (hk : 1 ≤ k) : varveref09_Check.f k g.n g.nans g.lo g.hi = some (gchk g) := by
  obtain ⟨h1, h2, h3, h4⟩ := h
  obtain ⟨r, e1, r1⟩ := refKind h3 k hk
  obtain ⟨s, e2, s1⟩ := refKind h4 k hk
  unfold varveref09_Check.f gchk
  by_cases c : g.n = 0
  · rw [if_pos c, if_pos c]
    by_cases d : g.lo = 0
    · rw [if_pos d, d]; rfl
    · rw [if_neg d, beq_eq_false_iff_ne.2 d]; rfl
  · rw [if_neg c, if_neg c, e1, e2, refLess h4 h3 k hk]
    simp only [Option.bind_some]
    by_cases d : r = 4
    · rw [if_pos d, r1.1 d]; rfl
    · have n1 : nanB g.lo = false := by cases h : nanB g.lo; rfl; exact absurd (r1.2 h) d
      rw [if_neg d, n1]
      by_cases e : s = 4
      · rw [if_pos e, s1.1 e]; rfl
      · have n2 : nanB g.hi = false := by cases h : nanB g.hi; rfl; exact absurd (s1.2 h) e
        rw [if_neg e, n2]; simp
theorem one_wf {b : Int} (hb : U b) : (⟨1, 0, b, b⟩ : G4).wf := ⟨(show U 1 from ⟨by decide, by decide⟩), (show U 0 from ⟨by decide, by decide⟩), hb, hb⟩
/-- One more. -/
def gadd (g : G4) (b : Int) : G4 := if nanB b then ⟨g.n, hold (g.nans + 1), g.lo, g.hi⟩ else gmerge g ⟨1, 0, b, b⟩
theorem gadd_wf {g : G4} (h : g.wf) {b : Int} (hb : U b) : (gadd g b).wf := by
  unfold gadd
  split
  · exact ⟨h.1, hold_range (by have := h.2.1.1; omega), h.2.2⟩
  · exact gmerge_wf h (one_wf hb)
theorem gadd_eq {g : G4} (h : g.wf) {b : Int} (hb : U b) : gauge_Add.f g.n g.nans g.lo g.hi b = some (gadd g b).tup := by
  unfold gauge_Add.f gadd gauge_none.f
  have kb : 0 ≤ b ∧ b < 18446744073709551616 := hb
  rw [if_pos kb]
  simp only [Option.bind_some]
  cases nanB b
  · have := merge_eq h (b := ⟨1, 0, b, b⟩) (one_wf hb)
    simp only at this
    rw [if_neg (by simp), if_neg (by simp), this]; rfl
  · rw [if_pos rfl, if_pos rfl, wideAdd h.2.1 ⟨by decide, by decide⟩]; rfl
/-- A gauge of no number has no ends. -/
def G4.tidy (g : G4) : Prop := g.n = 0 → g.lo = 0 ∧ g.hi = 0
end Go.Proofs.Ytncgjbocgbnkcaa.Pure
namespace Go.Proofs.Ytncgjbocgbnkcaa.Pure
set_option linter.unusedVariables false
set_option linter.unusedSimpArgs false
open Go.RowKit Go.Proofs.YtncgjbocgbnkcaaW.PrintWords Go.Proofs.YtncgjbocgbnkcaaW.PrintLast Go.Proofs.YtncgjbocgbnkcaaW.PrintMore Go.Proofs.Ytncgjbocgbnkcaa.Hi Go.Proofs.Ytncgjbocgbnkcaa.Q Go.Proofs.Ytncgjbocgbnkcaa.Gb Go.Proofs.Ytncgjbocgbnkcaa.Ga
theorem drop_eq {α : Type} {l m : List α} {i : Nat} (h : i < l.length) (h' : i < m.length) : (l.drop i = m.drop i) ↔ (l[i] = m[i] ∧ l.drop (i + 1) = m.drop (i + 1)) := by
  rw [List.drop_eq_getElem_cons h, List.drop_eq_getElem_cons h', List.cons.injEq]
theorem rdi {l : List Int} {i : Nat} (h : i < l.length) : rd l (i : Int) = l[i] := by
  simp [rd, List.getD, List.getElem?_eq_getElem h]
theorem eqU_go (l m : List Int) (hl : l.length = m.length) (hL : l.length < 9223372036854775807) : ∀ (n i : Nat), l.length - i = n → i ≤ l.length →
    slices_Equal_uint64_uint64.l0 (n + 1) l m (l.length : Int) (i : Int) = some (decide (l.drop i = m.drop i)) := by
  intro n
  induction n with
  | zero =>
    intro i h1 h2
    rw [slices_Equal_uint64_uint64.l0, if_neg (by omega), List.drop_eq_nil_of_le (by omega), List.drop_eq_nil_of_le (by omega)]; rfl
  | succ n ih =>
    intro i h1 h2
    have hw : wrap64 ((i : Int) + 1) = ((i + 1 : Nat) : Int) := by unfold wrap64; omega
    have hi : i < l.length := by omega
    have hm : i < m.length := by omega
    rw [slices_Equal_uint64_uint64.l0, if_pos (by omega), if_pos (by omega), if_pos (by omega), if_pos (by omega), rdi hi, rdi hm, hw]
    by_cases c : l[i] = m[i]
    · rw [if_pos c, ih (i + 1) (by omega) (by omega)]
      congr 1
      exact decide_eq_decide.2 ⟨fun h => (drop_eq hi hm).2 ⟨c, h⟩, fun h => ((drop_eq hi hm).1 h).2⟩
    · rw [if_neg c, decide_eq_false (fun h => c ((drop_eq hi hm).1 h).1)]
theorem eqU (l m : List Int) (hL : l.length < 9223372036854775807) : slices_Equal_uint64_uint64.f (l.length + 1) l m = some (decide (l = m)) := by
  unfold slices_Equal_uint64_uint64.f
  by_cases c : (l.length : Int) = (m.length : Int)
  · rw [if_pos c]
    exact eqU_go l m (by omega) hL l.length 0 (by omega) (by omega)
  · rw [if_neg c, decide_eq_false (fun h => c (by rw [h]))]
theorem rd75 {l : List S68} {i : Nat} (h : i < l.length) : rd_T68 l (i : Int) = l[i] := by
  simp [rd_T68, List.getD, List.getElem?_eq_getElem h]
/-- A bucket as a pair. -/
def kb (l : List S68) : List (Int × Int) := l.map (fun b => (b.f0, b.f1))
theorem kb_len (l : List S68) : (kb l).length = l.length := by simp [kb]
theorem kb_at {l : List S68} {i : Nat} (h : i < l.length) (h' : i < (kb l).length) : (kb l)[i] = (l[i].f0, l[i].f1) := by simp [kb]
theorem kb_inj {l m : List S68} (h : kb l = kb m) : l = m := by
  have hl : l.length = m.length := by rw [← kb_len l, h, kb_len]
  refine List.ext_getElem hl fun i h1 h2 => ?_
  have e : (kb l)[i]'(by rw [kb_len]; exact h1) = (kb m)[i]'(by rw [kb_len]; exact h2) := by simp only [h]
  rw [kb_at h1, kb_at h2] at e
  obtain ⟨e1, e2⟩ := Prod.mk.inj e
  cases hx : l[i]; cases hy : m[i]
  rw [hx, hy] at e1 e2
  simp only at e1 e2
  rw [e1, e2]
theorem kb_ne {x y : S68} : ((!(x.f0 == y.f0) || !(x.f1 == y.f1)) = true) ↔ ¬ ((x.f0, x.f1) = (y.f0, y.f1)) := by
  rw [Prod.mk.injEq]
  by_cases c1 : x.f0 = y.f0 <;> by_cases c2 : x.f1 = y.f1 <;> simp [c1, c2]
theorem eqB_go (l m : List S68) (hl : l.length = m.length) (hL : l.length < 9223372036854775807) : ∀ (n i : Nat), l.length - i = n → i ≤ l.length →
    api_Bucket.l0 (n + 1) l m (l.length : Int) (i : Int) = some (decide ((kb l).drop i = (kb m).drop i)) := by
  intro n
  induction n with
  | zero =>
    intro i h1 h2
    rw [api_Bucket.l0, if_neg (by omega), List.drop_eq_nil_of_le (by rw [kb_len]; omega), List.drop_eq_nil_of_le (by rw [kb_len]; omega)]; rfl
  | succ n ih =>
    intro i h1 h2
    have hw : wrap64 ((i : Int) + 1) = ((i + 1 : Nat) : Int) := by unfold wrap64; omega
    have hi : i < l.length := by omega
    have hm : i < m.length := by omega
    have hi' : i < (kb l).length := by rw [kb_len]; exact hi
    have hm' : i < (kb m).length := by rw [kb_len]; exact hm
    rw [api_Bucket.l0, if_pos (by omega), if_pos (by omega), if_pos (by omega), if_pos (by omega), rd75 hi, rd75 hm, hw]
    by_cases c : (kb l)[i] = (kb m)[i]
    · rw [if_neg (fun h => kb_ne.1 h (by rw [kb_at hi, kb_at hm] at c; exact c)), ih (i + 1) (by omega) (by omega)]
      congr 1
      exact decide_eq_decide.2 ⟨fun h => (drop_eq hi' hm').2 ⟨c, h⟩, fun h => ((drop_eq hi' hm').1 h).2⟩
    · rw [if_pos (kb_ne.2 (by rw [kb_at hi, kb_at hm] at c; exact c)), decide_eq_false (fun h => c ((drop_eq hi' hm').1 h).1)]
theorem eqB (l m : List S68) (hL : l.length < 9223372036854775807) : api_Bucket.f (l.length + 1) l m = some (decide (kb l = kb m)) := by
  unfold api_Bucket.f
  by_cases c : (l.length : Int) = (m.length : Int)
  · rw [if_pos c]
    exact eqB_go l m (by omega) hL l.length 0 (by omega) (by omega)
  · rw [if_neg c, decide_eq_false (fun h => c (by rw [kb_inj h]))]
theorem upK {α : Type} {f : Nat → Option α} (h : ∀ k, LeO (f k) (f (k + 1))) {k m : Nat} (hm : k ≤ m) {r : α} (e : f k = some r) : f m = some r := by
  obtain ⟨d, rfl⟩ : ∃ d, m = k + d := ⟨m - k, by omega⟩
  induction d with
  | zero => exact e
  | succ d ih => exact h _ r (ih (by omega))
/-- Are two sketches the same? -/
def sameS (l : List S68) (h : List Int) (g : G4) (l' : List S68) (h' : List Int) (g' : G4) : Bool :=
  decide (kb l = kb l') && decide (h = h') && (g.n == g'.n && (g.nans == g'.nans && (g.lo == g'.lo && g.hi == g'.hi)))
theorem pairSame_eq (l : List S68) (h : List Int) (g : G4) (l' : List S68) (h' : List Int) (g' : G4) (hl : l.length < 9223372036854775807) (hh : h.length < 9223372036854775807) (k : Nat) (hk : l.length + h.length + 1 ≤ k) :
    pair_Same.f k l h g.n g.nans g.lo g.hi l' h' g'.n g'.nans g'.lo g'.hi = some (sameS l h g l' h' g') := by
  unfold pair_Same.f sameS
  rw [upK (fun k => api_Bucket.mono l l' k) (show l.length + 1 ≤ k by omega) (eqB l l' hl), upK (fun k => slices_Equal_uint64_uint64.mono h h' k) (show h.length + 1 ≤ k by omega) (eqU h h' hh)]
  simp only [Option.bind_some]
  by_cases c1 : kb l = kb l'
  · rw [if_pos (decide_eq_true c1), decide_eq_true c1]
    by_cases c2 : h = h'
    · rw [if_pos (decide_eq_true c2), decide_eq_true c2]; rfl
    · rw [if_neg (by rw [decide_eq_false c2]; simp), decide_eq_false c2]; rfl
  · rw [if_neg (by rw [decide_eq_false c1]; simp), decide_eq_false c1]; rfl
theorem sameS_self (l : List S68) (h : List Int) (g : G4) : sameS l h g l h g = true := by simp [sameS]
/-- May a sketch be? -/
def okS (l : List S68) (h : List Int) (g : G4) : Bool := chk l && decide (KOk h) && gchk g
theorem pairCheck_eq (l : List S68) (h : List Int) (g : G4) (hl : l.length < 8796093022208) (hh : h.length ≤ 4611686018427387904) (hg : g.wf) :
    pair_Check.f (2 * h.length + l.length + 2) l h g.n g.nans g.lo g.hi = some (okS l h g) := by
  unfold pair_Check.f okS
  rw [Check_eq l hl _ (by omega), upK (fun k => kmv_Check.mono h k) (show 2 * h.length + 2 ≤ 2 * h.length + l.length + 2 by omega) (kmvCheck_all h hh), check_eq hg]
  simp only [Option.bind_some]
  cases chk l <;> by_cases c : KOk h <;> simp [c]
theorem refCheckS_eq (l : List S68) (h : List Int) (g : G4) (hl : l.length < 8796093022208) (hh : h.length ≤ 4611686018427387904) (hg : g.wf) :
    varveref10_Check.f (h.length + l.length + 1) l h g.n g.nans g.lo g.hi = some (okS l h g) := by
  unfold varveref10_Check.f okS
  rw [refCheck_eq l hl _ (by omega), upK (fun k => varveref08_Check.mono h k) (show h.length + 1 ≤ h.length + l.length + 1 by omega) (refCheck_all h hh), refGCheck_eq hg _ (by omega)]
  simp only [Option.bind_some]
  cases chk l <;> by_cases c : KOk h <;> simp [c]
end Go.Proofs.Ytncgjbocgbnkcaa.Pure
namespace Go.Proofs.Ytncgjbocgbnkcaa
set_option linter.unusedVariables false
set_option linter.unusedSimpArgs false
open Go.RowKit Go.Maps Go.Proofs.YtncgjbocgbnkcaaW.PrintWords Go.Proofs.YtncgjbocgbnkcaaW.PrintLast Go.Proofs.YtncgjbocgbnkcaaW.PrintMore Go.Proofs.Ytncgjbocgbnkcaa.Pure Go.Proofs.Ytncgjbocgbnkcaa.Q Go.Proofs.Ytncgjbocgbnkcaa.Hi Go.Proofs.Ytncgjbocgbnkcaa.Ga
/-- A sketch's two lists, as they lie. -/
structure SK (W : World) (A : Option Addr) (c : Nat) (l : List S68) (B : Option Addr) (d : Nat) (h : List Int) : Prop where
  c1 : Kd.C k68 W A l.length l
  l1 : l.length ≤ c
  c2 : Kd.C (Kd.int .u64) W B h.length h
  l2 : h.length ≤ d
  s1 : l.length < 8796093022208
  s2 : h.length < 17592186044416
theorem SK.below {W W' : World} {A : Option Addr} {c : Nat} {l : List S68} {B : Option Addr} {d : Nat} {h : List Int} (k : SK W A c l B d h) {n : Nat} (hb : Below n W W') (hn : W.heap.size ≤ n) : SK W' A c l B d h :=
  ⟨Kd.C_below k.c1 (hb.mono hn), k.l1, Kd.C_below k.c2 (hb.mono hn), k.l2, k.s1, k.s2⟩
theorem sk_copy {W : World} {A : Option Addr} {c : Nat} {l : List S68} {B : Option Addr} {d : Nat} {h : List Int} (k : SK W A c l B d h) (n na lo hi : Int) :
    Calls Try.prog 39 #[.agg #[.slice A l.length c, .slice B h.length d, .int .u64 n, .int .u64 na, .int .u64 lo, .int .u64 hi]] W fun e w' =>
      ∃ A' c' B' d', e = .returned (.agg #[.slice A' l.length c', .slice B' h.length d', .int .u64 n, .int .u64 na, .int .u64 lo, .int .u64 hi]) ∧ SK w' A' c' l B' d' h ∧ Below W.heap.size W w' :=
  (varvelaw00_Sketch.calls A c l B d h n na lo hi l h n na lo hi W k.c1 k.l1 k.c2 k.l2 (by
    have := k.s1; have := k.s2
    unfold varvelaw00_Sketch.f varvelaw00_Buckets.f varvelaw00_Nums.f
    rw [if_pos (by simp; omega), if_pos (by simp; omega)]; rfl)).mono fun e w' ⟨v0, v1, he, h0, h1, hb⟩ => by
    obtain ⟨A', c', rfl, e1, e2⟩ := Kd.R_reads h0
    obtain ⟨B', d', rfl, e3, e4⟩ := Kd.R_reads h1
    exact ⟨A', c', B', d', he, ⟨e2, e1, e4, e3, k.s1, k.s2⟩, hb⟩
theorem sk_check {W : World} {A : Option Addr} {c : Nat} {l : List S68} {B : Option Addr} {d : Nat} {h : List Int} (k : SK W A c l B d h) (g : G4) (hg : g.wf) :
    Calls Try.prog 29 #[.agg #[.slice A l.length c, .slice B h.length d, .int .u64 g.n, .int .u64 g.nans, .int .u64 g.lo, .int .u64 g.hi]] W fun e w' => e = .returned (.bool (okS l h g)) ∧ Below W.heap.size W w' :=
  pair_Check.calls _ A c l B d h g.n g.nans g.lo g.hi _ W k.c1 k.l1 k.c2 k.l2 (pairCheck_eq l h g k.s1 (by have := k.s2; omega) hg)
theorem sk_rcheck {W : World} {A : Option Addr} {c : Nat} {l : List S68} {B : Option Addr} {d : Nat} {h : List Int} (k : SK W A c l B d h) (g : G4) (hg : g.wf) :
    Calls Try.prog 40 #[.agg #[.slice A l.length c, .slice B h.length d, .int .u64 g.n, .int .u64 g.nans, .int .u64 g.lo, .int .u64 g.hi]] W fun e w' => e = .returned (.bool (okS l h g)) ∧ Below W.heap.size W w' :=
  varveref10_Check.calls _ A c l B d h g.n g.nans g.lo g.hi _ W k.c1 k.l1 k.c2 k.l2 (refCheckS_eq l h g k.s1 (by have := k.s2; omega) hg)
theorem sk_same {W : World} {A : Option Addr} {c : Nat} {l : List S68} {B : Option Addr} {d : Nat} {h : List Int} (k : SK W A c l B d h) (g : G4)
    {A' : Option Addr} {c' : Nat} {l' : List S68} {B' : Option Addr} {d' : Nat} {h' : List Int} (k' : SK W A' c' l' B' d' h') (g' : G4) :
    Calls Try.prog 42 #[.agg #[.slice A l.length c, .slice B h.length d, .int .u64 g.n, .int .u64 g.nans, .int .u64 g.lo, .int .u64 g.hi], .agg #[.slice A' l'.length c', .slice B' h'.length d', .int .u64 g'.n, .int .u64 g'.nans, .int .u64 g'.lo, .int .u64 g'.hi]] W fun e w' => e = .returned (.bool (sameS l h g l' h' g')) ∧ Below W.heap.size W w' :=
  pair_Same.calls _ A c l B d h g.n g.nans g.lo g.hi A' c' l' B' d' h' g'.n g'.nans g'.lo g'.hi _ W k.c1 k.l1 k.c2 k.l2 k'.c1 k'.l1 k'.c2 k'.l2 (pairSame_eq l h g l' h' g' (by have := k.s1; omega) (by have := k.s2; omega) _ (Nat.le_refl _))
end Go.Proofs.Ytncgjbocgbnkcaa
namespace Go.Proofs.Ytncgjbocgbnkcaa
set_option linter.unusedVariables false
set_option linter.unusedSimpArgs false
open Go.RowKit Go.ChangeShapes Go.WideShapes Go.Deep Go.Proofs.YtncgjbocgbnkcaaW.PrintWords Go.Proofs.Ytncgjbocgbnkcaa.Hi
def kG : Kd (Int × Int × Int × Int) := Kd.pair (Kd.int .u64) (Kd.pair (Kd.int .u64) (Kd.pair (Kd.int .u64) (Kd.int .u64)))
theorem opensG : Opens Try.prog 43 kG (fun x => (Lit.int .u64 x.1).wf = true ∧ (Lit.int .u64 x.2.1).wf = true ∧ (Lit.int .u64 x.2.2.1).wf = true ∧ (Lit.int .u64 x.2.2.2).wf = true) :=
  opens_struct Try.underlying43 (by kernel_rfl) (opensFields_cons rfl (by kernel_rfl) (opens_int Try.underlying41) (opensFields_cons rfl (by kernel_rfl) (opens_int Try.underlying41) (opensFields_cons rfl (by kernel_rfl) (opens_int Try.underlying41) (opensFields_one rfl (by kernel_rfl) (opens_int Try.underlying41)))))
def kS : Kd (List S68 × List Int × (Int × Int × Int × Int)) := Kd.pair (Kd.slice 68 k68) (Kd.pair (Kd.slice 41 (Kd.int .u64)) kG)
theorem opensS : Opens Try.prog 45 kS (fun x => Pure.WB x.1 ∧ Pure.WU x.2.1 ∧ ((Lit.int .u64 x.2.2.1).wf = true ∧ (Lit.int .u64 x.2.2.2.1).wf = true ∧ (Lit.int .u64 x.2.2.2.2.1).wf = true ∧ (Lit.int .u64 x.2.2.2.2.2).wf = true)) :=
  opens_struct Try.underlying45 (by kernel_rfl) (opensFields_cons rfl (by kernel_rfl) opens23 (opensFields_cons rfl (by kernel_rfl) opens40 (opensFields_one rfl (by kernel_rfl) opensG)))
theorem Opens.argS {P : Program} {t : TypeId} {α : Type} {k : Kd α} {wf : α → Prop} {ts : List TypeId} {H : Type} {ds : List (DataW H)} {j : Nat} {enc : TypeId × Value → H} {W : World} {base : Nat} {spare : Nat → Bool} {held : Bool} {v : Value} {x : DataW H} {p : List MemPlace}
    (h : Opens P t k wf) (hsz : (DataW.weightsEach P ts ds).all (· ≤ reachBytes) = true) (ht : ts[j]? = some t) (hd : ds[j]? = some x) (hv : ∃ a, v = .agg a) (hx : DataW.Trod enc P W base spare held t v x p) :
    ∃ y a, v = .agg a ∧ k.K W y a.toList ∧ wf y := by
  obtain ⟨fuel, hf⟩ := hx
  obtain ⟨a, rfl⟩ := hv
  obtain ⟨y, hK, hw⟩ := h hf (fun n hn => by
    have := List.all_eq_true.1 hsz _ (DataW.weights_mem_each ht hd n hn)
    simpa using this)
  exact ⟨y, a, rfl, hK, hw⟩
theorem kS_open {W : World} {y : List S68 × List Int × (Int × Int × Int × Int)} {cs : List Value} (h : kS.K W y cs) :
    ∃ A c B d, cs = [.slice A y.1.length c, .slice B y.2.1.length d, .int .u64 y.2.2.1, .int .u64 y.2.2.2.1, .int .u64 y.2.2.2.2.1, .int .u64 y.2.2.2.2.2] ∧ y.1.length ≤ c ∧ y.2.1.length ≤ d ∧ Kd.C k68 W A y.1.length y.1 ∧ Kd.C (Kd.int .u64) W B y.2.1.length y.2.1 := by
  obtain ⟨x1, x2, rfl, ⟨A, c, rfl, hc, hC⟩, ⟨x3, x4, rfl, ⟨B, d, rfl, hd, hD⟩, ⟨x5, x6, rfl, e1, ⟨x7, x8, rfl, e2, ⟨x9, x10, rfl, e3, e4⟩⟩⟩⟩⟩ := h
  obtain rfl : x5 = [.int .u64 y.2.2.1] := e1
  obtain rfl : x7 = [.int .u64 y.2.2.2.1] := e2
  obtain rfl : x9 = [.int .u64 y.2.2.2.2.1] := e3
  obtain rfl : x10 = [.int .u64 y.2.2.2.2.2] := e4
  exact ⟨A, c, B, d, rfl, hc, hd, hC, hD⟩
theorem okWide_agg {P : Program} {W : World} {r : Reach} {base : Nat} {t : TypeId} {v : Value} {fs : Array Field} (ht : P.underlying t = some (.struct fs)) (h : Value.okWide P W r base t v) : ∃ a, v = .agg a := by
  simp only [Value.okWide, ht, Cell.okWide] at h
  cases v <;> simp_all [Cell.ok]
end Go.Proofs.Ytncgjbocgbnkcaa
namespace Go.Proofs.Ytncgjbocgbnkcaa.Pure
set_option linter.unusedVariables false
set_option linter.unusedSimpArgs false
open Go.RowKit Go.Proofs.YtncgjbocgbnkcaaW.PrintWords Go.Proofs.Ytncgjbocgbnkcaa.Hi
theorem keyB_inj {a b : Int} (ha : U a) (hb : U b) (h : keyB a = keyB b) : a = b := by
  obtain ⟨a0, a1⟩ := ha
  obtain ⟨b0, b1⟩ := hb
  unfold keyB at h
  split at h <;> split at h <;> omega
theorem gchk_some {g : G4} (h : gchk g = true) (hn : g.n ≠ 0) : nanB g.lo = false ∧ nanB g.hi = false := by
  unfold gchk at h
  rw [if_neg hn] at h
  simp only [Bool.and_eq_true, Bool.not_eq_true'] at h
  exact ⟨h.1.1, h.1.2⟩
theorem gchk_none {g : G4} (h : gchk g = true) (hn : g.n = 0) : g.lo = 0 ∧ g.hi = 0 := by
  unfold gchk at h
  rw [if_pos hn] at h
  simpa using h
theorem less_key {a b : Int} (ha : nanB a = false) (hb : nanB b = false) : lessB a b = decide (keyB a < keyB b) := by
  unfold lessB; rw [ha, hb]; rfl
theorem gmerge_comm {a b : G4} (ha : a.wf) (hb : b.wf) (ca : gchk a = true) (cb : gchk b = true) : gmerge a b = gmerge b a := by
  unfold gmerge
  rw [Int.add_comm a.n, Int.add_comm a.nans]
  by_cases za : a.n = 0
  · by_cases zb : b.n = 0
    · rw [if_pos za, if_pos za, if_pos zb, if_pos zb, (gchk_none ca za).1, (gchk_none ca za).2, (gchk_none cb zb).1, (gchk_none cb zb).2]
    · rw [if_pos za, if_pos za, if_neg zb, if_neg zb, if_pos za, if_pos za]
  · by_cases zb : b.n = 0
    · rw [if_neg za, if_neg za, if_pos zb, if_pos zb, if_pos zb, if_pos zb]
    · rw [if_neg za, if_neg za, if_neg zb, if_neg zb, if_neg zb, if_neg zb, if_neg za, if_neg za]
      obtain ⟨p1, p2⟩ := gchk_some ca za
      obtain ⟨q1, q2⟩ := gchk_some cb zb
      rw [less_key q1 p1, less_key p1 q1, less_key p2 q2, less_key q2 p2]
      have e1 : (if decide (keyB b.lo < keyB a.lo) = true then b.lo else a.lo) = (if decide (keyB a.lo < keyB b.lo) = true then a.lo else b.lo) := by
        simp only [decide_eq_true_eq]
        rcases Int.lt_trichotomy (keyB a.lo) (keyB b.lo) with c | c | c
        · rw [if_neg (by omega), if_pos c]
        · rw [if_neg (by omega), if_neg (by omega)]; exact keyB_inj ha.2.2.1 hb.2.2.1 c
        · rw [if_pos c, if_neg (by omega)]
      have e2 : (if decide (keyB a.hi < keyB b.hi) = true then b.hi else a.hi) = (if decide (keyB b.hi < keyB a.hi) = true then a.hi else b.hi) := by
        simp only [decide_eq_true_eq]
        rcases Int.lt_trichotomy (keyB a.hi) (keyB b.hi) with c | c | c
        · rw [if_pos c, if_neg (by omega)]
        · rw [if_neg (by omega), if_neg (by omega)]; exact keyB_inj ha.2.2.2 hb.2.2.2 c
        · rw [if_neg (by omega), if_pos c]
      rw [e1, e2]
theorem gmerge_zero_left {g : G4} (h : g.wf) : gmerge gzero g = g := by
  have e1 : hold (0 + g.n) = g.n := by unfold hold; rw [Int.zero_add, if_pos h.1.2]
  have e2 : hold (0 + g.nans) = g.nans := by unfold hold; rw [Int.zero_add, if_pos h.2.1.2]
  show (⟨hold (0 + g.n), hold (0 + g.nans), g.lo, g.hi⟩ : G4) = g
  rw [e1, e2]
theorem gzero_chk : gchk gzero = true := rfl
theorem gmerge_zero_right {g : G4} (h : g.wf) (c : gchk g = true) : gmerge g gzero = g := by
  rw [gmerge_comm h ⟨⟨by decide, by decide⟩, ⟨by decide, by decide⟩, ⟨by decide, by decide⟩, ⟨by decide, by decide⟩⟩ c gzero_chk, gmerge_zero_left h]
theorem hold0 {x y : Int} (hx : 0 ≤ x) (hy : 0 ≤ y) : hold (x + y) = 0 ↔ x = 0 ∧ y = 0 := by
  unfold hold; split <;> constructor <;> intro h <;> omega
theorem gmerge_chk {a b : G4} (ha : a.wf) (hb : b.wf) (ca : gchk a = true) (cb : gchk b = true) : gchk (gmerge a b) = true := by
  by_cases za : a.n = 0
  · by_cases zb : b.n = 0
    · have e : (gmerge a b).n = 0 := (hold0 ha.1.1 hb.1.1).2 ⟨za, zb⟩
      have l : (gmerge a b).lo = 0 := by show (if a.n = 0 then b.lo else _) = 0; rw [if_pos za, (gchk_none cb zb).1]
      have h : (gmerge a b).hi = 0 := by show (if a.n = 0 then b.hi else _) = 0; rw [if_pos za, (gchk_none cb zb).2]
      unfold gchk; rw [if_pos e, l, h]; rfl
    · have e : (gmerge a b).n ≠ 0 := fun h => zb ((hold0 ha.1.1 hb.1.1).1 h).2
      have l : (gmerge a b).lo = b.lo := by show (if a.n = 0 then b.lo else _) = _; rw [if_pos za]
      have h : (gmerge a b).hi = b.hi := by show (if a.n = 0 then b.hi else _) = _; rw [if_pos za]
      unfold gchk at cb ⊢; rw [if_neg zb] at cb; rw [if_neg e, l, h]; exact cb
  · have e : (gmerge a b).n ≠ 0 := fun h => za ((hold0 ha.1.1 hb.1.1).1 h).1
    by_cases zb : b.n = 0
    · have l : (gmerge a b).lo = a.lo := by show (if a.n = 0 then b.lo else if b.n = 0 then a.lo else _) = _; rw [if_neg za, if_pos zb]
      have h : (gmerge a b).hi = a.hi := by show (if a.n = 0 then b.hi else if b.n = 0 then a.hi else _) = _; rw [if_neg za, if_pos zb]
      unfold gchk at ca ⊢; rw [if_neg za] at ca; rw [if_neg e, l, h]; exact ca
    · obtain ⟨p1, p2⟩ := gchk_some ca za
      obtain ⟨q1, q2⟩ := gchk_some cb zb
      have l : (gmerge a b).lo = if lessB b.lo a.lo = true then b.lo else a.lo := by show (if a.n = 0 then b.lo else if b.n = 0 then a.lo else _) = _; rw [if_neg za, if_neg zb]
      have h : (gmerge a b).hi = if lessB a.hi b.hi = true then b.hi else a.hi := by show (if a.n = 0 then b.hi else if b.n = 0 then a.hi else _) = _; rw [if_neg za, if_neg zb]
      unfold gchk at ca cb ⊢
      rw [if_neg za] at ca
      rw [if_neg zb] at cb
      rw [if_neg e, l, h, less_key q1 p1, less_key p2 q2]
      rw [p1, p2, less_key p2 p1] at ca
      rw [q1, q2, less_key q2 q1] at cb
      simp only [Bool.not_false, Bool.true_and, Bool.not_eq_true', decide_eq_false_iff_not, decide_eq_true_eq] at ca cb ⊢
      split <;> split <;> simp only [p1, p2, q1, q2, Bool.not_false, Bool.true_and, Bool.not_eq_true', less_key p2 p1, less_key q2 q1, less_key p2 q1, less_key q2 p1, decide_eq_false_iff_not] <;> omega
/-- The one with the less key. -/
def mn (x y : Int) : Int := if keyB y < keyB x then y else x
def mx (x y : Int) : Int := if keyB x < keyB y then y else x
theorem mn_assoc {x y z : Int} : mn (mn x y) z = mn x (mn y z) := by
  unfold mn
  by_cases c1 : keyB y < keyB x <;> by_cases c2 : keyB z < keyB y <;> by_cases c3 : keyB z < keyB x <;> simp only [c1, c2, c3, if_true, if_false] <;> first | rfl | (exfalso; omega)
theorem mx_assoc {x y z : Int} : mx (mx x y) z = mx x (mx y z) := by
  unfold mx
  by_cases c1 : keyB x < keyB y <;> by_cases c2 : keyB y < keyB z <;> by_cases c3 : keyB x < keyB z <;> simp only [c1, c2, c3, if_true, if_false] <;> first | rfl | (exfalso; omega)
theorem gmerge_ends {a b : G4} (ca : gchk a = true) (cb : gchk b = true) (za : a.n ≠ 0) (zb : b.n ≠ 0) : gmerge a b = ⟨hold (a.n + b.n), hold (a.nans + b.nans), mn a.lo b.lo, mx a.hi b.hi⟩ := by
  obtain ⟨p1, p2⟩ := gchk_some ca za
  obtain ⟨q1, q2⟩ := gchk_some cb zb
  unfold gmerge mn mx
  rw [if_neg za, if_neg za, if_neg zb, if_neg zb, less_key q1 p1, less_key p2 q2]
  simp only [decide_eq_true_eq]
theorem gmerge_left {a b : G4} (za : a.n = 0) : gmerge a b = ⟨hold (a.n + b.n), hold (a.nans + b.nans), b.lo, b.hi⟩ := by
  unfold gmerge; rw [if_pos za, if_pos za]
theorem gmerge_right {a b : G4} (za : a.n ≠ 0) (zb : b.n = 0) : gmerge a b = ⟨hold (a.n + b.n), hold (a.nans + b.nans), a.lo, a.hi⟩ := by
  unfold gmerge; rw [if_neg za, if_neg za, if_pos zb, if_pos zb]
theorem gmerge_assoc {a b c : G4} (ha : a.wf) (hb : b.wf) (hc : c.wf) (ca : gchk a = true) (cb : gchk b = true) (cc : gchk c = true) : gmerge (gmerge a b) c = gmerge a (gmerge b c) := by
  have e1 : hold (hold (a.n + b.n) + c.n) = hold (a.n + hold (b.n + c.n)) := hold_hold ha.1.1 hc.1.1
  have e2 : hold (hold (a.nans + b.nans) + c.nans) = hold (a.nans + hold (b.nans + c.nans)) := hold_hold ha.2.1.1 hc.2.1.1
  have kab := gmerge_chk ha hb ca cb
  have kbc := gmerge_chk hb hc cb cc
  have nab : (gmerge a b).n = 0 ↔ a.n = 0 ∧ b.n = 0 := hold0 ha.1.1 hb.1.1
  have nbc : (gmerge b c).n = 0 ↔ b.n = 0 ∧ c.n = 0 := hold0 hb.1.1 hc.1.1
  by_cases za : a.n = 0
  · rw [gmerge_left (a := a) (b := gmerge b c) za]
    by_cases zb : b.n = 0
    · rw [gmerge_left (a := gmerge a b) (nab.2 ⟨za, zb⟩), gmerge_left (a := b) (b := c) zb, gmerge_left (a := a) (b := b) za]
      simp only [e1, e2]
    · by_cases zc : c.n = 0
      · rw [gmerge_right (fun h => zb (nab.1 h).2) zc, gmerge_right zb zc, gmerge_left (a := a) (b := b) za]
        simp only [e1, e2]
      · rw [gmerge_ends kab cc (fun h => zb (nab.1 h).2) zc, gmerge_ends cb cc zb zc, gmerge_left (a := a) (b := b) za]
        simp only [e1, e2]
  · have zab : (gmerge a b).n ≠ 0 := fun h => za (nab.1 h).1
    by_cases zb : b.n = 0
    · by_cases zc : c.n = 0
      · rw [gmerge_right zab zc, gmerge_right za (nbc.2 ⟨zb, zc⟩), gmerge_right za zb, gmerge_left (a := b) (b := c) zb]
        simp only [e1, e2]
      · rw [gmerge_ends kab cc zab zc, gmerge_ends ca kbc za (fun h => zc (nbc.1 h).2), gmerge_right za zb, gmerge_left (a := b) (b := c) zb]
        simp only [e1, e2]
    · by_cases zc : c.n = 0
      · rw [gmerge_right zab zc, gmerge_ends ca kbc za (fun h => zb (nbc.1 h).1), gmerge_ends ca cb za zb, gmerge_right zb zc]
        simp only [e1, e2]
      · rw [gmerge_ends kab cc zab zc, gmerge_ends ca kbc za (fun h => zb (nbc.1 h).1), gmerge_ends ca cb za zb, gmerge_ends cb cc zb zc]
        simp only [e1, e2, mn_assoc, mx_assoc]
theorem one_chk {b : Int} (hb : nanB b = false) : gchk ⟨1, 0, b, b⟩ = true := by
  unfold gchk
  rw [if_neg (by simp), hb, less_key hb hb]; simp
theorem gadd_chk {g : G4} (h : g.wf) (c : gchk g = true) {b : Int} (hb : U b) : gchk (gadd g b) = true := by
  unfold gadd
  cases hn : nanB b
  · rw [if_neg (by simp)]; exact gmerge_chk h (one_wf hb) c (one_chk hn)
  · rw [if_pos rfl]; exact c
end Go.Proofs.Ytncgjbocgbnkcaa.Pure
namespace Go.Proofs.Ytncgjbocgbnkcaa
set_option linter.unusedVariables false
set_option linter.unusedSimpArgs false
open Go.RowKit Go.Maps Go.Proofs.YtncgjbocgbnkcaaW.PrintWords Go.Proofs.YtncgjbocgbnkcaaW.PrintLast Go.Proofs.YtncgjbocgbnkcaaW.PrintMore Go.Proofs.Ytncgjbocgbnkcaa.Pure Go.Proofs.Ytncgjbocgbnkcaa.Q Go.Proofs.Ytncgjbocgbnkcaa.Hi Go.Proofs.Ytncgjbocgbnkcaa.Ga
def gcells (g : G4) : Array Value := #[.int .u64 g.n, .int .u64 g.nans, .int .u64 g.lo, .int .u64 g.hi]
def szero : Array Value := #[.slice none 0 0, .slice none 0 0, .int .u64 0, .int .u64 0, .int .u64 0, .int .u64 0]
structure PS (w0 W : World) (r g k b x : Nat) (s S : List Int) (G : G4) : Prop where
  hs : HS w0 W [(g, s)]
  ks : KS w0 W [(k, b, S)]
  gb : W.heap[x]? = some (.cells (gcells G) 43 (0, 0))
  rb : W.heap[r]? = some (.cells szero 45 (0, 0))
  ord : w0.heap.size ≤ r ∧ r < g ∧ g < k ∧ g < b ∧ k < x ∧ b < x
theorem PS.bel {w0 W : World} {r g k b x : Nat} {s S : List Int} {G : G4} (h : PS w0 W r g k b x s S G) : Below w0.heap.size w0 W := h.hs.bel
theorem HS.one {w0 W W' : World} {g : Nat} {s : List Int} (h : HS w0 W [(g, s)]) (hB : Below w0.heap.size w0 W') (hg : W'.heap[g]? = W.heap[g]?) : HS w0 W' [(g, s)] := by
  refine ⟨fun p hp => ?_, h.2.1, hB⟩
  rw [List.mem_singleton] at hp
  subst hp
  have := h.1 (g, s) (by simp)
  exact ⟨hg.trans this.1, this.2⟩
theorem KS.one {w0 W W' : World} {k b : Nat} {s : List Int} (h : KS w0 W [(k, b, s)]) (hB : Below w0.heap.size w0 W') (hk : W'.heap[k]? = W.heap[k]?) (hb : W'.heap[b]? = W.heap[b]?) : KS w0 W' [(k, b, s)] := by
  refine ⟨fun p hp => ?_, h.2.1, hB⟩
  rw [List.mem_singleton] at hp
  subst hp
  have := h.1 (k, b, s) (by simp)
  exact ⟨this.1.block hk hb, this.2⟩
theorem PS.lt {w0 W : World} {r g k b x : Nat} {s S : List Int} {G : G4} (h : PS w0 W r g k b x s S G) : x < W.heap.size ∧ b < W.heap.size ∧ k < W.heap.size ∧ g < W.heap.size ∧ r < W.heap.size := by
  have := blk_lt h.gb
  have := h.ord
  omega
/-- Another gauge. -/
theorem PS.to {w0 W W' : World} {r g k b x : Nat} {s S : List Int} {G G' : G4} (h : PS w0 W r g k b x s S G) (hB : Below w0.heap.size w0 W') (hn : ∀ i, i < W.heap.size → i ≠ x → W'.heap[i]? = W.heap[i]?) (hx : W'.heap[x]? = some (.cells (gcells G') 43 (0, 0))) : PS w0 W' r g k b x s S G' := by
  have l := h.lt
  have o := h.ord
  exact ⟨h.hs.one hB (hn g (by omega) (by omega)), h.ks.one hB (hn k (by omega) (by omega)) (hn b (by omega) (by omega)), hx, (hn r (by omega) (by omega)).trans h.rb, o⟩
theorem PS.below {w0 W W' : World} {r g k b x : Nat} {s S : List Int} {G : G4} (h : PS w0 W r g k b x s S G) (hb : Below W.heap.size W W') : PS w0 W' r g k b x s S G :=
  h.to (h.bel.trans (hb.mono h.bel.size)) (fun i hi _ => hb.block i hi) ((hb.block x h.lt.1).trans h.gb)
theorem PS.hadd {w0 W : World} {r g k b x : Nat} {s S : List Int} {G : G4} (h : PS w0 W r g k b x s S G) (hs : hgood s = true) {v n : Int} (hv : 0 ≤ v ∧ v < 18446744073709551616) (hn : 0 ≤ n ∧ n < 18446744073709551616) :
    Calls Try.prog 58 #[.pointer (some ⟨g, 0, none⟩), .int .u64 v, .int .u64 n] W fun e w' => e = .returned (.tuple #[]) ∧ PS w0 w' r g k b x (hadd s (bucketN v.toNat) n) S G ∧ W.heap.size ≤ w'.heap.size ∧ ∀ i, i < W.heap.size → i ≠ g → w'.heap[i]? = W.heap[i]? :=
  (h.hs.add 0 rfl hs hv hn).mono fun _ w' ⟨he, h1, hk⟩ => by
    have l := h.lt
    have o := h.ord
    have q : ∀ i, i < W.heap.size → i ≠ g → w'.heap[i]? = W.heap[i]? := fun i hi hne => hk.2 i hi hne (by simp)
    exact ⟨he, ⟨h1, h.ks.one h1.bel (q k (by omega) (by omega)) (q b (by omega) (by omega)), (q x (by omega) (by omega)).trans h.gb, (q r (by omega) (by omega)).trans h.rb, o⟩, hk.1, q⟩
theorem PS.kadd {w0 W : World} {r g k b x : Nat} {s S : List Int} {G : G4} (h : PS w0 W r g k b x s S G) {t : ByteArray} {n : Nat} {v : Int} (hf : fnv_Of.f n t = some v) (hv : 0 ≤ v ∧ v < 18446744073709551616) :
    Calls Try.prog 66 #[.pointer (some ⟨k, 0, none⟩), .string t] W fun e w' => e = .returned (.tuple #[]) ∧ PS w0 w' r g k b x s (khash S v) G ∧ W.heap.size ≤ w'.heap.size ∧ ∀ i, i < W.heap.size → i ≠ k → i ≠ b → w'.heap[i]? = W.heap[i]? :=
  (h.ks.add 0 rfl hf hv).mono fun _ w' ⟨he, h1, hk⟩ => by
    have l := h.lt
    have o := h.ord
    have q : ∀ i, i < W.heap.size → i ≠ k → i ≠ b → w'.heap[i]? = W.heap[i]? := hk.2.2.2.2
    exact ⟨he, ⟨h.hs.one h1.bel (q g (by omega) (by omega) (by omega)), h1, (q x (by omega) (by omega) (by omega)).trans h.gb, (q r (by omega) (by omega) (by omega)).trans h.rb, o⟩, hk.2.2.2.1, q⟩
end Go.Proofs.Ytncgjbocgbnkcaa
namespace Go.Proofs.Ytncgjbocgbnkcaa.Pure
set_option linter.unusedVariables false
set_option linter.unusedSimpArgs false
open Go.RowKit Go.Proofs.Ytncgjbocgbnkcaa.Hi Go.Proofs.YtncgjbocgbnkcaaW.PrintWords Go.Proofs.YtncgjbocgbnkcaaW.PrintLast
/-- All of a list, one by one. -/
def addEach (l : List Int) : List Int := l.foldl (fun s v => hadd s (bucketN v.toNat) 1) (hzero 7424)
theorem addEach_snoc (l : List Int) (x : Int) : addEach (l ++ [x]) = hadd (addEach l) (bucketN x.toNat) 1 := by simp [addEach, List.foldl_append]
/-- How many of a list are in the buckets up to r. -/
def upTo (l : List Int) (r : Nat) : Nat := l.countP (fun x => decide (bucketN x.toNat < r))
theorem snoc_ind {P : List Int → Prop} (h0 : P []) (h1 : ∀ l x, P l → P (l ++ [x])) (l : List Int) : P l := by
  have : ∀ r : List Int, P r.reverse := by
    intro r
    induction r with
    | nil => exact h0
    | cons x r ih => rw [List.reverse_cons]; exact h1 _ x ih
  have := this l.reverse
  rwa [List.reverse_reverse] at this
theorem addEach_spec (l : List Int) (hl : ∀ x ∈ l, 0 ≤ x ∧ x < 18446744073709551616) (hn : l.length ≤ 1000) :
    hgood (addEach l) = true ∧ psum (addEach l) = l.length ∧ ∀ r, r ≤ 7424 → psum ((addEach l).take r) = upTo l r := by
  revert hl hn
  refine snoc_ind (P := fun l => (∀ x ∈ l, 0 ≤ x ∧ x < 18446744073709551616) → l.length ≤ 1000 → hgood (addEach l) = true ∧ psum (addEach l) = l.length ∧ ∀ r, r ≤ 7424 → psum ((addEach l).take r) = upTo l r) ?_ ?_ l
  · intro _ _
    refine ⟨hzero_good, psum_hzero 7424, fun r hr => ?_⟩
    show psum ((hzero 7424).take r) = 0
    unfold hzero
    rw [List.take_replicate]
    exact psum_hzero _
  · intro l x ih hl hn
    rw [List.length_append, List.length_singleton] at hn
    obtain ⟨h1, h2, h3⟩ := ih (fun y hy => hl y (by simp [hy])) (by omega)
    have hx := hl x (by simp)
    have hb := bucketN_lt x.toNat (by omega)
    have gg := (hgood_iff _).mp h1
    have hge := psum_ge _ gg.2 (bucketN x.toNat) (by omega)
    have hg0 := getD_range gg.2 (bucketN x.toNat)
    rw [addEach_snoc]
    have hh : hold ((addEach l).getD (bucketN x.toNat) 0 + 1) = (addEach l).getD (bucketN x.toNat) 0 + 1 := by
      unfold hold; rw [if_pos (by omega)]
    refine ⟨hadd_good h1 _ _ (by omega), ?_, fun r hr => ?_⟩
    · unfold hadd
      rw [hh, psum_set _ _ _ (by omega), h2, List.length_append, List.length_singleton]
      omega
    · have h4 := h3 r hr
      unfold hadd upTo
      rw [hh, List.take_set, List.countP_append]
      by_cases c : bucketN x.toNat < r
      · rw [psum_set _ _ _ (by rw [List.length_take]; omega), h4, take_getD _ _ _ c]
        simp only [List.countP_singleton, decide_eq_true c, if_true]
        unfold upTo
        omega
      · rw [List.set_eq_of_length_le (by rw [List.length_take]; omega), h4]
        simp only [List.countP_singleton, decide_eq_false c, upTo]
        simp
end Go.Proofs.Ytncgjbocgbnkcaa.Pure
namespace Go.Proofs.Ytncgjbocgbnkcaa
set_option linter.unusedVariables false
set_option linter.unusedSimpArgs false
open Go.RowKit Go.Maps Go.Proofs.YtncgjbocgbnkcaaW.PrintWords Go.Proofs.YtncgjbocgbnkcaaW.PrintLast Go.Proofs.YtncgjbocgbnkcaaW.PrintMore Go.Proofs.Ytncgjbocgbnkcaa.Pure Go.Proofs.Ytncgjbocgbnkcaa.Q Go.Proofs.Ytncgjbocgbnkcaa.Hi Go.Proofs.Ytncgjbocgbnkcaa.Ga
/-- A string's hash. -/
def fnvV (s : ByteArray) : Int := (fnv_Of.f (s.size + 1) s).getD 0
theorem fnv_val (s : ByteArray) (hs : s.size ≤ maxLen) : fnv_Of.f (s.size + 1) s = some (fnvV s) ∧ varveref06_Of.f (s.size + 1) s = some (fnvV s) ∧ 0 ≤ fnvV s ∧ fnvV s < 18446744073709551616 := by
  obtain ⟨r, e1, e2, hr⟩ := fnv_round s hs s.size 0 14695981039346656037 (by omega) (by omega) (by omega)
  have f1 : fnv_Of.f (s.size + 1) s = some r := by
    unfold fnv_Of.f fnv_More.f
    rw [show (0 : Int) = ((0 : Nat) : Int) from rfl, e1]; rfl
  have f2 : varveref06_Of.f (s.size + 1) s = some r := by
    unfold varveref06_Of.f varveref06_More.f
    rw [show (0 : Int) = ((0 : Nat) : Int) from rfl, e2]; rfl
  have e : fnvV s = r := by unfold fnvV; rw [f1]; rfl
  rw [e]
  exact ⟨f1, f2, hr⟩
/-- Observations as they come. -/
def OW (l : List S90) : Prop := ∀ o ∈ l, U o.f0 ∧ o.f1.size ≤ maxLen ∧ U o.f2
def ofH (l : List S90) : List Int := addEach (l.map (fun o : S90 => o.f0))
def ofK (l : List S90) : List Int := kmany [] (l.map (fun o => fnvV o.f1))
def ofG (l : List S90) : G4 := (l.map (fun o : S90 => o.f2)).foldl gadd gzero
theorem ofH_snoc (l : List S90) (o : S90) : ofH (l ++ [o]) = hadd (ofH l) (bucketN o.f0.toNat) 1 := by
  unfold ofH; rw [List.map_append]; exact addEach_snoc _ _
theorem ofK_snoc (l : List S90) (o : S90) : ofK (l ++ [o]) = khash (ofK l) (fnvV o.f1) := by
  unfold ofK; rw [List.map_append]; exact kmany_snoc _ _ _
theorem ofG_snoc (l : List S90) (o : S90) : ofG (l ++ [o]) = gadd (ofG l) o.f2 := by
  unfold ofG; simp [List.foldl_append]
theorem ofH_good {l : List S90} (h : OW l) (hl : l.length ≤ 1000) : hgood (ofH l) = true :=
  (addEach_spec (l.map (fun o : S90 => o.f0)) (fun x hx => by obtain ⟨o, ho, rfl⟩ := List.mem_map.1 hx; exact (h o ho).1) (by simpa using hl)).1
theorem foldl_wf (l : List Int) (hl : ∀ x ∈ l, U x) : ∀ g : G4, g.wf → (l.foldl gadd g).wf := by
  induction l with
  | nil => intro g h; exact h
  | cons x l ih => intro g h; exact ih (fun y hy => hl y (by simp [hy])) _ (gadd_wf h (hl x (by simp)))
theorem gzero_wf : gzero.wf := ⟨⟨by decide, by decide⟩, ⟨by decide, by decide⟩, ⟨by decide, by decide⟩, ⟨by decide, by decide⟩⟩
theorem ofG_wf {l : List S90} (h : OW l) : (ofG l).wf :=
  foldl_wf _ (fun x hx => by obtain ⟨o, ho, rfl⟩ := List.mem_map.1 hx; exact (h o ho).2.2) _ gzero_wf
theorem rd121 {l : List S90} {i : Nat} (h : i < l.length) : rd_T90 l (i : Int) = l[i] := by
  simp [rd_T90, List.getD, List.getElem?_eq_getElem h]
theorem PS.put4 {w0 W : World} {r g k b x : Nat} {s S : List Int} {G : G4} (h : PS w0 W r g k b x s S G) (G' : G4) :
    PS w0 ((((W.setCell ⟨x, 0, none⟩ (.int .u64 G'.n)).setCell ⟨x, 1, none⟩ (.int .u64 G'.nans)).setCell ⟨x, 2, none⟩ (.int .u64 G'.lo)).setCell ⟨x, 3, none⟩ (.int .u64 G'.hi)) r g k b x s S G' := by
  have hx : w0.heap.size ≤ x := by have := h.ord; omega
  refine h.to (below_set (below_set (below_set (below_set h.bel hx) hx) hx) hx) (fun i _ hne => ?_) ?_
  · rw [Below.heap_setCell _ _ _ i hne, Below.heap_setCell _ _ _ i hne, Below.heap_setCell _ _ _ i hne, Below.heap_setCell _ _ _ i hne]
  · exact blk_set (blk_set (blk_set (blk_set h.gb 0 _) 1 _) 2 _) 3 _
theorem alloc_old (w : World) (o : Obj) (k : Nat) (h : k < w.heap.size) : (w.alloc o).heap[k]? = w.heap[k]? := (below_alloc (Below.refl w.heap.size w) o).block k h
theorem new_at (W : World) (n : Nat) (hn : W.heap.size = n) : Calls Try.prog 57 #[] W fun e w' => e = .returned (.pointer (some ⟨n, 0, none⟩)) ∧ w'.heap[n]? = some (.cells (hcells (hzero 7424)) 118 (0, 0)) ∧ Below n W w' := by
  subst hn; exact (new_any W).mono fun _ _ ⟨he, hh, hb⟩ => ⟨he, hh, hb⟩
theorem PS.start (w w1 w2 : World) {k b : Nat} (h1 : w1.heap[w.heap.size + 1]? = some (.cells (hcells (hzero 7424)) 118 (0, 0))) (b1 : Below (w.heap.size + 1) (w.alloc (.cells szero 45)) w1)
    (hk : KM w2 k b []) (l1 : w1.heap.size ≤ k) (l2 : w1.heap.size ≤ b) (b2 : Below w1.heap.size w1 w2) :
    PS w (w2.alloc (.cells (gcells gzero) 43)) w.heap.size (w.heap.size + 1) k b w2.heap.size (hzero 7424) [] gzero := by
  have s0 : (w.alloc (.cells szero 45)).heap.size = w.heap.size + 1 := by simp
  have B0 : Below w.heap.size w (w.alloc (.cells szero 45)) := below_alloc (Below.refl _ _) _
  have B1 := B0.trans (b1.mono (Nat.le_succ _))
  have B2 := B1.trans (b2.mono B1.size)
  have B3 : Below w.heap.size w (w2.alloc (.cells (gcells gzero) 43)) := below_alloc B2 _
  have g1 := blk_lt h1
  have km := hk.lt
  have r0 : (w.alloc (.cells szero 45)).heap[w.heap.size]? = some (.cells szero 45 (0, 0)) := blk_new _ _
  have r1 := (b1.block w.heap.size (Nat.lt_succ_self _)).trans r0
  have r2 := (b2.block w.heap.size (by omega)).trans r1
  have g2 := (b2.block _ g1).trans h1
  have hk3 : KM (w2.alloc (.cells (gcells gzero) 43)) k b [] := hk.block (alloc_old _ _ _ km.1) (alloc_old _ _ _ km.2)
  refine ⟨⟨fun p hp => ?_, by simp, B3⟩, ⟨fun p hp => ?_, fun i j p q hij hp hq => ?_, B3⟩, blk_new _ _, blk_alloc r2 _, by omega⟩
  · rw [List.mem_singleton] at hp
    subst hp
    exact ⟨blk_alloc g2 _, by omega⟩
  · rw [List.mem_singleton] at hp
    subst hp
    exact ⟨hk3, by have := B1.size; simp only; omega, by have := B1.size; simp only; omega⟩
  · exfalso
    have a1 := (List.getElem?_eq_some_iff.1 hp).1
    have a2 := (List.getElem?_eq_some_iff.1 hq).1
    simp at a1 a2
    omega
set_option maxHeartbeats 4000000 in
set_option maxRecDepth 100000 in
theorem of_any (A0 : Option Addr) (c0 : Nat) (l : List S90) (w : World) (C0 : Kd.C k90 w A0 l.length l) (hO : OW l) (hl : l.length ≤ 1000) :
    Calls Try.prog 26 #[.slice A0 l.length c0] w fun e w' => ∃ A c A' c', e = .returned (.agg #[.slice A (bks (ofH l)).length c, .slice A' (ofK l).length c', .int .u64 (ofG l).n, .int .u64 (ofG l).nans, .int .u64 (ofG l).lo, .int .u64 (ofG l).hi]) ∧ (bks (ofH l)).length ≤ c ∧ (ofK l).length ≤ c' ∧
      Kd.R k68 68 w' w.heap.size (fun _ => True) (.slice A (bks (ofH l)).length c) (bks (ofH l)) ∧ Kd.R (Kd.int .u64) 41 w' w.heap.size (fun _ => True) (.slice A' (ofK l).length c') (ofK l) ∧ Below w.heap.size w w' := by
  have HC0 := Lib.hid C0; have HO := Lib.hid hO
  clear C0 hO
  go_enter Try.func26, Try.ntmps26
  go_wp2_with (first
    | (go_at_call 57; refine (new_at _ (w.heap.size + 1) (by simp)).mono ?_; rintro e w1 ⟨rfl, hh, hb1⟩)
    | (go_at_call 65; refine (new_u _).mono ?_; rintro e w2 ⟨k, b, rfl, hk, l1, l2, hb2⟩))
  have hS := PS.start w w1 w2 hh hb1 hk l1 l2 hb2
  obtain ⟨g, hg⟩ : ∃ g, w.heap.size + 1 = g := ⟨_, rfl⟩
  obtain ⟨x, hx⟩ : ∃ x, w2.heap.size = x := ⟨_, rfl⟩
  rw [hg, hx] at hS
  rw [hg, hx]
  clear hh hb1 hk l1 l2 hb2 hg hx
  go_loopw [13] (fun v13 wr => ∃ i : Nat, v13 = .int .i64 i ∧ i ≤ l.length ∧ PS w wr w.heap.size g k b x (ofH (l.take i)) (ofK (l.take i)) (ofG (l.take i))) (fun vi _ => l.length - (intOf vi).toNat)
  case atStart => exact ⟨0, rfl, Nat.zero_le _, hS⟩
  case round =>
    clear hS
    obtain ⟨i, rfl, hi, hP⟩ := hrel
    have HP := Lib.hid hP
    by_cases hil : i < l.length
    · have e1 : decide ((i : Int) < (l.length : Int)) = true := decide_eq_true (by omega)
      have e1b : decide (i < l.length) = true := decide_eq_true hil
      obtain ⟨ax, hax, q0, q1, q2⟩ := at_T90 HC0.out (i : Int) (by omega) (by omega)
      rw [Int.toNat_natCast, rd121 hil] at q0 q1 q2
      obtain ⟨o, ho⟩ : ∃ o, l[i] = o := ⟨_, rfl⟩
      rw [ho] at q0 q1 q2
      have et : l.take (i + 1) = l.take i ++ [o] := by rw [← ho, List.take_succ_eq_append_getElem hil]
      have eH := ofH_snoc (l.take i) o
      have eK := ofK_snoc (l.take i) o
      have eG := ofG_snoc (l.take i) o
      rw [← et] at eH eK eG
      have hoU := HO.out o (by rw [← ho]; exact List.getElem_mem _)
      have hgood_ := ofH_good (l := l.take i) (fun y hy => HO.out y (List.mem_of_mem_take hy)) (by rw [List.length_take]; omega)
      have hwf := ofG_wf (l := l.take i) (fun y hy => HO.out y (List.mem_of_mem_take hy))
      have HU := Lib.hid hoU; have HI := Lib.hid hil; have HEH := Lib.hid eH; have HEK := Lib.hid eK; have HEG := Lib.hid eG; have HGD := Lib.hid hgood_; have HWF := Lib.hid hwf
      have p0 := (hP.bel.cell (World.block_lt_of_cell? w _ q0)).trans q0
      have p1 := (hP.bel.cell (World.block_lt_of_cell? w _ q1)).trans q1
      have p2 := (hP.bel.cell (World.block_lt_of_cell? w _ q2)).trans q2
      obtain ⟨s, hs⟩ : ∃ s, ofH (l.take i) = s := ⟨_, rfl⟩
      obtain ⟨S, hS⟩ : ∃ S, ofK (l.take i) = S := ⟨_, rfl⟩
      obtain ⟨G, hG⟩ : ∃ G, ofG (l.take i) = G := ⟨_, rfl⟩
      rw [hs] at HP HEH HGD
      rw [hS] at HP HEK
      rw [hG] at HP HEG HWF
      have FV := Lib.hid (fnv_val o.f1 HU.out.2.1)
      obtain ⟨v, hv⟩ : ∃ v, fnvV o.f1 = v := ⟨_, rfl⟩
      rw [hv] at FV HEK
      obtain ⟨os, ns, f2⟩ := o
      obtain ⟨G1, hG1⟩ : ∃ G1, gadd G f2 = G1 := ⟨_, rfl⟩
      rw [hG1] at HEG
      have GA := fun W => gauge_Add.calls G.n G.nans G.lo G.hi f2 G1.n G1.nans G1.lo G1.hi W (by rw [← hG1]; exact gadd_eq HWF.out HU.out.2.2)
      have hlx := HP.out.lt.1
      have hox := HP.out.ord
      have hP1 := HP.out.below (below_alloc (Below.refl wr.heap.size wr) (.cells #[.int .u64 os, .string ns, .int .u64 f2] 90))
      have hb1 := blk_new wr (.cells #[.int .u64 os, .string ns, .int .u64 f2] 90)
      have hz1 : (wr.alloc (.cells #[.int .u64 os, .string ns, .int .u64 f2] 90)).heap.size = wr.heap.size + 1 := by simp
      have HP1 := Lib.hid hP1; have HB1 := Lib.hid hb1; have HZ1 := Lib.hid hz1
      have CA := hP1.hadd HGD.out HU.out.1 (n := 1) ⟨by decide, by decide⟩
      subst hax
      clear hs hS hG hv hG1 hP1 hb1 hz1
      go_wp2_with (first
        | (go_at_call 58; refine CA.mono ?_; rintro e w3 ⟨rfl, hP3, hs3, hq3⟩; have hb3 := (hq3 wr.heap.size (by rw [HZ1.out]; omega) (by omega)).trans HB1.out; have c3 := blk_cell hb3 1; have HP3 := Lib.hid hP3; have HB3 := Lib.hid hb3; have hz3 : wr.heap.size < w3.heap.size := blk_lt hb3; clear hP3 hs3 hq3 hb3 CA)
        | (go_at_call 66; refine (HP3.out.kadd FV.out.1 FV.out.2.2).mono ?_; rintro e w4 ⟨rfl, hP4, hs4, hq4⟩; have hb4 := (hq4 wr.heap.size hz3 (by omega) (by omega)).trans HB3.out; have c4 := blk_cell hb4 2; have hg4 := hP4.gb; have d0 : w4.cell? ⟨x, 0, none⟩ = some (.int .u64 G.n) := blk_cell hg4 0; have d1 : w4.cell? ⟨x, 1, none⟩ = some (.int .u64 G.nans) := blk_cell hg4 1; have d2 : w4.cell? ⟨x, 2, none⟩ = some (.int .u64 G.lo) := blk_cell hg4 2; have d3 : w4.cell? ⟨x, 3, none⟩ = some (.int .u64 G.hi) := blk_cell hg4 3; have HP4 := Lib.hid hP4; have hz4 := hP4.lt.1; clear hP4 hs4 hq4 hb4 hg4 c3 HP3 HB3 hz3)
        | (go_at_call 67; refine (GA _).mono ?_; rintro e w5 ⟨rfl, hb5⟩; have hP5 := HP4.out.below hb5; clear GA hb5 c4 d0 d1 d2 d3 HP4; have hg5 := hP5.gb; have d0 : w5.cell? ⟨x, 0, none⟩ = some (.int .u64 G.n) := blk_cell hg5 0; have d1 : w5.cell? ⟨x, 1, none⟩ = some (.int .u64 G.nans) := blk_cell hg5 1; have d2 : w5.cell? ⟨x, 2, none⟩ = some (.int .u64 G.lo) := blk_cell hg5 2; have d3 : w5.cell? ⟨x, 3, none⟩ = some (.int .u64 G.hi) := blk_cell hg5 3; have f0 := blk_frozen hg5 0; have f1 := blk_frozen hg5 1; have f2' := blk_frozen hg5 2; have f3 := blk_frozen hg5 3; have HP5 := Lib.hid hP5; have HG5 := Lib.hid hg5; clear hP5 hg5))
      go_roundw
      case rel => exact ⟨i + 1, by go_num, by have := HI.out; omega, by rw [HEH.out, HEK.out, HEG.out]; exact HP5.out.put4 G1⟩
      case measure => have := HI.out; simp [intOf]; omega
    · have e1 : decide ((i : Int) < (l.length : Int)) = false := decide_eq_false (by omega)
      have e1b : decide (i < l.length) = false := decide_eq_false hil
      obtain rfl : i = l.length := by omega
      rw [List.take_length] at hP
      have hgood_ := ofH_good HO.out hl
      obtain ⟨s, hs⟩ : ∃ s, ofH l = s := ⟨_, rfl⟩
      obtain ⟨S, hS⟩ : ∃ S, ofK l = S := ⟨_, rfl⟩
      obtain ⟨G, hG⟩ : ∃ G, ofG l = G := ⟨_, rfl⟩
      rw [hs, hS, hG] at hP
      rw [hs] at hgood_
      have HE := Lib.hid (And.intro hs (And.intro hS hG))
      have HP := Lib.hid hP; have HGD := Lib.hid hgood_
      clear hs hS hG hP hgood_ hil
      go_wp2
      have hPa := HP.out.below (below_drew (Below.refl wr.heap.size wr))
      have hga := hPa.gb
      have d0 : wr.drew.cell? ⟨x, 0, none⟩ = some (.int .u64 G.n) := blk_cell hga 0; have d1 : wr.drew.cell? ⟨x, 1, none⟩ = some (.int .u64 G.nans) := blk_cell hga 1; have d2 : wr.drew.cell? ⟨x, 2, none⟩ = some (.int .u64 G.lo) := blk_cell hga 2; have d3 : wr.drew.cell? ⟨x, 3, none⟩ = some (.int .u64 G.hi) := blk_cell hga 3
      have HPA := Lib.hid hPa
      have hne : ¬ w.heap.size = x := by have := hPa.ord; omega
      have CB := HPA.out.hs.bks 0 rfl HGD.out
      clear hPa hga
      refine wp_region_noPanic ?_
      refine start_ (n := 7) (S := fun w' => w'.cell? ⟨x, 0, none⟩ = some (.int .u64 G.n) ∧ w'.cell? ⟨x, 1, none⟩ = some (.int .u64 G.nans) ∧ w'.cell? ⟨x, 2, none⟩ = some (.int .u64 G.lo) ∧ w'.cell? ⟨x, 3, none⟩ = some (.int .u64 G.hi)) (ds := [6]) #[false, false, false, false, false, false, false] (by kernel_rfl) rfl rfl ⟨d0, d1, d2, d3⟩ (fun hHeld => ?_)
      clear d0 d1 d2 d3
      refine pure_ (i := 0) (N := some 30) (v := ?_) (a' := ?_) #[true, false, false, false, false, false, false] rfl rfl (by kernel_rfl) (fun _ _ _ h => h) (Or.inl ⟨by rfl, ?_⟩) ?_ ?_
      rotate_left
      · intro w'
        go_simp
        with_reducible rfl
      rotate_left
      · simp only [Act.put, List.setIfInBounds_toArray, List.set_cons_zero, List.set_cons_succ, i64_w, i32_w]
        rfl
      refine pure_ (i := 2) (N := some 32) (v := ?_) (a' := ?_) #[true, false, true, false, false, false, false] rfl rfl (by kernel_rfl) (fun _ _ _ h => h) (Or.inl ⟨by rfl, ?_⟩) ?_ ?_
      rotate_left
      · intro w'
        go_simp
        with_reducible rfl
      rotate_left
      · simp only [Act.put, List.setIfInBounds_toArray, List.set_cons_zero, List.set_cons_succ, i64_w, i32_w]
        rfl
      refine take_ (i := 4) (N := some 34) (v := ?_) (a' := ?_) #[true, false, true, false, true, false, false] rfl rfl (by kernel_rfl) (fun _ _ _ h => h) (Or.inl ⟨by rfl, ?_⟩) hHeld ?_ ?_
      rotate_left
      · rintro w' ⟨s0, s1, s2, s3⟩
        go_simp
        with_reducible rfl
      rotate_left
      · simp only [Act.put, List.setIfInBounds_toArray, List.set_cons_zero, List.set_cons_succ, i64_w, i32_w]
        rfl
      refine one_ (i := 1) (N := some 31) #[true, true, true, false, true, false, false] rfl rfl (by kernel_rfl) (by decide) (fun K hK => ?_)
      refine goes_ Try.func68 (by kernel_rfl) rfl #[.pointer (some ⟨g, 0, none⟩)] (by rfl) rfl rfl (by (try simp only [List.map_toArray, List.map_cons, List.map_nil]); first | done | rfl) ?_
      with_reducible refine CB.mono ?_
      rintro e w6 ⟨A, c, rfl, hc, hCA, hRA, hH6, hb6⟩
      refine ⟨_, rfl, ?_⟩
      have hP6 := HPA.out.below hb6
      have hg6 := hP6.gb
      have d0 : w6.cell? ⟨x, 0, none⟩ = some (.int .u64 G.n) := blk_cell hg6 0
      have d1 : w6.cell? ⟨x, 1, none⟩ = some (.int .u64 G.nans) := blk_cell hg6 1
      have d2 : w6.cell? ⟨x, 2, none⟩ = some (.int .u64 G.lo) := blk_cell hg6 2
      have d3 : w6.cell? ⟨x, 3, none⟩ = some (.int .u64 G.hi) := blk_cell hg6 3
      have HP6 := Lib.hid hP6; have HRA := Lib.hid hRA; have HC := Lib.hid hc; have CH := HP6.out.ks.hashes 0 rfl; have HB6 := Lib.hid hb6
      clear hP6 hg6 hRA hc hb6 CB hCA hH6
      refine hK.out _ _ ⟨d0, d1, d2, d3⟩ (fun hHeld => ?_)
      clear d0 d1 d2 d3
      clear hK K
      refine norm_ (a' := ?_) ?_ ?_
      rotate_left
      · show Act.put _ (some 31) _ = _
        simp only [Act.put, List.setIfInBounds_toArray, List.set_cons_zero, List.set_cons_succ, i64_w, i32_w]
        rfl
      refine one_ (i := 3) (N := some 33) #[true, true, true, true, true, false, false] rfl rfl (by kernel_rfl) (by decide) (fun K hK => ?_)
      refine goes_ Try.func69 (by kernel_rfl) rfl #[.pointer (some ⟨k, 0, none⟩)] (by rfl) rfl rfl (by (try simp only [List.map_toArray, List.map_cons, List.map_nil]); first | done | rfl) ?_
      with_reducible refine CH.mono ?_
      rintro e w7 ⟨B, c2, rfl, hc2, hCB, hoB, hK7, hb7⟩
      refine ⟨_, rfl, ?_⟩
      have hP7 := HP6.out.below hb7
      have hg7 := hP7.gb
      have d0 : w7.cell? ⟨x, 0, none⟩ = some (.int .u64 G.n) := blk_cell hg7 0
      have d1 : w7.cell? ⟨x, 1, none⟩ = some (.int .u64 G.nans) := blk_cell hg7 1
      have d2 : w7.cell? ⟨x, 2, none⟩ = some (.int .u64 G.lo) := blk_cell hg7 2
      have d3 : w7.cell? ⟨x, 3, none⟩ = some (.int .u64 G.hi) := blk_cell hg7 3
      have HP7 := Lib.hid hP7; have HOB := Lib.hid hoB; have HC2 := Lib.hid hc2; have HB7 := Lib.hid hb7
      clear hP7 hg7 hoB hc2 hb7 CH hCB hK7
      refine hK.out _ _ ⟨d0, d1, d2, d3⟩ (fun hHeld => ?_)
      clear d0 d1 d2 d3
      clear hK K
      refine norm_ (a' := ?_) ?_ ?_
      rotate_left
      · show Act.put _ (some 33) _ = _
        simp only [Act.put, List.setIfInBounds_toArray, List.set_cons_zero, List.set_cons_succ, i64_w, i32_w]
        rfl
      refine pure_ (i := 5) (N := some 35) (v := ?_) (a' := ?_) #[true, true, true, true, true, true, false] rfl rfl (by kernel_rfl) (fun _ _ _ h => h) (Or.inl ⟨by rfl, ?_⟩) ?_ ?_
      rotate_left
      · intro w'
        go_simp
        with_reducible rfl
      rotate_left
      · simp only [Act.put, List.setIfInBounds_toArray, List.set_cons_zero, List.set_cons_succ, i64_w, i32_w]
        rfl
      refine last_ (i := 6) (N := none) #[true, true, true, true, true, true, true] rfl rfl (by kernel_rfl) (by decide) (fun K hK => ?_)
      have hr7 := HP7.out.rb
      have r0 : w7.cell? ⟨w.heap.size, 0, none⟩ = some (.slice none 0 0) := blk_cell hr7 0; have r1 : w7.cell? ⟨w.heap.size, 1, none⟩ = some (.slice none 0 0) := blk_cell hr7 1; have r2 : w7.cell? ⟨w.heap.size, 2, none⟩ = some (.int .u64 0) := blk_cell hr7 2; have r3 : w7.cell? ⟨w.heap.size, 3, none⟩ = some (.int .u64 0) := blk_cell hr7 3; have r4 : w7.cell? ⟨w.heap.size, 4, none⟩ = some (.int .u64 0) := blk_cell hr7 4; have r5 : w7.cell? ⟨w.heap.size, 5, none⟩ = some (.int .u64 0) := blk_cell hr7 5
      have q0 := blk_frozen hr7 0; have q1 := blk_frozen hr7 1; have q2 := blk_frozen hr7 2; have q3 := blk_frozen hr7 3; have q4 := blk_frozen hr7 4; have q5 := blk_frozen hr7 5
      have hu62 := Try.underlying45
      have hu60 := Try.underlying43
      have HR7 := Lib.hid hr7
      clear hr7
      refine skip_ (w1 := ?_) (by rfl) rfl ?_ ?_
      rotate_left
      · go_simp
        rfl
      refine hK.out _ _ ?_
      clear hK K r0 r1 r2 r3 r4 r5 q0 q1 q2 q3 q4 q5
      refine done_ (by kernel_rfl) ?_
      refine NoPanic.normal ?_
      go_wp2
      obtain ⟨hs, hS, hG⟩ := HE.out
      rw [hs, hS, hG]
      have ho := HP7.out.ord
      have hz : w.heap.size < wr.drew.heap.size := HPA.out.lt.2.2.2.2
      have hz6 : wr.drew.heap.size ≤ w6.heap.size := HB6.out.size
      have fin : ∀ i, i ≠ w.heap.size → ((((((w7.setCell ⟨w.heap.size, 0, none⟩ (.slice A (bks s).length c)).setCell ⟨w.heap.size, 1, none⟩ (.slice B S.length c2)).setCell ⟨w.heap.size, 2, none⟩ (.int .u64 G.n)).setCell ⟨w.heap.size, 3, none⟩ (.int .u64 G.nans)).setCell ⟨w.heap.size, 4, none⟩ (.int .u64 G.lo)).setCell ⟨w.heap.size, 5, none⟩ (.int .u64 G.hi)).heap[i]? = w7.heap[i]? := fun i hne => by
        rw [Below.heap_setCell _ _ _ i hne, Below.heap_setCell _ _ _ i hne, Below.heap_setCell _ _ _ i hne, Below.heap_setCell _ _ _ i hne, Below.heap_setCell _ _ _ i hne, Below.heap_setCell _ _ _ i hne]
      have RA := Kd.R_step (Kd.R_bound (Kd.R_below HRA.out HB7.out)) (fun q hq _ => fin q (by have := hq.2.1; omega))
      have RB0 : Kd.R (Kd.int .u64) 41 w7 w6.heap.size (fun _ => True) (.slice B S.length c2) S := Kd.R_of_own HOB.out (fun _ _ => trivial)
      have RB := Kd.R_step (Kd.R_bound RB0) (fun q hq _ => fin q (by have := hq.2.1; omega))
      refine bodyPost_ret (results_cell_row rfl _ _ w.heap.size 45 #[.slice A (bks s).length c, .slice B S.length c2, .int .u64 G.n, .int .u64 G.nans, .int .u64 G.lo, .int .u64 G.hi] (0, 0) _ rfl (blk_set (blk_set (blk_set (blk_set (blk_set (blk_set HR7.out 0 _) 1 _) 2 _) 3 _) 4 _) 5 _) Try.underlying45 rfl (by kernel_rfl)) rfl ⟨A, c, B, c2, rfl, HC.out, HC2.out, ?_, ?_, ?_⟩
      · exact Kd.R_lower (Kd.R_mono RA (fun _ _ => trivial)) (by omega)
      · exact Kd.R_lower (Kd.R_mono RB (fun _ _ => trivial)) (by omega)
      · have hx := Nat.le_refl w.heap.size
        exact below_set (below_set (below_set (below_set (below_set (below_set HP7.out.bel hx) hx) hx) hx) hx) hx
end Go.Proofs.Ytncgjbocgbnkcaa
namespace Go.Proofs.Ytncgjbocgbnkcaa
set_option linter.unusedVariables false
set_option linter.unusedSimpArgs false
open Go.RowKit Go.Maps Go.Proofs.YtncgjbocgbnkcaaW.PrintWords Go.Proofs.YtncgjbocgbnkcaaW.PrintLast Go.Proofs.YtncgjbocgbnkcaaW.PrintMore Go.Proofs.Ytncgjbocgbnkcaa.Pure Go.Proofs.Ytncgjbocgbnkcaa.Q Go.Proofs.Ytncgjbocgbnkcaa.Hi Go.Proofs.Ytncgjbocgbnkcaa.Ga
theorem foldl_chk (l : List Int) (hl : ∀ x ∈ l, U x) : ∀ g : G4, g.wf → gchk g = true → gchk (l.foldl gadd g) = true := by
  induction l with
  | nil => intro g _ h; exact h
  | cons x l ih => intro g h c; exact ih (fun y hy => hl y (by simp [hy])) _ (gadd_wf h (hl x (by simp))) (gadd_chk h c (hl x (by simp)))
theorem ofG_chk {l : List S90} (h : OW l) : gchk (ofG l) = true :=
  foldl_chk _ (fun x hx => by obtain ⟨o, ho, rfl⟩ := List.mem_map.1 hx; exact (h o ho).2.2) _ gzero_wf gzero_chk
theorem ofK_good (l : List S90) (h : OW l) : KGood (ofK l) := by
  have key : ∀ (m S : List Int), (∀ x ∈ m, 0 ≤ x ∧ x < 18446744073709551616) → KGood S → KGood (kmany S m) := by
    intro m
    induction m with
    | nil => intro S _ hS; exact hS
    | cons x m ih => intro S hx hS; exact ih _ (fun y hy => hx y (by simp [hy])) (kgood_khash hS (hx x (by simp)))
  exact key _ _ (fun x hx => by obtain ⟨o, ho, rfl⟩ := List.mem_map.1 hx; exact (fnv_val o.f1 (h o ho).2.1).2.2) kgood_nil
/-- What Of tells may be. -/
theorem of_okS {l : List S90} (h : OW l) (hl : l.length ≤ 1000) : okS (bks (ofH l)) (ofK l) (ofG l) = true := by
  unfold okS
  rw [bks_chk (ofH_good h hl), ofG_chk h, decide_eq_true (show KOk (ofK l) from ⟨(ofK_good l h).1, (ofK_good l h).2.1⟩)]; rfl
end Go.Proofs.Ytncgjbocgbnkcaa
namespace Go.Proofs.Ytncgjbocgbnkcaa
set_option linter.unusedVariables false
set_option linter.unusedSimpArgs false
open Go.RowKit Go.Maps Go.Proofs.YtncgjbocgbnkcaaW.PrintWords Go.Proofs.YtncgjbocgbnkcaaW.PrintLast Go.Proofs.YtncgjbocgbnkcaaW.PrintMore Go.Proofs.Ytncgjbocgbnkcaa.Pure Go.Proofs.Ytncgjbocgbnkcaa.Q Go.Proofs.Ytncgjbocgbnkcaa.Hi Go.Proofs.Ytncgjbocgbnkcaa.Ga
/-- A sketch: buckets, hashes, a gauge. -/
structure SV where
  h : List S68
  k : List Int
  g : G4
def SV.ok (v : SV) : Bool := okS v.h v.k v.g
def SV.wf (v : SV) : Prop := Pure.WB v.h ∧ Pure.WU v.k ∧ v.g.wf
theorem skV {w : World} {A : Option Addr} {c : Nat} {B : Option Addr} {d : Nat} {y : SV} (C0 : Kd.C k68 w A y.h.length y.h) (m0 : y.h.length ≤ c) (D0 : Kd.C (Kd.int .u64) w B y.k.length y.k) (n0 : y.k.length ≤ d) (w0 : y.wf) : SK w A c y.h B d y.k :=
  ⟨C0, m0, D0, n0, WB.len w0.1, by have := w0.2.1.1; omega⟩
def zV : SV := ⟨[], [], gzero⟩
def kV : Kd SV := Kd.iso kS (fun v : SV => (v.h, v.k, v.g.n, v.g.nans, v.g.lo, v.g.hi))
theorem kV_open {W : World} {v : SV} {cs : List Value} (h : kV.K W v cs) :
    ∃ A c B d, cs = [.slice A v.h.length c, .slice B v.k.length d, .int .u64 v.g.n, .int .u64 v.g.nans, .int .u64 v.g.lo, .int .u64 v.g.hi] ∧ v.h.length ≤ c ∧ v.k.length ≤ d ∧ Kd.C k68 W A v.h.length v.h ∧ Kd.C (Kd.int .u64) W B v.k.length v.k :=
  kS_open (y := (v.h, v.k, v.g.n, v.g.nans, v.g.lo, v.g.hi)) h
theorem kV_mk {W : World} {v : SV} {A : Option Addr} {c : Nat} {B : Option Addr} {d : Nat} (hc : v.h.length ≤ c) (hd : v.k.length ≤ d) (hC : Kd.C k68 W A v.h.length v.h) (hD : Kd.C (Kd.int .u64) W B v.k.length v.k) :
    kV.K W v [.slice A v.h.length c, .slice B v.k.length d, .int .u64 v.g.n, .int .u64 v.g.nans, .int .u64 v.g.lo, .int .u64 v.g.hi] :=
  ⟨[.slice A v.h.length c], [.slice B v.k.length d, .int .u64 v.g.n, .int .u64 v.g.nans, .int .u64 v.g.lo, .int .u64 v.g.hi], rfl, ⟨A, c, rfl, hc, hC⟩, [.slice B v.k.length d], [.int .u64 v.g.n, .int .u64 v.g.nans, .int .u64 v.g.lo, .int .u64 v.g.hi], rfl, ⟨B, d, rfl, hd, hD⟩,
    [.int .u64 v.g.n], [.int .u64 v.g.nans, .int .u64 v.g.lo, .int .u64 v.g.hi], rfl, rfl, [.int .u64 v.g.nans], [.int .u64 v.g.lo, .int .u64 v.g.hi], rfl, rfl, [.int .u64 v.g.lo], [.int .u64 v.g.hi], rfl, rfl, rfl⟩
def rd_V (xs : List SV) (i : Int) : SV := xs.getD i.toNat zV
theorem rd_V_at {l : List SV} {i : Nat} (h : i < l.length) : rd_V l (i : Int) = l[i] := by
  simp [rd_V, List.getD, List.getElem?_eq_getElem h]
theorem at_V {w : World} {A : Option Addr} {n : Nat} {xs : List SV} (h : Kd.C kV w A n xs) (i : Int) (h0 : 0 ≤ i) (h1 : i < n) :
    ∃ ad A1 c1 B1 d1, A = some ad ∧ (rd_V xs i).h.length ≤ c1 ∧ (rd_V xs i).k.length ≤ d1 ∧ Kd.C k68 w A1 (rd_V xs i).h.length (rd_V xs i).h ∧ Kd.C (Kd.int .u64) w B1 (rd_V xs i).k.length (rd_V xs i).k ∧
      w.cell? (ad.add (i.toNat * 6)) = some (.slice A1 (rd_V xs i).h.length c1) ∧ w.cell? ⟨(ad.add (i.toNat * 6)).block, (ad.add (i.toNat * 6)).off + 1, none⟩ = some (.slice B1 (rd_V xs i).k.length d1) ∧
      w.cell? ⟨(ad.add (i.toNat * 6)).block, (ad.add (i.toNat * 6)).off + 2, none⟩ = some (.int .u64 (rd_V xs i).g.n) ∧ w.cell? ⟨(ad.add (i.toNat * 6)).block, (ad.add (i.toNat * 6)).off + 3, none⟩ = some (.int .u64 (rd_V xs i).g.nans) ∧
      w.cell? ⟨(ad.add (i.toNat * 6)).block, (ad.add (i.toNat * 6)).off + 4, none⟩ = some (.int .u64 (rd_V xs i).g.lo) ∧ w.cell? ⟨(ad.add (i.toNat * 6)).block, (ad.add (i.toNat * 6)).off + 5, none⟩ = some (.int .u64 (rd_V xs i).g.hi) := by
  obtain ⟨ad, c, e, _, hK, hc0⟩ := Kd.C_get h zV i h0 h1
  have hc : ∀ j u, c[j]? = some u → w.cell? (ad.add (i.toNat * 6 + j)) = some u := hc0
  obtain ⟨A1, c1, B1, d1, rfl, h2, h3, h4, h5⟩ := kV_open hK
  exact ⟨ad, A1, c1, B1, d1, e, h2, h3, h4, h5, hc 0 _ rfl, by rw [← add_field _ _ 1 (by omega)]; exact hc 1 _ rfl, by rw [← add_field _ _ 2 (by omega)]; exact hc 2 _ rfl, by rw [← add_field _ _ 3 (by omega)]; exact hc 3 _ rfl, by rw [← add_field _ _ 4 (by omega)]; exact hc 4 _ rfl, by rw [← add_field _ _ 5 (by omega)]; exact hc 5 _ rfl⟩
theorem opensV : Opens Try.prog 45 kV SV.wf :=
  Opens.imp (opens_iso (fun v : SV => (v.h, v.k, v.g.n, v.g.nans, v.g.lo, v.g.hi)) (fun x => (⟨x.1, x.2.1, ⟨x.2.2.1, x.2.2.2.1, x.2.2.2.2.1, x.2.2.2.2.2⟩⟩ : SV)) (fun _ => rfl) opensS) (fun v h => ⟨h.1, h.2.1, U.of_wf h.2.2.1, U.of_wf h.2.2.2.1, U.of_wf h.2.2.2.2.1, U.of_wf h.2.2.2.2.2⟩)
theorem snocs {α : Type} {P : List α → Prop} (h0 : P []) (h1 : ∀ l x, P l → P (l ++ [x])) (l : List α) : P l := by
  have key : ∀ n (l : List α), l.length = n → P l := by
    intro n
    induction n with
    | zero => intro l hl; rw [List.length_eq_zero_iff.1 hl]; exact h0
    | succ n ih =>
      intro l hl
      have hne : l ≠ [] := by rintro rfl; simp at hl
      rw [← List.dropLast_concat_getLast hne]
      exact h1 _ _ (ih _ (by simp [hl]))
  exact key _ l rfl
def sumH (l : List SV) : List Int := l.foldl (fun s v => merged s v.h) (hzero 7424)
def sumK (l : List SV) : List Int := l.foldl (fun S v => kmany S v.k) []
def sumG (l : List SV) : G4 := l.foldl (fun G v => gmerge G v.g) gzero
def sumV (l : List SV) : SV := ⟨bks (sumH l), sumK l, sumG l⟩
theorem sumH_snoc (l : List SV) (v : SV) : sumH (l ++ [v]) = merged (sumH l) v.h := by simp [sumH, List.foldl_append]
theorem sumK_snoc (l : List SV) (v : SV) : sumK (l ++ [v]) = kmany (sumK l) v.k := by simp [sumK, List.foldl_append]
theorem sumG_snoc (l : List SV) (v : SV) : sumG (l ++ [v]) = gmerge (sumG l) v.g := by simp [sumG, List.foldl_append]
theorem SV.ok_iff (v : SV) : v.ok = true ↔ chk v.h = true ∧ KOk v.k ∧ gchk v.g = true := by
  unfold SV.ok okS
  rw [Bool.and_eq_true, Bool.and_eq_true, decide_eq_true_eq, and_assoc]
theorem kmany_good {l S : List Int} (hS : KGood S) (hl : ∀ x ∈ l, 0 ≤ x ∧ x < 18446744073709551616) : KGood (kmany S l) := by
  induction l generalizing S with
  | nil => exact hS
  | cons x l ih => exact ih (kgood_khash hS (hl x (by simp))) (fun y hy => hl y (by simp [hy]))
/-- All may be. -/
def AllOk (l : List SV) : Prop := ∀ v ∈ l, v.wf ∧ v.ok = true
theorem AllOk.nil : AllOk [] := fun v h => by simp at h
theorem AllOk.snoc {l : List SV} {v : SV} (h : AllOk l) (hw : v.wf) (ho : v.ok = true) : AllOk (l ++ [v]) := fun u hu => by
  rcases List.mem_append.1 hu with hu | hu
  · exact h u hu
  · rw [List.mem_singleton] at hu; subst hu; exact ⟨hw, ho⟩
theorem AllOk.front {l : List SV} {v : SV} (h : AllOk (l ++ [v])) : AllOk l ∧ v.wf ∧ v.ok = true := ⟨fun u hu => h u (by simp [hu]), h v (by simp)⟩
theorem sum_good {l : List SV} : AllOk l → hgood (sumH l) = true ∧ KGood (sumK l) ∧ (sumG l).wf ∧ gchk (sumG l) = true := by
  refine snocs (P := fun l => AllOk l → hgood (sumH l) = true ∧ KGood (sumK l) ∧ (sumG l).wf ∧ gchk (sumG l) = true) (fun _ => ⟨hzero_good, kgood_nil, gzero_wf, gzero_chk⟩) (fun l v ih h => ?_) l
  obtain ⟨h1, hw, ho⟩ := h.front
  obtain ⟨a1, a2, a3, a4⟩ := ih h1
  obtain ⟨o1, o2, o3⟩ := (SV.ok_iff v).1 ho
  rw [sumH_snoc, sumK_snoc, sumG_snoc]
  exact ⟨merged_good_of (Bok.of hw.1 o1) a1, kmany_good a2 hw.2.1.num, gmerge_wf a3 hw.2.2, gmerge_chk a3 hw.2.2 a4 o3⟩
theorem WU_good {l : List Int} (h : KGood l) : Pure.WU l :=
  ⟨by have := h.2.1; omega, by have := h.2.1; omega, fun x hx => wf_u64 (h.2.2 x hx).1 (h.2.2 x hx).2⟩
theorem sumV_ok {l : List SV} (h : AllOk l) : (sumV l).wf ∧ (sumV l).ok = true := by
  obtain ⟨a1, a2, a3, a4⟩ := sum_good h
  exact ⟨⟨bks_WB a1, WU_good a2, a3⟩, (SV.ok_iff _).2 ⟨bks_chk a1, ⟨a2.1, a2.2.1⟩, a4⟩⟩
theorem sumV_one {v : SV} (hw : v.wf) (ho : v.ok = true) : sumV [v] = v := by
  obtain ⟨o1, o2, o3⟩ := (SV.ok_iff v).1 ho
  show (⟨bks (merged (hzero 7424) v.h), kmany [] v.k, gmerge gzero v.g⟩ : SV) = v
  rw [bks_merged (Bok.of hw.1 o1) o1, kmany_nil o2.1 o2.2, gmerge_zero_left hw.2.2]
theorem zV_wf : zV.wf := ⟨⟨by decide, by decide, fun b hb => by simp [zV] at hb⟩, ⟨by decide, by decide, fun b hb => by simp [zV] at hb⟩, gzero_wf⟩
theorem zV_ok : zV.ok = true := (SV.ok_iff _).2 ⟨rfl, ⟨List.Pairwise.nil, by simp [zV]⟩, rfl⟩
end Go.Proofs.Ytncgjbocgbnkcaa
