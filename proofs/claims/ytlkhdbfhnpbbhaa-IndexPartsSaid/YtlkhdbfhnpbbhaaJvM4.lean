/- What the laws of this folder share, part 4: walks of functions over their Go text, and plain lemmas. Conditions: as each lemma says. -/
import Derived.Sort.OwnSorted
import Derived.Sort.Walk0
import Derived.Shelf.Sort.Plain
import Derived.Shelf.Strings.Prefix
import Derived.Shelf.Slices.In.SortNone
import Derived.Deep.RegionHeld3
import Derived.Test.YtlkhdbfhnpbbhaaJvM3
namespace Go.Proofs.Ytlkhdbfhnpbbhaa
set_option linter.unusedVariables false
set_option linter.unusedSimpArgs false
open Go.RowKit Go.Proofs.YtlkhdbfhnpbbhaaW.PrintWords Go.Proofs.Ytlkhdbfhnpbbhaa.Ix Go.Proofs.Ytlkhdbfhnpbbhaa.Tx Go.Proofs.Ytlkhdbfhnpbbhaa.Pure
abbrev VV := ByteArray × Int
/-- how many sets have a value -/
def cnt (S : List (List LB)) (name x : ByteArray) : Nat := (S.filter (fun s => decide (lbVal s name = x))).length
theorem cnt_snoc (S : List (List LB)) (s : List LB) (name x : ByteArray) : cnt (S ++ [s]) name x = cnt S name x + if lbVal s name = x then 1 else 0 := by
  unfold cnt
  rw [List.filter_append, List.length_append]
  by_cases h : lbVal s name = x <;> simp [h]
theorem cnt_le (S : List (List LB)) (name x : ByteArray) : cnt S name x ≤ S.length := List.length_filter_le _ _
def emp : ByteArray := ⟨#[]⟩
open Classical in
/-- the unlike values, in the order in which they come -/
noncomputable def dvs (S : List (List LB)) (name : ByteArray) : List ByteArray := S.foldl (fun D s => if lbVal s name = emp ∨ lbVal s name ∈ D then D else D ++ [lbVal s name]) []
open Classical in
theorem dvs_snoc (S : List (List LB)) (s : List LB) (name : ByteArray) : dvs (S ++ [s]) name = if lbVal s name = emp ∨ lbVal s name ∈ dvs S name then dvs S name else dvs S name ++ [lbVal s name] := by
  unfold dvs; rw [List.foldl_append]; rfl
theorem snoc_ind {P : List (List LB) → Prop} (h0 : P []) (h1 : ∀ S s, P S → P (S ++ [s])) (S : List (List LB)) : P S := by
  have : ∀ n, ∀ S : List (List LB), S.length = n → P S := by
    intro n
    induction n with
    | zero => intro S h; rw [List.eq_nil_of_length_eq_zero h]; exact h0
    | succ n ih =>
      intro S h
      have hne : S ≠ [] := fun c => by rw [c] at h; simp at h
      rw [← List.dropLast_concat_getLast hne]
      exact h1 _ _ (ih _ (by simp [h]))
  exact this _ S rfl
theorem mem_dvs (name x : ByteArray) (S : List (List LB)) : x ∈ dvs S name ↔ x ≠ emp ∧ cnt S name x ≠ 0 := by
  refine snoc_ind (P := fun S => x ∈ dvs S name ↔ x ≠ emp ∧ cnt S name x ≠ 0) (by simp [dvs, cnt]) (fun S s ih => ?_) S
  rw [dvs_snoc, cnt_snoc]
  by_cases he : lbVal s name = x
  · rw [if_pos he]
    subst he
    by_cases h1 : lbVal s name = emp ∨ lbVal s name ∈ dvs S name
    · rw [if_pos h1]
      rcases h1 with h1 | h1
      · rw [h1] at ih ⊢
        exact ⟨fun h => ⟨(ih.1 h).1, by omega⟩, fun h => absurd rfl h.1⟩
      · exact ⟨fun _ => ⟨(ih.1 h1).1, by omega⟩, fun _ => h1⟩
    · rw [if_neg h1]
      exact ⟨fun _ => ⟨fun c => h1 (Or.inl c), by omega⟩, fun _ => by simp⟩
  · rw [if_neg he, Nat.add_zero]
    by_cases h1 : lbVal s name = emp ∨ lbVal s name ∈ dvs S name
    · rw [if_pos h1]; exact ih
    · rw [if_neg h1, List.mem_append, ih]
      exact ⟨fun h => h.elim id (fun h => absurd (List.mem_singleton.1 h).symm he), Or.inl⟩
theorem dvs_nodup (name : ByteArray) (S : List (List LB)) : (dvs S name).Nodup := by
  refine snoc_ind (P := fun S => (dvs S name).Nodup) List.nodup_nil (fun S s ih => ?_) S
  rw [dvs_snoc]
  split
  · exact ih
  · rename_i h
    rw [List.nodup_append]
    refine ⟨ih, by simp, fun a ha b hb e => ?_⟩
    rw [List.mem_singleton] at hb
    subst hb
    exact h (Or.inr (e ▸ ha))
theorem dvs_len (name : ByteArray) (S : List (List LB)) : (dvs S name).length ≤ S.length := by
  refine snoc_ind (P := fun S => (dvs S name).length ≤ S.length) (Nat.le_refl _) (fun S s ih => ?_) S
  rw [dvs_snoc]
  split
  · simp; omega
  · simp; omega
/-- the order of texts -/
def bl (a b : ByteArray) : Prop := a.data.toList < b.data.toList
theorem bl_irr (a : ByteArray) : ¬ bl a a := List.lt_irrefl _
theorem bl_trans {a b c : ByteArray} (h : bl a b) (k : bl b c) : bl a c := List.lt_trans h k
theorem bl_tri (a b : ByteArray) : bl a b ∨ a = b ∨ bl b a := by
  by_cases h : a.data.toList < b.data.toList
  · exact Or.inl h
  · by_cases k : b.data.toList < a.data.toList
    · exact Or.inr (Or.inr k)
    · exact Or.inr (Or.inl (data_inj (List.le_antisymm (List.not_lt.1 k) (List.not_lt.1 h))))
instance (a b : ByteArray) : Decidable (bl a b) := by unfold bl; infer_instance
theorem less_bl (a b : ByteArray) : Op.bytesLess a.toList b.toList = decide (bl a b) := by rw [Go.Proofs.bytesLess_eq, Lib.toList_data, Lib.toList_data]; rfl
/-- the values in order -/
noncomputable def evs (S : List (List LB)) (name : ByteArray) : List ByteArray := (((dvs S name).map (·.data.toList)).mergeSort (fun x y => decide (x ≤ y))).map (fun l => (⟨l.toArray⟩ : ByteArray))
theorem mem_evs (S : List (List LB)) (name x : ByteArray) : x ∈ evs S name ↔ x ∈ dvs S name := by
  unfold evs
  rw [List.mem_map]
  constructor
  · rintro ⟨l, hl, rfl⟩
    obtain ⟨y, hy, rfl⟩ := List.mem_map.1 ((List.mergeSort_perm _ _).mem_iff.1 hl)
    simpa using hy
  · intro hx
    exact ⟨x.data.toList, (List.mergeSort_perm _ _).mem_iff.2 (List.mem_map.2 ⟨x, hx, rfl⟩), by simp⟩
theorem evs_len (S : List (List LB)) (name : ByteArray) : (evs S name).length = (dvs S name).length := by unfold evs; simp
theorem evs_sorted (S : List (List LB)) (name : ByteArray) : (evs S name).Pairwise bl := by
  unfold evs
  rw [List.pairwise_map]
  have hnd : ((dvs S name).map (·.data.toList)).Nodup := by
    rw [List.Nodup, List.pairwise_map]
    exact (dvs_nodup name S).imp (fun h c => h (data_inj c))
  have h1 : (((dvs S name).map (·.data.toList)).mergeSort (fun x y => decide (x ≤ y))).Nodup := (List.mergeSort_perm _ _).nodup_iff.2 hnd
  have h2 := List.pairwise_mergeSort (le := fun (x y : List UInt8) => decide (x ≤ y)) (fun a b c h k => decide_eq_true (List.le_trans (of_decide_eq_true h) (of_decide_eq_true k))) (fun a b => by
    rcases List.le_total a b with h | h
    · simp [h]
    · simp [h]) ((dvs S name).map (·.data.toList))
  refine (List.pairwise_and_iff.2 ⟨h1, h2⟩).imp ?_
  rintro a b ⟨hne, hle⟩
  have hle := of_decide_eq_true hle
  show a < b
  by_cases h : a < b
  · exact h
  · exact absurd (List.le_antisymm hle (List.not_lt.1 h)) hne
/-- what is told -/
noncomputable def tel (S : List (List LB)) (name : ByteArray) : List VV := (evs S name).map (fun v => (v, (cnt S name v : Int)))
theorem tel_len (S : List (List LB)) (name : ByteArray) : (tel S name).length ≤ S.length := by unfold tel; rw [List.length_map, evs_len]; exact dvs_len name S
/-- a value more, as the document puts it in -/
def rput (L : List VV) (v : ByteArray) : List VV := match L with
  | [] => [(v, 1)]
  | x :: t => if bl x.1 v then x :: rput t v else if x.1 = v then (x.1, x.2 + 1) :: t else (v, 1) :: x :: t
def rstep (L : List VV) (v : ByteArray) : List VV := if v = emp then L else rput L v
def rvals (S : List (List LB)) (name : ByteArray) : List VV := S.foldl (fun L s => rstep L (lbVal s name)) []
theorem rvals_snoc (S : List (List LB)) (s : List LB) (name : ByteArray) : rvals (S ++ [s]) name = rstep (rvals S name) (lbVal s name) := by unfold rvals; rw [List.foldl_append]; rfl
theorem rput_fst {L : List VV} {v : ByteArray} {y : VV} (h : y ∈ rput L v) : y.1 = v ∨ ∃ z ∈ L, z.1 = y.1 := by
  induction L with
  | nil => simp [rput] at h; left; rw [h]
  | cons x t ih =>
    unfold rput at h
    split at h
    · rcases List.mem_cons.1 h with h | h
      · right; exact ⟨x, List.mem_cons_self, by rw [h]⟩
      · rcases ih h with h | ⟨z, hz, e⟩
        · exact Or.inl h
        · exact Or.inr ⟨z, List.mem_cons_of_mem _ hz, e⟩
    · split at h
      · rcases List.mem_cons.1 h with h | h
        · right; exact ⟨x, List.mem_cons_self, by rw [h]⟩
        · right; exact ⟨y, List.mem_cons_of_mem _ h, rfl⟩
      · rcases List.mem_cons.1 h with h | h
        · left; rw [h]
        · right; exact ⟨y, h, rfl⟩
theorem rput_sorted {v : ByteArray} : ∀ {L : List VV}, L.Pairwise (fun a b => bl a.1 b.1) → (rput L v).Pairwise (fun a b => bl a.1 b.1)
  | [], _ => List.pairwise_singleton _ _
  | x :: t, h => by
    obtain ⟨h1, h2⟩ := List.pairwise_cons.1 h
    unfold rput
    split
    · rename_i hx
      refine List.pairwise_cons.2 ⟨fun y hy => ?_, rput_sorted h2⟩
      rcases rput_fst hy with e | ⟨z, hz, e⟩
      · rw [e]; exact hx
      · rw [← e]; exact h1 z hz
    · rename_i hx
      split
      · exact List.pairwise_cons.2 ⟨h1, h2⟩
      · rename_i hne
        have hv : bl v x.1 := by
          rcases bl_tri v x.1 with c | c | c
          · exact c
          · exact absurd c.symm hne
          · exact absurd c hx
        refine List.pairwise_cons.2 ⟨fun y hy => ?_, h⟩
        rcases List.mem_cons.1 hy with e | e
        · rw [e]; exact hv
        · exact bl_trans hv (h1 y e)
theorem rput_mem {v : ByteArray} : ∀ {L : List VV}, L.Pairwise (fun a b => bl a.1 b.1) → ∀ (x : ByteArray) (n : Int), ((x, n) ∈ rput L v ↔ if x = v then ((∃ m, (x, m) ∈ L ∧ n = m + 1) ∨ ((∀ m, (x, m) ∉ L) ∧ n = 1)) else (x, n) ∈ L)
  | [], _, x, n => by
    unfold rput
    by_cases hx : x = v
    · rw [if_pos hx]; simp [hx]
    · rw [if_neg hx]; simp [hx]
  | y :: t, h, x, n => by
    obtain ⟨h1, h2⟩ := List.pairwise_cons.1 h
    have ih := rput_mem (v := v) h2 x n
    unfold rput
    by_cases c1 : bl y.1 v
    · rw [if_pos c1, List.mem_cons, ih]
      by_cases hx : x = v
      · rw [if_pos hx, if_pos hx]
        have hne : ∀ m, (x, m) ≠ y := fun m e => by
          have : x = y.1 := by rw [← e]
          rw [hx] at this
          rw [← this] at c1
          exact bl_irr _ c1
        constructor
        · rintro (e | ⟨m, hm, e⟩ | ⟨hm, e⟩)
          · exact absurd e (hne n)
          · exact Or.inl ⟨m, List.mem_cons_of_mem _ hm, e⟩
          · exact Or.inr ⟨fun m c => (List.mem_cons.1 c).elim (hne m) (hm m), e⟩
        · rintro (⟨m, hm, e⟩ | ⟨hm, e⟩)
          · exact Or.inr (Or.inl ⟨m, (List.mem_cons.1 hm).resolve_left (hne m), e⟩)
          · exact Or.inr (Or.inr ⟨fun m c => hm m (List.mem_cons_of_mem _ c), e⟩)
      · rw [if_neg hx, if_neg hx, List.mem_cons]
    · rw [if_neg c1]
      by_cases c2 : y.1 = v
      · rw [if_pos c2]
        have hnot : ∀ m, (v, m) ∉ t := fun m c => bl_irr v (by have := h1 _ c; rw [c2] at this; exact this)
        by_cases hx : x = v
        · rw [if_pos hx, List.mem_cons]
          subst hx
          constructor
          · rintro (e | e)
            · have : n = y.2 + 1 := by injection e
              exact Or.inl ⟨y.2, by rw [← c2]; exact List.mem_cons_self, this⟩
            · exact absurd e (hnot n)
          · rintro (⟨m, hm, e⟩ | ⟨hm, e⟩)
            · rcases List.mem_cons.1 hm with c | c
              · left; rw [← c] ; simp [e]
              · exact absurd c (hnot m)
            · exact absurd (by rw [← c2]; exact List.mem_cons_self) (hm y.2)
        · rw [if_neg hx, List.mem_cons, List.mem_cons]
          have n1 : (x, n) ≠ (y.1, y.2 + 1) := fun e => hx (by rw [← c2]; injection e)
          have n2 : (x, n) ≠ y := fun e => hx (by rw [← c2, ← e])
          exact ⟨fun h => h.elim (fun c => absurd c n1) Or.inr, fun h => h.elim (fun c => absurd c n2) Or.inr⟩
      · rw [if_neg c2]
        have hv : bl v y.1 := by
          rcases bl_tri v y.1 with c | c | c
          · exact c
          · exact absurd c.symm c2
          · exact absurd c c1
        have hnot : ∀ m, (v, m) ∉ y :: t := fun m c => by
          rcases List.mem_cons.1 c with c | c
          · exact c2 (by rw [← c])
          · exact bl_irr _ (bl_trans hv (h1 _ c))
        by_cases hx : x = v
        · rw [if_pos hx, List.mem_cons]
          subst hx
          constructor
          · rintro (e | e)
            · exact Or.inr ⟨hnot, by injection e⟩
            · exact absurd e (hnot n)
          · rintro (⟨m, hm, _⟩ | ⟨_, e⟩)
            · exact absurd hm (hnot m)
            · left; rw [e]
        · rw [if_neg hx, List.mem_cons]
          exact ⟨fun h => h.elim (fun c => absurd (by injection c) hx) id, Or.inr⟩
theorem rvals_inv (name : ByteArray) (S : List (List LB)) : (rvals S name).Pairwise (fun a b => bl a.1 b.1) ∧ ∀ (x : ByteArray) (n : Int), ((x, n) ∈ rvals S name ↔ x ≠ emp ∧ cnt S name x ≠ 0 ∧ n = (cnt S name x : Int)) := by
  refine snoc_ind (P := fun S => (rvals S name).Pairwise (fun a b => bl a.1 b.1) ∧ ∀ (x : ByteArray) (n : Int), ((x, n) ∈ rvals S name ↔ x ≠ emp ∧ cnt S name x ≠ 0 ∧ n = (cnt S name x : Int))) ⟨List.Pairwise.nil, fun x n => by simp [rvals, cnt]⟩ (fun S s ih => ?_) S
  obtain ⟨h1, h2⟩ := ih
  rw [rvals_snoc]
  unfold rstep
  by_cases he : lbVal s name = emp
  · rw [if_pos he]
    refine ⟨h1, fun x n => ?_⟩
    rw [h2, cnt_snoc, he]
    by_cases hx : x = emp
    · simp [hx]
    · rw [if_neg (fun c => hx c.symm), Nat.add_zero]
  · rw [if_neg he]
    refine ⟨rput_sorted h1, fun x n => ?_⟩
    rw [rput_mem h1, cnt_snoc]
    by_cases hx : x = lbVal s name
    · rw [if_pos hx, if_pos hx.symm]
      constructor
      · rintro (⟨m, hm, e⟩ | ⟨hm, e⟩)
        · have := (h2 x m).1 hm
          exact ⟨this.1, by omega, by rw [e, this.2.2]; omega⟩
        · have h0 : cnt S name x = 0 := by
            by_cases c : cnt S name x = 0
            · exact c
            · exact absurd ((h2 x _).2 ⟨by rw [hx]; exact he, c, rfl⟩) (hm _)
          exact ⟨by rw [hx]; exact he, by omega, by rw [e, h0]; rfl⟩
      · rintro ⟨g1, g2, g3⟩
        by_cases c : cnt S name x = 0
        · exact Or.inr ⟨fun m hm => ((h2 x m).1 hm).2.1 c, by rw [g3, c]; rfl⟩
        · exact Or.inl ⟨(cnt S name x : Int), (h2 x _).2 ⟨g1, c, rfl⟩, by rw [g3]; omega⟩
    · rw [if_neg hx, if_neg (fun c => hx c.symm), Nat.add_zero, h2]
theorem sorted_eq {lt : VV → VV → Prop} (hi : ∀ a, ¬ lt a a) (ht : ∀ {a b c}, lt a b → lt b c → lt a c) : ∀ {l m : List VV}, l.Pairwise lt → m.Pairwise lt → (∀ x, x ∈ l ↔ x ∈ m) → l = m
  | [], [], _, _, _ => rfl
  | [], y :: m, _, _, h => absurd ((h y).2 List.mem_cons_self) (by simp)
  | x :: l, [], _, _, h => absurd ((h x).1 List.mem_cons_self) (by simp)
  | x :: l, y :: m, hl, hm, h => by
    obtain ⟨a1, a2⟩ := List.pairwise_cons.1 hl
    obtain ⟨b1, b2⟩ := List.pairwise_cons.1 hm
    have e : x = y := by
      rcases List.mem_cons.1 ((h x).1 List.mem_cons_self) with c | c
      · exact c
      · rcases List.mem_cons.1 ((h y).2 List.mem_cons_self) with d | d
        · exact d.symm
        · exact absurd (ht (b1 x c) (a1 y d)) (hi _)
    subst e
    congr 1
    refine sorted_eq hi ht a2 b2 (fun z => ?_)
    constructor
    · intro hz
      rcases List.mem_cons.1 ((h z).1 (List.mem_cons_of_mem _ hz)) with c | c
      · exact absurd (c ▸ a1 z hz) (hi _)
      · exact c
    · intro hz
      rcases List.mem_cons.1 ((h z).2 (List.mem_cons_of_mem _ hz)) with c | c
      · exact absurd (c ▸ b1 z hz) (hi _)
      · exact c
/-- Both tell the same. -/
theorem tel_rvals (S : List (List LB)) (name : ByteArray) : tel S name = rvals S name := by
  refine sorted_eq (lt := fun a b : VV => bl a.1 b.1) (fun a => bl_irr _) (fun h k => bl_trans h k) ?_ (rvals_inv name S).1 (fun x => ?_)
  · unfold tel; rw [List.pairwise_map]; exact evs_sorted S name
  · obtain ⟨x, n⟩ := x
    rw [(rvals_inv name S).2]
    unfold tel
    rw [List.mem_map]
    constructor
    · rintro ⟨v, hv, e⟩
      injection e with e1 e2
      subst e1
      have := (mem_dvs name v S).1 ((mem_evs S name v).1 hv)
      exact ⟨this.1, this.2, e2.symm⟩
    · rintro ⟨h1, h2, h3⟩
      exact ⟨x, (mem_evs S name x).2 ((mem_dvs name x S).2 ⟨h1, h2⟩), by rw [h3]⟩
end Go.Proofs.Ytlkhdbfhnpbbhaa
namespace Go.Proofs.Ytlkhdbfhnpbbhaa
set_option linter.unusedVariables false
set_option linter.unusedSimpArgs false
open Go.RowKit Go.Maps Go.Proofs.YtlkhdbfhnpbbhaaW.PrintWords Go.Proofs.YtlkhdbfhnpbbhaaW.PrintLast Go.Proofs.YtlkhdbfhnpbbhaaW.PrintMore Go.Proofs.Ytlkhdbfhnpbbhaa.Ix Go.Proofs.Ytlkhdbfhnpbbhaa.Tx Go.Proofs.Ytlkhdbfhnpbbhaa.Pure
/-- a value and its number in memory -/
def kVV : Kd VV := Kd.pair Kd.string (Kd.int .i64)
theorem infoV : (Try.prog.info? 68).map (fun i => (i.zero, i.size, i.bytes)) = some (some (.agg #[.string ⟨#[]⟩, .int .i64 0]), 2, 24) := by kernel_rfl
theorem infoT : (Try.prog.info? 9).map (fun i => (i.zero, i.size, i.bytes)) = some (some (.string ⟨#[]⟩), 1, 16) := by kernel_rfl
theorem vv_M {w : World} {base : Nat} {ok : Nat → Prop} (s : ByteArray) (n : Int) : Kd.M kVV w base ok (s, n) [.string s, .int .i64 n] := ⟨_, _, rfl, rfl, rfl⟩
theorem vv_open {w : World} {x : VV} {cs : List Value} (h : kVV.K w x cs) : cs = [.string x.1, .int .i64 x.2] := by
  obtain ⟨a, b, rfl, h1, h2⟩ := h
  obtain rfl : a = [.string x.1] := h1
  obtain rfl : b = [.int .i64 x.2] := h2
  rfl
theorem at_VV {w : World} {A : Option Addr} {n : Nat} {xs : List VV} (h : Kd.C kVV w A n xs) (i : Nat) (hi : i < n) : ∃ ad, A = some ad ∧ w.cell? (ad.add (i * 2)) = some (.string (xs.getD i (emp, 0)).1) ∧ w.cell? ⟨(ad.add (i * 2)).block, (ad.add (i * 2)).off + 1, none⟩ = some (.int .i64 (xs.getD i (emp, 0)).2) := by
  obtain ⟨ad, c, e, _, hK, hc0⟩ := Kd.C_get h (emp, 0) (i : Int) (by omega) (by omega)
  rw [Int.toNat_natCast] at hK hc0
  have hc : ∀ j u, c[j]? = some u → w.cell? (ad.add (i * 2 + j)) = some u := hc0
  obtain rfl := vv_open hK
  exact ⟨ad, e, hc 0 _ rfl, by rw [← add_field _ _ 1 (by omega)]; exact hc 1 _ rfl⟩
/-- Block lb holds the list that is gathered; its blocks are of f. -/
structure VB (f : Nat → Prop) (w : World) (B lb : Nat) (L : List VV) : Prop where
  cells : ∃ v, w.heap[lb]? = some (.cells #[v] 61 (0, 0)) ∧ kVV.R 68 w B (fun k => f k ∧ k ≠ lb) v L
  lge : B ≤ lb
  fl : f lb
section
variable {f g : Nat → Prop} {w w' : World} {B lb : Nat} {L : List VV}
theorem VB.lt (h : VB f w B lb L) : lb < w.heap.size := by
  obtain ⟨v, hv, _⟩ := h.cells; exact (Array.getElem?_eq_some_iff.1 hv).1
theorem VB.below (h : VB f w B lb L) (hb : Below w.heap.size w w') : VB f w' B lb L := by
  refine ⟨?_, h.lge, h.fl⟩
  obtain ⟨v, hv, hR⟩ := h.cells
  exact ⟨v, (hb.block lb h.lt).trans hv, Kd.R_below hR hb⟩
theorem VB.far (h : VB f w B lb L) (hg : Far g w w') (hfg : ∀ k, f k → ¬ g k) : VB f w' B lb L := by
  refine ⟨?_, h.lge, h.fl⟩
  obtain ⟨v, hv, hR⟩ := h.cells
  exact ⟨v, (hg.block lb h.lt (hfg lb h.fl)).trans hv, R_other hR hg (fun k hk => hfg k hk.1)⟩
theorem VB.mono (h : VB f w B lb L) (hfg : ∀ k, f k → g k) : VB g w B lb L := by
  refine ⟨?_, h.lge, hfg _ h.fl⟩
  obtain ⟨v, hv, hR⟩ := h.cells
  exact ⟨v, hv, Kd.R_mono hR (fun k hk => ⟨hfg k hk.1, hk.2⟩)⟩
end
set_option maxRecDepth 100000 in
set_option maxHeartbeats 8000000 in
/-- One value more; whether more are wanted. -/
theorem yield_u {f : Nat → Prop} {w : World} {B lb mx : Nat} {L : List VV} {most : Int} (h : VB f w B lb L) (hB : B ≤ w.heap.size) (hff : ∀ k, w.heap.size ≤ k → f k) (hm : w.cell? ⟨mx, 0, none⟩ = some (.int .i64 most)) (hmx : ¬ f mx) (hl : L.length < 5000) (s : ByteArray) (n : Int) :
    Calls Try.prog 53 #[.string s, .int .i64 n, .pointer (some ⟨lb, 0, none⟩), .pointer (some ⟨mx, 0, none⟩)] w fun e w' => e = .returned (.bool (decide ((L.length : Int) + 1 < most))) ∧ VB f w' B lb (L ++ [(s, n)]) ∧ Below B w w' ∧ Far f w w' := by
  obtain ⟨v, hv, hR⟩ := h.cells
  obtain ⟨A, c, rfl⟩ := Kd.R_slice hR
  have hc0 : w.cell? ⟨lb, 0, none⟩ = some (.slice A L.length c) := blk_cell hv 0
  have hne : mx ≠ lb := fun e => hmx (e ▸ h.fl)
  have hml := World.block_lt_of_cell? w _ hm
  have HM := Lib.hid hm
  have HV := Lib.hid hv
  have HR := Lib.hid hR
  have HH := Lib.hid h
  have HFF := Lib.hid hff
  have HMX := Lib.hid hmx
  have HB := Lib.hid hB
  have HNE := Lib.hid hne
  clear h hB hff hm hmx hv hR hne hml
  go_enter Try.func53, Try.ntmps53
  go_wp2_with (at_builtin; go_must (refine Kd.R_append kVV (w0 := w) B rfl (.tmp 7) (.tmp 11) 61 68 (.agg #[.string ⟨#[]⟩, .int .i64 0]) 24 rfl Try.underlying61 infoV rfl (by decide) (by decide) (.slice A L.length c) L (s, n) [.string s, .int .i64 n] (fun k => f k ∧ k ≠ lb) (fun _ => False) rfl rfl (vv_M s n) (fun _ h => h.elim) (fun k hk => ⟨HFF.out k hk, by have := HH.out.lt; omega⟩) HR.out (Below.refl _ _) HB.out (by omega) ?_; intro v1 w2 hr2 hb2 hg2 hat2; obtain ⟨A2, c2, rfl⟩ := Kd.R_slice hr2; have hv2 := (hg2.block lb HH.out.lt (fun e => (HR.out.1 lb e.symm).2 rfl)).trans HV.out; have hc2 : w2.cell? ⟨lb, 0, none⟩ = some (.slice A L.length c) := blk_cell hv2 0; have hf2 : w2.frozen? ⟨lb, 0, none⟩ = false := blk_frozen hv2 0; have hm2 : w2.cell? ⟨mx, 0, none⟩ = some (.int .i64 most) := (World.cell?_of_block (w := w) (hg2.block mx (World.block_lt_of_cell? w _ HM.out) (fun e => HMX.out (HR.out.1 mx e.symm).1))).trans HM.out; have hm3 : ∀ u, (w2.setCell ⟨lb, 0, none⟩ u).cell? ⟨mx, 0, none⟩ = some (.int .i64 most) := (fun u => (World.cell?_of_block (w := w2) (Below.heap_setCell w2 ⟨lb, 0, none⟩ u mx HNE.out)).trans hm2); have hc3 : ∀ u, (w2.setCell ⟨lb, 0, none⟩ u).cell? ⟨lb, 0, none⟩ = some u := (fun u => blk_cell (blk_put hv2 0 u rfl) 0); have HV2 := Lib.hid hv2; have HR2 := Lib.hid hr2; have HB2 := Lib.hid hb2; have HG2 := Lib.hid hg2; clear hr2 hb2 hg2 hat2 hm2 hv2))
  go_ret
  have hsl : (L ++ [(s, n)]).length = L.length + 1 := by simp
  have hR2 := HR2.out
  rw [hsl] at hR2
  refine ⟨?_, ⟨⟨_, blk_put HV2.out 0 _ rfl, Kd.R_far (p := ⟨lb, 0, none⟩) hR2 (fun k hk => hk.2) _⟩, HH.out.lge, HH.out.fl⟩, HB2.out.setCell (p := ⟨lb, 0, none⟩) HH.out.lge _, ((Far.of_below (Below.refl _ _)).grown HG2.out (fun k e => (HR.out.1 k e).1)).setCell (p := ⟨lb, 0, none⟩) HH.out.fl _⟩
  rfl
end Go.Proofs.Ytlkhdbfhnpbbhaa
namespace Go.Proofs
def Try.lays190_ren : Go.Shelf.Ren := ⟨fun | 190 => 52 | 125 => 66 | 258 => 65 | 128 => 82 | 129 => 83 | 302 => 73 | 303 => 74 | 304 => 75 | 305 => 76 | 306 => 77 | 307 => 78 | 308 => 79 | 309 => 80 | 310 => 81 | 333 => 91 | 329 => 92 | 330 => 93 | 334 => 94 | 335 => 95 | 336 => 96 | 344 => 99 | n => n, fun | 31 => 51 | 9 => 9 | 3 => 3 | 46 => 105 | 0 => 0 | 51 => 126 | 53 => 128 | 4 => 4 | 183 => 120 | 182 => 119 | 131 => 28 | 5 => 5 | 218 => 133 | 222 => 80 | 228 => 141 | 229 => 142 | n => n, fun | n => n⟩
theorem Try.lays190 : Go.Proofs.Lays.n190 Try.prog Try.lays190_ren := {
  mixed := by kernel_rfl
  f125 := Try.func66.trans (congrArg some (by kernel_rfl))
  f128 := Try.func82.trans (congrArg some (by kernel_rfl))
  f129 := Try.func83.trans (congrArg some (by kernel_rfl))
  f190 := Try.func52.trans (congrArg some (by kernel_rfl))
  f258 := Try.func65.trans (congrArg some (by kernel_rfl))
  f302 := Try.func73.trans (congrArg some (by kernel_rfl))
  f303 := Try.func74.trans (congrArg some (by kernel_rfl))
  f304 := Try.func75.trans (congrArg some (by kernel_rfl))
  f305 := Try.func76.trans (congrArg some (by kernel_rfl))
  f306 := Try.func77.trans (congrArg some (by kernel_rfl))
  f307 := Try.func78.trans (congrArg some (by kernel_rfl))
  f308 := Try.func79.trans (congrArg some (by kernel_rfl))
  f309 := Try.func80.trans (congrArg some (by kernel_rfl))
  f310 := Try.func81.trans (congrArg some (by kernel_rfl))
  f329 := Try.func92.trans (congrArg some (by kernel_rfl))
  f330 := Try.func93.trans (congrArg some (by kernel_rfl))
  f333 := Try.func91.trans (congrArg some (by kernel_rfl))
  f334 := Try.func94.trans (congrArg some (by kernel_rfl))
  f335 := Try.func95.trans (congrArg some (by kernel_rfl))
  f336 := Try.func96.trans (congrArg some (by kernel_rfl))
  f344 := Try.func99.trans (congrArg some (by kernel_rfl))
  t0 := Try.underlying0
  a0 := Try.isAgg0
  z0 := Try.sizeOf0
  v0 := Try.zeroValue0
  t3 := Try.underlying3
  a3 := Try.isAgg3
  z3 := Try.sizeOf3
  v3 := Try.zeroValue3
  t4 := Try.underlying4
  a4 := Try.isAgg4
  z4 := Try.sizeOf4
  v4 := Try.zeroValue4
  t5 := Try.underlying5
  a5 := Try.isAgg5
  z5 := Try.sizeOf5
  v5 := Try.zeroValue5
  t9 := Try.underlying9
  a9 := Try.isAgg9
  z9 := Try.sizeOf9
  v9 := Try.zeroValue9
  t31 := Try.underlying51
  a31 := Try.isAgg51
  z31 := Try.sizeOf51
  v31 := Try.zeroValue51
  t46 := Try.underlying105
  a46 := Try.isAgg105
  z46 := Try.sizeOf105
  v46 := Try.zeroValue105
  t51 := Try.underlying126
  a51 := Try.isAgg126
  z51 := Try.sizeOf126
  v51 := Try.zeroValue126
  t53 := Try.underlying128
  a53 := Try.isAgg128
  z53 := Try.sizeOf128
  v53 := Try.zeroValue128
  t131 := Try.underlying28
  a131 := Try.isAgg28
  z131 := Try.sizeOf28
  v131 := Try.zeroValue28
  t182 := Try.underlying119
  a182 := Try.isAgg119
  z182 := Try.sizeOf119
  v182 := Try.zeroValue119
  t183 := Try.underlying120
  a183 := Try.isAgg120
  z183 := Try.sizeOf120
  v183 := Try.zeroValue120
  t218 := Try.underlying133
  a218 := Try.isAgg133
  z218 := Try.sizeOf133
  v218 := Try.zeroValue133
  t222 := Try.underlying80
  a222 := Try.isAgg80
  z222 := Try.sizeOf80
  v222 := Try.zeroValue80
  t228 := Try.underlying141
  a228 := Try.isAgg141
  z228 := Try.sizeOf141
  v228 := Try.zeroValue141
  t229 := Try.underlying142
  a229 := Try.isAgg142
  z229 := Try.sizeOf142
  v229 := Try.zeroValue142 }
open Go.Sort Go.RowKit in
theorem Try.slices_Sort_string (blk off cap : Nat) (ss : List (List UInt8)) (w : World) (hH : Holds encStr w blk off ss.toArray) (hblk : blk < w.heap.size) (hsz : ss.length < 4611686018427387904) :
    Calls Try.prog 52 #[.slice (some ⟨blk, off, none⟩) ss.length cap] w fun e w' =>
      e = .returned (.tuple #[]) ∧ ∃ n os, w' = grow (putRow encStr (Sort.ahead w n) blk off (ss.mergeSort fun x y => decide (x ≤ y)).toArray) os := Any.slices_Sort_string Try.lays190 blk off cap ss w hH hblk hsz
open Go.RowKit Go.Sort in
/-- .. and plain. (LAID: no walk: one application.) -/
theorem Try.slices_Sort_string_none (p : Option Addr) (cap : Nat) (w : World) :
    Calls Try.prog 52 #[.slice p 0 cap] w fun e w' => e = .returned (.tuple #[]) ∧ w' = w := Any.slices_Sort_string_none Try.lays190 p cap w
end Go.Proofs
namespace Go.Proofs.Ytlkhdbfhnpbbhaa
set_option linter.unusedVariables false
set_option linter.unusedSimpArgs false
open Go.RowKit Go.Maps Go.Proofs.YtlkhdbfhnpbbhaaW.PrintWords Go.Proofs.YtlkhdbfhnpbbhaaW.PrintLast Go.Proofs.YtlkhdbfhnpbbhaaW.PrintMore Go.Proofs.Ytlkhdbfhnpbbhaa.Ix Go.Proofs.Ytlkhdbfhnpbbhaa.Tx Go.Proofs.Ytlkhdbfhnpbbhaa.Pure
/-- The map holds how many sets have each value. -/
structure CntOf (D : SD) (S : List (List LB)) (name : ByteArray) : Prop where
  key : ∀ x : ByteArray, D.atKey (.string x.data.toList) (.lit (.int .i64 0)) = .lit (.int .i64 (cnt S name x : Nat))
theorem CntOf.nil (name : ByteArray) : CntOf (.map []) [] name := ⟨fun _ => rfl⟩
theorem CntOf.put {D : SD} {S : List (List LB)} {name : ByteArray} (h : CntOf D S name) (ht : Tidy D) (s : List LB) :
    CntOf (D.put (.string (lbVal s name).data.toList) (.lit (.int .i64 ((cnt S name (lbVal s name) : Nat) + 1)))) (S ++ [s]) name := by
  refine ⟨fun y => ?_⟩
  rw [cnt_snoc]
  by_cases e : lbVal s name = y
  · rw [if_pos e, e, atKey_put_same (k := .string y.data.toList) ht.isMap trivial]; simp
  · rw [if_neg e, atKey_put_other (by intro c; injection c with c; exact e (data_inj c.symm)), h.key, Nat.add_zero]
theorem lbVal_size {l : List LB} (h : chk l = true) (name : ByteArray) : (lbVal l name).size ≤ 64 := by
  have hf := (chk_fine h).1
  clear h
  induction l with
  | nil => exact Nat.zero_le _
  | cons x t ih =>
    unfold lbVal
    split
    · exact (hf x List.mem_cons_self).size
    · exact ih (fun y hy => hf y (List.mem_cons_of_mem _ hy))
open Go.Sort in
/-- A row of texts of one's own, sorted by the library. -/
theorem sorts_u {w : World} {B : Nat} {ok : Nat → Prop} {v : Value} {xs : List ByteArray} (h : Kd.string.R 9 w B ok v xs) (hl : xs.length ≤ 5000) :
    Calls Try.prog 52 #[v] w fun e w' => e = .returned (.tuple #[]) ∧ Kd.string.R 9 w' B ok v ((((xs.map (·.data.toList)).mergeSort (fun x y => decide (x ≤ y))).map (fun l => (⟨l.toArray⟩ : ByteArray)))) ∧ w.grownBy w' v.ownBlock := by
  have h0 := h.1
  have ho : w.ownsRow B 9 1 v xs.length (encs Value.string xs) := Kd.own_of_R h
  obtain ⟨ss, hss⟩ : ∃ ss, xs.map (·.data.toList) = ss := ⟨_, rfl⟩
  have hsl : ss.length = xs.length := by rw [← hss]; simp
  have hse : ss.map encStr = encs Value.string xs := by rw [← hss]; unfold encs; rw [List.map_map]; exact List.map_congr_left (fun x _ => rfl)
  rw [hss]
  rcases ho.2 with ⟨rfl, hz⟩ | ⟨g, cap, cur, rfl, hbg, hg, hnc, hcm, hcs, htake⟩
  · have hx : ss = [] := List.eq_nil_of_length_eq_zero (by omega)
    subst hx
    refine (Try.slices_Sort_string_none none 0 w).mono ?_
    rintro e w' ⟨rfl, rfl⟩
    exact ⟨rfl, (by rw [List.mergeSort_nil]; exact Kd.R_nil _ _ _ _ _), World.grownBy.refl _ _⟩
  · have h4 : cur.toList.take ss.length = ss.map encStr := by rw [hse, hsl]; simpa using htake
    have hH : Holds encStr w g 0 ss.toArray := holds_of_block hg h4
    rw [← hsl]
    refine (Try.slices_Sort_string g 0 cap ss w hH (Array.getElem?_eq_some_iff.1 hg).1 (by omega)).mono ?_
    rintro e w' ⟨rfl, n, os, rfl⟩
    have hl2 : (ss.mergeSort (fun x y => decide (x ≤ y))).length = ss.length := List.length_mergeSort _
    have hown := ownsRow_sorted (n := n) (os := os) hl2 hbg hg (by omega) hcm (by simpa using hcs)
    refine ⟨rfl, Kd.R_of_own ?_ h0, grownBy_sorted _⟩
    rw [List.length_map, hl2]
    have e2 : encs Value.string ((ss.mergeSort (fun x y => decide (x ≤ y))).map (fun l => (⟨l.toArray⟩ : ByteArray))) = (ss.mergeSort (fun x y => decide (x ≤ y))).map encStr := by unfold encs; rw [List.map_map]; rfl
    rw [e2]
    exact hown
theorem emp_list : ByteArray.toList emp = [] := by unfold emp; simp
theorem emp_iff (v : ByteArray) : v.toList = [] ↔ v = emp := ⟨fun h => bytes_ext (by rw [h, emp_list]), fun h => by rw [h, emp_list]⟩
theorem dvs_size {S : List (List LB)} (hS : ∀ s ∈ S, chk s = true) {name v : ByteArray} (h : v ∈ dvs S name) : v.size ≤ 64 := by
  have h2 := ((mem_dvs name v S).1 h).2
  unfold cnt at h2
  obtain ⟨s, hs⟩ := List.exists_mem_of_length_pos (Nat.pos_of_ne_zero h2)
  obtain ⟨h3, h4⟩ := List.mem_filter.1 hs
  rw [← of_decide_eq_true h4]
  exact lbVal_size (hS s h3) name
theorem tel_take (S : List (List LB)) (name : ByteArray) (j : Nat) (h : j < (evs S name).length) : (tel S name).take (j + 1) = (tel S name).take j ++ [((evs S name).getD j emp, (cnt S name ((evs S name).getD j emp) : Int))] := by
  unfold tel
  rw [List.take_add_one, List.getElem?_map, List.getElem?_eq_getElem h, List.getD_eq_getElem?_getD, List.getElem?_eq_getElem h]
  rfl
theorem VB.bound {f : Nat → Prop} {w : World} {B lb : Nat} {L : List VV} (h : VB f w B lb L) : VB (fun k => f k ∧ k < w.heap.size) w B lb L := by
  refine ⟨?_, h.lge, h.fl, h.lt⟩
  obtain ⟨v, hv, hR⟩ := h.cells
  exact ⟨v, hv, Kd.R_mono (Kd.R_bound hR) (fun k hk => ⟨⟨hk.1.1, hk.2.2.1⟩, hk.1.2⟩)⟩
set_option maxRecDepth 100000 in
set_option maxHeartbeats 8000000 in
theorem values1_u {fx fl : Nat → Prop} {w : World} {base kb mb B lb mx xb nb : Nat} {S : List (List LB)} {most : Int} {name : ByteArray} (h : IX fx w base kb mb S) (hS : S.length ≤ 60) (hx : w.cell? ⟨xb, 0, none⟩ = some (.pointer (some ⟨kb, 0, none⟩))) (hn : w.cell? ⟨nb, 0, none⟩ = some (.string name))
    (hL : VB fl w B lb []) (hB : B ≤ w.heap.size) (hm : w.cell? ⟨mx, 0, none⟩ = some (.int .i64 most)) (hmost : 1 ≤ most) (hfm : ¬ fl mx) (hfx : ¬ fl xb ∧ ¬ fl nb) :
    Calls Try.prog 51 #[.func (.func 53) #[] #[.pointer (some ⟨lb, 0, none⟩), .pointer (some ⟨mx, 0, none⟩)], .pointer (some ⟨xb, 0, none⟩), .pointer (some ⟨nb, 0, none⟩)] w
      fun e w' => e = .returned (.tuple #[]) ∧ VB (fun k => fl k ∨ w.heap.size ≤ k) w' B lb ((tel S name).take most.toNat) ∧ Below B w w' ∧ Far fl w w' := by
  have HX := Lib.hid h
  have HN := Lib.hid hn
  have HL := Lib.hid hL
  have HB := Lib.hid hB
  have HM := Lib.hid hm
  have HFM := Lib.hid hfm
  have hmade := World.ownsMap_made (H := Unit) w Try.prog 9 (plainElem Try.prog 3)
  have hmk : ∀ w, (Instr.makeMap 71 none).run Try.prog w = .ok (.map (some w.heap.size)) (w.alloc (.map #[] 0)) := fun w => run_makeMap 71 w
  obtain ⟨v, hv, hR⟩ := h.cells
  obtain ⟨A, c, rfl, hcc, hCS⟩ := Kd.R_reads hR
  have hw1 : ∃ w1, w.alloc (.map #[] 0) = w1 := ⟨_, rfl⟩
  have hb1 : Below w.heap.size w (w.alloc (.map #[] 0)) := (Below.refl w.heap.size w).alloc (Nat.le_refl _) _
  have c0 : (w.alloc (.map #[] 0)).cell? ⟨kb, 0, none⟩ = some (.slice A S.length c) := (hb1.cell (p := ⟨kb, 0, none⟩) h.klt).trans (blk_cell hv 0)
  have cx : (w.alloc (.map #[] 0)).cell? ⟨xb, 0, none⟩ = some (.pointer (some ⟨kb, 0, none⟩)) := (hb1.cell (p := ⟨xb, 0, none⟩) (World.block_lt_of_cell? w _ hx)).trans hx
  have HCS := Lib.hid hCS
  have HMD := Lib.hid hmade
  have HB1 := Lib.hid hb1
  clear h hn hL hB hm hfm hmade hv hR hCS hcc hw1 hb1
  go_enter Try.func51, Try.ntmps51
  go_wp2
  go_loopw [5, 19] (fun v5 v19 wr => ∃ (i : Nat) (D : SD), i ≤ S.length ∧ v19 = .int .i64 (i : Int) ∧ wr.ownsMap Try.prog 9 (plainElem Try.prog 3) w.heap.size i D ∧ CntOf D (S.take i) name ∧ Kd.string.R 9 wr w.heap.size (fun k => k ≠ w.heap.size) v5 (dvs (S.take i) name) ∧ Below w.heap.size w wr) (fun _ v19 _ => S.length - (intOf v19).toNat)
  case atStart => exact ⟨0, _, Nat.zero_le _, rfl, HMD.out, CntOf.nil name, Kd.R_nil _ _ _ _ _, HB1.out⟩
  case round =>
    obtain ⟨i, D, hi, rfl, hown, hcnt, hr, hb⟩ := hrel
    clear c0 cx HMD HB1
    by_cases hlt : i < S.length
    · obtain ⟨ad, A', c', rfl, hcell, hle, hC'⟩ := set_at HCS.out i hlt
      have hc2 := (hb.cell (World.block_lt_of_cell? w _ hcell)).trans hcell
      have hn2 := (hb.cell (p := ⟨nb, 0, none⟩) (World.block_lt_of_cell? w _ HN.out)).trans HN.out
      have hgood : chk (S.getD i []) = true := by
        have : S.getD i [] ∈ S := by rw [List.getD_eq_getElem?_getD, List.getElem?_eq_getElem hlt]; exact List.getElem_mem _
        exact HX.out.good _ this
      have hst : S.take (i + 1) = S.take i ++ [S.getD i []] := by rw [List.take_add_one, List.getElem?_eq_getElem hlt, List.getD_eq_getElem?_getD, List.getElem?_eq_getElem hlt]; rfl
      have hC2 := Kd.C_below hC' hb
      obtain ⟨x, hx⟩ : ∃ x, S.getD i [] = x := ⟨_, rfl⟩
      rw [hx] at hc2 hle hC2 hgood hst
      have hx8 := (chk_fine hgood).2.1
      obtain ⟨T, hT⟩ : ∃ T, S.take i = T := ⟨_, rfl⟩
      have hTl : T.length ≤ 60 := by rw [← hT]; simp; omega
      rw [hT] at hst hcnt hr
      have hvs := lbVal_size hgood name
      have HVL := Lib.hid (value_eq x name (by omega) 9 (by omega))
      have hds := dvs_snoc T x name
      have hdl := dvs_len name T
      have HCP := Lib.hid (hcnt.put (hown.tidy lawS) x)
      have hck := hcnt.key (lbVal x name)
      obtain ⟨v, hv⟩ : ∃ v, lbVal x name = v := ⟨_, rfl⟩
      rw [hv] at hvs HVL hds HCP hck
      obtain ⟨m, hm⟩ : ∃ m, cnt T name v = m := ⟨_, rfl⟩
      have hm60 : m ≤ 60 := by rw [← hm]; exact Nat.le_trans (cnt_le T name v) hTl
      have hmem := mem_dvs name v T
      rw [hm] at HCP hck hmem
      have hkey := WideMaps.keyOf_string_mk (P := Try.prog) Try.underlying9 (show v.size ≤ maxLen by simp only [maxLen]; omega)
      have HLOOK : ∀ W : World, W.ownsMap Try.prog 9 (plainElem Try.prog 3) w.heap.size i D → (Instr.lookup 71 (.map (some w.heap.size)) (.string v) false).run Try.prog W = .ok (.int .i64 ((m : Nat) : Int)) W := by
        intro W hW
        obtain ⟨n, hlook, hat, hwn⟩ := hW.lookup_int lawS Try.underlying71 Try.underlying3 (by rfl) hkey
        rw [hck] at hat
        obtain rfl : n = ((m : Nat) : Int) := by injection hat with e; injection e with _ e; exact e.symm
        exact hlook
      have HLK := Lib.hid HLOOK
      have HMV : ∀ W W' : World, W.ownsMap Try.prog 9 (plainElem Try.prog 3) w.heap.size i D → W'.heap[w.heap.size]? = W.heap[w.heap.size]? → W'.ownsMap Try.prog 9 (plainElem Try.prog 3) w.heap.size i D := by
        rintro W W' ⟨es, clock, h1, h2⟩ he
        exact ⟨es, clock, he.trans h1, h2⟩
      have HMV := Lib.hid HMV
      have wf : (Lit.int .i64 ((m : Int) + 1)).wf = true := by
        have e1 : IntKind.i64.min = -9223372036854775808 := by decide
        have e2 : IntKind.i64.max = 9223372036854775807 := by decide
        simp only [Lit.wf, e1, e2, Bool.and_eq_true, decide_eq_true_eq]; omega
      have hval : plainElem (H := Unit) Try.prog 3 (.int .i64 ((m : Int) + 1)) = some (.lit (.int .i64 ((m : Int) + 1)), []) := plainElem_int Try.underlying3 wf
      have HKV := Lib.hid (fun _ : Unit => And.intro hval hkey)
      have HC2 := Lib.hid hC2
      have HLE := Lib.hid hle
      have HBW := Lib.hid hb
      have HR := Lib.hid hr
      have HOWN := Lib.hid hown
      have HST := Lib.hid hst
      have HDS := Lib.hid hds
      have HMEM := Lib.hid hmem
      clear hcell hC' hC2 hle hb hr hx hst hds hcnt hown hck HLOOK hval hkey wf hT hm hmem hgood
      by_cases hv0 : v = emp
      · have HV0 := Lib.hid hv0
        have hb0 : v.toList = [] := (emp_iff v).2 hv0
        have hb1 : v.toList.isEmpty = true := by rw [hb0]; rfl
        clear hv0
        go_wp2_with (first
          | (go_at_call 42; go_must (refine (label_Value.calls 9 A' c' x name v _ HC2.out HLE.out HVL.out).mono ?_; rintro e w1 ⟨rfl, hb1⟩; have ho1 := HMV.out _ w1 HOWN.out (hb1.block _ HOWN.out.lt); have hl1 := HLK.out _ ho1; have HO1 := Lib.hid ho1; have HR1 := Lib.hid (Kd.R_below HR.out hb1); have HB1 := Lib.hid (HBW.out.trans (hb1.mono HBW.out.size)); clear ho1 hb1))
          | (at_mapUpdate; go_must (refine wpList_mapUpdate_own _ rfl _ _ _ 71 rfl 9 3 lawS Try.underlying71 _ w.heap.size i D rfl HO1.out (by simp only [maxLen]; omega) _ _ (.string v.data.toList) rfl rfl (HKV.out ()).2 (.lit (.int .i64 ((m : Int) + 1))) [] (HKV.out ()).1 ?_; intro w3 ho3 hg3; have HO3 := Lib.hid ho3; have HR3 := Lib.hid (Kd.R_grown HR1.out hg3 (fun k hk e => hk (by injection e))); have HB3 := Lib.hid (HB1.out.grown hg3 HB1.out.size (fun k e => by cases e; exact Nat.le_refl _)); clear ho3 hg3)))
        go_roundw
        case rel => exact ⟨i + 1, _, hlt, by simp, HO3.out, by rw [HST.out]; exact HCP.out, by rw [HST.out, HDS.out, if_pos (Or.inl HV0.out)]; exact HR3.out, HB3.out⟩
        case measure => simp [intOf]; omega
      · have HV0 := Lib.hid hv0
        have hb0 : ¬ v.toList = [] := fun c => hv0 ((emp_iff v).1 c)
        have hb1 : v.toList.isEmpty = false := by
          cases h : v.toList with
          | nil => exact absurd h hb0
          | cons _ _ => rfl
        clear hv0
        by_cases hm0 : m = 0
        · have HNM := Lib.hid (show ¬ (v = emp ∨ v ∈ dvs T name) from fun c => c.elim HV0.out (fun c => (HMEM.out.1 c).2 hm0))
          have hm1 : ((m : Int) == 0) = true := by rw [hm0]; rfl
          clear hm0
          go_wp2_with (first
            | (go_at_call 42; go_must (refine (label_Value.calls 9 A' c' x name v _ HC2.out HLE.out HVL.out).mono ?_; rintro e w1 ⟨rfl, hb1⟩; have ho1 := HMV.out _ w1 HOWN.out (hb1.block _ HOWN.out.lt); have hl1 := HLK.out _ ho1; have HO1 := Lib.hid ho1; have HR1 := Lib.hid (Kd.R_below HR.out hb1); have HB1 := Lib.hid (HBW.out.trans (hb1.mono HBW.out.size)); clear ho1 hb1))
            | (at_builtin; go_must (refine Kd.R_append Kd.string (w0 := w) w.heap.size rfl (.tmp 34) (.tmp 36) 51 9 (.string ⟨#[]⟩) 16 rfl Try.underlying51 infoT rfl Nat.zero_lt_one (by decide) u5 (dvs T name) v [.string v] (fun k => k ≠ w.heap.size) (fun _ => False) rfl rfl rfl (fun _ h => h.elim) (fun k hk => by have := HO1.out.lt; omega) HR1.out HB1.out HB1.out.size (by omega) ?_; intro v2 w2 hr2 hb2 hg2 _; have ho2 := HMV.out _ w2 HO1.out (hg2.block _ HO1.out.lt (fun e => HR1.out.1 _ e.symm rfl)); clear hl1; have hl2 := HLK.out _ ho2; have HO2 := Lib.hid ho2; have HR2 := Lib.hid hr2; have HB2 := Lib.hid hb2; clear ho2 hr2 hb2 hg2))
            | (at_mapUpdate; go_must (refine wpList_mapUpdate_own _ rfl _ _ _ 71 rfl 9 3 lawS Try.underlying71 _ w.heap.size i D rfl HO2.out (by simp only [maxLen]; omega) _ _ (.string v.data.toList) rfl rfl (HKV.out ()).2 (.lit (.int .i64 ((m : Int) + 1))) [] (HKV.out ()).1 ?_; intro w3 ho3 hg3; have HO3 := Lib.hid ho3; have HR3 := Lib.hid (Kd.R_grown HR2.out hg3 (fun k hk e => hk (by injection e))); have HB3 := Lib.hid (HB2.out.grown hg3 HB2.out.size (fun k e => by cases e; exact Nat.le_refl _)); clear ho3 hg3)))
          go_roundw
          case rel => exact ⟨i + 1, _, hlt, by simp, HO3.out, by rw [HST.out]; exact HCP.out, by rw [HST.out, HDS.out, if_neg HNM.out]; exact HR3.out, HB3.out⟩
          case measure => simp [intOf]; omega
        · have HNM := Lib.hid (show v ∈ dvs T name from HMEM.out.2 ⟨HV0.out, hm0⟩)
          have hm1 : ((m : Int) == 0) = false := beq_false_of_ne (by omega)
          go_wp2_with (first
            | (go_at_call 42; go_must (refine (label_Value.calls 9 A' c' x name v _ HC2.out HLE.out HVL.out).mono ?_; rintro e w1 ⟨rfl, hb1⟩; have ho1 := HMV.out _ w1 HOWN.out (hb1.block _ HOWN.out.lt); have hl1 := HLK.out _ ho1; have HO1 := Lib.hid ho1; have HR1 := Lib.hid (Kd.R_below HR.out hb1); have HB1 := Lib.hid (HBW.out.trans (hb1.mono HBW.out.size)); clear ho1 hb1))
            | (at_mapUpdate; go_must (refine wpList_mapUpdate_own _ rfl _ _ _ 71 rfl 9 3 lawS Try.underlying71 _ w.heap.size i D rfl HO1.out (by simp only [maxLen]; omega) _ _ (.string v.data.toList) rfl rfl (HKV.out ()).2 (.lit (.int .i64 ((m : Int) + 1))) [] (HKV.out ()).1 ?_; intro w3 ho3 hg3; have HO3 := Lib.hid ho3; have HR3 := Lib.hid (Kd.R_grown HR1.out hg3 (fun k hk e => hk (by injection e))); have HB3 := Lib.hid (HB1.out.grown hg3 HB1.out.size (fun k e => by cases e; exact Nat.le_refl _)); clear ho3 hg3)))
          go_roundw
          case rel => exact ⟨i + 1, _, hlt, by simp, HO3.out, by rw [HST.out]; exact HCP.out, by rw [HST.out, HDS.out, if_pos (Or.inr HNM.out)]; exact HR3.out, HB3.out⟩
          case measure => simp [intOf]; omega
    · obtain rfl : i = S.length := by omega
      rw [List.take_length] at hcnt hr
      have hdl := dvs_len name S
      have HSORT := Lib.hid (sorts_u hr (by omega))
      have HOWN := Lib.hid hown
      have HBW := Lib.hid hb
      have HCN := Lib.hid hcnt
      have HNB := Lib.hid (fun e => hr.1 w.heap.size e rfl : u5.ownBlock ≠ some w.heap.size)
      have HBS := Lib.hid (fun k (e : u5.ownBlock = some k) => Kd.R_base hr k e)
      clear hown hr hb hcnt
      go_wp2_with (go_at_call 52; go_must (refine HSORT.out.mono ?_; rintro e w2 ⟨rfl, hr2, hg2⟩; obtain ⟨A2, c2, hv2⟩ := Kd.R_slice hr2; subst hv2; have HR2 := Lib.hid hr2; have HG2 := Lib.hid hg2; clear hr2 hg2))
      have hBW2 : Below w.heap.size w w2 := HBW.out.grown HG2.out HBW.out.size (fun k e => HBS.out k e)
      have hlt2 : w.heap.size < w2.heap.size := Nat.lt_of_lt_of_le HOWN.out.lt HG2.out.size
      have hown2 : w2.ownsMap Try.prog 9 (plainElem Try.prog 3) w.heap.size S.length D := by
        obtain ⟨es, clock, h1, h2⟩ := HOWN.out
        exact ⟨es, clock, (HG2.out.block _ HOWN.out.lt (fun e => HNB.out e.symm)).trans h1, h2⟩
      have hR2 : Kd.string.R 9 w2 w.heap.size (fun k => w.heap.size ≤ k ∧ k < w2.heap.size) (.slice A2 (evs S name).length c2) (evs S name) := Kd.R_mono (Kd.R_bound HR2.out) (fun k a => ⟨a.2.1, a.2.2.1⟩)
      have hel : (evs S name).length ≤ 60 := by rw [evs_len]; omega
      have hVB : VB (fun k => (fl k ∧ k < w.heap.size) ∨ w2.heap.size ≤ k) w2 B lb [] := (HL.out.bound.below hBW2).mono (fun k a => Or.inl a)
      have hm2 : w2.cell? ⟨mx, 0, none⟩ = some (.int .i64 most) := (hBW2.cell (p := ⟨mx, 0, none⟩) (World.block_lt_of_cell? w _ HM.out)).trans HM.out
      have HLT2 := Lib.hid hlt2
      have HST := Lib.hid (show (VB (fun k => (fl k ∧ k < w.heap.size) ∨ w2.heap.size ≤ k) w2 B lb ((tel S name).take 0)) ∧ Kd.string.R 9 w2 w.heap.size (fun k => w.heap.size ≤ k ∧ k < w2.heap.size) (.slice A2 (dvs S name).length c2) (evs S name) ∧ w2.ownsMap Try.prog 9 (plainElem Try.prog 3) w.heap.size S.length D ∧ Below B w w2 ∧ Far fl w w2 ∧ w2.heap.size ≤ w2.heap.size ∧ w2.cell? ⟨mx, 0, none⟩ = some (.int .i64 most) from ⟨by rw [List.take_zero]; exact hVB, by rw [← evs_len]; exact hR2, hown2, hBW2.mono HB.out, Far.of_below hBW2, Nat.le_refl _, hm2⟩)
      have hsl : ((((dvs S name).map (·.data.toList)).mergeSort (fun x y => decide (x ≤ y))).map (fun l => (⟨l.toArray⟩ : ByteArray))).length = (evs S name).length := rfl
      obtain ⟨E, hE⟩ : ∃ E, evs S name = E := ⟨_, rfl⟩
      have HE := Lib.hid hE
      have hEl : E.length = (dvs S name).length := by rw [← hE]; exact evs_len S name
      rw [hE] at HST hel
      clear hBW2 hlt2 hown2 hR2 hVB hm2 hsl hE HR2 HG2 HOWN HBW HNB HBS HSORT
      go_loopw [47] (fun v47 wj => ∃ j : Nat, j ≤ E.length ∧ v47 = .int .i64 (j : Int) ∧ (j : Int) < most ∧ (VB (fun k => (fl k ∧ k < w.heap.size) ∨ w2.heap.size ≤ k) wj B lb ((tel S name).take j)) ∧ Kd.string.R 9 wj w.heap.size (fun k => w.heap.size ≤ k ∧ k < w2.heap.size) (.slice A2 (dvs S name).length c2) E ∧ wj.ownsMap Try.prog 9 (plainElem Try.prog 3) w.heap.size S.length D ∧ Below B w wj ∧ Far fl w wj ∧ w2.heap.size ≤ wj.heap.size ∧ wj.cell? ⟨mx, 0, none⟩ = some (.int .i64 most)) (fun v47 _ => E.length - (intOf v47).toNat)
      case atStart => exact ⟨0, Nat.zero_le _, rfl, by omega, HST.out⟩
      case round =>
        obtain ⟨j, hj, rfl, hjm, hVB, hR, hown, hBb, hFar, hsz, hmc⟩ := hrel
        clear HST
        have HVB := Lib.hid hVB
        have HR := Lib.hid hR
        have HOWN := Lib.hid hown
        have HBb := Lib.hid hBb
        have HFar := Lib.hid hFar
        have HSZ := Lib.hid hsz
        have HMC := Lib.hid hmc
        by_cases hjl : j < (dvs S name).length
        · obtain ⟨ad, rfl, hcell⟩ := Kd.at_string (Kd.R_reads' hR).2.2 (j : Int) (by omega) (by omega)
          have d2 : decide ((j : Int) < ((dvs S name).length : Int)) = true := decide_eq_true (by omega)
          have d3 : decide (j < (dvs S name).length) = true := decide_eq_true hjl
          rw [Int.toNat_natCast] at hcell
          have hjE : j < (evs S name).length := by rw [HE.out]; omega
          have htk := tel_take S name j hjE
          rw [HE.out] at htk
          have hve : E.getD j emp ∈ dvs S name := by
            rw [← mem_evs, HE.out, List.getD_eq_getElem?_getD, List.getElem?_eq_getElem (by omega : j < E.length)]; exact List.getElem_mem _
          have hvs := dvs_size HX.out.good hve
          have hrd : rdOf ByteArray.empty E (j : Int) = E.getD j emp := by unfold rdOf; rw [Int.toNat_natCast]; rfl
          rw [hrd] at hcell
          have hck := HCN.out.key (E.getD j emp)
          obtain ⟨v, hv⟩ : ∃ v, E.getD j emp = v := ⟨_, rfl⟩
          rw [hv] at hcell htk hvs hck
          have hkey := WideMaps.keyOf_string_mk (P := Try.prog) Try.underlying9 (show v.size ≤ maxLen by simp only [maxLen]; omega)
          obtain ⟨n, hlook, hat, hwn⟩ := hown.lookup_int lawS Try.underlying71 Try.underlying3 (by rfl) hkey
          rw [hck] at hat
          obtain rfl : n = ((cnt S name v : Nat) : Int) := by injection hat with e; injection e with _ e; exact e.symm
          have htl : ((tel S name).take j).length = j := by rw [List.length_take, tel, List.length_map, HE.out]; omega
          have HTK := Lib.hid htk
          have hyl := yield_u hVB (Nat.le_trans HB.out hBb.size) (fun k hk => Or.inr (Nat.le_trans hsz hk)) hmc (fun c => c.elim (fun c => HFM.out c.1) (fun c => by have := World.block_lt_of_cell? w _ HM.out; have := HLT2.out; simp only at *; omega)) (by rw [htl]; omega) v ((cnt S name v : Nat) : Int)
          rw [htl] at hyl
          have HYL := Lib.hid hyl
          clear hVB hR hown hBb hFar hsz hmc hjE htk hve hrd hck hv hkey hat hwn hyl htl
          by_cases hmore : (j : Int) + 1 < most
          · have d1 : decide ((j : Int) + 1 < most) = true := decide_eq_true hmore
            rw [d1] at HYL
            go_wp2_with (go_at_call 53; go_must (refine HYL.out.mono ?_; rintro e w5 ⟨rfl, hv5, hb5, hf5⟩; have HV5 := Lib.hid hv5; have HB5 := Lib.hid hb5; have HF5 := Lib.hid hf5; clear hv5 hb5 hf5))
            go_roundw
            case rel =>
              have HFAR5 := Lib.hid (show Far fl w w5 from ⟨Nat.le_trans HFar.out.size HF5.out.size, fun k hk hn => (HF5.out.block k (Nat.lt_of_lt_of_le hk HFar.out.size) (fun c => c.elim (fun c => hn c.1) (fun c => by have := HLT2.out; omega))).trans (HFar.out.block k hk hn)⟩)
              rw [← HTK.out] at HV5
              have hno : ∀ k, (w.heap.size ≤ k ∧ k < w2.heap.size) → ¬ ((fl k ∧ k < w.heap.size) ∨ w2.heap.size ≤ k) := fun k a c => c.elim (fun c => by omega) (fun c => by omega)
              refine ⟨j + 1, by omega, by simp, by omega, HV5.out, R_other HR.out HF5.out hno, ?_, HBb.out.trans HB5.out, HFAR5.out, Nat.le_trans HSZ.out HF5.out.size, ?_⟩
              · obtain ⟨es, clock, h1, h2⟩ := HOWN.out
                exact ⟨es, clock, (HF5.out.block _ HOWN.out.lt (hno _ ⟨Nat.le_refl _, HLT2.out⟩)).trans h1, h2⟩
              · refine (World.cell?_of_block (w := wr) (HF5.out.block mx (World.block_lt_of_cell? wr _ HMC.out) (fun c => c.elim (fun c => HFM.out c.1) (fun c => ?_)))).trans HMC.out
                have h1 := World.block_lt_of_cell? w _ HM.out
                have h2 := HLT2.out
                simp only at h1
                omega
            case measure => simp [intOf]; omega
          · have d1 : decide ((j : Int) + 1 < most) = false := decide_eq_false hmore
            rw [d1] at HYL
            go_wp2_with (go_at_call 53; go_must (refine HYL.out.mono ?_; rintro e w5 ⟨rfl, hv5, hb5, hf5⟩; have HV5 := Lib.hid hv5; have HB5 := Lib.hid hb5; have HF5 := Lib.hid hf5; clear hv5 hb5 hf5))
            have HFAR5 := Lib.hid (show Far fl w w5 from ⟨Nat.le_trans HFar.out.size HF5.out.size, fun k hk hn => (HF5.out.block k (Nat.lt_of_lt_of_le hk HFar.out.size) (fun c => c.elim (fun c => hn c.1) (fun c => by have := HLT2.out; omega))).trans (HFar.out.block k hk hn)⟩)
            rw [← HTK.out] at HV5
            (try simp only [Exit.inBlock, Exit.then]); refine bodyPost_ret (results_none rfl _ _ _) rfl ?_
            refine ⟨rfl, ?_, HBb.out.trans HB5.out, HFAR5.out⟩
            rw [show most.toNat = j + 1 by omega]
            exact VB.mono HV5.out (fun k a => a.elim (fun a => Or.inl a.1) (fun a => Or.inr (Nat.le_trans (Nat.le_of_lt HLT2.out) a)))
        · have hjE : j = (dvs S name).length := by omega
          have d2 : decide ((j : Int) < ((dvs S name).length : Int)) = false := decide_eq_false (by omega)
          have d3 : decide (j < (dvs S name).length) = false := decide_eq_false hjl
          have HTK := Lib.hid (show (tel S name).take most.toNat = (tel S name).take j by
            have hl : (tel S name).length = (dvs S name).length := by unfold tel; rw [List.length_map, evs_len]
            rw [List.take_of_length_le (by omega), List.take_of_length_le (by omega)])
          clear hVB hR hown hBb hFar hsz hmc hjE
          go_wp2
          go_end0
          refine ⟨rfl, ?_, HBb.out, HFar.out⟩
          rw [HTK.out]
          exact VB.mono HVB.out (fun k a => a.elim (fun a => Or.inl a.1) (fun a => Or.inr (Nat.le_trans (Nat.le_of_lt HLT2.out) a)))
end Go.Proofs.Ytlkhdbfhnpbbhaa
namespace Go.Proofs.Ytlkhdbfhnpbbhaa
set_option linter.unusedVariables false
set_option linter.unusedSimpArgs false
open Go.RowKit Go.Maps Go.Proofs.YtlkhdbfhnpbbhaaW.PrintWords Go.Proofs.YtlkhdbfhnpbbhaaW.PrintLast Go.Proofs.YtlkhdbfhnpbbhaaW.PrintMore Go.Proofs.Ytlkhdbfhnpbbhaa.Ix Go.Proofs.Ytlkhdbfhnpbbhaa.Tx Go.Proofs.Ytlkhdbfhnpbbhaa.Pure
set_option maxRecDepth 100000 in
set_option maxHeartbeats 8000000 in
theorem ivalues_u (w : World) (kb : Nat) (name : ByteArray) :
    Calls Try.prog 31 #[.pointer (some ⟨kb, 0, none⟩), .string name] w fun e w' => ∃ xb nb, e = .returned (.func (.func 51) #[] #[.pointer (some ⟨xb, 0, none⟩), .pointer (some ⟨nb, 0, none⟩)]) ∧
      w'.cell? ⟨xb, 0, none⟩ = some (.pointer (some ⟨kb, 0, none⟩)) ∧ w'.cell? ⟨nb, 0, none⟩ = some (.string name) ∧ w.heap.size ≤ xb ∧ w.heap.size ≤ nb ∧ Below w.heap.size w w' := by
  have hb : Below w.heap.size w ((w.alloc (.cells #[.pointer (some ⟨kb, 0, none⟩)] 24)).alloc (.cells #[.string name] 9)) := ((Below.refl _ w).alloc (Nat.le_refl _) _).alloc (by simp) _
  have hx : Boxed ((w.alloc (.cells #[.pointer (some ⟨kb, 0, none⟩)] 24)).alloc (.cells #[.string name] 9)) w.heap.size 24 (.pointer (some ⟨kb, 0, none⟩)) := (Boxed.new w _ _).alloc _
  have hv : Boxed ((w.alloc (.cells #[.pointer (some ⟨kb, 0, none⟩)] 24)).alloc (.cells #[.string name] 9)) (w.heap.size + 1) 9 (.string name) := by
    have := Boxed.new (w.alloc (.cells #[.pointer (some ⟨kb, 0, none⟩)] 24)) 9 (.string name); rw [World.size_alloc] at this; exact this
  have HB := Lib.hid hb
  have HX := Lib.hid hx.cell
  have HV := Lib.hid hv.cell
  have hmf : ∀ (fn : Fn) (first cap : Array Value) (w : World), (Instr.makeFunc fn first cap).run Try.prog w = .ok (.func fn first cap) w := fun _ _ _ _ => rfl
  clear hb hx hv
  go_enter Try.func31, Try.ntmps31
  go_wp2
  go_ret
  exact ⟨w.heap.size, w.heap.size + 1, rfl, HX.out, HV.out, Nat.le_refl _, by omega, HB.out⟩
set_option maxRecDepth 100000 in
set_option maxHeartbeats 8000000 in
theorem vals_u {fx : Nat → Prop} {w : World} {base kb mb xb nb : Nat} {S : List (List LB)} {most : Int} {name : ByteArray} (h : IX fx w base kb mb S) (hS : S.length ≤ 60) (hx : w.cell? ⟨xb, 0, none⟩ = some (.pointer (some ⟨kb, 0, none⟩))) (hn : w.cell? ⟨nb, 0, none⟩ = some (.string name)) (hmost : 1 ≤ most) :
    Calls Try.prog 32 #[.func (.func 51) #[] #[.pointer (some ⟨xb, 0, none⟩), .pointer (some ⟨nb, 0, none⟩)], .int .i64 most] w
      fun e w' => ∃ A c, e = .returned (.slice A ((tel S name).take most.toNat).length c) ∧ kVV.R 68 w' w.heap.size (fun _ => True) (.slice A ((tel S name).take most.toNat).length c) ((tel S name).take most.toNat) ∧ Below w.heap.size w w' := by
  obtain ⟨W, hW⟩ : ∃ W, (w.alloc (.cells #[.int .i64 most] 3)).alloc (.cells #[.slice none 0 0] 61) = W := ⟨_, rfl⟩
  have hb : Below w.heap.size w W := by rw [← hW]; exact ((Below.refl _ w).alloc (Nat.le_refl _) _).alloc (by simp) _
  have hm : W.cell? ⟨w.heap.size, 0, none⟩ = some (.int .i64 most) := by
    rw [← hW]; exact ((Boxed.new w 3 (.int .i64 most)).alloc _).cell
  have hl : W.heap[w.heap.size + 1]? = some (.cells #[.slice none 0 0] 61 (0, 0)) := by
    rw [← hW]; have := blk_new (w.alloc (.cells #[.int .i64 most] 3)) (.cells #[.slice none 0 0] 61); rw [World.size_alloc] at this; exact this
  have hsz : W.heap.size = w.heap.size + 2 := by rw [← hW]; simp
  have hxw := World.block_lt_of_cell? w _ hx
  have hnw := World.block_lt_of_cell? w _ hn
  simp only at hxw hnw
  have HV1 := Lib.hid (values1_u (fl := fun k => k = w.heap.size + 1) (B := w.heap.size) (lb := w.heap.size + 1) (mx := w.heap.size) (xb := xb) (nb := nb) (most := most) (name := name) (h.below hb) hS ((hb.cell (p := ⟨xb, 0, none⟩) hxw).trans hx) ((hb.cell (p := ⟨nb, 0, none⟩) hnw).trans hn)
    ⟨⟨_, hl, Kd.R_nil _ _ _ _ _⟩, by omega, rfl⟩ hb.size hm hmost (by omega) ⟨by omega, by omega⟩)
  have HB := Lib.hid hb
  have hmf : ∀ (fn : Fn) (first cap : Array Value) (w : World), (Instr.makeFunc fn first cap).run Try.prog w = .ok (.func fn first cap) w := fun _ _ _ _ => rfl
  have heq : ∀ (cp : Array Value) (W : World), Sem.run Try.prog (binOp .eql 64 (.func (.func 51) #[] cp) .nilFunc) W = .ok (.bool false) W := fun _ _ => rfl
  have d1 : decide (most < 1) = false := decide_eq_false (by omega)
  have hm2 : ((w.alloc (.cells #[.int .i64 most] 3)).alloc (.cells #[.slice none 0 0] 61)).cell? ⟨w.heap.size, 0, none⟩ = some (.int .i64 most) := by rw [hW]; exact hm
  have HW := Lib.hid hW
  clear h hx hn hb hm hl hsz hW hxw hnw
  go_enter Try.func32, Try.ntmps32
  go_wp2_with (go_at_call 51; go_must (rw [HW.out]; refine HV1.out.mono ?_; rintro e w5 ⟨rfl, hv5, hb5, hf5⟩; obtain ⟨v5, hc5, hr5⟩ := hv5.cells; have cc5 : w5.cell? ⟨w.heap.size + 1, 0, none⟩ = some v5 := blk_cell hc5 0; have HR5 := Lib.hid hr5; have HB5 := Lib.hid hb5; clear hv5 hb5 hf5 hc5 hr5))
  go_ret
  obtain ⟨A, c, rfl⟩ := Kd.R_slice HR5.out
  exact ⟨A, c, rfl, Kd.R_mono HR5.out (fun _ _ => trivial), HB.out.trans HB5.out⟩
end Go.Proofs.Ytlkhdbfhnpbbhaa
namespace Go.Proofs.Ytlkhdbfhnpbbhaa
set_option linter.unusedVariables false
set_option linter.unusedSimpArgs false
open Go.RowKit Go.Maps Go.Proofs.YtlkhdbfhnpbbhaaW.PrintWords Go.Proofs.YtlkhdbfhnpbbhaaW.PrintLast Go.Proofs.YtlkhdbfhnpbbhaaW.PrintMore Go.Proofs.Ytlkhdbfhnpbbhaa.Ix Go.Proofs.Ytlkhdbfhnpbbhaa.Tx Go.Proofs.Ytlkhdbfhnpbbhaa.Pure
/-- The place where a value is put in. -/
theorem rput_at {v : ByteArray} : ∀ (L : List VV) (k : Nat), k ≤ L.length → (∀ j, j < k → bl (L.getD j (emp, 0)).1 v) → (k < L.length → ¬ bl (L.getD k (emp, 0)).1 v) →
    rput L v = if k < L.length ∧ (L.getD k (emp, 0)).1 = v then L.set k ((L.getD k (emp, 0)).1, (L.getD k (emp, 0)).2 + 1) else L.take k ++ [(v, 1)] ++ L.drop k
  | [], k, hk, _, _ => by
    obtain rfl : k = 0 := by simpa using hk
    rfl
  | x :: t, 0, _, _, h2 => by
    have hx : ¬ bl x.1 v := h2 (by simp)
    unfold rput
    rw [if_neg hx]
    by_cases he : x.1 = v
    · rw [if_pos he, if_pos ⟨by simp, he⟩]; rfl
    · rw [if_neg he, if_neg (fun c => he c.2)]; rfl
  | x :: t, k + 1, hk, h1, h2 => by
    have hx : bl x.1 v := h1 0 (by omega)
    have ih := rput_at t k (by simpa using hk) (fun j hj => h1 (j + 1) (by omega)) (fun h => h2 (by simpa using h))
    unfold rput
    rw [if_pos hx, ih]
    by_cases he : k < t.length ∧ (t.getD k (emp, 0)).1 = v
    · rw [if_pos he, if_pos ⟨by simp; omega, he.2⟩]; rfl
    · rw [if_neg he, if_neg (fun c => he ⟨by have := c.1; simp at this; omega, c.2⟩)]; rfl
theorem vv_take (L : List VV) (A : Option Addr) (c j : Nat) (hj : j ≤ L.length) (hc : L.length ≤ c) (W : World) :
    (Instr.slice 61 (.slice A L.length c) none (some (.int .i64 (j : Int))) none).run Try.prog W = .ok (.slice A (L.take j).length c) W := by
  obtain ⟨i, hi, hz⟩ := Option.map_eq_some_iff.1 infoV
  simp only [Prod.mk.injEq] at hz
  have hl : (L.take j).length = j := by rw [List.length_take]; omega
  have hel : Try.prog.elem 61 = 68 := by simp [Program.elem, Try.underlying61]
  have hu : Try.prog.underlying 61 = some (.slice (Try.prog.elem 61)) := by rw [hel]; exact Try.underlying61
  have ha : (A.map fun x => x.add 0) = A := by cases A <;> simp [Addr.add]
  rw [run_slice_h W 61 A L.length c hu .i64 (j : Int) (by omega) (by omega), hel, hl]
  simp [sizeOf, typeInfo, hi, hz.2.1, sliced, Result.andThen, ha]
theorem vv_drop (L : List VV) (A : Option Addr) (c j : Nat) (hj : j ≤ L.length) (hc : L.length ≤ c) : ∃ A', (∀ W : World, (Instr.slice 61 (.slice A L.length c) (some (.int .i64 (j : Int))) none none).run Try.prog W = .ok (.slice A' (L.drop j).length (c - j)) W) ∧
    ∀ w, Kd.C kVV w A L.length L → Kd.C kVV w A' (L.drop j).length (L.drop j) := by
  obtain ⟨i, hi, hz⟩ := Option.map_eq_some_iff.1 infoV
  simp only [Prod.mk.injEq] at hz
  have hl : (L.drop j).length = L.length - j := List.length_drop
  refine ⟨if c = j then A else A.map (·.add (j * kVV.sz)), fun W => ?_, fun w h => Kd.C_drop h hj hc⟩
  have hel : Try.prog.elem 61 = 68 := by simp [Program.elem, Try.underlying61]
  have hu : Try.prog.underlying 61 = some (.slice (Try.prog.elem 61)) := by rw [hel]; exact Try.underlying61
  rw [run_slice_l W 61 A L.length c hu .i64 (j : Int) (by omega) (by omega), hel, hl]
  have hk : kVV.sz = 2 := rfl
  simp [sizeOf, typeInfo, hi, hz.2.1, sliced, Result.andThen, hk]
theorem vv_KM {w W : World} {base : Nat} {ok : Nat → Prop} : ∀ (x : VV) (cs : List Value), kVV.K w x cs → kVV.M W base ok x cs := fun x cs h => by
  obtain rfl := vv_open h; exact vv_M _ _
set_option maxRecDepth 100000 in
set_option maxHeartbeats 8000000 in
theorem rvals_u {fx : Nat → Prop} {w : World} {base gb : Nat} {S : List (List LB)} {name : ByteArray} (h : XR fx w base gb S) (hS : S.length ≤ 60) :
    Calls Try.prog 30 #[.pointer (some ⟨gb, 0, none⟩), .string name] w
      fun e w' => ∃ A c, e = .returned (.slice A (rvals S name).length c) ∧ kVV.R 68 w' w.heap.size (fun _ => True) (.slice A (rvals S name).length c) (rvals S name) ∧ Below w.heap.size w w' := by
  have HX := Lib.hid h
  obtain ⟨v, hv, hR⟩ := h.cells
  obtain ⟨A, c, rfl, hcc, hCS⟩ := Kd.R_reads hR
  have c0 := blk_cell hv 0
  have HC0 := Lib.hid (show w.cell? ⟨gb, 0, none⟩ = some (.slice A S.length c) from c0)
  have HCS := Lib.hid hCS
  clear h hv hR hCS
  go_enter Try.func30, Try.ntmps30
  go_wp2
  clear c0
  go_loopw [5, 6] (fun v5 v6 wr => ∃ i : Nat, i ≤ S.length ∧ v6 = .int .i64 (i : Int) ∧ kVV.R 68 wr w.heap.size (fun _ => True) v5 (rvals (S.take i) name) ∧ Below w.heap.size w wr) (fun _ v6 _ => S.length - (intOf v6).toNat)
  case atStart => exact ⟨0, Nat.zero_le _, rfl, Kd.R_nil _ _ _ _ _, Below.refl _ _⟩
  case round =>
    obtain ⟨i, hi, rfl, hr, hb⟩ := hrel
    have hc2 := (hb.cell (p := ⟨gb, 0, none⟩) HX.out.lt).trans HC0.out
    by_cases hlt : i < S.length
    · obtain ⟨ad, A', c', rfl, hcell, hle, hC'⟩ := set_at HCS.out i hlt
      have hcx := (hb.cell (World.block_lt_of_cell? w _ hcell)).trans hcell
      have hgood : chk (S.getD i []) = true := by
        have : S.getD i [] ∈ S := by rw [List.getD_eq_getElem?_getD, List.getElem?_eq_getElem hlt]; exact List.getElem_mem _
        exact HX.out.good _ this
      have hst : S.take (i + 1) = S.take i ++ [S.getD i []] := by rw [List.take_add_one, List.getElem?_eq_getElem hlt, List.getD_eq_getElem?_getD, List.getElem?_eq_getElem hlt]; rfl
      have hC2 := Kd.C_below hC' hb
      obtain ⟨x, hx⟩ : ∃ x, S.getD i [] = x := ⟨_, rfl⟩
      rw [hx] at hcx hle hC2 hgood hst
      have hx8 := (chk_fine hgood).2.1
      obtain ⟨T, hT⟩ : ∃ T, S.take i = T := ⟨_, rfl⟩
      have hTl : T.length ≤ 60 := by rw [← hT]; simp; omega
      rw [hT] at hst hr
      have HVL := Lib.hid (rvalue_eq x name (by omega) 9 (by omega))
      have hsn := rvals_snoc T x name
      have hinv := rvals_inv name T
      obtain ⟨v, hv⟩ : ∃ v, lbVal x name = v := ⟨_, rfl⟩
      rw [hv] at HVL hsn
      rw [← hst] at hsn
      have hlen : (rvals T name).length ≤ 60 := by rw [← tel_rvals]; have := tel_len T name; omega
      have hcl : ∀ y ∈ rvals T name, 0 ≤ y.2 ∧ y.2 ≤ 60 := by
        intro y hy
        have := (hinv.2 y.1 y.2).1 hy
        have h2 := cnt_le T name y.1
        omega
      obtain ⟨L, hL⟩ : ∃ L, rvals T name = L := ⟨_, rfl⟩
      rw [hL] at hr hsn hlen hcl
      obtain ⟨A5, c5, rfl⟩ := Kd.R_slice hr
      have HC2 := Lib.hid hC2
      have HLE := Lib.hid hle
      have HBW := Lib.hid hb
      have HR := Lib.hid hr
      have HSN := Lib.hid hsn
      have HCL := Lib.hid hcl
      clear hcell hC' hC2 hle hb hr hx hst hT hgood hsn hinv hcl hL hv
      by_cases hv0 : v = emp
      · have HV0 := Lib.hid hv0
        have hb0 : v.toList = [] := (emp_iff v).2 hv0
        have hb1 : v.toList.isEmpty = true := by rw [hb0]; rfl
        clear hv0
        go_wp2_with (go_at_call 43; go_must (refine (varveref11_Value.calls 9 A' c' x name v _ HC2.out HLE.out HVL.out).mono ?_; rintro e w1 ⟨rfl, hd⟩; have HB1 := Lib.hid (HBW.out.trans (hd.below.mono HBW.out.size)); have HR1 := Lib.hid (Kd.R_below HR.out hd.below); clear hd))
        go_roundw
        case rel => exact ⟨i + 1, hlt, by simp, by rw [HSN.out, rstep, if_pos HV0.out]; exact HR1.out, HB1.out⟩
        case measure => simp [intOf]; omega
      · have HV0 := Lib.hid hv0
        have hb0 : ¬ v.toList = [] := fun c => hv0 ((emp_iff v).1 c)
        have hb1 : v.toList.isEmpty = false := by
          cases h : v.toList with
          | nil => exact absurd h hb0
          | cons _ _ => rfl
        clear hv0
        go_wp2_with (go_at_call 43; go_must (refine (varveref11_Value.calls 9 A' c' x name v _ HC2.out HLE.out HVL.out).mono ?_; rintro e w1 ⟨rfl, hd⟩; have HB1 := Lib.hid (HBW.out.trans (hd.below.mono HBW.out.size)); have HR1 := Lib.hid (Kd.R_below HR.out hd.below); clear hd))
        have HLC := Lib.hid (Kd.R_reads' HR1.out).2.1
        clear hc2 hcx
        obtain ⟨wo, rfl⟩ : ∃ wo : World, wo = wr := ⟨_, rfl⟩
        go_loopw [8] (fun v8 wk => ∃ k : Nat, k ≤ L.length ∧ v8 = .int .i64 (k : Int) ∧ Hid (∀ j, j < k → bl (L.getD j (emp, 0)).1 v) ∧ w1 = wk) (fun v8 _ => L.length - (intOf v8).toNat)
        case atStart => exact ⟨0, Nat.zero_le _, rfl, Lib.hid (fun j h => absurd h (Nat.not_lt_zero _)), rfl⟩
        case round =>
          obtain ⟨k, hk, rfl, HAB, rfl⟩ := hrel
          by_cases hkl : k < L.length
          · have e1 : decide ((k : Int) < (L.length : Int)) = true := decide_eq_true (by omega)
            have e2 : decide (k < L.length) = true := decide_eq_true hkl
            obtain ⟨g, cap, hg, -⟩ := Kd.R_form HR1.out (by omega)
            injection hg with hA hn hcp
            clear hn
            subst hA hcp
            obtain ⟨a5, ha5, hs0, hn0⟩ := at_VV (Kd.R_reads' HR1.out).2.2 k hkl
            obtain rfl : (⟨g, 0, none⟩ : Addr) = a5 := by injection ha5
            clear ha5
            obtain ⟨y, hy⟩ : ∃ y, L.getD k (emp, 0) = y := ⟨_, rfl⟩
            rw [hy, add_row] at hs0
            rw [hy, add_row] at hn0
            have hn1 : w1.cell? ⟨g, k * 2 + 1, none⟩ = some (.int .i64 y.2) := hn0
            clear hn0
            have hlb := less_bl y.1 v
            by_cases hbl : bl y.1 v
            · rw [decide_eq_true hbl] at hlb
              have HN := Lib.hid (show ∀ j, j < k + 1 → bl (L.getD j (emp, 0)).1 v from fun j hj => by
                by_cases h : j = k
                · rw [h, hy]; exact hbl
                · exact HAB.out j (by omega))
              clear hy hbl
              go_wp2
              go_roundw
              case rel => exact ⟨k + 1, hkl, by simp, HN, by first | rfl | trivial⟩
              case measure => simp [intOf]; omega
            · rw [decide_eq_false hbl] at hlb
              have HNB := Lib.hid hbl
              have HY := Lib.hid hy
              clear hbl hy
              by_cases he : y.1 = v
              · have he1 : (y.1.toList == v.toList) = true := by rw [he]; simp
                have HE := Lib.hid he
                have hy2 := HCL.out y (by rw [← HY.out, List.getD_eq_getElem?_getD, List.getElem?_eq_getElem hkl]; exact List.getElem_mem _)
                have HPUT := Lib.hid (rput_at (v := v) L k (by omega) HAB.out (fun _ => by rw [HY.out]; exact HNB.out))
                rw [HY.out, if_pos ⟨hkl, HE.out⟩] at HPUT
                obtain ⟨ad2, cs, had, hcl, hKK, hcc⟩ := Kd.C_get (Kd.R_reads' HR1.out).2.2 (emp, 0) (k : Int) (by omega) (by omega)
                injection had with had
                subst had
                rw [Int.toNat_natCast, HY.out] at hKK
                obtain rfl := vv_open hKK
                have HCC := Lib.hid hcc
                have HCN := Lib.hid hcl
                clear he hcc hcl hKK
                go_wp2_with ((with_reducible refine gate_ (.store 3 (.tmp 65) (.tmp 63)) rfl ?_); go_must (refine Kd.R_store kVV (w0 := w1) w.heap.size rfl rfl 3 (.tmp 65) (.tmp 63) rfl 68 (g := g) (n := L.length) (cap := c5) (o' := k * 2 + 1) (k : Int) 1 L (y.1, y.2 + 1) (.int .i64 (y.2 + 1)) [.int .i64 (y.2 + 1)] [.string y.1, .int .i64 y.2] (fun _ => True) (fun _ => False) ?ha ?ho ?hx rfl ?ht ?h1 HR1.out (by omega) (by omega) HCN.out ?hcc (Nat.le_refl _) ?hM (fun _ h => h.elim) (Below.refl _ _) ?_; (case ha => first | (go_simp; done) | (go_simp; rfl) | (go_simp; simp [Addr.add])); (case ho => exact (by rw [Int.toNat_natCast]; rfl)); (case hx => first | (go_simp; done) | (go_simp; rfl)); (case ht => kernel_rfl); (case h1 => simp [Value.oneCell']); (case hcc => intro j u hu; have := HCC.out j u hu; rw [add_row] at this; exact this); (case hM => exact vv_M _ _); intro w7 hr7 hb7 hg7; have HR7 := Lib.hid hr7; have HB7 := Lib.hid (HB1.out.trans hb7); clear hr7 hb7 hg7))
                go_roundw
                case rel => exact ⟨i + 1, hlt, by simp, by rw [HSN.out, rstep, if_neg HV0.out, HPUT.out]; simpa using HR7.out, HB7.out⟩
                case measure => simp [intOf]; omega
              · have he1 : (y.1.toList == v.toList) = false := beq_false_of_ne (fun c => he (bytes_ext c))
                have HE := Lib.hid he
                clear he
                have HPUT := Lib.hid (rput_at (v := v) L k (by omega) HAB.out (fun _ => by rw [HY.out]; exact HNB.out))
                rw [if_neg (fun c => HE.out (by rw [← HY.out]; exact c.2))] at HPUT
                have htk := vv_take L (some ⟨g, 0, none⟩) c5 k (by omega) HLC.out
                obtain ⟨A8, hdr, hdc⟩ := vv_drop L (some ⟨g, 0, none⟩) c5 k (by omega) HLC.out
                have hc1 := Kd.C_take (m := k) (Kd.R_reads' HR1.out).2.2 (by omega)
                have hc2_ := hdc _ (Kd.R_reads' HR1.out).2.2
                have hl1 : (L.take k).length ≤ 60 := by rw [List.length_take]; omega
                have hl2 : (L.drop k).length ≤ 60 := by rw [List.length_drop]; omega
                obtain ⟨L1, hL1⟩ : ∃ L1, L.take k = L1 := ⟨_, rfl⟩
                obtain ⟨L2, hL2⟩ : ∃ L2, L.drop k = L2 := ⟨_, rfl⟩
                rw [hL1] at HPUT htk hc1 hl1
                rw [hL2] at HPUT hdr hc2_ hl2
                obtain ⟨M, hM⟩ : ∃ M, L1 ++ [(v, 1)] = M := ⟨_, rfl⟩
                have hl3 : M.length ≤ 61 := by rw [← hM, List.length_append, List.length_singleton]; omega
                rw [hM] at HPUT
                have HM := Lib.hid hM
                have HC1 := Lib.hid hc1
                have HC2_ := Lib.hid hc2_
                clear hdc hc1 hc2_ hL1 hL2 hM
                go_wp2_with (first
                  | ((with_reducible refine gate_dst (N := 70) rfl ?_); go_must (refine Kd.R_append_rows kVV (w0 := w1) w1.heap.size rfl (.tmp 66) (.tmp 69) 61 68 (.agg #[.string ⟨#[]⟩, .int .i64 0]) 24 rfl Try.underlying61 infoV rfl Nat.zero_lt_two (by decide) (.slice none 0 0) ([] : List VV) L1 _ _ _ (fun _ => True) (fun _ => False) rfl rfl (Kd.R_nil _ _ _ _ _) HC1.out vv_KM (fun _ h => h.elim) (fun _ _ => trivial) (Below.refl _ _) (Nat.le_refl _) (by simp only [List.length_nil]; omega) ?_; intro v2 w2 hr2 hb2 _ _; rw [List.nil_append] at hr2; obtain ⟨A6, c6, rfl⟩ := Kd.R_slice hr2; have HR2 := Lib.hid hr2; have HB2 := Lib.hid hb2; clear hr2 hb2))
                  | ((with_reducible refine gate_dst (N := 75) rfl ?_); go_must (refine Kd.R_append kVV (w0 := w1) w1.heap.size rfl (.tmp 71) (.tmp 74) 61 68 (.agg #[.string ⟨#[]⟩, .int .i64 0]) 24 rfl Try.underlying61 infoV rfl Nat.zero_lt_two (by decide) (.slice A6 L1.length c6) L1 (v, 1) [.string v, .int .i64 1] (fun _ => True) (fun _ => False) rfl rfl (vv_M v 1) (fun _ h => h.elim) (fun _ _ => trivial) HR2.out HB2.out HB2.out.size (by omega) ?_; intro v3 w3 hr3 hb3 _ _; rw [HM.out] at hr3; obtain ⟨A7, c7, rfl⟩ := Kd.R_slice hr3; have HR3 := Lib.hid hr3; have HB3 := Lib.hid hb3; clear hr3 hb3))
                  | ((with_reducible refine gate_dst (N := 80) rfl ?_); go_must (refine Kd.R_append_rows kVV (w0 := w1) w1.heap.size rfl (.tmp 76) (.tmp 79) 61 68 (.agg #[.string ⟨#[]⟩, .int .i64 0]) 24 rfl Try.underlying61 infoV rfl Nat.zero_lt_two (by decide) (.slice A7 M.length c7) M L2 _ _ _ (fun _ => True) (fun _ => False) rfl rfl HR3.out (Kd.C_below HC2_.out HB3.out) vv_KM (fun _ h => h.elim) (fun _ _ => trivial) HB3.out HB3.out.size (by omega) ?_; intro v4 w4 hr4 hb4 _ _; have HR4 := Lib.hid hr4; have HB4 := Lib.hid hb4; clear hr4 hb4)))
                go_roundw
                case rel => exact ⟨i + 1, hlt, by simp, by rw [HSN.out, rstep, if_neg HV0.out, HPUT.out]; exact Kd.R_lower HR4.out HB1.out.size, HB1.out.trans (HB4.out.mono HB1.out.size)⟩
                case measure => simp [intOf]; omega

          · have e1 : decide ((k : Int) < (L.length : Int)) = false := decide_eq_false (by omega)
            have e2 : decide (k < L.length) = false := decide_eq_false hkl
            have HPUT := Lib.hid (rput_at (v := v) L k (by omega) HAB.out (fun h => absurd h hkl))
            rw [if_neg (fun c => hkl c.1)] at HPUT
            have htk := vv_take L A5 c5 k (by omega) HLC.out
            obtain ⟨A8, hdr, hdc⟩ := vv_drop L A5 c5 k (by omega) HLC.out
            have hc1 := Kd.C_take (m := k) (Kd.R_reads' HR1.out).2.2 (by omega)
            have hc2_ := hdc _ (Kd.R_reads' HR1.out).2.2
            have hl1 : (L.take k).length ≤ 60 := by rw [List.length_take]; omega
            have hl2 : (L.drop k).length ≤ 60 := by rw [List.length_drop]; omega
            obtain ⟨L1, hL1⟩ : ∃ L1, L.take k = L1 := ⟨_, rfl⟩
            obtain ⟨L2, hL2⟩ : ∃ L2, L.drop k = L2 := ⟨_, rfl⟩
            rw [hL1] at HPUT htk hc1 hl1
            rw [hL2] at HPUT hdr hc2_ hl2
            obtain ⟨M, hM⟩ : ∃ M, L1 ++ [(v, 1)] = M := ⟨_, rfl⟩
            have hl3 : M.length ≤ 61 := by rw [← hM, List.length_append, List.length_singleton]; omega
            rw [hM] at HPUT
            have HM := Lib.hid hM
            have HC1 := Lib.hid hc1
            have HC2_ := Lib.hid hc2_
            clear hdc hc1 hc2_ hL1 hL2 hM
            go_wp2_with (first
              | ((with_reducible refine gate_dst (N := 70) rfl ?_); go_must (refine Kd.R_append_rows kVV (w0 := w1) w1.heap.size rfl (.tmp 66) (.tmp 69) 61 68 (.agg #[.string ⟨#[]⟩, .int .i64 0]) 24 rfl Try.underlying61 infoV rfl Nat.zero_lt_two (by decide) (.slice none 0 0) ([] : List VV) L1 _ _ _ (fun _ => True) (fun _ => False) rfl rfl (Kd.R_nil _ _ _ _ _) HC1.out vv_KM (fun _ h => h.elim) (fun _ _ => trivial) (Below.refl _ _) (Nat.le_refl _) (by simp only [List.length_nil]; omega) ?_; intro v2 w2 hr2 hb2 _ _; rw [List.nil_append] at hr2; obtain ⟨A6, c6, rfl⟩ := Kd.R_slice hr2; have HR2 := Lib.hid hr2; have HB2 := Lib.hid hb2; clear hr2 hb2))
              | ((with_reducible refine gate_dst (N := 75) rfl ?_); go_must (refine Kd.R_append kVV (w0 := w1) w1.heap.size rfl (.tmp 71) (.tmp 74) 61 68 (.agg #[.string ⟨#[]⟩, .int .i64 0]) 24 rfl Try.underlying61 infoV rfl Nat.zero_lt_two (by decide) (.slice A6 L1.length c6) L1 (v, 1) [.string v, .int .i64 1] (fun _ => True) (fun _ => False) rfl rfl (vv_M v 1) (fun _ h => h.elim) (fun _ _ => trivial) HR2.out HB2.out HB2.out.size (by omega) ?_; intro v3 w3 hr3 hb3 _ _; rw [HM.out] at hr3; obtain ⟨A7, c7, rfl⟩ := Kd.R_slice hr3; have HR3 := Lib.hid hr3; have HB3 := Lib.hid hb3; clear hr3 hb3))
              | ((with_reducible refine gate_dst (N := 80) rfl ?_); go_must (refine Kd.R_append_rows kVV (w0 := w1) w1.heap.size rfl (.tmp 76) (.tmp 79) 61 68 (.agg #[.string ⟨#[]⟩, .int .i64 0]) 24 rfl Try.underlying61 infoV rfl Nat.zero_lt_two (by decide) (.slice A7 M.length c7) M L2 _ _ _ (fun _ => True) (fun _ => False) rfl rfl HR3.out (Kd.C_below HC2_.out HB3.out) vv_KM (fun _ h => h.elim) (fun _ _ => trivial) HB3.out HB3.out.size (by omega) ?_; intro v4 w4 hr4 hb4 _ _; have HR4 := Lib.hid hr4; have HB4 := Lib.hid hb4; clear hr4 hb4)))
            go_roundw
            case rel => exact ⟨i + 1, hlt, by simp, by rw [HSN.out, rstep, if_neg HV0.out, HPUT.out]; exact Kd.R_lower HR4.out HB1.out.size, HB1.out.trans (HB4.out.mono HB1.out.size)⟩
            case measure => simp [intOf]; omega

    · obtain rfl : i = S.length := by omega
      rw [List.take_length] at hr
      obtain ⟨A5, c5, rfl⟩ := Kd.R_slice hr
      have HR := Lib.hid hr
      have HB := Lib.hid hb
      clear hr hb
      go_wp2
      go_ret
      exact ⟨A5, c5, rfl, HR.out, HB.out⟩
end Go.Proofs.Ytlkhdbfhnpbbhaa
namespace Go.Proofs.Ytlkhdbfhnpbbhaa
set_option linter.unusedVariables false
set_option linter.unusedSimpArgs false
open Go.RowKit Go.Proofs.YtlkhdbfhnpbbhaaW.PrintWords Go.Proofs.Ytlkhdbfhnpbbhaa.Ix Go.Proofs.Ytlkhdbfhnpbbhaa.Tx Go.Proofs.Ytlkhdbfhnpbbhaa.Pure
open Classical in
/-- how often a set has been met, where those of the values V have been, and the first k of P -/
noncomputable def sv (S : List (List LB)) (name : ByteArray) (V : List ByteArray) (P : List Int) (k t : Nat) : Int :=
  (if lbVal (S.getD t []) name ∈ V then (1 : Int) else 0) + (if ((t : Nat) : Int) ∈ P.take k then 1 else 0)
noncomputable def seenK (S : List (List LB)) (name : ByteArray) (V : List ByteArray) (P : List Int) (k : Nat) : List Int := (List.range S.length).map (sv S name V P k)
theorem seenK_len (S : List (List LB)) (name : ByteArray) (V : List ByteArray) (P : List Int) (k : Nat) : (seenK S name V P k).length = S.length := by unfold seenK; simp
theorem seenK_get (S : List (List LB)) (name : ByteArray) (V : List ByteArray) (P : List Int) (k i : Nat) (h : i < (seenK S name V P k).length) : (seenK S name V P k)[i] = sv S name V P k i := by
  have h2 : (seenK S name V P k)[i]? = some (sv S name V P k i) := by
    have hi : i < S.length := by rw [seenK_len] at h; exact h
    show ((List.range S.length).map (sv S name V P k))[i]? = _
    rw [List.getElem?_map, List.getElem?_range hi]; rfl
  rw [List.getElem?_eq_getElem h] at h2
  exact Option.some.inj h2
theorem seenK_ext {S : List (List LB)} {name : ByteArray} {V V' : List ByteArray} {P P' : List Int} {k k' : Nat} (h : ∀ i, i < S.length → sv S name V P k i = sv S name V' P' k' i) : seenK S name V P k = seenK S name V' P' k' := by
  apply List.ext_getElem
  · rw [seenK_len, seenK_len]
  · intro i h1 h2
    rw [seenK_get, seenK_get]
    exact h i (by rw [seenK_len] at h1; exact h1)
theorem rd_nat {xs : List Int} {i : Nat} (h : i < xs.length) : rd xs (i : Int) = xs[i] := by simp [rd, h]
theorem hasVal_iff (name v : ByteArray) (l : List LB) : hasVal name v l = true ↔ lbVal l name = v := by
  unfold hasVal
  rw [beq_iff_eq]
  exact ⟨fun h => bytes_ext h, fun h => by rw [h]⟩
theorem mem_sel (q : List LB → Bool) (S : List (List LB)) (t : Nat) : ((t : Nat) : Int) ∈ sel q S S.length ↔ t < S.length ∧ q (S.getD t []) = true := by
  unfold sel
  rw [List.mem_map]
  constructor
  · rintro ⟨j, hj, e⟩
    obtain rfl : j = t := by omega
    obtain ⟨h1, h2⟩ := List.mem_filter.1 hj
    exact ⟨List.mem_range.1 h1, h2⟩
  · rintro ⟨h1, h2⟩
    exact ⟨t, List.mem_filter.2 ⟨List.mem_range.2 h1, h2⟩, rfl⟩
theorem sel_nodup (q : List LB → Bool) (S : List (List LB)) (n : Nat) : (sel q S n).Nodup := by
  unfold sel
  rw [List.Nodup, List.pairwise_map]
  exact (List.pairwise_lt_range.filter _).imp (fun h e => by omega)
theorem sel_at (q : List LB → Bool) (S : List (List LB)) (k : Nat) (hk : k < (sel q S S.length).length) : ∃ t : Nat, t < S.length ∧ rd (sel q S S.length) (k : Int) = (t : Int) := by
  have hm : rd (sel q S S.length) (k : Int) ∈ sel q S S.length := by rw [rd_nat hk]; exact List.getElem_mem _
  have h2 := hm
  unfold sel at h2
  obtain ⟨t, ht, e⟩ := List.mem_map.1 h2
  exact ⟨t, List.mem_range.1 (List.mem_filter.1 ht).1, e.symm⟩
theorem sel_cnt (S : List (List LB)) (name v : ByteArray) : (sel (hasVal name v) S S.length).length = cnt S name v := by
  unfold sel cnt
  rw [List.length_map]
  have hS : S = (List.range S.length).map (fun j => S.getD j []) := by
    apply List.ext_getElem
    · simp
    · intro i h1 h2
      simp [List.getD_eq_getElem?_getD, h1]
  conv => rhs; rw [hS]
  rw [List.filter_map, List.length_map]
  congr 1
  apply List.filter_congr
  intro j _
  rw [Bool.eq_iff_iff, hasVal_iff]
  simp
theorem seenK_at (S : List (List LB)) (name : ByteArray) (V : List ByteArray) (P : List Int) (k t : Nat) (ht : t < S.length) : 0 ≤ rd (seenK S name V P k) (t : Int) ∧ rd (seenK S name V P k) (t : Int) ≤ 2 := by
  rw [rd_nat (by rw [seenK_len]; exact ht), seenK_get]
  unfold sv
  split <;> split <;> omega
theorem seenK_step (S : List (List LB)) (name : ByteArray) (V : List ByteArray) (P : List Int) (hnd : P.Nodup) (k t : Nat) (hk : k < P.length) (ht : t < S.length) (he : rd P (k : Int) = (t : Int)) :
    (seenK S name V P k).set t (rd (seenK S name V P k) (t : Int) + 1) = seenK S name V P (k + 1) := by
  rw [rd_nat hk] at he
  rw [rd_nat (by rw [seenK_len]; exact ht), seenK_get]
  have htk : P.take (k + 1) = P.take k ++ [((t : Nat) : Int)] := by rw [List.take_add_one, List.getElem?_eq_getElem hk, he]; rfl
  have hno : ((t : Nat) : Int) ∉ P.take k := by
    have h1 : (P.take (k + 1)).Nodup := hnd.sublist (List.take_sublist _ _)
    rw [htk, List.nodup_append] at h1
    intro c
    exact h1.2.2 _ c _ (List.mem_singleton.2 rfl) rfl
  apply List.ext_getElem
  · rw [List.length_set, seenK_len, seenK_len]
  · intro i h1 h2
    rw [List.getElem_set, seenK_get, seenK_get]
    unfold sv
    rw [htk]
    by_cases hi : t = i
    · subst hi
      rw [if_pos rfl, if_neg hno, if_pos (show ((t : Nat) : Int) ∈ P.take k ++ [((t : Nat) : Int)] by simp)]
      omega
    · rw [if_neg hi]
      by_cases hm : ((i : Nat) : Int) ∈ P.take k
      · rw [if_pos hm, if_pos (List.mem_append.2 (Or.inl hm))]
      · rw [if_neg hm, if_neg (fun c => (List.mem_append.1 c).elim hm (fun e => by have := List.mem_singleton.1 e; omega))]
theorem seenK_zero (S : List (List LB)) (name : ByteArray) (V : List ByteArray) (P Q : List Int) : seenK S name V P 0 = seenK S name V Q 0 := seenK_ext (fun i _ => by unfold sv; rw [List.take_zero, List.take_zero])
theorem seenK_nil (S : List (List LB)) (name : ByteArray) (P : List Int) : seenK S name [] P 0 = List.replicate S.length 0 := by
  apply List.ext_getElem
  · rw [seenK_len, List.length_replicate]
  · intro i h1 h2
    rw [seenK_get, List.getElem_replicate]
    unfold sv
    rw [if_neg (by simp), if_neg (by simp)]; rfl
theorem seenK_end (S : List (List LB)) (name v : ByteArray) (V : List ByteArray) (hv : v ∉ V) (Q : List Int) : seenK S name V (sel (hasVal name v) S S.length) (sel (hasVal name v) S S.length).length = seenK S name (V ++ [v]) Q 0 := by
  refine seenK_ext (fun i hi => ?_)
  unfold sv
  rw [List.take_length, List.take_zero, if_neg (show ((i : Nat) : Int) ∉ ([] : List Int) by simp)]
  have hm := mem_sel (hasVal name v) S i
  rw [hasVal_iff] at hm
  by_cases c1 : lbVal (S.getD i []) name = v
  · rw [if_pos (hm.2 ⟨hi, c1⟩), if_neg (by rw [c1]; exact hv), if_pos (by rw [c1]; simp)]; rfl
  · rw [if_neg (fun c => c1 (hm.1 c).2)]
    by_cases c2 : lbVal (S.getD i []) name ∈ V
    · rw [if_pos c2, if_pos (List.mem_append.2 (Or.inl c2))]
    · rw [if_neg c2, if_neg (fun c => (List.mem_append.1 c).elim c2 (fun e => c1 (List.mem_singleton.1 e)))]
theorem seenK_all (S : List (List LB)) (name : ByteArray) (Q : List Int) : seenK S name (evs S name ++ [emp]) Q 0 = List.replicate S.length 1 := by
  apply List.ext_getElem
  · rw [seenK_len, List.length_replicate]
  · intro i h1 h2
    have hi : i < S.length := by rw [seenK_len] at h1; exact h1
    rw [seenK_get, List.getElem_replicate]
    unfold sv
    rw [List.take_zero, if_neg (show ((i : Nat) : Int) ∉ ([] : List Int) by simp), if_pos]
    · rfl
    rw [List.mem_append, List.mem_singleton]
    by_cases he : lbVal (S.getD i []) name = emp
    · exact Or.inr he
    · left
      rw [mem_evs, mem_dvs]
      refine ⟨he, ?_⟩
      unfold cnt
      intro c
      have hx : S.getD i [] ∈ S.filter (fun s => decide (lbVal s name = lbVal (S.getD i []) name)) := by
        rw [List.mem_filter]
        exact ⟨by rw [List.getD_eq_getElem?_getD, List.getElem?_eq_getElem hi]; exact List.getElem_mem _, by simp⟩
      rw [List.eq_nil_of_length_eq_zero c] at hx
      simp at hx
/-- the values, and none -/
noncomputable def vsn (S : List (List LB)) (name : ByteArray) : List ByteArray := evs S name ++ [emp]
theorem vsn_take (S : List (List LB)) (name : ByteArray) (i : Nat) (hi : i < (vsn S name).length) : (vsn S name).take (i + 1) = (vsn S name).take i ++ [(vsn S name).getD i emp] ∧ (vsn S name).getD i emp ∉ (vsn S name).take i := by
  have h1 : (vsn S name).take (i + 1) = (vsn S name).take i ++ [(vsn S name).getD i emp] := by
    rw [List.take_add_one, List.getElem?_eq_getElem hi, List.getD_eq_getElem?_getD, List.getElem?_eq_getElem hi]; rfl
  refine ⟨h1, fun c => ?_⟩
  have hnd : (vsn S name).Nodup := by
    unfold vsn
    rw [List.nodup_append]
    refine ⟨(evs_sorted S name).imp (fun h e => by subst e; exact bl_irr _ h), by simp, fun a ha b hb e => ?_⟩
    rw [List.mem_singleton] at hb
    rw [e, hb] at ha
    exact ((mem_dvs name emp S).1 ((mem_evs S name emp).1 ha)).1 rfl
  have h2 : ((vsn S name).take (i + 1)).Nodup := hnd.sublist (List.take_sublist _ _)
  rw [h1, List.nodup_append] at h2
  exact h2.2.2 _ c _ (List.mem_singleton.2 rfl) rfl
end Go.Proofs.Ytlkhdbfhnpbbhaa
namespace Go.Proofs.Ytlkhdbfhnpbbhaa
set_option linter.unusedVariables false
set_option linter.unusedSimpArgs false
open Go.RowKit Go.Maps Go.Proofs.YtlkhdbfhnpbbhaaW.PrintWords Go.Proofs.YtlkhdbfhnpbbhaaW.PrintLast Go.Proofs.YtlkhdbfhnpbbhaaW.PrintMore Go.Proofs.Ytlkhdbfhnpbbhaa.Ix Go.Proofs.Ytlkhdbfhnpbbhaa.Tx Go.Proofs.Ytlkhdbfhnpbbhaa.Pure
/-- A round of stores into a row of one's own that is none of the indexes'. -/
theorem Two.stored {own ok : Nat → Prop} {w0 w w' : World} {kb mb gb : Nat} {S T : List (List LB)} (h : Two own w0 w kb mb gb S T) {B g : Nat} (hB : w0.heap.size ≤ B) (hb : Below B w w') (hg : w.grownBy w' (some g)) (hok : ok g) (ho : ∀ k, own k → ¬ ok k) : Two own w0 w' kb mb gb S T :=
  h.far ((Far.of_below (f := ok) (Below.refl _ _)).grown hg (fun k e => by cases e; exact hok)) ho (hb.mono hB)
theorem seg_one {cs : List Value} (h : cs.length = (Kd.int .i64).sz) {a : Value} : cs.take 0 ++ [a] ++ cs.drop (0 + [a].length) = [a] := by
  have h2 : cs.length = 1 := h
  rw [List.drop_eq_nil_of_le (by rw [h2]; simp)]
  rfl
end Go.Proofs.Ytlkhdbfhnpbbhaa
