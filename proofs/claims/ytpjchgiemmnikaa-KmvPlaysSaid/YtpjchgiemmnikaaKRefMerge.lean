/- varveref08.Merge of two lists that may be: the least 1024 of both. Plain Lean over the printed function. -/
import Derived.Test.YtpjchgiemmnikaaKLaws
namespace Go.Proofs.Ytpjchgiemmnikaa.Pure
set_option linter.unusedVariables false
set_option linter.unusedSimpArgs false
open Go.RowKit Go.Maps Go.Proofs.YtpjchgiemmnikaaW.PrintWords Go.Proofs.YtpjchgiemmnikaaW.PrintLast Go.Proofs.YtpjchgiemmnikaaW.PrintMore Go.Proofs.Ytpjchgiemmnikaa.Q

/-- Both, in order, each once. -/
def mg : List Int → List Int → List Int
  | [], b => b
  | x :: a, [] => x :: a
  | x :: a, y :: b => if x < y then x :: mg a (y :: b) else if y < x then y :: mg (x :: a) b else x :: mg a b
termination_by a b => a.length + b.length
theorem mg_nil (a : List Int) : mg a [] = a := by cases a <;> simp [mg]
theorem mem_mg : ∀ (n : Nat) (a b : List Int), a.length + b.length = n → ∀ x, x ∈ mg a b ↔ x ∈ a ∨ x ∈ b := by
  intro n
  induction n using Nat.strongRecOn with
  | _ n ih =>
    intro a b hn x
    cases a with
    | nil => simp [mg]
    | cons u a =>
      cases b with
      | nil => simp [mg]
      | cons v b =>
        simp only [List.length_cons] at hn
        rw [mg]
        split
        · rw [List.mem_cons, ih _ (by simp only [List.length_cons]; omega) a (v :: b) rfl, List.mem_cons (a := x) (b := u), or_assoc]
        · split
          · rw [List.mem_cons, ih _ (by simp only [List.length_cons]; omega) (u :: a) b rfl, List.mem_cons (a := x) (b := v)]
            exact ⟨fun h => h.elim (fun h => .inr (.inl h)) (fun h => h.elim .inl (fun h => .inr (.inr h))), fun h => h.elim (fun h => .inr (.inl h)) (fun h => h.elim .inl (fun h => .inr (.inr h)))⟩
          · have e : u = v := by omega
            rw [List.mem_cons, ih _ (by omega) a b rfl, List.mem_cons, List.mem_cons, ← e]
            exact ⟨fun h => h.elim (fun h => .inl (.inl h)) (fun h => h.elim (fun h => .inl (.inr h)) (fun h => .inr (.inr h))), fun h => h.elim (fun h => h.elim .inl (fun h => .inr (.inl h))) (fun h => h.elim .inl (fun h => .inr (.inr h)))⟩
theorem asc_mg : ∀ (n : Nat) (a b : List Int), a.length + b.length = n → Asc a → Asc b → Asc (mg a b) := by
  intro n
  induction n using Nat.strongRecOn with
  | _ n ih =>
    intro a b hn ha hb
    cases a with
    | nil => simpa [mg] using hb
    | cons u a =>
      cases b with
      | nil => simpa [mg] using ha
      | cons v b =>
        simp only [List.length_cons] at hn
        obtain ⟨a1, a2⟩ := List.pairwise_cons.mp ha
        obtain ⟨b1, b2⟩ := List.pairwise_cons.mp hb
        rw [mg]
        split
        · refine List.pairwise_cons.mpr ⟨fun z hz => ?_, ih _ (by simp only [List.length_cons]; omega) a (v :: b) rfl a2 hb⟩
          rcases (mem_mg _ _ _ rfl z).1 hz with h | h
          · exact a1 z h
          · rcases List.mem_cons.mp h with h | h
            · omega
            · have := b1 z h; omega
        · split
          · refine List.pairwise_cons.mpr ⟨fun z hz => ?_, ih _ (by simp only [List.length_cons]; omega) (u :: a) b rfl ha b2⟩
            rcases (mem_mg _ _ _ rfl z).1 hz with h | h
            · rcases List.mem_cons.mp h with h | h
              · omega
              · have := a1 z h; omega
            · exact b1 z h
          · refine List.pairwise_cons.mpr ⟨fun z hz => ?_, ih _ (by omega) a b rfl a2 b2⟩
            rcases (mem_mg _ _ _ rfl z).1 hz with h | h
            · exact a1 z h
            · have := b1 z h; omega
theorem mg_kall {a b : List Int} (ha : Asc a) (hb : Asc b) : mg a b = kall a b :=
  asc_ext (asc_mg _ a b rfl ha hb) (asc_kall ha) fun x => by rw [mem_mg _ a b rfl, mem_kall]
theorem take_full {acc r : List Int} (h : acc.length = 1024) : (acc ++ r).take 1024 = acc := by
  rw [List.take_append_of_le_length (by omega), List.take_of_length_le (by omega)]
/-- The round's steps, each by itself. -/
theorem rm_end (k : Nat) (a b acc : List Int) (i j : Int) : varveref08_Merge.j1 (k + 1) a b acc i j false = some acc := by rw [varveref08_Merge.j1, if_neg (by simp)]
theorem rm_l0 (k : Nat) (a b acc : List Int) (i j : Nat) (h : i < a.length ∨ j < b.length) : varveref08_Merge.l0 (k + 1) a b acc (i : Int) (j : Int) = varveref08_Merge.j1 k a b acc (i : Int) (j : Int) (decide ((acc.length : Int) < 1024)) := by
  rw [varveref08_Merge.l0]
  by_cases c : (i : Int) < (a.length : Int)
  · rw [if_pos c]
  · rw [if_neg c, if_pos (by omega)]
theorem rm_l0_end (k : Nat) (a b acc : List Int) (i j : Nat) (h1 : ¬ i < a.length) (h2 : ¬ j < b.length) : varveref08_Merge.l0 (k + 2) a b acc (i : Int) (j : Int) = some acc := by
  rw [varveref08_Merge.l0, if_neg (by omega), if_neg (by omega), rm_end]
theorem rm_a (k : Nat) (a b acc : List Int) (i j : Nat) (hi : i < a.length) (hj : ¬ j < b.length) (hl : a.length ≤ 1024) (hc : acc.length ≤ 1024) :
    varveref08_Merge.j1 (k + 2) a b acc (i : Int) (j : Int) true = varveref08_Merge.l0 k a b (acc ++ [a[i]]) ((i + 1 : Nat) : Int) (j : Int) := by
  have wi : wrap64 ((i : Int) + 1) = ((i + 1 : Nat) : Int) := by unfold wrap64; omega
  rw [varveref08_Merge.j1, if_pos rfl, if_pos (by omega), varveref08_Merge.j2, if_pos rfl, if_pos (by omega), if_pos (by omega), if_pos (by omega), rd_nat hi, wi]
theorem rm_b (k : Nat) (a b acc : List Int) (i j : Nat) (hi : ¬ i < a.length) (hj : j < b.length) (hl : b.length ≤ 1024) (hc : acc.length ≤ 1024) :
    varveref08_Merge.j1 (k + 2) a b acc (i : Int) (j : Int) true = varveref08_Merge.l0 k a b (acc ++ [b[j]]) (i : Int) ((j + 1 : Nat) : Int) := by
  have wj : wrap64 ((j : Int) + 1) = ((j + 1 : Nat) : Int) := by unfold wrap64; omega
  rw [varveref08_Merge.j1, if_pos rfl, if_neg (by omega), if_neg (by omega), varveref08_Merge.j2, if_neg (by simp), if_pos (by omega), if_pos (by omega), if_pos (by omega), if_pos (by omega), rd_nat hj, wj]
theorem rm_both (k : Nat) (a b acc : List Int) (i j : Nat) (hi : i < a.length) (hj : j < b.length) : varveref08_Merge.j1 (k + 1) a b acc (i : Int) (j : Int) true = varveref08_Merge.j2 k a b acc (i : Int) (j : Int) (decide (a[i] < b[j])) := by
  rw [varveref08_Merge.j1, if_pos rfl, if_neg (by omega), if_pos (by omega), if_pos (by omega), if_pos (by omega), if_pos (by omega), rd_nat hi, rd_nat hj]
theorem rm_lt (k : Nat) (a b acc : List Int) (i j : Nat) (hi : i < a.length) (hl : a.length ≤ 1024) (hc : acc.length ≤ 1024) :
    varveref08_Merge.j2 (k + 1) a b acc (i : Int) (j : Int) true = varveref08_Merge.l0 k a b (acc ++ [a[i]]) ((i + 1 : Nat) : Int) (j : Int) := by
  have wi : wrap64 ((i : Int) + 1) = ((i + 1 : Nat) : Int) := by unfold wrap64; omega
  rw [varveref08_Merge.j2, if_pos rfl, if_pos (by omega), if_pos (by omega), if_pos (by omega), rd_nat hi, wi]
theorem rm_gt (k : Nat) (a b acc : List Int) (i j : Nat) (hi : i < a.length) (hj : j < b.length) (hl : b.length ≤ 1024) (hc : acc.length ≤ 1024) (c : b[j] < a[i]) :
    varveref08_Merge.j2 (k + 1) a b acc (i : Int) (j : Int) false = varveref08_Merge.l0 k a b (acc ++ [b[j]]) (i : Int) ((j + 1 : Nat) : Int) := by
  have wj : wrap64 ((j : Int) + 1) = ((j + 1 : Nat) : Int) := by unfold wrap64; omega
  rw [varveref08_Merge.j2, if_neg (by simp), if_neg (by omega), if_pos (by omega), if_pos (by omega), if_pos (by omega), if_pos (by omega), rd_nat hi, rd_nat hj, if_pos c, if_pos (by omega), wj]
theorem rm_eq (k : Nat) (a b acc : List Int) (i j : Nat) (hi : i < a.length) (hj : j < b.length) (hl : a.length ≤ 1024) (hl2 : b.length ≤ 1024) (hc : acc.length ≤ 1024) (c : ¬ b[j] < a[i]) :
    varveref08_Merge.j2 (k + 1) a b acc (i : Int) (j : Int) false = varveref08_Merge.l0 k a b (acc ++ [a[i]]) ((i + 1 : Nat) : Int) ((j + 1 : Nat) : Int) := by
  have wi : wrap64 ((i : Int) + 1) = ((i + 1 : Nat) : Int) := by unfold wrap64; omega
  have wj : wrap64 ((j : Int) + 1) = ((j + 1 : Nat) : Int) := by unfold wrap64; omega
  rw [varveref08_Merge.j2, if_neg (by simp), if_neg (by omega), if_pos (by omega), if_pos (by omega), if_pos (by omega), if_pos (by omega), rd_nat hi, rd_nat hj, if_neg c, if_pos (by omega), wi, wj]
theorem refMerge_go (a b : List Int) (ha : a.length ≤ 1024) (hb : b.length ≤ 1024) : ∀ (d i j : Nat) (acc : List Int), (a.length - i) + (b.length - j) = d → i ≤ a.length → j ≤ b.length → acc.length ≤ 1024 →
    ∀ k, 3 * d + 2 ≤ k → varveref08_Merge.l0 k a b acc (i : Int) (j : Int) = some ((acc ++ mg (a.drop i) (b.drop j)).take 1024) := by
  intro d
  induction d using Nat.strongRecOn with
  | _ d ih =>
    intro i j acc hd hi hj hacc k hk
    have step : ∀ (i' j' : Nat) (x : Int) (k' : Nat), i ≤ i' → j ≤ j' → i' ≤ a.length → j' ≤ b.length → i + j < i' + j' → acc.length < 1024 → k ≤ k' + 3 → varveref08_Merge.l0 k' a b (acc ++ [x]) (i' : Int) (j' : Int) = some ((acc ++ (x :: mg (a.drop i') (b.drop j'))).take 1024) := by
      intro i' j' x k' h1 h2 h3 h4 h5 h6 h7
      rw [ih ((a.length - i') + (b.length - j')) (by omega) i' j' (acc ++ [x]) rfl h3 h4 (by rw [List.length_append, List.length_singleton]; omega) k' (by omega), List.append_assoc, List.singleton_append]
    by_cases hia : i < a.length
    · obtain ⟨k, rfl⟩ : ∃ m, k = m + 3 := ⟨k - 3, by omega⟩
      rw [rm_l0 _ _ _ _ _ _ (.inl hia)]
      by_cases hfull : acc.length = 1024
      · rw [decide_eq_false (by omega), rm_end, take_full hfull]
      rw [decide_eq_true (by omega), List.drop_eq_getElem_cons hia]
      by_cases hjb : j < b.length
      · rw [rm_both _ _ _ _ _ _ hia hjb, List.drop_eq_getElem_cons hjb, mg]
        by_cases c1 : a[i] < b[j]
        · rw [decide_eq_true c1, rm_lt _ _ _ _ _ _ hia ha hacc, step (i + 1) j _ _ (by omega) (by omega) (by omega) (by omega) (by omega) (by omega) (by omega), if_pos c1, List.drop_eq_getElem_cons hjb]
        · rw [decide_eq_false c1, if_neg c1]
          by_cases c2 : b[j] < a[i]
          · rw [rm_gt _ _ _ _ _ _ hia hjb hb hacc c2, step i (j + 1) _ _ (by omega) (by omega) (by omega) (by omega) (by omega) (by omega) (by omega), if_pos c2, List.drop_eq_getElem_cons hia]
          · rw [rm_eq _ _ _ _ _ _ hia hjb ha hb hacc c2, step (i + 1) (j + 1) _ _ (by omega) (by omega) (by omega) (by omega) (by omega) (by omega) (by omega), if_neg c2]
      · rw [rm_a _ _ _ _ _ _ hia hjb ha hacc, step (i + 1) j _ _ (by omega) (by omega) (by omega) (by omega) (by omega) (by omega) (by omega), show b.drop j = [] from List.drop_eq_nil_of_le (by omega), mg_nil, mg_nil]
    · have e : a.drop i = [] := List.drop_eq_nil_of_le (by omega)
      rw [e, mg]
      by_cases hjb : j < b.length
      · obtain ⟨k, rfl⟩ : ∃ m, k = m + 3 := ⟨k - 3, by omega⟩
        rw [rm_l0 _ _ _ _ _ _ (.inr hjb)]
        by_cases hfull : acc.length = 1024
        · rw [decide_eq_false (by omega), rm_end, take_full hfull]
        rw [decide_eq_true (by omega), rm_b _ _ _ _ _ _ hia hjb hb hacc, step i (j + 1) _ _ (by omega) (by omega) (by omega) (by omega) (by omega) (by omega) (by omega), e, mg, List.drop_eq_getElem_cons hjb]
      · obtain ⟨k, rfl⟩ : ∃ m, k = m + 2 := ⟨k - 2, by omega⟩
        rw [rm_l0_end _ _ _ _ _ _ hia hjb, List.drop_eq_nil_of_le (by omega), List.append_nil, List.take_of_length_le hacc]
theorem refMerge_all {a b : List Int} (ha : KGood a) (hb : KOk b) : varveref08_Merge.f (3 * (a.length + b.length) + 2) a b = some (kmany a b) := by
  unfold varveref08_Merge.f
  rw [show (0 : Int) = ((0 : Nat) : Int) from rfl, refMerge_go a b ha.2.1 hb.2 (a.length + b.length) 0 0 [] (by omega) (by omega) (by omega) (by simp) _ (Nat.le_refl _), List.drop_zero, List.drop_zero, List.nil_append, kmany_eq ha.1 ha.2.1, mg_kall ha.1 hb.1]
end Go.Proofs.Ytpjchgiemmnikaa.Pure
