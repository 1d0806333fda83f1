/- Several Kmv's at once: each call changes one of them. -/
import Derived.Test.YtpjchgiemmnikaaKChk
import Derived.Test.YtpjchgiemmnikaaKDist
namespace Go.Proofs.Ytpjchgiemmnikaa
set_option linter.unusedVariables false
set_option linter.unusedSimpArgs false
open Go.RowKit Go.Maps Go.Proofs.YtpjchgiemmnikaaW.PrintWords Go.Proofs.YtpjchgiemmnikaaW.PrintLast Go.Proofs.YtpjchgiemmnikaaW.PrintMore Go.Proofs.Ytpjchgiemmnikaa.Pure Go.Proofs.Ytpjchgiemmnikaa.Q

/-- The Kmv's that the call made, by their blocks: unlike ones, and nothing that was there before has changed. -/
def KS (w0 W : World) (m : List (Nat × Nat × List Int)) : Prop :=
  (∀ p ∈ m, KM W p.1 p.2.1 p.2.2 ∧ w0.heap.size ≤ p.1 ∧ w0.heap.size ≤ p.2.1) ∧
  (∀ (i j : Nat) (p q : Nat × Nat × List Int), i ≠ j → m[i]? = some p → m[j]? = some q → p.1 ≠ q.1 ∧ p.1 ≠ q.2.1 ∧ p.2.1 ≠ q.1 ∧ p.2.1 ≠ q.2.1) ∧ Below w0.heap.size w0 W
theorem KM.lt {w : World} {kb mb : Nat} {S : List Int} (h : KM w kb mb S) : kb < w.heap.size ∧ mb < w.heap.size := by
  obtain ⟨t, e, _⟩ := h.cells
  exact ⟨(Array.getElem?_eq_some_iff.1 e).1, h.map.lt⟩
theorem KM.below {w w' : World} {kb mb : Nat} {S : List Int} (h : KM w kb mb S) (hb : Below w.heap.size w w') : KM w' kb mb S :=
  h.block (hb.block kb h.lt.1) (hb.block mb h.lt.2)
theorem KM.kf {w w' : World} {kb mb k m : Nat} {S : List Int} (h : KM w kb mb S) (hf : KF w w' k m) (h1 : kb ≠ k) (h2 : kb ≠ m) (h3 : mb ≠ k) (h4 : mb ≠ m) : KM w' kb mb S :=
  h.block (hf.2.2.2.2 kb h.lt.1 h1 h2) (hf.2.2.2.2 mb h.lt.2 h3 h4)
theorem KS.nil (w : World) : KS w w [] := ⟨fun p hp => by simp at hp, fun i j p q _ h => by simp at h, Below.refl _ _⟩
theorem KS.bel {w0 W : World} {m : List (Nat × Nat × List Int)} (h : KS w0 W m) : Below w0.heap.size w0 W := h.2.2
theorem KS.at_ {w0 W : World} {m : List (Nat × Nat × List Int)} (h : KS w0 W m) (i : Nat) {k b : Nat} {s : List Int} (hi : m[i]? = some (k, b, s)) : KM W k b s ∧ w0.heap.size ≤ k ∧ w0.heap.size ≤ b :=
  h.1 _ (List.mem_of_getElem? hi)
theorem KS.below {w0 W W' : World} {m : List (Nat × Nat × List Int)} (h : KS w0 W m) (hb : Below W.heap.size W W') : KS w0 W' m :=
  ⟨fun p hp => ⟨(h.1 p hp).1.below hb, (h.1 p hp).2⟩, h.2.1, h.2.2.trans (hb.mono h.2.2.size)⟩
theorem KS.drawn {w0 W W' : World} {m : List (Nat × Nat × List Int)} (h : KS w0 W m) (hb : Drawn0 W W') : KS w0 W' m := h.below hb.below
theorem KS.more {w0 W W' : World} {m : List (Nat × Nat × List Int)} (h : KS w0 W m) {k b : Nat} {s : List Int} (hb : Below W.heap.size W W') (hg : KM W' k b s) (hk : W.heap.size ≤ k) (hm : W.heap.size ≤ b) : KS w0 W' (m ++ [(k, b, s)]) := by
  have hB := h.below hb
  refine ⟨fun p hp => ?_, fun i j p q hij hp hq => ?_, hB.2.2⟩
  · rcases List.mem_append.1 hp with hp | hp
    · exact hB.1 p hp
    · rw [List.mem_singleton] at hp
      subst hp
      exact ⟨hg, Nat.le_trans h.2.2.size hk, Nat.le_trans h.2.2.size hm⟩
  · have old : ∀ (i : Nat) (p : Nat × Nat × List Int), (m ++ [(k, b, s)])[i]? = some p → (m[i]? = some p ∧ i < m.length) ∨ (i = m.length ∧ p = (k, b, s)) := fun i p hp => by
      rcases Nat.lt_or_ge i m.length with c | c
      · rw [List.getElem?_append_left c] at hp; exact .inl ⟨hp, c⟩
      · rw [List.getElem?_append_right c] at hp
        rcases Nat.lt_or_ge m.length i with d | d
        · rw [List.getElem?_eq_none (by simp; omega)] at hp; cases hp
        · obtain rfl : i = m.length := by omega
          rw [Nat.sub_self] at hp
          exact .inr ⟨rfl, (Option.some.inj hp).symm⟩
    rcases old i p hp with ⟨hp, hi⟩ | ⟨hi, rfl⟩ <;> rcases old j q hq with ⟨hq, hj⟩ | ⟨hj, rfl⟩
    · exact h.2.1 i j p q hij hp hq
    · have := (h.1 p (List.mem_of_getElem? hp)).1.lt
      simp only
      omega
    · have := (h.1 q (List.mem_of_getElem? hq)).1.lt
      simp only
      omega
    · omega
theorem KS.put {w0 W W' : World} {m : List (Nat × Nat × List Int)} (h : KS w0 W m) (i : Nat) {k b : Nat} {s s' : List Int} (hi : m[i]? = some (k, b, s)) (hk : KF W W' k b) (hg : KM W' k b s') : KS w0 W' (m.set i (k, b, s')) := by
  have hlt : i < m.length := (List.getElem?_eq_some_iff.1 hi).1
  have hb : Below w0.heap.size w0 W' := hk.belowOf h.bel (h.at_ i hi).2.1 (h.at_ i hi).2.2
  have old : ∀ (j : Nat) (p : Nat × Nat × List Int), (m.set i (k, b, s'))[j]? = some p → (i = j ∧ p = (k, b, s')) ∨ (i ≠ j ∧ m[j]? = some p) := fun j p hp => by
    rw [List.getElem?_set] at hp
    by_cases c : i = j
    · rw [if_pos c, if_pos (by omega)] at hp
      exact .inl ⟨c, (Option.some.inj hp).symm⟩
    · rw [if_neg c] at hp
      exact .inr ⟨c, hp⟩
  refine ⟨fun p hp => ?_, fun j l p q hjl hp hq => ?_, hb⟩
  · obtain ⟨j, hj⟩ := List.getElem?_of_mem hp
    rcases old j p hj with ⟨_, rfl⟩ | ⟨c, hj⟩
    · exact ⟨hg, (h.at_ i hi).2⟩
    · have hm := h.1 p (List.mem_of_getElem? hj)
      have := h.2.1 j i p _ (Ne.symm c) hj hi
      exact ⟨hm.1.kf hk this.1 this.2.1 this.2.2.1 this.2.2.2, hm.2⟩
  · rcases old j p hp with ⟨hj, rfl⟩ | ⟨cj, hp⟩ <;> rcases old l q hq with ⟨hl, rfl⟩ | ⟨cl, hq⟩
    · omega
    · exact h.2.1 i l (k, b, s) q cl hi hq
    · exact h.2.1 j i p (k, b, s) (Ne.symm cj) hp hi
    · exact h.2.1 j l p q hjl hp hq

theorem KS.new {w0 W : World} {m : List (Nat × Nat × List Int)} (h : KS w0 W m) :
    Calls Try.prog 26 #[] W fun e w' => ∃ k b, e = .returned (.pointer (some ⟨k, 0, none⟩)) ∧ KS w0 w' (m ++ [(k, b, [])]) ∧ Below W.heap.size W w' :=
  (new_u W).mono fun _ _ ⟨k, b, he, hk, l1, l2, hb⟩ => ⟨k, b, he, h.more hb hk l1 l2, hb⟩
theorem KS.hash {w0 W : World} {m : List (Nat × Nat × List Int)} (h : KS w0 W m) (i : Nat) {k b : Nat} {s : List Int} (hi : m[i]? = some (k, b, s)) {v : Int} (hv : 0 ≤ v ∧ v < 18446744073709551616) :
    Calls Try.prog 31 #[.pointer (some ⟨k, 0, none⟩), .int .u64 v] W fun e w' => e = .returned (.tuple #[]) ∧ KS w0 w' (m.set i (k, b, khash s v)) ∧ KF W w' k b :=
  (hash_u k b s v hv W (h.at_ i hi).1).mono fun _ _ ⟨he, hk, hf⟩ => ⟨he, h.put i hi hf hk, hf⟩
theorem KS.add {w0 W : World} {m : List (Nat × Nat × List Int)} (h : KS w0 W m) (i : Nat) {k b : Nat} {s : List Int} (hi : m[i]? = some (k, b, s)) {t : ByteArray} {n : Nat} {v : Int} (hf : fnv_Of.f n t = some v) (hv : 0 ≤ v ∧ v < 18446744073709551616) :
    Calls Try.prog 28 #[.pointer (some ⟨k, 0, none⟩), .string t] W fun e w' => e = .returned (.tuple #[]) ∧ KS w0 w' (m.set i (k, b, khash s v)) ∧ KF W w' k b :=
  (add_u k b s t W (h.at_ i hi).1 n v hf hv).mono fun _ _ ⟨he, hk, hf⟩ => ⟨he, h.put i hi hf hk, hf⟩
theorem KS.hashes {w0 W : World} {m : List (Nat × Nat × List Int)} (h : KS w0 W m) (i : Nat) {k b : Nat} {s : List Int} (hi : m[i]? = some (k, b, s)) :
    Calls Try.prog 32 #[.pointer (some ⟨k, 0, none⟩)] W fun e w' => ∃ A c, e = .returned (.slice A s.length c) ∧ s.length ≤ c ∧ Kd.C (Kd.int .u64) w' A s.length s ∧ w'.ownsRow W.heap.size 25 1 (.slice A s.length c) s.length (nums .u64 s) ∧ KS w0 w' m ∧ Below W.heap.size W w' :=
  (hashes_u k b s W (h.at_ i hi).1).mono fun _ _ ⟨v, he, ho, hb⟩ => by
    obtain ⟨A, c, rfl, hc, hC⟩ := C_of_own ho
    exact ⟨A, c, he, hc, hC, ho, h.below hb, hb⟩
theorem KS.dist {w0 W : World} {m : List (Nat × Nat × List Int)} (h : KS w0 W m) (i : Nat) {k b : Nat} {s : List Int} (hi : m[i]? = some (k, b, s)) :
    Calls Try.prog 30 #[.pointer (some ⟨k, 0, none⟩)] W fun e w' => e = .returned (.int .u64 (kdist s)) ∧ KS w0 w' m ∧ Below W.heap.size W w' :=
  (dist_u k b s W (h.at_ i hi).1 _ _ (kmvDist_all (h.at_ i hi).1.good.2.2 (by have := (h.at_ i hi).1.good.2.1; omega))).mono fun _ _ ⟨he, hb⟩ => ⟨he, h.below hb, hb⟩
/-- Merge of a list that neither block of this Kmv holds. -/
theorem KS.merge {w0 W : World} {m : List (Nat × Nat × List Int)} (h : KS w0 W m) (i : Nat) {k b : Nat} {s : List Int} (hi : m[i]? = some (k, b, s)) {A : Option Addr} {c : Nat} {l : List Int} (hC : Kd.C (Kd.int .u64) W A l.length l) (hA : ∀ ad, A = some ad → 0 < l.length → ad.block ≠ k ∧ ad.block ≠ b)
    (hr : ∀ x ∈ l, 0 ≤ x ∧ x < 18446744073709551616) (hok : KOk l) :
    Calls Try.prog 37 #[.pointer (some ⟨k, 0, none⟩), .slice A l.length c] W fun e w' => e = .returned (.int .i64 0) ∧ KS w0 w' (m.set i (k, b, kmany s l)) ∧ KF W w' k b :=
  (merge_u k b s A c l W (h.at_ i hi).1 hC hA hr hok).mono fun _ _ ⟨he, hk, hf⟩ => ⟨he, h.put i hi hf hk, hf⟩
theorem C_block {w : World} {A : Option Addr} {l : List Int} (h : Kd.C (Kd.int .u64) w A l.length l) : ∀ ad, A = some ad → 0 < l.length → ad.block < w.heap.size := fun ad e hl => by
  obtain ⟨ad', e', hc⟩ := Kd.at_int h (0 : Int) (by omega) (by omega)
  obtain rfl : ad = ad' := by rw [e] at e'; injection e'
  have := cell_lt hc
  have eb : (ad.add (0 : Int).toNat).block = ad.block := by unfold Addr.add; split <;> rfl
  rwa [eb] at this
/-- Merge of a list that came in. -/
theorem KS.mergeOld {w0 W : World} {m : List (Nat × Nat × List Int)} (h : KS w0 W m) (i : Nat) {k b : Nat} {s : List Int} (hi : m[i]? = some (k, b, s)) {A : Option Addr} {c : Nat} {l : List Int} (hC : Kd.C (Kd.int .u64) w0 A l.length l)
    (hr : ∀ x ∈ l, 0 ≤ x ∧ x < 18446744073709551616) (hok : KOk l) :
    Calls Try.prog 37 #[.pointer (some ⟨k, 0, none⟩), .slice A l.length c] W fun e w' => e = .returned (.int .i64 0) ∧ KS w0 w' (m.set i (k, b, kmany s l)) ∧ KF W w' k b :=
  h.merge i hi (Kd.C_below hC h.bel) (fun ad e hl => by have := C_block hC ad e hl; have := (h.at_ i hi).2; omega) hr hok
end Go.Proofs.Ytpjchgiemmnikaa
