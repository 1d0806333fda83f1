/- Several histograms at once: each call changes one of them. -/
import Derived.Test.YtlfjfgcalilnpaaHBk
namespace Go.Proofs.Ytlfjfgcalilnpaa
set_option linter.unusedVariables false
set_option linter.unusedSimpArgs false
open Go.RowKit Go.Proofs.YtlfjfgcalilnpaaW.PrintWords Go.Proofs.YtlfjfgcalilnpaaW.PrintLast Go.Proofs.YtlfjfgcalilnpaaW.PrintMore Go.Proofs.Ytlfjfgcalilnpaa.Hi

/-- The histograms that the call made, by their blocks: unlike ones, and nothing that was there before has changed. -/
def HS (w0 W : World) (m : List (Nat × List Int)) : Prop :=
  (∀ p ∈ m, W.heap[p.1]? = some (.cells (hcells p.2) 103 (0, 0)) ∧ w0.heap.size ≤ p.1) ∧ (m.map (·.1)).Nodup ∧ Below w0.heap.size w0 W
theorem HS.nil (w : World) : HS w w [] := ⟨fun p hp => by simp at hp, by simp, Below.refl _ _⟩
theorem HS.bel {w0 W : World} {m : List (Nat × List Int)} (h : HS w0 W m) : Below w0.heap.size w0 W := h.2.2
theorem HS.at_ {w0 W : World} {m : List (Nat × List Int)} (h : HS w0 W m) (i : Nat) {g : Nat} {s : List Int} (hi : m[i]? = some (g, s)) : W.heap[g]? = some (.cells (hcells s) 103 (0, 0)) ∧ w0.heap.size ≤ g :=
  h.1 _ (List.mem_of_getElem? hi)
theorem HS.below {w0 W W' : World} {m : List (Nat × List Int)} (h : HS w0 W m) (hb : Below W.heap.size W W') : HS w0 W' m :=
  ⟨fun p hp => ⟨blk_below (h.1 p hp).1 hb, (h.1 p hp).2⟩, h.2.1, h.2.2.trans (hb.mono h.2.2.size)⟩
theorem HS.drawn {w0 W W' : World} {m : List (Nat × List Int)} (h : HS w0 W m) (hb : Drawn0 W W') : HS w0 W' m := h.below hb.below
theorem HS.more {w0 W W' : World} {m : List (Nat × List Int)} (h : HS w0 W m) {g : Nat} {s : List Int} (hb : Below W.heap.size W W') (hg : W'.heap[g]? = some (.cells (hcells s) 103 (0, 0))) (hn : W.heap.size ≤ g) : HS w0 W' (m ++ [(g, s)]) := by
  have hB := h.below hb
  refine ⟨fun p hp => ?_, ?_, hB.2.2⟩
  · rcases List.mem_append.1 hp with hp | hp
    · exact hB.1 p hp
    · rw [List.mem_singleton] at hp
      subst hp
      exact ⟨hg, Nat.le_trans h.2.2.size hn⟩
  · rw [List.map_append, List.nodup_append]
    refine ⟨h.2.1, by simp, fun a ha b hb' => ?_⟩
    obtain ⟨p, hp, rfl⟩ := List.mem_map.1 ha
    have := blk_lt (h.1 p hp).1
    simp at hb'
    subst hb'
    omega
theorem HS.put {w0 W W' : World} {m : List (Nat × List Int)} (h : HS w0 W m) (i : Nat) {g : Nat} {s s' : List Int} (hi : m[i]? = some (g, s)) (hk : KeepBut W W' g none) (hg : W'.heap[g]? = some (.cells (hcells s') 103 (0, 0))) (hB : Below w0.heap.size w0 W') : HS w0 W' (m.set i (g, s')) := by
  have hlt : i < m.length := (List.getElem?_eq_some_iff.1 hi).1
  have e : (m.set i (g, s')).map (·.1) = m.map (·.1) := by
    refine List.ext_getElem? fun j => ?_
    rw [List.getElem?_map, List.getElem?_map, List.getElem?_set]
    by_cases c : i = j
    · subst c; rw [if_pos rfl, if_pos hlt, hi]; rfl
    · rw [if_neg c]
  refine ⟨fun p hp => ?_, by rw [e]; exact h.2.1, hB⟩
  obtain ⟨j, hj⟩ := List.getElem?_of_mem hp
  rw [List.getElem?_set] at hj
  by_cases c : i = j
  · rw [if_pos c, if_pos (by omega)] at hj
    obtain rfl := Option.some.inj hj
    exact ⟨hg, (h.at_ i hi).2⟩
  · rw [if_neg c] at hj
    have hm := h.1 p (List.mem_of_getElem? hj)
    refine ⟨hk.blk hm.1 ?_ (by simp), hm.2⟩
    intro c2
    have n1 : (m.map (·.1))[i]? = some g := by rw [List.getElem?_map, hi]; rfl
    have n2 : (m.map (·.1))[j]? = some g := by rw [List.getElem?_map, hj, ← c2]; rfl
    exact c ((List.getElem?_inj (by rw [List.length_map]; exact hlt) h.2.1).1 (n1.trans n2.symm))

theorem HS.new {w0 W : World} {m : List (Nat × List Int)} (h : HS w0 W m) :
    Calls Try.prog 18 #[] W fun e w' => ∃ g, e = .returned (.pointer (some ⟨g, 0, none⟩)) ∧ HS w0 w' (m ++ [(g, hzero 7424)]) ∧ Below W.heap.size W w' :=
  (new_any W).mono fun _ _ ⟨he, hh, hb⟩ => ⟨_, he, h.more hb hh (Nat.le_refl _), hb⟩
theorem HS.add {w0 W : World} {m : List (Nat × List Int)} (h : HS w0 W m) (i : Nat) {g : Nat} {s : List Int} (hi : m[i]? = some (g, s)) (hs : hgood s = true) {v n : Int} (hv : 0 ≤ v ∧ v < 18446744073709551616) (hn : 0 ≤ n ∧ n < 18446744073709551616) :
    Calls Try.prog 20 #[.pointer (some ⟨g, 0, none⟩), .int .u64 v, .int .u64 n] W fun e w' => e = .returned (.tuple #[]) ∧ HS w0 w' (m.set i (g, hadd s (bucketN v.toNat) n)) ∧ KeepBut W w' g none :=
  (hist_Hist_Add.calls g s v n _ w0 W (h.at_ i hi) h.bel (by unfold hist_Hist_Add.f; rw [if_pos ⟨hs, hv, hn⟩])).mono fun _ _ ⟨he, hI, hB, hK⟩ => ⟨he, h.put i hi hK hI.1 hB, hK⟩
theorem HS.count {w0 W : World} {m : List (Nat × List Int)} (h : HS w0 W m) (i : Nat) {g : Nat} {s : List Int} (hi : m[i]? = some (g, s)) (hs : hgood s = true) :
    Calls Try.prog 64 #[.pointer (some ⟨g, 0, none⟩)] W fun e w' => e = .returned (.tuple #[.int .u64 (hsum s), .int .i64 (if hsum s = 18446744073709551615 then 11 else 0)]) ∧ W = w' :=
  count_any g s W (h.at_ i hi).1 ((hgood_iff _).mp hs).1 ((hgood_iff _).mp hs).2
theorem HS.bks {w0 W : World} {m : List (Nat × List Int)} (h : HS w0 W m) (i : Nat) {g : Nat} {s : List Int} (hi : m[i]? = some (g, s)) (hs : hgood s = true) :
    Calls Try.prog 82 #[.pointer (some ⟨g, 0, none⟩)] W fun e w' => ∃ A c, e = .returned (.slice A (bks s).length c) ∧ (bks s).length ≤ c ∧ Kd.C k75 w' A (Go.Proofs.Ytlfjfgcalilnpaa.bks s).length (Go.Proofs.Ytlfjfgcalilnpaa.bks s) ∧ Kd.R k75 75 w' W.heap.size (fun _ => True) (.slice A (Go.Proofs.Ytlfjfgcalilnpaa.bks s).length c) (Go.Proofs.Ytlfjfgcalilnpaa.bks s) ∧ HS w0 w' m ∧ Below W.heap.size W w' :=
  (bk_any g s W (h.at_ i hi).1 ((hgood_iff _).mp hs).1).mono fun _ _ ⟨v, he, hR, hb⟩ => by
    obtain ⟨A, c, rfl, hc, hC⟩ := Kd.R_reads hR
    exact ⟨A, c, he, hc, hC, hR, h.below hb, hb⟩
theorem R_hist {W W' : World} {base : Nat} {ok : Nat → Prop} {v : Value} {xs : List S75} (h : Kd.R k75 75 W base ok v xs) {g : Nat} {cs : Array Value} (hg : W.heap[g]? = some (.cells cs 103 (0, 0))) (hk : KeepBut W W' g none) : Kd.R k75 75 W' base ok v xs := by
  refine Kd.R_mono (Kd.R_step (Kd.R_bound h) fun k hb hlt => hk.2 k hlt ?_ (by simp)) fun _ hk => hk.1
  rintro rfl
  obtain ⟨_, _, _, q, hq, cells, hc⟩ := hb
  rw [hg] at hc
  have hE : k75.E = [] := rfl
  rw [hE] at hq
  simp at hq hc
  exact absurd (hc.2.trans hq) (by decide)
/-- Merge of a list of the call's own. -/
theorem HS.merge {w0 W : World} {m : List (Nat × List Int)} (h : HS w0 W m) (i : Nat) {g : Nat} {s : List Int} (hi : m[i]? = some (g, s)) (hs : hgood s = true) {A : Option Addr} {c : Nat} {l : List S75} (hc : l.length ≤ c)
    (hr : ∀ W_, KeepBut W W_ g none → Kd.C k75 W_ A l.length l) (hw : Pure.WB l) (hl : Pure.chk l = true) :
    Calls Try.prog 95 #[.pointer (some ⟨g, 0, none⟩), .slice A l.length c] W fun e w' => e = .returned (.int .i64 0) ∧ HS w0 w' (m.set i (g, Pure.merged s l)) ∧ KeepBut W w' g none :=
  (hist_Hist_Merge.calls (l.length + 1) g s A c l 0 (Pure.merged s l) w0 W (h.at_ i hi) h.bel hr hc (Pure.Merge_eq hs hw hl _ (by omega))).mono fun _ _ ⟨he, hI, hB, hK⟩ => ⟨he, h.put i hi hK hI.1 hB, hK⟩
theorem heap51 : Kd.Heap k75 := ⟨fun _ h => h⟩
/-- What came in stays readable while the call's own histograms change. -/
theorem HS.old {w0 W : World} {m : List (Nat × List Int)} (h : HS w0 W m) (i : Nat) {g : Nat} {s : List Int} (hi : m[i]? = some (g, s)) {A : Option Addr} {l : List S75} (hC : Kd.C k75 w0 A l.length l) : ∀ W_, KeepBut W W_ g none → Kd.C k75 W_ A l.length l := fun W_ hk =>
  Kd.C_foot_came heap51 hC h.bel (h.at_ i hi).2 W_ hk
/-- What the call made before stays readable, too. -/
theorem HS.own {w0 W : World} {m : List (Nat × List Int)} (h : HS w0 W m) (i : Nat) {g : Nat} {s : List Int} (hi : m[i]? = some (g, s)) {A : Option Addr} {c : Nat} {l : List S75} {base : Nat} {ok : Nat → Prop} (hR : Kd.R k75 75 W base ok (.slice A l.length c) l) : ∀ W_, KeepBut W W_ g none → Kd.C k75 W_ A l.length l := fun _ hk => by
  have := R_hist hR (h.at_ i hi).1 hk
  exact (Kd.R_reads' this).2.2
end Go.Proofs.Ytlfjfgcalilnpaa
