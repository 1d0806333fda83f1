/- What the laws of Kmv's share: how their arguments are read; copies, checks and sameness beside several Kmv's. -/
import Derived.Test.YtpjchgiemmnikaaKState
import Derived.Test.YtpjchgiemmnikaaOpens
namespace Go.Proofs.Ytpjchgiemmnikaa
set_option linter.unusedVariables false
set_option linter.unusedSimpArgs false
open Go.RowKit Go.Maps Go.Proofs.YtpjchgiemmnikaaW.PrintWords Go.Proofs.YtpjchgiemmnikaaW.PrintLast Go.Proofs.YtpjchgiemmnikaaW.PrintMore Go.Proofs.Ytpjchgiemmnikaa.Pure Go.Proofs.Ytpjchgiemmnikaa.Q

/-- How a list of numbers is read. -/
def Pure.WU (l : List Int) : Prop := l.length * 8 ≤ 140737488351232 ∧ l.length ≤ 9223372036854775807 ∧ ∀ x ∈ l, (Lit.int .u64 x).wf = true
theorem opens22 : Opens Try.prog 22 (Kd.slice 25 (Kd.int .u64)) Pure.WU := opens_slice Try.underlying22 (by kernel_rfl) (by kernel_rfl) (opens_int Try.underlying25)
theorem U_of {x : Int} (h : (Lit.int .u64 x).wf = true) : 0 ≤ x ∧ x < 18446744073709551616 := by
  have e1 : IntKind.u64.min = 0 := by decide
  have e2 : IntKind.u64.max = 18446744073709551615 := by decide
  simp only [Lit.wf, e1, e2, Bool.and_eq_true, decide_eq_true_eq] at h; omega
theorem Pure.WU.num {l : List Int} (h : Pure.WU l) : ∀ x ∈ l, 0 ≤ x ∧ x < 18446744073709551616 := fun x hx => U_of (h.2.2 x hx)
theorem Pure.WU.len {l : List Int} (h : Pure.WU l) : l.length ≤ 17592186043904 := by have := h.1; omega
theorem KGood.of {l : List Int} (h : Pure.WU l) (hk : KOk l) : KGood l := ⟨hk.1, hk.2, h.num⟩
theorem Same_go (l m : List Int) (hl : l.length = m.length) (hL : l.length ≤ 17592186043904) : ∀ (n i : Nat), l.length - i = n → (∀ j : Nat, j < i → j < l.length → rd l (j : Int) = rd m (j : Int)) → varvelaw00_SameNums.l0 (n + 1) l m (i : Int) = some (decide (l = m)) := by
  intro n
  induction n with
  | zero =>
    intro i h1 h2
    rw [varvelaw00_SameNums.l0, if_neg (by omega)]
    congr 1
    refine (decide_eq_true (List.ext_getElem hl fun j a b => ?_)).symm
    have := h2 j (by omega) a
    rwa [rd_nat a, rd_nat b] at this
  | succ n ih =>
    intro i h1 h2
    have w2 : wrap64 ((i : Int) + 1) = ((i + 1 : Nat) : Int) := by unfold wrap64; omega
    rw [varvelaw00_SameNums.l0, if_pos (by omega), if_pos (by omega), if_pos (by omega), w2]
    by_cases e : rd l (i : Int) = rd m (i : Int)
    · rw [if_pos e]
      refine ih (i + 1) (by omega) fun j a b => ?_
      rcases Nat.lt_or_ge j i with d | d
      · exact h2 j d b
      · obtain rfl : j = i := by omega
        exact e
    · rw [if_neg e]
      congr 1
      exact (decide_eq_false fun c : l = m => e (by rw [c])).symm
theorem Same_all (l m : List Int) (hL : l.length ≤ 17592186043904) : varvelaw00_SameNums.f (l.length + 1) l m = some (decide (l = m)) := by
  unfold varvelaw00_SameNums.f
  by_cases h : l.length = m.length
  · rw [if_pos (by omega)]
    exact Same_go l m h hL l.length 0 (by omega) (fun j a => by omega)
  · rw [if_neg (by omega)]
    congr 1
    exact (decide_eq_false fun c : l = m => h (by rw [c])).symm
theorem nums_c {w W : World} {A : Option Addr} {c : Nat} {l : List Int} (hw : Pure.WU l) (hC : Kd.C (Kd.int .u64) w A l.length l) (hb : Below w.heap.size w W) :
    Calls Try.prog 21 #[.slice A l.length c] W fun e w' => ∃ A' c', e = .returned (.slice A' l.length c') ∧ l.length ≤ c' ∧ Kd.C (Kd.int .u64) w' A' l.length l ∧ w'.ownsRow W.heap.size 25 1 (.slice A' l.length c') l.length (nums .u64 l) ∧ Below W.heap.size W w' :=
  (nums_u A l.length c l W (Kd.reads_of_C (d := (0 : Int)) (Kd.C_below hC hb)) (by have := hw.1; omega)).mono fun _ _ ⟨v, he, ho, hb⟩ => by
    obtain ⟨A', c', rfl, hc, hC⟩ := C_of_own ho
    exact ⟨A', c', he, hc, hC, ho, hb⟩
theorem check_c {W : World} {A : Option Addr} {c : Nat} {l : List Int} (hw : Pure.WU l) (hC : Kd.C (Kd.int .u64) W A l.length l) (hc : l.length ≤ c) :
    Calls Try.prog 20 #[.slice A l.length c] W fun e w' => e = .returned (.bool (decide (KOk l))) ∧ Below W.heap.size W w' :=
  (kmv_Check.calls _ A c l _ W hC hc (kmvCheck_all l (by have := hw.len; omega))).mono fun _ _ ⟨he, hd⟩ => ⟨he, hd.below⟩
theorem refCheck_c {W : World} {A : Option Addr} {c : Nat} {l : List Int} (hw : Pure.WU l) (hC : Kd.C (Kd.int .u64) W A l.length l) (hc : l.length ≤ c) :
    Calls Try.prog 22 #[.slice A l.length c] W fun e w' => e = .returned (.bool (decide (KOk l))) ∧ Below W.heap.size W w' :=
  (varveref08_Check.calls _ A c l _ W hC hc (refCheck_all l (by have := hw.len; omega))).mono fun _ _ ⟨he, hd⟩ => ⟨he, hd.below⟩
theorem dist_c {W : World} {A : Option Addr} {c : Nat} {l : List Int} (hw : Pure.WU l) (hC : Kd.C (Kd.int .u64) W A l.length l) (hc : l.length ≤ c) :
    Calls Try.prog 23 #[.slice A l.length c] W fun e w' => e = .returned (.int .u64 (kdist l)) ∧ Below W.heap.size W w' :=
  (kmv_Distinct.calls _ A c l _ W hC hc (kmvDist_all hw.num (by have := hw.len; omega))).mono fun _ _ ⟨he, hd⟩ => ⟨he, hd⟩
theorem refDist_c {W : World} {A : Option Addr} {c : Nat} {l : List Int} (hn : ∀ x ∈ l, 0 ≤ x ∧ x < 18446744073709551616) (hl : l.length ≤ 17592186043904) (hC : Kd.C (Kd.int .u64) W A l.length l) (hc : l.length ≤ c) :
    Calls Try.prog 24 #[.slice A l.length c] W fun e w' => e = .returned (.int .u64 (kdist l)) ∧ Below W.heap.size W w' := by
  obtain ⟨k, hk⟩ := refDist_all hn (by omega)
  exact (varveref08_Distinct.calls k A c l _ W hC hc hk).mono fun _ _ ⟨he, hd⟩ => ⟨he, hd.below⟩
theorem same_c {W : World} {A A' : Option Addr} {c c' : Nat} {l m : List Int} (hl : l.length ≤ 17592186043904) (hC : Kd.C (Kd.int .u64) W A l.length l) (hc : l.length ≤ c) (hC' : Kd.C (Kd.int .u64) W A' m.length m) (hc' : m.length ≤ c') :
    Calls Try.prog 39 #[.slice A l.length c, .slice A' m.length c'] W fun e w' => e = .returned (.bool (decide (l = m))) ∧ Below W.heap.size W w' :=
  (varvelaw00_SameNums.calls _ A c l A' c' m _ W hC hc hC' hc' (Same_all l m hl)).mono fun _ _ ⟨he, hd⟩ => ⟨he, hd.below⟩
theorem KS.from {w0 W : World} {m : List (Nat × Nat × List Int)} (h : KS w0 W m) {A : Option Addr} {c : Nat} {l : List Int} (hC : Kd.C (Kd.int .u64) W A l.length l) (hg : KGood l) :
    Calls Try.prog 34 #[.slice A l.length c] W fun e w' => ∃ k b, e = .returned (.tuple #[.pointer (some ⟨k, 0, none⟩), .int .i64 0]) ∧ KS w0 w' (m ++ [(k, b, l)]) ∧ Below W.heap.size W w' :=
  (from_u A c l W hC hg.2.2 ⟨hg.1, hg.2.1⟩).mono fun _ _ ⟨k, b, he, hk, l1, l2, hb⟩ => ⟨k, b, he, h.more hb hk l1 l2, hb⟩
end Go.Proofs.Ytpjchgiemmnikaa
