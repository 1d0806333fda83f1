/- varvelaw00.Nums, kmv.Merge and kmv.From by walks over their Go text. -/
import Derived.Test.YtpjchgiemmnikaaKHash
namespace Go.Proofs.Ytpjchgiemmnikaa
set_option linter.unusedVariables false
set_option linter.unusedSimpArgs false
open Go.RowKit Go.Maps Go.Proofs.YtpjchgiemmnikaaW.PrintWords Go.Proofs.Ytpjchgiemmnikaa.Pure

theorem nums_u (A : Option Addr) (n c : Nat) (l : List Int) (w : World) (h : ReadsInt w .u64 A n l) (hb : n * 8 ≤ 140737488355328) :
    Calls Try.prog 21 #[.slice A n c] w fun e w' => ∃ v, e = .returned v ∧ w'.ownsRow w.heap.size 25 1 v l.length (nums .u64 l) ∧ Below w.heap.size w w' := by
  have h0 : w.ownsRow w.heap.size 25 1 (.slice none 0 0) ([] : List Int).length (nums .u64 []) := World.ownsRow_nil w _ _ _
  have H := Lib.hid h
  clear h
  go_enter Try.func21, Try.ntmps21
  go_wp2_with ((with_reducible refine gate_builtin (b := .append) (xs := #[.const (.slice none 0 0), .tmp 3]) rfl ?_); at_builtin; refine print_append_row (w0 := w) w.heap.size rfl (.const (.slice none 0 0)) (.tmp 3) 22 25 .u64 8 rfl Try.underlying22 info25 (by decide) (.slice none 0 0) [] l A n c rfl rfl h0 H.out (Below.refl _ _) (Nat.le_refl _) (by simpa using hb) ?_; intro v1 w1 ho hb1 hg hat)
  go_ret
  exact ⟨_, rfl, by simpa using ho, hb1⟩

/-- What Check tells. -/
def KOk (l : List Int) : Prop := Asc l ∧ l.length ≤ 1024
theorem rd_nat {l : List Int} {j : Nat} (h : j < l.length) : rd l (j : Int) = l[j] := by
  simp [rd, List.getD, List.getElem?_eq_getElem h]
theorem asc_steps {l : List Int} (h : ∀ j, 1 ≤ j → j < l.length → rd l ((j : Int) - 1) < rd l j) : Asc l := by
  have step : ∀ (d i : Nat), i + d + 1 < l.length → rd l (i : Int) < rd l ((i + d + 1 : Nat) : Int) := by
    intro d
    induction d with
    | zero => intro i hi; have := h (i + 1) (by omega) hi; rwa [show (((i + 1 : Nat) : Int) - 1) = (i : Int) by omega] at this
    | succ d ih =>
      intro i hi
      have h1 := ih i (by omega)
      have h2 := h (i + (d + 1) + 1) (by omega) hi
      rw [show (((i + (d + 1) + 1 : Nat) : Int) - 1) = ((i + d + 1 : Nat) : Int) by omega] at h2
      omega
  rw [show Asc l = l.Pairwise (· < ·) from rfl, List.pairwise_iff_getElem]
  intro i j hi hj hij
  have := step (j - i - 1) i (by omega)
  rw [show i + (j - i - 1) + 1 = j by omega, rd_nat hi, rd_nat hj] at this
  exact this
theorem asc_at {l : List Int} (h : Asc l) {i j : Nat} (hij : i < j) (hj : j < l.length) : rd l (i : Int) < rd l (j : Int) := by
  rw [rd_nat (show i < l.length by omega), rd_nat hj]
  exact List.pairwise_iff_getElem.1 h i j (by omega) hj hij

set_option maxHeartbeats 1000000 in
theorem check_u (A : Option Addr) (c : Nat) (l : List Int) (w : World) (h : Kd.C (Kd.int .u64) w A l.length l) (hL : l.length < 4611686018427387904) :
    Calls Try.prog 20 #[.slice A l.length c] w fun e w' => ∃ r, e = .returned (.bool r) ∧ (r = true ↔ KOk l) ∧ ∃ n, w' = w.drewN n := by
  have H := Lib.hid h
  clear h
  go_enter Try.func20, Try.ntmps20
  go_wp2
  go_loopw [3] (fun vi wr => ∃ i n : Nat, vi = .int .i64 i ∧ 1 ≤ i ∧ wr = w.drewN n ∧ (i ≤ l.length ∨ i = 1) ∧ ∀ j, 1 ≤ j → j < i → rd l ((j : Int) - 1) < rd l j) (fun vi _ => l.length + 1 - (intOf vi).toNat)
  case atStart => exact ⟨1, 0, rfl, Nat.le_refl _, rfl, .inr rfl, fun j h1 h2 => by omega⟩
  case round =>
    obtain ⟨i, n, rfl, hi1, hwr, hle, hI⟩ := hrel
    have II := Lib.hid hI; have HW := Lib.hid hwr
    clear hI hwr
    by_cases hil : i < l.length
    · by_cases hi2 : i ≤ 1024
      · obtain ⟨ad, rfl, hc1⟩ := Kd.at_int H.out (i : Int) (by omega) (by omega)
        obtain ⟨ad', e', hc2⟩ := Kd.at_int H.out ((i : Int) - 1) (by omega) (by omega)
        obtain rfl : ad = ad' := by injection e'
        rw [Int.toNat_natCast] at hc1
        rw [show ((i : Int) - 1).toNat = i - 1 by omega] at hc2
        have d1 : wr.cell? (ad.add i) = some (.int .u64 (rd l i)) := by rw [HW.out]; exact hc1
        have d2 : wr.cell? (ad.add (i - 1)) = some (.int .u64 (rd l ((i : Int) - 1))) := by rw [HW.out]; exact hc2
        have hd : decide ((i : Int) < (l.length : Int)) = true := decide_eq_true (by omega)
        have hd2 : decide ((i : Int) ≤ 1024) = true := decide_eq_true (by omega)
        obtain ⟨p, hp⟩ : ∃ p, rd l (i : Int) = p := ⟨_, rfl⟩
        obtain ⟨q, hq⟩ : ∃ q, rd l ((i : Int) - 1) = q := ⟨_, rfl⟩
        rw [hp] at d1; rw [hq] at d2
        have HP := Lib.hid hp; have HQ := Lib.hid hq
        clear hc1 hc2 e' hp hq
        go_wp2
        go_quiet (fail)
        by_cases hpq : p ≤ q
        · have hpd : decide (p ≤ q) = true := decide_eq_true hpq
          go_wp2
          go_ret
          exact ⟨false, rfl, ⟨fun c => (nomatch c), fun c => by
            have := asc_at c.1 (show i - 1 < i by omega) hil
            rw [show ((i - 1 : Nat) : Int) = (i : Int) - 1 by omega, HP.out, HQ.out] at this; omega⟩, _, by rw [HW.out]; exact World.drewN_drewN _ _ _⟩
        · have hpd : decide (p ≤ q) = false := decide_eq_false hpq
          go_wp2
          go_roundw
          case rel => exact ⟨i + 1, _, by go_num, by omega, by rw [HW.out]; exact World.drewN_drewN _ _ _, .inl (by omega), fun j h1 h2 => by
            rcases Nat.lt_or_ge j i with c | c
            · exact II.out j h1 c
            · obtain rfl : j = i := by omega
              rw [HP.out, HQ.out]; omega⟩
          case measure => simp [intOf]; omega
      · have hd : decide ((i : Int) < (l.length : Int)) = true := decide_eq_true (by omega)
        have hd2 : decide ((i : Int) ≤ 1024) = false := decide_eq_false (by omega)
        have hd3 : decide ((l.length : Int) ≤ 1024) = false := decide_eq_false (by omega)
        go_wp2
        go_ret
        exact ⟨false, by first | rfl | rw [hd3], ⟨fun c => (nomatch c), fun c => by have := c.2; omega⟩, n, HW.out⟩
    · have hd : decide ((i : Int) < (l.length : Int)) = false := decide_eq_false (by omega)
      go_wp2
      go_ret
      exact ⟨decide ((l.length : Int) ≤ 1024), rfl, ⟨fun c => ⟨asc_steps fun j h1 h2 => II.out j h1 (by omega), by have := of_decide_eq_true c; omega⟩, fun c => decide_eq_true (by have := c.2; omega)⟩, n, HW.out⟩
end Go.Proofs.Ytpjchgiemmnikaa
