/- What the laws of this folder share, part 2: walks of functions over their Go text, and plain lemmas. Conditions: as each lemma says. -/
import Derived.Laws.Externs
import Derived.WalkLawsBesides
import Derived.Lib.Hide
import Derived.Test.YtncgjbocgbnkcaaProg
import Derived.Test.YtncgjbocgbnkcaaRows
import Derived.Below
import Derived.Deep.Draws
import Derived.Deep.AppendLies
import Derived.Maps.AppendAt
import Derived.OwnWalk
import Derived.Laws.BytesArg
import Derived.Laws.MakeOwn
import Derived.Laws.OwnMore
import Derived.Deep.OwnRows
import Derived.Tactics
import Derived.Lib.ConvBytes
import Derived.Laws.Slices
import Derived.WalkKit
import Derived.KernelRfl
import Derived.RowKit3
import Derived.Deep.LoopGhost
import Derived.Deep.QuietTactic
import Derived.BigQuiet
import Derived.WideLaws
import Derived.Deep.DeepCutAuto
import Derived.Deep.CutBlock
import Derived.Deep.RegionHeld3
import Derived.Laws.Rows
import Derived.Lib.AppendStr
import Derived.ArgAppend
import Derived.Laws.IdiomCopy
import Derived.OrdersHeld
import Derived.Laws.BitsLemmas
import Derived.RowKit
import Derived.StillTailTactics
import Derived.Test.YtncgjbocgbnkcaaPbM1
namespace Go.Proofs.Ytncgjbocgbnkcaa
set_option linter.unusedVariables false
set_option linter.unusedSimpArgs false
open Go.RowKit Go.Maps Go.Proofs.YtncgjbocgbnkcaaW.PrintWords Go.Proofs.Ytncgjbocgbnkcaa.Pure
/-- What Check tells. -/
def KOk (l : List Int) : Prop := Asc l ∧ l.length ≤ 1024
theorem rd_nat {l : List Int} {j : Nat} (h : j < l.length) : rd l (j : Int) = l[j] := by
  simp [rd, List.getD, List.getElem?_eq_getElem h]
theorem asc_steps {l : List Int} (h : ∀ j, 1 ≤ j → j < l.length → rd l ((j : Int) - 1) < rd l j) : Asc l := by
  have step : ∀ (d i : Nat), i + d + 1 < l.length → rd l (i : Int) < rd l ((i + d + 1 : Nat) : Int) := by
    intro d
    induction d with
    | zero => intro i hi; have := h (i + 1) (by omega) hi; rwa [show (((i + 1 : Nat) : Int) - 1) = (i : Int) by omega] at this
    | succ d ih =>
      intro i hi
      have h1 := ih i (by omega)
      have h2 := h (i + (d + 1) + 1) (by omega) hi
      rw [show (((i + (d + 1) + 1 : Nat) : Int) - 1) = ((i + d + 1 : Nat) : Int) by omega] at h2
      omega
  rw [show Asc l = l.Pairwise (· < ·) from rfl, List.pairwise_iff_getElem]
  intro i j hi hj hij
  have := step (j - i - 1) i (by omega)
  rw [show i + (j - i - 1) + 1 = j by omega, rd_nat hi, rd_nat hj] at this
  exact this
theorem asc_at {l : List Int} (h : Asc l) {i j : Nat} (hij : i < j) (hj : j < l.length) : rd l (i : Int) < rd l (j : Int) := by
  rw [rd_nat (show i < l.length by omega), rd_nat hj]
  exact List.pairwise_iff_getElem.1 h i j (by omega) hj hij
set_option maxHeartbeats 1000000 in
theorem check_u (A : Option Addr) (c : Nat) (l : List Int) (w : World) (h : Kd.C (Kd.int .u64) w A l.length l) (hL : l.length < 4611686018427387904) :
    Calls Try.prog 74 #[.slice A l.length c] w fun e w' => ∃ r, e = .returned (.bool r) ∧ (r = true ↔ KOk l) ∧ ∃ n, w' = w.drewN n := by
  have H := Lib.hid h
  clear h
  go_enter Try.func74, Try.ntmps74
  go_wp2
  go_loopw [3] (fun vi wr => ∃ i n : Nat, vi = .int .i64 i ∧ 1 ≤ i ∧ wr = w.drewN n ∧ (i ≤ l.length ∨ i = 1) ∧ ∀ j, 1 ≤ j → j < i → rd l ((j : Int) - 1) < rd l j) (fun vi _ => l.length + 1 - (intOf vi).toNat)
  case atStart => exact ⟨1, 0, rfl, Nat.le_refl _, rfl, .inr rfl, fun j h1 h2 => by omega⟩
  case round =>
    obtain ⟨i, n, rfl, hi1, hwr, hle, hI⟩ := hrel
    have II := Lib.hid hI; have HW := Lib.hid hwr
    clear hI hwr
    by_cases hil : i < l.length
    · by_cases hi2 : i ≤ 1024
      · obtain ⟨ad, rfl, hc1⟩ := Kd.at_int H.out (i : Int) (by omega) (by omega)
        obtain ⟨ad', e', hc2⟩ := Kd.at_int H.out ((i : Int) - 1) (by omega) (by omega)
        obtain rfl : ad = ad' := by injection e'
        rw [Int.toNat_natCast] at hc1
        rw [show ((i : Int) - 1).toNat = i - 1 by omega] at hc2
        have d1 : wr.cell? (ad.add i) = some (.int .u64 (rd l i)) := by rw [HW.out]; exact hc1
        have d2 : wr.cell? (ad.add (i - 1)) = some (.int .u64 (rd l ((i : Int) - 1))) := by rw [HW.out]; exact hc2
        have hd : decide ((i : Int) < (l.length : Int)) = true := decide_eq_true (by omega)
        have hd2 : decide ((i : Int) ≤ 1024) = true := decide_eq_true (by omega)
        obtain ⟨p, hp⟩ : ∃ p, rd l (i : Int) = p := ⟨_, rfl⟩
        obtain ⟨q, hq⟩ : ∃ q, rd l ((i : Int) - 1) = q := ⟨_, rfl⟩
        rw [hp] at d1; rw [hq] at d2
        have HP := Lib.hid hp; have HQ := Lib.hid hq
        clear hc1 hc2 e' hp hq
        go_wp2
        go_quiet (fail)
        by_cases hpq : p ≤ q
        · have hpd : decide (p ≤ q) = true := decide_eq_true hpq
          go_wp2
          go_ret
          exact ⟨false, rfl, ⟨fun c => (nomatch c), fun c => by
            have := asc_at c.1 (show i - 1 < i by omega) hil
            rw [show ((i - 1 : Nat) : Int) = (i : Int) - 1 by omega, HP.out, HQ.out] at this; omega⟩, _, by rw [HW.out]; exact World.drewN_drewN _ _ _⟩
        · have hpd : decide (p ≤ q) = false := decide_eq_false hpq
          go_wp2
          go_roundw
          case rel => exact ⟨i + 1, _, by go_num, by omega, by rw [HW.out]; exact World.drewN_drewN _ _ _, .inl (by omega), fun j h1 h2 => by
            rcases Nat.lt_or_ge j i with c | c
            · exact II.out j h1 c
            · obtain rfl : j = i := by omega
              rw [HP.out, HQ.out]; omega⟩
          case measure => simp [intOf]; omega
      · have hd : decide ((i : Int) < (l.length : Int)) = true := decide_eq_true (by omega)
        have hd2 : decide ((i : Int) ≤ 1024) = false := decide_eq_false (by omega)
        have hd3 : decide ((l.length : Int) ≤ 1024) = false := decide_eq_false (by omega)
        go_wp2
        go_ret
        exact ⟨false, by first | rfl | rw [hd3], ⟨fun c => (nomatch c), fun c => by have := c.2; omega⟩, n, HW.out⟩
    · have hd : decide ((i : Int) < (l.length : Int)) = false := decide_eq_false (by omega)
      go_wp2
      go_ret
      exact ⟨decide ((l.length : Int) ≤ 1024), rfl, ⟨fun c => ⟨asc_steps fun j h1 h2 => II.out j h1 (by omega), by have := of_decide_eq_true c; omega⟩, fun c => decide_eq_true (by have := c.2; omega)⟩, n, HW.out⟩
end Go.Proofs.Ytncgjbocgbnkcaa
namespace Go.Proofs.Ytncgjbocgbnkcaa
set_option linter.unusedVariables false
set_option linter.unusedSimpArgs false
open Go.RowKit Go.Maps Go.Proofs.YtncgjbocgbnkcaaW.PrintWords Go.Proofs.Ytncgjbocgbnkcaa.Pure
theorem cell_lt {w : World} {p : Addr} {v : Value} (h : w.cell? p = some v) : p.block < w.heap.size := by
  by_cases c : p.block < w.heap.size
  · exact c
  · have e : w.heap[p.block]? = none := Array.getElem?_eq_none (by omega)
    unfold World.cell? at h
    rw [e] at h
    cases h
theorem KM.drewN {w : World} {kb mb : Nat} {S : List Int} (h : KM w kb mb S) (n : Nat) : KM (w.drewN n) kb mb S := h.block rfl rfl
theorem KF.drewN (w : World) (kb mb n : Nat) : KF w (w.drewN n) kb mb := ⟨rfl, rfl, rfl, Nat.le_refl _, fun _ _ _ _ => rfl⟩
set_option maxHeartbeats 1000000 in
theorem merge_bad (kb : Nat) (A : Option Addr) (c : Nat) (l : List Int) (w : World) (h : Kd.C (Kd.int .u64) w A l.length l) (hL : l.length < 4611686018427387904) (hn : ¬ KOk l) :
    Calls Try.prog 87 #[.pointer (some ⟨kb, 0, none⟩), .slice A l.length c] w fun e w' => e = .returned (.int .i64 5) ∧ ∃ n, w' = w.drewN n := by
  have C : Calls Try.prog 74 #[.slice A l.length c] w fun e w' => e = .returned (.bool false) ∧ ∃ n, w' = w.drewN n :=
    (check_u A c l w h hL).mono fun e w' ⟨r, he, hr, hw⟩ => ⟨by cases r; exact he; exact absurd (hr.1 rfl) hn, hw⟩
  clear h hn
  go_enter Try.func87, Try.ntmps87
  go_wp2_with (go_at_call 74; refine C.mono ?_; rintro e w1 ⟨rfl, n, rfl⟩; clear C)
  go_ret
  exact ⟨rfl, n, rfl⟩
set_option maxHeartbeats 1000000 in
theorem merge_u (kb mb : Nat) (S : List Int) (A : Option Addr) (c : Nat) (l : List Int) (w : World) (hk : KM w kb mb S) (h : Kd.C (Kd.int .u64) w A l.length l) (hA : ∀ ad, A = some ad → 0 < l.length → ad.block ≠ kb ∧ ad.block ≠ mb)
    (hr : ∀ x ∈ l, 0 ≤ x ∧ x < 18446744073709551616) (hok : KOk l) :
    Calls Try.prog 87 #[.pointer (some ⟨kb, 0, none⟩), .slice A l.length c] w fun e w' => e = .returned (.int .i64 0) ∧ KM w' kb mb (kmany S l) ∧ KF w w' kb mb := by
  have hL := hok.2
  have C : Calls Try.prog 74 #[.slice A l.length c] w fun e w' => e = .returned (.bool true) ∧ ∃ n, w' = w.drewN n :=
    (check_u A c l w h (by omega)).mono fun e w' ⟨r, he, hr, hw⟩ => ⟨by cases r; exact absurd (hr.2 hok) (by simp); exact he, hw⟩
  have HK := Lib.hid hk; have H := Lib.hid h; have HA := Lib.hid hA; have HR := Lib.hid hr
  clear hk h hA hr hok
  go_enter Try.func87, Try.ntmps87
  go_wp2_with (go_at_call 74; refine C.mono ?_; rintro e w1 ⟨rfl, n, hw⟩; clear C; have HW := Lib.hid hw; clear hw)
  go_loopw [16] (fun vi wr => ∃ i : Nat, vi = .int .i64 i ∧ i ≤ l.length ∧ KM wr kb mb (kmany S (l.take i)) ∧ KF w wr kb mb) (fun vi _ => l.length - (intOf vi).toNat)
  case atStart => exact ⟨0, rfl, Nat.zero_le _, by rw [HW.out]; exact HK.out.drewN n, by rw [HW.out]; exact KF.drewN _ _ _ _⟩
  case round =>
    obtain ⟨i, rfl, hil, hK, hF⟩ := hrel
    have HF := Lib.hid hF
    clear hF
    by_cases hi : i < l.length
    · obtain ⟨ad, rfl, hc1⟩ := Kd.at_int H.out (i : Int) (by omega) (by omega)
      rw [Int.toNat_natCast, rd_nat hi] at hc1
      obtain ⟨a2, a3⟩ := HA.out ad rfl (by omega)
      have eb : (ad.add i).block = ad.block := by unfold Addr.add; split <;> rfl
      have a1 : ad.block < w.heap.size := by rw [← eb]; exact cell_lt hc1
      have d1 : wr.cell? (ad.add i) = some (.int .u64 l[i]) := by
        exact (show wr.cell? (ad.add i) = w.cell? (ad.add i) from World.cell?_of_block (HF.out.2.2.2.2 (ad.add i).block (by rw [eb]; exact a1) (by rw [eb]; exact a2) (by rw [eb]; exact a3))).trans hc1
      obtain ⟨x, hx⟩ : ∃ x, l[i] = x := ⟨_, rfl⟩
      have hx0 := HR.out l[i] (by simp)
      have ek : kmany S (l.take (i + 1)) = khash (kmany S (l.take i)) x := by rw [← hx, ← kmany_snoc, List.take_succ_eq_append_getElem hi]
      rw [hx] at d1 hx0
      have C := hash_u kb mb (kmany S (l.take i)) x hx0 wr hK
      have EK := Lib.hid ek
      have hd : decide ((i : Int) < (l.length : Int)) = true := decide_eq_true (by omega)
      clear eb hc1 hx ek a1 a2 a3 hK hx0
      go_wp2_with (go_at_call 101; refine C.mono ?_; rintro e w2 ⟨rfl, hK2, hF2⟩; clear C)
      go_roundw
      case rel => exact ⟨i + 1, by go_num, by omega, by rw [EK.out]; exact hK2, HF.out.trans hF2⟩
      case measure => simp [intOf]; omega
    · have hd : decide ((i : Int) < (l.length : Int)) = false := decide_eq_false (by omega)
      obtain rfl : i = l.length := by omega
      rw [List.take_length] at hK
      have HK2 := Lib.hid hK
      clear hK
      go_wp2
      go_ret
      exact ⟨rfl, HK2.out, HF.out⟩
end Go.Proofs.Ytncgjbocgbnkcaa
namespace Go.Proofs.Ytncgjbocgbnkcaa
set_option linter.unusedVariables false
set_option linter.unusedSimpArgs false
open Go.RowKit Go.Maps Go.Proofs.YtncgjbocgbnkcaaW.PrintWords Go.Proofs.YtncgjbocgbnkcaaW.PrintLast Go.Proofs.YtncgjbocgbnkcaaW.PrintMore Go.Proofs.Ytncgjbocgbnkcaa.Pure Go.Proofs.Ytncgjbocgbnkcaa.Q
theorem C_of_own {w : World} {base : Nat} {v : Value} {l : List Int} (h : w.ownsRow base 41 1 v l.length (nums .u64 l)) : ∃ A c, v = .slice A l.length c ∧ l.length ≤ c ∧ Kd.C (Kd.int .u64) w A l.length l := by
  have := Kd.R_reads (Kd.R_of_own (α := Int) (enc := Value.int .u64) (h1 := fun _ => rfl) (ok := fun _ => True) h (fun _ _ => trivial))
  exact this
theorem add_u (kb mb : Nat) (S : List Int) (s : ByteArray) (w : World) (hk : KM w kb mb S) (k : Nat) (r : Int) (hf : fnv_Of.f k s = some r) (hr : 0 ≤ r ∧ r < 18446744073709551616) :
    Calls Try.prog 66 #[.pointer (some ⟨kb, 0, none⟩), .string s] w fun e w' => e = .returned (.tuple #[]) ∧ KM w' kb mb (khash S r) ∧ KF w w' kb mb := by
  have C := fnv_Of.calls k s r w hf
  have HK := Lib.hid hk
  clear hk hf
  go_enter Try.func66, Try.ntmps66
  go_wp2_with (first
    | (go_at_call 102; refine C.mono ?_; rintro e w1 ⟨rfl, hd⟩; clear C; have hb := hd.below; have C2 := hash_u kb mb S r hr w1 (HK.out.block (hb.block kb (Array.getElem?_eq_some_iff.1 HK.out.cells.choose_spec.1).1) (hb.block mb HK.out.map.lt)); have HB := Lib.hid hb; clear hb hd)
    | (go_at_call 101; refine C2.mono ?_; rintro e w2 ⟨rfl, h2, hF⟩; clear C2))
  go_end0
  exact ⟨rfl, h2, (KF.below HB.out).trans hF⟩
end Go.Proofs.Ytncgjbocgbnkcaa
namespace Go.Proofs.Ytncgjbocgbnkcaa
set_option linter.unusedVariables false
set_option linter.unusedSimpArgs false
open Go.RowKit Go.Maps Go.Proofs.YtncgjbocgbnkcaaW.PrintWords Go.Proofs.Ytncgjbocgbnkcaa.Pure
theorem own_block {w : World} {base e z n m : Nat} {A : Option Addr} {c : Nat} {xs : List Value} (h : w.ownsRow base e z (.slice A n c) m xs) : ∀ ad, A = some ad → base ≤ ad.block := by
  intro ad e
  subst e
  exact (h.lt ad.block (by simp [Value.ownBlock])).1
set_option maxHeartbeats 1000000 in
set_option maxRecDepth 100000 in
theorem refHash_same (A : Option Addr) (c : Nat) (l : List Int) (hv : Int) (w : World) (hC : Kd.C (Kd.int .u64) w A l.length l) (hok : KOk l) (hcl : l.length ≤ c) :
    Calls Try.prog 106 #[.slice A l.length c, .int .u64 hv] w fun e w' => ∃ A' c', e = .returned (.slice A' (khash l hv).length c') ∧ (khash l hv).length ≤ c' ∧ Kd.C (Kd.int .u64) w' A' (khash l hv).length (khash l hv) ∧ Below w.heap.size w w' ∧ ((A' = A ∧ khash l hv = l) ∨ ∀ ad, A' = some ad → w.heap.size ≤ ad.block) := by
  have H := Lib.hid hC; have HO := Lib.hid hok
  have hL := hok.2
  clear hC hok
  go_enter Try.func106, Try.ntmps106
  go_wp2
  go_loopw [5] (fun vi wr => ∃ k : Nat, vi = .int .i64 k ∧ k ≤ l.length ∧ w = wr ∧ ∀ j (hj : j < k) (hl : j < l.length), l[j] < hv) (fun vi _ => l.length - (intOf vi).toNat)
  case atStart => exact ⟨0, rfl, Nat.zero_le _, rfl, fun j hj => by omega⟩
  case round =>
    obtain ⟨k, rfl, hkl, rfl, hI⟩ := hrel
    have II := Lib.hid hI
    clear hI
    by_cases hi : k < l.length
    · obtain ⟨ad, rfl, hc1⟩ := Kd.at_int H.out (k : Int) (by omega) (by omega)
      rw [Int.toNat_natCast, rd_nat hi] at hc1
      obtain ⟨x, hx⟩ : ∃ x, l[k] = x := ⟨_, rfl⟩
      rw [hx] at hc1
      have HX := Lib.hid hx
      have hd : decide ((k : Int) < (l.length : Int)) = true := decide_eq_true (by omega)
      clear hx
      by_cases hlt : x < hv
      · have hd2 : decide (x < hv) = true := decide_eq_true hlt
        go_wp2
        go_roundw
        case rel => exact ⟨k + 1, by go_num, by omega, by first | exact rfl | trivial, fun j hj hl => by
          rcases Nat.lt_or_ge j k with c | c
          · exact II.out j c hl
          · obtain rfl : j = k := by omega
            rw [HX.out]; exact hlt⟩
        case measure => simp [intOf]; omega
      · have hd2 : decide (x < hv) = false := decide_eq_false hlt
        by_cases he : x = hv
        · subst he
          have E := Lib.hid (khash_at HO.out.1 HO.out.2 hi HX.out)
          go_wp2
          go_ret
          rw [E.out]
          exact ⟨_, _, rfl, by first | omega | assumption, H.out, Below.refl _ _, .inl ⟨rfl, rfl⟩⟩
        · have he2 : (x == hv) = false := beq_eq_false_iff_ne.mpr he
          have hk : ¬ ((1024 : Int) ≤ (k : Int)) := by omega
          go_upto_region 6 with (fail)
          have h0 : w.ownsRow w.heap.size 41 1 (.slice none 0 0) ([] : List Int).length (nums .u64 []) := World.ownsRow_nil w _ _ _
          obtain ⟨i25, hi25, hz25⟩ := Option.map_eq_some_iff.1 info41
          simp only [Prod.mk.injEq] at hz25
          obtain ⟨T1, _⟩ := print_take_of (Value.int .u64) (0 : Int) 40 41 .i64 Try.underlying40 hi25 hz25.2.1 (some ad) c l (k : Int) (by omega) (by omega) hcl
          obtain ⟨A2, T2, T3, T4⟩ := print_drop_of (Value.int .u64) (0 : Int) 40 41 .i64 Try.underlying40 hi25 hz25.2.1 (some ad) c l (k : Int) (by omega) (by omega) hcl
          have r2 := T3 w (Kd.reads_of_C (d := (0 : Int)) H.out)
          rw [Int.toNat_natCast] at T1 T2 r2 T4
          have R2 := Lib.hid r2; have T5 := Lib.hid T4
          clear T3 T4 r2 hi25 hz25
          have r1 : ReadsInt w .u64 (some ad) k (l.take k) := by
            have := Kd.C_take H.out (show k ≤ l.length by omega)
            rw [List.length_take, Nat.min_eq_left (by omega)] at this
            exact Kd.reads_of_C (d := (0 : Int)) this
          have R1 := Lib.hid r1; have KL := Lib.hid (show (l.take k).length = k by rw [List.length_take]; omega)
          rw [show (l.take k).length = k by rw [List.length_take]; omega] at T1
          clear r1
          go_wp2_with (first
            | ((with_reducible refine gate_builtin (b := .append) (xs := #[.const (.slice none 0 0), .tmp 40]) rfl ?_); at_builtin; go_loud (refine print_append_row (w0 := w) w.heap.size rfl (.const (.slice none 0 0)) (.tmp 40) 40 41 .u64 8 rfl Try.underlying40 info41 (by decide) (.slice none 0 0) [] (l.take k) (some ad) k c rfl rfl h0 R1.out (Below.refl _ _) (Nat.le_refl _) (by simp; omega) ?_; intro v1 w1 ho1 hb1 hg1 hat1; rw [List.nil_append] at ho1; have b1 := hb1.size))
            | ((with_reducible refine gate_builtin (b := .append) (xs := #[.tmp 42, .tmp 44]) rfl ?_); at_builtin; go_loud (refine print_append_num (w0 := w) w.heap.size rfl (.tmp 42) (.tmp 44) 40 41 .u64 8 rfl Try.underlying40 info41 (by decide) v1 (l.take k) hv rfl rfl ho1 hb1 b1 (by rw [KL.out]; omega) ?_; intro v2 w2 ho2 hb2 hg2 hat2; have b2 := hb2.size; have r3 : ReadsInt w2 .u64 A2 (l.length - k) (l.drop k) := by have := Kd.reads_of_C (d := (0 : Int)) (Kd.C_below (Kd.C_of_reads (d := (0 : Int)) (h1 := fun _ => rfl) R2.out) hb2); rwa [List.length_drop] at this))
            | ((with_reducible refine gate_builtin (b := .append) (xs := #[.tmp 46, .tmp 49]) rfl ?_); at_builtin; go_loud (refine print_append_row (w0 := w) w.heap.size rfl (.tmp 46) (.tmp 49) 40 41 .u64 8 rfl Try.underlying40 info41 (by decide) v2 (l.take k ++ [hv]) (l.drop k) A2 (l.length - k) (c - k) rfl rfl ho2 r3 hb2 b2 (by rw [List.length_append, KL.out]; simp; omega) ?_; intro v3 w3 ho3 hb3 hg3 hat3; have b3 := hb3.size; obtain ⟨M, hM⟩ : ∃ M, l.take k ++ [hv] ++ l.drop k = M := ⟨_, rfl⟩; rw [hM] at ho3; have hml : M.length = l.length + 1 := (by rw [← hM, List.length_append, List.length_append, List.length_take, List.length_drop]; simp; omega); obtain ⟨A3, c3, rfl, hc3, hC3⟩ := C_of_own ho3; have HNB := Lib.hid (own_block ho3); have HE := Lib.hid (show khash l hv = M.take 1024 from (by rw [← hM, List.append_assoc]; exact khash_split (by omega) II.out (fun hk' => by rw [HX.out]; omega))); have HC3 := Lib.hid hC3; have HML := Lib.hid hml; clear hM hC3 ho3 hml)))
          all_goals first
            | (go_ret
               have hm2 : M.length ≤ 1024 := by omega
               rw [HE.out, List.take_of_length_le hm2]
               exact ⟨_, _, rfl, hc3, HC3.out, hb3, .inr HNB.out⟩)
            | (go_ret
               have hm2 : 1024 ≤ M.length := by omega
               have := Kd.C_take HC3.out hm2
               rw [HE.out]
               rw [List.length_take, Nat.min_eq_left hm2] at this ⊢
               exact ⟨_, _, rfl, by omega, this, hb3, .inr HNB.out⟩)
    · have hke : k = l.length := by omega
      have hd : decide ((k : Int) < (l.length : Int)) = false := decide_eq_false (by omega)
      by_cases hfull : 1024 ≤ k
      · have E := Lib.hid (khash_full HO.out.2 hkl hfull II.out)
        have hk : (1024 : Int) ≤ (k : Int) := by omega
        have HKE := Lib.hid hke
        clear hke
        go_wp2
        go_ret
        rw [E.out]
        exact ⟨_, _, rfl, by first | omega | assumption, H.out, Below.refl _ _, .inl ⟨rfl, rfl⟩⟩
      have hk : ¬ ((1024 : Int) ≤ (k : Int)) := by omega
      have HKE := Lib.hid hke
      clear hke
      go_upto_region 6 with (fail)
      have h0 : w.ownsRow w.heap.size 41 1 (.slice none 0 0) ([] : List Int).length (nums .u64 []) := World.ownsRow_nil w _ _ _
      obtain ⟨i25, hi25, hz25⟩ := Option.map_eq_some_iff.1 info41
      simp only [Prod.mk.injEq] at hz25
      obtain ⟨T1, _⟩ := print_take_of (Value.int .u64) (0 : Int) 40 41 .i64 Try.underlying40 hi25 hz25.2.1 A c l (k : Int) (by omega) (by omega) hcl
      obtain ⟨A2, T2, T3, T4⟩ := print_drop_of (Value.int .u64) (0 : Int) 40 41 .i64 Try.underlying40 hi25 hz25.2.1 A c l (k : Int) (by omega) (by omega) hcl
      have r2 := T3 w (Kd.reads_of_C (d := (0 : Int)) H.out)
      rw [Int.toNat_natCast] at T1 T2 r2 T4
      have R2 := Lib.hid r2; have T5 := Lib.hid T4
      clear T3 T4 r2 hi25 hz25
      have r1 : ReadsInt w .u64 A k (l.take k) := by
        have := Kd.C_take H.out (show k ≤ l.length by omega)
        rw [List.length_take, Nat.min_eq_left (by omega)] at this
        exact Kd.reads_of_C (d := (0 : Int)) this
      have R1 := Lib.hid r1; have KL := Lib.hid (show (l.take k).length = k by rw [List.length_take]; omega)
      rw [show (l.take k).length = k by rw [List.length_take]; omega] at T1
      clear r1
      go_wp2_with (first
        | ((with_reducible refine gate_builtin (b := .append) (xs := #[.const (.slice none 0 0), .tmp 40]) rfl ?_); at_builtin; go_loud (refine print_append_row (w0 := w) w.heap.size rfl (.const (.slice none 0 0)) (.tmp 40) 40 41 .u64 8 rfl Try.underlying40 info41 (by decide) (.slice none 0 0) [] (l.take k) A k c rfl rfl h0 R1.out (Below.refl _ _) (Nat.le_refl _) (by simp; omega) ?_; intro v1 w1 ho1 hb1 hg1 hat1; rw [List.nil_append] at ho1; have b1 := hb1.size))
        | ((with_reducible refine gate_builtin (b := .append) (xs := #[.tmp 42, .tmp 44]) rfl ?_); at_builtin; go_loud (refine print_append_num (w0 := w) w.heap.size rfl (.tmp 42) (.tmp 44) 40 41 .u64 8 rfl Try.underlying40 info41 (by decide) v1 (l.take k) hv rfl rfl ho1 hb1 b1 (by rw [KL.out]; omega) ?_; intro v2 w2 ho2 hb2 hg2 hat2; have b2 := hb2.size; have r3 : ReadsInt w2 .u64 A2 (l.length - k) (l.drop k) := by have := Kd.reads_of_C (d := (0 : Int)) (Kd.C_below (Kd.C_of_reads (d := (0 : Int)) (h1 := fun _ => rfl) R2.out) hb2); rwa [List.length_drop] at this))
        | ((with_reducible refine gate_builtin (b := .append) (xs := #[.tmp 46, .tmp 49]) rfl ?_); at_builtin; go_loud (refine print_append_row (w0 := w) w.heap.size rfl (.tmp 46) (.tmp 49) 40 41 .u64 8 rfl Try.underlying40 info41 (by decide) v2 (l.take k ++ [hv]) (l.drop k) A2 (l.length - k) (c - k) rfl rfl ho2 r3 hb2 b2 (by rw [List.length_append, KL.out]; simp; omega) ?_; intro v3 w3 ho3 hb3 hg3 hat3; have b3 := hb3.size; obtain ⟨M, hM⟩ : ∃ M, l.take k ++ [hv] ++ l.drop k = M := ⟨_, rfl⟩; rw [hM] at ho3; have hml : M.length = l.length + 1 := (by rw [← hM, List.length_append, List.length_append, List.length_take, List.length_drop]; simp; omega); obtain ⟨A3, c3, rfl, hc3, hC3⟩ := C_of_own ho3; have HNB := Lib.hid (own_block ho3); have HE := Lib.hid (show khash l hv = M.take 1024 from (by rw [← hM, List.append_assoc]; exact khash_split (by omega) II.out (fun hk' => absurd hk' hi))); have HC3 := Lib.hid hC3; have HML := Lib.hid hml; clear hM hC3 ho3 hml)))
      all_goals first
        | (go_ret
           have hm2 : M.length ≤ 1024 := by omega
           rw [HE.out, List.take_of_length_le hm2]
           exact ⟨_, _, rfl, hc3, HC3.out, hb3, .inr HNB.out⟩)
        | (go_ret
           have hm2 : 1024 ≤ M.length := by omega
           have := Kd.C_take HC3.out hm2
           rw [HE.out]
           rw [List.length_take, Nat.min_eq_left hm2] at this ⊢
           exact ⟨_, _, rfl, by omega, this, hb3, .inr HNB.out⟩)
end Go.Proofs.Ytncgjbocgbnkcaa
namespace Go.Proofs.Ytncgjbocgbnkcaa
set_option linter.unusedVariables false
set_option linter.unusedSimpArgs false
open Go.RowKit Go.Maps Go.Proofs.YtncgjbocgbnkcaaW.PrintWords Go.Proofs.YtncgjbocgbnkcaaW.PrintLast Go.Proofs.YtncgjbocgbnkcaaW.PrintMore Go.Proofs.Ytncgjbocgbnkcaa.Pure Go.Proofs.Ytncgjbocgbnkcaa.Q
theorem refAdd_u (A : Option Addr) (c : Nat) (l : List Int) (s : ByteArray) (w : World) (hC : Kd.C (Kd.int .u64) w A l.length l) (hok : KOk l) (hcl : l.length ≤ c) (k : Nat) (r : Int) (hf : varveref06_Of.f k s = some r) :
    Calls Try.prog 72 #[.slice A l.length c, .string s] w fun e w' => ∃ A' c', e = .returned (.slice A' (khash l r).length c') ∧ (khash l r).length ≤ c' ∧ Kd.C (Kd.int .u64) w' A' (khash l r).length (khash l r) ∧ Below w.heap.size w w' ∧ ((A' = A ∧ khash l r = l) ∨ ∀ ad, A' = some ad → w.heap.size ≤ ad.block) := by
  have C := varveref06_Of.calls k s r w hf
  have H := Lib.hid hC; have HO := Lib.hid hok; have HL := Lib.hid hcl
  clear hC hok hcl hf
  go_enter Try.func72, Try.ntmps72
  go_wp2_with (first
    | (go_at_call 107; refine C.mono ?_; rintro e w1 ⟨rfl, hd⟩; clear C; have hb := hd.below; have C2 := refHash_same A c l r w1 (Kd.C_below H.out hb) HO.out HL.out; have HB := Lib.hid hb; clear hb hd)
    | (go_at_call 106; refine C2.mono ?_; rintro e w2 ⟨A', c', rfl, h1, h2, h3, h4⟩; clear C2))
  go_ret
  exact ⟨A', c', rfl, h1, h2, HB.out.trans (h3.mono HB.out.size), h4.imp id (fun h ad e => Nat.le_trans HB.out.size (h ad e))⟩
end Go.Proofs.Ytncgjbocgbnkcaa
namespace Go.Proofs.Ytncgjbocgbnkcaa
set_option linter.unusedVariables false
set_option linter.unusedSimpArgs false
open Go.RowKit Go.Maps Go.Proofs.YtncgjbocgbnkcaaW.PrintWords Go.Proofs.YtncgjbocgbnkcaaW.PrintLast Go.Proofs.YtncgjbocgbnkcaaW.PrintMore Go.Proofs.Ytncgjbocgbnkcaa.Pure Go.Proofs.Ytncgjbocgbnkcaa.Q
theorem KF.belowOf {w0 w w' : World} {kb mb : Nat} (h : KF w w' kb mb) (hb : Below w0.heap.size w0 w) (h1 : w0.heap.size ≤ kb) (h2 : w0.heap.size ≤ mb) : Below w0.heap.size w0 w' :=
  ⟨h.1.trans hb.os, h.2.1.trans hb.tape, h.2.2.1.trans hb.output, Nat.le_trans hb.size h.2.2.2.1, fun i hi => (h.2.2.2.2 i (Nat.lt_of_lt_of_le hi hb.size) (by omega) (by omega)).trans (hb.block i hi)⟩
end Go.Proofs.Ytncgjbocgbnkcaa
namespace Go.Proofs.Ytncgjbocgbnkcaa
set_option linter.unusedVariables false
set_option linter.unusedSimpArgs false
open Go.RowKit Go.Maps Go.Proofs.YtncgjbocgbnkcaaW.PrintWords Go.Proofs.YtncgjbocgbnkcaaW.PrintLast Go.Proofs.YtncgjbocgbnkcaaW.PrintMore Go.Proofs.Ytncgjbocgbnkcaa.Pure Go.Proofs.Ytncgjbocgbnkcaa.Q
theorem fnv_round (s : ByteArray) (hs : s.size ≤ maxLen) : ∀ (n i : Nat) (x : Int), s.size - i = n → i ≤ s.size → 0 ≤ x ∧ x < 18446744073709551616 →
    ∃ r, fnv_More.l0 (n + 1) x s (s.size : Int) (i : Int) = some r ∧ varveref06_More.l0 (n + 1) x s (i : Int) = some r ∧ 0 ≤ r ∧ r < 18446744073709551616 := by
  have hM : maxLen = 9223372036854775807 := rfl
  intro n
  induction n with
  | zero =>
    intro i x h1 h2 hx
    refine ⟨x, ?_, ?_, hx⟩
    · rw [fnv_More.l0, if_neg (by omega)]
    · rw [varveref06_More.l0, if_neg (by omega)]
  | succ n ih =>
    intro i x h1 h2 hx
    obtain ⟨b, hb⟩ : ∃ b, Go.bits .xor .u64 x (IntKind.u64.wrap (bt s (i : Int))) = b := ⟨_, rfl⟩
    have hw : wrap64 ((i : Int) + 1) = ((i + 1 : Nat) : Int) := by unfold wrap64; omega
    obtain ⟨r, e1, e2, hr⟩ := ih (i + 1) (IntKind.u64.wrap (b * 1099511628211)) (by omega) (by omega) (by rw [IntKind.wrap_u64]; omega)
    refine ⟨r, ?_, ?_, hr⟩
    · rw [fnv_More.l0, if_pos (by omega), if_pos (by omega), if_pos (by omega), hb, hw]; exact e1
    · rw [varveref06_More.l0, if_pos (by omega), if_pos (by omega), hb, hw, ← e2]
      congr 1
      simp only [IntKind.wrap_u64]
      omega
end Go.Proofs.Ytncgjbocgbnkcaa
namespace Go.Proofs.Ytncgjbocgbnkcaa
set_option linter.unusedVariables false
set_option linter.unusedSimpArgs false
open Go.RowKit Go.Maps Go.Proofs.YtncgjbocgbnkcaaW.PrintWords Go.Proofs.YtncgjbocgbnkcaaW.PrintLast Go.Proofs.YtncgjbocgbnkcaaW.PrintMore Go.Proofs.Ytncgjbocgbnkcaa.Pure Go.Proofs.Ytncgjbocgbnkcaa.Q
instance (l : List Int) : Decidable (KOk l) := by unfold KOk; infer_instance
theorem refCheck_go (l : List Int) (hL : l.length ≤ 4611686018427387904) : ∀ (n i : Nat), l.length + 1 - i = n → 1 ≤ i → (∀ j, 1 ≤ j → j < i → j < l.length → rd l ((j : Int) - 1) < rd l j) →
    varveref08_Check.l0 (n + 1) l (i : Int) = some (decide (KOk l)) := by
  intro n
  induction n with
  | zero =>
    intro i h1 h2 h3
    rw [varveref08_Check.l0, if_neg (by omega)]
    congr 1
    refine decide_eq_decide.2 ⟨fun c => ⟨asc_steps fun j a b => h3 j a (by omega) b, by omega⟩, fun c => by have := c.2; omega⟩
  | succ n ih =>
    intro i h1 h2 h3
    by_cases hi : i < l.length
    · have w1 : wrap64 ((i : Int) - 1) = (i : Int) - 1 := by unfold wrap64; omega
      have w2 : wrap64 ((i : Int) + 1) = ((i + 1 : Nat) : Int) := by unfold wrap64; omega
      rw [varveref08_Check.l0, if_pos (by omega), if_pos (by omega), w1, if_pos (by omega), if_pos (by omega), w2]
      by_cases hp : rd l (i : Int) ≤ rd l ((i : Int) - 1)
      · rw [if_pos hp]
        congr 1
        refine (decide_eq_false fun c => ?_).symm
        have := asc_at c.1 (show i - 1 < i by omega) hi
        rw [show ((i - 1 : Nat) : Int) = (i : Int) - 1 by omega] at this
        omega
      · rw [if_neg hp]
        refine ih (i + 1) (by omega) (by omega) fun j a b c => ?_
        rcases Nat.lt_or_ge j i with d | d
        · exact h3 j a d c
        · obtain rfl : j = i := by omega
          omega
    · rw [varveref08_Check.l0, if_neg (by omega)]
      congr 1
      refine decide_eq_decide.2 ⟨fun c => ⟨asc_steps fun j a b => h3 j a (by omega) b, by omega⟩, fun c => by have := c.2; omega⟩
theorem refCheck_all (l : List Int) (hL : l.length ≤ 4611686018427387904) : varveref08_Check.f (l.length + 1) l = some (decide (KOk l)) := by
  unfold varveref08_Check.f
  exact refCheck_go l hL l.length 1 (by omega) (Nat.le_refl _) fun j a b _ => by omega
theorem kmvCheck_go (l : List Int) (hL : l.length ≤ 4611686018427387904) : ∀ (n i : Nat), l.length + 1 - i = n → 1 ≤ i → (∀ j, 1 ≤ j → j < i → j < l.length → rd l ((j : Int) - 1) < rd l j) →
    kmv_Check.l0 (2 * n + 2) l (i : Int) = some (decide (KOk l)) := by
  intro n
  induction n with
  | zero =>
    intro i h1 h2 h3
    rw [show 2 * 0 + 2 = 0 + 1 + 1 from rfl, kmv_Check.l0, if_neg (by omega), kmv_Check.j1, if_neg (by simp)]
    congr 1
    refine decide_eq_decide.2 ⟨fun c => ⟨asc_steps fun j a b => h3 j a (by omega) b, by omega⟩, fun c => by have := c.2; omega⟩
  | succ n ih =>
    intro i h1 h2 h3
    rw [show 2 * (n + 1) + 2 = (2 * n + 2) + 1 + 1 by omega, kmv_Check.l0]
    by_cases hi : i < l.length
    · rw [if_pos (by omega)]
      by_cases h4 : (i : Int) ≤ 1024
      · have w1 : wrap64 ((i : Int) - 1) = (i : Int) - 1 := by unfold wrap64; omega
        have w2 : wrap64 ((i : Int) + 1) = ((i + 1 : Nat) : Int) := by unfold wrap64; omega
        rw [decide_eq_true h4, kmv_Check.j1, if_pos rfl, if_pos (by omega), if_pos (by omega), w1, if_pos (by omega), if_pos (by omega), w2]
        by_cases hp : rd l (i : Int) ≤ rd l ((i : Int) - 1)
        · rw [if_pos hp]
          congr 1
          refine (decide_eq_false fun c => ?_).symm
          have := asc_at c.1 (show i - 1 < i by omega) hi
          rw [show ((i - 1 : Nat) : Int) = (i : Int) - 1 by omega] at this
          omega
        · rw [if_neg hp]
          refine ih (i + 1) (by omega) (by omega) fun j a b c => ?_
          rcases Nat.lt_or_ge j i with d | d
          · exact h3 j a d c
          · obtain rfl : j = i := by omega
            omega
      · rw [decide_eq_false h4, kmv_Check.j1, if_neg (by simp)]
        congr 1
        exact decide_eq_decide.2 ⟨fun c => by omega, fun c => by have := c.2; omega⟩
    · rw [if_neg (by omega), kmv_Check.j1, if_neg (by simp)]
      congr 1
      refine decide_eq_decide.2 ⟨fun c => ⟨asc_steps fun j a b => h3 j a (by omega) b, by omega⟩, fun c => by have := c.2; omega⟩
theorem kmvCheck_all (l : List Int) (hL : l.length ≤ 4611686018427387904) : kmv_Check.f (2 * l.length + 2) l = some (decide (KOk l)) := by
  unfold kmv_Check.f
  exact kmvCheck_go l hL l.length 1 (by omega) (Nat.le_refl _) fun j a b _ => by omega
end Go.Proofs.Ytncgjbocgbnkcaa
namespace Go.Proofs.Ytncgjbocgbnkcaa
set_option linter.unusedVariables false
set_option linter.unusedSimpArgs false
open Go.RowKit Go.Maps Go.Proofs.YtncgjbocgbnkcaaW.PrintWords Go.Proofs.YtncgjbocgbnkcaaW.PrintLast Go.Proofs.YtncgjbocgbnkcaaW.PrintMore Go.Proofs.Ytncgjbocgbnkcaa.Pure Go.Proofs.Ytncgjbocgbnkcaa.Q
/-- The Kmv's that the call made, by their blocks: unlike ones, and nothing that was there before has changed. -/
def KS (w0 W : World) (m : List (Nat × Nat × List Int)) : Prop :=
  (∀ p ∈ m, KM W p.1 p.2.1 p.2.2 ∧ w0.heap.size ≤ p.1 ∧ w0.heap.size ≤ p.2.1) ∧
  (∀ (i j : Nat) (p q : Nat × Nat × List Int), i ≠ j → m[i]? = some p → m[j]? = some q → p.1 ≠ q.1 ∧ p.1 ≠ q.2.1 ∧ p.2.1 ≠ q.1 ∧ p.2.1 ≠ q.2.1) ∧ Below w0.heap.size w0 W
theorem KM.lt {w : World} {kb mb : Nat} {S : List Int} (h : KM w kb mb S) : kb < w.heap.size ∧ mb < w.heap.size := by
  obtain ⟨t, e, _⟩ := h.cells
  exact ⟨(Array.getElem?_eq_some_iff.1 e).1, h.map.lt⟩
theorem KM.below {w w' : World} {kb mb : Nat} {S : List Int} (h : KM w kb mb S) (hb : Below w.heap.size w w') : KM w' kb mb S :=
  h.block (hb.block kb h.lt.1) (hb.block mb h.lt.2)
theorem KM.kf {w w' : World} {kb mb k m : Nat} {S : List Int} (h : KM w kb mb S) (hf : KF w w' k m) (h1 : kb ≠ k) (h2 : kb ≠ m) (h3 : mb ≠ k) (h4 : mb ≠ m) : KM w' kb mb S :=
  h.block (hf.2.2.2.2 kb h.lt.1 h1 h2) (hf.2.2.2.2 mb h.lt.2 h3 h4)
theorem KS.nil (w : World) : KS w w [] := ⟨fun p hp => by simp at hp, fun i j p q _ h => by simp at h, Below.refl _ _⟩
theorem KS.bel {w0 W : World} {m : List (Nat × Nat × List Int)} (h : KS w0 W m) : Below w0.heap.size w0 W := h.2.2
theorem KS.at_ {w0 W : World} {m : List (Nat × Nat × List Int)} (h : KS w0 W m) (i : Nat) {k b : Nat} {s : List Int} (hi : m[i]? = some (k, b, s)) : KM W k b s ∧ w0.heap.size ≤ k ∧ w0.heap.size ≤ b :=
  h.1 _ (List.mem_of_getElem? hi)
theorem KS.below {w0 W W' : World} {m : List (Nat × Nat × List Int)} (h : KS w0 W m) (hb : Below W.heap.size W W') : KS w0 W' m :=
  ⟨fun p hp => ⟨(h.1 p hp).1.below hb, (h.1 p hp).2⟩, h.2.1, h.2.2.trans (hb.mono h.2.2.size)⟩
theorem KS.drawn {w0 W W' : World} {m : List (Nat × Nat × List Int)} (h : KS w0 W m) (hb : Drawn0 W W') : KS w0 W' m := h.below hb.below
theorem KS.more {w0 W W' : World} {m : List (Nat × Nat × List Int)} (h : KS w0 W m) {k b : Nat} {s : List Int} (hb : Below W.heap.size W W') (hg : KM W' k b s) (hk : W.heap.size ≤ k) (hm : W.heap.size ≤ b) : KS w0 W' (m ++ [(k, b, s)]) := by
  have hB := h.below hb
  refine ⟨fun p hp => ?_, fun i j p q hij hp hq => ?_, hB.2.2⟩
  · rcases List.mem_append.1 hp with hp | hp
    · exact hB.1 p hp
    · rw [List.mem_singleton] at hp
      subst hp
      exact ⟨hg, Nat.le_trans h.2.2.size hk, Nat.le_trans h.2.2.size hm⟩
  · have old : ∀ (i : Nat) (p : Nat × Nat × List Int), (m ++ [(k, b, s)])[i]? = some p → (m[i]? = some p ∧ i < m.length) ∨ (i = m.length ∧ p = (k, b, s)) := fun i p hp => by
      rcases Nat.lt_or_ge i m.length with c | c
      · rw [List.getElem?_append_left c] at hp; exact .inl ⟨hp, c⟩
      · rw [List.getElem?_append_right c] at hp
        rcases Nat.lt_or_ge m.length i with d | d
        · rw [List.getElem?_eq_none (by simp; omega)] at hp; cases hp
        · obtain rfl : i = m.length := by omega
          rw [Nat.sub_self] at hp
          exact .inr ⟨rfl, (Option.some.inj hp).symm⟩
    rcases old i p hp with ⟨hp, hi⟩ | ⟨hi, rfl⟩ <;> rcases old j q hq with ⟨hq, hj⟩ | ⟨hj, rfl⟩
    · exact h.2.1 i j p q hij hp hq
    · have := (h.1 p (List.mem_of_getElem? hp)).1.lt
      simp only
      omega
    · have := (h.1 q (List.mem_of_getElem? hq)).1.lt
      simp only
      omega
    · omega
theorem KS.put {w0 W W' : World} {m : List (Nat × Nat × List Int)} (h : KS w0 W m) (i : Nat) {k b : Nat} {s s' : List Int} (hi : m[i]? = some (k, b, s)) (hk : KF W W' k b) (hg : KM W' k b s') : KS w0 W' (m.set i (k, b, s')) := by
  have hlt : i < m.length := (List.getElem?_eq_some_iff.1 hi).1
  have hb : Below w0.heap.size w0 W' := hk.belowOf h.bel (h.at_ i hi).2.1 (h.at_ i hi).2.2
  have old : ∀ (j : Nat) (p : Nat × Nat × List Int), (m.set i (k, b, s'))[j]? = some p → (i = j ∧ p = (k, b, s')) ∨ (i ≠ j ∧ m[j]? = some p) := fun j p hp => by
    rw [List.getElem?_set] at hp
    by_cases c : i = j
    · rw [if_pos c, if_pos (by omega)] at hp
      exact .inl ⟨c, (Option.some.inj hp).symm⟩
    · rw [if_neg c] at hp
      exact .inr ⟨c, hp⟩
  refine ⟨fun p hp => ?_, fun j l p q hjl hp hq => ?_, hb⟩
  · obtain ⟨j, hj⟩ := List.getElem?_of_mem hp
    rcases old j p hj with ⟨_, rfl⟩ | ⟨c, hj⟩
    · exact ⟨hg, (h.at_ i hi).2⟩
    · have hm := h.1 p (List.mem_of_getElem? hj)
      have := h.2.1 j i p _ (Ne.symm c) hj hi
      exact ⟨hm.1.kf hk this.1 this.2.1 this.2.2.1 this.2.2.2, hm.2⟩
  · rcases old j p hp with ⟨hj, rfl⟩ | ⟨cj, hp⟩ <;> rcases old l q hq with ⟨hl, rfl⟩ | ⟨cl, hq⟩
    · omega
    · exact h.2.1 i l (k, b, s) q cl hi hq
    · exact h.2.1 j i p (k, b, s) (Ne.symm cj) hp hi
    · exact h.2.1 j l p q hjl hp hq
theorem KS.new {w0 W : World} {m : List (Nat × Nat × List Int)} (h : KS w0 W m) :
    Calls Try.prog 65 #[] W fun e w' => ∃ k b, e = .returned (.pointer (some ⟨k, 0, none⟩)) ∧ KS w0 w' (m ++ [(k, b, [])]) ∧ Below W.heap.size W w' :=
  (new_u W).mono fun _ _ ⟨k, b, he, hk, l1, l2, hb⟩ => ⟨k, b, he, h.more hb hk l1 l2, hb⟩
theorem KS.hash {w0 W : World} {m : List (Nat × Nat × List Int)} (h : KS w0 W m) (i : Nat) {k b : Nat} {s : List Int} (hi : m[i]? = some (k, b, s)) {v : Int} (hv : 0 ≤ v ∧ v < 18446744073709551616) :
    Calls Try.prog 101 #[.pointer (some ⟨k, 0, none⟩), .int .u64 v] W fun e w' => e = .returned (.tuple #[]) ∧ KS w0 w' (m.set i (k, b, khash s v)) ∧ KF W w' k b :=
  (hash_u k b s v hv W (h.at_ i hi).1).mono fun _ _ ⟨he, hk, hf⟩ => ⟨he, h.put i hi hf hk, hf⟩
theorem KS.add {w0 W : World} {m : List (Nat × Nat × List Int)} (h : KS w0 W m) (i : Nat) {k b : Nat} {s : List Int} (hi : m[i]? = some (k, b, s)) {t : ByteArray} {n : Nat} {v : Int} (hf : fnv_Of.f n t = some v) (hv : 0 ≤ v ∧ v < 18446744073709551616) :
    Calls Try.prog 66 #[.pointer (some ⟨k, 0, none⟩), .string t] W fun e w' => e = .returned (.tuple #[]) ∧ KS w0 w' (m.set i (k, b, khash s v)) ∧ KF W w' k b :=
  (add_u k b s t W (h.at_ i hi).1 n v hf hv).mono fun _ _ ⟨he, hk, hf⟩ => ⟨he, h.put i hi hf hk, hf⟩
theorem KS.hashes {w0 W : World} {m : List (Nat × Nat × List Int)} (h : KS w0 W m) (i : Nat) {k b : Nat} {s : List Int} (hi : m[i]? = some (k, b, s)) :
    Calls Try.prog 69 #[.pointer (some ⟨k, 0, none⟩)] W fun e w' => ∃ A c, e = .returned (.slice A s.length c) ∧ s.length ≤ c ∧ Kd.C (Kd.int .u64) w' A s.length s ∧ w'.ownsRow W.heap.size 41 1 (.slice A s.length c) s.length (nums .u64 s) ∧ KS w0 w' m ∧ Below W.heap.size W w' :=
  (hashes_u k b s W (h.at_ i hi).1).mono fun _ _ ⟨v, he, ho, hb⟩ => by
    obtain ⟨A, c, rfl, hc, hC⟩ := C_of_own ho
    exact ⟨A, c, he, hc, hC, ho, h.below hb, hb⟩
/-- Merge of a list that neither block of this Kmv holds. -/
theorem KS.merge {w0 W : World} {m : List (Nat × Nat × List Int)} (h : KS w0 W m) (i : Nat) {k b : Nat} {s : List Int} (hi : m[i]? = some (k, b, s)) {A : Option Addr} {c : Nat} {l : List Int} (hC : Kd.C (Kd.int .u64) W A l.length l) (hA : ∀ ad, A = some ad → 0 < l.length → ad.block ≠ k ∧ ad.block ≠ b)
    (hr : ∀ x ∈ l, 0 ≤ x ∧ x < 18446744073709551616) (hok : KOk l) :
    Calls Try.prog 87 #[.pointer (some ⟨k, 0, none⟩), .slice A l.length c] W fun e w' => e = .returned (.int .i64 0) ∧ KS w0 w' (m.set i (k, b, kmany s l)) ∧ KF W w' k b :=
  (merge_u k b s A c l W (h.at_ i hi).1 hC hA hr hok).mono fun _ _ ⟨he, hk, hf⟩ => ⟨he, h.put i hi hf hk, hf⟩
theorem C_block {w : World} {A : Option Addr} {l : List Int} (h : Kd.C (Kd.int .u64) w A l.length l) : ∀ ad, A = some ad → 0 < l.length → ad.block < w.heap.size := fun ad e hl => by
  obtain ⟨ad', e', hc⟩ := Kd.at_int h (0 : Int) (by omega) (by omega)
  obtain rfl : ad = ad' := by rw [e] at e'; injection e'
  have := cell_lt hc
  have eb : (ad.add (0 : Int).toNat).block = ad.block := by unfold Addr.add; split <;> rfl
  rwa [eb] at this
/-- Merge of a list that came in. -/
theorem KS.mergeOld {w0 W : World} {m : List (Nat × Nat × List Int)} (h : KS w0 W m) (i : Nat) {k b : Nat} {s : List Int} (hi : m[i]? = some (k, b, s)) {A : Option Addr} {c : Nat} {l : List Int} (hC : Kd.C (Kd.int .u64) w0 A l.length l)
    (hr : ∀ x ∈ l, 0 ≤ x ∧ x < 18446744073709551616) (hok : KOk l) :
    Calls Try.prog 87 #[.pointer (some ⟨k, 0, none⟩), .slice A l.length c] W fun e w' => e = .returned (.int .i64 0) ∧ KS w0 w' (m.set i (k, b, kmany s l)) ∧ KF W w' k b :=
  h.merge i hi (Kd.C_below hC h.bel) (fun ad e hl => by have := C_block hC ad e hl; have := (h.at_ i hi).2; omega) hr hok
end Go.Proofs.Ytncgjbocgbnkcaa
namespace Go.Proofs.Ytncgjbocgbnkcaa
set_option linter.unusedVariables false
set_option linter.unusedSimpArgs false
open Go.RowKit Go.Maps Go.Proofs.YtncgjbocgbnkcaaW.PrintWords Go.Proofs.YtncgjbocgbnkcaaW.PrintLast Go.Proofs.YtncgjbocgbnkcaaW.PrintMore Go.Proofs.Ytncgjbocgbnkcaa.Pure Go.Proofs.Ytncgjbocgbnkcaa.Q
/-- How a list of numbers is read. -/
def Pure.WU (l : List Int) : Prop := l.length * 8 ≤ 140737488351232 ∧ l.length ≤ 9223372036854775807 ∧ ∀ x ∈ l, (Lit.int .u64 x).wf = true
theorem opens40 : Opens Try.prog 40 (Kd.slice 41 (Kd.int .u64)) Pure.WU := opens_slice Try.underlying40 (by kernel_rfl) (by kernel_rfl) (opens_int Try.underlying41)
theorem U_of {x : Int} (h : (Lit.int .u64 x).wf = true) : 0 ≤ x ∧ x < 18446744073709551616 := by
  have e1 : IntKind.u64.min = 0 := by decide
  have e2 : IntKind.u64.max = 18446744073709551615 := by decide
  simp only [Lit.wf, e1, e2, Bool.and_eq_true, decide_eq_true_eq] at h; omega
theorem Pure.WU.num {l : List Int} (h : Pure.WU l) : ∀ x ∈ l, 0 ≤ x ∧ x < 18446744073709551616 := fun x hx => U_of (h.2.2 x hx)
theorem Pure.WU.len {l : List Int} (h : Pure.WU l) : l.length ≤ 17592186043904 := by have := h.1; omega
theorem KGood.of {l : List Int} (h : Pure.WU l) (hk : KOk l) : KGood l := ⟨hk.1, hk.2, h.num⟩
end Go.Proofs.Ytncgjbocgbnkcaa
namespace Go.Proofs.Ytncgjbocgbnkcaa
set_option linter.unusedVariables false
set_option linter.unusedSimpArgs false
open Go.RowKit Go.Proofs.YtncgjbocgbnkcaaW.PrintWords Go.Proofs.YtncgjbocgbnkcaaW.PrintLast Go.Proofs.YtncgjbocgbnkcaaW.PrintMore
/-- No number: the bits of a float that is none. -/
def nanB (b : Int) : Bool := decide (9218868437227405312 < b % 9223372036854775808)
theorem order_self (n : Nat) : (FloatKind.f64.format.order n n != some .eq) = nanB (n : Int) := by
  have e1 : Ieee.double.signWeight = 9223372036854775808 := by decide
  have e2 : Ieee.double.infRung = 9218868437227405312 := by decide
  have e3 : Ieee.double.binade = 4503599627370496 := by decide
  have hF : FloatKind.f64.format = Ieee.double := rfl
  rw [hF]
  unfold Ieee.Format.order Ieee.Format.read nanB
  rw [e1, e2, e3]
  simp only
  generalize (n / 9223372036854775808 % 2 == 1) = s
  obtain ⟨r, hr⟩ : ∃ r, n % 9223372036854775808 = r := ⟨_, rfl⟩
  have hr' : (n : Int) % 9223372036854775808 = (r : Int) := by omega
  rw [hr, hr']
  by_cases a : r < 4503599627370496
  · rw [if_pos a, decide_eq_false (by omega)]
    simp [Ieee.Datum.order]
  · rw [if_neg a]
    by_cases b : r < 9218868437227405312
    · rw [if_pos b, decide_eq_false (by omega)]
      simp [Ieee.Datum.order]
    · rw [if_neg b]
      by_cases c : r = 9218868437227405312
      · rw [if_pos c, decide_eq_false (by omega)]
        simp [Ieee.Datum.order]
      · rw [if_neg c, decide_eq_true (by omega)]
        simp [Ieee.Datum.order]
theorem run_frombits (x : Int) (w : World) : (callFunc 124 #[.int .u64 x]).run Try.prog w = .ok (.value (.float .f64 x.toNat)) w := by
  rw [run_callFunc_extern Try.func124 (by kernel_rfl) (by kernel_rfl) (by kernel_rfl) (e := Go.Extern.MathFloatBits.float64frombits) (by kernel_rfl)]
  rfl
set_option maxHeartbeats 400000 in
theorem isnan_any (x : Nat) (w : World) : Calls Try.prog 123 #[.float .f64 x] w fun e w' => e = .returned (.bool (nanB (x : Int))) ∧ w = w' := by
  have ho := order_self x
  obtain ⟨r, hr⟩ : ∃ r, nanB (x : Int) = r := ⟨_, rfl⟩
  rw [hr] at ho ⊢
  clear hr
  go_enter Try.func123, Try.ntmps123
  go_wp2
  go_ret
  exact ⟨rfl, rfl⟩
set_option maxHeartbeats 400000 in
theorem none_any (b : Int) (w : World) (h0 : 0 ≤ b) : Calls Try.prog 103 #[.int .u64 b] w fun e w' => e = .returned (.bool (nanB b)) ∧ w = w' := by
  have C := fun w => isnan_any b.toNat w
  rw [show ((b.toNat : Nat) : Int) = b by omega] at C
  have hfb := fun w => run_frombits b w
  obtain ⟨r, hr⟩ : ∃ r, nanB b = r := ⟨_, rfl⟩
  obtain ⟨n, hn⟩ : ∃ n, b.toNat = n := ⟨_, rfl⟩
  rw [hr] at C ⊢
  rw [hn] at C hfb
  clear hr hn
  go_enter Try.func103, Try.ntmps103
  go_wp2_with (first | (go_at_call 123; refine (C _).mono ?_; rintro e w' ⟨rfl, rfl⟩) | simp only [hfb])
  go_ret
  exact ⟨rfl, rfl⟩
/-- The exponent's bits and the fraction's. -/
def expB (b : Int) : Int := b / 4503599627370496 % 2048
def fracB (b : Int) : Int := b % 4503599627370496
theorem and_mask (x k : Nat) (m : Nat) (hm : m + 1 = 2 ^ k) (hx : x < 18446744073709551616) (hm2 : m < 18446744073709551616) : bits .and .u64 (x : Int) (m : Int) = ((x % (m + 1) : Nat) : Int) := by
  have h := bits_and_u64_nat x m hx hm2
  have e : x &&& m = x % (m + 1) := by
    have := Nat.and_two_pow_sub_one_eq_mod x k
    rw [← hm, Nat.add_sub_cancel] at this
    exact this
  rw [e] at h
  exact h
theorem exp_bits (b : Int) (h0 : 0 ≤ b) (h1 : b < 18446744073709551616) : bits .and .u64 (b / 4503599627370496) 2047 = expB b := by
  obtain ⟨n, rfl⟩ : ∃ n : Nat, b = n := ⟨b.toNat, by omega⟩
  have := and_mask (n / 4503599627370496) 11 2047 (by decide) (by omega) (by decide)
  unfold expB
  rw [show (n : Int) / 4503599627370496 = ((n / 4503599627370496 : Nat) : Int) by omega]
  exact this
theorem frac_bits (b : Int) (h0 : 0 ≤ b) (h1 : b < 18446744073709551616) : bits .and .u64 b 4503599627370495 = fracB b := by
  obtain ⟨n, rfl⟩ : ∃ n : Nat, b = n := ⟨b.toNat, by omega⟩
  exact and_mask n 52 4503599627370495 (by decide) (by omega) (by decide)
theorem exp_range (b : Int) : 0 ≤ expB b ∧ expB b < 2048 := by unfold expB; omega
set_option maxHeartbeats 400000 in
theorem parts_any (b : Int) (w : World) (h0 : 0 ≤ b) (h1 : b < 18446744073709551616) : Calls Try.prog 147 #[.int .u64 b] w fun e w' => e = .returned (.tuple #[.int .i64 (expB b), .int .u64 (fracB b)]) ∧ w = w' := by
  have e1 := exp_bits b h0 h1
  have e2 := frac_bits b h0 h1
  have e3 := exp_range b
  obtain ⟨p, hp⟩ : ∃ p, expB b = p := ⟨_, rfl⟩
  obtain ⟨q, hq⟩ : ∃ q, fracB b = q := ⟨_, rfl⟩
  rw [hp] at e1 e3 ⊢
  rw [hq] at e2 ⊢
  clear hp hq
  obtain ⟨e3, e4⟩ := e3
  go_enter Try.func147, Try.ntmps147
  go_wp2
  go_ret2
  exact ⟨rfl, rfl⟩
/-- What a float is. -/
def kindB (b : Int) : Int := if nanB b then 4 else if expB b = 2047 then 3 else if 0 < expB b then 1 else if 0 < fracB b then 2 else 0
set_option maxHeartbeats 1000000 in
theorem kind_any (b : Int) (w : World) (h0 : 0 ≤ b) (h1 : b < 18446744073709551616) : Calls Try.prog 130 #[.int .u64 b] w fun e w' => e = .returned (.int .i64 (kindB b)) ∧ w = w' := by
  have C := fun w => isnan_any b.toNat w
  rw [show ((b.toNat : Nat) : Int) = b by omega] at C
  have hfb := fun w => run_frombits b w
  have P := fun w => parts_any b w h0 h1
  have e3 := exp_range b
  unfold kindB
  obtain ⟨r, hr⟩ : ∃ r, nanB b = r := ⟨_, rfl⟩
  obtain ⟨n, hn⟩ : ∃ n, b.toNat = n := ⟨_, rfl⟩
  obtain ⟨p, hp⟩ : ∃ p, expB b = p := ⟨_, rfl⟩
  obtain ⟨q, hq⟩ : ∃ q, fracB b = q := ⟨_, rfl⟩
  rw [hr] at C ⊢
  rw [hn] at C hfb
  rw [hp] at P e3 ⊢
  rw [hq] at P ⊢
  clear hr hn hp hq
  cases r
  · rw [if_neg (by simp)]
    by_cases k1 : p = 2047
    · subst k1
      rw [if_pos rfl]
      clear e3
      go_enter Try.func130, Try.ntmps130
      go_wp2_with (first | (go_at_call 147; refine (P _).mono ?_; rintro e w' ⟨rfl, rfl⟩) | (go_at_call 123; refine (C _).mono ?_; rintro e w' ⟨rfl, rfl⟩) | simp only [hfb])
      go_ret
      exact ⟨rfl, rfl⟩
    · rw [if_neg k1]
      have d1 : (p == 2047) = false := beq_eq_false_iff_ne.2 k1
      by_cases k2 : 0 < p
      · rw [if_pos k2]
        have d2 : decide (0 < p) = true := decide_eq_true k2
        clear e3 k1
        go_enter Try.func130, Try.ntmps130
        go_wp2_with (first | (go_at_call 147; refine (P _).mono ?_; rintro e w' ⟨rfl, rfl⟩) | (go_at_call 123; refine (C _).mono ?_; rintro e w' ⟨rfl, rfl⟩) | simp only [hfb])
        go_ret
        exact ⟨rfl, rfl⟩
      · rw [if_neg k2]
        have d2 : decide (0 < p) = false := decide_eq_false k2
        by_cases k3 : 0 < q
        · rw [if_pos k3]
          have d3 : decide (0 < q) = true := decide_eq_true k3
          clear e3 k1 k2
          go_enter Try.func130, Try.ntmps130
          go_wp2_with (first | (go_at_call 147; refine (P _).mono ?_; rintro e w' ⟨rfl, rfl⟩) | (go_at_call 123; refine (C _).mono ?_; rintro e w' ⟨rfl, rfl⟩) | simp only [hfb])
          go_ret
          exact ⟨rfl, rfl⟩
        · rw [if_neg k3]
          have d3 : decide (0 < q) = false := decide_eq_false k3
          clear e3 k1 k2 k3
          go_enter Try.func130, Try.ntmps130
          go_wp2_with (first | (go_at_call 147; refine (P _).mono ?_; rintro e w' ⟨rfl, rfl⟩) | (go_at_call 123; refine (C _).mono ?_; rintro e w' ⟨rfl, rfl⟩) | simp only [hfb])
          go_ret
          exact ⟨rfl, rfl⟩
  · rw [if_pos rfl]
    clear e3
    go_enter Try.func130, Try.ntmps130
    go_wp2_with (first | (go_at_call 147; refine (P _).mono ?_; rintro e w' ⟨rfl, rfl⟩) | (go_at_call 123; refine (C _).mono ?_; rintro e w' ⟨rfl, rfl⟩) | simp only [hfb])
    go_ret
    exact ⟨rfl, rfl⟩
end Go.Proofs.Ytncgjbocgbnkcaa
namespace Go.Proofs.Ytncgjbocgbnkcaa
set_option linter.unusedVariables false
set_option linter.unusedSimpArgs false
open Go.RowKit Go.Proofs.YtncgjbocgbnkcaaW.PrintWords Go.Proofs.YtncgjbocgbnkcaaW.PrintLast Go.Proofs.YtncgjbocgbnkcaaW.PrintMore
def keyB (b : Int) : Int := if 9223372036854775808 ≤ b then 18446744073709551615 - b else b + 9223372036854775808
theorem sign_bits (b : Int) (h0 : 0 ≤ b) (h1 : b < 18446744073709551616) : bits .and .u64 b 9223372036854775808 = if 9223372036854775808 ≤ b then 9223372036854775808 else 0 := by
  obtain ⟨n, rfl⟩ : ∃ n : Nat, b = n := ⟨b.toNat, by omega⟩
  have h := bits_and_u64_nat n 9223372036854775808 (by omega) (by decide)
  have e : n &&& 9223372036854775808 = if 9223372036854775808 ≤ n then 9223372036854775808 else 0 := by
    have hb : n.testBit 63 = decide (9223372036854775808 ≤ n) := by
      rw [Nat.testBit_eq_decide_div_mod_eq]
      exact decide_eq_decide.2 ⟨fun c => by omega, fun c => by omega⟩
    refine Nat.eq_of_testBit_eq fun i => ?_
    rw [Nat.testBit_and, show (9223372036854775808 : Nat) = 2 ^ 63 from rfl, Nat.testBit_two_pow]
    by_cases c : 9223372036854775808 ≤ n
    · rw [if_pos c, Nat.testBit_two_pow]
      by_cases d : 63 = i
      · subst d; rw [hb, decide_eq_true c]; rfl
      · rw [decide_eq_false d, Bool.and_false]
    · rw [if_neg c, Nat.zero_testBit]
      by_cases d : 63 = i
      · subst d; rw [hb, decide_eq_false c]; rfl
      · rw [decide_eq_false d, Bool.and_false]
  rw [e] at h
  refine (show bits .and .u64 (n : Int) 9223372036854775808 = _ from h).trans ?_
  by_cases c : 9223372036854775808 ≤ n
  · rw [if_pos c, if_pos (by omega)]; rfl
  · rw [if_neg c, if_neg (by omega)]; rfl
theorem not_bits (b : Int) (h0 : 0 ≤ b) (h1 : b < 18446744073709551616) : bits .xor .u64 IntKind.u64.max b = 18446744073709551615 - b := by
  obtain ⟨n, rfl⟩ : ∃ n : Nat, b = n := ⟨b.toNat, by omega⟩
  have h := bits_xor_u64_nat 18446744073709551615 n (by decide) (by omega)
  have e : 18446744073709551615 ^^^ n = 18446744073709551615 - n := by
    refine Nat.eq_of_testBit_eq fun i => ?_
    rw [Nat.testBit_xor, show (18446744073709551615 : Nat) = 2 ^ 64 - 1 from rfl, Nat.testBit_two_pow_sub_one, show 2 ^ 64 - 1 - n = 2 ^ 64 - (n + 1) by omega, Nat.testBit_two_pow_sub_succ (by omega)]
    by_cases d : i < 64
    · rw [decide_eq_true d]; simp
    · rw [decide_eq_false d, Nat.testBit_lt_two_pow (Nat.lt_of_lt_of_le (show n < 2 ^ 64 by omega) (Nat.pow_le_pow_right (by decide) (by omega)))]; rfl
  rw [e] at h
  refine (show bits .xor .u64 IntKind.u64.max (n : Int) = _ from h).trans ?_
  omega
theorem turn_bits (b : Int) (h0 : 0 ≤ b) (h1 : b < 9223372036854775808) : bits .xor .u64 b 9223372036854775808 = b + 9223372036854775808 := by
  obtain ⟨n, rfl⟩ : ∃ n : Nat, b = n := ⟨b.toNat, by omega⟩
  have h := bits_xor_u64_nat n 9223372036854775808 (by omega) (by decide)
  have e : n ^^^ 9223372036854775808 = 9223372036854775808 + n := by
    refine Nat.eq_of_testBit_eq fun i => ?_
    rw [Nat.testBit_xor, show (9223372036854775808 : Nat) = 2 ^ 63 from rfl, Nat.testBit_two_pow]
    rcases Nat.lt_trichotomy i 63 with d | d | d
    · rw [Nat.testBit_two_pow_add_gt d, decide_eq_false (by omega), Bool.xor_false]
    · subst d; rw [Nat.testBit_two_pow_add_eq, decide_eq_true rfl, Bool.xor_true]
    · have l1 : n < 2 ^ i := Nat.lt_of_lt_of_le (show n < 2 ^ 63 by omega) (Nat.pow_le_pow_right (by decide) (by omega))
      have l2 : 2 ^ 63 + n < 2 ^ i := Nat.lt_of_lt_of_le (show 2 ^ 63 + n < 2 ^ 64 by omega) (Nat.pow_le_pow_right (by decide) (by omega))
      rw [Nat.testBit_lt_two_pow l1, Nat.testBit_lt_two_pow l2, decide_eq_false (by omega)]; rfl
  rw [e] at h
  refine (show bits .xor .u64 (n : Int) 9223372036854775808 = _ from h).trans ?_
  omega
set_option maxHeartbeats 400000 in
theorem key_any (b : Int) (w : World) (h0 : 0 ≤ b) (h1 : b < 18446744073709551616) : Calls Try.prog 131 #[.int .u64 b] w fun e w' => e = .returned (.int .u64 (keyB b)) ∧ w = w' := by
  have e1 := sign_bits b h0 h1
  unfold keyB
  by_cases c : 9223372036854775808 ≤ b
  · rw [if_pos c] at e1 ⊢
    have e2 := Lib.hid (not_bits b h0 h1)
    clear c
    go_enter Try.func131, Try.ntmps131
    go_wp2
    go_ret
    exact ⟨congrArg (fun x => Ending.returned (Value.int .u64 x)) e2.out, rfl⟩
  · rw [if_neg c] at e1 ⊢
    have e2 := Lib.hid (turn_bits b h0 (by omega))
    go_enter Try.func131, Try.ntmps131
    go_wp2
    go_ret
    exact ⟨congrArg (fun x => Ending.returned (Value.int .u64 x)) e2.out, rfl⟩
end Go.Proofs.Ytncgjbocgbnkcaa
namespace Go.Proofs.Ytncgjbocgbnkcaa.Gb
open Go.RowKit Go.Proofs.YtncgjbocgbnkcaaW.PrintWords Go.Proofs.YtncgjbocgbnkcaaW.PrintLast Go.Proofs.YtncgjbocgbnkcaaW.PrintMore
attribute [local go_sem] max2_int min2_int max_two min_two max_three min_three max_four min_four   -- for this text's walks alone
set_option linter.unusedVariables false
set_option linter.unusedSimpArgs false
def errW : Option Int → Value
  | none => .nilIface
  | some c => .iface 0 (.int .i64 c)
theorem errW_none : errW none = .nilIface := rfl
theorem errW_some (c : Int) : errW (some c) = .iface 0 (.int .i64 c) := rfl
end Go.Proofs.Ytncgjbocgbnkcaa.Gb
namespace Go.Proofs.Ytncgjbocgbnkcaa.Gb
open Go.RowKit Go.Proofs.YtncgjbocgbnkcaaW.PrintWords Go.Proofs.YtncgjbocgbnkcaaW.PrintLast Go.Proofs.YtncgjbocgbnkcaaW.PrintMore
attribute [local go_sem] max2_int min2_int max_two min_two max_three min_three max_four min_four   -- for this text's walks alone
set_option linter.unusedVariables false
set_option linter.unusedSimpArgs false
def varveref02_exp.f (a0 : Int) : Option (Int) := some (wrap64 (Go.bits .and .u64 (a0 / 4503599627370496) 2047))
set_option maxHeartbeats 8000000 in
set_option maxRecDepth 100000 in
theorem varveref02_exp.calls (a0 : Int) (r : Int) (w : World) (h : varveref02_exp.f a0 = some r) :
    Calls Try.prog 128 #[.int .u64 a0] w fun e w' => e = .returned (.int .i64 r) ∧ Drawn0 w w' := by
  have H : (some (wrap64 (Go.bits .and .u64 (a0 / 4503599627370496) 2047))) = some r := h
  clear h
  obtain rfl := Option.some.inj H
  go_enter Try.func128, Try.ntmps128
  go_wp2
  go_ret
  exact ⟨by first | rfl | (simp; done) | (simp [*]; done), by repeat (first | exact Drawn0.refl _ | apply Drawn0.step)⟩
def varveref02_frac.f (a0 : Int) : Option (Int) := some (Go.bits .and .u64 a0 4503599627370495)
set_option maxHeartbeats 8000000 in
set_option maxRecDepth 100000 in
theorem varveref02_frac.calls (a0 : Int) (r : Int) (w : World) (h : varveref02_frac.f a0 = some r) :
    Calls Try.prog 129 #[.int .u64 a0] w fun e w' => e = .returned (.int .u64 r) ∧ Drawn0 w w' := by
  have H : (some (Go.bits .and .u64 a0 4503599627370495)) = some r := h
  clear h
  obtain rfl := Option.some.inj H
  go_enter Try.func129, Try.ntmps129
  go_wp2
  go_ret
  exact ⟨by first | rfl | (simp; done) | (simp [*]; done), by repeat (first | exact Drawn0.refl _ | apply Drawn0.step)⟩
def varveref02_Kind.j0 : Nat → Int → Bool → Option (Int)
  | 0, _, _ => none
  | k + 1, x0, x3 => if x3 = true then (some 4) else ((varveref02_exp.f x0).bind fun t103 => (if t103 = 2047 then (some 3) else ((varveref02_exp.f x0).bind fun t104 => (if t104 > 0 then (some 1) else ((varveref02_frac.f x0).bind fun t105 => (if t105 > 0 then (some 2) else (some 0)))))))
def varveref02_Kind.f (k : Nat) (a0 : Int) : Option (Int) := (varveref02_exp.f a0).bind fun t101 => (if t101 = 2047 then ((varveref02_frac.f a0).bind fun t102 => (varveref02_Kind.j0 k a0 (decide (t102 > 0)))) else (varveref02_Kind.j0 k a0 false))
theorem varveref02_Kind.mono_l : ∀ k, (∀ y0 y1, LeO (varveref02_Kind.j0 k y0 y1) (varveref02_Kind.j0 (k + 1) y0 y1))
  | 0 => fun _ _ r h => by simp [varveref02_Kind.j0] at h
  | k + 1 => by
    have ih0 := varveref02_Kind.mono_l k
    · intro y0 y1
      unfold varveref02_Kind.j0
      repeat' first
      | (with_reducible exact ih0 _ _)
      | (with_reducible exact LeO.refl _)
      | (with_reducible exact LeO.none _)
      | (with_reducible refine LeO.ite ?_ ?_)
      | (with_reducible refine LeO.bind ?_ (fun _ => ?_))
      | exact ih0 _ _
      | exact LeO.none _
      | refine LeO.ite ?_ ?_
      | refine LeO.bind ?_ (fun _ => ?_)
theorem varveref02_Kind.mono : ∀ a0 k, LeO (varveref02_Kind.f k a0) (varveref02_Kind.f (k + 1) a0) := by
  intro a0 k
  have ih0 := varveref02_Kind.mono_l k
  unfold varveref02_Kind.f
  repeat' first
      | (with_reducible exact ih0 _ _)
      | (with_reducible exact LeO.refl _)
      | (with_reducible exact LeO.none _)
      | (with_reducible refine LeO.ite ?_ ?_)
      | (with_reducible refine LeO.bind ?_ (fun _ => ?_))
      | exact ih0 _ _
      | exact LeO.none _
      | refine LeO.ite ?_ ?_
      | refine LeO.bind ?_ (fun _ => ?_)
set_option maxHeartbeats 8000000 in
set_option maxRecDepth 100000 in
theorem varveref02_Kind.calls (k : Nat) (a0 : Int) (r : Int) (w : World) (h : varveref02_Kind.f k a0 = some r) :
    Calls Try.prog 108 #[.int .u64 a0] w fun e w' => e = .returned (.int .i64 r) ∧ Drawn0 w w' := by
  have H : ((varveref02_exp.f a0).bind fun t101 => (if t101 = 2047 then ((varveref02_frac.f a0).bind fun t102 => (varveref02_Kind.j0 k a0 (decide (t102 > 0)))) else (varveref02_Kind.j0 k a0 false))) = some r := h
  clear h
  have HC2 := Aside0.mk H
  clear H
  go_enter Try.func108, Try.ntmps108
  go_upto_region 1 with (fail)
  go_cut [3] (fun v3 wc => ∃ (kq : Nat) (x3_1 : Bool), v3 = .bool x3_1 ∧ Aside0 (varveref02_Kind.j0 kq a0 x3_1 = some r) ∧ Aside0 (kq ≤ k) ∧ Drawn0 w wc)
  case first =>
    have H := HC2.out
    clear HC2
    replace H := Option.bind_eq_some_iff.mp H
    obtain ⟨t101, A30, H⟩ := H
    replace H : (if t101 = 2047 then ((varveref02_frac.f a0).bind fun t102 => (varveref02_Kind.j0 k a0 (decide (t102 > 0)))) else (varveref02_Kind.j0 k a0 false)) = some r := H
    have A3 := Aside0.mk A30
    clear A30
    by_cases c4 : t101 = 2047
    · rw [if_pos c4] at H
      have c4b0 : (t101 == 2047) = true := beq_iff_eq.mpr c4
      have c4b1 : (t101 != 2047) = false := bne_eq_false_iff_eq.mpr c4
      clear c4
      (first | rw [c4b0] | (simp only [i64_w, i32_w]; rw [c4b0]) | skip)
      replace H := Option.bind_eq_some_iff.mp H
      obtain ⟨t102, A50, H⟩ := H
      replace H : (varveref02_Kind.j0 k a0 (decide (t102 > 0))) = some r := H
      have A5 := Aside0.mk A50
      clear A50
      have H' := Aside0.mk H
      clear H
      go_wp2_with (first | ((with_reducible refine gate_callee (f := 128) rfl ?_); refine goesL_ (some 5) rfl rfl Try.func128 (by kernel_rfl) rfl #[.int .u64 a0] rfl (by (try simp only [List.map_toArray, List.map_cons, List.map_nil]); first | done | rfl | (simp only [List.length_drop, List.length_take]; rfl)) ?_; (with_reducible refine (varveref02_exp.calls a0 t101 _ A3.out).mono ?_); rintro e w' ⟨rfl, ⟨nd, rfl⟩⟩; refine ⟨_, rfl, ?_⟩) | (go_at_call 129; (with_reducible refine (varveref02_frac.calls a0 t102 _ A5.out).mono ?_); rintro e w' ⟨rfl, ⟨nd, rfl⟩⟩))
      go_meet
      case rel => exact ⟨_, (decide (t102 > 0)), (by first | rfl | (simp; done) | (simp [*]; done)), H', ⟨by first | omega | exact Nat.le_refl _⟩, by repeat (first | exact Drawn0.refl _ | apply Drawn0.step)⟩
    · rw [if_neg c4] at H
      have c4b0 : (t101 == 2047) = false := beq_eq_false_iff_ne.mpr c4
      have c4b1 : (t101 != 2047) = true := bne_iff_ne.mpr c4
      (first | rw [c4b0] | (simp only [i64_w, i32_w]; rw [c4b0]) | skip)
      have H' := Aside0.mk H
      clear H
      go_wp2_with (first | ((with_reducible refine gate_callee (f := 128) rfl ?_); refine goesL_ (some 5) rfl rfl Try.func128 (by kernel_rfl) rfl #[.int .u64 a0] rfl (by (try simp only [List.map_toArray, List.map_cons, List.map_nil]); first | done | rfl | (simp only [List.length_drop, List.length_take]; rfl)) ?_; (with_reducible refine (varveref02_exp.calls a0 t101 _ A3.out).mono ?_); rintro e w' ⟨rfl, ⟨nd, rfl⟩⟩; refine ⟨_, rfl, ?_⟩))
      go_meet
      case rel => exact ⟨_, (false), (by first | rfl | (simp; done) | (simp [*]; done)), H', ⟨by first | omega | exact Nat.le_refl _⟩, by repeat (first | exact Drawn0.refl _ | apply Drawn0.step)⟩
  case rest =>
    clear HC2
    try clear c1
    try clear p2
    try clear c4
    try clear c4b0
    try clear c4b1
    obtain ⟨kq, x3_1, rfl, HA, HJ1, ⟨mc1, rfl⟩⟩ := hcut
    cases kq with
    | zero => exact absurd HA.out (by simp [varveref02_Kind.j0])
    | succ kj1 =>
      have H := HA.out
      clear HA
      simp only [varveref02_Kind.j0] at H
      by_cases c6 : x3_1 = true
      · subst c6
        have H1 : (some 4) = some r := by rw [if_pos rfl] at H; exact H
        clear H
        have H := H1
        clear H1
        obtain rfl := Option.some.inj H
        go_wp2
        go_ret
        exact ⟨by first | rfl | (simp; done) | (simp [*]; done), by repeat (first | exact Drawn0.refl _ | apply Drawn0.step)⟩
      · replace c6 := Bool.eq_false_iff.mpr c6
        subst c6
        have H1 : ((varveref02_exp.f a0).bind fun t103 => (if t103 = 2047 then (some 3) else ((varveref02_exp.f a0).bind fun t104 => (if t104 > 0 then (some 1) else ((varveref02_frac.f a0).bind fun t105 => (if t105 > 0 then (some 2) else (some 0))))))) = some r := by rw [if_neg (show ¬ (false = true) by decide)] at H; exact H
        clear H
        have H := H1
        clear H1
        replace H := Option.bind_eq_some_iff.mp H
        obtain ⟨t103, A70, H⟩ := H
        replace H : (if t103 = 2047 then (some 3) else ((varveref02_exp.f a0).bind fun t104 => (if t104 > 0 then (some 1) else ((varveref02_frac.f a0).bind fun t105 => (if t105 > 0 then (some 2) else (some 0)))))) = some r := H
        have A7 := Aside0.mk A70
        clear A70
        by_cases c8 : t103 = 2047
        · rw [if_pos c8] at H
          have c8b0 : (t103 == 2047) = true := beq_iff_eq.mpr c8
          have c8b1 : (t103 != 2047) = false := bne_eq_false_iff_eq.mpr c8
          clear c8
          obtain rfl := Option.some.inj H
          go_wp2_with (first | ((with_reducible refine gate_callee (f := 128) rfl ?_); refine goesL_ (some 14) rfl rfl Try.func128 (by kernel_rfl) rfl #[.int .u64 a0] rfl (by (try simp only [List.map_toArray, List.map_cons, List.map_nil]); first | done | rfl | (simp only [List.length_drop, List.length_take]; rfl)) ?_; (with_reducible refine (varveref02_exp.calls a0 t103 _ A7.out).mono ?_); rintro e w' ⟨rfl, ⟨nd, rfl⟩⟩; refine ⟨_, rfl, ?_⟩))
          go_ret
          exact ⟨by first | rfl | (simp; done) | (simp [*]; done), by repeat (first | exact Drawn0.refl _ | apply Drawn0.step)⟩
        · rw [if_neg c8] at H
          have c8b0 : (t103 == 2047) = false := beq_eq_false_iff_ne.mpr c8
          have c8b1 : (t103 != 2047) = true := bne_iff_ne.mpr c8
          replace H := Option.bind_eq_some_iff.mp H
          obtain ⟨t104, A90, H⟩ := H
          replace H : (if t104 > 0 then (some 1) else ((varveref02_frac.f a0).bind fun t105 => (if t105 > 0 then (some 2) else (some 0)))) = some r := H
          have A9 := Aside0.mk A90
          clear A90
          by_cases c10 : t104 > 0
          · rw [if_pos c10] at H
            have c10b0 : decide (0 < t104) = true := decide_eq_true c10
            clear c10
            obtain rfl := Option.some.inj H
            go_wp2_with (first | ((with_reducible refine gate_callee (f := 128) rfl ?_); refine goesL_ (some 14) rfl rfl Try.func128 (by kernel_rfl) rfl #[.int .u64 a0] rfl (by (try simp only [List.map_toArray, List.map_cons, List.map_nil]); first | done | rfl | (simp only [List.length_drop, List.length_take]; rfl)) ?_; (with_reducible refine (varveref02_exp.calls a0 t103 _ A7.out).mono ?_); rintro e w' ⟨rfl, ⟨nd, rfl⟩⟩; refine ⟨_, rfl, ?_⟩) | ((with_reducible refine gate_callee (f := 128) rfl ?_); refine goesL_ (some 18) rfl rfl Try.func128 (by kernel_rfl) rfl #[.int .u64 a0] rfl (by (try simp only [List.map_toArray, List.map_cons, List.map_nil]); first | done | rfl | (simp only [List.length_drop, List.length_take]; rfl)) ?_; (with_reducible refine (varveref02_exp.calls a0 t104 _ A9.out).mono ?_); rintro e w' ⟨rfl, ⟨nd, rfl⟩⟩; refine ⟨_, rfl, ?_⟩))
            go_ret
            exact ⟨by first | rfl | (simp; done) | (simp [*]; done), by repeat (first | exact Drawn0.refl _ | apply Drawn0.step)⟩
          · rw [if_neg c10] at H
            have c10b0 : decide (0 < t104) = false := decide_eq_false c10
            clear c10
            replace H := Option.bind_eq_some_iff.mp H
            obtain ⟨t105, A110, H⟩ := H
            replace H : (if t105 > 0 then (some 2) else (some 0)) = some r := H
            have A11 := Aside0.mk A110
            clear A110
            by_cases c12 : t105 > 0
            · rw [if_pos c12] at H
              have c12b0 : decide (0 < t105) = true := decide_eq_true c12
              clear c12
              obtain rfl := Option.some.inj H
              go_wp2_with (first | ((with_reducible refine gate_callee (f := 128) rfl ?_); refine goesL_ (some 14) rfl rfl Try.func128 (by kernel_rfl) rfl #[.int .u64 a0] rfl (by (try simp only [List.map_toArray, List.map_cons, List.map_nil]); first | done | rfl | (simp only [List.length_drop, List.length_take]; rfl)) ?_; (with_reducible refine (varveref02_exp.calls a0 t103 _ A7.out).mono ?_); rintro e w' ⟨rfl, ⟨nd, rfl⟩⟩; refine ⟨_, rfl, ?_⟩) | ((with_reducible refine gate_callee (f := 128) rfl ?_); refine goesL_ (some 18) rfl rfl Try.func128 (by kernel_rfl) rfl #[.int .u64 a0] rfl (by (try simp only [List.map_toArray, List.map_cons, List.map_nil]); first | done | rfl | (simp only [List.length_drop, List.length_take]; rfl)) ?_; (with_reducible refine (varveref02_exp.calls a0 t104 _ A9.out).mono ?_); rintro e w' ⟨rfl, ⟨nd, rfl⟩⟩; refine ⟨_, rfl, ?_⟩) | ((with_reducible refine gate_callee (f := 129) rfl ?_); refine goesL_ (some 22) rfl rfl Try.func129 (by kernel_rfl) rfl #[.int .u64 a0] rfl (by (try simp only [List.map_toArray, List.map_cons, List.map_nil]); first | done | rfl | (simp only [List.length_drop, List.length_take]; rfl)) ?_; (with_reducible refine (varveref02_frac.calls a0 t105 _ A11.out).mono ?_); rintro e w' ⟨rfl, ⟨nd, rfl⟩⟩; refine ⟨_, rfl, ?_⟩))
              go_ret
              exact ⟨by first | rfl | (simp; done) | (simp [*]; done), by repeat (first | exact Drawn0.refl _ | apply Drawn0.step)⟩
            · rw [if_neg c12] at H
              have c12b0 : decide (0 < t105) = false := decide_eq_false c12
              clear c12
              obtain rfl := Option.some.inj H
              go_wp2_with (first | ((with_reducible refine gate_callee (f := 128) rfl ?_); refine goesL_ (some 14) rfl rfl Try.func128 (by kernel_rfl) rfl #[.int .u64 a0] rfl (by (try simp only [List.map_toArray, List.map_cons, List.map_nil]); first | done | rfl | (simp only [List.length_drop, List.length_take]; rfl)) ?_; (with_reducible refine (varveref02_exp.calls a0 t103 _ A7.out).mono ?_); rintro e w' ⟨rfl, ⟨nd, rfl⟩⟩; refine ⟨_, rfl, ?_⟩) | ((with_reducible refine gate_callee (f := 128) rfl ?_); refine goesL_ (some 18) rfl rfl Try.func128 (by kernel_rfl) rfl #[.int .u64 a0] rfl (by (try simp only [List.map_toArray, List.map_cons, List.map_nil]); first | done | rfl | (simp only [List.length_drop, List.length_take]; rfl)) ?_; (with_reducible refine (varveref02_exp.calls a0 t104 _ A9.out).mono ?_); rintro e w' ⟨rfl, ⟨nd, rfl⟩⟩; refine ⟨_, rfl, ?_⟩) | ((with_reducible refine gate_callee (f := 129) rfl ?_); refine goesL_ (some 22) rfl rfl Try.func129 (by kernel_rfl) rfl #[.int .u64 a0] rfl (by (try simp only [List.map_toArray, List.map_cons, List.map_nil]); first | done | rfl | (simp only [List.length_drop, List.length_take]; rfl)) ?_; (with_reducible refine (varveref02_frac.calls a0 t105 _ A11.out).mono ?_); rintro e w' ⟨rfl, ⟨nd, rfl⟩⟩; refine ⟨_, rfl, ?_⟩))
              go_ret
              exact ⟨by first | rfl | (simp; done) | (simp [*]; done), by repeat (first | exact Drawn0.refl _ | apply Drawn0.step)⟩
def varveref02_Key.f (a0 : Int) : Option (Int) := if (Go.bits .and .u64 a0 9223372036854775808) > 0 then (some (Go.bits .xor .u64 a0 18446744073709551615)) else (some (Go.bits .or .u64 a0 9223372036854775808))
set_option maxHeartbeats 8000000 in
set_option maxRecDepth 100000 in
theorem varveref02_Key.calls (a0 : Int) (r : Int) (w : World) (h : varveref02_Key.f a0 = some r) :
    Calls Try.prog 134 #[.int .u64 a0] w fun e w' => e = .returned (.int .u64 r) ∧ Drawn0 w w' := by
  have H : (if (Go.bits .and .u64 a0 9223372036854775808) > 0 then (some (Go.bits .xor .u64 a0 18446744073709551615)) else (some (Go.bits .or .u64 a0 9223372036854775808))) = some r := h
  clear h
  by_cases c2 : (Go.bits .and .u64 a0 9223372036854775808) > 0
  · rw [if_pos c2] at H
    have c2b0 : decide (0 < (Go.bits .and .u64 a0 9223372036854775808)) = true := decide_eq_true c2
    clear c2
    obtain rfl := Option.some.inj H
    go_enter Try.func134, Try.ntmps134
    go_wp2
    go_ret
    exact ⟨by first | rfl | (simp; done) | (simp [*]; done), by repeat (first | exact Drawn0.refl _ | apply Drawn0.step)⟩
  · rw [if_neg c2] at H
    have c2b0 : decide (0 < (Go.bits .and .u64 a0 9223372036854775808)) = false := decide_eq_false c2
    clear c2
    obtain rfl := Option.some.inj H
    go_enter Try.func134, Try.ntmps134
    go_wp2
    go_ret
    exact ⟨by first | rfl | (simp; done) | (simp [*]; done), by repeat (first | exact Drawn0.refl _ | apply Drawn0.step)⟩
def varveref02_Less.f (k : Nat) (a0 : Int) (a1 : Int) : Option (Bool) := (varveref02_Kind.f k a0).bind fun t106 => (if t106 = 4 then (some false) else ((varveref02_Kind.f k a1).bind fun t107 => (if t107 = 4 then (some false) else ((varveref02_Key.f a0).bind fun t108 => ((varveref02_Key.f a1).bind fun t109 => (some (decide (t108 < t109))))))))
theorem varveref02_Less.mono : ∀ a0 a1 k, LeO (varveref02_Less.f k a0 a1) (varveref02_Less.f (k + 1) a0 a1) := by
  intro a0 a1 k
  unfold varveref02_Less.f
  repeat' first
      | (with_reducible exact varveref02_Kind.mono _ _)
      | (with_reducible exact LeO.refl _)
      | (with_reducible exact LeO.none _)
      | (with_reducible refine LeO.ite ?_ ?_)
      | (with_reducible refine LeO.bind ?_ (fun _ => ?_))
      | exact varveref02_Kind.mono _ _
      | exact LeO.none _
      | refine LeO.ite ?_ ?_
      | refine LeO.bind ?_ (fun _ => ?_)
set_option maxHeartbeats 8000000 in
set_option maxRecDepth 100000 in
theorem varveref02_Less.calls (k : Nat) (a0 : Int) (a1 : Int) (r : Bool) (w : World) (h : varveref02_Less.f k a0 a1 = some r) :
    Calls Try.prog 113 #[.int .u64 a0, .int .u64 a1] w fun e w' => e = .returned (.bool r) ∧ Drawn0 w w' := by
  have H : ((varveref02_Kind.f k a0).bind fun t106 => (if t106 = 4 then (some false) else ((varveref02_Kind.f k a1).bind fun t107 => (if t107 = 4 then (some false) else ((varveref02_Key.f a0).bind fun t108 => ((varveref02_Key.f a1).bind fun t109 => (some (decide (t108 < t109))))))))) = some r := h
  clear h
  replace H := Option.bind_eq_some_iff.mp H
  obtain ⟨t106, A30, H⟩ := H
  replace H : (if t106 = 4 then (some false) else ((varveref02_Kind.f k a1).bind fun t107 => (if t107 = 4 then (some false) else ((varveref02_Key.f a0).bind fun t108 => ((varveref02_Key.f a1).bind fun t109 => (some (decide (t108 < t109)))))))) = some r := H
  have A3 := Aside0.mk A30
  clear A30
  by_cases c4 : t106 = 4
  · rw [if_pos c4] at H
    have c4b0 : (t106 == 4) = true := beq_iff_eq.mpr c4
    have c4b1 : (t106 != 4) = false := bne_eq_false_iff_eq.mpr c4
    clear c4
    obtain rfl := Option.some.inj H
    go_enter Try.func113, Try.ntmps113
    go_wp2_with (first | ((with_reducible refine gate_callee (f := 108) rfl ?_); refine goesL_ (some 6) rfl rfl Try.func108 (by kernel_rfl) rfl #[.int .u64 a0] rfl (by (try simp only [List.map_toArray, List.map_cons, List.map_nil]); first | done | rfl | (simp only [List.length_drop, List.length_take]; rfl)) ?_; (with_reducible refine (varveref02_Kind.calls k a0 t106 _ A3.out).mono ?_); rintro e w' ⟨rfl, ⟨nd, rfl⟩⟩; refine ⟨_, rfl, ?_⟩))
    go_ret
    exact ⟨by first | rfl | (simp; done) | (simp [*]; done), by repeat (first | exact Drawn0.refl _ | apply Drawn0.step)⟩
  · rw [if_neg c4] at H
    have c4b0 : (t106 == 4) = false := beq_eq_false_iff_ne.mpr c4
    have c4b1 : (t106 != 4) = true := bne_iff_ne.mpr c4
    replace H := Option.bind_eq_some_iff.mp H
    obtain ⟨t107, A50, H⟩ := H
    replace H : (if t107 = 4 then (some false) else ((varveref02_Key.f a0).bind fun t108 => ((varveref02_Key.f a1).bind fun t109 => (some (decide (t108 < t109)))))) = some r := H
    have A5 := Aside0.mk A50
    clear A50
    by_cases c6 : t107 = 4
    · rw [if_pos c6] at H
      have c6b0 : (t107 == 4) = true := beq_iff_eq.mpr c6
      have c6b1 : (t107 != 4) = false := bne_eq_false_iff_eq.mpr c6
      clear c6
      obtain rfl := Option.some.inj H
      go_enter Try.func113, Try.ntmps113
      go_wp2_with (first | ((with_reducible refine gate_callee (f := 108) rfl ?_); refine goesL_ (some 6) rfl rfl Try.func108 (by kernel_rfl) rfl #[.int .u64 a0] rfl (by (try simp only [List.map_toArray, List.map_cons, List.map_nil]); first | done | rfl | (simp only [List.length_drop, List.length_take]; rfl)) ?_; (with_reducible refine (varveref02_Kind.calls k a0 t106 _ A3.out).mono ?_); rintro e w' ⟨rfl, ⟨nd, rfl⟩⟩; refine ⟨_, rfl, ?_⟩) | (go_at_call 108; (with_reducible refine (varveref02_Kind.calls k a1 t107 _ A5.out).mono ?_); rintro e w' ⟨rfl, ⟨nd, rfl⟩⟩))
      go_ret
      exact ⟨by first | rfl | (simp; done) | (simp [*]; done), by repeat (first | exact Drawn0.refl _ | apply Drawn0.step)⟩
    · rw [if_neg c6] at H
      have c6b0 : (t107 == 4) = false := beq_eq_false_iff_ne.mpr c6
      have c6b1 : (t107 != 4) = true := bne_iff_ne.mpr c6
      replace H := Option.bind_eq_some_iff.mp H
      obtain ⟨t108, A70, H⟩ := H
      replace H : ((varveref02_Key.f a1).bind fun t109 => (some (decide (t108 < t109)))) = some r := H
      have A7 := Aside0.mk A70
      clear A70
      replace H := Option.bind_eq_some_iff.mp H
      obtain ⟨t109, A80, H⟩ := H
      replace H : (some (decide (t108 < t109))) = some r := H
      have A8 := Aside0.mk A80
      clear A80
      obtain rfl := Option.some.inj H
      go_enter Try.func113, Try.ntmps113
      go_wp2_with (first | ((with_reducible refine gate_callee (f := 108) rfl ?_); refine goesL_ (some 6) rfl rfl Try.func108 (by kernel_rfl) rfl #[.int .u64 a0] rfl (by (try simp only [List.map_toArray, List.map_cons, List.map_nil]); first | done | rfl | (simp only [List.length_drop, List.length_take]; rfl)) ?_; (with_reducible refine (varveref02_Kind.calls k a0 t106 _ A3.out).mono ?_); rintro e w' ⟨rfl, ⟨nd, rfl⟩⟩; refine ⟨_, rfl, ?_⟩) | (go_at_call 108; (with_reducible refine (varveref02_Kind.calls k a1 t107 _ A5.out).mono ?_); rintro e w' ⟨rfl, ⟨nd, rfl⟩⟩) | (go_at_call 134; (with_reducible refine (varveref02_Key.calls a0 t108 _ A7.out).mono ?_); rintro e w' ⟨rfl, ⟨nd, rfl⟩⟩) | (go_at_call 134; (with_reducible refine (varveref02_Key.calls a1 t109 _ A8.out).mono ?_); rintro e w' ⟨rfl, ⟨nd, rfl⟩⟩))
      go_ret
      exact ⟨by first | rfl | (simp; done) | (simp [*]; done), by repeat (first | exact Drawn0.refl _ | apply Drawn0.step)⟩
/-- THE ONE PURE STATEMENT of varveref02_Less: yours. -/
def varveref02_Less.Pure : Prop := ∀ (a0 : Int) (a1 : Int), (Lit.int .u64 a0).wf = true → (Lit.int .u64 a1).wf = true → ∃ k, varveref02_Less.f k a0 a1 = some true
theorem varveref02_Less.walk (P : varveref02_Less.Pure) (a0 : Int) (a1 : Int) (w : World) (w0 : (Lit.int .u64 a0).wf = true) (w1 : (Lit.int .u64 a1).wf = true) :
    Calls Try.prog 113 #[.int .u64 a0, .int .u64 a1] w fun e w' => e = .returned (.bool true) ∧ Below w.heap.size w w' := by
  obtain ⟨k, h⟩ := P a0 a1 w0 w1
  refine (varveref02_Less.calls k a0 a1 true w h).mono ?_
  rintro e w' ⟨rfl, hd⟩
  exact ⟨rfl, hd.below⟩
def flo_parts.f (a0 : Int) : Option (Int × Int) := some (wrap64 (Go.bits .and .u64 (a0 / 4503599627370496) 2047), Go.bits .and .u64 a0 4503599627370495)
def flo_Kind.f (a0 : Int) : Option (Int) := if 0 ≤ a0 ∧ a0 < 18446744073709551616 then some (kindB a0) else none
theorem flo_Kind.calls (a0 : Int) (r : Int) (w : World) (h : flo_Kind.f a0 = some r) :
    Calls Try.prog 130 #[.int .u64 a0] w fun e w' => e = .returned (.int .i64 r) ∧ Drawn0 w w' := by
  unfold flo_Kind.f at h
  split at h
  case isTrue hr =>
    obtain rfl := Option.some.inj h
    exact (kind_any a0 w hr.1 hr.2).mono fun _ _ ⟨he, hw⟩ => ⟨he, by rw [← hw]; exact Drawn0.refl w⟩
  case isFalse => cases h
def flo_Key.f (a0 : Int) : Option (Int) := if 0 ≤ a0 ∧ a0 < 18446744073709551616 then some (keyB a0) else none
theorem flo_Key.calls (a0 : Int) (r : Int) (w : World) (h : flo_Key.f a0 = some r) :
    Calls Try.prog 131 #[.int .u64 a0] w fun e w' => e = .returned (.int .u64 r) ∧ Drawn0 w w' := by
  unfold flo_Key.f at h
  split at h
  case isTrue hr =>
    obtain rfl := Option.some.inj h
    exact (key_any a0 w hr.1 hr.2).mono fun _ _ ⟨he, hw⟩ => ⟨he, by rw [← hw]; exact Drawn0.refl w⟩
  case isFalse => cases h
def flo_Less.f (a0 : Int) (a1 : Int) : Option (Bool) := (flo_Kind.f a0).bind fun t110 => (if t110 = 4 then (some false) else ((flo_Kind.f a1).bind fun t111 => (if t111 = 4 then (some false) else ((flo_Key.f a0).bind fun t112 => ((flo_Key.f a1).bind fun t113 => (some (decide (t112 < t113))))))))
set_option maxHeartbeats 8000000 in
set_option maxRecDepth 100000 in
theorem flo_Less.calls (a0 : Int) (a1 : Int) (r : Bool) (w : World) (h : flo_Less.f a0 a1 = some r) :
    Calls Try.prog 109 #[.int .u64 a0, .int .u64 a1] w fun e w' => e = .returned (.bool r) ∧ Drawn0 w w' := by
  have H : ((flo_Kind.f a0).bind fun t110 => (if t110 = 4 then (some false) else ((flo_Kind.f a1).bind fun t111 => (if t111 = 4 then (some false) else ((flo_Key.f a0).bind fun t112 => ((flo_Key.f a1).bind fun t113 => (some (decide (t112 < t113))))))))) = some r := h
  clear h
  replace H := Option.bind_eq_some_iff.mp H
  obtain ⟨t110, A30, H⟩ := H
  replace H : (if t110 = 4 then (some false) else ((flo_Kind.f a1).bind fun t111 => (if t111 = 4 then (some false) else ((flo_Key.f a0).bind fun t112 => ((flo_Key.f a1).bind fun t113 => (some (decide (t112 < t113)))))))) = some r := H
  have A3 := Aside0.mk A30
  clear A30
  by_cases c4 : t110 = 4
  · rw [if_pos c4] at H
    have c4b0 : (t110 == 4) = true := beq_iff_eq.mpr c4
    have c4b1 : (t110 != 4) = false := bne_eq_false_iff_eq.mpr c4
    clear c4
    obtain rfl := Option.some.inj H
    go_enter Try.func109, Try.ntmps109
    go_wp2_with (first | ((with_reducible refine gate_callee (f := 130) rfl ?_); refine goesL_ (some 6) rfl rfl Try.func130 (by kernel_rfl) rfl #[.int .u64 a0] rfl (by (try simp only [List.map_toArray, List.map_cons, List.map_nil]); first | done | rfl | (simp only [List.length_drop, List.length_take]; rfl)) ?_; (with_reducible refine (flo_Kind.calls a0 t110 _ A3.out).mono ?_); rintro e w' ⟨rfl, ⟨nd, rfl⟩⟩; refine ⟨_, rfl, ?_⟩))
    go_ret
    exact ⟨by first | rfl | (simp; done) | (simp [*]; done), by repeat (first | exact Drawn0.refl _ | apply Drawn0.step)⟩
  · rw [if_neg c4] at H
    have c4b0 : (t110 == 4) = false := beq_eq_false_iff_ne.mpr c4
    have c4b1 : (t110 != 4) = true := bne_iff_ne.mpr c4
    replace H := Option.bind_eq_some_iff.mp H
    obtain ⟨t111, A50, H⟩ := H
    replace H : (if t111 = 4 then (some false) else ((flo_Key.f a0).bind fun t112 => ((flo_Key.f a1).bind fun t113 => (some (decide (t112 < t113)))))) = some r := H
    have A5 := Aside0.mk A50
    clear A50
    by_cases c6 : t111 = 4
    · rw [if_pos c6] at H
      have c6b0 : (t111 == 4) = true := beq_iff_eq.mpr c6
      have c6b1 : (t111 != 4) = false := bne_eq_false_iff_eq.mpr c6
      clear c6
      obtain rfl := Option.some.inj H
      go_enter Try.func109, Try.ntmps109
      go_wp2_with (first | ((with_reducible refine gate_callee (f := 130) rfl ?_); refine goesL_ (some 6) rfl rfl Try.func130 (by kernel_rfl) rfl #[.int .u64 a0] rfl (by (try simp only [List.map_toArray, List.map_cons, List.map_nil]); first | done | rfl | (simp only [List.length_drop, List.length_take]; rfl)) ?_; (with_reducible refine (flo_Kind.calls a0 t110 _ A3.out).mono ?_); rintro e w' ⟨rfl, ⟨nd, rfl⟩⟩; refine ⟨_, rfl, ?_⟩) | (go_at_call 130; (with_reducible refine (flo_Kind.calls a1 t111 _ A5.out).mono ?_); rintro e w' ⟨rfl, ⟨nd, rfl⟩⟩))
      go_ret
      exact ⟨by first | rfl | (simp; done) | (simp [*]; done), by repeat (first | exact Drawn0.refl _ | apply Drawn0.step)⟩
    · rw [if_neg c6] at H
      have c6b0 : (t111 == 4) = false := beq_eq_false_iff_ne.mpr c6
      have c6b1 : (t111 != 4) = true := bne_iff_ne.mpr c6
      replace H := Option.bind_eq_some_iff.mp H
      obtain ⟨t112, A70, H⟩ := H
      replace H : ((flo_Key.f a1).bind fun t113 => (some (decide (t112 < t113)))) = some r := H
      have A7 := Aside0.mk A70
      clear A70
      replace H := Option.bind_eq_some_iff.mp H
      obtain ⟨t113, A80, H⟩ := H
      replace H : (some (decide (t112 < t113))) = some r := H
      have A8 := Aside0.mk A80
      clear A80
      obtain rfl := Option.some.inj H
      go_enter Try.func109, Try.ntmps109
      go_wp2_with (first | ((with_reducible refine gate_callee (f := 130) rfl ?_); refine goesL_ (some 6) rfl rfl Try.func130 (by kernel_rfl) rfl #[.int .u64 a0] rfl (by (try simp only [List.map_toArray, List.map_cons, List.map_nil]); first | done | rfl | (simp only [List.length_drop, List.length_take]; rfl)) ?_; (with_reducible refine (flo_Kind.calls a0 t110 _ A3.out).mono ?_); rintro e w' ⟨rfl, ⟨nd, rfl⟩⟩; refine ⟨_, rfl, ?_⟩) | (go_at_call 130; (with_reducible refine (flo_Kind.calls a1 t111 _ A5.out).mono ?_); rintro e w' ⟨rfl, ⟨nd, rfl⟩⟩) | (go_at_call 131; (with_reducible refine (flo_Key.calls a0 t112 _ A7.out).mono ?_); rintro e w' ⟨rfl, ⟨nd, rfl⟩⟩) | (go_at_call 131; (with_reducible refine (flo_Key.calls a1 t113 _ A8.out).mono ?_); rintro e w' ⟨rfl, ⟨nd, rfl⟩⟩))
      go_ret
      exact ⟨by first | rfl | (simp; done) | (simp [*]; done), by repeat (first | exact Drawn0.refl _ | apply Drawn0.step)⟩
/-- THE ONE PURE STATEMENT of flo_Less: yours. -/
def flo_Less.Pure : Prop := ∀ (a0 : Int) (a1 : Int), (Lit.int .u64 a0).wf = true → (Lit.int .u64 a1).wf = true → flo_Less.f a0 a1 = some true
theorem flo_Less.walk (P : flo_Less.Pure) (a0 : Int) (a1 : Int) (w : World) (w0 : (Lit.int .u64 a0).wf = true) (w1 : (Lit.int .u64 a1).wf = true) :
    Calls Try.prog 109 #[.int .u64 a0, .int .u64 a1] w fun e w' => e = .returned (.bool true) ∧ Below w.heap.size w w' := by
  have h := P a0 a1 w0 w1
  refine (flo_Less.calls a0 a1 true w h).mono ?_
  rintro e w' ⟨rfl, hd⟩
  exact ⟨rfl, hd.below⟩
end Go.Proofs.Ytncgjbocgbnkcaa.Gb
namespace Go.Proofs.Ytncgjbocgbnkcaa
set_option linter.unusedVariables false
set_option linter.unusedSimpArgs false
open Go.RowKit Go.Proofs.YtncgjbocgbnkcaaW.PrintWords Go.Proofs.YtncgjbocgbnkcaaW.PrintLast Go.Proofs.YtncgjbocgbnkcaaW.PrintMore Go.Proofs.Ytncgjbocgbnkcaa.Hi
/-- The buckets in which something was seen, of the first n. -/
def bksTo (l : List Int) : Nat → List S68
  | 0 => []
  | n + 1 => if l.getD n 0 > 0 then bksTo l n ++ [(⟨(n : Int), l.getD n 0⟩ : S68)] else bksTo l n
def bks (l : List Int) : List S68 := bksTo l 7424
theorem bksTo_len (l : List Int) (n : Nat) : (bksTo l n).length ≤ n := by
  induction n with
  | zero => exact Nat.le_refl _
  | succ n ih =>
    unfold bksTo
    split
    · rw [List.length_append, List.length_cons, List.length_nil]; omega
    · omega
set_option maxHeartbeats 1000000 in
set_option maxRecDepth 100000 in
theorem bk_any (g : Nat) (l : List Int) (w : World) (hH : w.heap[g]? = some (.cells (hcells l) 118 (0, 0))) (hl : l.length = 7424) :
    Calls Try.prog 68 #[.pointer (some ⟨g, 0, none⟩)] w fun e w' => ∃ v0_ : Value, e = .returned v0_ ∧ Kd.R k68 68 w' w.heap.size (fun _ => True) v0_ (bks l) ∧ Below w.heap.size w w' := by
  have hinfo : (Try.prog.info? 116).map (·.size) = some (hcells l).size := by rw [info116, hcells_size, hl]
  have HH := Lib.hid hH; have HL := Lib.hid hl
  have HB := Aside0.mk (Below.refl w.heap.size w)
  clear hH hl
  go_enter Try.func68, Try.ntmps68
  go_wp2_with (refine wpList_load_row rfl _ _ rfl g rfl 118 (hcells l) (0, 0) _ HH.out Try.underlying116 rfl hinfo ?_)
  clear hinfo
  go_loopw [3, 4, 5, 13] (fun s _ _ i wr => ∃ j : Nat, j ≤ 7424 ∧ i = .int .i64 j ∧ Aside0 (Kd.R k68 68 wr w.heap.size (fun _ => True) s (bksTo l j)) ∧ Aside0 (Below w.heap.size w wr)) (fun _ _ _ i _ => 7424 - (intOf i).toNat)
  case atStart => exact ⟨0, Nat.zero_le _, rfl, ⟨Kd.R_nil _ _ _ _ _⟩, HB⟩
  case round =>
    clear HB
    obtain ⟨j, hj, rfl, HO, HB⟩ := hrel
    by_cases hlt : j < 7424
    · have hl := HL.out
      obtain ⟨y, hy⟩ : ∃ y, l[j]? = some y := ⟨_, List.getElem?_eq_getElem (by omega)⟩
      have hyd : l.getD j 0 = y := by rw [List.getD, hy]; rfl
      have hidx := fun w => run_index116 l j y w hlt hy
      have hd : decide ((j : Int) < 7424) = true := decide_eq_true (by omega)
      have hln := bksTo_len l j
      by_cases hp : y > 0
      · have hp0 : decide (0 < y) = true := decide_eq_true hp
        have HY : Hid (bksTo l (j + 1) = bksTo l j ++ [(⟨(j : Int), y⟩ : S68)]) := by rw [bksTo, hyd, if_pos hp]; exact Lib.hid rfl
        have LN := Aside0.mk hln
        clear hl hy hyd hln hp
        go_wp2_with ((with_reducible refine gate_builtin (b := .append) (xs := #[.tmp 19, .tmp 23]) rfl ?_); at_builtin; refine Kd.R_append k68 (w0 := w) w.heap.size rfl (.tmp 19) (.tmp 23) 23 68 (.agg #[(.int .i64 0), (.int .u64 0)]) 16 rfl Try.underlying23 info68 rfl (by decide) (by omega) u3 (bksTo l j) (⟨(j : Int), y⟩ : S68) [.int .i64 (j : Int), .int .u64 y] (fun _ => True) (fun _ => False) rfl rfl ?aP (fun _ hk => hk.elim) ?aF ?aO ?aB ?aS ?aL ?_; (case aP => exact k68_mkM _ _ _ (⟨(j : Int), y⟩ : S68)); (case aB => exact (by repeat (first | (with_reducible first | exact HB.out | apply below_alloc | apply pw_below_drewN | apply below_drew1) | exact HB.out))); (case aF => exact (fun _ _ => trivial)); (case aO => exact (by (with_reducible repeat (first | apply Kd.R_alloc | apply Kd.R_drewN | apply Kd.R_drew)); exact HO.out)); (case aS => exact (below_size (by repeat (first | (with_reducible first | exact HB.out | apply below_alloc | apply pw_below_drewN | apply below_drew1) | exact HB.out)))); (case aL => have := LN.out; omega); intro v128 w13 ho hb hg hat; rw [← HY.out] at ho; have n0_ := Aside0.mk (hb); have n1_ := Aside0.mk (ho); clear HB; clear HO; have HB := n0_; have HO := n1_; clear n0_ n1_; clear ho hb hg hat)
        go_roundw
        case rel => exact ⟨j + 1, by omega, by go_num, HO, HB⟩
        case measure => simp [intOf]; omega
      · have hp0 : decide (0 < y) = false := decide_eq_false hp
        have HY : Hid (bksTo l (j + 1) = bksTo l j) := by rw [bksTo, hyd, if_neg hp]; exact Lib.hid rfl
        clear hl hy hyd hln hp
        go_wp2
        go_roundw
        case rel => exact ⟨j + 1, by omega, by go_num, ⟨by rw [HY.out]; exact HO.out⟩, HB⟩
        case measure => simp [intOf]; omega
    · have hj2 : j = 7424 := by omega
      subst hj2
      clear hlt
      go_wp2
      go_ret
      exact ⟨_, rfl, HO.out, HB.out⟩
end Go.Proofs.Ytncgjbocgbnkcaa
namespace Go.Proofs.Ytncgjbocgbnkcaa
set_option linter.unusedVariables false
set_option linter.unusedSimpArgs false
open Go.RowKit Go.Proofs.YtncgjbocgbnkcaaW.PrintWords Go.Proofs.YtncgjbocgbnkcaaW.PrintLast Go.Proofs.YtncgjbocgbnkcaaW.PrintMore Go.Proofs.Ytncgjbocgbnkcaa.Hi
/-- The histograms that the call made, by their blocks: unlike ones, and nothing that was there before has changed. -/
def HS (w0 W : World) (m : List (Nat × List Int)) : Prop :=
  (∀ p ∈ m, W.heap[p.1]? = some (.cells (hcells p.2) 118 (0, 0)) ∧ w0.heap.size ≤ p.1) ∧ (m.map (·.1)).Nodup ∧ Below w0.heap.size w0 W
theorem HS.nil (w : World) : HS w w [] := ⟨fun p hp => by simp at hp, by simp, Below.refl _ _⟩
theorem HS.bel {w0 W : World} {m : List (Nat × List Int)} (h : HS w0 W m) : Below w0.heap.size w0 W := h.2.2
theorem HS.at_ {w0 W : World} {m : List (Nat × List Int)} (h : HS w0 W m) (i : Nat) {g : Nat} {s : List Int} (hi : m[i]? = some (g, s)) : W.heap[g]? = some (.cells (hcells s) 118 (0, 0)) ∧ w0.heap.size ≤ g :=
  h.1 _ (List.mem_of_getElem? hi)
theorem HS.below {w0 W W' : World} {m : List (Nat × List Int)} (h : HS w0 W m) (hb : Below W.heap.size W W') : HS w0 W' m :=
  ⟨fun p hp => ⟨blk_below (h.1 p hp).1 hb, (h.1 p hp).2⟩, h.2.1, h.2.2.trans (hb.mono h.2.2.size)⟩
theorem HS.drawn {w0 W W' : World} {m : List (Nat × List Int)} (h : HS w0 W m) (hb : Drawn0 W W') : HS w0 W' m := h.below hb.below
theorem HS.more {w0 W W' : World} {m : List (Nat × List Int)} (h : HS w0 W m) {g : Nat} {s : List Int} (hb : Below W.heap.size W W') (hg : W'.heap[g]? = some (.cells (hcells s) 118 (0, 0))) (hn : W.heap.size ≤ g) : HS w0 W' (m ++ [(g, s)]) := by
  have hB := h.below hb
  refine ⟨fun p hp => ?_, ?_, hB.2.2⟩
  · rcases List.mem_append.1 hp with hp | hp
    · exact hB.1 p hp
    · rw [List.mem_singleton] at hp
      subst hp
      exact ⟨hg, Nat.le_trans h.2.2.size hn⟩
  · rw [List.map_append, List.nodup_append]
    refine ⟨h.2.1, by simp, fun a ha b hb' => ?_⟩
    obtain ⟨p, hp, rfl⟩ := List.mem_map.1 ha
    have := blk_lt (h.1 p hp).1
    simp at hb'
    subst hb'
    omega
theorem HS.put {w0 W W' : World} {m : List (Nat × List Int)} (h : HS w0 W m) (i : Nat) {g : Nat} {s s' : List Int} (hi : m[i]? = some (g, s)) (hk : KeepBut W W' g none) (hg : W'.heap[g]? = some (.cells (hcells s') 118 (0, 0))) (hB : Below w0.heap.size w0 W') : HS w0 W' (m.set i (g, s')) := by
  have hlt : i < m.length := (List.getElem?_eq_some_iff.1 hi).1
  have e : (m.set i (g, s')).map (·.1) = m.map (·.1) := by
    refine List.ext_getElem? fun j => ?_
    rw [List.getElem?_map, List.getElem?_map, List.getElem?_set]
    by_cases c : i = j
    · subst c; rw [if_pos rfl, if_pos hlt, hi]; rfl
    · rw [if_neg c]
  refine ⟨fun p hp => ?_, by rw [e]; exact h.2.1, hB⟩
  obtain ⟨j, hj⟩ := List.getElem?_of_mem hp
  rw [List.getElem?_set] at hj
  by_cases c : i = j
  · rw [if_pos c, if_pos (by omega)] at hj
    obtain rfl := Option.some.inj hj
    exact ⟨hg, (h.at_ i hi).2⟩
  · rw [if_neg c] at hj
    have hm := h.1 p (List.mem_of_getElem? hj)
    refine ⟨hk.blk hm.1 ?_ (by simp), hm.2⟩
    intro c2
    have n1 : (m.map (·.1))[i]? = some g := by rw [List.getElem?_map, hi]; rfl
    have n2 : (m.map (·.1))[j]? = some g := by rw [List.getElem?_map, hj, ← c2]; rfl
    exact c ((List.getElem?_inj (by rw [List.length_map]; exact hlt) h.2.1).1 (n1.trans n2.symm))
theorem HS.new {w0 W : World} {m : List (Nat × List Int)} (h : HS w0 W m) :
    Calls Try.prog 57 #[] W fun e w' => ∃ g, e = .returned (.pointer (some ⟨g, 0, none⟩)) ∧ HS w0 w' (m ++ [(g, hzero 7424)]) ∧ Below W.heap.size W w' :=
  (new_any W).mono fun _ _ ⟨he, hh, hb⟩ => ⟨_, he, h.more hb hh (Nat.le_refl _), hb⟩
theorem HS.add {w0 W : World} {m : List (Nat × List Int)} (h : HS w0 W m) (i : Nat) {g : Nat} {s : List Int} (hi : m[i]? = some (g, s)) (hs : hgood s = true) {v n : Int} (hv : 0 ≤ v ∧ v < 18446744073709551616) (hn : 0 ≤ n ∧ n < 18446744073709551616) :
    Calls Try.prog 58 #[.pointer (some ⟨g, 0, none⟩), .int .u64 v, .int .u64 n] W fun e w' => e = .returned (.tuple #[]) ∧ HS w0 w' (m.set i (g, hadd s (bucketN v.toNat) n)) ∧ KeepBut W w' g none :=
  (hist_Hist_Add.calls g s v n _ w0 W (h.at_ i hi) h.bel (by unfold hist_Hist_Add.f; rw [if_pos ⟨hs, hv, hn⟩])).mono fun _ _ ⟨he, hI, hB, hK⟩ => ⟨he, h.put i hi hK hI.1 hB, hK⟩
theorem HS.bks {w0 W : World} {m : List (Nat × List Int)} (h : HS w0 W m) (i : Nat) {g : Nat} {s : List Int} (hi : m[i]? = some (g, s)) (hs : hgood s = true) :
    Calls Try.prog 68 #[.pointer (some ⟨g, 0, none⟩)] W fun e w' => ∃ A c, e = .returned (.slice A (bks s).length c) ∧ (bks s).length ≤ c ∧ Kd.C k68 w' A (Go.Proofs.Ytncgjbocgbnkcaa.bks s).length (Go.Proofs.Ytncgjbocgbnkcaa.bks s) ∧ Kd.R k68 68 w' W.heap.size (fun _ => True) (.slice A (Go.Proofs.Ytncgjbocgbnkcaa.bks s).length c) (Go.Proofs.Ytncgjbocgbnkcaa.bks s) ∧ HS w0 w' m ∧ Below W.heap.size W w' :=
  (bk_any g s W (h.at_ i hi).1 ((hgood_iff _).mp hs).1).mono fun _ _ ⟨v, he, hR, hb⟩ => by
    obtain ⟨A, c, rfl, hc, hC⟩ := Kd.R_reads hR
    exact ⟨A, c, he, hc, hC, hR, h.below hb, hb⟩
theorem R_hist {W W' : World} {base : Nat} {ok : Nat → Prop} {v : Value} {xs : List S68} (h : Kd.R k68 68 W base ok v xs) {g : Nat} {cs : Array Value} (hg : W.heap[g]? = some (.cells cs 118 (0, 0))) (hk : KeepBut W W' g none) : Kd.R k68 68 W' base ok v xs := by
  refine Kd.R_mono (Kd.R_step (Kd.R_bound h) fun k hb hlt => hk.2 k hlt ?_ (by simp)) fun _ hk => hk.1
  rintro rfl
  obtain ⟨_, _, _, q, hq, cells, hc⟩ := hb
  rw [hg] at hc
  have hE : k68.E = [] := rfl
  rw [hE] at hq
  simp at hq hc
  exact absurd (hc.2.trans hq) (by decide)
/-- Merge of a list of the call's own. -/
theorem HS.merge {w0 W : World} {m : List (Nat × List Int)} (h : HS w0 W m) (i : Nat) {g : Nat} {s : List Int} (hi : m[i]? = some (g, s)) (hs : hgood s = true) {A : Option Addr} {c : Nat} {l : List S68} (hc : l.length ≤ c)
    (hr : ∀ W_, KeepBut W W_ g none → Kd.C k68 W_ A l.length l) (hw : Pure.WB l) (hl : Pure.chk l = true) :
    Calls Try.prog 86 #[.pointer (some ⟨g, 0, none⟩), .slice A l.length c] W fun e w' => e = .returned (.int .i64 0) ∧ HS w0 w' (m.set i (g, Pure.merged s l)) ∧ KeepBut W w' g none :=
  (hist_Hist_Merge.calls (l.length + 1) g s A c l 0 (Pure.merged s l) w0 W (h.at_ i hi) h.bel hr hc (Pure.Merge_eq hs hw hl _ (by omega))).mono fun _ _ ⟨he, hI, hB, hK⟩ => ⟨he, h.put i hi hK hI.1 hB, hK⟩
theorem heap51 : Kd.Heap k68 := ⟨fun _ h => h⟩
/-- What came in stays readable while the call's own histograms change. -/
theorem HS.old {w0 W : World} {m : List (Nat × List Int)} (h : HS w0 W m) (i : Nat) {g : Nat} {s : List Int} (hi : m[i]? = some (g, s)) {A : Option Addr} {l : List S68} (hC : Kd.C k68 w0 A l.length l) : ∀ W_, KeepBut W W_ g none → Kd.C k68 W_ A l.length l := fun W_ hk =>
  Kd.C_foot_came heap51 hC h.bel (h.at_ i hi).2 W_ hk
/-- What the call made before stays readable, too. -/
theorem HS.own {w0 W : World} {m : List (Nat × List Int)} (h : HS w0 W m) (i : Nat) {g : Nat} {s : List Int} (hi : m[i]? = some (g, s)) {A : Option Addr} {c : Nat} {l : List S68} {base : Nat} {ok : Nat → Prop} (hR : Kd.R k68 68 W base ok (.slice A l.length c) l) : ∀ W_, KeepBut W W_ g none → Kd.C k68 W_ A l.length l := fun _ hk => by
  have := R_hist hR (h.at_ i hi).1 hk
  exact (Kd.R_reads' this).2.2
end Go.Proofs.Ytncgjbocgbnkcaa
namespace Go.Proofs.Ytncgjbocgbnkcaa
set_option linter.unusedVariables false
set_option linter.unusedSimpArgs false
open Go.RowKit Go.Proofs.YtncgjbocgbnkcaaW.PrintWords Go.Proofs.YtncgjbocgbnkcaaW.PrintLast Go.Proofs.YtncgjbocgbnkcaaW.PrintMore Go.Proofs.Ytncgjbocgbnkcaa.Hi Go.Proofs.Ytncgjbocgbnkcaa.Gb
theorem four (w : World) (oA oB oZ oG : Obj) : ((((w.alloc oA).alloc oB).alloc oZ).alloc oG).heap[w.heap.size]? = some oA ∧ ((((w.alloc oA).alloc oB).alloc oZ).alloc oG).heap[w.heap.size + 1]? = some oB ∧
    ((((w.alloc oA).alloc oB).alloc oZ).alloc oG).heap[w.heap.size + 1 + 1]? = some oZ ∧ ((((w.alloc oA).alloc oB).alloc oZ).alloc oG).heap[w.heap.size + 1 + 1 + 1]? = some oG ∧ Below w.heap.size w ((((w.alloc oA).alloc oB).alloc oZ).alloc oG) := by
  have s1 : (w.alloc oA).heap.size = w.heap.size + 1 := by simp
  have s2 : ((w.alloc oA).alloc oB).heap.size = w.heap.size + 1 + 1 := by simp
  have s3 : (((w.alloc oA).alloc oB).alloc oZ).heap.size = w.heap.size + 1 + 1 + 1 := by simp
  refine ⟨blk_alloc (blk_alloc (blk_alloc (blk_new w _) _) _) _, ?_, ?_, ?_, ?_⟩
  · rw [← s1]; exact blk_alloc (blk_alloc (blk_new _ _) _) _
  · rw [← s2]; exact blk_alloc (blk_new _ _) _
  · rw [← s3]; exact blk_new _ _
  · exact below_alloc (below_alloc (below_alloc (below_alloc (Below.refl _ _) _) _) _) _
set_option maxHeartbeats 4000000 in
set_option maxRecDepth 100000 in
theorem gmerge_any (a0 a1 a2 a3 b0 b1 b2 b3 : Int) (w : World) (ha0 : 0 ≤ a0 ∧ a0 < 18446744073709551616) (ha1 : 0 ≤ a1 ∧ a1 < 18446744073709551616) (hb0 : 0 ≤ b0 ∧ b0 < 18446744073709551616) (hb1 : 0 ≤ b1 ∧ b1 < 18446744073709551616)
    (z y l1 l2 : Bool) (hz : (a0 == 0) = z) (hy : (b0 == 0) = y) (h1 : flo_Less.f b2 a2 = some l1) (h2 : flo_Less.f a3 b3 = some l2) :
    Calls Try.prog 88 #[.agg #[.int .u64 a0, .int .u64 a1, .int .u64 a2, .int .u64 a3], .agg #[.int .u64 b0, .int .u64 b1, .int .u64 b2, .int .u64 b3]] w fun e w' =>
      e = .returned (.agg #[.int .u64 (hold (a0 + b0)), .int .u64 (hold (a1 + b1)), .int .u64 (if z then b2 else if y then a2 else if l1 then b2 else a2), .int .u64 (if z then b3 else if y then a3 else if l2 then b3 else a3)]) ∧ Below w.heap.size w w' := by
  have A1 := fun w => add_eq a1 b1 w ha1.1 ha1.2 hb1.1 hb1.2
  have A0 := fun w => add_eq a0 b0 w ha0.1 ha0.2 hb0.1 hb0.2
  have L1 := fun w => flo_Less.calls b2 a2 l1 w h1
  have L2 := fun w => flo_Less.calls a3 b3 l2 w h2
  obtain ⟨p, hp⟩ : ∃ p, (if a0 + b0 < 18446744073709551616 then a0 + b0 else 18446744073709551615) = p := ⟨_, rfl⟩
  obtain ⟨q, hq⟩ : ∃ q, (if a1 + b1 < 18446744073709551616 then a1 + b1 else 18446744073709551615) = q := ⟨_, rfl⟩
  have HPP := Lib.hid (show hold (a0 + b0) = p from hp)
  have HQQ := Lib.hid (show hold (a1 + b1) = q from hq)
  rw [hp] at A0
  rw [hq] at A1
  rw [HPP.out, HQQ.out]
  clear hp hq ha0 ha1 hb0 hb1 h1 h2
  cases z
  · go_enter Try.func88, Try.ntmps88
    go_wp2
    refine name_world _ (fun WW HW => ?_)
    have F := four w (.cells #[.int .u64 a0, .int .u64 a1, .int .u64 a2, .int .u64 a3] 43) (.cells #[.int .u64 b0, .int .u64 b1, .int .u64 b2, .int .u64 b3] 43) (.cells #[.int .u64 0, .int .u64 0, .int .u64 0, .int .u64 0] 43) (.cells #[.int .u64 a0, .int .u64 a1, .int .u64 a2, .int .u64 a3] 43)
    rw [HW.out] at F
    obtain ⟨bA, bB, bR, bG, bL⟩ := F
    refine wp_region_still_tail 11 (by kernel_rfl) (by kernel_rfl) ?_
    simp only [List.take_succ_cons, List.take_zero, List.drop_succ_cons, List.drop_zero]
    change wpStill _ _ WW.drew _ _ _
    replace bA := blk_drew bA; replace bB := blk_drew bB; replace bR := blk_drew bR; replace bG := blk_drew bG
    replace bL := below_drew bL
    obtain ⟨W2, hW2⟩ : ∃ W2, WW.drew = W2 := ⟨_, rfl⟩
    rw [hW2] at bA bB bR bG bL ⊢
    have HW2 := Lib.hid hW2
    clear hW2 HW
    have c0 := blk_cell bA 0; have c1 := blk_cell bA 1; have c2 := blk_cell bA 2; have c3 := blk_cell bA 3
    have d0 := blk_cell bB 0; have d1 := blk_cell bB 1; have d2 := blk_cell bB 2; have d3 := blk_cell bB 3
    have g0 := blk_cell bG 0; have g1 := blk_cell bG 1; have g2 := blk_cell bG 2; have g3 := blk_cell bG 3
    have r0 := blk_cell bR 0; have r1 := blk_cell bR 1; have r2 := blk_cell bR 2; have r3 := blk_cell bR 3
    have fg0 := blk_frozen bG 0; have fg1 := blk_frozen bG 1; have fg2 := blk_frozen bG 2; have fg3 := blk_frozen bG 3
    have fr0 := blk_frozen bR 0; have fr1 := blk_frozen bR 1; have fr2 := blk_frozen bR 2; have fr3 := blk_frozen bR 3
    have HG := Lib.hid bG; have HR := Lib.hid bR; have HBL := Lib.hid bL
    clear bA bB bG bR bL
    still_step
    still_step
    still_step
    still_step
    still_call ((A1 W2).mono fun _ _ ⟨he, hw⟩ => ⟨he, hw.symm⟩)
    still_step
    still_step
    still_step
    still_step
    still_call ((A0 W2).mono fun _ _ ⟨he, hw⟩ => ⟨he, hw.symm⟩)
    still_step
    refine wpStill_nil ?_
    change wpList _ _ _ _ _ WW.drew
    rw [HW2.out]
    clear A0 A1
    cases y
    · cases l1
      · cases l2
        · go_wp2_with (first
            | (go_at_call 109; refine (L1 _).mono ?_; rintro e w1 ⟨rfl, ⟨n1, rfl⟩⟩; clear L1)
            | (go_at_call 109; refine (L2 _).mono ?_; rintro e w1 ⟨rfl, ⟨n2, rfl⟩⟩; clear L2))
          refine bodyPost_ret (results_cell_row rfl _ _ (w.heap.size + 1 + 1) 43 #[.int .u64 p, .int .u64 q, .int .u64 a2, .int .u64 a3] (0, 0) _ rfl (by (with_reducible repeat (first | refine blk_drewN ?_ _ | refine blk_drew ?_)); refine blk_put (cs := #[.int .u64 p, .int .u64 q, .int .u64 a2, .int .u64 0]) ?_ 3 _ rfl; (with_reducible repeat (first | refine blk_drewN ?_ _ | refine blk_drew ?_)); refine blk_put (cs := #[.int .u64 p, .int .u64 q, .int .u64 0, .int .u64 0]) ?_ 2 _ rfl; (with_reducible repeat (first | refine blk_drewN ?_ _ | refine blk_drew ?_)); refine blk_put (cs := #[.int .u64 p, .int .u64 0, .int .u64 0, .int .u64 0]) ?_ 1 _ rfl; (with_reducible repeat (first | refine blk_drewN ?_ _ | refine blk_drew ?_)); refine blk_put (cs := #[.int .u64 0, .int .u64 0, .int .u64 0, .int .u64 0]) ?_ 0 _ rfl; repeat (first | (with_reducible exact HR.out) | (with_reducible refine blk_drewN ?_ _) | (with_reducible refine blk_drew ?_) | (with_reducible refine blk_far ?_ (by simp) _))) Try.underlying43 rfl (by kernel_rfl)) rfl ⟨rfl, ?_⟩
          repeat (first | (with_reducible exact HBL.out) | (with_reducible refine pw_below_drewN ?_ _) | (with_reducible refine below_drew ?_) | (with_reducible refine below_set ?_ (by omega)))
        · go_wp2_with (first
            | (go_at_call 109; refine (L1 _).mono ?_; rintro e w1 ⟨rfl, ⟨n1, rfl⟩⟩; clear L1)
            | (go_at_call 109; refine (L2 _).mono ?_; rintro e w1 ⟨rfl, ⟨n2, rfl⟩⟩; clear L2))
          refine bodyPost_ret (results_cell_row rfl _ _ (w.heap.size + 1 + 1) 43 #[.int .u64 p, .int .u64 q, .int .u64 a2, .int .u64 b3] (0, 0) _ rfl (by (with_reducible repeat (first | refine blk_drewN ?_ _ | refine blk_drew ?_)); refine blk_put (cs := #[.int .u64 p, .int .u64 q, .int .u64 a2, .int .u64 0]) ?_ 3 _ rfl; (with_reducible repeat (first | refine blk_drewN ?_ _ | refine blk_drew ?_)); refine blk_put (cs := #[.int .u64 p, .int .u64 q, .int .u64 0, .int .u64 0]) ?_ 2 _ rfl; (with_reducible repeat (first | refine blk_drewN ?_ _ | refine blk_drew ?_)); refine blk_put (cs := #[.int .u64 p, .int .u64 0, .int .u64 0, .int .u64 0]) ?_ 1 _ rfl; (with_reducible repeat (first | refine blk_drewN ?_ _ | refine blk_drew ?_)); refine blk_put (cs := #[.int .u64 0, .int .u64 0, .int .u64 0, .int .u64 0]) ?_ 0 _ rfl; repeat (first | (with_reducible exact HR.out) | (with_reducible refine blk_drewN ?_ _) | (with_reducible refine blk_drew ?_) | (with_reducible refine blk_far ?_ (by simp) _))) Try.underlying43 rfl (by kernel_rfl)) rfl ⟨rfl, ?_⟩
          repeat (first | (with_reducible exact HBL.out) | (with_reducible refine pw_below_drewN ?_ _) | (with_reducible refine below_drew ?_) | (with_reducible refine below_set ?_ (by omega)))
      · cases l2
        · go_wp2_with (first
            | (go_at_call 109; refine (L1 _).mono ?_; rintro e w1 ⟨rfl, ⟨n1, rfl⟩⟩; clear L1)
            | (go_at_call 109; refine (L2 _).mono ?_; rintro e w1 ⟨rfl, ⟨n2, rfl⟩⟩; clear L2))
          refine bodyPost_ret (results_cell_row rfl _ _ (w.heap.size + 1 + 1) 43 #[.int .u64 p, .int .u64 q, .int .u64 b2, .int .u64 a3] (0, 0) _ rfl (by (with_reducible repeat (first | refine blk_drewN ?_ _ | refine blk_drew ?_)); refine blk_put (cs := #[.int .u64 p, .int .u64 q, .int .u64 b2, .int .u64 0]) ?_ 3 _ rfl; (with_reducible repeat (first | refine blk_drewN ?_ _ | refine blk_drew ?_)); refine blk_put (cs := #[.int .u64 p, .int .u64 q, .int .u64 0, .int .u64 0]) ?_ 2 _ rfl; (with_reducible repeat (first | refine blk_drewN ?_ _ | refine blk_drew ?_)); refine blk_put (cs := #[.int .u64 p, .int .u64 0, .int .u64 0, .int .u64 0]) ?_ 1 _ rfl; (with_reducible repeat (first | refine blk_drewN ?_ _ | refine blk_drew ?_)); refine blk_put (cs := #[.int .u64 0, .int .u64 0, .int .u64 0, .int .u64 0]) ?_ 0 _ rfl; repeat (first | (with_reducible exact HR.out) | (with_reducible refine blk_drewN ?_ _) | (with_reducible refine blk_drew ?_) | (with_reducible refine blk_far ?_ (by simp) _))) Try.underlying43 rfl (by kernel_rfl)) rfl ⟨rfl, ?_⟩
          repeat (first | (with_reducible exact HBL.out) | (with_reducible refine pw_below_drewN ?_ _) | (with_reducible refine below_drew ?_) | (with_reducible refine below_set ?_ (by omega)))
        · go_wp2_with (first
            | (go_at_call 109; refine (L1 _).mono ?_; rintro e w1 ⟨rfl, ⟨n1, rfl⟩⟩; clear L1)
            | (go_at_call 109; refine (L2 _).mono ?_; rintro e w1 ⟨rfl, ⟨n2, rfl⟩⟩; clear L2))
          refine bodyPost_ret (results_cell_row rfl _ _ (w.heap.size + 1 + 1) 43 #[.int .u64 p, .int .u64 q, .int .u64 b2, .int .u64 b3] (0, 0) _ rfl (by (with_reducible repeat (first | refine blk_drewN ?_ _ | refine blk_drew ?_)); refine blk_put (cs := #[.int .u64 p, .int .u64 q, .int .u64 b2, .int .u64 0]) ?_ 3 _ rfl; (with_reducible repeat (first | refine blk_drewN ?_ _ | refine blk_drew ?_)); refine blk_put (cs := #[.int .u64 p, .int .u64 q, .int .u64 0, .int .u64 0]) ?_ 2 _ rfl; (with_reducible repeat (first | refine blk_drewN ?_ _ | refine blk_drew ?_)); refine blk_put (cs := #[.int .u64 p, .int .u64 0, .int .u64 0, .int .u64 0]) ?_ 1 _ rfl; (with_reducible repeat (first | refine blk_drewN ?_ _ | refine blk_drew ?_)); refine blk_put (cs := #[.int .u64 0, .int .u64 0, .int .u64 0, .int .u64 0]) ?_ 0 _ rfl; repeat (first | (with_reducible exact HR.out) | (with_reducible refine blk_drewN ?_ _) | (with_reducible refine blk_drew ?_) | (with_reducible refine blk_far ?_ (by simp) _))) Try.underlying43 rfl (by kernel_rfl)) rfl ⟨rfl, ?_⟩
          repeat (first | (with_reducible exact HBL.out) | (with_reducible refine pw_below_drewN ?_ _) | (with_reducible refine below_drew ?_) | (with_reducible refine below_set ?_ (by omega)))
    · go_wp2
      refine bodyPost_ret (results_cell_row rfl _ _ (w.heap.size + 1 + 1) 43 #[.int .u64 p, .int .u64 q, .int .u64 a2, .int .u64 a3] (0, 0) _ rfl (by (with_reducible repeat (first | refine blk_drewN ?_ _ | refine blk_drew ?_)); refine blk_put (cs := #[.int .u64 p, .int .u64 q, .int .u64 a2, .int .u64 0]) ?_ 3 _ rfl; (with_reducible repeat (first | refine blk_drewN ?_ _ | refine blk_drew ?_)); refine blk_put (cs := #[.int .u64 p, .int .u64 q, .int .u64 0, .int .u64 0]) ?_ 2 _ rfl; (with_reducible repeat (first | refine blk_drewN ?_ _ | refine blk_drew ?_)); refine blk_put (cs := #[.int .u64 p, .int .u64 0, .int .u64 0, .int .u64 0]) ?_ 1 _ rfl; (with_reducible repeat (first | refine blk_drewN ?_ _ | refine blk_drew ?_)); refine blk_put (cs := #[.int .u64 0, .int .u64 0, .int .u64 0, .int .u64 0]) ?_ 0 _ rfl; repeat (first | (with_reducible exact HR.out) | (with_reducible refine blk_drewN ?_ _) | (with_reducible refine blk_drew ?_) | (with_reducible refine blk_far ?_ (by simp) _))) Try.underlying43 rfl (by kernel_rfl)) rfl ⟨rfl, ?_⟩
      repeat (first | (with_reducible exact HBL.out) | (with_reducible refine pw_below_drewN ?_ _) | (with_reducible refine below_drew ?_) | (with_reducible refine below_set ?_ (by omega)))
  · go_enter Try.func88, Try.ntmps88
    go_wp2
    refine name_world _ (fun WW HW => ?_)
    have F := four w (.cells #[.int .u64 a0, .int .u64 a1, .int .u64 a2, .int .u64 a3] 43) (.cells #[.int .u64 b0, .int .u64 b1, .int .u64 b2, .int .u64 b3] 43) (.cells #[.int .u64 0, .int .u64 0, .int .u64 0, .int .u64 0] 43) (.cells #[.int .u64 b0, .int .u64 b1, .int .u64 b2, .int .u64 b3] 43)
    rw [HW.out] at F
    obtain ⟨bA, bB, bR, bG, bL⟩ := F
    refine wp_region_still_tail 11 (by kernel_rfl) (by kernel_rfl) ?_
    simp only [List.take_succ_cons, List.take_zero, List.drop_succ_cons, List.drop_zero]
    change wpStill _ _ WW.drew _ _ _
    replace bA := blk_drew bA; replace bB := blk_drew bB; replace bR := blk_drew bR; replace bG := blk_drew bG
    replace bL := below_drew bL
    obtain ⟨W2, hW2⟩ : ∃ W2, WW.drew = W2 := ⟨_, rfl⟩
    rw [hW2] at bA bB bR bG bL ⊢
    have HW2 := Lib.hid hW2
    clear hW2 HW
    have c0 := blk_cell bA 0; have c1 := blk_cell bA 1; have c2 := blk_cell bA 2; have c3 := blk_cell bA 3
    have d0 := blk_cell bB 0; have d1 := blk_cell bB 1; have d2 := blk_cell bB 2; have d3 := blk_cell bB 3
    have g0 := blk_cell bG 0; have g1 := blk_cell bG 1; have g2 := blk_cell bG 2; have g3 := blk_cell bG 3
    have r0 := blk_cell bR 0; have r1 := blk_cell bR 1; have r2 := blk_cell bR 2; have r3 := blk_cell bR 3
    have fg0 := blk_frozen bG 0; have fg1 := blk_frozen bG 1; have fg2 := blk_frozen bG 2; have fg3 := blk_frozen bG 3
    have fr0 := blk_frozen bR 0; have fr1 := blk_frozen bR 1; have fr2 := blk_frozen bR 2; have fr3 := blk_frozen bR 3
    have HG := Lib.hid bG; have HR := Lib.hid bR; have HBL := Lib.hid bL
    clear bA bB bG bR bL
    still_step
    still_step
    still_step
    still_step
    still_call ((A1 W2).mono fun _ _ ⟨he, hw⟩ => ⟨he, hw.symm⟩)
    still_step
    still_step
    still_step
    still_step
    still_call ((A0 W2).mono fun _ _ ⟨he, hw⟩ => ⟨he, hw.symm⟩)
    still_step
    refine wpStill_nil ?_
    change wpList _ _ _ _ _ WW.drew
    rw [HW2.out]
    clear A0 A1
    go_wp2
    refine bodyPost_ret (results_cell_row rfl _ _ (w.heap.size + 1 + 1) 43 #[.int .u64 p, .int .u64 q, .int .u64 b2, .int .u64 b3] (0, 0) _ rfl (by (with_reducible repeat (first | refine blk_drewN ?_ _ | refine blk_drew ?_)); refine blk_put (cs := #[.int .u64 p, .int .u64 q, .int .u64 b2, .int .u64 0]) ?_ 3 _ rfl; (with_reducible repeat (first | refine blk_drewN ?_ _ | refine blk_drew ?_)); refine blk_put (cs := #[.int .u64 p, .int .u64 q, .int .u64 0, .int .u64 0]) ?_ 2 _ rfl; (with_reducible repeat (first | refine blk_drewN ?_ _ | refine blk_drew ?_)); refine blk_put (cs := #[.int .u64 p, .int .u64 0, .int .u64 0, .int .u64 0]) ?_ 1 _ rfl; (with_reducible repeat (first | refine blk_drewN ?_ _ | refine blk_drew ?_)); refine blk_put (cs := #[.int .u64 0, .int .u64 0, .int .u64 0, .int .u64 0]) ?_ 0 _ rfl; repeat (first | (with_reducible exact HR.out) | (with_reducible refine blk_drewN ?_ _) | (with_reducible refine blk_drew ?_) | (with_reducible refine blk_far ?_ (by simp) _))) Try.underlying43 rfl (by kernel_rfl)) rfl ⟨rfl, ?_⟩
    repeat (first | (with_reducible exact HBL.out) | (with_reducible refine pw_below_drewN ?_ _) | (with_reducible refine below_drew ?_) | (with_reducible refine below_set ?_ (by omega)))
end Go.Proofs.Ytncgjbocgbnkcaa
namespace Go.Proofs.Ytncgjbocgbnkcaa
set_option linter.unusedVariables false
set_option linter.unusedSimpArgs false
open Go.RowKit Go.Proofs.YtncgjbocgbnkcaaW.PrintWords Go.Proofs.YtncgjbocgbnkcaaW.PrintLast Go.Proofs.YtncgjbocgbnkcaaW.PrintMore Go.Proofs.Ytncgjbocgbnkcaa.Hi Go.Proofs.Ytncgjbocgbnkcaa.Gb
set_option maxHeartbeats 400000 in
theorem radd_eq (a b : Int) (w : World) (ha : 0 ≤ a ∧ a < 18446744073709551616) (hb : 0 ≤ b ∧ b < 18446744073709551616) :
    Calls Try.prog 105 #[.int .u64 a, .int .u64 b] w fun e w' => e = .returned (.int .u64 (hold (a + b))) ∧ w = w' := by
  obtain ⟨ha0, ha1⟩ := ha
  obtain ⟨hb0, hb1⟩ := hb
  unfold hold
  by_cases c : a + b < 18446744073709551616
  · rw [if_pos c]
    have e2 : decide (18446744073709551615 - b < a) = false := decide_eq_false (by omega)
    go_enter Try.func105, Try.ntmps105
    go_wp2
    go_ret
    exact ⟨rfl, rfl⟩
  · rw [if_neg c]
    have e2 : decide (18446744073709551615 - b < a) = true := decide_eq_true (by omega)
    clear c
    go_enter Try.func105, Try.ntmps105
    go_wp2
    go_ret
    exact ⟨rfl, rfl⟩
theorem three (w : World) (oA oB oZ : Obj) : (((w.alloc oA).alloc oB).alloc oZ).heap[w.heap.size]? = some oA ∧ (((w.alloc oA).alloc oB).alloc oZ).heap[w.heap.size + 1]? = some oB ∧
    (((w.alloc oA).alloc oB).alloc oZ).heap[w.heap.size + 1 + 1]? = some oZ ∧ Below w.heap.size w (((w.alloc oA).alloc oB).alloc oZ) ∧ (((w.alloc oA).alloc oB).alloc oZ).heap.size = w.heap.size + 1 + 1 + 1 := by
  have s1 : (w.alloc oA).heap.size = w.heap.size + 1 := by simp
  have s2 : ((w.alloc oA).alloc oB).heap.size = w.heap.size + 1 + 1 := by simp
  refine ⟨blk_alloc (blk_alloc (blk_new w _) _) _, ?_, ?_, ?_, by simp⟩
  · rw [← s1]; exact blk_alloc (blk_new _ _) _
  · rw [← s2]; exact blk_new _ _
  · exact below_alloc (below_alloc (below_alloc (Below.refl _ _) _) _) _
set_option maxHeartbeats 8000000 in
set_option maxRecDepth 100000 in
theorem grmerge_any (a0 a1 a2 a3 b0 b1 b2 b3 : Int) (w : World) (ha0 : 0 ≤ a0 ∧ a0 < 18446744073709551616) (ha1 : 0 ≤ a1 ∧ a1 < 18446744073709551616) (hb0 : 0 ≤ b0 ∧ b0 < 18446744073709551616) (hb1 : 0 ≤ b1 ∧ b1 < 18446744073709551616)
    (z y l1 l2 : Bool) (hz : (a0 == 0) = z) (hy : (b0 == 0) = y) (k : Nat) (h1 : varveref02_Less.f k b2 a2 = some l1) (h2 : varveref02_Less.f k a3 b3 = some l2) :
    Calls Try.prog 85 #[.agg #[.int .u64 a0, .int .u64 a1, .int .u64 a2, .int .u64 a3], .agg #[.int .u64 b0, .int .u64 b1, .int .u64 b2, .int .u64 b3]] w fun e w' =>
      e = .returned (.agg #[.int .u64 (hold (a0 + b0)), .int .u64 (hold (a1 + b1)), .int .u64 (if z then b2 else if y then a2 else if l1 then b2 else a2), .int .u64 (if z then b3 else if y then a3 else if l2 then b3 else a3)]) ∧ Below w.heap.size w w' := by
  have A1 := fun w => radd_eq a1 b1 w ha1 hb1
  have A0 := fun w => radd_eq a0 b0 w ha0 hb0
  have L1 := fun w => varveref02_Less.calls k b2 a2 l1 w h1
  have L2 := fun w => varveref02_Less.calls k a3 b3 l2 w h2
  obtain ⟨p, hp⟩ : ∃ p, hold (a0 + b0) = p := ⟨_, rfl⟩
  obtain ⟨q, hq⟩ : ∃ q, hold (a1 + b1) = q := ⟨_, rfl⟩
  rw [hp] at A0 ⊢
  rw [hq] at A1 ⊢
  clear hp hq ha0 ha1 hb0 hb1 h1 h2
  go_enter Try.func85, Try.ntmps85
  go_wp2
  refine name_world _ (fun WW HW => ?_)
  have F := three w (.cells #[.int .u64 a0, .int .u64 a1, .int .u64 a2, .int .u64 a3] 43) (.cells #[.int .u64 b0, .int .u64 b1, .int .u64 b2, .int .u64 b3] 43) (.cells #[.int .u64 0, .int .u64 0, .int .u64 0, .int .u64 0] 43)
  rw [HW.out] at F
  obtain ⟨bA, bB, bR, bL, bS⟩ := F
  have c0 := blk_cell bA 0; have c1 := blk_cell bA 1; have c2 := blk_cell bA 2; have c3 := blk_cell bA 3
  have d0 := blk_cell bB 0; have d1 := blk_cell bB 1
  have HA := Lib.hid bA; have HB := Lib.hid bB; have HR := Lib.hid bR; have HBL := Lib.hid bL; have HSZ := Lib.hid bS
  clear bA bB bR bL bS HW
  go_region_held3 (fun w' => w'.cell? ⟨w.heap.size, 0, none⟩ = some (.int .u64 a0) ∧ w'.cell? ⟨w.heap.size, 1, none⟩ = some (.int .u64 a1) ∧ w'.cell? ⟨w.heap.size, 2, none⟩ = some (.int .u64 a2) ∧ w'.cell? ⟨w.heap.size, 3, none⟩ = some (.int .u64 a3) ∧ w'.cell? ⟨w.heap.size + 1, 0, none⟩ = some (.int .u64 b0) ∧ w'.cell? ⟨w.heap.size + 1, 1, none⟩ = some (.int .u64 b1))
    (first | go_keep | exact ⟨c0, c1, c2, c3, d0, d1⟩)
    (first | (go_at_call 105; (with_reducible refine (A0 _).mono ?_); rintro e w1 ⟨rfl, rfl⟩) | (go_at_call 105; (with_reducible refine (A1 _).mono ?_); rintro e w1 ⟨rfl, rfl⟩))
  all_goals
    rw [HSZ.out]
    have gA := blk_drew (blk_alloc HA.out (Obj.cells #[.int .u64 p, .int .u64 q, .int .u64 a2, .int .u64 a3] 43)); have gB := blk_drew (blk_alloc HB.out (Obj.cells #[.int .u64 p, .int .u64 q, .int .u64 a2, .int .u64 a3] 43)); have gR := blk_drew (blk_alloc HR.out (Obj.cells #[.int .u64 p, .int .u64 q, .int .u64 a2, .int .u64 a3] 43)); have gL := below_drew (below_alloc HBL.out (Obj.cells #[.int .u64 p, .int .u64 q, .int .u64 a2, .int .u64 a3] 43))
    have gG : (WW.alloc (Obj.cells #[.int .u64 p, .int .u64 q, .int .u64 a2, .int .u64 a3] 43)).drew.heap[w.heap.size + 1 + 1 + 1]? = some (.cells #[.int .u64 p, .int .u64 q, .int .u64 a2, .int .u64 a3] 43 (0, 0)) := by rw [← HSZ.out]; exact blk_drew (blk_new WW (Obj.cells #[.int .u64 p, .int .u64 q, .int .u64 a2, .int .u64 a3] 43))
    obtain ⟨W2, hW2⟩ : ∃ W2, (WW.alloc (Obj.cells #[.int .u64 p, .int .u64 q, .int .u64 a2, .int .u64 a3] 43)).drew = W2 := ⟨_, rfl⟩
    rw [hW2] at gA gB gR gL gG ⊢
    clear hW2 c0 c1 c2 c3 d0 d1
    have c0 := blk_cell gA 0; have c1 := blk_cell gA 1; have c2 := blk_cell gA 2; have c3 := blk_cell gA 3
    have d0 := blk_cell gB 0; have d1 := blk_cell gB 1; have d2 := blk_cell gB 2; have d3 := blk_cell gB 3
    have g0 := blk_cell gG 0; have g1 := blk_cell gG 1; have g2 := blk_cell gG 2; have g3 := blk_cell gG 3
    have r0 := blk_cell gR 0; have r1 := blk_cell gR 1; have r2 := blk_cell gR 2; have r3 := blk_cell gR 3
    have fg0 := blk_frozen gG 0; have fg1 := blk_frozen gG 1; have fg2 := blk_frozen gG 2; have fg3 := blk_frozen gG 3
    have fr0 := blk_frozen gR 0; have fr1 := blk_frozen gR 1; have fr2 := blk_frozen gR 2; have fr3 := blk_frozen gR 3
    have HR2 := Lib.hid gR; have HBL2 := Lib.hid gL
    clear gA gB gG gR gL A0 A1
    cases z
    · cases y
      · cases l1
        · cases l2
          · go_wp2_with (first
              | (go_at_call 113; (with_reducible refine (L1 _).mono ?_); rintro e w1 ⟨rfl, ⟨n1, rfl⟩⟩; clear L1)
              | (go_at_call 113; (with_reducible refine (L2 _).mono ?_); rintro e w1 ⟨rfl, ⟨n2, rfl⟩⟩; clear L2))
            refine bodyPost_ret (results_cell_row rfl _ _ (w.heap.size + 1 + 1) 43 #[.int .u64 p, .int .u64 q, .int .u64 a2, .int .u64 a3] (0, 0) _ rfl (by (with_reducible repeat (first | refine blk_drewN ?_ _ | refine blk_drew ?_)); refine blk_put (cs := #[.int .u64 p, .int .u64 q, .int .u64 a2, .int .u64 0]) ?_ 3 _ rfl; (with_reducible repeat (first | refine blk_drewN ?_ _ | refine blk_drew ?_)); refine blk_put (cs := #[.int .u64 p, .int .u64 q, .int .u64 0, .int .u64 0]) ?_ 2 _ rfl; (with_reducible repeat (first | refine blk_drewN ?_ _ | refine blk_drew ?_)); refine blk_put (cs := #[.int .u64 p, .int .u64 0, .int .u64 0, .int .u64 0]) ?_ 1 _ rfl; (with_reducible repeat (first | refine blk_drewN ?_ _ | refine blk_drew ?_)); refine blk_put (cs := #[.int .u64 0, .int .u64 0, .int .u64 0, .int .u64 0]) ?_ 0 _ rfl; repeat (first | (with_reducible exact HR2.out) | (with_reducible refine blk_drewN ?_ _) | (with_reducible refine blk_drew ?_) | (with_reducible refine blk_far ?_ (by simp) _))) Try.underlying43 rfl (by kernel_rfl)) rfl ⟨rfl, ?_⟩
            repeat (first | (with_reducible exact HBL2.out) | (with_reducible refine pw_below_drewN ?_ _) | (with_reducible refine below_drew ?_) | (with_reducible refine below_set ?_ (by omega)))
          · go_wp2_with (first
              | (go_at_call 113; (with_reducible refine (L1 _).mono ?_); rintro e w1 ⟨rfl, ⟨n1, rfl⟩⟩; clear L1)
              | (go_at_call 113; (with_reducible refine (L2 _).mono ?_); rintro e w1 ⟨rfl, ⟨n2, rfl⟩⟩; clear L2))
            refine bodyPost_ret (results_cell_row rfl _ _ (w.heap.size + 1 + 1) 43 #[.int .u64 p, .int .u64 q, .int .u64 a2, .int .u64 b3] (0, 0) _ rfl (by (with_reducible repeat (first | refine blk_drewN ?_ _ | refine blk_drew ?_)); refine blk_put (cs := #[.int .u64 p, .int .u64 q, .int .u64 a2, .int .u64 0]) ?_ 3 _ rfl; (with_reducible repeat (first | refine blk_drewN ?_ _ | refine blk_drew ?_)); refine blk_put (cs := #[.int .u64 p, .int .u64 q, .int .u64 0, .int .u64 0]) ?_ 2 _ rfl; (with_reducible repeat (first | refine blk_drewN ?_ _ | refine blk_drew ?_)); refine blk_put (cs := #[.int .u64 p, .int .u64 0, .int .u64 0, .int .u64 0]) ?_ 1 _ rfl; (with_reducible repeat (first | refine blk_drewN ?_ _ | refine blk_drew ?_)); refine blk_put (cs := #[.int .u64 0, .int .u64 0, .int .u64 0, .int .u64 0]) ?_ 0 _ rfl; repeat (first | (with_reducible exact HR2.out) | (with_reducible refine blk_drewN ?_ _) | (with_reducible refine blk_drew ?_) | (with_reducible refine blk_far ?_ (by simp) _))) Try.underlying43 rfl (by kernel_rfl)) rfl ⟨rfl, ?_⟩
            repeat (first | (with_reducible exact HBL2.out) | (with_reducible refine pw_below_drewN ?_ _) | (with_reducible refine below_drew ?_) | (with_reducible refine below_set ?_ (by omega)))
        · cases l2
          · go_wp2_with (first
              | (go_at_call 113; (with_reducible refine (L1 _).mono ?_); rintro e w1 ⟨rfl, ⟨n1, rfl⟩⟩; clear L1)
              | (go_at_call 113; (with_reducible refine (L2 _).mono ?_); rintro e w1 ⟨rfl, ⟨n2, rfl⟩⟩; clear L2))
            refine bodyPost_ret (results_cell_row rfl _ _ (w.heap.size + 1 + 1) 43 #[.int .u64 p, .int .u64 q, .int .u64 b2, .int .u64 a3] (0, 0) _ rfl (by (with_reducible repeat (first | refine blk_drewN ?_ _ | refine blk_drew ?_)); refine blk_put (cs := #[.int .u64 p, .int .u64 q, .int .u64 b2, .int .u64 0]) ?_ 3 _ rfl; (with_reducible repeat (first | refine blk_drewN ?_ _ | refine blk_drew ?_)); refine blk_put (cs := #[.int .u64 p, .int .u64 q, .int .u64 0, .int .u64 0]) ?_ 2 _ rfl; (with_reducible repeat (first | refine blk_drewN ?_ _ | refine blk_drew ?_)); refine blk_put (cs := #[.int .u64 p, .int .u64 0, .int .u64 0, .int .u64 0]) ?_ 1 _ rfl; (with_reducible repeat (first | refine blk_drewN ?_ _ | refine blk_drew ?_)); refine blk_put (cs := #[.int .u64 0, .int .u64 0, .int .u64 0, .int .u64 0]) ?_ 0 _ rfl; repeat (first | (with_reducible exact HR2.out) | (with_reducible refine blk_drewN ?_ _) | (with_reducible refine blk_drew ?_) | (with_reducible refine blk_far ?_ (by simp) _))) Try.underlying43 rfl (by kernel_rfl)) rfl ⟨rfl, ?_⟩
            repeat (first | (with_reducible exact HBL2.out) | (with_reducible refine pw_below_drewN ?_ _) | (with_reducible refine below_drew ?_) | (with_reducible refine below_set ?_ (by omega)))
          · go_wp2_with (first
              | (go_at_call 113; (with_reducible refine (L1 _).mono ?_); rintro e w1 ⟨rfl, ⟨n1, rfl⟩⟩; clear L1)
              | (go_at_call 113; (with_reducible refine (L2 _).mono ?_); rintro e w1 ⟨rfl, ⟨n2, rfl⟩⟩; clear L2))
            refine bodyPost_ret (results_cell_row rfl _ _ (w.heap.size + 1 + 1) 43 #[.int .u64 p, .int .u64 q, .int .u64 b2, .int .u64 b3] (0, 0) _ rfl (by (with_reducible repeat (first | refine blk_drewN ?_ _ | refine blk_drew ?_)); refine blk_put (cs := #[.int .u64 p, .int .u64 q, .int .u64 b2, .int .u64 0]) ?_ 3 _ rfl; (with_reducible repeat (first | refine blk_drewN ?_ _ | refine blk_drew ?_)); refine blk_put (cs := #[.int .u64 p, .int .u64 q, .int .u64 0, .int .u64 0]) ?_ 2 _ rfl; (with_reducible repeat (first | refine blk_drewN ?_ _ | refine blk_drew ?_)); refine blk_put (cs := #[.int .u64 p, .int .u64 0, .int .u64 0, .int .u64 0]) ?_ 1 _ rfl; (with_reducible repeat (first | refine blk_drewN ?_ _ | refine blk_drew ?_)); refine blk_put (cs := #[.int .u64 0, .int .u64 0, .int .u64 0, .int .u64 0]) ?_ 0 _ rfl; repeat (first | (with_reducible exact HR2.out) | (with_reducible refine blk_drewN ?_ _) | (with_reducible refine blk_drew ?_) | (with_reducible refine blk_far ?_ (by simp) _))) Try.underlying43 rfl (by kernel_rfl)) rfl ⟨rfl, ?_⟩
            repeat (first | (with_reducible exact HBL2.out) | (with_reducible refine pw_below_drewN ?_ _) | (with_reducible refine below_drew ?_) | (with_reducible refine below_set ?_ (by omega)))
      · go_wp2
        refine bodyPost_ret (results_cell_row rfl _ _ (w.heap.size + 1 + 1) 43 #[.int .u64 p, .int .u64 q, .int .u64 a2, .int .u64 a3] (0, 0) _ rfl (by (with_reducible repeat (first | refine blk_drewN ?_ _ | refine blk_drew ?_)); refine blk_put (cs := #[.int .u64 p, .int .u64 q, .int .u64 a2, .int .u64 0]) ?_ 3 _ rfl; (with_reducible repeat (first | refine blk_drewN ?_ _ | refine blk_drew ?_)); refine blk_put (cs := #[.int .u64 p, .int .u64 q, .int .u64 0, .int .u64 0]) ?_ 2 _ rfl; (with_reducible repeat (first | refine blk_drewN ?_ _ | refine blk_drew ?_)); refine blk_put (cs := #[.int .u64 p, .int .u64 0, .int .u64 0, .int .u64 0]) ?_ 1 _ rfl; (with_reducible repeat (first | refine blk_drewN ?_ _ | refine blk_drew ?_)); refine blk_put (cs := #[.int .u64 0, .int .u64 0, .int .u64 0, .int .u64 0]) ?_ 0 _ rfl; repeat (first | (with_reducible exact HR2.out) | (with_reducible refine blk_drewN ?_ _) | (with_reducible refine blk_drew ?_) | (with_reducible refine blk_far ?_ (by simp) _))) Try.underlying43 rfl (by kernel_rfl)) rfl ⟨rfl, ?_⟩
        repeat (first | (with_reducible exact HBL2.out) | (with_reducible refine pw_below_drewN ?_ _) | (with_reducible refine below_drew ?_) | (with_reducible refine below_set ?_ (by omega)))
    · go_wp2
      refine bodyPost_ret (results_cell_row rfl _ _ (w.heap.size + 1 + 1) 43 #[.int .u64 p, .int .u64 q, .int .u64 b2, .int .u64 b3] (0, 0) _ rfl (by (with_reducible repeat (first | refine blk_drewN ?_ _ | refine blk_drew ?_)); refine blk_put (cs := #[.int .u64 p, .int .u64 q, .int .u64 b2, .int .u64 0]) ?_ 3 _ rfl; (with_reducible repeat (first | refine blk_drewN ?_ _ | refine blk_drew ?_)); refine blk_put (cs := #[.int .u64 p, .int .u64 q, .int .u64 0, .int .u64 0]) ?_ 2 _ rfl; (with_reducible repeat (first | refine blk_drewN ?_ _ | refine blk_drew ?_)); refine blk_put (cs := #[.int .u64 p, .int .u64 0, .int .u64 0, .int .u64 0]) ?_ 1 _ rfl; (with_reducible repeat (first | refine blk_drewN ?_ _ | refine blk_drew ?_)); refine blk_put (cs := #[.int .u64 0, .int .u64 0, .int .u64 0, .int .u64 0]) ?_ 0 _ rfl; repeat (first | (with_reducible exact HR2.out) | (with_reducible refine blk_drewN ?_ _) | (with_reducible refine blk_drew ?_) | (with_reducible refine blk_far ?_ (by simp) _))) Try.underlying43 rfl (by kernel_rfl)) rfl ⟨rfl, ?_⟩
      repeat (first | (with_reducible exact HBL2.out) | (with_reducible refine pw_below_drewN ?_ _) | (with_reducible refine below_drew ?_) | (with_reducible refine below_set ?_ (by omega)))
end Go.Proofs.Ytncgjbocgbnkcaa
namespace Go.Proofs.Ytncgjbocgbnkcaa.Pure
set_option linter.unusedVariables false
set_option linter.unusedSimpArgs false
open Go.RowKit Go.Proofs.Ytncgjbocgbnkcaa.Hi
theorem h_ext {s t : List Int} (hs : s.length = 7424) (ht : t.length = 7424) (h : ∀ i, i < 7424 → s.getD i 0 = t.getD i 0) : s = t := by
  refine List.ext_getElem (by omega) fun i h1 h2 => ?_
  have := h i (by omega)
  rwa [List.getD, List.getElem?_eq_getElem h1, List.getD, List.getElem?_eq_getElem h2] at this
theorem wf_u64 {x : Int} (h0 : 0 ≤ x) (h1 : x < 18446744073709551616) : (Lit.int .u64 x).wf = true := by
  rw [Lit.wf_int_iff]
  simp [IntKind.min, IntKind.max, IntKind.bits, IntKind.signed]; omega
theorem wf_i64 {x : Int} (h0 : -9223372036854775808 ≤ x) (h1 : x ≤ 9223372036854775807) : (Lit.int .i64 x).wf = true := by
  rw [Lit.wf_int_iff]
  simp [IntKind.min, IntKind.max, IntKind.bits, IntKind.signed]; omega
/-- Count by count, held. -/
def hplus (s t : List Int) : List Int := List.zipWith (fun x y => hold (x + y)) s t
theorem good_len {s : List Int} (h : hgood s = true) : s.length = 7424 := ((hgood_iff _).mp h).1
theorem good_get {s : List Int} (h : hgood s = true) (i : Nat) : 0 ≤ s.getD i 0 ∧ s.getD i 0 < 18446744073709551616 := getD_range ((hgood_iff _).mp h).2 i
theorem hplus_len {s t : List Int} (hs : s.length = 7424) (ht : t.length = 7424) : (hplus s t).length = 7424 := by
  unfold hplus; rw [List.length_zipWith]; omega
theorem hplus_get {s t : List Int} (hs : s.length = 7424) (ht : t.length = 7424) (i : Nat) (hi : i < 7424) : (hplus s t).getD i 0 = hold (s.getD i 0 + t.getD i 0) := by
  unfold hplus
  rw [List.getD, List.getElem?_zipWith, getD_get (by omega : i < s.length), getD_get (by omega : i < t.length)]; rfl
theorem hold_hold {x y z : Int} (hx : 0 ≤ x) (hz : 0 ≤ z) : hold (hold (x + y) + z) = hold (x + hold (y + z)) := by
  unfold hold
  repeat' split
  all_goals omega
theorem hplus_assoc {s t u : List Int} (hs : hgood s = true) (ht : hgood t = true) (hu : hgood u = true) : hplus (hplus s t) u = hplus s (hplus t u) := by
  have l1 := good_len hs; have l2 := good_len ht; have l3 := good_len hu
  refine h_ext (hplus_len (hplus_len l1 l2) l3) (hplus_len l1 (hplus_len l2 l3)) fun i hi => ?_
  rw [hplus_get (hplus_len l1 l2) l3 i hi, hplus_get l1 l2 i hi, hplus_get l1 (hplus_len l2 l3) i hi, hplus_get l2 l3 i hi]
  exact hold_hold (good_get hs i).1 (good_get hu i).1
theorem hplus_zero {s : List Int} (hs : hgood s = true) : hplus s (hzero 7424) = s := by
  have l1 := good_len hs; have l2 := good_len hzero_good
  refine h_ext (hplus_len l1 l2) l1 fun i hi => ?_
  rw [hplus_get l1 l2 i hi, hzero_getD, Int.add_zero]
  exact if_pos (good_get hs i).2
theorem hadd_plus {s : List Int} (hs : hgood s = true) (b : Nat) (hb : b < 7424) (n : Int) (hn : 0 ≤ n) (hn2 : n < 18446744073709551616) : hadd s b n = hplus s (hadd (hzero 7424) b n) := by
  have l1 := good_len hs; have g2 := hadd_good hzero_good b n hn; have l2 := good_len g2
  refine h_ext (good_len (hadd_good hs b n hn)) (hplus_len l1 l2) fun i hi => ?_
  rw [hplus_get l1 l2 i hi, hadd_getD s b i n (by omega), hadd_getD (hzero 7424) b i n (by rw [good_len hzero_good]; exact hb), hzero_getD, hzero_getD]
  by_cases c : i = b
  · rw [if_pos c, if_pos c, c, Int.zero_add]; rw [show hold n = n from if_pos hn2]
  · rw [if_neg c, if_neg c, Int.add_zero]; exact (if_pos (good_get hs i).2).symm
/-- Buckets that may be added. -/
def Bok (l : List S68) : Prop := ∀ b ∈ l, 0 ≤ b.f0 ∧ b.f0 < 7424 ∧ 0 ≤ b.f1 ∧ b.f1 < 18446744073709551616
theorem merged_good_of {l : List S68} (h : Bok l) : ∀ {s : List Int}, hgood s = true → hgood (merged s l) = true := by
  induction l with
  | nil => intro s hs; exact hs
  | cons b l ih => intro s hs; exact ih (fun x hx => h x (by simp [hx])) (hadd_good hs _ _ (h b (by simp)).2.2.1)
theorem merged_plus {l : List S68} (h : Bok l) : ∀ {s : List Int}, hgood s = true → merged s l = hplus s (merged (hzero 7424) l) := by
  induction l with
  | nil => intro s hs; exact (hplus_zero hs).symm
  | cons b l ih =>
    intro s hs
    obtain ⟨b0, b1, b2, b3⟩ := h b (by simp)
    have hl : Bok l := fun x hx => h x (by simp [hx])
    have i1 := ih hl (hadd_good hs b.f0.toNat b.f1 b2)
    have i2 := ih hl (hadd_good hzero_good b.f0.toNat b.f1 b2)
    have g := hadd_good hzero_good b.f0.toNat b.f1 b2
    have gm := merged_good_of hl hzero_good
    show merged (hadd s b.f0.toNat b.f1) l = hplus s (merged (hadd (hzero 7424) b.f0.toNat b.f1) l)
    rw [i1, i2, hadd_plus hs _ (by omega) _ b2 b3, hplus_assoc hs g gm]
theorem chk_ok : ∀ (l : List S68) (last : Int), -1 ≤ last → chkFrom last l = true → ∀ b ∈ l, last < b.f0 ∧ b.f0 < 7424 ∧ b.f1 ≠ 0 := by
  intro l
  induction l with
  | nil => intro last _ _ b hb; simp at hb
  | cons c l ih =>
    intro last h0 h b hb
    simp only [chkFrom, Bool.and_eq_true, decide_eq_true_eq, Bool.not_eq_true', beq_eq_false_iff_ne] at h
    obtain ⟨c1, c2, c3, c4⟩ := h
    rcases List.mem_cons.1 hb with rfl | hb
    · exact ⟨c1, c2, c3⟩
    · have := ih c.f0 (by omega) c4 b hb
      exact ⟨by omega, this.2⟩
theorem Bok.of {l : List S68} (hw : WB l) (hc : chk l = true) : Bok l := fun b hb => by
  have := chk_ok l (-1) (by omega) hc b hb
  have u := U.of (hw.2.2 b hb).2
  exact ⟨by omega, this.2.1, u.1, u.2⟩
theorem bksTo_ok {s : List Int} (hs : hgood s = true) : ∀ n, n ≤ 7424 → ∀ b ∈ bksTo s n, 0 ≤ b.f0 ∧ b.f0 < n ∧ 1 ≤ b.f1 ∧ b.f1 < 18446744073709551616 := by
  intro n
  induction n with
  | zero => intro _ b hb; simp [bksTo] at hb
  | succ n ih =>
    intro hn b hb
    have g := good_get hs n
    unfold bksTo at hb
    split at hb
    · rcases List.mem_append.1 hb with hb | hb
      · have := ih (by omega) b hb; omega
      · rw [List.mem_singleton] at hb
        subst hb
        exact ⟨by show 0 ≤ (n : Int); omega, by show (n : Int) < _; omega, by show 1 ≤ s.getD n 0; omega, g.2⟩
    · have := ih (by omega) b hb; omega
theorem bks_Bok {s : List Int} (hs : hgood s = true) : Bok (bks s) := fun b hb => by
  have := bksTo_ok hs 7424 (Nat.le_refl _) b hb
  exact ⟨this.1, by omega, by omega, this.2.2.2⟩
theorem chkFrom_snoc (b : S68) : ∀ (l : List S68) (last : Int), (∀ x ∈ l, x.f0 < b.f0) → last < b.f0 → b.f0 < 7424 → b.f1 ≠ 0 → chkFrom last l = true → chkFrom last (l ++ [b]) = true := by
  intro l
  induction l with
  | nil =>
    intro last _ h1 h2 h3 _
    simp only [List.nil_append, chkFrom, Bool.and_eq_true, decide_eq_true_eq, Bool.not_eq_true', beq_eq_false_iff_ne]
    exact ⟨h1, h2, h3, trivial⟩
  | cons c l ih =>
    intro last hx h1 h2 h3 h
    simp only [List.cons_append, chkFrom, Bool.and_eq_true, decide_eq_true_eq, Bool.not_eq_true', beq_eq_false_iff_ne] at h ⊢
    obtain ⟨c1, c2, c3, c4⟩ := h
    exact ⟨c1, c2, c3, ih c.f0 (fun x hx' => hx x (by simp [hx'])) (hx c (by simp)) h2 h3 c4⟩
theorem bksTo_chk {s : List Int} (hs : hgood s = true) : ∀ n, n ≤ 7424 → chkFrom (-1) (bksTo s n) = true := by
  intro n
  induction n with
  | zero => intro _; rfl
  | succ n ih =>
    intro hn
    unfold bksTo
    split
    · refine chkFrom_snoc _ _ _ (fun x hx => ?_) (by show -1 < (n : Int); omega) (by show (n : Int) < 7424; omega) (by show s.getD n 0 ≠ 0; omega) (ih (by omega))
      exact (bksTo_ok hs n (by omega) x hx).2.1
    · exact ih (by omega)
theorem bks_chk {s : List Int} (hs : hgood s = true) : chk (bks s) = true := bksTo_chk hs 7424 (Nat.le_refl _)
theorem bks_len (s : List Int) : (bks s).length ≤ 7424 := bksTo_len s 7424
theorem bks_WB {s : List Int} (hs : hgood s = true) : WB (bks s) := by
  have := bks_len s
  refine ⟨by omega, by omega, fun b hb => ?_⟩
  have := bksTo_ok hs 7424 (Nat.le_refl _) b hb
  exact ⟨wf_i64 (by omega) (by omega), wf_u64 (by omega) (by omega)⟩
theorem merged_snoc (s : List Int) (l : List S68) (b : S68) : merged s (l ++ [b]) = hadd (merged s l) b.f0.toNat b.f1 := by
  simp [merged, List.foldl_append]
theorem merged_bksTo {s : List Int} (hs : hgood s = true) : ∀ n, n ≤ 7424 → ∀ i, (merged (hzero 7424) (bksTo s n)).getD i 0 = if i < n then s.getD i 0 else 0 := by
  intro n
  induction n with
  | zero => intro _ i; rw [if_neg (by omega)]; exact hzero_getD i
  | succ n ih =>
    intro hn i
    have g := good_get hs n
    have hl : (merged (hzero 7424) (bksTo s n)).length = 7424 := good_len (merged_good_of (fun b hb => by have := bksTo_ok hs n (by omega) b hb; exact ⟨this.1, by omega, by omega, this.2.2.2⟩) hzero_good)
    unfold bksTo
    split
    · rw [merged_snoc, show ((⟨(n : Int), s.getD n 0⟩ : S68).f0).toNat = n from Int.toNat_natCast n, hadd_getD _ _ _ _ (by omega), ih (by omega) n, if_neg (Nat.lt_irrefl n), Int.zero_add]
      by_cases c : i = n
      · rw [if_pos c, if_pos (by omega), c]; exact if_pos g.2
      · rw [if_neg c, ih (by omega)]
        by_cases d : i < n
        · rw [if_pos d, if_pos (by omega)]
        · rw [if_neg d, if_neg (by omega)]
    · rw [ih (by omega)]
      by_cases d : i < n
      · rw [if_pos d, if_pos (by omega)]
      · rw [if_neg d]
        by_cases c : i = n
        · rw [if_pos (by omega), c]; omega
        · rw [if_neg (by omega)]
theorem merged_bks {s : List Int} (hs : hgood s = true) : merged (hzero 7424) (bks s) = s :=
  h_ext (good_len (merged_good_of (bks_Bok hs) hzero_good)) (good_len hs) fun i hi => by
    have := merged_bksTo hs 7424 (Nat.le_refl _) i
    rwa [if_pos hi] at this
end Go.Proofs.Ytncgjbocgbnkcaa.Pure
namespace Go.Proofs.Ytncgjbocgbnkcaa.Pure
set_option linter.unusedVariables false
set_option linter.unusedSimpArgs false
open Go.RowKit Go.Proofs.Ytncgjbocgbnkcaa.Hi Go.Proofs.YtncgjbocgbnkcaaW.PrintWords Go.Proofs.YtncgjbocgbnkcaaW.PrintLast
theorem chk_cons {last : Int} {b : S68} {l : List S68} : chkFrom last (b :: l) = true ↔ last < b.f0 ∧ b.f0 < 7424 ∧ b.f1 ≠ 0 ∧ chkFrom b.f0 l = true := by
  simp only [chkFrom, Bool.and_eq_true, decide_eq_true_eq, Bool.not_eq_true', beq_eq_false_iff_ne]
/-- How many of a bucket. -/
def look : List S68 → Int → Int
  | [], _ => 0
  | b :: r, i => if b.f0 = i then b.f1 else look r i
theorem look_low : ∀ {l : List S68} {last : Int}, chkFrom last l = true → ∀ i, i ≤ last → look l i = 0 := by
  intro l
  induction l with
  | nil => intro _ _ _ _; rfl
  | cons b l ih =>
    intro last h i hi
    obtain ⟨c1, c2, c3, c4⟩ := chk_cons.mp h
    show (if b.f0 = i then b.f1 else look l i) = 0
    rw [if_neg (by omega)]
    exact ih c4 i (by omega)
theorem look_high : ∀ {l : List S68} {last : Int}, chkFrom last l = true → ∀ i, 7424 ≤ i → look l i = 0 := by
  intro l
  induction l with
  | nil => intro _ _ _ _; rfl
  | cons b l ih =>
    intro last h i hi
    obtain ⟨c1, c2, c3, c4⟩ := chk_cons.mp h
    show (if b.f0 = i then b.f1 else look l i) = 0
    rw [if_neg (by omega)]
    exact ih c4 i hi
theorem look_mem : ∀ {l : List S68} {last : Int}, chkFrom last l = true → ∀ b ∈ l, look l b.f0 = b.f1 := by
  intro l
  induction l with
  | nil => intro _ _ b hb; simp at hb
  | cons c l ih =>
    intro last h b hb
    obtain ⟨c1, c2, c3, c4⟩ := chk_cons.mp h
    show (if c.f0 = b.f0 then c.f1 else look l b.f0) = b.f1
    rcases List.mem_cons.1 hb with rfl | hb
    · rw [if_pos rfl]
    · have := (chk_sorted l c.f0 c4 b hb).1
      rw [if_neg (by omega)]
      exact ih c4 b hb
theorem look_none : ∀ {l : List S68} (i : Int), (∀ b ∈ l, b.f0 ≠ i) → look l i = 0 := by
  intro l
  induction l with
  | nil => intro _ _; rfl
  | cons b l ih =>
    intro i h
    show (if b.f0 = i then b.f1 else look l i) = 0
    rw [if_neg (h b (by simp))]
    exact ih i (fun x hx => h x (by simp [hx]))
/-- Two lists that may be and tell the same are the same. -/
theorem look_ext : ∀ {l l' : List S68} {last : Int}, chkFrom last l = true → chkFrom last l' = true → (∀ i, last < i → look l i = look l' i) → l = l' := by
  intro l
  induction l with
  | nil =>
    intro l' last _ h' he
    cases l' with
    | nil => rfl
    | cons b r =>
      obtain ⟨c1, c2, c3, c4⟩ := chk_cons.mp h'
      have := he b.f0 c1
      have e : look (b :: r) b.f0 = b.f1 := if_pos rfl
      rw [e] at this
      exact absurd this.symm c3
  | cons a r ih =>
    intro l' last h h' he
    obtain ⟨a1, a2, a3, a4⟩ := chk_cons.mp h
    cases l' with
    | nil =>
      have := he a.f0 a1
      have e : look (a :: r) a.f0 = a.f1 := if_pos rfl
      rw [e] at this
      exact absurd this a3
    | cons b r' =>
      obtain ⟨b1, b2, b3, b4⟩ := chk_cons.mp h'
      have ea : look (a :: r) a.f0 = a.f1 := if_pos rfl
      have eb : look (b :: r') b.f0 = b.f1 := if_pos rfl
      have ha := he a.f0 a1
      have hb := he b.f0 b1
      rw [ea] at ha
      rw [eb] at hb
      have h0 : a.f0 = b.f0 := by
        rcases Int.lt_trichotomy a.f0 b.f0 with c | c | c
        · have e : look (b :: r') a.f0 = look r' a.f0 := if_neg (by omega)
          rw [e, look_low b4 _ (by omega)] at ha
          exact absurd ha a3
        · exact c
        · have e : look (a :: r) b.f0 = look r b.f0 := if_neg (by omega)
          rw [e, look_low a4 _ (by omega)] at hb
          exact absurd hb.symm b3
      have h1 : a.f1 = b.f1 := by rw [ha, h0, eb]
      have hab : a = b := by cases a; cases b; simp at h0 h1; rw [h0, h1]
      subst hab
      congr 1
      refine ih a4 b4 fun i hi => ?_
      have := he i (by omega)
      have e1 : look (a :: r) i = look r i := if_neg (by omega)
      have e2 : look (a :: r') i = look r' i := if_neg (by omega)
      rwa [e1, e2] at this
theorem merged_look {l : List S68} (hb : Bok l) (hc : chk l = true) (i : Nat) : (merged (hzero 7424) l).getD i 0 = look l (i : Int) := by
  obtain ⟨_, _, h3, h4⟩ := merged_spec l (hzero 7424) (-1) hzero_good (by omega) hc (fun b hm => wf_u64 (hb b hm).2.2.1 (hb b hm).2.2.2) (fun i _ => hzero_getD i)
  by_cases c : ∀ b ∈ l, b.f0 ≠ (i : Int)
  · rw [h4 i (by omega) c, look_none _ c]
  · have : ∃ b, b ∈ l ∧ b.f0 = (i : Int) := by
      refine Classical.byContradiction fun h => c fun b hb he => h ⟨b, hb, he⟩
    obtain ⟨b, hm, he⟩ := this
    have e1 := (h3 b hm).2.2.2
    rw [he, Int.toNat_natCast] at e1
    rw [e1, ← he, look_mem hc b hm]
theorem look_bks {s : List Int} (hs : hgood s = true) (i : Nat) : look (bks s) (i : Int) = s.getD i 0 := by
  rw [← merged_look (bks_Bok hs) (bks_chk hs), merged_bks hs]
/-- The list that tells what a histogram holds is its buckets. -/
theorem bks_of {s : List Int} (hs : hgood s = true) {l : List S68} (hc : chk l = true) (h : ∀ i : Nat, i < 7424 → look l (i : Int) = s.getD i 0) : l = bks s := by
  refine look_ext hc (bks_chk hs) fun i hi => ?_
  by_cases c : i < 7424
  · obtain ⟨n, rfl⟩ : ∃ n : Nat, i = n := ⟨i.toNat, by omega⟩
    rw [h n (by omega), look_bks hs]
  · rw [look_high hc _ (by omega), look_high (bks_chk hs) _ (by omega)]
theorem bks_merged {l : List S68} (hb : Bok l) (hc : chk l = true) : bks (merged (hzero 7424) l) = l :=
  (bks_of (merged_good_of hb hzero_good) hc fun i _ => (merged_look hb hc i).symm).symm
def insB (b v : Int) : List S68 → List S68
  | [] => [⟨b, v⟩]
  | x :: r => if x.f0 = b then ⟨b, hold (x.f1 + v)⟩ :: r else if x.f0 > b then ⟨b, v⟩ :: x :: r else x :: insB b v r
theorem hold_ne {x : Int} (h : 1 ≤ x) : hold x ≠ 0 := by unfold hold; split <;> omega
theorem insB_chk (b v : Int) (hb : b < 7424) (hv : 1 ≤ v) : ∀ (l : List S68) (last : Int), last < b → (∀ x ∈ l, 0 ≤ x.f1) → chkFrom last l = true → chkFrom last (insB b v l) = true := by
  intro l
  induction l with
  | nil => intro last h _ _; exact chk_cons.mpr ⟨h, hb, by show v ≠ 0; omega, rfl⟩
  | cons x r ih =>
    intro last h hn hc
    obtain ⟨c1, c2, c3, c4⟩ := chk_cons.mp hc
    have := hn x (by simp)
    unfold insB
    split
    · rename_i e; exact chk_cons.mpr ⟨h, hb, hold_ne (by omega), by rw [e] at c4; exact c4⟩
    · split
      · rename_i e; exact chk_cons.mpr ⟨h, hb, by show v ≠ 0; omega, chk_cons.mpr ⟨by show b < _; omega, c2, c3, c4⟩⟩
      · exact chk_cons.mpr ⟨c1, c2, c3, ih x.f0 (by omega) (fun y hy => hn y (by simp [hy])) c4⟩
theorem insB_look (b v : Int) (hv : 0 ≤ v ∧ v < 18446744073709551616) : ∀ (l : List S68) (last : Int), chkFrom last l = true → ∀ i, look (insB b v l) i = if i = b then hold (look l b + v) else look l i := by
  intro l
  have hv' : hold (0 + v) = v := by unfold hold; rw [if_pos (by omega)]; omega
  induction l with
  | nil =>
    intro last _ i
    show (if b = i then v else 0) = if i = b then hold (0 + v) else 0
    rw [hv']
    by_cases c : i = b
    · rw [if_pos c.symm, if_pos c]
    · rw [if_neg (fun h => c h.symm), if_neg c]
  | cons x r ih =>
    intro last hc i
    obtain ⟨c1, c2, c3, c4⟩ := chk_cons.mp hc
    unfold insB
    by_cases e1 : x.f0 = b
    · rw [if_pos e1]
      show (if b = i then hold (x.f1 + v) else look r i) = if i = b then hold ((if x.f0 = b then x.f1 else look r b) + v) else (if x.f0 = i then x.f1 else look r i)
      rw [if_pos e1]
      by_cases c : i = b
      · rw [if_pos c.symm, if_pos c]
      · rw [if_neg (fun h => c h.symm), if_neg c, if_neg (by omega)]
    · rw [if_neg e1]
      by_cases e2 : x.f0 > b
      · rw [if_pos e2]
        show (if b = i then v else (if x.f0 = i then x.f1 else look r i)) = if i = b then hold ((if x.f0 = b then x.f1 else look r b) + v) else (if x.f0 = i then x.f1 else look r i)
        rw [if_neg e1, look_low c4 b (by omega), hv']
        by_cases c : i = b
        · rw [if_pos c.symm, if_pos c]
        · rw [if_neg (fun h => c h.symm), if_neg c]
      · rw [if_neg e2]
        show (if x.f0 = i then x.f1 else look (insB b v r) i) = if i = b then hold ((if x.f0 = b then x.f1 else look r b) + v) else (if x.f0 = i then x.f1 else look r i)
        rw [ih x.f0 c4 i, if_neg e1]
        by_cases c : i = b
        · rw [if_neg (by omega), if_pos c, if_pos c]
        · rw [if_neg c, if_neg c]
theorem bks_add {s : List Int} (hs : hgood s = true) (b : Nat) (hb : b < 7424) (v : Int) (hv : 1 ≤ v ∧ v < 18446744073709551616) : insB b v (bks s) = bks (hadd s b v) := by
  have hk := bks_Bok hs
  have g := hadd_good hs b v (by omega)
  refine bks_of g (insB_chk b v (by omega) hv.1 _ (-1) (by omega) (fun x hx => (hk x hx).2.2.1) (bks_chk hs)) fun i hi => ?_
  rw [insB_look b v ⟨by omega, hv.2⟩ _ (-1) (bks_chk hs), look_bks hs, look_bks hs, hadd_getD s b i v (by have := good_len hs; omega)]
  by_cases c : i = b
  · rw [if_pos (by omega), if_pos c]
  · rw [if_neg (by omega), if_neg c]
theorem hadd_zero {s : List Int} (hs : hgood s = true) (b : Nat) : hadd s b 0 = s := by
  have g := hadd_good hs b 0 (Int.le_refl _)
  refine h_ext (good_len g) (good_len hs) fun i hi => ?_
  by_cases hb : b < s.length
  · rw [hadd_getD s b i 0 hb, Int.add_zero]
    by_cases c : i = b
    · rw [if_pos c, c]; exact if_pos (good_get hs b).2
    · rw [if_neg c]
  · unfold hadd; rw [List.set_eq_of_length_le (by omega)]
theorem rd_S51 {l : List S68} {n : Nat} (h : n < l.length) : l.drop n = rd_T68 l (n : Int) :: l.drop (n + 1) := rd_drop h
theorem refAdd_done (l : List S68) (hl : l.length ≤ 8000000000000) (b v : Int) : ∀ (d n k : Nat) (out : List S68), n + d = l.length → 2 * d < k → out.length ≤ n + 1 →
    varveref07_Add.l0 k l b v out true (n : Int) = some (out ++ l.drop n) := by
  intro d
  induction d with
  | zero =>
    intro n k out hn hk ho
    obtain ⟨k, rfl⟩ : ∃ m, k = m + 1 := ⟨k - 1, by omega⟩
    simp only [varveref07_Add.l0, ↓reduceIte]
    rw [if_neg (by omega), List.drop_of_length_le (by omega), List.append_nil]
  | succ d ih =>
    intro n k out hn hk ho
    obtain ⟨k, rfl⟩ : ∃ m, k = m + 2 := ⟨k - 2, by omega⟩
    simp only [varveref07_Add.l0, varveref07_Add.j1, ↓reduceIte, Bool.false_eq_true]
    rw [if_pos (by omega), if_pos (by omega), if_pos (by omega), if_pos (by omega), w64 (n := (n : Int) + 1) (by omega) (by omega), rd_S51 (show n < l.length by omega)]
    rw [show (n : Int) + 1 = ((n + 1 : Nat) : Int) by omega, ih (n + 1) k _ (by omega) (by omega) (by rw [List.length_append]; simp; omega)]
    simp
theorem refAdd_open (l : List S68) (hl : l.length ≤ 8000000000000) (hr : ∀ x ∈ l, 0 ≤ x.f1 ∧ x.f1 < 18446744073709551616) (b v : Int) (hv : 0 ≤ v ∧ v < 18446744073709551616) : ∀ (d n k : Nat) (out : List S68), n + d = l.length → 2 * d < k → out.length ≤ n →
    varveref07_Add.l0 k l b v out false (n : Int) = some (out ++ insB b v (l.drop n)) := by
  intro d
  induction d with
  | zero =>
    intro n k out hn hk ho
    obtain ⟨k, rfl⟩ : ∃ m, k = m + 1 := ⟨k - 1, by omega⟩
    simp only [varveref07_Add.l0, ↓reduceIte, Bool.false_eq_true]
    rw [if_neg (by omega), if_pos (by omega), List.drop_of_length_le (by omega)]; rfl
  | succ d ih =>
    intro n k out hn hk ho
    obtain ⟨k, rfl⟩ : ∃ m, k = m + 2 := ⟨k - 2, by omega⟩
    have hlt : n < l.length := by omega
    have hd := rd_S51 hlt
    have hm : rd_T68 l (n : Int) ∈ l := List.mem_of_mem_drop (i := n) (by rw [hd]; simp)
    have hx := hr _ hm
    have IH := ih (n + 1) k
    have DN := refAdd_done l hl b v d (n + 1) k
    simp only [varveref07_Add.l0, varveref07_Add.j1, ↓reduceIte, Bool.false_eq_true]
    rw [if_pos (by omega), if_pos (by omega), w64 (n := (n : Int) + 1) (by omega) (by omega), hd]
    rw [show (n : Int) + 1 = ((n + 1 : Nat) : Int) by omega]
    generalize rd_T68 l (n : Int) = x at *
    unfold insB
    by_cases e1 : x.f0 = b
    · have : (x.f0 == b) = true := beq_iff_eq.mpr e1
      rw [this, if_pos rfl, if_pos (by omega), if_pos (by omega), if_pos e1]
      unfold varveref01_Add.f
      rw [if_pos ⟨hx, hv⟩, Option.bind_some, if_pos (by omega), DN _ (by omega) (by omega) (by rw [List.length_append]; simp; omega)]
      simp
    · have : (x.f0 == b) = false := beq_eq_false_iff_ne.mpr e1
      rw [this, if_neg (by simp), if_pos (by omega), if_pos (by omega), if_neg e1]
      by_cases e2 : x.f0 > b
      · rw [if_pos e2, if_pos e2, if_pos (by omega), Option.bind_some, if_pos (by rw [List.length_append]; simp; omega), DN _ (by omega) (by omega) (by simp; omega)]
        simp
      · rw [if_neg e2, if_neg e2, if_pos (by omega), IH _ (by omega) (by omega) (by rw [List.length_append]; simp; omega)]
        simp
theorem refAdd_list {s : List Int} (hs : hgood s = true) (b : Nat) (hb : b < 7424) (v : Int) (hv : 0 ≤ v ∧ v < 18446744073709551616) (k : Nat) (hk : 20000 ≤ k) : varveref07_Add.f k (bks s) (b : Int) v = some (bks (hadd s b v)) := by
  have hl := bks_len s
  unfold varveref07_Add.f
  by_cases c : v = 0
  · subst c
    rw [show ((0 : Int) == 0) = true from rfl]
    have := refAdd_done (bks s) (by omega) (b : Int) 0 (bks s).length 0 k [] (by omega) (by omega) (by simp)
    rw [hadd_zero hs]
    simpa using this
  · rw [beq_eq_false_iff_ne.mpr c]
    have := refAdd_open (bks s) (by omega) (fun x hx => (bks_Bok hs x hx).2.2) (b : Int) v hv (bks s).length 0 k [] (by omega) (by omega) (by simp)
    rw [← bks_add hs b hb v (by omega)]
    simpa using this
end Go.Proofs.Ytncgjbocgbnkcaa.Pure
namespace Go.Proofs.Ytncgjbocgbnkcaa.Ga
open Go.RowKit Go.Proofs.YtncgjbocgbnkcaaW.PrintWords Go.Proofs.YtncgjbocgbnkcaaW.PrintLast Go.Proofs.YtncgjbocgbnkcaaW.PrintMore Go.Proofs.Ytncgjbocgbnkcaa.Hi Go.Proofs.Ytncgjbocgbnkcaa.Q Go.Proofs.Ytncgjbocgbnkcaa.Gb
attribute [local go_sem] max2_int min2_int max_two min_two max_three min_three max_four min_four   -- for this text's walks alone
set_option linter.unusedVariables false
set_option linter.unusedSimpArgs false
def errW : Option Int → Value
  | none => .nilIface
  | some c => .iface 0 (.int .i64 c)
theorem errW_none : errW none = .nilIface := rfl
theorem errW_some (c : Int) : errW (some c) = .iface 0 (.int .i64 c) := rfl
theorem info41 : (Try.prog.info? 41).map (fun i => (i.zero, i.size, i.bytes)) = some (some (.int .u64 0), 1, 8) := by kernel_rfl
theorem info68 : (Try.prog.info? 68).map (fun i => (i.zero, i.size, i.bytes)) = some (some (.agg #[(.int .i64 0), (.int .u64 0)]), 2, 16) := by kernel_rfl
structure S90 where
  f0 : Int
  f1 : ByteArray
  f2 : Int
def z90 : S90 := ⟨(0 : Int), (⟨#[]⟩ : ByteArray), (0 : Int)⟩
def k90 : Kd S90 := Kd.iso (Kd.pair (Kd.int .u64) (Kd.pair Kd.string (Kd.int .u64))) (fun x : S90 => (x.f0, x.f1, x.f2))
theorem k90_open {w : World} {x : S90} {cs : List Value} (h : k90.K w x cs) : cs = [.int .u64 x.f0, .string x.f1, .int .u64 x.f2] := by
  obtain ⟨_, _, rfl, rfl, ⟨_, _, rfl, rfl, rfl⟩⟩ := h
  exact rfl
theorem k90_mk (w : World) (x : S90)  : k90.K w x [.int .u64 x.f0, .string x.f1, .int .u64 x.f2] := ⟨[.int .u64 x.f0], [.string x.f1, .int .u64 x.f2], rfl, rfl, ⟨[.string x.f1], [.int .u64 x.f2], rfl, rfl, rfl⟩⟩
def rd_T90 (xs : List S90) (i : Int) : S90 := xs.getD i.toNat z90
theorem at_T90 {w : World} {A : Option Addr} {n : Nat} {xs : List S90} (h : Kd.C k90 w A n xs) (i : Int) (h0 : 0 ≤ i) (h1 : i < n) : ∃ ad , A = some ad ∧ w.cell? (ad.add (i.toNat * 3)) = some (.int .u64 (rd_T90 xs i).f0) ∧ w.cell? ⟨(ad.add (i.toNat * 3)).block, (ad.add (i.toNat * 3)).off + 1, none⟩ = some (.string (rd_T90 xs i).f1) ∧ w.cell? ⟨(ad.add (i.toNat * 3)).block, (ad.add (i.toNat * 3)).off + 2, none⟩ = some (.int .u64 (rd_T90 xs i).f2) := by
  obtain ⟨ad, c, e, _, hK, hc0⟩ := Kd.C_get h z90 i h0 h1
  have hc : ∀ j u, c[j]? = some u → w.cell? (ad.add (i.toNat * 3 + j)) = some u := hc0
  obtain rfl := k90_open hK
  exact ⟨ad, e, hc 0 _ rfl, by rw [← add_field _ _ 1 (by omega)]; exact hc 1 _ rfl, by rw [← add_field _ _ 2 (by omega)]; exact hc 2 _ rfl⟩
end Go.Proofs.Ytncgjbocgbnkcaa.Ga
namespace Go.Proofs.Ytncgjbocgbnkcaa.Ga
open Go.RowKit Go.Proofs.YtncgjbocgbnkcaaW.PrintWords Go.Proofs.YtncgjbocgbnkcaaW.PrintLast Go.Proofs.YtncgjbocgbnkcaaW.PrintMore Go.Proofs.Ytncgjbocgbnkcaa.Hi Go.Proofs.Ytncgjbocgbnkcaa.Q Go.Proofs.Ytncgjbocgbnkcaa.Gb
attribute [local go_sem] max2_int min2_int max_two min_two max_three min_three max_four min_four   -- for this text's walks alone
set_option linter.unusedVariables false
set_option linter.unusedSimpArgs false
theorem eqA43 (d : Nat) (w : World) (x0 y0 : Int) (x1 y1 : Int) (x2 y2 : Int) (x3 y3 : Int) :
    (Op.equalIn (d + 2) 43 (.agg #[.int .u64 x0, .int .u64 x1, .int .u64 x2, .int .u64 x3]) (.agg #[.int .u64 y0, .int .u64 y1, .int .u64 y2, .int .u64 y3])).run Try.prog w = .ok (x0 == y0 && (x1 == y1 && (x2 == y2 && (x3 == y3)))) w := by
  refine eqA_of Try.underlying43 (by kernel_rfl) ?_
  refine eqf_cons (by rfl) (by go_simp; rfl) (by go_simp; rfl) (by go_simp) ?_
  refine eqf_cons (by rfl) (by go_simp; rfl) (by go_simp; rfl) (by go_simp) ?_
  refine eqf_cons (by rfl) (by go_simp; rfl) (by go_simp; rfl) (by go_simp) ?_
  exact eqf_last (by rfl) (by go_simp; rfl) (by go_simp; rfl) (by go_simp)
end Go.Proofs.Ytncgjbocgbnkcaa.Ga
namespace Go.Proofs.Ytncgjbocgbnkcaa.Ga
open Go.RowKit Go.Proofs.YtncgjbocgbnkcaaW.PrintWords Go.Proofs.YtncgjbocgbnkcaaW.PrintLast Go.Proofs.YtncgjbocgbnkcaaW.PrintMore Go.Proofs.Ytncgjbocgbnkcaa.Hi Go.Proofs.Ytncgjbocgbnkcaa.Q Go.Proofs.Ytncgjbocgbnkcaa.Gb
attribute [local go_sem] max2_int min2_int max_two min_two max_three min_three max_four min_four   -- for this text's walks alone
set_option linter.unusedVariables false
set_option linter.unusedSimpArgs false
theorem eqA68 (d : Nat) (w : World) (x0 y0 : Int) (x1 y1 : Int) :
    (Op.equalIn (d + 2) 68 (.agg #[.int .i64 x0, .int .u64 x1]) (.agg #[.int .i64 y0, .int .u64 y1])).run Try.prog w = .ok (x0 == y0 && (x1 == y1)) w := by
  refine eqA_of Try.underlying68 (by kernel_rfl) ?_
  refine eqf_cons (by rfl) (by go_simp; rfl) (by go_simp; rfl) (by go_simp) ?_
  exact eqf_last (by rfl) (by go_simp; rfl) (by go_simp; rfl) (by go_simp)
end Go.Proofs.Ytncgjbocgbnkcaa.Ga
namespace Go.Proofs.Ytncgjbocgbnkcaa.Ga
open Go.RowKit Go.Proofs.YtncgjbocgbnkcaaW.PrintWords Go.Proofs.YtncgjbocgbnkcaaW.PrintLast Go.Proofs.YtncgjbocgbnkcaaW.PrintMore Go.Proofs.Ytncgjbocgbnkcaa.Hi Go.Proofs.Ytncgjbocgbnkcaa.Q Go.Proofs.Ytncgjbocgbnkcaa.Gb
attribute [local go_sem] max2_int min2_int max_two min_two max_three min_three max_four min_four   -- for this text's walks alone
set_option linter.unusedVariables false
set_option linter.unusedSimpArgs false
attribute [local go_sem high] eqA43
def gauge_Merge.f (a0_0 : Int) (a0_1 : Int) (a0_2 : Int) (a0_3 : Int) (a1_0 : Int) (a1_1 : Int) (a1_2 : Int) (a1_3 : Int) : Option (Int × Int × Int × Int) :=
  if (0 ≤ a0_0 ∧ a0_0 < 18446744073709551616) ∧ (0 ≤ a0_1 ∧ a0_1 < 18446744073709551616) ∧ (0 ≤ a1_0 ∧ a1_0 < 18446744073709551616) ∧ (0 ≤ a1_1 ∧ a1_1 < 18446744073709551616) then
    (flo_Less.f a1_2 a0_2).bind fun l1 => (flo_Less.f a0_3 a1_3).bind fun l2 =>
      some (hold (a0_0 + a1_0), hold (a0_1 + a1_1), (if (a0_0 == 0) = true then a1_2 else if (a1_0 == 0) = true then a0_2 else if l1 then a1_2 else a0_2), (if (a0_0 == 0) = true then a1_3 else if (a1_0 == 0) = true then a0_3 else if l2 then a1_3 else a0_3))
  else none
theorem gauge_Merge.calls (a0_0 : Int) (a0_1 : Int) (a0_2 : Int) (a0_3 : Int) (a1_0 : Int) (a1_1 : Int) (a1_2 : Int) (a1_3 : Int) (r1 : Int) (r2 : Int) (r3 : Int) (r4 : Int) (w : World) (h : gauge_Merge.f a0_0 a0_1 a0_2 a0_3 a1_0 a1_1 a1_2 a1_3 = some (r1, r2, r3, r4)) :
    Calls Try.prog 88 #[.agg #[.int .u64 a0_0, .int .u64 a0_1, .int .u64 a0_2, .int .u64 a0_3], .agg #[.int .u64 a1_0, .int .u64 a1_1, .int .u64 a1_2, .int .u64 a1_3]] w fun e w' => e = .returned (.agg #[.int .u64 r1, .int .u64 r2, .int .u64 r3, .int .u64 r4]) ∧ Below w.heap.size w w' := by
  unfold gauge_Merge.f at h
  split at h
  case isTrue hr =>
    obtain ⟨l1, e1, h⟩ := Option.bind_eq_some_iff.mp h
    obtain ⟨l2, e2, h⟩ := Option.bind_eq_some_iff.mp h
    simp only [Option.some.injEq, Prod.mk.injEq] at h
    obtain ⟨rfl, rfl, rfl, rfl⟩ := h
    exact gmerge_any a0_0 a0_1 a0_2 a0_3 a1_0 a1_1 a1_2 a1_3 w hr.1 hr.2.1 hr.2.2.1 hr.2.2.2 _ _ l1 l2 rfl rfl e1 e2
  case isFalse => cases h
def gauge_none.f (a0 : Int) : Option (Bool) := if 0 ≤ a0 ∧ a0 < 18446744073709551616 then some (nanB a0) else none
theorem gauge_none.calls (a0 : Int) (r : Bool) (w : World) (h : gauge_none.f a0 = some r) :
    Calls Try.prog 103 #[.int .u64 a0] w fun e w' => e = .returned (.bool r) ∧ Drawn0 w w' := by
  unfold gauge_none.f at h
  split at h
  case isTrue hr =>
    obtain rfl := Option.some.inj h
    exact (none_any a0 w hr.1).mono fun _ _ ⟨he, hw⟩ => ⟨he, by rw [← hw]; exact Drawn0.refl w⟩
  case isFalse => cases h
def gauge_Add.f (a0_0 : Int) (a0_1 : Int) (a0_2 : Int) (a0_3 : Int) (a1 : Int) : Option (Int × Int × Int × Int) := (gauge_none.f a1).bind fun t116 => (if t116 = true then ((Hi.wide_Add.f a0_1 1).bind fun t117 => (some (a0_0, t117, a0_2, a0_3))) else ((gauge_Merge.f a0_0 a0_1 a0_2 a0_3 1 0 a1 a1).bind fun bt118 => (some (bt118.1, bt118.2.1, bt118.2.2.1, bt118.2.2.2))))
theorem two_ (w : World) (oA oB : Obj) : ((w.alloc oA).alloc oB).heap[w.heap.size]? = some oA ∧ ((w.alloc oA).alloc oB).heap[w.heap.size + 1]? = some oB ∧ Below w.heap.size w ((w.alloc oA).alloc oB) := by
  have s1 : (w.alloc oA).heap.size = w.heap.size + 1 := by simp
  exact ⟨blk_alloc (blk_new w _) _, by rw [← s1]; exact blk_new _ _, below_alloc (below_alloc (Below.refl _ _) _) _⟩
set_option maxHeartbeats 2000000 in
set_option maxRecDepth 100000 in
theorem gauge_Add.calls (a0_0 : Int) (a0_1 : Int) (a0_2 : Int) (a0_3 : Int) (a1 : Int) (r1 : Int) (r2 : Int) (r3 : Int) (r4 : Int) (w : World) (h : gauge_Add.f a0_0 a0_1 a0_2 a0_3 a1 = some (r1, r2, r3, r4)) :
    Calls Try.prog 67 #[.agg #[.int .u64 a0_0, .int .u64 a0_1, .int .u64 a0_2, .int .u64 a0_3], .int .u64 a1] w fun e w' => e = .returned (.agg #[.int .u64 r1, .int .u64 r2, .int .u64 r3, .int .u64 r4]) ∧ Below w.heap.size w w' := by
  unfold gauge_Add.f at h
  obtain ⟨t, h1, h⟩ := Option.bind_eq_some_iff.mp h
  have CN := fun w => gauge_none.calls a1 t w h1
  have F := two_ w (.cells #[.int .u64 a0_0, .int .u64 a0_1, .int .u64 a0_2, .int .u64 a0_3] 43) (.cells #[.int .u64 0, .int .u64 0, .int .u64 0, .int .u64 0] 43)
  obtain ⟨W, hW⟩ : ∃ W, (w.alloc (.cells #[.int .u64 a0_0, .int .u64 a0_1, .int .u64 a0_2, .int .u64 a0_3] 43)).alloc (.cells #[.int .u64 0, .int .u64 0, .int .u64 0, .int .u64 0] 43) = W := ⟨_, rfl⟩
  have HW := Lib.hid hW
  rw [hW] at F
  obtain ⟨bA, bR, bL⟩ := F
  have HA := Lib.hid bA; have HR := Lib.hid bR; have HL := Lib.hid bL
  clear h1 hW bA bR bL
  cases t
  · rw [if_neg (by simp)] at h
    obtain ⟨⟨x1, x2, x3, x4⟩, h2, h⟩ := Option.bind_eq_some_iff.mp h
    simp only [Option.some.injEq, Prod.mk.injEq] at h
    obtain ⟨rfl, rfl, rfl, rfl⟩ := h
    have CM := fun w => gauge_Merge.calls a0_0 a0_1 a0_2 a0_3 1 0 a1 a1 x1 x2 x3 x4 w h2
    clear h2
    go_enter Try.func67, Try.ntmps67
    go_wp2_with fail
    rw [HW.out]
    (with_reducible refine (CN _).mono ?_)
    rintro e w1 ⟨rfl, hd⟩
    have gA := blk_below HA.out hd.below; have gR := blk_below HR.out hd.below; have gL := HL.out.trans (hd.below.mono HL.out.size)
    have c0 := blk_cell gA 0; have c1 := blk_cell gA 1; have c2 := blk_cell gA 2; have c3 := blk_cell gA 3
    have HR2 := Lib.hid gR; have HL2 := Lib.hid gL
    clear gA gR gL hd CN
    go_wp2_with fail
    (with_reducible refine (CM _).mono ?_)
    rintro e w2 ⟨rfl, hb⟩
    have gR := blk_below HR2.out hb; have gL := HL2.out.trans (hb.mono HL2.out.size)
    have r0 := blk_cell gR 0; have r1 := blk_cell gR 1; have r2 := blk_cell gR 2; have r3 := blk_cell gR 3
    have f0 := blk_frozen gR 0; have f1 := blk_frozen gR 1; have f2 := blk_frozen gR 2; have f3 := blk_frozen gR 3
    have HR3 := Lib.hid gR; have HL3 := Lib.hid gL
    clear gR gL hb CM c0 c1 c2 c3
    go_wp2
    refine bodyPost_ret (results_cell_row rfl _ _ (w.heap.size + 1) 43 #[.int .u64 x1, .int .u64 x2, .int .u64 x3, .int .u64 x4] (0, 0) _ rfl (by refine blk_put (cs := #[.int .u64 x1, .int .u64 x2, .int .u64 x3, .int .u64 0]) ?_ 3 _ rfl; refine blk_put (cs := #[.int .u64 x1, .int .u64 x2, .int .u64 0, .int .u64 0]) ?_ 2 _ rfl; refine blk_put (cs := #[.int .u64 x1, .int .u64 0, .int .u64 0, .int .u64 0]) ?_ 1 _ rfl; refine blk_put (cs := #[.int .u64 0, .int .u64 0, .int .u64 0, .int .u64 0]) ?_ 0 _ rfl; (with_reducible exact HR3.out)) Try.underlying43 rfl (by kernel_rfl)) rfl ⟨rfl, ?_⟩
    repeat (first | (with_reducible exact HL3.out) | (with_reducible refine below_set ?_ (by omega)))
  · rw [if_pos rfl] at h
    obtain ⟨x, h2, h⟩ := Option.bind_eq_some_iff.mp h
    simp only [Option.some.injEq, Prod.mk.injEq] at h
    obtain ⟨rfl, rfl, rfl, rfl⟩ := h
    have CA := fun w => Hi.wide_Add.calls a0_1 1 x w h2
    clear h2
    go_enter Try.func67, Try.ntmps67
    go_wp2_with fail
    rw [HW.out]
    (with_reducible refine (CN _).mono ?_)
    rintro e w1 ⟨rfl, hd⟩
    have gA := blk_below HA.out hd.below; have gR := blk_below HR.out hd.below; have gL := HL.out.trans (hd.below.mono HL.out.size)
    have c0 := blk_cell gA 0; have c1 := blk_cell gA 1; have c2 := blk_cell gA 2; have c3 := blk_cell gA 3
    have HA2 := Lib.hid gA; have HR2 := Lib.hid gR; have HL2 := Lib.hid gL
    clear gA gR gL hd CN
    go_wp2_with fail
    (with_reducible refine (CA _).mono ?_)
    rintro e w2 ⟨rfl, hd⟩
    have hb := hd.below
    have gA := blk_below HA2.out hb; have gR := blk_below HR2.out hb; have gL := HL2.out.trans (hb.mono HL2.out.size)
    clear c0 c1 c2 c3
    have c0 := blk_cell gA 0; have c1 := blk_cell gA 1; have c2 := blk_cell gA 2; have c3 := blk_cell gA 3
    have fa := blk_frozen gA 1
    have r0 := blk_cell gR 0; have r1 := blk_cell gR 1; have r2 := blk_cell gR 2; have r3 := blk_cell gR 3
    have f0 := blk_frozen gR 0; have f1 := blk_frozen gR 1; have f2 := blk_frozen gR 2; have f3 := blk_frozen gR 3
    have HR3 := Lib.hid gR; have HL3 := Lib.hid gL
    clear gA gR gL hb CA hd
    go_wp2
    refine bodyPost_ret (results_cell_row rfl _ _ (w.heap.size + 1) 43 #[.int .u64 a0_0, .int .u64 x, .int .u64 a0_2, .int .u64 a0_3] (0, 0) _ rfl (by refine blk_put (cs := #[.int .u64 a0_0, .int .u64 x, .int .u64 a0_2, .int .u64 0]) ?_ 3 _ rfl; refine blk_put (cs := #[.int .u64 a0_0, .int .u64 x, .int .u64 0, .int .u64 0]) ?_ 2 _ rfl; refine blk_put (cs := #[.int .u64 a0_0, .int .u64 0, .int .u64 0, .int .u64 0]) ?_ 1 _ rfl; refine blk_put (cs := #[.int .u64 0, .int .u64 0, .int .u64 0, .int .u64 0]) ?_ 0 _ rfl; repeat (first | (with_reducible exact HR3.out) | (with_reducible refine blk_far ?_ (by simp) _))) Try.underlying43 rfl (by kernel_rfl)) rfl ⟨rfl, ?_⟩
    repeat (first | (with_reducible exact HL3.out) | (with_reducible refine below_set ?_ (by omega)))
def gauge_Check.f (a0_0 : Int) (a0_1 : Int) (a0_2 : Int) (a0_3 : Int) : Option (Bool) := if a0_0 = 0 then (some (a0_0 == 0 && (a0_2 == 0 && (a0_3 == 0)))) else ((gauge_none.f a0_2).bind fun t108 => (if t108 = true then (some false) else ((gauge_none.f a0_3).bind fun t109 => (if t109 = true then (some false) else ((flo_Less.f a0_3 a0_2).bind fun t110 => (some (!t110)))))))
set_option maxHeartbeats 8000000 in
set_option maxRecDepth 100000 in
theorem gauge_Check.calls (a0_0 : Int) (a0_1 : Int) (a0_2 : Int) (a0_3 : Int) (r : Bool) (w : World) (h : gauge_Check.f a0_0 a0_1 a0_2 a0_3 = some r) :
    Calls Try.prog 75 #[.agg #[.int .u64 a0_0, .int .u64 a0_1, .int .u64 a0_2, .int .u64 a0_3]] w fun e w' => e = .returned (.bool r) ∧ Below w.heap.size w w' := by
  have hu43 := Try.underlying43
  have HB := Aside0.mk (Below.refl w.heap.size w)
  have H : (if a0_0 = 0 then (some (a0_0 == 0 && (a0_2 == 0 && (a0_3 == 0)))) else ((gauge_none.f a0_2).bind fun t108 => (if t108 = true then (some false) else ((gauge_none.f a0_3).bind fun t109 => (if t109 = true then (some false) else ((flo_Less.f a0_3 a0_2).bind fun t110 => (some (!t110)))))))) = some r := h
  clear h
  by_cases c2 : a0_0 = 0
  · rw [if_pos c2] at H
    have c2b0 : (a0_0 == 0) = true := beq_iff_eq.mpr c2
    have c2b1 : (a0_0 != 0) = false := bne_eq_false_iff_eq.mpr c2
    clear c2
    obtain rfl := Option.some.inj H
    go_enter Try.func75, Try.ntmps75
    go_wp2_with (first | ((with_reducible refine gate_dst (N := 1) rfl ?_); refine box_event ?hg (N := 1) ?hd (cs := #[.int .u64 a0_0, .int .u64 a0_1, .int .u64 a0_2, .int .u64 a0_3]) (t := 43) ?hr ?_; (case hd => rfl); (case hg => rfl); (case hr => first | (go_simp; done) | (go_simp; rfl)); intro gb107 hg w3 hbox hb; have n0_ := Aside0.mk (below_step (by repeat (first | (with_reducible first | exact HB.out | apply below_alloc | apply pw_below_drewN | apply below_drew1) | exact HB.out)) hb); have n1_ := Aside0.mk (hbox); have n2_ := Aside0.mk ((by rw [hg]; exact (below_size (by repeat (first | (with_reducible first | exact HB.out | apply below_alloc | apply pw_below_drewN | apply below_drew1) | exact HB.out))) : w.heap.size ≤ gb107)); have n3_ := Aside0.mk ((by rw [hg]; exact (below_size (by repeat (first | (with_reducible first | exact HB.out | apply below_alloc | apply pw_below_drewN | apply below_drew1) | exact HB.out))) : w.heap.size ≤ gb107)); clear HB; have HB := n0_; have BK107 := n1_; have GW107 := n2_; have GE107 := n3_; clear n0_ n1_ n2_ n3_; clear hb hbox hg; have hcz4_0 : w3.cell? ⟨gb107, 0, none⟩ = some (.int .u64 a0_0) := (blk_cell BK107.out 0).trans rfl; have hcz4_1 : w3.cell? ⟨gb107, 1, none⟩ = some (.int .u64 a0_1) := (blk_cell BK107.out 1).trans rfl; have hcz4_2 : w3.cell? ⟨gb107, 2, none⟩ = some (.int .u64 a0_2) := (blk_cell BK107.out 2).trans rfl; have hcz4_3 : w3.cell? ⟨gb107, 3, none⟩ = some (.int .u64 a0_3) := (blk_cell BK107.out 3).trans rfl; have hfz4_0 := blk_frozen BK107.out 0; have hfz4_1 := blk_frozen BK107.out 1; have hfz4_2 := blk_frozen BK107.out 2; have hfz4_3 := blk_frozen BK107.out 3))
    go_ret
    exact ⟨by first | rfl | (simp [errW_none, errW_some] <;> rfl) | (simp [*, errW_none, errW_some] <;> rfl), by repeat (first | (with_reducible first | exact HB.out | apply below_alloc | apply pw_below_drewN | apply below_drew1 | refine below_set ?_ GE107.out) | exact HB.out)⟩
  · rw [if_neg c2] at H
    have c2b0 : (a0_0 == 0) = false := beq_eq_false_iff_ne.mpr c2
    have c2b1 : (a0_0 != 0) = true := bne_iff_ne.mpr c2
    replace H := Option.bind_eq_some_iff.mp H
    obtain ⟨t108, A50, H⟩ := H
    replace H : (if t108 = true then (some false) else ((gauge_none.f a0_3).bind fun t109 => (if t109 = true then (some false) else ((flo_Less.f a0_3 a0_2).bind fun t110 => (some (!t110)))))) = some r := H
    have A5 := Aside0.mk A50
    clear A50
    by_cases c6 : t108 = true
    · subst c6
      have H1 : (some false) = some r := by rw [if_pos rfl] at H; exact H
      clear H
      have H := H1
      clear H1
      obtain rfl := Option.some.inj H
      go_enter Try.func75, Try.ntmps75
      go_wp2_with (first | ((with_reducible refine gate_dst (N := 1) rfl ?_); refine box_event ?hg (N := 1) ?hd (cs := #[.int .u64 a0_0, .int .u64 a0_1, .int .u64 a0_2, .int .u64 a0_3]) (t := 43) ?hr ?_; (case hd => rfl); (case hg => rfl); (case hr => first | (go_simp; done) | (go_simp; rfl)); intro gb107 hg w7 hbox hb; have n0_ := Aside0.mk (below_step (by repeat (first | (with_reducible first | exact HB.out | apply below_alloc | apply pw_below_drewN | apply below_drew1) | exact HB.out)) hb); have n1_ := Aside0.mk (hbox); have n2_ := Aside0.mk ((by rw [hg]; exact (below_size (by repeat (first | (with_reducible first | exact HB.out | apply below_alloc | apply pw_below_drewN | apply below_drew1) | exact HB.out))) : w.heap.size ≤ gb107)); have n3_ := Aside0.mk ((by rw [hg]; exact (below_size (by repeat (first | (with_reducible first | exact HB.out | apply below_alloc | apply pw_below_drewN | apply below_drew1) | exact HB.out))) : w.heap.size ≤ gb107)); clear HB; have HB := n0_; have BK107 := n1_; have GW107 := n2_; have GE107 := n3_; clear n0_ n1_ n2_ n3_; clear hb hbox hg; have hcz8_0 : w7.cell? ⟨gb107, 0, none⟩ = some (.int .u64 a0_0) := (blk_cell BK107.out 0).trans rfl; have hcz8_1 : w7.cell? ⟨gb107, 1, none⟩ = some (.int .u64 a0_1) := (blk_cell BK107.out 1).trans rfl; have hcz8_2 : w7.cell? ⟨gb107, 2, none⟩ = some (.int .u64 a0_2) := (blk_cell BK107.out 2).trans rfl; have hcz8_3 : w7.cell? ⟨gb107, 3, none⟩ = some (.int .u64 a0_3) := (blk_cell BK107.out 3).trans rfl; have hfz8_0 := blk_frozen BK107.out 0; have hfz8_1 := blk_frozen BK107.out 1; have hfz8_2 := blk_frozen BK107.out 2; have hfz8_3 := blk_frozen BK107.out 3) | ((with_reducible refine gate_callee (f := 103) rfl ?_); refine goesL_ (some 13) rfl rfl Try.func103 (by kernel_rfl) rfl #[.int .u64 a0_2] rfl (by (try simp only [List.map_toArray, List.map_cons, List.map_nil]); first | done | rfl | (simp only [List.length_drop, List.length_take]; rfl)) ?_; (with_reducible refine (gauge_none.calls a0_2 true _ A5.out).mono ?_); rintro e w' ⟨rfl, ⟨nd, rfl⟩⟩; refine ⟨_, rfl, ?_⟩))
      go_ret
      exact ⟨by first | rfl | (simp [errW_none, errW_some] <;> rfl) | (simp [*, errW_none, errW_some] <;> rfl), by repeat (first | (with_reducible first | exact HB.out | apply below_alloc | apply pw_below_drewN | apply below_drew1 | refine below_set ?_ GE107.out) | exact HB.out)⟩
    · replace c6 := Bool.eq_false_iff.mpr c6
      subst c6
      have H1 : ((gauge_none.f a0_3).bind fun t109 => (if t109 = true then (some false) else ((flo_Less.f a0_3 a0_2).bind fun t110 => (some (!t110))))) = some r := by rw [if_neg (show ¬ (false = true) by decide)] at H; exact H
      clear H
      have H := H1
      clear H1
      replace H := Option.bind_eq_some_iff.mp H
      obtain ⟨t109, A90, H⟩ := H
      replace H : (if t109 = true then (some false) else ((flo_Less.f a0_3 a0_2).bind fun t110 => (some (!t110)))) = some r := H
      have A9 := Aside0.mk A90
      clear A90
      by_cases c10 : t109 = true
      · subst c10
        have H1 : (some false) = some r := by rw [if_pos rfl] at H; exact H
        clear H
        have H := H1
        clear H1
        obtain rfl := Option.some.inj H
        go_enter Try.func75, Try.ntmps75
        go_wp2_with (first | ((with_reducible refine gate_dst (N := 1) rfl ?_); refine box_event ?hg (N := 1) ?hd (cs := #[.int .u64 a0_0, .int .u64 a0_1, .int .u64 a0_2, .int .u64 a0_3]) (t := 43) ?hr ?_; (case hd => rfl); (case hg => rfl); (case hr => first | (go_simp; done) | (go_simp; rfl)); intro gb107 hg w11 hbox hb; have n0_ := Aside0.mk (below_step (by repeat (first | (with_reducible first | exact HB.out | apply below_alloc | apply pw_below_drewN | apply below_drew1) | exact HB.out)) hb); have n1_ := Aside0.mk (hbox); have n2_ := Aside0.mk ((by rw [hg]; exact (below_size (by repeat (first | (with_reducible first | exact HB.out | apply below_alloc | apply pw_below_drewN | apply below_drew1) | exact HB.out))) : w.heap.size ≤ gb107)); have n3_ := Aside0.mk ((by rw [hg]; exact (below_size (by repeat (first | (with_reducible first | exact HB.out | apply below_alloc | apply pw_below_drewN | apply below_drew1) | exact HB.out))) : w.heap.size ≤ gb107)); clear HB; have HB := n0_; have BK107 := n1_; have GW107 := n2_; have GE107 := n3_; clear n0_ n1_ n2_ n3_; clear hb hbox hg; have hcz12_0 : w11.cell? ⟨gb107, 0, none⟩ = some (.int .u64 a0_0) := (blk_cell BK107.out 0).trans rfl; have hcz12_1 : w11.cell? ⟨gb107, 1, none⟩ = some (.int .u64 a0_1) := (blk_cell BK107.out 1).trans rfl; have hcz12_2 : w11.cell? ⟨gb107, 2, none⟩ = some (.int .u64 a0_2) := (blk_cell BK107.out 2).trans rfl; have hcz12_3 : w11.cell? ⟨gb107, 3, none⟩ = some (.int .u64 a0_3) := (blk_cell BK107.out 3).trans rfl; have hfz12_0 := blk_frozen BK107.out 0; have hfz12_1 := blk_frozen BK107.out 1; have hfz12_2 := blk_frozen BK107.out 2; have hfz12_3 := blk_frozen BK107.out 3) | ((with_reducible refine gate_callee (f := 103) rfl ?_); refine goesL_ (some 13) rfl rfl Try.func103 (by kernel_rfl) rfl #[.int .u64 a0_2] rfl (by (try simp only [List.map_toArray, List.map_cons, List.map_nil]); first | done | rfl | (simp only [List.length_drop, List.length_take]; rfl)) ?_; (with_reducible refine (gauge_none.calls a0_2 false _ A5.out).mono ?_); rintro e w' ⟨rfl, ⟨nd, rfl⟩⟩; refine ⟨_, rfl, ?_⟩) | (go_at_call 103; (with_reducible refine (gauge_none.calls a0_3 true _ A9.out).mono ?_); rintro e w' ⟨rfl, ⟨nd, rfl⟩⟩))
        go_ret
        exact ⟨by first | rfl | (simp [errW_none, errW_some] <;> rfl) | (simp [*, errW_none, errW_some] <;> rfl), by repeat (first | (with_reducible first | exact HB.out | apply below_alloc | apply pw_below_drewN | apply below_drew1 | refine below_set ?_ GE107.out) | exact HB.out)⟩
      · replace c10 := Bool.eq_false_iff.mpr c10
        subst c10
        have H1 : ((flo_Less.f a0_3 a0_2).bind fun t110 => (some (!t110))) = some r := by rw [if_neg (show ¬ (false = true) by decide)] at H; exact H
        clear H
        have H := H1
        clear H1
        replace H := Option.bind_eq_some_iff.mp H
        obtain ⟨t110, A130, H⟩ := H
        replace H : (some (!t110)) = some r := H
        have A13 := Aside0.mk A130
        clear A130
        obtain rfl := Option.some.inj H
        go_enter Try.func75, Try.ntmps75
        go_wp2_with (first | ((with_reducible refine gate_dst (N := 1) rfl ?_); refine box_event ?hg (N := 1) ?hd (cs := #[.int .u64 a0_0, .int .u64 a0_1, .int .u64 a0_2, .int .u64 a0_3]) (t := 43) ?hr ?_; (case hd => rfl); (case hg => rfl); (case hr => first | (go_simp; done) | (go_simp; rfl)); intro gb107 hg w14 hbox hb; have n0_ := Aside0.mk (below_step (by repeat (first | (with_reducible first | exact HB.out | apply below_alloc | apply pw_below_drewN | apply below_drew1) | exact HB.out)) hb); have n1_ := Aside0.mk (hbox); have n2_ := Aside0.mk ((by rw [hg]; exact (below_size (by repeat (first | (with_reducible first | exact HB.out | apply below_alloc | apply pw_below_drewN | apply below_drew1) | exact HB.out))) : w.heap.size ≤ gb107)); have n3_ := Aside0.mk ((by rw [hg]; exact (below_size (by repeat (first | (with_reducible first | exact HB.out | apply below_alloc | apply pw_below_drewN | apply below_drew1) | exact HB.out))) : w.heap.size ≤ gb107)); clear HB; have HB := n0_; have BK107 := n1_; have GW107 := n2_; have GE107 := n3_; clear n0_ n1_ n2_ n3_; clear hb hbox hg; have hcz15_0 : w14.cell? ⟨gb107, 0, none⟩ = some (.int .u64 a0_0) := (blk_cell BK107.out 0).trans rfl; have hcz15_1 : w14.cell? ⟨gb107, 1, none⟩ = some (.int .u64 a0_1) := (blk_cell BK107.out 1).trans rfl; have hcz15_2 : w14.cell? ⟨gb107, 2, none⟩ = some (.int .u64 a0_2) := (blk_cell BK107.out 2).trans rfl; have hcz15_3 : w14.cell? ⟨gb107, 3, none⟩ = some (.int .u64 a0_3) := (blk_cell BK107.out 3).trans rfl; have hfz15_0 := blk_frozen BK107.out 0; have hfz15_1 := blk_frozen BK107.out 1; have hfz15_2 := blk_frozen BK107.out 2; have hfz15_3 := blk_frozen BK107.out 3) | ((with_reducible refine gate_callee (f := 103) rfl ?_); refine goesL_ (some 13) rfl rfl Try.func103 (by kernel_rfl) rfl #[.int .u64 a0_2] rfl (by (try simp only [List.map_toArray, List.map_cons, List.map_nil]); first | done | rfl | (simp only [List.length_drop, List.length_take]; rfl)) ?_; (with_reducible refine (gauge_none.calls a0_2 false _ A5.out).mono ?_); rintro e w' ⟨rfl, ⟨nd, rfl⟩⟩; refine ⟨_, rfl, ?_⟩) | (go_at_call 103; (with_reducible refine (gauge_none.calls a0_3 false _ A9.out).mono ?_); rintro e w' ⟨rfl, ⟨nd, rfl⟩⟩) | (go_at_call 109; (with_reducible refine (flo_Less.calls a0_3 a0_2 t110 _ A13.out).mono ?_); rintro e w' ⟨rfl, ⟨nd, rfl⟩⟩))
        go_ret
        exact ⟨by first | rfl | (simp [errW_none, errW_some] <;> rfl) | (simp [*, errW_none, errW_some] <;> rfl), by repeat (first | (with_reducible first | exact HB.out | apply below_alloc | apply pw_below_drewN | apply below_drew1 | refine below_set ?_ GE107.out) | exact HB.out)⟩
def varveref09_Merge.f (a0_0 : Int) (a0_1 : Int) (a0_2 : Int) (a0_3 : Int) (a1_0 : Int) (a1_1 : Int) (a1_2 : Int) (a1_3 : Int) : Option (Int × Int × Int × Int) :=
  if (0 ≤ a0_0 ∧ a0_0 < 18446744073709551616) ∧ (0 ≤ a0_1 ∧ a0_1 < 18446744073709551616) ∧ (0 ≤ a1_0 ∧ a1_0 < 18446744073709551616) ∧ (0 ≤ a1_1 ∧ a1_1 < 18446744073709551616) then
    (varveref02_Less.f 1 a1_2 a0_2).bind fun l1 => (varveref02_Less.f 1 a0_3 a1_3).bind fun l2 =>
      some (hold (a0_0 + a1_0), hold (a0_1 + a1_1), (if (a0_0 == 0) = true then a1_2 else if (a1_0 == 0) = true then a0_2 else if l1 then a1_2 else a0_2), (if (a0_0 == 0) = true then a1_3 else if (a1_0 == 0) = true then a0_3 else if l2 then a1_3 else a0_3))
  else none
theorem varveref09_Merge.calls (a0_0 : Int) (a0_1 : Int) (a0_2 : Int) (a0_3 : Int) (a1_0 : Int) (a1_1 : Int) (a1_2 : Int) (a1_3 : Int) (r1 : Int) (r2 : Int) (r3 : Int) (r4 : Int) (w : World) (h : varveref09_Merge.f a0_0 a0_1 a0_2 a0_3 a1_0 a1_1 a1_2 a1_3 = some (r1, r2, r3, r4)) :
    Calls Try.prog 85 #[.agg #[.int .u64 a0_0, .int .u64 a0_1, .int .u64 a0_2, .int .u64 a0_3], .agg #[.int .u64 a1_0, .int .u64 a1_1, .int .u64 a1_2, .int .u64 a1_3]] w fun e w' => e = .returned (.agg #[.int .u64 r1, .int .u64 r2, .int .u64 r3, .int .u64 r4]) ∧ Below w.heap.size w w' := by
  unfold varveref09_Merge.f at h
  split at h
  case isTrue hr =>
    obtain ⟨l1, e1, h⟩ := Option.bind_eq_some_iff.mp h
    obtain ⟨l2, e2, h⟩ := Option.bind_eq_some_iff.mp h
    simp only [Option.some.injEq, Prod.mk.injEq] at h
    obtain ⟨rfl, rfl, rfl, rfl⟩ := h
    exact grmerge_any a0_0 a0_1 a0_2 a0_3 a1_0 a1_1 a1_2 a1_3 w hr.1 hr.2.1 hr.2.2.1 hr.2.2.2 _ _ l1 l2 rfl rfl 1 e1 e2
  case isFalse => cases h
def varveref09_Add.f (k : Nat) (a0_0 : Int) (a0_1 : Int) (a0_2 : Int) (a0_3 : Int) (a1 : Int) : Option (Int × Int × Int × Int) := (varveref02_Kind.f k a1).bind fun t123 => (if t123 = 4 then ((varveref09_Merge.f a0_0 a0_1 a0_2 a0_3 0 1 0 0).bind fun bt124 => (some (bt124.1, bt124.2.1, bt124.2.2.1, bt124.2.2.2))) else ((varveref09_Merge.f a0_0 a0_1 a0_2 a0_3 1 0 a1 a1).bind fun bt128 => (some (bt128.1, bt128.2.1, bt128.2.2.1, bt128.2.2.2))))
theorem varveref09_Add.mono : ∀ a0 a1 a2 a3 a4 k, LeO (varveref09_Add.f k a0 a1 a2 a3 a4) (varveref09_Add.f (k + 1) a0 a1 a2 a3 a4) := by
  intro a0 a1 a2 a3 a4 k
  unfold varveref09_Add.f
  repeat' first
      | (with_reducible exact varveref02_Kind.mono _ _)
      | (with_reducible exact LeO.refl _)
      | (with_reducible exact LeO.none _)
      | (with_reducible refine LeO.ite ?_ ?_)
      | (with_reducible refine LeO.bind ?_ (fun _ => ?_))
      | exact varveref02_Kind.mono _ _
      | exact LeO.none _
      | refine LeO.ite ?_ ?_
      | refine LeO.bind ?_ (fun _ => ?_)
set_option maxHeartbeats 8000000 in
set_option maxRecDepth 100000 in
theorem varveref09_Add.calls (k : Nat) (a0_0 : Int) (a0_1 : Int) (a0_2 : Int) (a0_3 : Int) (a1 : Int) (r1 : Int) (r2 : Int) (r3 : Int) (r4 : Int) (w : World) (h : varveref09_Add.f k a0_0 a0_1 a0_2 a0_3 a1 = some (r1, r2, r3, r4)) :
    Calls Try.prog 73 #[.agg #[.int .u64 a0_0, .int .u64 a0_1, .int .u64 a0_2, .int .u64 a0_3], .int .u64 a1] w fun e w' => e = .returned (.agg #[.int .u64 r1, .int .u64 r2, .int .u64 r3, .int .u64 r4]) ∧ Below w.heap.size w w' := by
  have hu43 := Try.underlying43
  have HB := Aside0.mk (Below.refl w.heap.size w)
  have H : ((varveref02_Kind.f k a1).bind fun t123 => (if t123 = 4 then ((varveref09_Merge.f a0_0 a0_1 a0_2 a0_3 0 1 0 0).bind fun bt124 => (some (bt124.1, bt124.2.1, bt124.2.2.1, bt124.2.2.2))) else ((varveref09_Merge.f a0_0 a0_1 a0_2 a0_3 1 0 a1 a1).bind fun bt128 => (some (bt128.1, bt128.2.1, bt128.2.2.1, bt128.2.2.2))))) = some (r1, r2, r3, r4) := h
  clear h
  replace H := Option.bind_eq_some_iff.mp H
  obtain ⟨t123, A30, H⟩ := H
  replace H : (if t123 = 4 then ((varveref09_Merge.f a0_0 a0_1 a0_2 a0_3 0 1 0 0).bind fun bt124 => (some (bt124.1, bt124.2.1, bt124.2.2.1, bt124.2.2.2))) else ((varveref09_Merge.f a0_0 a0_1 a0_2 a0_3 1 0 a1 a1).bind fun bt128 => (some (bt128.1, bt128.2.1, bt128.2.2.1, bt128.2.2.2)))) = some (r1, r2, r3, r4) := H
  have A3 := Aside0.mk A30
  clear A30
  by_cases c4 : t123 = 4
  · rw [if_pos c4] at H
    have c4b0 : (t123 == 4) = true := beq_iff_eq.mpr c4
    have c4b1 : (t123 != 4) = false := bne_eq_false_iff_eq.mpr c4
    clear c4
    replace H := Option.bind_eq_some_iff.mp H
    obtain ⟨⟨t124, t125, t126, t127⟩, A50, H⟩ := H
    replace H : (some (t124, t125, t126, t127)) = some (r1, r2, r3, r4) := H
    have A5 := Aside0.mk A50
    clear A50
    simp only [Option.some.injEq, Prod.mk.injEq] at H
    obtain ⟨rfl, rfl, rfl, rfl⟩ := H
    go_enter Try.func73, Try.ntmps73
    go_wp2_with (first | ((with_reducible refine gate_dst (N := 2) rfl ?_); refine box_event ?hg (N := 2) ?hd (cs := #[.int .u64 a0_0, .int .u64 a0_1, .int .u64 a0_2, .int .u64 a0_3]) (t := 43) ?hr ?_; (case hd => rfl); (case hg => rfl); (case hr => first | (go_simp; done) | (go_simp; rfl)); intro gb121 hg w6 hbox hb; have n0_ := Aside0.mk (below_step (by repeat (first | (with_reducible first | exact HB.out | apply below_alloc | apply pw_below_drewN | apply below_drew1) | exact HB.out)) hb); have n1_ := Aside0.mk (hbox); have n2_ := Aside0.mk ((by rw [hg]; exact (below_size (by repeat (first | (with_reducible first | exact HB.out | apply below_alloc | apply pw_below_drewN | apply below_drew1) | exact HB.out))) : w.heap.size ≤ gb121)); have n3_ := Aside0.mk ((by rw [hg]; exact (below_size (by repeat (first | (with_reducible first | exact HB.out | apply below_alloc | apply pw_below_drewN | apply below_drew1) | exact HB.out))) : w.heap.size ≤ gb121)); clear HB; have HB := n0_; have BK121 := n1_; have GW121 := n2_; have GE121 := n3_; clear n0_ n1_ n2_ n3_; clear hb hbox hg) | ((with_reducible refine gate_dst (N := 4) rfl ?_); refine box_event ?hg (N := 4) ?hd (cs := #[.int .u64 0, .int .u64 0, .int .u64 0, .int .u64 0]) (t := 43) ?hr ?_; (case hd => rfl); (case hg => rfl); (case hr => first | (go_simp; done) | (go_simp; rfl)); intro gb122 hg w7 hbox hb; have n0_ := Aside0.mk (blk_below (g := gb121) (o := .cells #[.int .u64 a0_0, .int .u64 a0_1, .int .u64 a0_2, .int .u64 a0_3] 43 (0, 0)) (by (with_reducible repeat (first | refine blk_drewN ?_ _ | refine blk_drew ?_ | refine blk_alloc ?_ _)); exact BK121.out) hb); have n1_ := Aside0.mk (below_step (by repeat (first | (with_reducible first | exact HB.out | apply below_alloc | apply pw_below_drewN | apply below_drew1 | refine below_set ?_ GE121.out) | exact HB.out)) hb); have n2_ := Aside0.mk (hbox); have n3_ := Aside0.mk ((by rw [hg]; exact (below_size (by repeat (first | (with_reducible first | exact HB.out | apply below_alloc | apply pw_below_drewN | apply below_drew1 | refine below_set ?_ GE121.out) | exact HB.out))) : w.heap.size ≤ gb122)); have n4_ := Aside0.mk ((by rw [hg]; exact (below_size (by repeat (first | (with_reducible first | exact HB.out | apply below_alloc | apply pw_below_drewN | apply below_drew1 | refine below_set ?_ GE121.out) | exact HB.out))) : w.heap.size ≤ gb122)); have n5_ := Aside0.mk ((by rw [hg]; exact Nat.ne_of_lt (blk_lt (g := gb121) (o := .cells #[.int .u64 a0_0, .int .u64 a0_1, .int .u64 a0_2, .int .u64 a0_3] 43 (0, 0)) (by (with_reducible repeat (first | refine blk_drewN ?_ _ | refine blk_drew ?_ | refine blk_alloc ?_ _)); exact BK121.out)) : gb121 ≠ gb122)); have n6_ := Aside0.mk ((by rw [hg]; exact Nat.ne_of_gt (blk_lt (g := gb121) (o := .cells #[.int .u64 a0_0, .int .u64 a0_1, .int .u64 a0_2, .int .u64 a0_3] 43 (0, 0)) (by (with_reducible repeat (first | refine blk_drewN ?_ _ | refine blk_drew ?_ | refine blk_alloc ?_ _)); exact BK121.out)) : gb122 ≠ gb121)); clear BK121; clear HB; have BK121 := n0_; have HB := n1_; have BK122 := n2_; have GW122 := n3_; have GE122 := n4_; have NB121_122 := n5_; have NB122_121 := n6_; clear n0_ n1_ n2_ n3_ n4_ n5_ n6_; clear hb hbox hg) | ((with_reducible refine gate_callee (f := 108) rfl ?_); refine goesL_ (some 6) rfl rfl Try.func108 (by kernel_rfl) rfl #[.int .u64 a1] rfl (by (try simp only [List.map_toArray, List.map_cons, List.map_nil]); first | done | rfl | (simp only [List.length_drop, List.length_take]; rfl)) ?_; (with_reducible refine (varveref02_Kind.calls k a1 t123 _ A3.out).mono ?_); rintro e w' ⟨rfl, ⟨nd, rfl⟩⟩; refine ⟨_, rfl, ?_⟩; (try (rw [drewN_self w7]; generalize hq_ : World.drewN w7 _ = w7; have n0_ : Aside0 (w7.heap[gb121]? = some (.cells #[.int .u64 a0_0, .int .u64 a0_1, .int .u64 a0_2, .int .u64 a0_3] 43 (0, 0))) := ⟨by rw [← hq_]; exact (by (with_reducible repeat (first | refine blk_drewN ?_ _ | refine blk_drew ?_ | refine blk_alloc ?_ _)); exact BK121.out)⟩; have n1_ : Aside0 (w7.heap[gb122]? = some (.cells #[.int .u64 0, .int .u64 0, .int .u64 0, .int .u64 0] 43 (0, 0))) := ⟨by rw [← hq_]; exact (by (with_reducible repeat (first | refine blk_drewN ?_ _ | refine blk_drew ?_ | refine blk_alloc ?_ _)); exact BK122.out)⟩; have n2_ : Aside0 (Below w.heap.size w w7) := ⟨by rw [← hq_]; exact (by repeat (first | (with_reducible first | exact HB.out | apply below_alloc | apply pw_below_drewN | apply below_drew1 | refine below_set ?_ GE121.out | refine below_set ?_ GE122.out) | exact HB.out))⟩; clear BK121 BK122 HB hq_; have BK121 := n0_; have BK122 := n1_; have HB := n2_; clear n0_ n1_ n2_)); have hnb8 := NB121_122.out; have hnc8 := NB122_121.out; have hcz9_0 : w7.cell? ⟨gb121, 0, none⟩ = some (.int .u64 a0_0) := (blk_cell BK121.out 0).trans rfl; have hcz9_1 : w7.cell? ⟨gb121, 1, none⟩ = some (.int .u64 a0_1) := (blk_cell BK121.out 1).trans rfl; have hcz9_2 : w7.cell? ⟨gb121, 2, none⟩ = some (.int .u64 a0_2) := (blk_cell BK121.out 2).trans rfl; have hcz9_3 : w7.cell? ⟨gb121, 3, none⟩ = some (.int .u64 a0_3) := (blk_cell BK121.out 3).trans rfl; have hfz9_0 := blk_frozen BK121.out 0; have hfz9_1 := blk_frozen BK121.out 1; have hfz9_2 := blk_frozen BK121.out 2; have hfz9_3 := blk_frozen BK121.out 3) | ((with_reducible refine gate_callee (f := 85) rfl ?_); refine goesL_ (some 10) rfl rfl Try.func85 (by kernel_rfl) rfl #[.agg #[.int .u64 a0_0, .int .u64 a0_1, .int .u64 a0_2, .int .u64 a0_3], .agg #[.int .u64 0, .int .u64 1, .int .u64 0, .int .u64 0]] rfl (by (try simp only [List.map_toArray, List.map_cons, List.map_nil]); first | done | rfl | (simp only [List.length_drop, List.length_take]; rfl)) ?_; (with_reducible refine (varveref09_Merge.calls a0_0 a0_1 a0_2 a0_3 0 1 0 0 t124 t125 t126 t127 _ A5.out).mono ?_); rintro e w10 ⟨rfl, hb⟩; refine ⟨_, rfl, ?_⟩; have n0_ := Aside0.mk (blk_below (g := gb121) (o := .cells #[.int .u64 a0_0, .int .u64 a0_1, .int .u64 a0_2, .int .u64 a0_3] 43 (0, 0)) (by (with_reducible repeat (first | refine blk_drewN ?_ _ | refine blk_drew ?_ | refine blk_alloc ?_ _)); exact BK121.out) hb); have n1_ := Aside0.mk (blk_below (g := gb122) (o := .cells #[.int .u64 0, .int .u64 0, .int .u64 0, .int .u64 0] 43 (0, 0)) (by (with_reducible repeat (first | refine blk_drewN ?_ _ | refine blk_drew ?_ | refine blk_alloc ?_ _)); exact BK122.out) hb); have n2_ := Aside0.mk (below_step (by repeat (first | (with_reducible first | exact HB.out | apply below_alloc | apply pw_below_drewN | apply below_drew1 | refine below_set ?_ GE121.out | refine below_set ?_ GE122.out) | exact HB.out)) hb); clear BK121; clear BK122; clear HB; have BK121 := n0_; have BK122 := n1_; have HB := n2_; clear n0_ n1_ n2_; (try clear hb); (try clear hb2); (try clear hk); (try clear hi); have hcz11_0 : w10.cell? ⟨gb122, 0, none⟩ = some (.int .u64 0) := (blk_cell BK122.out 0).trans rfl; have hcz11_1 : w10.cell? ⟨gb122, 1, none⟩ = some (.int .u64 0) := (blk_cell BK122.out 1).trans rfl; have hcz11_2 : w10.cell? ⟨gb122, 2, none⟩ = some (.int .u64 0) := (blk_cell BK122.out 2).trans rfl; have hcz11_3 : w10.cell? ⟨gb122, 3, none⟩ = some (.int .u64 0) := (blk_cell BK122.out 3).trans rfl; have hfz11_0 := blk_frozen BK122.out 0; have hfz11_1 := blk_frozen BK122.out 1; have hfz11_2 := blk_frozen BK122.out 2; have hfz11_3 := blk_frozen BK122.out 3))
    refine bodyPost_ret (results_cell_row rfl _ _ gb122 43 #[.int .u64 t124, .int .u64 t125, .int .u64 t126, .int .u64 t127] (0, 0) _ rfl (by (with_reducible repeat (first | refine blk_drewN ?_ _ | refine blk_drew ?_ | refine blk_alloc ?_ _)); refine blk_put (cs := #[.int .u64 t124, .int .u64 t125, .int .u64 t126, .int .u64 0]) ?_ 3 _ rfl; (with_reducible repeat (first | refine blk_drewN ?_ _ | refine blk_drew ?_ | refine blk_alloc ?_ _)); refine blk_put (cs := #[.int .u64 t124, .int .u64 t125, .int .u64 0, .int .u64 0]) ?_ 2 _ rfl; (with_reducible repeat (first | refine blk_drewN ?_ _ | refine blk_drew ?_ | refine blk_alloc ?_ _)); refine blk_put (cs := #[.int .u64 t124, .int .u64 0, .int .u64 0, .int .u64 0]) ?_ 1 _ rfl; (with_reducible repeat (first | refine blk_drewN ?_ _ | refine blk_drew ?_ | refine blk_alloc ?_ _)); refine blk_put (cs := #[.int .u64 0, .int .u64 0, .int .u64 0, .int .u64 0]) ?_ 0 _ rfl; (with_reducible repeat (first | refine blk_drewN ?_ _ | refine blk_drew ?_ | refine blk_alloc ?_ _)); exact BK122.out) Try.underlying43 rfl (by kernel_rfl)) rfl ?_
    exact ⟨by first | rfl | (simp [errW_none, errW_some] <;> rfl) | (simp [*, errW_none, errW_some] <;> rfl), by repeat (first | (with_reducible first | exact HB.out | apply below_alloc | apply pw_below_drewN | apply below_drew1 | refine below_set ?_ GE121.out | refine below_set ?_ GE122.out) | exact HB.out)⟩
  · rw [if_neg c4] at H
    have c4b0 : (t123 == 4) = false := beq_eq_false_iff_ne.mpr c4
    have c4b1 : (t123 != 4) = true := bne_iff_ne.mpr c4
    replace H := Option.bind_eq_some_iff.mp H
    obtain ⟨⟨t128, t129, t130, t131⟩, A120, H⟩ := H
    replace H : (some (t128, t129, t130, t131)) = some (r1, r2, r3, r4) := H
    have A12 := Aside0.mk A120
    clear A120
    simp only [Option.some.injEq, Prod.mk.injEq] at H
    obtain ⟨rfl, rfl, rfl, rfl⟩ := H
    go_enter Try.func73, Try.ntmps73
    go_wp2_with (first | ((with_reducible refine gate_dst (N := 2) rfl ?_); refine box_event ?hg (N := 2) ?hd (cs := #[.int .u64 a0_0, .int .u64 a0_1, .int .u64 a0_2, .int .u64 a0_3]) (t := 43) ?hr ?_; (case hd => rfl); (case hg => rfl); (case hr => first | (go_simp; done) | (go_simp; rfl)); intro gb121 hg w13 hbox hb; have n0_ := Aside0.mk (below_step (by repeat (first | (with_reducible first | exact HB.out | apply below_alloc | apply pw_below_drewN | apply below_drew1) | exact HB.out)) hb); have n1_ := Aside0.mk (hbox); have n2_ := Aside0.mk ((by rw [hg]; exact (below_size (by repeat (first | (with_reducible first | exact HB.out | apply below_alloc | apply pw_below_drewN | apply below_drew1) | exact HB.out))) : w.heap.size ≤ gb121)); have n3_ := Aside0.mk ((by rw [hg]; exact (below_size (by repeat (first | (with_reducible first | exact HB.out | apply below_alloc | apply pw_below_drewN | apply below_drew1) | exact HB.out))) : w.heap.size ≤ gb121)); clear HB; have HB := n0_; have BK121 := n1_; have GW121 := n2_; have GE121 := n3_; clear n0_ n1_ n2_ n3_; clear hb hbox hg) | ((with_reducible refine gate_dst (N := 4) rfl ?_); refine box_event ?hg (N := 4) ?hd (cs := #[.int .u64 0, .int .u64 0, .int .u64 0, .int .u64 0]) (t := 43) ?hr ?_; (case hd => rfl); (case hg => rfl); (case hr => first | (go_simp; done) | (go_simp; rfl)); intro gb122 hg w14 hbox hb; have n0_ := Aside0.mk (blk_below (g := gb121) (o := .cells #[.int .u64 a0_0, .int .u64 a0_1, .int .u64 a0_2, .int .u64 a0_3] 43 (0, 0)) (by (with_reducible repeat (first | refine blk_drewN ?_ _ | refine blk_drew ?_ | refine blk_alloc ?_ _)); exact BK121.out) hb); have n1_ := Aside0.mk (below_step (by repeat (first | (with_reducible first | exact HB.out | apply below_alloc | apply pw_below_drewN | apply below_drew1 | refine below_set ?_ GE121.out) | exact HB.out)) hb); have n2_ := Aside0.mk (hbox); have n3_ := Aside0.mk ((by rw [hg]; exact (below_size (by repeat (first | (with_reducible first | exact HB.out | apply below_alloc | apply pw_below_drewN | apply below_drew1 | refine below_set ?_ GE121.out) | exact HB.out))) : w.heap.size ≤ gb122)); have n4_ := Aside0.mk ((by rw [hg]; exact (below_size (by repeat (first | (with_reducible first | exact HB.out | apply below_alloc | apply pw_below_drewN | apply below_drew1 | refine below_set ?_ GE121.out) | exact HB.out))) : w.heap.size ≤ gb122)); have n5_ := Aside0.mk ((by rw [hg]; exact Nat.ne_of_lt (blk_lt (g := gb121) (o := .cells #[.int .u64 a0_0, .int .u64 a0_1, .int .u64 a0_2, .int .u64 a0_3] 43 (0, 0)) (by (with_reducible repeat (first | refine blk_drewN ?_ _ | refine blk_drew ?_ | refine blk_alloc ?_ _)); exact BK121.out)) : gb121 ≠ gb122)); have n6_ := Aside0.mk ((by rw [hg]; exact Nat.ne_of_gt (blk_lt (g := gb121) (o := .cells #[.int .u64 a0_0, .int .u64 a0_1, .int .u64 a0_2, .int .u64 a0_3] 43 (0, 0)) (by (with_reducible repeat (first | refine blk_drewN ?_ _ | refine blk_drew ?_ | refine blk_alloc ?_ _)); exact BK121.out)) : gb122 ≠ gb121)); clear BK121; clear HB; have BK121 := n0_; have HB := n1_; have BK122 := n2_; have GW122 := n3_; have GE122 := n4_; have NB121_122 := n5_; have NB122_121 := n6_; clear n0_ n1_ n2_ n3_ n4_ n5_ n6_; clear hb hbox hg) | ((with_reducible refine gate_callee (f := 108) rfl ?_); refine goesL_ (some 6) rfl rfl Try.func108 (by kernel_rfl) rfl #[.int .u64 a1] rfl (by (try simp only [List.map_toArray, List.map_cons, List.map_nil]); first | done | rfl | (simp only [List.length_drop, List.length_take]; rfl)) ?_; (with_reducible refine (varveref02_Kind.calls k a1 t123 _ A3.out).mono ?_); rintro e w' ⟨rfl, ⟨nd, rfl⟩⟩; refine ⟨_, rfl, ?_⟩; (try (rw [drewN_self w14]; generalize hq_ : World.drewN w14 _ = w14; have n0_ : Aside0 (w14.heap[gb121]? = some (.cells #[.int .u64 a0_0, .int .u64 a0_1, .int .u64 a0_2, .int .u64 a0_3] 43 (0, 0))) := ⟨by rw [← hq_]; exact (by (with_reducible repeat (first | refine blk_drewN ?_ _ | refine blk_drew ?_ | refine blk_alloc ?_ _)); exact BK121.out)⟩; have n1_ : Aside0 (w14.heap[gb122]? = some (.cells #[.int .u64 0, .int .u64 0, .int .u64 0, .int .u64 0] 43 (0, 0))) := ⟨by rw [← hq_]; exact (by (with_reducible repeat (first | refine blk_drewN ?_ _ | refine blk_drew ?_ | refine blk_alloc ?_ _)); exact BK122.out)⟩; have n2_ : Aside0 (Below w.heap.size w w14) := ⟨by rw [← hq_]; exact (by repeat (first | (with_reducible first | exact HB.out | apply below_alloc | apply pw_below_drewN | apply below_drew1 | refine below_set ?_ GE121.out | refine below_set ?_ GE122.out) | exact HB.out))⟩; clear BK121 BK122 HB hq_; have BK121 := n0_; have BK122 := n1_; have HB := n2_; clear n0_ n1_ n2_)); have hnb15 := NB121_122.out; have hnc15 := NB122_121.out; have hcz16_0 : w14.cell? ⟨gb121, 0, none⟩ = some (.int .u64 a0_0) := (blk_cell BK121.out 0).trans rfl; have hcz16_1 : w14.cell? ⟨gb121, 1, none⟩ = some (.int .u64 a0_1) := (blk_cell BK121.out 1).trans rfl; have hcz16_2 : w14.cell? ⟨gb121, 2, none⟩ = some (.int .u64 a0_2) := (blk_cell BK121.out 2).trans rfl; have hcz16_3 : w14.cell? ⟨gb121, 3, none⟩ = some (.int .u64 a0_3) := (blk_cell BK121.out 3).trans rfl; have hfz16_0 := blk_frozen BK121.out 0; have hfz16_1 := blk_frozen BK121.out 1; have hfz16_2 := blk_frozen BK121.out 2; have hfz16_3 := blk_frozen BK121.out 3) | ((with_reducible refine gate_callee (f := 85) rfl ?_); refine goesL_ (some 15) rfl rfl Try.func85 (by kernel_rfl) rfl #[.agg #[.int .u64 a0_0, .int .u64 a0_1, .int .u64 a0_2, .int .u64 a0_3], .agg #[.int .u64 1, .int .u64 0, .int .u64 a1, .int .u64 a1]] rfl (by (try simp only [List.map_toArray, List.map_cons, List.map_nil]); first | done | rfl | (simp only [List.length_drop, List.length_take]; rfl)) ?_; (with_reducible refine (varveref09_Merge.calls a0_0 a0_1 a0_2 a0_3 1 0 a1 a1 t128 t129 t130 t131 _ A12.out).mono ?_); rintro e w17 ⟨rfl, hb⟩; refine ⟨_, rfl, ?_⟩; have n0_ := Aside0.mk (blk_below (g := gb121) (o := .cells #[.int .u64 a0_0, .int .u64 a0_1, .int .u64 a0_2, .int .u64 a0_3] 43 (0, 0)) (by (with_reducible repeat (first | refine blk_drewN ?_ _ | refine blk_drew ?_ | refine blk_alloc ?_ _)); exact BK121.out) hb); have n1_ := Aside0.mk (blk_below (g := gb122) (o := .cells #[.int .u64 0, .int .u64 0, .int .u64 0, .int .u64 0] 43 (0, 0)) (by (with_reducible repeat (first | refine blk_drewN ?_ _ | refine blk_drew ?_ | refine blk_alloc ?_ _)); exact BK122.out) hb); have n2_ := Aside0.mk (below_step (by repeat (first | (with_reducible first | exact HB.out | apply below_alloc | apply pw_below_drewN | apply below_drew1 | refine below_set ?_ GE121.out | refine below_set ?_ GE122.out) | exact HB.out)) hb); clear BK121; clear BK122; clear HB; have BK121 := n0_; have BK122 := n1_; have HB := n2_; clear n0_ n1_ n2_; (try clear hb); (try clear hb2); (try clear hk); (try clear hi); have hcz18_0 : w17.cell? ⟨gb122, 0, none⟩ = some (.int .u64 0) := (blk_cell BK122.out 0).trans rfl; have hcz18_1 : w17.cell? ⟨gb122, 1, none⟩ = some (.int .u64 0) := (blk_cell BK122.out 1).trans rfl; have hcz18_2 : w17.cell? ⟨gb122, 2, none⟩ = some (.int .u64 0) := (blk_cell BK122.out 2).trans rfl; have hcz18_3 : w17.cell? ⟨gb122, 3, none⟩ = some (.int .u64 0) := (blk_cell BK122.out 3).trans rfl; have hfz18_0 := blk_frozen BK122.out 0; have hfz18_1 := blk_frozen BK122.out 1; have hfz18_2 := blk_frozen BK122.out 2; have hfz18_3 := blk_frozen BK122.out 3))
    refine bodyPost_ret (results_cell_row rfl _ _ gb122 43 #[.int .u64 t128, .int .u64 t129, .int .u64 t130, .int .u64 t131] (0, 0) _ rfl (by (with_reducible repeat (first | refine blk_drewN ?_ _ | refine blk_drew ?_ | refine blk_alloc ?_ _)); refine blk_put (cs := #[.int .u64 t128, .int .u64 t129, .int .u64 t130, .int .u64 0]) ?_ 3 _ rfl; (with_reducible repeat (first | refine blk_drewN ?_ _ | refine blk_drew ?_ | refine blk_alloc ?_ _)); refine blk_put (cs := #[.int .u64 t128, .int .u64 t129, .int .u64 0, .int .u64 0]) ?_ 2 _ rfl; (with_reducible repeat (first | refine blk_drewN ?_ _ | refine blk_drew ?_ | refine blk_alloc ?_ _)); refine blk_put (cs := #[.int .u64 t128, .int .u64 0, .int .u64 0, .int .u64 0]) ?_ 1 _ rfl; (with_reducible repeat (first | refine blk_drewN ?_ _ | refine blk_drew ?_ | refine blk_alloc ?_ _)); refine blk_put (cs := #[.int .u64 0, .int .u64 0, .int .u64 0, .int .u64 0]) ?_ 0 _ rfl; (with_reducible repeat (first | refine blk_drewN ?_ _ | refine blk_drew ?_ | refine blk_alloc ?_ _)); exact BK122.out) Try.underlying43 rfl (by kernel_rfl)) rfl ?_
    exact ⟨by first | rfl | (simp [errW_none, errW_some] <;> rfl) | (simp [*, errW_none, errW_some] <;> rfl), by repeat (first | (with_reducible first | exact HB.out | apply below_alloc | apply pw_below_drewN | apply below_drew1 | refine below_set ?_ GE121.out | refine below_set ?_ GE122.out) | exact HB.out)⟩
def varveref09_Check.f (k : Nat) (a0_0 : Int) (a0_1 : Int) (a0_2 : Int) (a0_3 : Int) : Option (Bool) := if a0_0 = 0 then (if a0_2 = 0 then (some (a0_3 == 0)) else (some false)) else ((varveref02_Kind.f k a0_2).bind fun t133 => (if t133 = 4 then (some false) else ((varveref02_Kind.f k a0_3).bind fun t134 => (if t134 = 4 then (some false) else ((varveref02_Less.f k a0_3 a0_2).bind fun t135 => (some (!t135)))))))
theorem varveref09_Check.mono : ∀ a0 a1 a2 a3 k, LeO (varveref09_Check.f k a0 a1 a2 a3) (varveref09_Check.f (k + 1) a0 a1 a2 a3) := by
  intro a0 a1 a2 a3 k
  unfold varveref09_Check.f
  repeat' first
      | (with_reducible exact varveref02_Kind.mono _ _)
      | (with_reducible exact varveref02_Less.mono _ _ _)
      | (with_reducible exact LeO.refl _)
      | (with_reducible exact LeO.none _)
      | (with_reducible refine LeO.ite ?_ ?_)
      | (with_reducible refine LeO.bind ?_ (fun _ => ?_))
      | exact varveref02_Kind.mono _ _
      | exact varveref02_Less.mono _ _ _
      | exact LeO.none _
      | refine LeO.ite ?_ ?_
      | refine LeO.bind ?_ (fun _ => ?_)
set_option maxHeartbeats 8000000 in
set_option maxRecDepth 100000 in
theorem varveref09_Check.calls (k : Nat) (a0_0 : Int) (a0_1 : Int) (a0_2 : Int) (a0_3 : Int) (r : Bool) (w : World) (h : varveref09_Check.f k a0_0 a0_1 a0_2 a0_3 = some r) :
    Calls Try.prog 80 #[.agg #[.int .u64 a0_0, .int .u64 a0_1, .int .u64 a0_2, .int .u64 a0_3]] w fun e w' => e = .returned (.bool r) ∧ Below w.heap.size w w' := by
  have hu43 := Try.underlying43
  have HB := Aside0.mk (Below.refl w.heap.size w)
  have H : (if a0_0 = 0 then (if a0_2 = 0 then (some (a0_3 == 0)) else (some false)) else ((varveref02_Kind.f k a0_2).bind fun t133 => (if t133 = 4 then (some false) else ((varveref02_Kind.f k a0_3).bind fun t134 => (if t134 = 4 then (some false) else ((varveref02_Less.f k a0_3 a0_2).bind fun t135 => (some (!t135)))))))) = some r := h
  clear h
  by_cases c2 : a0_0 = 0
  · rw [if_pos c2] at H
    have c2b0 : (a0_0 == 0) = true := beq_iff_eq.mpr c2
    have c2b1 : (a0_0 != 0) = false := bne_eq_false_iff_eq.mpr c2
    clear c2
    by_cases c3 : a0_2 = 0
    · rw [if_pos c3] at H
      have c3b0 : (a0_2 == 0) = true := beq_iff_eq.mpr c3
      have c3b1 : (a0_2 != 0) = false := bne_eq_false_iff_eq.mpr c3
      clear c3
      obtain rfl := Option.some.inj H
      go_enter Try.func80, Try.ntmps80
      go_wp2_with (first | ((with_reducible refine gate_dst (N := 1) rfl ?_); refine box_event ?hg (N := 1) ?hd (cs := #[.int .u64 a0_0, .int .u64 a0_1, .int .u64 a0_2, .int .u64 a0_3]) (t := 43) ?hr ?_; (case hd => rfl); (case hg => rfl); (case hr => first | (go_simp; done) | (go_simp; rfl)); intro gb132 hg w4 hbox hb; have n0_ := Aside0.mk (below_step (by repeat (first | (with_reducible first | exact HB.out | apply below_alloc | apply pw_below_drewN | apply below_drew1) | exact HB.out)) hb); have n1_ := Aside0.mk (hbox); have n2_ := Aside0.mk ((by rw [hg]; exact (below_size (by repeat (first | (with_reducible first | exact HB.out | apply below_alloc | apply pw_below_drewN | apply below_drew1) | exact HB.out))) : w.heap.size ≤ gb132)); have n3_ := Aside0.mk ((by rw [hg]; exact (below_size (by repeat (first | (with_reducible first | exact HB.out | apply below_alloc | apply pw_below_drewN | apply below_drew1) | exact HB.out))) : w.heap.size ≤ gb132)); clear HB; have HB := n0_; have BK132 := n1_; have GW132 := n2_; have GE132 := n3_; clear n0_ n1_ n2_ n3_; clear hb hbox hg; have hcz5_0 : w4.cell? ⟨gb132, 0, none⟩ = some (.int .u64 a0_0) := (blk_cell BK132.out 0).trans rfl; have hcz5_1 : w4.cell? ⟨gb132, 1, none⟩ = some (.int .u64 a0_1) := (blk_cell BK132.out 1).trans rfl; have hcz5_2 : w4.cell? ⟨gb132, 2, none⟩ = some (.int .u64 a0_2) := (blk_cell BK132.out 2).trans rfl; have hcz5_3 : w4.cell? ⟨gb132, 3, none⟩ = some (.int .u64 a0_3) := (blk_cell BK132.out 3).trans rfl; have hfz5_0 := blk_frozen BK132.out 0; have hfz5_1 := blk_frozen BK132.out 1; have hfz5_2 := blk_frozen BK132.out 2; have hfz5_3 := blk_frozen BK132.out 3))
      go_ret
      exact ⟨by first | rfl | (simp [errW_none, errW_some] <;> rfl) | (simp [*, errW_none, errW_some] <;> rfl), by repeat (first | (with_reducible first | exact HB.out | apply below_alloc | apply pw_below_drewN | apply below_drew1 | refine below_set ?_ GE132.out) | exact HB.out)⟩
    · rw [if_neg c3] at H
      have c3b0 : (a0_2 == 0) = false := beq_eq_false_iff_ne.mpr c3
      have c3b1 : (a0_2 != 0) = true := bne_iff_ne.mpr c3
      obtain rfl := Option.some.inj H
      go_enter Try.func80, Try.ntmps80
      go_wp2_with (first | ((with_reducible refine gate_dst (N := 1) rfl ?_); refine box_event ?hg (N := 1) ?hd (cs := #[.int .u64 a0_0, .int .u64 a0_1, .int .u64 a0_2, .int .u64 a0_3]) (t := 43) ?hr ?_; (case hd => rfl); (case hg => rfl); (case hr => first | (go_simp; done) | (go_simp; rfl)); intro gb132 hg w6 hbox hb; have n0_ := Aside0.mk (below_step (by repeat (first | (with_reducible first | exact HB.out | apply below_alloc | apply pw_below_drewN | apply below_drew1) | exact HB.out)) hb); have n1_ := Aside0.mk (hbox); have n2_ := Aside0.mk ((by rw [hg]; exact (below_size (by repeat (first | (with_reducible first | exact HB.out | apply below_alloc | apply pw_below_drewN | apply below_drew1) | exact HB.out))) : w.heap.size ≤ gb132)); have n3_ := Aside0.mk ((by rw [hg]; exact (below_size (by repeat (first | (with_reducible first | exact HB.out | apply below_alloc | apply pw_below_drewN | apply below_drew1) | exact HB.out))) : w.heap.size ≤ gb132)); clear HB; have HB := n0_; have BK132 := n1_; have GW132 := n2_; have GE132 := n3_; clear n0_ n1_ n2_ n3_; clear hb hbox hg; have hcz7_0 : w6.cell? ⟨gb132, 0, none⟩ = some (.int .u64 a0_0) := (blk_cell BK132.out 0).trans rfl; have hcz7_1 : w6.cell? ⟨gb132, 1, none⟩ = some (.int .u64 a0_1) := (blk_cell BK132.out 1).trans rfl; have hcz7_2 : w6.cell? ⟨gb132, 2, none⟩ = some (.int .u64 a0_2) := (blk_cell BK132.out 2).trans rfl; have hcz7_3 : w6.cell? ⟨gb132, 3, none⟩ = some (.int .u64 a0_3) := (blk_cell BK132.out 3).trans rfl; have hfz7_0 := blk_frozen BK132.out 0; have hfz7_1 := blk_frozen BK132.out 1; have hfz7_2 := blk_frozen BK132.out 2; have hfz7_3 := blk_frozen BK132.out 3))
      go_ret
      exact ⟨by first | rfl | (simp [errW_none, errW_some] <;> rfl) | (simp [*, errW_none, errW_some] <;> rfl), by repeat (first | (with_reducible first | exact HB.out | apply below_alloc | apply pw_below_drewN | apply below_drew1 | refine below_set ?_ GE132.out) | exact HB.out)⟩
  · rw [if_neg c2] at H
    have c2b0 : (a0_0 == 0) = false := beq_eq_false_iff_ne.mpr c2
    have c2b1 : (a0_0 != 0) = true := bne_iff_ne.mpr c2
    replace H := Option.bind_eq_some_iff.mp H
    obtain ⟨t133, A80, H⟩ := H
    replace H : (if t133 = 4 then (some false) else ((varveref02_Kind.f k a0_3).bind fun t134 => (if t134 = 4 then (some false) else ((varveref02_Less.f k a0_3 a0_2).bind fun t135 => (some (!t135)))))) = some r := H
    have A8 := Aside0.mk A80
    clear A80
    by_cases c9 : t133 = 4
    · rw [if_pos c9] at H
      have c9b0 : (t133 == 4) = true := beq_iff_eq.mpr c9
      have c9b1 : (t133 != 4) = false := bne_eq_false_iff_eq.mpr c9
      clear c9
      obtain rfl := Option.some.inj H
      go_enter Try.func80, Try.ntmps80
      go_wp2_with (first | ((with_reducible refine gate_dst (N := 1) rfl ?_); refine box_event ?hg (N := 1) ?hd (cs := #[.int .u64 a0_0, .int .u64 a0_1, .int .u64 a0_2, .int .u64 a0_3]) (t := 43) ?hr ?_; (case hd => rfl); (case hg => rfl); (case hr => first | (go_simp; done) | (go_simp; rfl)); intro gb132 hg w10 hbox hb; have n0_ := Aside0.mk (below_step (by repeat (first | (with_reducible first | exact HB.out | apply below_alloc | apply pw_below_drewN | apply below_drew1) | exact HB.out)) hb); have n1_ := Aside0.mk (hbox); have n2_ := Aside0.mk ((by rw [hg]; exact (below_size (by repeat (first | (with_reducible first | exact HB.out | apply below_alloc | apply pw_below_drewN | apply below_drew1) | exact HB.out))) : w.heap.size ≤ gb132)); have n3_ := Aside0.mk ((by rw [hg]; exact (below_size (by repeat (first | (with_reducible first | exact HB.out | apply below_alloc | apply pw_below_drewN | apply below_drew1) | exact HB.out))) : w.heap.size ≤ gb132)); clear HB; have HB := n0_; have BK132 := n1_; have GW132 := n2_; have GE132 := n3_; clear n0_ n1_ n2_ n3_; clear hb hbox hg; have hcz11_0 : w10.cell? ⟨gb132, 0, none⟩ = some (.int .u64 a0_0) := (blk_cell BK132.out 0).trans rfl; have hcz11_1 : w10.cell? ⟨gb132, 1, none⟩ = some (.int .u64 a0_1) := (blk_cell BK132.out 1).trans rfl; have hcz11_2 : w10.cell? ⟨gb132, 2, none⟩ = some (.int .u64 a0_2) := (blk_cell BK132.out 2).trans rfl; have hcz11_3 : w10.cell? ⟨gb132, 3, none⟩ = some (.int .u64 a0_3) := (blk_cell BK132.out 3).trans rfl; have hfz11_0 := blk_frozen BK132.out 0; have hfz11_1 := blk_frozen BK132.out 1; have hfz11_2 := blk_frozen BK132.out 2; have hfz11_3 := blk_frozen BK132.out 3) | ((with_reducible refine gate_callee (f := 108) rfl ?_); refine goesL_ (some 16) rfl rfl Try.func108 (by kernel_rfl) rfl #[.int .u64 a0_2] rfl (by (try simp only [List.map_toArray, List.map_cons, List.map_nil]); first | done | rfl | (simp only [List.length_drop, List.length_take]; rfl)) ?_; (with_reducible refine (varveref02_Kind.calls k a0_2 t133 _ A8.out).mono ?_); rintro e w' ⟨rfl, ⟨nd, rfl⟩⟩; refine ⟨_, rfl, ?_⟩))
      go_ret
      exact ⟨by first | rfl | (simp [errW_none, errW_some] <;> rfl) | (simp [*, errW_none, errW_some] <;> rfl), by repeat (first | (with_reducible first | exact HB.out | apply below_alloc | apply pw_below_drewN | apply below_drew1 | refine below_set ?_ GE132.out) | exact HB.out)⟩
    · rw [if_neg c9] at H
      have c9b0 : (t133 == 4) = false := beq_eq_false_iff_ne.mpr c9
      have c9b1 : (t133 != 4) = true := bne_iff_ne.mpr c9
      replace H := Option.bind_eq_some_iff.mp H
      obtain ⟨t134, A120, H⟩ := H
      replace H : (if t134 = 4 then (some false) else ((varveref02_Less.f k a0_3 a0_2).bind fun t135 => (some (!t135)))) = some r := H
      have A12 := Aside0.mk A120
      clear A120
      by_cases c13 : t134 = 4
      · rw [if_pos c13] at H
        have c13b0 : (t134 == 4) = true := beq_iff_eq.mpr c13
        have c13b1 : (t134 != 4) = false := bne_eq_false_iff_eq.mpr c13
        clear c13
        obtain rfl := Option.some.inj H
        go_enter Try.func80, Try.ntmps80
        go_wp2_with (first | ((with_reducible refine gate_dst (N := 1) rfl ?_); refine box_event ?hg (N := 1) ?hd (cs := #[.int .u64 a0_0, .int .u64 a0_1, .int .u64 a0_2, .int .u64 a0_3]) (t := 43) ?hr ?_; (case hd => rfl); (case hg => rfl); (case hr => first | (go_simp; done) | (go_simp; rfl)); intro gb132 hg w14 hbox hb; have n0_ := Aside0.mk (below_step (by repeat (first | (with_reducible first | exact HB.out | apply below_alloc | apply pw_below_drewN | apply below_drew1) | exact HB.out)) hb); have n1_ := Aside0.mk (hbox); have n2_ := Aside0.mk ((by rw [hg]; exact (below_size (by repeat (first | (with_reducible first | exact HB.out | apply below_alloc | apply pw_below_drewN | apply below_drew1) | exact HB.out))) : w.heap.size ≤ gb132)); have n3_ := Aside0.mk ((by rw [hg]; exact (below_size (by repeat (first | (with_reducible first | exact HB.out | apply below_alloc | apply pw_below_drewN | apply below_drew1) | exact HB.out))) : w.heap.size ≤ gb132)); clear HB; have HB := n0_; have BK132 := n1_; have GW132 := n2_; have GE132 := n3_; clear n0_ n1_ n2_ n3_; clear hb hbox hg; have hcz15_0 : w14.cell? ⟨gb132, 0, none⟩ = some (.int .u64 a0_0) := (blk_cell BK132.out 0).trans rfl; have hcz15_1 : w14.cell? ⟨gb132, 1, none⟩ = some (.int .u64 a0_1) := (blk_cell BK132.out 1).trans rfl; have hcz15_2 : w14.cell? ⟨gb132, 2, none⟩ = some (.int .u64 a0_2) := (blk_cell BK132.out 2).trans rfl; have hcz15_3 : w14.cell? ⟨gb132, 3, none⟩ = some (.int .u64 a0_3) := (blk_cell BK132.out 3).trans rfl; have hfz15_0 := blk_frozen BK132.out 0; have hfz15_1 := blk_frozen BK132.out 1; have hfz15_2 := blk_frozen BK132.out 2; have hfz15_3 := blk_frozen BK132.out 3) | ((with_reducible refine gate_callee (f := 108) rfl ?_); refine goesL_ (some 16) rfl rfl Try.func108 (by kernel_rfl) rfl #[.int .u64 a0_2] rfl (by (try simp only [List.map_toArray, List.map_cons, List.map_nil]); first | done | rfl | (simp only [List.length_drop, List.length_take]; rfl)) ?_; (with_reducible refine (varveref02_Kind.calls k a0_2 t133 _ A8.out).mono ?_); rintro e w' ⟨rfl, ⟨nd, rfl⟩⟩; refine ⟨_, rfl, ?_⟩) | (go_at_call 108; (with_reducible refine (varveref02_Kind.calls k a0_3 t134 _ A12.out).mono ?_); rintro e w' ⟨rfl, ⟨nd, rfl⟩⟩))
        go_ret
        exact ⟨by first | rfl | (simp [errW_none, errW_some] <;> rfl) | (simp [*, errW_none, errW_some] <;> rfl), by repeat (first | (with_reducible first | exact HB.out | apply below_alloc | apply pw_below_drewN | apply below_drew1 | refine below_set ?_ GE132.out) | exact HB.out)⟩
      · rw [if_neg c13] at H
        have c13b0 : (t134 == 4) = false := beq_eq_false_iff_ne.mpr c13
        have c13b1 : (t134 != 4) = true := bne_iff_ne.mpr c13
        replace H := Option.bind_eq_some_iff.mp H
        obtain ⟨t135, A160, H⟩ := H
        replace H : (some (!t135)) = some r := H
        have A16 := Aside0.mk A160
        clear A160
        obtain rfl := Option.some.inj H
        go_enter Try.func80, Try.ntmps80
        go_wp2_with (first | ((with_reducible refine gate_dst (N := 1) rfl ?_); refine box_event ?hg (N := 1) ?hd (cs := #[.int .u64 a0_0, .int .u64 a0_1, .int .u64 a0_2, .int .u64 a0_3]) (t := 43) ?hr ?_; (case hd => rfl); (case hg => rfl); (case hr => first | (go_simp; done) | (go_simp; rfl)); intro gb132 hg w17 hbox hb; have n0_ := Aside0.mk (below_step (by repeat (first | (with_reducible first | exact HB.out | apply below_alloc | apply pw_below_drewN | apply below_drew1) | exact HB.out)) hb); have n1_ := Aside0.mk (hbox); have n2_ := Aside0.mk ((by rw [hg]; exact (below_size (by repeat (first | (with_reducible first | exact HB.out | apply below_alloc | apply pw_below_drewN | apply below_drew1) | exact HB.out))) : w.heap.size ≤ gb132)); have n3_ := Aside0.mk ((by rw [hg]; exact (below_size (by repeat (first | (with_reducible first | exact HB.out | apply below_alloc | apply pw_below_drewN | apply below_drew1) | exact HB.out))) : w.heap.size ≤ gb132)); clear HB; have HB := n0_; have BK132 := n1_; have GW132 := n2_; have GE132 := n3_; clear n0_ n1_ n2_ n3_; clear hb hbox hg; have hcz18_0 : w17.cell? ⟨gb132, 0, none⟩ = some (.int .u64 a0_0) := (blk_cell BK132.out 0).trans rfl; have hcz18_1 : w17.cell? ⟨gb132, 1, none⟩ = some (.int .u64 a0_1) := (blk_cell BK132.out 1).trans rfl; have hcz18_2 : w17.cell? ⟨gb132, 2, none⟩ = some (.int .u64 a0_2) := (blk_cell BK132.out 2).trans rfl; have hcz18_3 : w17.cell? ⟨gb132, 3, none⟩ = some (.int .u64 a0_3) := (blk_cell BK132.out 3).trans rfl; have hfz18_0 := blk_frozen BK132.out 0; have hfz18_1 := blk_frozen BK132.out 1; have hfz18_2 := blk_frozen BK132.out 2; have hfz18_3 := blk_frozen BK132.out 3) | ((with_reducible refine gate_callee (f := 108) rfl ?_); refine goesL_ (some 16) rfl rfl Try.func108 (by kernel_rfl) rfl #[.int .u64 a0_2] rfl (by (try simp only [List.map_toArray, List.map_cons, List.map_nil]); first | done | rfl | (simp only [List.length_drop, List.length_take]; rfl)) ?_; (with_reducible refine (varveref02_Kind.calls k a0_2 t133 _ A8.out).mono ?_); rintro e w' ⟨rfl, ⟨nd, rfl⟩⟩; refine ⟨_, rfl, ?_⟩) | (go_at_call 108; (with_reducible refine (varveref02_Kind.calls k a0_3 t134 _ A12.out).mono ?_); rintro e w' ⟨rfl, ⟨nd, rfl⟩⟩) | (go_at_call 113; (with_reducible refine (varveref02_Less.calls k a0_3 a0_2 t135 _ A16.out).mono ?_); rintro e w' ⟨rfl, ⟨nd, rfl⟩⟩))
        go_ret
        exact ⟨by first | rfl | (simp [errW_none, errW_some] <;> rfl) | (simp [*, errW_none, errW_some] <;> rfl), by repeat (first | (with_reducible first | exact HB.out | apply below_alloc | apply pw_below_drewN | apply below_drew1 | refine below_set ?_ GE132.out) | exact HB.out)⟩
def pair_Empty.f (l0_0 : List (S68)) (l0_1 : List Int) (a0_2 : Int) (a0_3 : Int) (a0_4 : Int) (a0_5 : Int) : Option (Bool) := if (l0_0.length : Int) = 0 then (if (l0_1.length : Int) = 0 then (if a0_2 = 0 then (some (a0_3 == 0)) else (some false)) else (some false)) else (some false)
set_option maxHeartbeats 8000000 in
set_option maxRecDepth 100000 in
theorem pair_Empty.calls (A0_0 : Option Addr) (c0_0 : Nat) (l0_0 : List (S68)) (A0_1 : Option Addr) (c0_1 : Nat) (l0_1 : List Int) (a0_2 : Int) (a0_3 : Int) (a0_4 : Int) (a0_5 : Int) (r : Bool) (w : World) (hr0_0 : Kd.C k68 w A0_0 l0_0.length l0_0) (hc0_0 : l0_0.length ≤ c0_0) (hr0_1 : Kd.C (Kd.int .u64) w A0_1 l0_1.length l0_1) (hc0_1 : l0_1.length ≤ c0_1) (h : pair_Empty.f l0_0 l0_1 a0_2 a0_3 a0_4 a0_5 = some r) :
    Calls Try.prog 30 #[.agg #[.slice A0_0 l0_0.length c0_0, .slice A0_1 l0_1.length c0_1, .int .u64 a0_2, .int .u64 a0_3, .int .u64 a0_4, .int .u64 a0_5]] w fun e w' => e = .returned (.bool r) ∧ Below w.heap.size w w' := by
  have hu45 := Try.underlying45
  have HR0_0 := Aside0.mk hr0_0
  have HC0_0 := Aside0.mk hc0_0
  clear hr0_0 hc0_0
  have HR0_1 := Aside0.mk hr0_1
  have HC0_1 := Aside0.mk hc0_1
  clear hr0_1 hc0_1
  have HB := Aside0.mk (Below.refl w.heap.size w)
  have H : (if (l0_0.length : Int) = 0 then (if (l0_1.length : Int) = 0 then (if a0_2 = 0 then (some (a0_3 == 0)) else (some false)) else (some false)) else (some false)) = some r := h
  clear h
  by_cases c2 : (l0_0.length : Int) = 0
  · rw [if_pos c2] at H
    have c2b0 : ((l0_0.length : Int) == 0) = true := beq_iff_eq.mpr c2
    have c2b1 : ((l0_0.length : Int) != 0) = false := bne_eq_false_iff_eq.mpr c2
    clear c2
    by_cases c3 : (l0_1.length : Int) = 0
    · rw [if_pos c3] at H
      have c3b0 : ((l0_1.length : Int) == 0) = true := beq_iff_eq.mpr c3
      have c3b1 : ((l0_1.length : Int) != 0) = false := bne_eq_false_iff_eq.mpr c3
      clear c3
      by_cases c4 : a0_2 = 0
      · rw [if_pos c4] at H
        have c4b0 : (a0_2 == 0) = true := beq_iff_eq.mpr c4
        have c4b1 : (a0_2 != 0) = false := bne_eq_false_iff_eq.mpr c4
        clear c4
        obtain rfl := Option.some.inj H
        go_enter Try.func30, Try.ntmps30
        go_wp2_with (first | ((with_reducible refine gate_dst (N := 1) rfl ?_); (try (refine gate_guard (by rfl) ?_; dsimp only)); refine box_event ?hg (N := 1) ?hd (cs := #[.slice A0_0 l0_0.length c0_0, .slice A0_1 l0_1.length c0_1, .int .u64 a0_2, .int .u64 a0_3, .int .u64 a0_4, .int .u64 a0_5]) (t := 45) ?hr ?_; (case hd => rfl); (case hg => rfl); (case hr => first | (go_simp; done) | (go_simp; rfl)); intro gb136 hg w5 hbox hb; have n0_ := Aside0.mk (below_step (by repeat (first | (with_reducible first | exact HB.out | apply below_alloc | apply pw_below_drewN | apply below_drew1) | exact HB.out)) hb); have n1_ := Aside0.mk (hbox); have n2_ := Aside0.mk ((by rw [hg]; exact (below_size (by repeat (first | (with_reducible first | exact HB.out | apply below_alloc | apply pw_below_drewN | apply below_drew1) | exact HB.out))) : w.heap.size ≤ gb136)); have n3_ := Aside0.mk ((by rw [hg]; exact (below_size (by repeat (first | (with_reducible first | exact HB.out | apply below_alloc | apply pw_below_drewN | apply below_drew1) | exact HB.out))) : w.heap.size ≤ gb136)); clear HB; have HB := n0_; have BK136 := n1_; have GW136 := n2_; have GE136 := n3_; clear n0_ n1_ n2_ n3_; clear hb hbox hg; have hcz6_0 : w5.cell? ⟨gb136, 0, none⟩ = some (.slice A0_0 l0_0.length c0_0) := (blk_cell BK136.out 0).trans rfl; have hcz6_1 : w5.cell? ⟨gb136, 1, none⟩ = some (.slice A0_1 l0_1.length c0_1) := (blk_cell BK136.out 1).trans rfl; have hcz6_2 : w5.cell? ⟨gb136, 2, none⟩ = some (.int .u64 a0_2) := (blk_cell BK136.out 2).trans rfl; have hcz6_3 : w5.cell? ⟨gb136, 3, none⟩ = some (.int .u64 a0_3) := (blk_cell BK136.out 3).trans rfl; have hcz6_4 : w5.cell? ⟨gb136, 4, none⟩ = some (.int .u64 a0_4) := (blk_cell BK136.out 4).trans rfl; have hcz6_5 : w5.cell? ⟨gb136, 5, none⟩ = some (.int .u64 a0_5) := (blk_cell BK136.out 5).trans rfl; have hfz6_0 := blk_frozen BK136.out 0; have hfz6_1 := blk_frozen BK136.out 1; have hfz6_2 := blk_frozen BK136.out 2; have hfz6_3 := blk_frozen BK136.out 3; have hfz6_4 := blk_frozen BK136.out 4; have hfz6_5 := blk_frozen BK136.out 5))
        go_ret
        exact ⟨by first | rfl | (simp [errW_none, errW_some] <;> rfl) | (simp [*, errW_none, errW_some] <;> rfl), by repeat (first | (with_reducible first | exact HB.out | apply below_alloc | apply pw_below_drewN | apply below_drew1 | refine below_set ?_ GE136.out) | exact HB.out)⟩
      · rw [if_neg c4] at H
        have c4b0 : (a0_2 == 0) = false := beq_eq_false_iff_ne.mpr c4
        have c4b1 : (a0_2 != 0) = true := bne_iff_ne.mpr c4
        obtain rfl := Option.some.inj H
        go_enter Try.func30, Try.ntmps30
        go_wp2_with (first | ((with_reducible refine gate_dst (N := 1) rfl ?_); (try (refine gate_guard (by rfl) ?_; dsimp only)); refine box_event ?hg (N := 1) ?hd (cs := #[.slice A0_0 l0_0.length c0_0, .slice A0_1 l0_1.length c0_1, .int .u64 a0_2, .int .u64 a0_3, .int .u64 a0_4, .int .u64 a0_5]) (t := 45) ?hr ?_; (case hd => rfl); (case hg => rfl); (case hr => first | (go_simp; done) | (go_simp; rfl)); intro gb136 hg w7 hbox hb; have n0_ := Aside0.mk (below_step (by repeat (first | (with_reducible first | exact HB.out | apply below_alloc | apply pw_below_drewN | apply below_drew1) | exact HB.out)) hb); have n1_ := Aside0.mk (hbox); have n2_ := Aside0.mk ((by rw [hg]; exact (below_size (by repeat (first | (with_reducible first | exact HB.out | apply below_alloc | apply pw_below_drewN | apply below_drew1) | exact HB.out))) : w.heap.size ≤ gb136)); have n3_ := Aside0.mk ((by rw [hg]; exact (below_size (by repeat (first | (with_reducible first | exact HB.out | apply below_alloc | apply pw_below_drewN | apply below_drew1) | exact HB.out))) : w.heap.size ≤ gb136)); clear HB; have HB := n0_; have BK136 := n1_; have GW136 := n2_; have GE136 := n3_; clear n0_ n1_ n2_ n3_; clear hb hbox hg; have hcz8_0 : w7.cell? ⟨gb136, 0, none⟩ = some (.slice A0_0 l0_0.length c0_0) := (blk_cell BK136.out 0).trans rfl; have hcz8_1 : w7.cell? ⟨gb136, 1, none⟩ = some (.slice A0_1 l0_1.length c0_1) := (blk_cell BK136.out 1).trans rfl; have hcz8_2 : w7.cell? ⟨gb136, 2, none⟩ = some (.int .u64 a0_2) := (blk_cell BK136.out 2).trans rfl; have hcz8_3 : w7.cell? ⟨gb136, 3, none⟩ = some (.int .u64 a0_3) := (blk_cell BK136.out 3).trans rfl; have hcz8_4 : w7.cell? ⟨gb136, 4, none⟩ = some (.int .u64 a0_4) := (blk_cell BK136.out 4).trans rfl; have hcz8_5 : w7.cell? ⟨gb136, 5, none⟩ = some (.int .u64 a0_5) := (blk_cell BK136.out 5).trans rfl; have hfz8_0 := blk_frozen BK136.out 0; have hfz8_1 := blk_frozen BK136.out 1; have hfz8_2 := blk_frozen BK136.out 2; have hfz8_3 := blk_frozen BK136.out 3; have hfz8_4 := blk_frozen BK136.out 4; have hfz8_5 := blk_frozen BK136.out 5))
        go_ret
        exact ⟨by first | rfl | (simp [errW_none, errW_some] <;> rfl) | (simp [*, errW_none, errW_some] <;> rfl), by repeat (first | (with_reducible first | exact HB.out | apply below_alloc | apply pw_below_drewN | apply below_drew1 | refine below_set ?_ GE136.out) | exact HB.out)⟩
    · rw [if_neg c3] at H
      have c3b0 : ((l0_1.length : Int) == 0) = false := beq_eq_false_iff_ne.mpr c3
      have c3b1 : ((l0_1.length : Int) != 0) = true := bne_iff_ne.mpr c3
      have c3b2 : ¬ (l0_1 = []) := fun h_ => c3 (by rw [h_]; rfl)
      obtain rfl := Option.some.inj H
      go_enter Try.func30, Try.ntmps30
      go_wp2_with (first | ((with_reducible refine gate_dst (N := 1) rfl ?_); (try (refine gate_guard (by rfl) ?_; dsimp only)); refine box_event ?hg (N := 1) ?hd (cs := #[.slice A0_0 l0_0.length c0_0, .slice A0_1 l0_1.length c0_1, .int .u64 a0_2, .int .u64 a0_3, .int .u64 a0_4, .int .u64 a0_5]) (t := 45) ?hr ?_; (case hd => rfl); (case hg => rfl); (case hr => first | (go_simp; done) | (go_simp; rfl)); intro gb136 hg w9 hbox hb; have n0_ := Aside0.mk (below_step (by repeat (first | (with_reducible first | exact HB.out | apply below_alloc | apply pw_below_drewN | apply below_drew1) | exact HB.out)) hb); have n1_ := Aside0.mk (hbox); have n2_ := Aside0.mk ((by rw [hg]; exact (below_size (by repeat (first | (with_reducible first | exact HB.out | apply below_alloc | apply pw_below_drewN | apply below_drew1) | exact HB.out))) : w.heap.size ≤ gb136)); have n3_ := Aside0.mk ((by rw [hg]; exact (below_size (by repeat (first | (with_reducible first | exact HB.out | apply below_alloc | apply pw_below_drewN | apply below_drew1) | exact HB.out))) : w.heap.size ≤ gb136)); clear HB; have HB := n0_; have BK136 := n1_; have GW136 := n2_; have GE136 := n3_; clear n0_ n1_ n2_ n3_; clear hb hbox hg; have hcz10_0 : w9.cell? ⟨gb136, 0, none⟩ = some (.slice A0_0 l0_0.length c0_0) := (blk_cell BK136.out 0).trans rfl; have hcz10_1 : w9.cell? ⟨gb136, 1, none⟩ = some (.slice A0_1 l0_1.length c0_1) := (blk_cell BK136.out 1).trans rfl; have hcz10_2 : w9.cell? ⟨gb136, 2, none⟩ = some (.int .u64 a0_2) := (blk_cell BK136.out 2).trans rfl; have hcz10_3 : w9.cell? ⟨gb136, 3, none⟩ = some (.int .u64 a0_3) := (blk_cell BK136.out 3).trans rfl; have hcz10_4 : w9.cell? ⟨gb136, 4, none⟩ = some (.int .u64 a0_4) := (blk_cell BK136.out 4).trans rfl; have hcz10_5 : w9.cell? ⟨gb136, 5, none⟩ = some (.int .u64 a0_5) := (blk_cell BK136.out 5).trans rfl; have hfz10_0 := blk_frozen BK136.out 0; have hfz10_1 := blk_frozen BK136.out 1; have hfz10_2 := blk_frozen BK136.out 2; have hfz10_3 := blk_frozen BK136.out 3; have hfz10_4 := blk_frozen BK136.out 4; have hfz10_5 := blk_frozen BK136.out 5))
      go_ret
      exact ⟨by first | rfl | (simp [errW_none, errW_some] <;> rfl) | (simp [*, errW_none, errW_some] <;> rfl), by repeat (first | (with_reducible first | exact HB.out | apply below_alloc | apply pw_below_drewN | apply below_drew1 | refine below_set ?_ GE136.out) | exact HB.out)⟩
  · rw [if_neg c2] at H
    have c2b0 : ((l0_0.length : Int) == 0) = false := beq_eq_false_iff_ne.mpr c2
    have c2b1 : ((l0_0.length : Int) != 0) = true := bne_iff_ne.mpr c2
    have c2b2 : ¬ (l0_0 = []) := fun h_ => c2 (by rw [h_]; rfl)
    obtain rfl := Option.some.inj H
    go_enter Try.func30, Try.ntmps30
    go_wp2_with (first | ((with_reducible refine gate_dst (N := 1) rfl ?_); (try (refine gate_guard (by rfl) ?_; dsimp only)); refine box_event ?hg (N := 1) ?hd (cs := #[.slice A0_0 l0_0.length c0_0, .slice A0_1 l0_1.length c0_1, .int .u64 a0_2, .int .u64 a0_3, .int .u64 a0_4, .int .u64 a0_5]) (t := 45) ?hr ?_; (case hd => rfl); (case hg => rfl); (case hr => first | (go_simp; done) | (go_simp; rfl)); intro gb136 hg w11 hbox hb; have n0_ := Aside0.mk (below_step (by repeat (first | (with_reducible first | exact HB.out | apply below_alloc | apply pw_below_drewN | apply below_drew1) | exact HB.out)) hb); have n1_ := Aside0.mk (hbox); have n2_ := Aside0.mk ((by rw [hg]; exact (below_size (by repeat (first | (with_reducible first | exact HB.out | apply below_alloc | apply pw_below_drewN | apply below_drew1) | exact HB.out))) : w.heap.size ≤ gb136)); have n3_ := Aside0.mk ((by rw [hg]; exact (below_size (by repeat (first | (with_reducible first | exact HB.out | apply below_alloc | apply pw_below_drewN | apply below_drew1) | exact HB.out))) : w.heap.size ≤ gb136)); clear HB; have HB := n0_; have BK136 := n1_; have GW136 := n2_; have GE136 := n3_; clear n0_ n1_ n2_ n3_; clear hb hbox hg; have hcz12_0 : w11.cell? ⟨gb136, 0, none⟩ = some (.slice A0_0 l0_0.length c0_0) := (blk_cell BK136.out 0).trans rfl; have hcz12_1 : w11.cell? ⟨gb136, 1, none⟩ = some (.slice A0_1 l0_1.length c0_1) := (blk_cell BK136.out 1).trans rfl; have hcz12_2 : w11.cell? ⟨gb136, 2, none⟩ = some (.int .u64 a0_2) := (blk_cell BK136.out 2).trans rfl; have hcz12_3 : w11.cell? ⟨gb136, 3, none⟩ = some (.int .u64 a0_3) := (blk_cell BK136.out 3).trans rfl; have hcz12_4 : w11.cell? ⟨gb136, 4, none⟩ = some (.int .u64 a0_4) := (blk_cell BK136.out 4).trans rfl; have hcz12_5 : w11.cell? ⟨gb136, 5, none⟩ = some (.int .u64 a0_5) := (blk_cell BK136.out 5).trans rfl; have hfz12_0 := blk_frozen BK136.out 0; have hfz12_1 := blk_frozen BK136.out 1; have hfz12_2 := blk_frozen BK136.out 2; have hfz12_3 := blk_frozen BK136.out 3; have hfz12_4 := blk_frozen BK136.out 4; have hfz12_5 := blk_frozen BK136.out 5))
    go_ret
    exact ⟨by first | rfl | (simp [errW_none, errW_some] <;> rfl) | (simp [*, errW_none, errW_some] <;> rfl), by repeat (first | (with_reducible first | exact HB.out | apply below_alloc | apply pw_below_drewN | apply below_drew1 | refine below_set ?_ GE136.out) | exact HB.out)⟩
def varveref10_Empty.f (l0_0 : List (S68)) (l0_1 : List Int) (a0_2 : Int) (a0_3 : Int) (a0_4 : Int) (a0_5 : Int) : Option (Bool) := if (l0_0.length : Int) = 0 then (if (l0_1.length : Int) = 0 then (if a0_2 = 0 then (some (a0_3 == 0)) else (some false)) else (some false)) else (some false)
set_option maxHeartbeats 8000000 in
set_option maxRecDepth 100000 in
theorem varveref10_Empty.calls (A0_0 : Option Addr) (c0_0 : Nat) (l0_0 : List (S68)) (A0_1 : Option Addr) (c0_1 : Nat) (l0_1 : List Int) (a0_2 : Int) (a0_3 : Int) (a0_4 : Int) (a0_5 : Int) (r : Bool) (w : World) (hr0_0 : Kd.C k68 w A0_0 l0_0.length l0_0) (hc0_0 : l0_0.length ≤ c0_0) (hr0_1 : Kd.C (Kd.int .u64) w A0_1 l0_1.length l0_1) (hc0_1 : l0_1.length ≤ c0_1) (h : varveref10_Empty.f l0_0 l0_1 a0_2 a0_3 a0_4 a0_5 = some r) :
    Calls Try.prog 41 #[.agg #[.slice A0_0 l0_0.length c0_0, .slice A0_1 l0_1.length c0_1, .int .u64 a0_2, .int .u64 a0_3, .int .u64 a0_4, .int .u64 a0_5]] w fun e w' => e = .returned (.bool r) ∧ Below w.heap.size w w' := by
  have hu45 := Try.underlying45
  have HR0_0 := Aside0.mk hr0_0
  have HC0_0 := Aside0.mk hc0_0
  clear hr0_0 hc0_0
  have HR0_1 := Aside0.mk hr0_1
  have HC0_1 := Aside0.mk hc0_1
  clear hr0_1 hc0_1
  have HB := Aside0.mk (Below.refl w.heap.size w)
  have H : (if (l0_0.length : Int) = 0 then (if (l0_1.length : Int) = 0 then (if a0_2 = 0 then (some (a0_3 == 0)) else (some false)) else (some false)) else (some false)) = some r := h
  clear h
  by_cases c2 : (l0_0.length : Int) = 0
  · rw [if_pos c2] at H
    have c2b0 : ((l0_0.length : Int) == 0) = true := beq_iff_eq.mpr c2
    have c2b1 : ((l0_0.length : Int) != 0) = false := bne_eq_false_iff_eq.mpr c2
    clear c2
    by_cases c3 : (l0_1.length : Int) = 0
    · rw [if_pos c3] at H
      have c3b0 : ((l0_1.length : Int) == 0) = true := beq_iff_eq.mpr c3
      have c3b1 : ((l0_1.length : Int) != 0) = false := bne_eq_false_iff_eq.mpr c3
      clear c3
      by_cases c4 : a0_2 = 0
      · rw [if_pos c4] at H
        have c4b0 : (a0_2 == 0) = true := beq_iff_eq.mpr c4
        have c4b1 : (a0_2 != 0) = false := bne_eq_false_iff_eq.mpr c4
        clear c4
        obtain rfl := Option.some.inj H
        go_enter Try.func41, Try.ntmps41
        go_wp2_with (first | ((with_reducible refine gate_dst (N := 1) rfl ?_); (try (refine gate_guard (by rfl) ?_; dsimp only)); refine box_event ?hg (N := 1) ?hd (cs := #[.slice A0_0 l0_0.length c0_0, .slice A0_1 l0_1.length c0_1, .int .u64 a0_2, .int .u64 a0_3, .int .u64 a0_4, .int .u64 a0_5]) (t := 45) ?hr ?_; (case hd => rfl); (case hg => rfl); (case hr => first | (go_simp; done) | (go_simp; rfl)); intro gb137 hg w5 hbox hb; have n0_ := Aside0.mk (below_step (by repeat (first | (with_reducible first | exact HB.out | apply below_alloc | apply pw_below_drewN | apply below_drew1) | exact HB.out)) hb); have n1_ := Aside0.mk (hbox); have n2_ := Aside0.mk ((by rw [hg]; exact (below_size (by repeat (first | (with_reducible first | exact HB.out | apply below_alloc | apply pw_below_drewN | apply below_drew1) | exact HB.out))) : w.heap.size ≤ gb137)); have n3_ := Aside0.mk ((by rw [hg]; exact (below_size (by repeat (first | (with_reducible first | exact HB.out | apply below_alloc | apply pw_below_drewN | apply below_drew1) | exact HB.out))) : w.heap.size ≤ gb137)); clear HB; have HB := n0_; have BK137 := n1_; have GW137 := n2_; have GE137 := n3_; clear n0_ n1_ n2_ n3_; clear hb hbox hg; have hcz6_0 : w5.cell? ⟨gb137, 0, none⟩ = some (.slice A0_0 l0_0.length c0_0) := (blk_cell BK137.out 0).trans rfl; have hcz6_1 : w5.cell? ⟨gb137, 1, none⟩ = some (.slice A0_1 l0_1.length c0_1) := (blk_cell BK137.out 1).trans rfl; have hcz6_2 : w5.cell? ⟨gb137, 2, none⟩ = some (.int .u64 a0_2) := (blk_cell BK137.out 2).trans rfl; have hcz6_3 : w5.cell? ⟨gb137, 3, none⟩ = some (.int .u64 a0_3) := (blk_cell BK137.out 3).trans rfl; have hcz6_4 : w5.cell? ⟨gb137, 4, none⟩ = some (.int .u64 a0_4) := (blk_cell BK137.out 4).trans rfl; have hcz6_5 : w5.cell? ⟨gb137, 5, none⟩ = some (.int .u64 a0_5) := (blk_cell BK137.out 5).trans rfl; have hfz6_0 := blk_frozen BK137.out 0; have hfz6_1 := blk_frozen BK137.out 1; have hfz6_2 := blk_frozen BK137.out 2; have hfz6_3 := blk_frozen BK137.out 3; have hfz6_4 := blk_frozen BK137.out 4; have hfz6_5 := blk_frozen BK137.out 5))
        go_ret
        exact ⟨by first | rfl | (simp [errW_none, errW_some] <;> rfl) | (simp [*, errW_none, errW_some] <;> rfl), by repeat (first | (with_reducible first | exact HB.out | apply below_alloc | apply pw_below_drewN | apply below_drew1 | refine below_set ?_ GE137.out) | exact HB.out)⟩
      · rw [if_neg c4] at H
        have c4b0 : (a0_2 == 0) = false := beq_eq_false_iff_ne.mpr c4
        have c4b1 : (a0_2 != 0) = true := bne_iff_ne.mpr c4
        obtain rfl := Option.some.inj H
        go_enter Try.func41, Try.ntmps41
        go_wp2_with (first | ((with_reducible refine gate_dst (N := 1) rfl ?_); (try (refine gate_guard (by rfl) ?_; dsimp only)); refine box_event ?hg (N := 1) ?hd (cs := #[.slice A0_0 l0_0.length c0_0, .slice A0_1 l0_1.length c0_1, .int .u64 a0_2, .int .u64 a0_3, .int .u64 a0_4, .int .u64 a0_5]) (t := 45) ?hr ?_; (case hd => rfl); (case hg => rfl); (case hr => first | (go_simp; done) | (go_simp; rfl)); intro gb137 hg w7 hbox hb; have n0_ := Aside0.mk (below_step (by repeat (first | (with_reducible first | exact HB.out | apply below_alloc | apply pw_below_drewN | apply below_drew1) | exact HB.out)) hb); have n1_ := Aside0.mk (hbox); have n2_ := Aside0.mk ((by rw [hg]; exact (below_size (by repeat (first | (with_reducible first | exact HB.out | apply below_alloc | apply pw_below_drewN | apply below_drew1) | exact HB.out))) : w.heap.size ≤ gb137)); have n3_ := Aside0.mk ((by rw [hg]; exact (below_size (by repeat (first | (with_reducible first | exact HB.out | apply below_alloc | apply pw_below_drewN | apply below_drew1) | exact HB.out))) : w.heap.size ≤ gb137)); clear HB; have HB := n0_; have BK137 := n1_; have GW137 := n2_; have GE137 := n3_; clear n0_ n1_ n2_ n3_; clear hb hbox hg; have hcz8_0 : w7.cell? ⟨gb137, 0, none⟩ = some (.slice A0_0 l0_0.length c0_0) := (blk_cell BK137.out 0).trans rfl; have hcz8_1 : w7.cell? ⟨gb137, 1, none⟩ = some (.slice A0_1 l0_1.length c0_1) := (blk_cell BK137.out 1).trans rfl; have hcz8_2 : w7.cell? ⟨gb137, 2, none⟩ = some (.int .u64 a0_2) := (blk_cell BK137.out 2).trans rfl; have hcz8_3 : w7.cell? ⟨gb137, 3, none⟩ = some (.int .u64 a0_3) := (blk_cell BK137.out 3).trans rfl; have hcz8_4 : w7.cell? ⟨gb137, 4, none⟩ = some (.int .u64 a0_4) := (blk_cell BK137.out 4).trans rfl; have hcz8_5 : w7.cell? ⟨gb137, 5, none⟩ = some (.int .u64 a0_5) := (blk_cell BK137.out 5).trans rfl; have hfz8_0 := blk_frozen BK137.out 0; have hfz8_1 := blk_frozen BK137.out 1; have hfz8_2 := blk_frozen BK137.out 2; have hfz8_3 := blk_frozen BK137.out 3; have hfz8_4 := blk_frozen BK137.out 4; have hfz8_5 := blk_frozen BK137.out 5))
        go_ret
        exact ⟨by first | rfl | (simp [errW_none, errW_some] <;> rfl) | (simp [*, errW_none, errW_some] <;> rfl), by repeat (first | (with_reducible first | exact HB.out | apply below_alloc | apply pw_below_drewN | apply below_drew1 | refine below_set ?_ GE137.out) | exact HB.out)⟩
    · rw [if_neg c3] at H
      have c3b0 : ((l0_1.length : Int) == 0) = false := beq_eq_false_iff_ne.mpr c3
      have c3b1 : ((l0_1.length : Int) != 0) = true := bne_iff_ne.mpr c3
      have c3b2 : ¬ (l0_1 = []) := fun h_ => c3 (by rw [h_]; rfl)
      obtain rfl := Option.some.inj H
      go_enter Try.func41, Try.ntmps41
      go_wp2_with (first | ((with_reducible refine gate_dst (N := 1) rfl ?_); (try (refine gate_guard (by rfl) ?_; dsimp only)); refine box_event ?hg (N := 1) ?hd (cs := #[.slice A0_0 l0_0.length c0_0, .slice A0_1 l0_1.length c0_1, .int .u64 a0_2, .int .u64 a0_3, .int .u64 a0_4, .int .u64 a0_5]) (t := 45) ?hr ?_; (case hd => rfl); (case hg => rfl); (case hr => first | (go_simp; done) | (go_simp; rfl)); intro gb137 hg w9 hbox hb; have n0_ := Aside0.mk (below_step (by repeat (first | (with_reducible first | exact HB.out | apply below_alloc | apply pw_below_drewN | apply below_drew1) | exact HB.out)) hb); have n1_ := Aside0.mk (hbox); have n2_ := Aside0.mk ((by rw [hg]; exact (below_size (by repeat (first | (with_reducible first | exact HB.out | apply below_alloc | apply pw_below_drewN | apply below_drew1) | exact HB.out))) : w.heap.size ≤ gb137)); have n3_ := Aside0.mk ((by rw [hg]; exact (below_size (by repeat (first | (with_reducible first | exact HB.out | apply below_alloc | apply pw_below_drewN | apply below_drew1) | exact HB.out))) : w.heap.size ≤ gb137)); clear HB; have HB := n0_; have BK137 := n1_; have GW137 := n2_; have GE137 := n3_; clear n0_ n1_ n2_ n3_; clear hb hbox hg; have hcz10_0 : w9.cell? ⟨gb137, 0, none⟩ = some (.slice A0_0 l0_0.length c0_0) := (blk_cell BK137.out 0).trans rfl; have hcz10_1 : w9.cell? ⟨gb137, 1, none⟩ = some (.slice A0_1 l0_1.length c0_1) := (blk_cell BK137.out 1).trans rfl; have hcz10_2 : w9.cell? ⟨gb137, 2, none⟩ = some (.int .u64 a0_2) := (blk_cell BK137.out 2).trans rfl; have hcz10_3 : w9.cell? ⟨gb137, 3, none⟩ = some (.int .u64 a0_3) := (blk_cell BK137.out 3).trans rfl; have hcz10_4 : w9.cell? ⟨gb137, 4, none⟩ = some (.int .u64 a0_4) := (blk_cell BK137.out 4).trans rfl; have hcz10_5 : w9.cell? ⟨gb137, 5, none⟩ = some (.int .u64 a0_5) := (blk_cell BK137.out 5).trans rfl; have hfz10_0 := blk_frozen BK137.out 0; have hfz10_1 := blk_frozen BK137.out 1; have hfz10_2 := blk_frozen BK137.out 2; have hfz10_3 := blk_frozen BK137.out 3; have hfz10_4 := blk_frozen BK137.out 4; have hfz10_5 := blk_frozen BK137.out 5))
      go_ret
      exact ⟨by first | rfl | (simp [errW_none, errW_some] <;> rfl) | (simp [*, errW_none, errW_some] <;> rfl), by repeat (first | (with_reducible first | exact HB.out | apply below_alloc | apply pw_below_drewN | apply below_drew1 | refine below_set ?_ GE137.out) | exact HB.out)⟩
  · rw [if_neg c2] at H
    have c2b0 : ((l0_0.length : Int) == 0) = false := beq_eq_false_iff_ne.mpr c2
    have c2b1 : ((l0_0.length : Int) != 0) = true := bne_iff_ne.mpr c2
    have c2b2 : ¬ (l0_0 = []) := fun h_ => c2 (by rw [h_]; rfl)
    obtain rfl := Option.some.inj H
    go_enter Try.func41, Try.ntmps41
    go_wp2_with (first | ((with_reducible refine gate_dst (N := 1) rfl ?_); (try (refine gate_guard (by rfl) ?_; dsimp only)); refine box_event ?hg (N := 1) ?hd (cs := #[.slice A0_0 l0_0.length c0_0, .slice A0_1 l0_1.length c0_1, .int .u64 a0_2, .int .u64 a0_3, .int .u64 a0_4, .int .u64 a0_5]) (t := 45) ?hr ?_; (case hd => rfl); (case hg => rfl); (case hr => first | (go_simp; done) | (go_simp; rfl)); intro gb137 hg w11 hbox hb; have n0_ := Aside0.mk (below_step (by repeat (first | (with_reducible first | exact HB.out | apply below_alloc | apply pw_below_drewN | apply below_drew1) | exact HB.out)) hb); have n1_ := Aside0.mk (hbox); have n2_ := Aside0.mk ((by rw [hg]; exact (below_size (by repeat (first | (with_reducible first | exact HB.out | apply below_alloc | apply pw_below_drewN | apply below_drew1) | exact HB.out))) : w.heap.size ≤ gb137)); have n3_ := Aside0.mk ((by rw [hg]; exact (below_size (by repeat (first | (with_reducible first | exact HB.out | apply below_alloc | apply pw_below_drewN | apply below_drew1) | exact HB.out))) : w.heap.size ≤ gb137)); clear HB; have HB := n0_; have BK137 := n1_; have GW137 := n2_; have GE137 := n3_; clear n0_ n1_ n2_ n3_; clear hb hbox hg; have hcz12_0 : w11.cell? ⟨gb137, 0, none⟩ = some (.slice A0_0 l0_0.length c0_0) := (blk_cell BK137.out 0).trans rfl; have hcz12_1 : w11.cell? ⟨gb137, 1, none⟩ = some (.slice A0_1 l0_1.length c0_1) := (blk_cell BK137.out 1).trans rfl; have hcz12_2 : w11.cell? ⟨gb137, 2, none⟩ = some (.int .u64 a0_2) := (blk_cell BK137.out 2).trans rfl; have hcz12_3 : w11.cell? ⟨gb137, 3, none⟩ = some (.int .u64 a0_3) := (blk_cell BK137.out 3).trans rfl; have hcz12_4 : w11.cell? ⟨gb137, 4, none⟩ = some (.int .u64 a0_4) := (blk_cell BK137.out 4).trans rfl; have hcz12_5 : w11.cell? ⟨gb137, 5, none⟩ = some (.int .u64 a0_5) := (blk_cell BK137.out 5).trans rfl; have hfz12_0 := blk_frozen BK137.out 0; have hfz12_1 := blk_frozen BK137.out 1; have hfz12_2 := blk_frozen BK137.out 2; have hfz12_3 := blk_frozen BK137.out 3; have hfz12_4 := blk_frozen BK137.out 4; have hfz12_5 := blk_frozen BK137.out 5))
    go_ret
    exact ⟨by first | rfl | (simp [errW_none, errW_some] <;> rfl) | (simp [*, errW_none, errW_some] <;> rfl), by repeat (first | (with_reducible first | exact HB.out | apply below_alloc | apply pw_below_drewN | apply below_drew1 | refine below_set ?_ GE137.out) | exact HB.out)⟩
end Go.Proofs.Ytncgjbocgbnkcaa.Ga
