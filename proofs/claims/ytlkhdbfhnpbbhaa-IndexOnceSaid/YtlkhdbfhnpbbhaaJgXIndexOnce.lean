/- The law IndexOnce over its Go text: a set has one number for ever; unlike sets have unlike ones. Conditions: how its arguments are read. -/
import Derived.Deep.RegionHeld3
import Derived.Test.YtlkhdbfhnpbbhaaJgM4
namespace Go.Proofs.Ytlkhdbfhnpbbhaa
set_option linter.unusedVariables false
set_option linter.unusedSimpArgs false
open Go.RowKit Go.Maps Go.Proofs.YtlkhdbfhnpbbhaaW.PrintWords Go.Proofs.YtlkhdbfhnpbbhaaW.PrintLast Go.Proofs.YtlkhdbfhnpbbhaaW.PrintMore Go.Proofs.Ytlkhdbfhnpbbhaa.Ix Go.Proofs.Ytlkhdbfhnpbbhaa.Tx Go.Proofs.Ytlkhdbfhnpbbhaa.Pure
/-- a set that is there -/
theorem idn_at {S : List (List LB)} {l : List LB} {p : Nat} (hk : chk l = true) (hr : rat S l = some p) : idn S l = (p : Int) ∧ ide l = 0 ∧ stepS S l = S ∧ rpos S l = (p : Int) ∧ rhas S l = true := by
  refine ⟨?_, ?_, ?_, ?_, ?_⟩
  · unfold idn; rw [if_pos hk, hr]
  · unfold ide; rw [if_pos hk]
  · unfold stepS; rw [if_neg (fun c => by rw [hr] at c; simp at c)]
  · unfold rpos; rw [hr]
  · unfold rhas; rw [hr]; rfl
theorem place_at (v n : Int) (hn : 0 < n) (hv : -100000 ≤ v ∧ v ≤ 100000) (hn2 : n ≤ 100000) : ∃ p : Nat, (p : Int) < n ∧ varvelaw00_Place.f v n = some (p : Int) := by
  have h1 := Int.tmod_lt_of_pos v hn
  have h2 : -n < Int.tmod v n := by
    have := Int.neg_tmod v n
    have h3 := Int.tmod_lt_of_pos (-v) hn
    omega
  unfold varvelaw00_Place.f
  rw [if_neg (by omega)]
  by_cases h : Int.tmod v n < 0
  · refine ⟨(Int.tmod v n + n).toNat, by omega, ?_⟩
    rw [if_pos h, w64 (by omega) (by omega)]
    congr 1; omega
  · refine ⟨(Int.tmod v n).toNat, by omega, ?_⟩
    rw [if_neg h]
    congr 1; omega
theorem Two.good {own : Nat → Prop} {w0 w : World} {kb mb gb : Nat} {S T : List (List LB)} (h : Two own w0 w kb mb gb S T) : ∀ s ∈ T, chk s = true := h.xr.good
set_option maxRecDepth 100000 in
set_option maxHeartbeats 8000000 in
theorem Pure.IndexOnce_walk (A0 : Option Addr) (c0 : Nat) (l0 : List (List LB)) (a1 : Int) (w : World) (C0 : (Kd.slice 41 k41).C w A0 l0.length l0) (m0 : l0.length ≤ c0) (w0 : WSs l0) (w1 : (Lit.int .i64 a1).wf = true) :
    Calls Try.prog 4 #[.slice A0 l0.length c0, .int .i64 a1] w fun e w' => e = .returned (.bool true) ∧ Below w.heap.size w w' := by
  have hS60 : (setsOf l0 (min l0.length 60)).length ≤ 60 := Nat.le_trans (setsOf_len _ _) (by omega)
  have hl := laid_u C0 m0 w0
  have hnd := setsOf_nodup l0 (min l0.length 60)
  obtain ⟨S, hS⟩ : ∃ S, setsOf l0 (min l0.length 60) = S := ⟨_, rfl⟩
  rw [hS] at hl hS60 hnd
  have HL := Lib.hid hl
  have HND := Lib.hid hnd
  have htm : -1000 < Int.tmod a1 1000 ∧ Int.tmod a1 1000 < 1000 := by
    have h1 := Int.tmod_lt_of_pos a1 (show (0 : Int) < 1000 by decide)
    have h2 := Int.tmod_lt_of_pos (-a1) (show (0 : Int) < 1000 by decide)
    have h3 := Int.neg_tmod a1 1000
    omega
  clear C0 m0 w0 hl hS hnd
  go_enter Try.func4, Try.ntmps4
  go_wp2_with (go_at_call 10; go_must (refine HL.out.mono ?_; rintro e w1 ⟨kb, mb, gb, rfl, hT⟩; have HT1 := Lib.hid hT; clear hT HL))
  go_loopw [8] (fun v8 wr => ∃ i : Nat, i ≤ S.length ∧ v8 = .int .i64 (i : Int) ∧ Two (fun _ => True) w wr kb mb gb S S) (fun v8 _ => S.length - (intOf v8).toNat)
  case atStart => exact ⟨0, Nat.zero_le _, rfl, HT1.out⟩
  case round =>
    obtain ⟨i, hi, rfl, hT⟩ := hrel
    clear HT1
    obtain ⟨Ax, cx, hcx, hlx, hCx⟩ := hT.row
    by_cases hlt : i < S.length
    · have e1 : decide ((i : Int) < (S.length : Int)) = true := decide_eq_true (by omega)
      have e2 : decide (i < S.length) = true := decide_eq_true hlt
      have hsum : IntKind.i64.wrap ((i : Int) + Int.tmod a1 1000) = (i : Int) + Int.tmod a1 1000 := IntWalk.i64_in _ (by omega)
      obtain ⟨p, hp, hpl⟩ := place_at ((i : Int) + Int.tmod a1 1000) (S.length : Int) (by omega) (by omega) (by omega)
      have hp2 : p < S.length := by omega
      obtain ⟨ax, A', c', rfl, hcell, hle, hC'⟩ := set_at hCx p hp2
      have hfine := hT.fine hp2
      have hrat := rat_at HND.out p hp2
      have hlab := fun (W : World) (h : Two (fun _ => True) w W kb mb gb S S) => ilabels_yes h.ix p hp2
      obtain ⟨x, hx⟩ : ∃ x, S.getD p [] = x := ⟨_, rfl⟩
      rw [hx] at hcell hle hC' hfine hrat hlab
      obtain ⟨f1, f2, f3, f4, f5⟩ := idn_at hfine.1 hrat
      have hx8 := hfine.2.1
      have hbe : Below wr.heap.size wr wr := Below.refl _ _
      have HT := Lib.hid (hT.below (below_drew (Below.refl _ _)))
      have HB := Lib.hid (below_drew hbe)
      have HPL := Lib.hid hpl
      have HLAB := Lib.hid hlab
      have HFI := Lib.hid hfine
      have HLE := Lib.hid hle
      have HC' := Lib.hid hC'
      have HCX := Lib.hid hcx
      have HCELL := Lib.hid hcell
      have HID := Lib.hid (fun (W : World) (h : Two (fun _ => True) w W kb mb gb S S) (A : Option Addr) (c : Nat) (hC : Kd.C k41 W A x.length x) (hc : x.length ≤ c) => show Calls Try.prog 22 #[.pointer (some ⟨kb, 0, none⟩), .slice A x.length c] W (fun e w' => e = .returned (.tuple #[.int .i64 (p : Int), .int .i64 0]) ∧ Below W.heap.size W w') from by
        have hn := numOf_rat h.ix.good hfine.1
        rw [hrat] at hn
        have := iid_found h.ix hC hc hfine.1 (by rw [hn]; simp)
        rw [hn] at this
        simpa using this)
      have HFD := Lib.hid (fun (W : World) (h : Two (fun _ => True) w W kb mb gb S S) (A : Option Addr) (c : Nat) (hC : Kd.C k41 W A x.length x) (hc : x.length ≤ c) => show Calls Try.prog 11 #[.pointer (some ⟨kb, 0, none⟩), .slice A x.length c] W (fun e w' => e = .returned (.tuple #[.int .i64 (p : Int), .bool true]) ∧ Below W.heap.size W w') from by
        have := ifind_yes h hC hc hfine.1
        rw [f4, f5] at this
        exact this)
      clear hpl hlab hfine hrat hx hle hC' hbe hT f1 f2 f3 f4 f5 hCx hcell
      go_wp2
      clear hcx
      go_region_held3 (fun w' => w'.cell? ⟨gb, 0, none⟩ = some (.slice (some ax) S.length cx) ∧ w'.cell? (ax.add p) = some (.slice A' x.length c'))
        (exact ⟨(HB.out.cell (World.block_lt_of_cell? _ _ HCX.out)).trans HCX.out, (HB.out.cell (World.block_lt_of_cell? _ _ HCELL.out)).trans HCELL.out⟩)
        (first | (go_at_call 21; (with_reducible refine (varvelaw00_Place.calls _ _ _ _ HPL.out).mono ?_); rintro e w6 ⟨rfl, hd⟩; have hT' := HT.out.below hd.below; have hB' := HB.out.trans (hd.below.mono HB.out.size); clear HT HB hd; have HT := Lib.hid hT'; have HB := Lib.hid hB'; clear hT' hB'))
      go_wp2_with (first
        | (go_at_call 12; go_must (refine (labels_any (Kd.C_below HC'.out HB.out) HLE.out (by omega)).mono ?_; rintro e w7 ⟨A7, c7, rfl, hr7, hb7⟩; have HR7 := Lib.hid (Kd.R_reads' hr7).2; have hT' := HT.out.below hb7; have hB' := HB.out.trans (hb7.mono HB.out.size); clear HT HB hr7 hb7; have HT := Lib.hid hT'; have HB := Lib.hid hB'; clear hT' hB'))
        | (go_at_call 22; go_must (refine (HID.out _ HT.out _ _ HR7.out.2 HR7.out.1).mono ?_; rintro e w8 ⟨rfl, hb8⟩; have hT' := HT.out.below hb8; have hB' := HB.out.trans (hb8.mono HB.out.size); clear HT HB hb8 HR7; have HT := Lib.hid hT'; have HB := Lib.hid hB'; clear hT' hB'))
        | (go_at_call 11; go_must (refine (HFD.out _ HT.out _ _ HR7.out.2 HR7.out.1).mono ?_; rintro e w8 ⟨rfl, hb8⟩; have hT' := HT.out.below hb8; have hB' := HB.out.trans (hb8.mono HB.out.size); clear HT HB hb8 HR7; have HT := Lib.hid hT'; have HB := Lib.hid hB'; clear hT' hB'))
        | (go_at_call 15; go_must (refine (HLAB.out _ HT.out).mono ?_; rintro e w6 ⟨A6, c6, rfl, hr6, hb6⟩; have HR6 := Lib.hid (Kd.R_reads' hr6).2; have hT' := HT.out.below hb6; have hB' := HB.out.trans (hb6.mono HB.out.size); clear HT HB hr6 hb6; have HT := Lib.hid hT'; have HB := Lib.hid hB'; clear hT' hB'))
        | (go_at_call 16; go_must (refine (sameL_any HR6.out.2 HR6.out.1 (Kd.C_below HC'.out HB.out) HLE.out (by omega)).mono ?_; rintro e w7 ⟨rfl, n7, rfl⟩; have hT' := HT.out.below (pw_below_drewN (Below.refl _ _) n7); clear HT; have HT := Lib.hid hT'; clear hT'; rw [decide_eq_true (rfl : x = x)])))
      go_roundw
      case rel => exact ⟨i + 1, hlt, by simp, HT.out⟩
      case measure => simp [intOf]; omega
    · obtain rfl : i = S.length := by omega
      have HT := Lib.hid (hT.below (below_drew (Below.refl _ _)))
      have HB := Lib.hid (below_drew (Below.refl wr.heap.size wr))
      have HCX := Lib.hid hcx
      clear hT hCx
      go_wp2
      clear hcx
      go_region_held3 (fun w' => w'.cell? ⟨gb, 0, none⟩ = some (.slice Ax S.length cx))
        (exact (HB.out.cell (World.block_lt_of_cell? _ _ HCX.out)).trans HCX.out)
        (first
          | (go_at_call 23; (with_reducible refine (ilen_u HT.out.ix).mono ?_); rintro e w6 ⟨rfl, rfl⟩)
          | (go_at_call 20; (with_reducible refine (iawake_u _).mono ?_); rintro e w9 ⟨rfl, hb9⟩; have hT' := HT.out.below hb9; have hB' := HB.out.trans (hb9.mono HB.out.size); clear HT HB hb9; have HT := Lib.hid hT'; have HB := Lib.hid hB'; clear hT' hB'))
      all_goals (
        go_wp2
        go_ret
        exact ⟨rfl, HT.out.bel⟩)
end Go.Proofs.Ytlkhdbfhnpbbhaa
