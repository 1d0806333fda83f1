/- The law IndexOwn over its Go text: what an index tells is new memory. Conditions: how its arguments are read. -/
import Derived.Deep.RegionHeld3
import Derived.Test.YtlkhdbfhnpbbhaaJgM4
namespace Go.Proofs.Ytlkhdbfhnpbbhaa
set_option linter.unusedVariables false
set_option linter.unusedSimpArgs false
open Go.RowKit Go.Maps Go.Proofs.YtlkhdbfhnpbbhaaW.PrintWords Go.Proofs.YtlkhdbfhnpbbhaaW.PrintLast Go.Proofs.YtlkhdbfhnpbbhaaW.PrintMore Go.Proofs.Ytlkhdbfhnpbbhaa.Ix Go.Proofs.Ytlkhdbfhnpbbhaa.Tx Go.Proofs.Ytlkhdbfhnpbbhaa.Pure
/-- A round of stores into a row of one's own that is none of the indexes'. -/
theorem Two.stored {own ok : Nat → Prop} {w0 w w' : World} {kb mb gb : Nat} {S T : List (List LB)} (h : Two own w0 w kb mb gb S T) {B g : Nat} (hB : w0.heap.size ≤ B) (hb : Below B w w') (hg : w.grownBy w' (some g)) (hok : ok g) (ho : ∀ k, own k → ¬ ok k) : Two own w0 w' kb mb gb S T :=
  h.far ((Far.of_below (f := ok) (Below.refl _ _)).grown hg (fun k e => by cases e; exact hok)) ho (hb.mono hB)
theorem sameL_b {w : World} {A B : Option Addr} {c d : Nat} {l m : List LB} (hC : Kd.C k41 w A l.length l) (hc : l.length ≤ c) (hD : Kd.C k41 w B m.length m) (hd : m.length ≤ d) (hl : l.length ≤ 140737488351232) :
    Calls Try.prog 16 #[.slice A l.length c, .slice B m.length d] w fun e w' => e = .returned (.bool (decide (l = m))) ∧ Below w.heap.size w w' :=
  (sameL_any hC hc hD hd hl).mono (by rintro e w' ⟨rfl, n, rfl⟩; exact ⟨rfl, pw_below_drewN (Below.refl _ _) n⟩)
theorem sameI_b {w : World} {A B : Option Addr} {c d : Nat} {l m : List Int} (hC : Kd.C (Kd.int .i64) w A l.length l) (hc : l.length ≤ c) (hD : Kd.C (Kd.int .i64) w B m.length m) (hd : m.length ≤ d) (hl : l.length ≤ 140737488351232) :
    Calls Try.prog 17 #[.slice A l.length c, .slice B m.length d] w fun e w' => e = .returned (.bool (decide (l = m))) ∧ Below w.heap.size w w' :=
  (sameI_any hC hc hD hd hl).mono (by rintro e w' ⟨rfl, n, rfl⟩; exact ⟨rfl, pw_below_drewN (Below.refl _ _) n⟩)
theorem seg_one {cs : List Value} (h : cs.length = (Kd.int .i64).sz) {a : Value} : cs.take 0 ++ [a] ++ cs.drop (0 + [a].length) = [a] := by
  have h2 : cs.length = 1 := h
  rw [List.drop_eq_nil_of_le (by rw [h2]; simp)]
  rfl
set_option maxRecDepth 100000 in
set_option maxHeartbeats 8000000 in
theorem Pure.IndexOwn_walk (A0 : Option Addr) (c0 : Nat) (l0 : List (List LB)) (a1 : ByteArray) (w : World) (C0 : (Kd.slice 41 k41).C w A0 l0.length l0) (m0 : l0.length ≤ c0) (w0 : WSs l0) (w1 : a1.size ≤ 140737488351232) :
    Calls Try.prog 5 #[.slice A0 l0.length c0, .string a1] w fun e w' => e = .returned (.bool true) ∧ Below w.heap.size w w' := by
  have hS60 : (setsOf l0 (min l0.length 60)).length ≤ 60 := Nat.le_trans (setsOf_len _ _) (by omega)
  have hl := laid_u C0 m0 w0
  obtain ⟨S, hS⟩ : ∃ S, setsOf l0 (min l0.length 60) = S := ⟨_, rfl⟩
  rw [hS] at hl hS60
  have HL := Lib.hid hl
  clear C0 m0 w0 hl hS
  go_enter Try.func5, Try.ntmps5
  go_wp2_with (go_at_call 10; go_must (refine HL.out.mono ?_; rintro e w1 ⟨kb, mb, gb, rfl, hT⟩; have HT1 := Lib.hid hT; clear hT HL))
  go_loopw [8] (fun v8 wr => ∃ i : Nat, i ≤ S.length ∧ v8 = .int .i64 (i : Int) ∧ Two (fun _ => True) w wr kb mb gb S S) (fun v8 _ => S.length - (intOf v8).toNat)
  case atStart => exact ⟨0, Nat.zero_le _, rfl, HT1.out⟩
  case round =>
    obtain ⟨i, hi, rfl, hT⟩ := hrel
    clear HT1
    obtain ⟨Ax, cx, hcx, hlx, hCx⟩ := hT.row
    by_cases hlt : i < S.length
    · have e1 : decide ((i : Int) < (S.length : Int)) = true := decide_eq_true (by omega)
      have e2 : decide (i < S.length) = true := decide_eq_true hlt
      have hfine := hT.fine hlt
      have hlab := fun (W : World) (own : Nat → Prop) (h : Two own w W kb mb gb S S) => ilabels_yes h.ix i hlt
      obtain ⟨x, hx⟩ : ∃ x, S.getD i [] = x := ⟨_, rfl⟩
      have HXX := Lib.hid hx
      rw [hx] at hfine hlab
      have hx8 := hfine.2.1
      have hx1 := hfine.2.2
      obtain ⟨wo, rfl⟩ : ∃ wo : World, wo = wr := ⟨_, rfl⟩
      have HT := Lib.hid hT.bound
      have HWO := Lib.hid hT.bel.size
      have HLAB := Lib.hid hlab
      clear hlab hfine hx hCx hT
      go_wp2_with (go_at_call 15; go_must (refine (HLAB.out _ _ HT.out).mono ?_; rintro e w2 ⟨A2, c2, rfl, hr2, hb2⟩; have HR2 := Lib.hid (Kd.R_mono (ok' := fun k => wo.heap.size ≤ k ∧ k < w2.heap.size) (Kd.R_bound hr2) (fun k a => ⟨a.2.1, a.2.2.1⟩)); have HT2 := Lib.hid ((HT.out.below hb2).mono (own' := fun k => k < wo.heap.size ∨ w2.heap.size ≤ k) (fun k a => Or.inl a.2.2)); clear hr2 hb2 HT))
      clear hcx
      go_loopw [11] (fun v11 wj => ∃ (k : Nat) (L : List LB), k ≤ x.length ∧ L.length = x.length ∧ v11 = .int .i64 (k : Int) ∧ Kd.R k41 41 wj wo.heap.size (fun k => wo.heap.size ≤ k ∧ k < w2.heap.size) (.slice A2 x.length c2) L ∧ Two (fun k => k < wo.heap.size ∨ w2.heap.size ≤ k) w wj kb mb gb S S) (fun v11 _ => x.length - (intOf v11).toNat)
      case atStart => exact ⟨0, x, Nat.zero_le _, rfl, rfl, HR2.out, HT2.out⟩
      case round =>
        obtain ⟨k, L, hk, hL, rfl, hR, hT⟩ := hrel
        clear HR2 HT2
        have HLL := Lib.hid hL
        by_cases hkl : k < x.length
        · obtain ⟨g, cap, hg, -⟩ := Kd.R_form hR (by omega)
          injection hg with hA hn hcp
          clear hn
          subst hA hcp
          obtain ⟨ad, cs, had, hcl, -, hcc⟩ := Kd.C_get (Kd.R_reads' hR).2.2 z41 (k : Int) (by omega) (by omega)
          injection had with had
          subst had
          have HCC := Lib.hid hcc
          have HCN := Lib.hid hcl
          have HR := Lib.hid hR
          have HT := Lib.hid hT
          have d1 : decide ((k : Int) < (x.length : Int)) = true := decide_eq_true (by omega)
          have d2 : decide (k < x.length) = true := decide_eq_true hkl
          clear hcc hcl hR hT hL
          go_wp2_with ((with_reducible refine gate_ (.store 41 (.tmp 50) (.tmp 49)) rfl ?_); go_must (refine Kd.R_store k41 (w0 := wr) wo.heap.size rfl rfl 41 (.tmp 50) (.tmp 49) rfl 41 (g := g) (n := x.length) (cap := c2) (o' := k * 2) (k : Int) 0 L ⟨a1, a1⟩ (.agg #[.string a1, .string a1]) [.string a1, .string a1] cs (fun k => wo.heap.size ≤ k ∧ k < w2.heap.size) (fun _ => False) ?ha ?ho ?hx rfl ?ht ?h1 HR.out (by omega) (by omega) HCN.out ?hcc (Nat.le_refl _) ?hM (fun _ h => h.elim) (Below.refl _ _) ?_; (case ha => go_simp); (case ho => first | (rw [Int.toNat_natCast]; done) | (rw [Int.toNat_natCast]; rfl)); (case hx => first | (go_simp; done) | (go_simp; rfl)); (case ht => kernel_rfl); (case h1 => simp [Value.oneCell']); (case hcc => intro j u hu; have := HCC.out j u hu; rw [add_row] at this; rw [Int.toNat_natCast] at this ⊢; exact this); (case hM => (rw [seg_eq HCN.out]; exact label_M _ _)); intro w7 hr7 hb7 hg7; have HR7 := Lib.hid hr7; have HT7 := Lib.hid (HT.out.stored (ok := fun k => wo.heap.size ≤ k ∧ k < w2.heap.size) HWO.out hb7 hg7 (HR.out.1 g rfl) (fun k a b => by omega)); clear hr7 hb7 hg7))
          go_roundw
          case rel => exact ⟨k + 1, L.set (k : Int).toNat ⟨a1, a1⟩, hkl, by rw [List.length_set]; exact HLL.out, by simp, HR7.out, HT7.out⟩
          case measure => simp [intOf]; omega
        · obtain rfl : k = x.length := by omega
          obtain ⟨Ay, cy, hcy, -, hCy⟩ := hT.row
          obtain ⟨ay, A', c', rfl, hcell, hle, hC'⟩ := set_at hCy i hlt
          rw [HXX.out] at hcell hle hC'
          obtain ⟨az, rfl, hn0, hv0⟩ := at_T41 hC' 0 (by omega) (by omega)
          rw [show az.add (Int.toNat 0 * 2) = az from rfl] at hn0 hv0
          obtain ⟨y, hy⟩ : ∃ y, rd_T41 x 0 = y := ⟨_, rfl⟩
          rw [hy] at hn0 hv0
          have HCY := Lib.hid hcy
          have HCELL := Lib.hid hcell
          have HN0 := Lib.hid hn0
          have HV0 := Lib.hid hv0
          have HT := Lib.hid (hT.below (below_drew (Below.refl _ _)))
          have HWP := Lib.hid hT.bel.size
          clear hR hT hL hy hC' hle hCy
          obtain ⟨wp, rfl⟩ : ∃ wp : World, wp = wr := ⟨_, rfl⟩
          have HB := Lib.hid (below_drew (Below.refl wp.heap.size wp))
          go_wp2
          clear hcy hcell hn0 hv0
          have hx0 : 0 < x.length := by omega
          have hxi : (0 : Int) < (x.length : Int) := by omega
          have hne : ¬ x = [] := fun c => by rw [c] at hx0; simp at hx0
          obtain ⟨P, hP⟩ : ∃ P, sel (hasVal y.f0 y.f1) S S.length = P := ⟨_, rfl⟩
          have hPL : P.length ≤ 60 := by rw [← hP]; have := sel_len (hasVal y.f0 y.f1) S S.length; omega
          have hpo := ipost_any HT.out hS60 y.f0 y.f1
          rw [hP] at hpo
          have HPO := Lib.hid hpo
          clear hpo hP
          go_region_held3 (fun w' => w'.cell? ⟨gb, 0, none⟩ = some (.slice (some ay) S.length cy) ∧ w'.cell? (ay.add i) = some (.slice (some az) x.length c') ∧ w'.cell? az = some (.string y.f0) ∧ w'.cell? ⟨az.block, az.off + 1, none⟩ = some (.string y.f1))
            (exact ⟨(HB.out.cell (World.block_lt_of_cell? _ _ HCY.out)).trans HCY.out, (HB.out.cell (World.block_lt_of_cell? _ _ HCELL.out)).trans HCELL.out, (HB.out.cell (World.block_lt_of_cell? _ _ HN0.out)).trans HN0.out, (HB.out.cell (World.block_lt_of_cell? _ _ HV0.out)).trans HV0.out⟩)
            (first
              | (go_at_call 18; (with_reducible refine HPO.out.mono ?_); rintro e w6 ⟨A6, c6, rfl, hr, hb⟩; have HR6 := Lib.hid (Kd.R_mono (ok' := fun k => wp.heap.size ≤ k ∧ k < w6.heap.size) (Kd.R_bound (show Kd.R (Kd.int .i64) 3 w6 wp.heap.size (fun _ => True) _ _ from hr)) (fun k a => ⟨a.2.1, a.2.2.1⟩)); have hT' := (HT.out.bound.below hb).mono (own' := fun k => k < wp.heap.size ∨ w6.heap.size ≤ k) (fun k a => Or.inl a.2.2); have hB' := HB.out.trans (hb.mono HB.out.size); clear HT HB; have HT := Lib.hid hT'; have HB := Lib.hid hB'; clear hT' hB' hr hb HPO))
          go_wp2
          clear HCY HCELL HN0 HV0 hlx
          go_loopw [13] (fun v13 wj => ∃ (k : Nat) (L : List Int), k ≤ P.length ∧ L.length = P.length ∧ v13 = .int .i64 (k : Int) ∧ Kd.R (Kd.int .i64) 3 wj wp.heap.size (fun k => wp.heap.size ≤ k ∧ k < w6.heap.size) (.slice A6 P.length c6) L ∧ Two (fun k => k < wp.heap.size ∨ w6.heap.size ≤ k) w wj kb mb gb S S) (fun v13 _ => P.length - (intOf v13).toNat)
          case atStart => exact ⟨0, P, Nat.zero_le _, rfl, rfl, HR6.out, HT.out⟩
          case round =>
            obtain ⟨k, L, hk, hL, rfl, hR, hT⟩ := hrel
            clear HR6 HT HB
            have HLL := Lib.hid hL
            by_cases hkl : k < P.length
            · obtain ⟨g, cap, hg, -⟩ := Kd.R_form hR (by omega)
              injection hg with hA hn hcp
              clear hn
              subst hA hcp
              obtain ⟨ad, cs, had, hcl, -, hcc⟩ := Kd.C_get (Kd.R_reads' hR).2.2 0 (k : Int) (by omega) (by omega)
              injection had with had
              subst had
              have HCC := Lib.hid hcc
              have HCN := Lib.hid hcl
              have HR := Lib.hid hR
              have HT := Lib.hid hT
              have d1 : decide ((k : Int) < (P.length : Int)) = true := decide_eq_true (by omega)
              have d2 : decide (k < P.length) = true := decide_eq_true hkl
              clear hcc hcl hR hT hL
              go_wp2_with ((with_reducible refine gate_ (.store 3 (.tmp 81) (.const (.int .i64 (-5)))) rfl ?_); go_must (refine Kd.R_store (Kd.int .i64) (w0 := wr) wp.heap.size rfl rfl 3 (.tmp 81) (.const (.int .i64 (-5))) rfl 3 (g := g) (n := P.length) (cap := c6) (o' := k) (k : Int) 0 L (-5) (.int .i64 (-5)) [.int .i64 (-5)] cs (fun k => wp.heap.size ≤ k ∧ k < w6.heap.size) (fun _ => False) ?ha ?ho ?hx rfl ?ht ?h1 HR.out (by omega) (by omega) HCN.out ?hcc (Nat.le_refl _) ?hM (fun _ h => h.elim) (Below.refl _ _) ?_; (case ha => first | (go_simp; done) | (go_simp; rfl)); (case ho => exact (Nat.mul_one k).symm); (case hx => first | (go_simp; done) | (go_simp; rfl)); (case ht => kernel_rfl); (case h1 => simp [Value.oneCell']); (case hcc => intro j u hu; have := HCC.out j u hu; rw [add_row] at this; rw [Int.toNat_natCast] at this ⊢; exact this); (case hM => (rw [seg_one HCN.out]; exact rfl)); intro w7 hr7 hb7 hg7; have HR7 := Lib.hid hr7; have HT7 := Lib.hid (HT.out.stored (ok := fun k => wp.heap.size ≤ k ∧ k < w6.heap.size) HWP.out hb7 hg7 (HR.out.1 g rfl) (fun k a b => by omega)); clear hr7 hb7 hg7))
              go_roundw
              case rel => exact ⟨k + 1, L.set (k : Int).toNat (-5), hkl, by rw [List.length_set]; exact HLL.out, by simp, HR7.out, HT7.out⟩
              case measure => simp [intOf]; omega
            · obtain rfl : k = P.length := by omega
              have HT := Lib.hid hT
              clear hR hT hL
              go_wp2_with (go_at_call 15; go_must (refine (HLAB.out _ _ HT.out).mono ?_; rintro e w9 ⟨A9, c9, rfl, hr9, hb9⟩; have HR9 := Lib.hid (Kd.R_reads' hr9).2; have hT' := HT.out.below hb9; clear HT; have HT := Lib.hid hT'; clear hr9 hb9 hT'))
              obtain ⟨Ay', cy', hcy, -, hCy⟩ := HT.out.row
              obtain ⟨ay', B', d', rfl, hcell, hle, hC'⟩ := set_at hCy i hlt
              rw [HXX.out] at hcell hle hC'
              obtain ⟨az', rfl, hn0, hv0⟩ := at_T41 hC' 0 (by omega) (by omega)
              rw [show az'.add (Int.toNat 0 * 2) = az' from rfl] at hn0 hv0
              obtain ⟨z, hz⟩ : ∃ z, rd_T41 x 0 = z := ⟨_, rfl⟩
              rw [hz] at hn0 hv0
              have HCY := Lib.hid hcy
              have HCELL := Lib.hid hcell
              have HN0 := Lib.hid hn0
              have HV0 := Lib.hid hv0
              have HLE := Lib.hid hle
              have HC' := Lib.hid hC'
              have HB := Lib.hid (below_drew (Below.refl w9.heap.size w9))
              have hT' := HT.out.below (below_drew (Below.refl w9.heap.size w9))
              clear HT
              have HT := Lib.hid hT'
              clear hcy hcell hn0 hv0 hle hC' hCy hz hT'
              go_region_held3 (fun w' => w'.cell? ⟨gb, 0, none⟩ = some (.slice (some ay') S.length cy') ∧ w'.cell? (ay'.add i) = some (.slice (some az') x.length d') ∧ w'.cell? az' = some (.string z.f0) ∧ w'.cell? ⟨az'.block, az'.off + 1, none⟩ = some (.string z.f1))
                (exact ⟨(HB.out.cell (World.block_lt_of_cell? _ _ HCY.out)).trans HCY.out, (HB.out.cell (World.block_lt_of_cell? _ _ HCELL.out)).trans HCELL.out, (HB.out.cell (World.block_lt_of_cell? _ _ HN0.out)).trans HN0.out, (HB.out.cell (World.block_lt_of_cell? _ _ HV0.out)).trans HV0.out⟩)
                (first
                  | (go_at_call 16; (with_reducible refine (sameL_b (Kd.C_below HR9.out.2 HB.out) HR9.out.1 (Kd.C_below HC'.out HB.out) HLE.out (by omega)).mono ?_); rintro e w8 ⟨rfl, hb⟩; have hT' := HT.out.below hb; have hB' := HB.out.trans (hb.mono HB.out.size); clear HT HB; have HT := Lib.hid hT'; have HB := Lib.hid hB'; clear hT' hB'; clear hb; rw [decide_eq_true (rfl : x = x)])
                  | (go_at_call 18; (with_reducible refine (ipost_any HT.out hS60 z.f0 z.f1).mono ?_); rintro e w6_ ⟨A6_, c6_, rfl, hr, hb⟩; have hT' := HT.out.below hb; have hB' := HB.out.trans (hb.mono HB.out.size); clear HT HB; have HT := Lib.hid hT'; have HB := Lib.hid hB'; clear hT' hB'; have P0 := Lib.hid (Kd.R_reads' hr).2; (try (have q1 := P1.out.1; have q2 := Kd.C_below P1.out.2 hb; clear P1; have P1 := Lib.hid (And.intro q1 q2); clear q1 q2)); clear hr hb)
                  | (go_at_call 19; (with_reducible refine (rpost_any HT.out z.f0 z.f1).mono ?_); rintro e w6_ ⟨A6_, c6_, rfl, hr, hb⟩; have hT' := HT.out.below hb; have hB' := HB.out.trans (hb.mono HB.out.size); clear HT HB; have HT := Lib.hid hT'; have HB := Lib.hid hB'; clear hT' hB'; have P1 := Lib.hid (Kd.R_reads' hr).2; (try (have q1 := P0.out.1; have q2 := Kd.C_below P0.out.2 hb; clear P0; have P0 := Lib.hid (And.intro q1 q2); clear q1 q2)); clear hr hb)
                  | (go_at_call 17; (with_reducible refine (sameI_b P0.out.2 P0.out.1 P1.out.2 P1.out.1 (by have := sel_len (hasVal z.f0 z.f1) S S.length; omega)).mono ?_); rintro e w8 ⟨rfl, hb⟩; have hT' := HT.out.below hb; have hB' := HB.out.trans (hb.mono HB.out.size); clear HT HB; have HT := Lib.hid hT'; have HB := Lib.hid hB'; clear hT' hB'; clear hb P0 P1; rw [decide_eq_true (rfl : sel (hasVal z.f0 z.f1) S S.length = _)]))
              all_goals (
                go_wp2
                go_roundw
                case rel => exact ⟨i + 1, hlt, by simp, HT.out.mono (fun _ _ => trivial)⟩
                case measure => simp [intOf]; omega)
    · obtain rfl : i = S.length := by omega
      have HT := Lib.hid hT
      clear hT hCx
      go_wp2_with (go_at_call 20; go_must (refine (iawake_u _).mono ?_; rintro e w9 ⟨rfl, hb9⟩; have HB9 := Lib.hid (HT.out.below hb9).bel; clear hb9))
      go_ret
      exact ⟨rfl, HB9.out⟩
end Go.Proofs.Ytlkhdbfhnpbbhaa
