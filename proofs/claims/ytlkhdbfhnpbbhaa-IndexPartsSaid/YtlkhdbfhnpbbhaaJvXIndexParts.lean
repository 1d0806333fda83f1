/- The law IndexParts over its Go text: each set has one value of a name, or none. Conditions: how its arguments are read. -/
import Derived.Test.YtlkhdbfhnpbbhaaJvM4
namespace Go.Proofs.Ytlkhdbfhnpbbhaa
set_option linter.unusedVariables false
set_option linter.unusedSimpArgs false
open Go.RowKit Go.Maps Go.Proofs.YtlkhdbfhnpbbhaaW.PrintWords Go.Proofs.YtlkhdbfhnpbbhaaW.PrintLast Go.Proofs.YtlkhdbfhnpbbhaaW.PrintMore Go.Proofs.Ytlkhdbfhnpbbhaa.Ix Go.Proofs.Ytlkhdbfhnpbbhaa.Tx Go.Proofs.Ytlkhdbfhnpbbhaa.Pure
theorem rd_rep (n : Nat) (x : Int) (i : Nat) (h : i < n) : rd (List.replicate n x) (i : Int) = x := by
  rw [rd_nat (by rw [List.length_replicate]; exact h), List.getElem_replicate]
theorem vsn_at (S : List (List LB)) (name : ByteArray) (i : Nat) (hi : i < (tel S name).length) : ((tel S name).getD i (emp, 0)).1 = (vsn S name).getD i emp ∧ ((tel S name).getD i (emp, 0)).2 = (cnt S name ((vsn S name).getD i emp) : Int) ∧ (vsn S name).getD i emp ≠ emp := by
  have h1 : i < (evs S name).length := by unfold tel at hi; rw [List.length_map] at hi; exact hi
  have h2 : (vsn S name).getD i emp = (evs S name)[i] := by
    unfold vsn
    rw [List.getD_eq_getElem?_getD, List.getElem?_append_left h1, List.getElem?_eq_getElem h1]; rfl
  have h3 : (tel S name).getD i (emp, 0) = ((evs S name)[i], (cnt S name (evs S name)[i] : Int)) := by
    unfold tel
    rw [List.getD_eq_getElem?_getD, List.getElem?_map, List.getElem?_eq_getElem h1]; rfl
  rw [h2, h3]
  refine ⟨rfl, rfl, fun e => ?_⟩
  have hm : (evs S name)[i] ∈ evs S name := List.getElem_mem _
  rw [e] at hm
  exact ((mem_dvs name emp S).1 ((mem_evs S name emp).1 hm)).1 rfl
theorem vsn_len (S : List (List LB)) (name : ByteArray) : (vsn S name).length = (tel S name).length + 1 := by unfold vsn tel; simp
theorem vsn_last (S : List (List LB)) (name : ByteArray) : (vsn S name).getD (tel S name).length emp = emp := by
  unfold vsn tel
  rw [List.length_map, List.getD_eq_getElem?_getD, List.getElem?_append_right (Nat.le_refl _), Nat.sub_self]; rfl
set_option maxRecDepth 100000 in
set_option maxHeartbeats 8000000 in
theorem Pure.IndexParts_walk (A0 : Option Addr) (c0 : Nat) (l0 : List (List LB)) (a1 : ByteArray) (w : World) (C0 : (Kd.slice 41 k41).C w A0 l0.length l0) (m0 : l0.length ≤ c0) (w0 : WSs l0) (w1 : a1.size ≤ 140737488351232) :
    Calls Try.prog 9 #[.slice A0 l0.length c0, .string a1] w fun e w' => e = .returned (.bool true) ∧ Below w.heap.size w w' := by
  have hS60 : (setsOf l0 (min l0.length 60)).length ≤ 60 := Nat.le_trans (setsOf_len _ _) (by omega)
  have hl := laid_u C0 m0 w0
  obtain ⟨S, hS⟩ : ∃ S, setsOf l0 (min l0.length 60) = S := ⟨_, rfl⟩
  rw [hS] at hl hS60
  have HL := Lib.hid hl
  have htl : (tel S a1).length ≤ 60 := by have := tel_len S a1; omega
  have HVA := Lib.hid (fun (W : World) (kb mb gb xb nb : Nat) (h : Two (fun _ => True) w W kb mb gb S S) (hx : W.cell? ⟨xb, 0, none⟩ = some (.pointer (some ⟨kb, 0, none⟩))) (hn : W.cell? ⟨nb, 0, none⟩ = some (.string a1)) => vals_u (most := 1000) h.ix hS60 hx hn (by omega))
  rw [List.take_of_length_le (show (tel S a1).length ≤ (1000 : Int).toNat by have : (1000 : Int).toNat = 1000 := rfl; omega)] at HVA
  have hva := vsn_at S a1
  have hvl := vsn_last S a1
  have hvt := vsn_take S a1
  rw [vsn_len] at hvt
  have hal := seenK_all S a1 []
  have hni := seenK_nil S a1 []
  have hvn : (vsn S a1).take 0 = [] := List.take_zero
  have hvf : (vsn S a1).take ((tel S a1).length + 1) = evs S a1 ++ [emp] := by rw [List.take_of_length_le (by rw [vsn_len]; exact Nat.le_refl _)]; rfl
  obtain ⟨V, hV⟩ : ∃ V, vsn S a1 = V := ⟨_, rfl⟩
  obtain ⟨T, hT⟩ : ∃ T, tel S a1 = T := ⟨_, rfl⟩
  rw [hV] at hva hvl hvt hvn hvf
  rw [hT] at hva hvl hvt hvf HVA htl
  rw [← hvf] at hal
  rw [← hvn] at hni
  have HVAT := Lib.hid hva
  have HVLA := Lib.hid hvl
  have HVTK := Lib.hid hvt
  have HALL := Lib.hid hal
  have HNIL := Lib.hid hni
  clear C0 m0 w0 hl hS hva hvl hvt hvn hvf hal hni hV hT
  go_enter Try.func9, Try.ntmps9
  go_wp2_with (first
    | (go_at_call 10; go_must (refine HL.out.mono ?_; rintro e w1 ⟨kb, mb, gb, rfl, hT⟩; have HT1 := Lib.hid hT.bound; clear hT HL))
    | (go_at_call 23; go_must (refine (ilen_u HT1.out.ix).mono ?_; rintro e w2 ⟨rfl, rfl⟩))
    | ((with_reducible refine gate_dst (N := 25) rfl ?_); go_must (refine Kd.R_make (Kd.int .i64) (w0 := w2) w2.heap.size 3 rfl rfl 38 (.tmp 24) (.tmp 24) rfl (S.length : Int) rfl rfl Try.underlying38 (.int .i64 0) 8 infoI rfl Nat.zero_lt_one (by decide) (0 : Int) (ok := fun _ => True) (okp := fun _ => True) rfl (fun _ h => h) trivial (by omega) (by omega) (Below.refl _ _) (Nat.le_refl _) ?_; intro v2 w3 hr3 hb3 _ _; rw [Int.toNat_natCast, ← HNIL.out] at hr3; have HR3 := Lib.hid (Kd.R_mono (ok' := fun k => w2.heap.size ≤ k ∧ k < w3.heap.size) (Kd.R_bound hr3) (fun k a => ⟨a.2.1, a.2.2.1⟩)); have HB3 := Lib.hid hb3; obtain ⟨A3, c3, hv3⟩ := Kd.R_slice hr3; rw [seenK_len] at hv3; subst hv3; clear hr3 hb3))
    | (go_at_call 31; go_must (refine (ivalues_u _ _ _).mono ?_; rintro e w4 ⟨xb, nb, rfl, hx4, hn4, hxb, hnb, hb4⟩; have HT4 := Lib.hid (((HT1.out.below HB3.out).below hb4).mono (own' := fun k => k < w2.heap.size) (fun k a => a.2.2)); have HR4 := Lib.hid (Kd.R_below HR3.out hb4); have HX4 := Lib.hid hx4; have HN4 := Lib.hid hn4; have HB4 := Lib.hid hb4; clear hx4 hn4 hxb hnb hb4))
    | (go_at_call 32; go_must (refine (HVA.out w4 kb mb gb xb nb (HT4.out.mono (fun _ _ => trivial)) HX4.out HN4.out).mono ?_; rintro e w5 ⟨A5, c5, rfl, hr5, hb5⟩; have HT5 := Lib.hid (HT4.out.below hb5); have HR5 := Lib.hid (Kd.R_below HR4.out hb5); have HL5 := Lib.hid (Kd.R_mono (ok' := fun k => w4.heap.size ≤ k) (Kd.R_bound hr5) (fun k a => a.2.1)); have HB5 := Lib.hid hb5; clear hr5 hb5)))
  have HW2 := Lib.hid HT1.out.bel.size
  go_loopw [10] (fun v10 wr => ∃ i : Nat, i ≤ T.length + 1 ∧ v10 = .int .i64 (i : Int) ∧ Two (fun k => k < w2.heap.size) w wr kb mb gb S S ∧ Kd.R (Kd.int .i64) 3 wr w2.heap.size (fun k => w2.heap.size ≤ k ∧ k < w3.heap.size) (.slice A3 S.length c3) (seenK S a1 (V.take i) [] 0) ∧ kVV.R 68 wr w4.heap.size (fun k => w4.heap.size ≤ k) (.slice A5 T.length c5) T ∧ w5.heap.size ≤ wr.heap.size) (fun v10 _ => T.length + 1 - (intOf v10).toNat)
  case atStart => exact ⟨0, Nat.zero_le _, rfl, HT5.out, HR5.out, HL5.out, Nat.le_refl _⟩
  case round =>
    obtain ⟨i, hi, rfl, hT, hR, hLT, hsz⟩ := hrel
    clear HT5 HR5 HL5 HX4 HN4 HR4 HT4 HR3 HT1
    have HT := Lib.hid hT; have HR := Lib.hid hR; have HLT := Lib.hid hLT; have HSZ := Lib.hid hsz; have HSZ0 := Lib.hid hsz
    clear hT hR hLT hsz
    by_cases hil : i ≤ T.length
    · have e1 : decide ((i : Int) ≤ (T.length : Int)) = true := decide_eq_true (by omega)
      have e2 : decide (i ≤ T.length) = true := decide_eq_true hil
      obtain ⟨htk, hnot⟩ := HVTK.out i (by omega)
      obtain ⟨v, hv⟩ : ∃ v, V.getD i emp = v := ⟨_, rfl⟩
      rw [hv] at htk hnot
      have hend := seenK_end S a1 v (V.take i) hnot []
      rw [← htk] at hend
      have hnd := sel_nodup (hasVal a1 v) S S.length
      have hsa := sel_at (hasVal a1 v) S
      have hsc := sel_cnt S a1 v
      have hsl := sel_len (hasVal a1 v) S S.length
      have hpo := ipost_any HT.out hS60 a1 v
      by_cases hil2 : i < T.length
      · have e3 : decide ((i : Int) < (T.length : Int)) = true := decide_eq_true (by omega)
        have e4 : decide (i < T.length) = true := decide_eq_true hil2
        obtain ⟨hv1, hv2, hv3⟩ := HVAT.out i hil2
        rw [hv] at hv1 hv2 hv3
        obtain ⟨a5, rfl, hs5, hn5⟩ := at_VV (Kd.R_reads' HLT.out).2.2 i hil2
        rw [hv1] at hs5
        rw [hv2, ← hsc] at hn5
        have hb0 : ¬ v.toList = [] := fun c => hv3 ((emp_iff v).1 c)
        have hb1 : v.toList.isEmpty = false := by
          cases h : v.toList with
          | nil => exact absurd h hb0
          | cons _ _ => rfl
        obtain ⟨P, hPe⟩ : ∃ P, sel (hasVal a1 v) S S.length = P := ⟨_, rfl⟩
        rw [hPe] at hend hnd hsa hsl hpo hn5
        have HEND := Lib.hid hend; have HND := Lib.hid hnd; have HPA := Lib.hid hsa; have HPO := Lib.hid hpo
        have HCELLS := Lib.hid (And.intro hs5 hn5)
        clear htk hnot hv hend hnd hsa hsc hpo hv1 hv2 hv3 hPe
        go_wp2_with (go_at_call 18; go_must (refine HPO.out.mono ?_; rintro e w6 ⟨A6, c6, rfl, hr6, hb6⟩; have HT6 := Lib.hid (HT.out.below hb6); have HR6 := Lib.hid (Kd.R_below HR.out hb6); have HL6 := Lib.hid (Kd.R_below HLT.out hb6); have HP6 := Lib.hid (Kd.R_mono (ok' := fun k => wr.heap.size ≤ k) (Kd.R_bound hr6) (fun k a => a.2.1)); have HB6 := Lib.hid hb6; clear hs5 hn5; have hs5 := (hb6.cell (World.block_lt_of_cell? _ _ HCELLS.out.1)).trans HCELLS.out.1; have hn5 := (hb6.cell (World.block_lt_of_cell? _ _ HCELLS.out.2)).trans HCELLS.out.2; clear hr6 hb6))
        obtain ⟨wo, rfl⟩ : ∃ wo : World, wo = wr := ⟨_, rfl⟩
        rw [seenK_zero S a1 (V.take i) [] P] at HR6
        go_loopw [13] (fun v13 wk => ∃ k : Nat, k ≤ P.length ∧ v13 = .int .i64 (k : Int) ∧ Two (fun k => k < w2.heap.size) w wk kb mb gb S S ∧ Kd.R (Kd.int .i64) 3 wk w2.heap.size (fun k => w2.heap.size ≤ k ∧ k < w3.heap.size) (.slice A3 S.length c3) (seenK S a1 (V.take i) P k) ∧ kVV.R 68 wk w4.heap.size (fun k => w4.heap.size ≤ k) (.slice (some a5) T.length c5) T ∧ Kd.R (Kd.int .i64) 3 wk wo.heap.size (fun k => wo.heap.size ≤ k) (.slice A6 P.length c6) P ∧ w5.heap.size ≤ wk.heap.size) (fun v13 _ => P.length - (intOf v13).toNat)
        case atStart => exact ⟨0, Nat.zero_le _, rfl, HT6.out, HR6.out, HL6.out, HP6.out, Nat.le_trans HSZ.out HB6.out.size⟩
        case round =>
          obtain ⟨k, hk, rfl, hT, hR, hLT, hP, hsz⟩ := hrel
          clear HT6 HR6 HL6 HP6 HB6
          by_cases hkl : k < P.length
          · have d1 : decide ((k : Int) < (P.length : Int)) = true := decide_eq_true (by omega)
            have d2 : decide (k < P.length) = true := decide_eq_true hkl
            obtain ⟨t, ht, het⟩ := HPA.out k hkl
            obtain ⟨a6, rfl, hp6⟩ := Kd.at_int (Kd.R_reads' hP).2.2 (k : Int) (by omega) (by omega)
            rw [Int.toNat_natCast, het] at hp6
            obtain ⟨g, cap, hg, -⟩ := Kd.R_form hR (by rw [seenK_len]; omega)
            injection hg with hA hn hcp
            clear hn
            subst hA hcp
            obtain ⟨a3, ha3, hs3⟩ := Kd.at_int (Kd.R_reads' hR).2.2 (t : Int) (by omega) (by rw [seenK_len]; omega)
            obtain rfl : (⟨g, 0, none⟩ : Addr) = a3 := by injection ha3
            rw [Int.toNat_natCast, add_row] at hs3
            have hbd := seenK_at S a1 (V.take i) P k t ht
            have hstep := seenK_step S a1 (V.take i) P HND.out k t hkl ht het
            obtain ⟨q, hq⟩ : ∃ q, rd (seenK S a1 (V.take i) P k) (t : Int) = q := ⟨_, rfl⟩
            rw [hq] at hs3 hbd hstep
            obtain ⟨ad2, cs, had, hcl, hKK, hcc⟩ := Kd.C_get (Kd.R_reads' hR).2.2 0 (t : Int) (by omega) (by rw [seenK_len]; omega)
            injection had with had
            subst had
            have HT := Lib.hid hT; have HR := Lib.hid hR; have HLT := Lib.hid hLT; have HP := Lib.hid hP; have HSZ := Lib.hid hsz
            have HCC := Lib.hid hcc; have HCN := Lib.hid hcl; have HSTEP := Lib.hid hstep
            have d3 : decide ((t : Int) < 0) = false := decide_eq_false (by omega)
            have d4 : decide ((S.length : Int) ≤ (t : Int)) = false := decide_eq_false (by omega)
            clear ha3 hT hR hLT hP hsz hcc hcl hKK hstep het hq
            go_wp2_with ((with_reducible refine gate_ (.store 3 (.tmp 101) (.tmp 100)) rfl ?_); go_must (refine Kd.R_store (Kd.int .i64) (w0 := wr) w2.heap.size rfl rfl 3 (.tmp 101) (.tmp 100) rfl 3 (g := g) (n := S.length) (cap := c3) (o' := t) (t : Int) 0 (seenK S a1 (V.take i) P k) (q + 1) (.int .i64 (q + 1)) [.int .i64 (q + 1)] cs (fun k => w2.heap.size ≤ k ∧ k < w3.heap.size) (fun _ => False) ?ha ?ho ?hx rfl ?ht ?h1 HR.out (by omega) (by omega) HCN.out ?hcc (Nat.le_refl _) ?hM (fun _ h => h.elim) (Below.refl _ _) ?_; (case ha => first | (go_simp; done) | (go_simp; rfl)); (case ho => exact (Nat.mul_one t).symm); (case hx => first | (go_simp; done) | (go_simp; rfl)); (case ht => kernel_rfl); (case h1 => simp [Value.oneCell']); (case hcc => intro j u hu; have := HCC.out j u hu; rw [add_row] at this; rw [Int.toNat_natCast] at this ⊢; exact this); (case hM => (rw [seg_one HCN.out]; exact rfl)); intro w7 hr7 hb7 hg7; rw [Int.toNat_natCast, HSTEP.out] at hr7; have hf7 := (Far.of_below (f := fun k => w2.heap.size ≤ k ∧ k < w3.heap.size) (Below.refl wr.heap.size wr)).grown hg7 (fun k e => by cases e; exact HR.out.1 g rfl); have HR7 := Lib.hid hr7; have HT7 := Lib.hid (HT.out.stored (ok := fun k => w2.heap.size ≤ k ∧ k < w3.heap.size) HW2.out hb7 hg7 (HR.out.1 g rfl) (fun k a b => by omega)); have HL7 := Lib.hid (R_other HLT.out hf7 (fun k a b => by have := HB4.out.size; omega)); have HP7 := Lib.hid (R_other HP.out hf7 (fun k a b => by have := HB4.out.size; have := HB5.out.size; have := HSZ0.out; omega)); have HS7 := Lib.hid (Nat.le_trans HSZ.out hf7.size); clear hr7 hb7 hg7 hf7))
            go_roundw
            case rel => exact ⟨k + 1, hkl, by simp, HT7.out, HR7.out, HL7.out, HP7.out, HS7.out⟩
            case measure => simp [intOf]; omega
          · have HE := Lib.hid (show k = P.length by omega)
            have d1 : decide ((k : Int) < (P.length : Int)) = false := decide_eq_false (by omega)
            have d2 : decide (k < P.length) = false := decide_eq_false hkl
            have HT := Lib.hid hT; have HR := Lib.hid hR; have HLT := Lib.hid hLT; have HSZ := Lib.hid hsz
            clear hT hR hLT hP hsz
            go_wp2
            go_roundw
            case rel => exact ⟨i + 1, by omega, by simp, HT.out, by have := HR.out; rw [HE.out, HEND.out] at this; exact this, HLT.out, HSZ.out⟩
            case measure => simp [intOf]; omega
      · have e3 : decide ((i : Int) < (T.length : Int)) = false := decide_eq_false (by omega)
        have e4 : decide (i < T.length) = false := decide_eq_false hil2
        have hve : v = emp := by rw [← hv, show i = T.length by omega]; exact HVLA.out
        subst hve
        obtain ⟨P, hPe⟩ : ∃ P, sel (hasVal a1 emp) S S.length = P := ⟨_, rfl⟩
        rw [hPe] at hend hnd hsa hsl hpo
        have HEND := Lib.hid hend; have HND := Lib.hid hnd; have HPA := Lib.hid hsa; have HPO := Lib.hid hpo
        clear htk hnot hv hend hnd hsa hsc hpo hPe
        go_wp2_with (go_at_call 18; go_must (refine HPO.out.mono ?_; rintro e w6 ⟨A6, c6, rfl, hr6, hb6⟩; have HT6 := Lib.hid (HT.out.below hb6); have HR6 := Lib.hid (Kd.R_below HR.out hb6); have HL6 := Lib.hid (Kd.R_below HLT.out hb6); have HP6 := Lib.hid (Kd.R_mono (ok' := fun k => wr.heap.size ≤ k) (Kd.R_bound hr6) (fun k a => a.2.1)); have HB6 := Lib.hid hb6; clear hr6 hb6))
        obtain ⟨wo, rfl⟩ : ∃ wo : World, wo = wr := ⟨_, rfl⟩
        rw [seenK_zero S a1 (V.take i) [] P] at HR6
        go_loopw [13] (fun v13 wk => ∃ k : Nat, k ≤ P.length ∧ v13 = .int .i64 (k : Int) ∧ Two (fun k => k < w2.heap.size) w wk kb mb gb S S ∧ Kd.R (Kd.int .i64) 3 wk w2.heap.size (fun k => w2.heap.size ≤ k ∧ k < w3.heap.size) (.slice A3 S.length c3) (seenK S a1 (V.take i) P k) ∧ kVV.R 68 wk w4.heap.size (fun k => w4.heap.size ≤ k) (.slice A5 T.length c5) T ∧ Kd.R (Kd.int .i64) 3 wk wo.heap.size (fun k => wo.heap.size ≤ k) (.slice A6 P.length c6) P ∧ w5.heap.size ≤ wk.heap.size) (fun v13 _ => P.length - (intOf v13).toNat)
        case atStart => exact ⟨0, Nat.zero_le _, rfl, HT6.out, HR6.out, HL6.out, HP6.out, Nat.le_trans HSZ.out HB6.out.size⟩
        case round =>
          obtain ⟨k, hk, rfl, hT, hR, hLT, hP, hsz⟩ := hrel
          clear HT6 HR6 HL6 HP6 HB6
          by_cases hkl : k < P.length
          · have d1 : decide ((k : Int) < (P.length : Int)) = true := decide_eq_true (by omega)
            have d2 : decide (k < P.length) = true := decide_eq_true hkl
            obtain ⟨t, ht, het⟩ := HPA.out k hkl
            obtain ⟨a6, rfl, hp6⟩ := Kd.at_int (Kd.R_reads' hP).2.2 (k : Int) (by omega) (by omega)
            rw [Int.toNat_natCast, het] at hp6
            obtain ⟨g, cap, hg, -⟩ := Kd.R_form hR (by rw [seenK_len]; omega)
            injection hg with hA hn hcp
            clear hn
            subst hA hcp
            obtain ⟨a3, ha3, hs3⟩ := Kd.at_int (Kd.R_reads' hR).2.2 (t : Int) (by omega) (by rw [seenK_len]; omega)
            obtain rfl : (⟨g, 0, none⟩ : Addr) = a3 := by injection ha3
            rw [Int.toNat_natCast, add_row] at hs3
            have hbd := seenK_at S a1 (V.take i) P k t ht
            have hstep := seenK_step S a1 (V.take i) P HND.out k t hkl ht het
            obtain ⟨q, hq⟩ : ∃ q, rd (seenK S a1 (V.take i) P k) (t : Int) = q := ⟨_, rfl⟩
            rw [hq] at hs3 hbd hstep
            obtain ⟨ad2, cs, had, hcl, hKK, hcc⟩ := Kd.C_get (Kd.R_reads' hR).2.2 0 (t : Int) (by omega) (by rw [seenK_len]; omega)
            injection had with had
            subst had
            have HT := Lib.hid hT; have HR := Lib.hid hR; have HLT := Lib.hid hLT; have HP := Lib.hid hP; have HSZ := Lib.hid hsz
            have HCC := Lib.hid hcc; have HCN := Lib.hid hcl; have HSTEP := Lib.hid hstep
            have d3 : decide ((t : Int) < 0) = false := decide_eq_false (by omega)
            have d4 : decide ((S.length : Int) ≤ (t : Int)) = false := decide_eq_false (by omega)
            clear ha3 hT hR hLT hP hsz hcc hcl hKK hstep het hq
            go_wp2_with ((with_reducible refine gate_ (.store 3 (.tmp 101) (.tmp 100)) rfl ?_); go_must (refine Kd.R_store (Kd.int .i64) (w0 := wr) w2.heap.size rfl rfl 3 (.tmp 101) (.tmp 100) rfl 3 (g := g) (n := S.length) (cap := c3) (o' := t) (t : Int) 0 (seenK S a1 (V.take i) P k) (q + 1) (.int .i64 (q + 1)) [.int .i64 (q + 1)] cs (fun k => w2.heap.size ≤ k ∧ k < w3.heap.size) (fun _ => False) ?ha ?ho ?hx rfl ?ht ?h1 HR.out (by omega) (by omega) HCN.out ?hcc (Nat.le_refl _) ?hM (fun _ h => h.elim) (Below.refl _ _) ?_; (case ha => first | (go_simp; done) | (go_simp; rfl)); (case ho => exact (Nat.mul_one t).symm); (case hx => first | (go_simp; done) | (go_simp; rfl)); (case ht => kernel_rfl); (case h1 => simp [Value.oneCell']); (case hcc => intro j u hu; have := HCC.out j u hu; rw [add_row] at this; rw [Int.toNat_natCast] at this ⊢; exact this); (case hM => (rw [seg_one HCN.out]; exact rfl)); intro w7 hr7 hb7 hg7; rw [Int.toNat_natCast, HSTEP.out] at hr7; have hf7 := (Far.of_below (f := fun k => w2.heap.size ≤ k ∧ k < w3.heap.size) (Below.refl wr.heap.size wr)).grown hg7 (fun k e => by cases e; exact HR.out.1 g rfl); have HR7 := Lib.hid hr7; have HT7 := Lib.hid (HT.out.stored (ok := fun k => w2.heap.size ≤ k ∧ k < w3.heap.size) HW2.out hb7 hg7 (HR.out.1 g rfl) (fun k a b => by omega)); have HL7 := Lib.hid (R_other HLT.out hf7 (fun k a b => by have := HB4.out.size; omega)); have HP7 := Lib.hid (R_other HP.out hf7 (fun k a b => by have := HB4.out.size; have := HB5.out.size; have := HSZ0.out; omega)); have HS7 := Lib.hid (Nat.le_trans HSZ.out hf7.size); clear hr7 hb7 hg7 hf7))
            go_roundw
            case rel => exact ⟨k + 1, hkl, by simp, HT7.out, HR7.out, HL7.out, HP7.out, HS7.out⟩
            case measure => simp [intOf]; omega
          · have HE := Lib.hid (show k = P.length by omega)
            have d1 : decide ((k : Int) < (P.length : Int)) = false := decide_eq_false (by omega)
            have d2 : decide (k < P.length) = false := decide_eq_false hkl
            have HT := Lib.hid hT; have HR := Lib.hid hR; have HLT := Lib.hid hLT; have HSZ := Lib.hid hsz
            clear hT hR hLT hP hsz
            go_wp2
            go_roundw
            case rel => exact ⟨i + 1, by omega, by simp, HT.out, by have := HR.out; rw [HE.out, HEND.out] at this; exact this, HLT.out, HSZ.out⟩
            case measure => simp [intOf]; omega
    · have HI := Lib.hid (show i = T.length + 1 by omega)
      have e1 : decide ((i : Int) ≤ (T.length : Int)) = false := decide_eq_false (by omega)
      have e2 : decide (i ≤ T.length) = false := decide_eq_false hil
      have hR := HR.out
      rw [HI.out, HALL.out] at hR
      have HRR := Lib.hid hR
      clear hR HR HLT
      go_wp2
      obtain ⟨wo, rfl⟩ : ∃ wo : World, wo = wr := ⟨_, rfl⟩
      go_loopw [14] (fun v14 wk => ∃ t : Nat, t ≤ S.length ∧ v14 = .int .i64 (t : Int) ∧ wo = wk) (fun v14 _ => S.length - (intOf v14).toNat)
      case atStart => exact ⟨0, Nat.zero_le _, rfl, rfl⟩
      case round =>
        obtain ⟨t, ht, rfl, rfl⟩ := hrel
        by_cases htl2 : t < S.length
        · have d1 : decide ((t : Int) < (S.length : Int)) = true := decide_eq_true (by omega)
          have d2 : decide (t < S.length) = true := decide_eq_true htl2
          obtain ⟨a3, rfl, hs3⟩ := Kd.at_int (Kd.R_reads' HRR.out).2.2 (t : Int) (by omega) (by rw [List.length_replicate]; omega)
          rw [Int.toNat_natCast, rd_rep _ _ _ htl2] at hs3
          go_wp2
          go_roundw
          case rel => exact ⟨t + 1, htl2, by simp, by first | rfl | trivial⟩
          case measure => simp [intOf]; omega
        · have d1 : decide ((t : Int) < (S.length : Int)) = false := decide_eq_false (by omega)
          have d2 : decide (t < S.length) = false := decide_eq_false htl2
          go_wp2_with (go_at_call 20; go_must (refine (iawake_u _).mono ?_; rintro e w9 ⟨rfl, hb9⟩; have HB9 := Lib.hid (HT.out.below hb9).bel; clear hb9))
          go_ret
          exact ⟨rfl, HB9.out⟩
end Go.Proofs.Ytlkhdbfhnpbbhaa
