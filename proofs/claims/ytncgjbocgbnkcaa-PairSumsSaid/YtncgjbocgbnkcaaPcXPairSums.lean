/- For any sketches: their Sum is what the document says, or none. No condition. -/
import Derived.Test.YtncgjbocgbnkcaaPcM4
namespace Go.Proofs.Ytncgjbocgbnkcaa
set_option linter.unusedVariables false
set_option linter.unusedSimpArgs false
open Go.RowKit Go.Maps Go.Proofs.YtncgjbocgbnkcaaW.PrintWords Go.Proofs.YtncgjbocgbnkcaaW.PrintLast Go.Proofs.YtncgjbocgbnkcaaW.PrintMore Go.Proofs.Ytncgjbocgbnkcaa.Pure Go.Proofs.Ytncgjbocgbnkcaa.Q Go.Proofs.Ytncgjbocgbnkcaa.Hi Go.Proofs.Ytncgjbocgbnkcaa.Ga
set_option maxHeartbeats 8000000 in
set_option maxRecDepth 100000 in
theorem Sums_no (A0 : Option Addr) (c0 : Nat) (l : List SV) (w : World) (C0 : Kd.C kV w A0 l.length l) (hO : ∀ v ∈ l, v.wf) (hl : 12 < l.length) :
    Calls Try.prog 9 #[.slice A0 l.length c0] w fun e w' => e = .returned (.bool true) ∧ Below w.heap.size w w' := by
  have e1 : decide ((12 : Int) < (l.length : Int)) = true := decide_eq_true (by omega)
  have e2 : decide (12 < l.length) = true := decide_eq_true hl
  have HL := Lib.hid (Below.refl w.heap.size w)
  clear C0 hO hl
  go_enter Try.func9, Try.ntmps9
  go_wp2_with (first
    | (go_at_call 25; (with_reducible refine (awake_p _).mono ?_); rintro e w0_ ⟨rfl, hb⟩; have HL_ := HL.out.trans (hb.mono HL.out.size); clear HL; have HL := Lib.hid HL_; clear HL_; clear hb))
  go_ret
  exact ⟨rfl, HL.out⟩
set_option maxHeartbeats 8000000 in
set_option maxRecDepth 100000 in
theorem Sums_yes (A0 : Option Addr) (c0 : Nat) (l : List SV) (w : World) (C0 : Kd.C kV w A0 l.length l) (hO : ∀ v ∈ l, v.wf) (hl : l.length ≤ 12) :
    Calls Try.prog 9 #[.slice A0 l.length c0] w fun e w' => e = .returned (.bool true) ∧ Below w.heap.size w w' := by
  have e1 : decide ((12 : Int) < (l.length : Int)) = false := decide_eq_false (by omega)
  have e2 : decide (12 < l.length) = false := decide_eq_false (by omega)
  have hu62 := Try.underlying45
  have HC0 := Lib.hid C0; have HO := Lib.hid hO
  clear C0 hO
  go_enter Try.func9, Try.ntmps9
  go_wp2
  have HS := WS.start w
  go_loopw [4, 5, 6] (fun v4 v5 v6 wr => ∃ (i : Nat) (b : Bool) (v : SV) (A : Option Addr) (c : Nat) (B : Option Addr) (d : Nat) (mv : Value), v4 = .bool b ∧ v5 = mv ∧ v6 = .int .i64 i ∧ i ≤ l.length ∧ WS w wr v A c B d mv (l.take i) ∧ v.wf ∧ (b = false → AllOk (l.take i) ∧ sumV (l.take i) = v) ∧ (b = true → ¬ AllOk l)) (fun _ _ vi _ => l.length - (intOf vi).toNat)
  case atStart =>
    refine ⟨0, false, zV, none, 0, none, 0, _, rfl, rfl, rfl, Nat.zero_le _, ?_, zV_wf, fun _ => ⟨AllOk.nil, sumV_nil⟩, (fun h => by cases h)⟩
    rw [List.take_zero]
    exact HS
  case round =>
    clear HS
    obtain ⟨i, b, v, A, c, B, d, mv, rfl, rfl, rfl, hi, hP, hvw, hb0, hb1⟩ := hrel
    have HWS := Lib.hid hP; have HVW := Lib.hid hvw; have HB0 := Lib.hid hb0; have HB1 := Lib.hid hb1
    clear hP hvw hb0 hb1
    by_cases hil : i < l.length
    · have e3 : decide ((i : Int) < (l.length : Int)) = true := decide_eq_true (by omega)
      have e3b : decide (i < l.length) = true := decide_eq_true hil
      obtain ⟨ad, A1, c1, B1, d1, hax, m1, m2, C1, C2, q0, q1, q2, q3, q4, q5⟩ := at_V HC0.out (i : Int) (by omega) (by omega)
      rw [Int.toNat_natCast] at q0 q1 q2 q3 q4 q5
      rw [rd_V_at hil] at m1 m2 C1 C2 q0 q1 q2 q3 q4 q5
      obtain ⟨u, hv⟩ : ∃ v, l[i] = v := ⟨_, rfl⟩
      rw [hv] at m1 m2 C1 C2 q0 q1 q2 q3 q4 q5
      have et : l.take (i + 1) = l.take i ++ [u] := by rw [← hv, List.take_succ_eq_append_getElem hil]
      have hum : u ∈ l := by rw [← hv]; exact List.getElem_mem _
      have huw := HO.out u hum
      have HE := Lib.hid et; have HUW := Lib.hid huw; have HI := Lib.hid hil; have HUM := Lib.hid hum
      have HC1 := Lib.hid (And.intro C1 (And.intro m1 (And.intro C2 m2)))
      have Q0 := Lib.hid q0; have Q1 := Lib.hid q1; have Q2 := Lib.hid q2; have Q3 := Lib.hid q3; have Q4 := Lib.hid q4; have Q5 := Lib.hid q5
      have HLT := Lib.hid (show (l.take i).length ≤ 12 by rw [List.length_take]; omega)
      clear m1 m2 C1 C2 q0 q1 q2 q3 q4 q5 hv et hum huw
      subst hax
      have p0_ := elem HWS.out.bel Q0.out; have p1_ := elem HWS.out.bel Q1.out; have p2_ := elem HWS.out.bel Q2.out; have p3_ := elem HWS.out.bel Q3.out; have p4_ := elem HWS.out.bel Q4.out; have p5_ := elem HWS.out.bel Q5.out
      obtain ⟨WR, HWR⟩ : ∃ W, wr = W := ⟨_, rfl⟩
      subst HWR
      cases b
      · obtain ⟨hal, hsv⟩ := HB0.out rfl
        cases hok : u.ok
        · have HOK := Lib.hid hok
          have HN := Lib.hid (show ¬ AllOk l from fun h => by have := (h u HUM.out).2; rw [hok] at this; cases this)
          clear hok hal hsv HB0 HB1
          go_wp2_with (first | (go_at_call 39; (with_reducible refine (copyR ((skV HC1.out.1 HC1.out.2.1 HC1.out.2.2.1 HC1.out.2.2.2 HUW.out).below HWS.out.bel (Nat.le_refl _))).mono ?_); rintro e w1_ ⟨A2, c2, B2, d2, rfl, hR1, hR2, hb⟩; have HQ := Lib.hid (And.intro (Kd.R_lower (Kd.R_mono (Kd.R_bound hR1) (fun _ hk => hk.2.1)) HWS.out.bel.size) (Kd.R_lower (Kd.R_mono (Kd.R_bound hR2) (fun _ hk => hk.2.1)) HWS.out.bel.size)); have HZ := Lib.hid (And.intro (fun k (hk : u5.ownBlock = some k) => Kd.R_lt HWS.out.rm k hk) (blk_lt HWS.out.bx)); have n_ := HWS.out.below hb; clear HWS; have HWS := Lib.hid n_; clear p0_ p1_ p2_ p3_ p4_ p5_; clear n_ hb hR1 hR2) | ((with_reducible refine gate_builtin (b := .append) (xs := #[.tmp 19, .tmp 25]) rfl ?_); at_builtin; have HW2 := Lib.hid (HWS.out.below (below_alloc (Below.refl _ _) (.cells #[.slice A2 u.h.length c2, .slice B2 u.k.length d2, .int .u64 u.g.n, .int .u64 u.g.nans, .int .u64 u.g.lo, .int .u64 u.g.hi] 45))); have HQ2 := Lib.hid (And.intro (Kd.R_alloc HQ.out.1 (.cells #[.slice A2 u.h.length c2, .slice B2 u.k.length d2, .int .u64 u.g.n, .int .u64 u.g.nans, .int .u64 u.g.lo, .int .u64 u.g.hi] 45)) (Kd.R_alloc HQ.out.2 (.cells #[.slice A2 u.h.length c2, .slice B2 u.k.length d2, .int .u64 u.g.n, .int .u64 u.g.nans, .int .u64 u.g.lo, .int .u64 u.g.hi] 45))); refine Kd.R_append_rows kV (Rr := kV.M (w1_.alloc (.cells #[.slice A2 u.h.length c2, .slice B2 u.k.length d2, .int .u64 u.g.n, .int .u64 u.g.nans, .int .u64 u.g.lo, .int .u64 u.g.hi] 45)) w.heap.size (fun k => wr.heap.size ≤ k)) (w0 := w) w.heap.size rfl (.tmp 19) (.tmp 25) 60 45 (.agg #[.slice none 0 0, .slice none 0 0, .int .u64 0, .int .u64 0, .int .u64 0, .int .u64 0]) 80 rfl Try.underlying60 info45_ rfl (by decide) (by omega) u5 (l.take i) [u] (some ⟨w1_.heap.size, 0, none⟩) 1 _ (fun k => k ≠ w.heap.size) (fun k => wr.heap.size ≤ k) rfl rfl ?aO ?aR (fun _ _ h => h) ?aK ?aF ?aB ?aS ?aL ?_; (case aR => exact reads_one (blk_new w1_ (.cells #[.slice A2 u.h.length c2, .slice B2 u.k.length d2, .int .u64 u.g.n, .int .u64 u.g.nans, .int .u64 u.g.lo, .int .u64 u.g.hi] 45)) (kV_mkM HQ2.out.1 HQ2.out.2)); (case aB => exact HW2.out.bel); (case aF => exact (fun k hk => by have := blk_lt HW2.out.bx; omega)); (case aK => exact (fun k hk => ⟨by have := HZ.out.2; omega, fun e => by have := HZ.out.1 k e.symm; omega⟩)); (case aO => exact HW2.out.rm); (case aS => exact HW2.out.bel.size); (case aL => have := HLT.out; omega); intro v_ w2_ ho hbL hg hat; rw [← HE.out] at ho; have n_ := HW2.out.app ho hbL hg; clear HWS HW2 HQ HQ2 HZ; have HWS := Lib.hid n_; clear n_ ho hbL hg hat; have p0_ := elem HWS.out.bel Q0.out; have p1_ := elem HWS.out.bel Q1.out; have p2_ := elem HWS.out.bel Q2.out; have p3_ := elem HWS.out.bel Q3.out; have p4_ := elem HWS.out.bel Q4.out; have p5_ := elem HWS.out.bel Q5.out) | (go_at_call 40; (with_reducible refine (rcheckV ((skV HC1.out.1 HC1.out.2.1 HC1.out.2.2.1 HC1.out.2.2.2 HUW.out).below HWS.out.bel (Nat.le_refl _)) HUW.out HOK.out).mono ?_); rintro e w3_ ⟨rfl, hb⟩; have n_ := HWS.out.below hb; clear HWS; have HWS := Lib.hid n_; clear n_ hb))
          go_roundw
          case rel => exact ⟨i + 1, true, v, A, c, B, d, _, rfl, rfl, by go_num, by have := HI.out; omega, HWS.out, HVW.out, (fun h => by cases h), fun _ => HN.out⟩
          case measure => have := HI.out; simp [intOf]; omega
        · have HOK := Lib.hid hok
          have ha2 := hal.snoc HUW.out hok
          rw [← HE.out] at ha2
          obtain ⟨wv, ov⟩ := sumV_ok hal
          rw [hsv] at wv ov
          have hs2 := sumV_snoc hal HUW.out hok
          rw [← HE.out, hsv] at hs2
          have HAL := Lib.hid (AllOk.two wv ov HUW.out hok); have HA2 := Lib.hid ha2
          obtain ⟨z, hz⟩ : ∃ z, sumV (l.take (i + 1)) = z := ⟨_, rfl⟩
          have HSV := Lib.hid (show sumV [v, u] = z by rw [← hs2, hz]); have HZE := Lib.hid hz
          have HZW := Lib.hid (show z.wf by rw [← hz]; exact (sumV_ok ha2).1)
          clear hok hal hsv HB0 HB1 ha2 wv ov hs2 hz
          go_wp2_with (first | (go_at_call 39; (with_reducible refine (copyR ((skV HC1.out.1 HC1.out.2.1 HC1.out.2.2.1 HC1.out.2.2.2 HUW.out).below HWS.out.bel (Nat.le_refl _))).mono ?_); rintro e w1_ ⟨A2, c2, B2, d2, rfl, hR1, hR2, hb⟩; have HQ := Lib.hid (And.intro (Kd.R_lower (Kd.R_mono (Kd.R_bound hR1) (fun _ hk => hk.2.1)) HWS.out.bel.size) (Kd.R_lower (Kd.R_mono (Kd.R_bound hR2) (fun _ hk => hk.2.1)) HWS.out.bel.size)); have HZ := Lib.hid (And.intro (fun k (hk : u5.ownBlock = some k) => Kd.R_lt HWS.out.rm k hk) (blk_lt HWS.out.bx)); have n_ := HWS.out.below hb; clear HWS; have HWS := Lib.hid n_; clear p0_ p1_ p2_ p3_ p4_ p5_; clear n_ hb hR1 hR2) | ((with_reducible refine gate_builtin (b := .append) (xs := #[.tmp 19, .tmp 25]) rfl ?_); at_builtin; have HW2 := Lib.hid (HWS.out.below (below_alloc (Below.refl _ _) (.cells #[.slice A2 u.h.length c2, .slice B2 u.k.length d2, .int .u64 u.g.n, .int .u64 u.g.nans, .int .u64 u.g.lo, .int .u64 u.g.hi] 45))); have HQ2 := Lib.hid (And.intro (Kd.R_alloc HQ.out.1 (.cells #[.slice A2 u.h.length c2, .slice B2 u.k.length d2, .int .u64 u.g.n, .int .u64 u.g.nans, .int .u64 u.g.lo, .int .u64 u.g.hi] 45)) (Kd.R_alloc HQ.out.2 (.cells #[.slice A2 u.h.length c2, .slice B2 u.k.length d2, .int .u64 u.g.n, .int .u64 u.g.nans, .int .u64 u.g.lo, .int .u64 u.g.hi] 45))); refine Kd.R_append_rows kV (Rr := kV.M (w1_.alloc (.cells #[.slice A2 u.h.length c2, .slice B2 u.k.length d2, .int .u64 u.g.n, .int .u64 u.g.nans, .int .u64 u.g.lo, .int .u64 u.g.hi] 45)) w.heap.size (fun k => wr.heap.size ≤ k)) (w0 := w) w.heap.size rfl (.tmp 19) (.tmp 25) 60 45 (.agg #[.slice none 0 0, .slice none 0 0, .int .u64 0, .int .u64 0, .int .u64 0, .int .u64 0]) 80 rfl Try.underlying60 info45_ rfl (by decide) (by omega) u5 (l.take i) [u] (some ⟨w1_.heap.size, 0, none⟩) 1 _ (fun k => k ≠ w.heap.size) (fun k => wr.heap.size ≤ k) rfl rfl ?aO ?aR (fun _ _ h => h) ?aK ?aF ?aB ?aS ?aL ?_; (case aR => exact reads_one (blk_new w1_ (.cells #[.slice A2 u.h.length c2, .slice B2 u.k.length d2, .int .u64 u.g.n, .int .u64 u.g.nans, .int .u64 u.g.lo, .int .u64 u.g.hi] 45)) (kV_mkM HQ2.out.1 HQ2.out.2)); (case aB => exact HW2.out.bel); (case aF => exact (fun k hk => by have := blk_lt HW2.out.bx; omega)); (case aK => exact (fun k hk => ⟨by have := HZ.out.2; omega, fun e => by have := HZ.out.1 k e.symm; omega⟩)); (case aO => exact HW2.out.rm); (case aS => exact HW2.out.bel.size); (case aL => have := HLT.out; omega); intro v_ w2_ ho hbL hg hat; rw [← HE.out] at ho; have n_ := HW2.out.app ho hbL hg; clear HWS HW2 HQ HQ2 HZ; have HWS := Lib.hid n_; clear n_ ho hbL hg hat; have p0_ := elem HWS.out.bel Q0.out; have p1_ := elem HWS.out.bel Q1.out; have p2_ := elem HWS.out.bel Q2.out; have p3_ := elem HWS.out.bel Q3.out; have p4_ := elem HWS.out.bel Q4.out; have p5_ := elem HWS.out.bel Q5.out) | (go_at_call 40; (with_reducible refine (rcheckV ((skV HC1.out.1 HC1.out.2.1 HC1.out.2.2.1 HC1.out.2.2.2 HUW.out).below HWS.out.bel (Nat.le_refl _)) HUW.out HOK.out).mono ?_); rintro e w3_ ⟨rfl, hb⟩; have n_ := HWS.out.below hb; clear HWS; have HWS := Lib.hid n_; clear n_ hb))
          have n_ := HWS.out.below (below_drew (Below.refl _ _)); clear HWS; have HWS := Lib.hid n_; clear n_
          refine wp_region_noPanic ?_
          refine start_ (n := 7) (S := fun w' => w'.cell? ⟨w.heap.size, 0, none⟩ = some (.slice A v.h.length c) ∧ w'.cell? ⟨w.heap.size, 1, none⟩ = some (.slice B v.k.length d) ∧ w'.cell? ⟨w.heap.size, 2, none⟩ = some (.int .u64 v.g.n) ∧ w'.cell? ⟨w.heap.size, 3, none⟩ = some (.int .u64 v.g.nans) ∧ w'.cell? ⟨w.heap.size, 4, none⟩ = some (.int .u64 v.g.lo) ∧ w'.cell? ⟨w.heap.size, 5, none⟩ = some (.int .u64 v.g.hi) ∧ w'.cell? (ad.add (i * 6)) = some (.slice A1 u.h.length c1) ∧ w'.cell? (⟨(ad.add (i * 6)).block, (ad.add (i * 6)).off + 1, none⟩) = some (.slice B1 u.k.length d1) ∧ w'.cell? (⟨(ad.add (i * 6)).block, (ad.add (i * 6)).off + 2, none⟩) = some (.int .u64 u.g.n) ∧ w'.cell? (⟨(ad.add (i * 6)).block, (ad.add (i * 6)).off + 3, none⟩) = some (.int .u64 u.g.nans) ∧ w'.cell? (⟨(ad.add (i * 6)).block, (ad.add (i * 6)).off + 4, none⟩) = some (.int .u64 u.g.lo) ∧ w'.cell? (⟨(ad.add (i * 6)).block, (ad.add (i * 6)).off + 5, none⟩) = some (.int .u64 u.g.hi)) (ds := [6]) #[false, false, false, false, false, false, false] (by kernel_rfl) rfl rfl ⟨blk_cell HWS.out.bx 0, blk_cell HWS.out.bx 1, blk_cell HWS.out.bx 2, blk_cell HWS.out.bx 3, blk_cell HWS.out.bx 4, blk_cell HWS.out.bx 5, elem HWS.out.bel Q0.out, elem HWS.out.bel Q1.out, elem HWS.out.bel Q2.out, elem HWS.out.bel Q3.out, elem HWS.out.bel Q4.out, elem HWS.out.bel Q5.out⟩ (fun hHeld => ?_)
          generalize w3_.drew = Y at HWS hHeld ⊢
          refine pure_ (i := 1) (N := some 39) (v := ?_) (a' := ?_) #[false, true, false, false, false, false, false] rfl rfl (by kernel_rfl) (fun _ _ _ h => h) (Or.inl ⟨by rfl, ?_⟩) ?_ ?_
          rotate_left
          · intro w'
            go_simp
            with_reducible rfl
          rotate_left
          · simp only [Act.put, List.setIfInBounds_toArray, List.set_cons_zero, List.set_cons_succ, i64_w, i32_w]
            rfl
          refine pure_ (i := 2) (N := some 40) (v := ?_) (a' := ?_) #[false, true, true, false, false, false, false] rfl rfl (by kernel_rfl) (fun _ _ _ h => h) (Or.inl ⟨by rfl, ?_⟩) ?_ ?_
          rotate_left
          · intro w'
            go_simp
            with_reducible rfl
          rotate_left
          · simp only [Act.put, List.setIfInBounds_toArray, List.set_cons_zero, List.set_cons_succ, i64_w, i32_w]
            rfl
          refine pure_ (i := 3) (N := some 41) (v := ?_) (a' := ?_) #[false, true, true, true, false, false, false] rfl rfl (by kernel_rfl) (fun _ _ _ h => h) (Or.inl ⟨by rfl, ?_⟩) ?_ ?_
          rotate_left
          · intro w'
            go_simp
            with_reducible rfl
          rotate_left
          · simp only [Act.put, List.setIfInBounds_toArray, List.set_cons_zero, List.set_cons_succ, i64_w, i32_w]
            rfl
          refine take_ (i := 0) (N := some 38) (v := ?_) (a' := ?_) #[true, true, true, true, false, false, false] rfl rfl (by kernel_rfl) (fun _ _ _ h => h) (Or.inl ⟨by rfl, ?_⟩) hHeld ?_ ?_
          rotate_left
          · rintro w' ⟨s0_, s1_, s2_, s3_, s4_, s5_, s6_, s7_, s8_, s9_, s10_, s11_⟩
            go_simp
            with_reducible rfl
          rotate_left
          · simp only [Act.put, List.setIfInBounds_toArray, List.set_cons_zero, List.set_cons_succ, i64_w, i32_w]
            rfl
          refine take_ (i := 4) (N := some 42) (v := ?_) (a' := ?_) #[true, true, true, true, true, false, false] rfl rfl (by kernel_rfl) (fun _ _ _ h => h) (Or.inl ⟨by rfl, ?_⟩) hHeld ?_ ?_
          rotate_left
          · rintro w' ⟨s0_, s1_, s2_, s3_, s4_, s5_, s6_, s7_, s8_, s9_, s10_, s11_⟩
            go_simp
            with_reducible rfl
          rotate_left
          · simp only [Act.put, List.setIfInBounds_toArray, List.set_cons_zero, List.set_cons_succ, i64_w, i32_w]
            rfl
          clear hHeld
          refine one_ (i := 5) (N := some 43) #[true, true, true, true, true, true, false] rfl rfl (by kernel_rfl) (by decide) (fun K hK => ?_)
          refine goes_ Try.func43 (by kernel_rfl) rfl #[.agg #[.slice A v.h.length c, .slice B v.k.length d, .int .u64 v.g.n, .int .u64 v.g.nans, .int .u64 v.g.lo, .int .u64 v.g.hi], .agg #[.slice A1 u.h.length c1, .slice B1 u.k.length d1, .int .u64 u.g.n, .int .u64 u.g.nans, .int .u64 u.g.lo, .int .u64 u.g.hi]] (by rfl) rfl rfl (by (try simp only [List.map_toArray, List.map_cons, List.map_nil]); first | done | rfl) ?_
          (with_reducible refine (rmergeR (HWS.out.sk HVW.out) ((skV HC1.out.1 HC1.out.2.1 HC1.out.2.2.1 HC1.out.2.2.2 HUW.out).below HWS.out.bel (Nat.le_refl _)) HAL.out HSV.out).mono ?_)
          rintro e w8_ ⟨A3, c3, B3, d3, rfl, hR1, hR2, hb⟩
          refine ⟨_, rfl, ?_⟩
          have HQ := Lib.hid (And.intro (Kd.R_lower hR1 HWS.out.bel.size) (Kd.R_lower hR2 HWS.out.bel.size)); have n_ := HWS.out.below hb; clear HWS; have HWS := Lib.hid n_; clear n_ hb hR1 hR2
          refine hK.out _ _ ⟨blk_cell HWS.out.bx 0, blk_cell HWS.out.bx 1, blk_cell HWS.out.bx 2, blk_cell HWS.out.bx 3, blk_cell HWS.out.bx 4, blk_cell HWS.out.bx 5, elem HWS.out.bel Q0.out, elem HWS.out.bel Q1.out, elem HWS.out.bel Q2.out, elem HWS.out.bel Q3.out, elem HWS.out.bel Q4.out, elem HWS.out.bel Q5.out⟩ (fun hHeld => ?_)
          clear hK K
          refine norm_ (a' := ?_) ?_ ?_
          rotate_left
          · show Act.put _ (some 43) _ = _
            simp only [Act.put, List.setIfInBounds_toArray, List.set_cons_zero, List.set_cons_succ, i64_w, i32_w]
            rfl
          clear hHeld
          refine last_ (i := 6) (N := none) #[true, true, true, true, true, true, true] rfl rfl (by kernel_rfl) (by decide) (fun K hK => ?_)
          have r0_ : w8_.cell? ⟨w.heap.size, 0, none⟩ = some (.slice A v.h.length c) := blk_cell HWS.out.bx 0; have q0_ := blk_frozen HWS.out.bx 0
          have r1_ : w8_.cell? ⟨w.heap.size, 1, none⟩ = some (.slice B v.k.length d) := blk_cell HWS.out.bx 1; have q1_ := blk_frozen HWS.out.bx 1
          have r2_ : w8_.cell? ⟨w.heap.size, 2, none⟩ = some (.int .u64 v.g.n) := blk_cell HWS.out.bx 2; have q2_ := blk_frozen HWS.out.bx 2
          have r3_ : w8_.cell? ⟨w.heap.size, 3, none⟩ = some (.int .u64 v.g.nans) := blk_cell HWS.out.bx 3; have q3_ := blk_frozen HWS.out.bx 3
          have r4_ : w8_.cell? ⟨w.heap.size, 4, none⟩ = some (.int .u64 v.g.lo) := blk_cell HWS.out.bx 4; have q4_ := blk_frozen HWS.out.bx 4
          have r5_ : w8_.cell? ⟨w.heap.size, 5, none⟩ = some (.int .u64 v.g.hi) := blk_cell HWS.out.bx 5; have q5_ := blk_frozen HWS.out.bx 5
          refine skip_ (w1 := ?_) (by rfl) rfl ?_ ?_
          rotate_left
          · go_simp
            rfl
          refine hK.out _ _ ?_
          clear hK K r0_ q0_ r1_ q1_ r2_ q2_ r3_ q3_ r4_ q4_ r5_ q5_
          refine name_last (fun X HN => ?_)
          have n_ := HWS.out.put HQ.out.1 HQ.out.2
          rw [HN.out] at n_
          clear HWS HN HQ; have HWS := Lib.hid n_; clear n_
          refine done_ (by kernel_rfl) ?_
          refine NoPanic.normal ?_
          go_wp2
          go_roundw
          case rel => exact ⟨i + 1, false, z, A3, c3, B3, d3, _, rfl, rfl, by go_num, by have := HI.out; omega, HWS.out, HZW.out, fun _ => ⟨HA2.out, HZE.out⟩, (fun h => by cases h)⟩
          case measure => have := HI.out; simp [intOf]; omega
      · have HN := Lib.hid (HB1.out rfl)
        clear HB0 HB1
        go_wp2_with (first | (go_at_call 39; (with_reducible refine (copyR ((skV HC1.out.1 HC1.out.2.1 HC1.out.2.2.1 HC1.out.2.2.2 HUW.out).below HWS.out.bel (Nat.le_refl _))).mono ?_); rintro e w1_ ⟨A2, c2, B2, d2, rfl, hR1, hR2, hb⟩; have HQ := Lib.hid (And.intro (Kd.R_lower (Kd.R_mono (Kd.R_bound hR1) (fun _ hk => hk.2.1)) HWS.out.bel.size) (Kd.R_lower (Kd.R_mono (Kd.R_bound hR2) (fun _ hk => hk.2.1)) HWS.out.bel.size)); have HZ := Lib.hid (And.intro (fun k (hk : u5.ownBlock = some k) => Kd.R_lt HWS.out.rm k hk) (blk_lt HWS.out.bx)); have n_ := HWS.out.below hb; clear HWS; have HWS := Lib.hid n_; clear p0_ p1_ p2_ p3_ p4_ p5_; clear n_ hb hR1 hR2) | ((with_reducible refine gate_builtin (b := .append) (xs := #[.tmp 19, .tmp 25]) rfl ?_); at_builtin; have HW2 := Lib.hid (HWS.out.below (below_alloc (Below.refl _ _) (.cells #[.slice A2 u.h.length c2, .slice B2 u.k.length d2, .int .u64 u.g.n, .int .u64 u.g.nans, .int .u64 u.g.lo, .int .u64 u.g.hi] 45))); have HQ2 := Lib.hid (And.intro (Kd.R_alloc HQ.out.1 (.cells #[.slice A2 u.h.length c2, .slice B2 u.k.length d2, .int .u64 u.g.n, .int .u64 u.g.nans, .int .u64 u.g.lo, .int .u64 u.g.hi] 45)) (Kd.R_alloc HQ.out.2 (.cells #[.slice A2 u.h.length c2, .slice B2 u.k.length d2, .int .u64 u.g.n, .int .u64 u.g.nans, .int .u64 u.g.lo, .int .u64 u.g.hi] 45))); refine Kd.R_append_rows kV (Rr := kV.M (w1_.alloc (.cells #[.slice A2 u.h.length c2, .slice B2 u.k.length d2, .int .u64 u.g.n, .int .u64 u.g.nans, .int .u64 u.g.lo, .int .u64 u.g.hi] 45)) w.heap.size (fun k => wr.heap.size ≤ k)) (w0 := w) w.heap.size rfl (.tmp 19) (.tmp 25) 60 45 (.agg #[.slice none 0 0, .slice none 0 0, .int .u64 0, .int .u64 0, .int .u64 0, .int .u64 0]) 80 rfl Try.underlying60 info45_ rfl (by decide) (by omega) u5 (l.take i) [u] (some ⟨w1_.heap.size, 0, none⟩) 1 _ (fun k => k ≠ w.heap.size) (fun k => wr.heap.size ≤ k) rfl rfl ?aO ?aR (fun _ _ h => h) ?aK ?aF ?aB ?aS ?aL ?_; (case aR => exact reads_one (blk_new w1_ (.cells #[.slice A2 u.h.length c2, .slice B2 u.k.length d2, .int .u64 u.g.n, .int .u64 u.g.nans, .int .u64 u.g.lo, .int .u64 u.g.hi] 45)) (kV_mkM HQ2.out.1 HQ2.out.2)); (case aB => exact HW2.out.bel); (case aF => exact (fun k hk => by have := blk_lt HW2.out.bx; omega)); (case aK => exact (fun k hk => ⟨by have := HZ.out.2; omega, fun e => by have := HZ.out.1 k e.symm; omega⟩)); (case aO => exact HW2.out.rm); (case aS => exact HW2.out.bel.size); (case aL => have := HLT.out; omega); intro v_ w2_ ho hbL hg hat; rw [← HE.out] at ho; have n_ := HW2.out.app ho hbL hg; clear HWS HW2 HQ HQ2 HZ; have HWS := Lib.hid n_; clear n_ ho hbL hg hat; have p0_ := elem HWS.out.bel Q0.out; have p1_ := elem HWS.out.bel Q1.out; have p2_ := elem HWS.out.bel Q2.out; have p3_ := elem HWS.out.bel Q3.out; have p4_ := elem HWS.out.bel Q4.out; have p5_ := elem HWS.out.bel Q5.out))
        go_roundw
        case rel => exact ⟨i + 1, true, v, A, c, B, d, _, rfl, rfl, by go_num, by have := HI.out; omega, HWS.out, HVW.out, (fun h => by cases h), fun _ => HN.out⟩
        case measure => have := HI.out; simp [intOf]; omega
    · have e3 : decide ((i : Int) < (l.length : Int)) = false := decide_eq_false (by omega)
      have e3b : decide (i < l.length) = false := decide_eq_false hil
      obtain rfl : i = l.length := by omega
      rw [List.take_length] at HWS HB0
      obtain ⟨AM, cM, rfl, hcM, hCM⟩ := Kd.R_reads HWS.out.rm
      have HB := Lib.hid HWS.out.bx; have HL := Lib.hid HWS.out.bel; have P0 := Lib.hid (HWS.out.sk HVW.out); have HCM := Lib.hid hCM
      clear hil hcM hCM
      cases b
      · obtain ⟨hal, hsv⟩ := HB0.out rfl
        have HAL := Lib.hid hal; have HSV := Lib.hid hsv
        clear hal hsv HB0 HB1 HWS
        go_wp2_with (first
          | (go_at_call 44; (with_reducible refine (sum_all HCM.out HAL.out HSV.out).mono ?_); rintro e w0_ ⟨A5, c5, B5, d5, rfl, k_, hb⟩; have HB_ := (hb.block _ (blk_lt HB.out)).trans HB.out; clear HB; have HB := Lib.hid HB_; clear HB_; have P0_ := P0.out.below hb (Nat.le_refl _); clear P0; have P0 := Lib.hid P0_; clear P0_; have HL_ := HL.out.trans (hb.mono HL.out.size); clear HL; have HL := Lib.hid HL_; clear HL_; have M1 := Lib.hid k_; clear k_; clear hb; obtain ⟨HBc0, HBc1, HBc2, HBc3, HBc4, HBc5⟩ := box6 HB.out; have HBlt := blk_lt HB.out)
          | (go_at_call 27; (with_reducible refine (rsameV (M1.out.alloc _) (P0.out.alloc _)).mono ?_); rintro e w1_ ⟨rfl, hb⟩; have hn_ := new_below hb; have hb2 := below_of_alloc hb; clear HBc0 HBc1 HBc2 HBc3 HBc4 HBc5 HBlt; have HB_ := (hb2.block _ (blk_lt HB.out)).trans HB.out; clear HB; have HB := Lib.hid HB_; clear HB_; have P0_ := P0.out.below hb2 (Nat.le_refl _); clear P0; have P0 := Lib.hid P0_; clear P0_; have M1_ := M1.out.below hb2 (Nat.le_refl _); clear M1; have M1 := Lib.hid M1_; clear M1_; have HL_ := HL.out.trans (hb2.mono HL.out.size); clear HL; have HL := Lib.hid HL_; clear HL_; have HB5 := Lib.hid hn_; clear hn_; clear hb hb2)
          | (go_at_call 25; (with_reducible refine (awake_p _).mono ?_); rintro e w2_ ⟨rfl, hb⟩; have HB_ := (hb.block _ (blk_lt HB.out)).trans HB.out; clear HB; have HB := Lib.hid HB_; clear HB_; have HB5_ := (hb.block _ (blk_lt HB5.out)).trans HB5.out; clear HB5; have HB5 := Lib.hid HB5_; clear HB5_; have P0_ := P0.out.below hb (Nat.le_refl _); clear P0; have P0 := Lib.hid P0_; clear P0_; have M1_ := M1.out.below hb (Nat.le_refl _); clear M1; have M1 := Lib.hid M1_; clear M1_; have HL_ := HL.out.trans (hb.mono HL.out.size); clear HL; have HL := Lib.hid HL_; clear HL_; clear hb))
        go_ret
        exact ⟨rfl, HL.out⟩
      · have HN := Lib.hid (HB1.out rfl)
        clear HB0 HB1 HWS
        go_wp2_with (first
          | (go_at_call 44; (with_reducible refine (sum_bad HCM.out HO.out HN.out).mono ?_); rintro e w0_ ⟨rfl, hb⟩; have HB_ := (hb.block _ (blk_lt HB.out)).trans HB.out; clear HB; have HB := Lib.hid HB_; clear HB_; have P0_ := P0.out.below hb (Nat.le_refl _); clear P0; have P0 := Lib.hid P0_; clear P0_; have HL_ := HL.out.trans (hb.mono HL.out.size); clear HL; have HL := Lib.hid HL_; clear HL_; clear hb; obtain ⟨HBc0, HBc1, HBc2, HBc3, HBc4, HBc5⟩ := box6 HB.out; have HBlt := blk_lt HB.out)
          | (go_at_call 27; (with_reducible refine (rsame0 _).mono ?_); rintro e w1_ ⟨rfl, hb⟩; have hn_ := new_below hb; have hb2 := below_of_alloc hb; clear HBc0 HBc1 HBc2 HBc3 HBc4 HBc5 HBlt; have HB_ := (hb2.block _ (blk_lt HB.out)).trans HB.out; clear HB; have HB := Lib.hid HB_; clear HB_; have P0_ := P0.out.below hb2 (Nat.le_refl _); clear P0; have P0 := Lib.hid P0_; clear P0_; have HL_ := HL.out.trans (hb2.mono HL.out.size); clear HL; have HL := Lib.hid HL_; clear HL_; have HB5 := Lib.hid hn_; clear hn_; clear hb hb2)
          | (go_at_call 25; (with_reducible refine (awake_p _).mono ?_); rintro e w2_ ⟨rfl, hb⟩; have HB_ := (hb.block _ (blk_lt HB.out)).trans HB.out; clear HB; have HB := Lib.hid HB_; clear HB_; have HB5_ := (hb.block _ (blk_lt HB5.out)).trans HB5.out; clear HB5; have HB5 := Lib.hid HB5_; clear HB5_; have P0_ := P0.out.below hb (Nat.le_refl _); clear P0; have P0 := Lib.hid P0_; clear P0_; have HL_ := HL.out.trans (hb.mono HL.out.size); clear HL; have HL := Lib.hid HL_; clear HL_; clear hb))
        go_ret
        exact ⟨rfl, HL.out⟩
end Go.Proofs.Ytncgjbocgbnkcaa
namespace Go.Proofs.Ytncgjbocgbnkcaa.Pure
set_option linter.unusedVariables false
set_option linter.unusedSimpArgs false
open Go.RowKit Go.Proofs.YtncgjbocgbnkcaaW.PrintWords Go.Proofs.Ytncgjbocgbnkcaa.Hi Go.Proofs.Ytncgjbocgbnkcaa.Ga
theorem PairSums_walk (A0 : Option Addr) (c0 : Nat) (l : List SV) (w : World) (C0 : Kd.C kV w A0 l.length l) (m0 : l.length ≤ c0) (w0 : Pure.WV l) :
    Calls Try.prog 9 #[.slice A0 l.length c0] w fun e w' => e = .returned (.bool true) ∧ Below w.heap.size w w' := by
  by_cases hl : 12 < l.length
  · exact Sums_no A0 c0 l w C0 w0.2.2 hl
  · exact Sums_yes A0 c0 l w C0 w0.2.2 (by omega)
end Go.Proofs.Ytncgjbocgbnkcaa.Pure
