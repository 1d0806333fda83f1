/- HistBytes, WHERE WHAT COMES IN IS OF BULK AT MOST 1048576: the buckets' bytes are the document's, behind any bytes, and are read again. -/
import Derived.Test.YtofgcacahfdjdaaHzM4
namespace Go.Proofs.Ytofgcacahfdjdaa.Pure
set_option linter.unusedVariables false
set_option linter.unusedSimpArgs false
open Go.RowKit Go.Maps Go.Deep Go.Proofs.YtofgcacahfdjdaaW.PrintWords Go.Proofs.YtofgcacahfdjdaaW.PrintLast Go.Proofs.YtofgcacahfdjdaaW.PrintMore Go.Proofs.Ytofgcacahfdjdaa.Hi Go.Proofs.Ytofgcacahfdjdaa.Vt Go.Proofs.Ytofgcacahfdjdaa.Hb
theorem strH_app (a b : List Int) : strOfNums (a ++ b) = strOfNums a ++ strOfNums b := by
  apply ByteArray.ext; simp [strOfNums, ByteArray.data_append]
theorem strH_size (a : List Int) : (strOfNums a).size = a.length := by simp [strOfNums, ByteArray.size]
theorem rput_c {W : World} {A : Option Addr} {c : Nat} {l : List S67} (hk : chk l = true) (hn : Bnum l) (h1 : Kd.C k67 W A l.length l) (h2 : l.length ≤ c) :
    Calls Try.prog 16 #[.slice A l.length c] W fun e w' => ∃ A' c', e = .returned (.slice A' (formB l).length c') ∧ (formB l).length ≤ c' ∧ Kd.C (Kd.int .u8) w' A' (formB l).length (formB l) ∧ Below W.heap.size W w' :=
  (varveref07_Put.calls 8000 A c l (formB l) W h1 h2 (refPut_eq l hk hn 8000 (by decide))).mono fun _ _ ⟨v, he, hR, hb⟩ => by
    obtain ⟨A', c', rfl, hc', hC'⟩ := Kd.R_reads hR
    exact ⟨A', c', he, hc', hC', hb⟩
set_option maxHeartbeats 4000000 in
set_option maxRecDepth 100000 in
theorem HistBytes_walk (A0 : Option Addr) (c0 : Nat) (l : List S67) (A1 : Option Addr) (c1 : Nat) (b : List Int) (w : World) (C0 : Kd.C k67 w A0 l.length l) (m0 : l.length ≤ c0) (w0 : WB l) (C1 : Kd.C (Kd.int .u8) w A1 b.length b) (m1 : b.length ≤ c1) (w1 : WBy b ∧ b.length ≤ 140737488351232) (u0 : l.length ≤ 1048576) (u1 : b.length ≤ 1048576) :
    Calls Try.prog 4 #[.slice A0 l.length c0, .slice A1 b.length c1] w fun e w' => e = .returned (.bool true) ∧ Below w.heap.size w w' := by
  have hlen := w0.len
  have hn := w0.num
  have CK := Lib.hid (fun W (hb : Below w.heap.size w W) => hrcheck_c hlen C0 m0 hb)
  have CB := Lib.hid (fun W (hb : Below w.heap.size w W) => hbytes_c (by omega) C1 m1 hb)
  have BK := Lib.hid (fun W (hb : Below w.heap.size w W) => hbks_c hlen C0 m0 hb)
  have PU := Lib.hid (fun W A B c d (h0 : Kd.C (Kd.int .u8) W A b.length b) (h00 : b.length ≤ c) (h1 : Kd.C k67 W B l.length l) (h2 : l.length ≤ d) => hput_c h0 h00 h1 h2 hlen hn (by omega))
  have hb0 := Below.refl w.heap.size w
  cases hk : chk l with
  | false =>
    rw [hk] at CK PU
    obtain ⟨X, hX⟩ : ∃ X, b ++ formB (if false = true then l else []) = X := ⟨_, rfl⟩
    simp only [hX] at PU
    clear C0 m0 w0 C1 m1 w1 u0 u1 hlen hn hk hX
    go_enter Try.func4, Try.ntmps4
    go_wp2_with (first
      | (go_at_call 9; refine (CB.out _ hb0).mono ?_; rintro e w1 ⟨A2, c2, rfl, lc2, hC2, hb⟩; have hb1 := hb0.trans (hb.mono hb0.size); clear hb0 hb CB)
      | (go_at_call 14; refine (BK.out _ hb1).mono ?_; rintro e w2 ⟨A3, c3, rfl, lc3, hC3, hb⟩; have hC2' := Kd.C_below hC2 hb; have hb2 := hb1.trans (hb.mono hb1.size); clear hb1 hb BK hC2)
      | (go_at_call 13; refine (PU.out _ _ _ _ _ hC2' lc2 hC3 lc3).mono ?_; rintro e w3 ⟨A4, c4, rfl, lc4, hC4, hb⟩; have hb3 := hb2.trans (hb.mono hb2.size); clear hb2 hb PU hC2' hC3 hC4 lc4 lc2 lc3)
      | (go_at_call 15; refine (CK.out _ hb3).mono ?_; rintro e w4 ⟨rfl, hb⟩; have hb4 := hb3.trans (hb.mono hb3.size); clear hb3 hb CK)
      | (go_at_call 11; refine (hawake_c _).mono ?_; rintro e w9 ⟨rfl, hb⟩; have hb9 := hb4.trans (hb.mono hb4.size); clear hb4 hb))
    go_ret
    exact ⟨rfl, hb9⟩
  | true =>
    rw [hk] at CK PU
    simp only [if_true] at PU
    have RP := Lib.hid (fun W (hb : Below w.heap.size w W) => rput_c (c := c0) hk hn (Kd.C_below C0 hb) m0)
    have hfl := formB_len hk hn
    have hch := chk_len hk
    have hXB : WBy (b ++ formB l) := ⟨by rw [List.length_append]; omega, fun x hx => by
      rcases List.mem_append.1 hx with hx | hx
      · exact w1.1.2 x hx
      · exact formB_by l x hx⟩
    have hget : getH (b ++ formB l) (b.length : Int) = some (l, (b ++ formB l).length) := getH_of hk hn (Int.natCast_nonneg _) (by rw [List.length_append]; omega) (Nat.le_refl _) (by rw [List.take_length, Int.toNat_natCast, List.drop_left])
    have hcat : strOfNums b ++ strOfNums (formB l) = strOfNums (b ++ formB l) := by rw [strH_app]
    have hsz : (strOfNums b).size + (strOfNums (formB l)).size ≤ 9223372036854775807 := by rw [strH_size, strH_size]; omega
    obtain ⟨Y, hY⟩ : ∃ Y, formB l = Y := ⟨_, rfl⟩
    rw [hY] at RP hXB hget hcat hsz
    simp only [hY] at PU
    obtain ⟨X, hX⟩ : ∃ X, b ++ Y = X := ⟨_, rfl⟩
    rw [hX] at hXB hget hcat
    simp only [hX] at PU
    have GX := Lib.hid (fun W A c (hC : Kd.C (Kd.int .u8) W A X.length X) (hc : X.length ≤ c) => hget ▸ hget_c hXB (b.length : Int) hC hc)
    have hsz' : ¬ ((strOfNums b).size + (strOfNums Y).size > 9223372036854775807) := by omega
    have s4 : ∀ w, (Op.stringOp .add (strOfNums b) (strOfNums Y)).run Try.prog w = .ok (.string (strOfNums X)) w := fun w => by rw [run_string_add_sum w _ _ hsz, hcat]
    have CS := fun W (hb : Below w.heap.size w W) => str_c8 (c := c1) (Kd.C_below C1 hb)
    have HC0 := Lib.hid C0; have HM0 := Lib.hid m0
    clear hX hY hXB hget hk C0 m0 w0 C1 m1 w1 u0 u1 hn hfl hch
    go_enter Try.func4, Try.ntmps4
    go_wp2_with (first
      | (go_at_call 9; refine (CB.out _ hb0).mono ?_; rintro e w1 ⟨A2, c2, rfl, lc2, hC2, hb⟩; have hb1 := hb0.trans (hb.mono hb0.size); clear hb0 hb CB)
      | (go_at_call 14; refine (BK.out _ hb1).mono ?_; rintro e w2 ⟨A3, c3, rfl, lc3, hC3, hb⟩; have hC2' := Kd.C_below hC2 hb; have hb2 := hb1.trans (hb.mono hb1.size); clear hb1 hb BK hC2)
      | (go_at_call 13; refine (PU.out _ _ _ _ _ hC2' lc2 hC3 lc3).mono ?_; rintro e w3 ⟨A4, c4, rfl, lc4, hC4, hb⟩; have hb3 := hb2.trans (hb.mono hb2.size); clear hb2 hb PU hC2' hC3 lc2 lc3)
      | (go_at_call 15; refine (CK.out _ hb3).mono ?_; rintro e w4 ⟨rfl, hb⟩; have hC4' := Kd.C_below hC4 hb; have hb4 := hb3.trans (hb.mono hb3.size); clear hb3 hb CK hC4)
      | (go_at_call 8; refine (GX.out _ _ _ hC4' lc4).mono ?_; rintro e x1 ⟨hb, h1, -⟩; obtain ⟨B1, e1, rfl, le1, hD1⟩ := h1 l _ rfl; have hC4x := Kd.C_below hC4' hb; have hbx1 := hb4.trans (hb.mono hb4.size); clear hb4 hb h1 hC4' GX))
    refine wp_region_noPanic ?_
    refine start_ (n := 27) (S := fun w' => (convert 22 9 (.slice A4 X.length c4)).run Try.prog w' = .ok (.string (strOfNums X)) w' ∧ (convert 22 9 (.slice A1 b.length c1)).run Try.prog w' = .ok (.string (strOfNums b)) w') (ds := []) #[false, false, false, false, false, false, false, false, false, false, false, false, false, false, false, false, false, false, false, false, false, false, false, false, false, false, false] (by kernel_rfl) rfl rfl ⟨str_c8 (Kd.C_drew hC4x), CS _ (below_drew hbx1)⟩ (fun hHeld => ?_)
    refine pure_ (i := 0) (N := some 26) (v := ?_) (a' := ?_) #[true, false, false, false, false, false, false, false, false, false, false, false, false, false, false, false, false, false, false, false, false, false, false, false, false, false, false] rfl rfl (by kernel_rfl) (fun _ _ _ h => h) (Or.inl ⟨by rfl, ?_⟩) ?_ ?_
    rotate_left
    · intro w'
      go_simp
      with_reducible rfl
    rotate_left
    · simp only [Act.put, List.setIfInBounds_toArray, List.set_cons_zero, List.set_cons_succ, i64_w, i32_w]
      rfl
    refine take_ (i := 1) (N := some 27) (v := ?_) (a' := ?_) #[true, true, false, false, false, false, false, false, false, false, false, false, false, false, false, false, false, false, false, false, false, false, false, false, false, false, false] rfl rfl (by kernel_rfl) (fun _ _ _ h => h) (Or.inl ⟨by rfl, ?_⟩) hHeld ?_ ?_
    rotate_left
    · rintro w' ⟨s0_, s1_⟩
      go_simp
      with_reducible rfl
    rotate_left
    · simp only [Act.put, List.setIfInBounds_toArray, List.set_cons_zero, List.set_cons_succ, i64_w, i32_w]
      rfl
    refine pure_ (i := 2) (N := some 28) (v := ?_) (a' := ?_) #[true, true, true, false, false, false, false, false, false, false, false, false, false, false, false, false, false, false, false, false, false, false, false, false, false, false, false] rfl rfl (by kernel_rfl) (fun _ _ _ h => h) (Or.inl ⟨by rfl, ?_⟩) ?_ ?_
    rotate_left
    · intro w'
      go_simp
      with_reducible rfl
    rotate_left
    · simp only [Act.put, List.setIfInBounds_toArray, List.set_cons_zero, List.set_cons_succ, i64_w, i32_w]
      rfl
    refine take_ (i := 3) (N := some 29) (v := ?_) (a' := ?_) #[true, true, true, true, false, false, false, false, false, false, false, false, false, false, false, false, false, false, false, false, false, false, false, false, false, false, false] rfl rfl (by kernel_rfl) (fun _ _ _ h => h) (Or.inl ⟨by rfl, ?_⟩) hHeld ?_ ?_
    rotate_left
    · rintro w' ⟨s0_, s1_⟩
      go_simp
      with_reducible rfl
    rotate_left
    · simp only [Act.put, List.setIfInBounds_toArray, List.set_cons_zero, List.set_cons_succ, i64_w, i32_w]
      rfl
    refine pure_ (i := 4) (N := some 30) (v := ?_) (a' := ?_) #[true, true, true, true, true, false, false, false, false, false, false, false, false, false, false, false, false, false, false, false, false, false, false, false, false, false, false] rfl rfl (by kernel_rfl) (fun _ _ _ h => h) (Or.inl ⟨by rfl, ?_⟩) ?_ ?_
    rotate_left
    · intro w'
      go_simp
      with_reducible rfl
    rotate_left
    · simp only [Act.put, List.setIfInBounds_toArray, List.set_cons_zero, List.set_cons_succ, i64_w, i32_w]
      rfl
    refine one_ (i := 5) (N := some 31) #[true, true, true, true, true, true, false, false, false, false, false, false, false, false, false, false, false, false, false, false, false, false, false, false, false, false, false] rfl rfl (by kernel_rfl) (by simp) (fun K hK => ?_)
    refine goes_ Try.func16 (by kernel_rfl) rfl #[.slice A0 l.length c0] (by rfl) rfl rfl (by (try simp only [List.map_toArray, List.map_cons, List.map_nil]); first | done | rfl) ?_
    refine (RP.out _ (below_drew hbx1)).mono ?_
    rintro e x2 ⟨B2, e2, rfl, le2, hD2, hb⟩
    refine ⟨_, rfl, ?_⟩
    have s3 := str_c8 (c := e2) hD2; have hD1' := Kd.C_below (Kd.C_drew hD1) hb; have hC4y := Kd.C_below (Kd.C_drew hC4x) hb; have hbx2 := (below_drew hbx1).trans (hb.mono (below_drew hbx1).size); clear hbx1 hb RP hD1 hD2 hC4x
    clear hHeld
    refine hK.out _ _ ⟨str_c8 hC4y, CS _ hbx2⟩ (fun hHeld => ?_)
    clear hK K
    refine norm_ (a' := ?_) ?_ ?_
    rotate_left
    · show Act.put _ (some 31) _ = _
      simp only [Act.put, List.setIfInBounds_toArray, List.set_cons_zero, List.set_cons_succ, i64_w, i32_w]
      rfl
    refine one_ (i := 6) (N := some 32) #[true, true, true, true, true, true, true, false, false, false, false, false, false, false, false, false, false, false, false, false, false, false, false, false, false, false, false] rfl rfl (by kernel_rfl) (by simp) (fun K hK => ?_)
    refine value_ (v := .string (strOfNums Y)) (w1 := x2) (by rfl) rfl ?_ ?_
    · go_simp
    clear hHeld
    refine hK.out _ _ ⟨str_c8 hC4y, CS _ hbx2⟩ (fun hHeld => ?_)
    clear hK K
    refine norm_ (a' := ?_) ?_ ?_
    rotate_left
    · show Act.put _ (some 32) _ = _
      simp only [Act.put, List.setIfInBounds_toArray, List.set_cons_zero, List.set_cons_succ, i64_w, i32_w]
      rfl
    clear s3
    refine pure_ (i := 7) (N := some 33) (v := ?_) (a' := ?_) #[true, true, true, true, true, true, true, true, false, false, false, false, false, false, false, false, false, false, false, false, false, false, false, false, false, false, false] rfl rfl (by kernel_rfl) (fun _ _ _ h => h) (Or.inl ⟨by rfl, ?_⟩) ?_ ?_
    rotate_left
    · intro w'
      go_simp
      with_reducible rfl
    rotate_left
    · simp only [Act.put, List.setIfInBounds_toArray, List.set_cons_zero, List.set_cons_succ, i64_w, i32_w]
      rfl
    refine pure_ (i := 8) (N := some 34) (v := ?_) (a' := ?_) #[true, true, true, true, true, true, true, true, true, false, false, false, false, false, false, false, false, false, false, false, false, false, false, false, false, false, false] rfl rfl (by kernel_rfl) (fun _ _ _ h => h) (Or.inl ⟨by rfl, ?_⟩) ?_ ?_
    rotate_left
    · intro w'
      go_simp
      with_reducible rfl
    rotate_left
    · simp only [Act.put, List.setIfInBounds_toArray, List.set_cons_zero, List.set_cons_succ, i64_w, i32_w]
      rfl
    refine pure_ (i := 9) (N := some 35) (v := ?_) (a' := ?_) #[true, true, true, true, true, true, true, true, true, true, false, false, false, false, false, false, false, false, false, false, false, false, false, false, false, false, false] rfl rfl (by kernel_rfl) (fun _ _ _ h => h) (Or.inl ⟨by rfl, ?_⟩) ?_ ?_
    rotate_left
    · intro w'
      go_simp
      with_reducible rfl
    rotate_left
    · simp only [Act.put, List.setIfInBounds_toArray, List.set_cons_zero, List.set_cons_succ, i64_w, i32_w]
      rfl
    refine pure_ (i := 10) (N := some 36) (v := ?_) (a' := ?_) #[true, true, true, true, true, true, true, true, true, true, true, false, false, false, false, false, false, false, false, false, false, false, false, false, false, false, false] rfl rfl (by kernel_rfl) (fun _ _ _ h => h) (Or.inl ⟨by rfl, ?_⟩) ?_ ?_
    rotate_left
    · intro w'
      go_simp
      with_reducible rfl
    rotate_left
    · simp only [Act.put, List.setIfInBounds_toArray, List.set_cons_zero, List.set_cons_succ, i64_w, i32_w]
      rfl
    refine pure_ (i := 11) (N := some 37) (v := ?_) (a' := ?_) #[true, true, true, true, true, true, true, true, true, true, true, true, false, false, false, false, false, false, false, false, false, false, false, false, false, false, false] rfl rfl (by kernel_rfl) (fun _ _ _ h => h) (Or.inl ⟨by rfl, ?_⟩) ?_ ?_
    rotate_left
    · intro w'
      go_simp
      with_reducible rfl
    rotate_left
    · simp only [Act.put, List.setIfInBounds_toArray, List.set_cons_zero, List.set_cons_succ, i64_w, i32_w]
      rfl
    refine one_ (i := 12) (N := some 38) #[true, true, true, true, true, true, true, true, true, true, true, true, true, false, false, false, false, false, false, false, false, false, false, false, false, false, false] rfl rfl (by kernel_rfl) (by simp) (fun K hK => ?_)
    refine goes_ Try.func12 (by kernel_rfl) rfl #[.slice B1 l.length e1, .slice A0 l.length c0] (by rfl) rfl rfl (by (try simp only [List.map_toArray, List.map_cons, List.map_nil]); first | done | rfl) ?_
    refine (hsame_c hlen hD1' le1 (Kd.C_below HC0.out hbx2) HM0.out).mono ?_
    rintro e x3 ⟨rfl, hb⟩
    refine ⟨_, rfl, ?_⟩
    have hC4z := Kd.C_below hC4y hb; have hbx3 := hbx2.trans (hb.mono hbx2.size); clear hb hbx2 hD1' hC4y
    clear hHeld
    refine hK.out _ _ ⟨str_c8 hC4z, CS _ hbx3⟩ (fun hHeld => ?_)
    clear hK K
    refine norm_ (a' := ?_) ?_ ?_
    rotate_left
    · show Act.put _ (some 38) _ = _
      simp only [Act.put, List.setIfInBounds_toArray, List.set_cons_zero, List.set_cons_succ, i64_w, i32_w]
      rfl
    refine pure_ (i := 13) (N := some 39) (v := ?_) (a' := ?_) #[true, true, true, true, true, true, true, true, true, true, true, true, true, true, false, false, false, false, false, false, false, false, false, false, false, false, false] rfl rfl (by kernel_rfl) (fun _ _ _ h => h) (Or.inl ⟨by rfl, ?_⟩) ?_ ?_
    rotate_left
    · intro w'
      go_simp
      with_reducible rfl
    rotate_left
    · simp only [Act.put, List.setIfInBounds_toArray, List.set_cons_zero, List.set_cons_succ, i64_w, i32_w]
      rfl
    refine pure_ (i := 14) (N := some 40) (v := ?_) (a' := ?_) #[true, true, true, true, true, true, true, true, true, true, true, true, true, true, true, false, false, false, false, false, false, false, false, false, false, false, false] rfl rfl (by kernel_rfl) (fun _ _ _ h => h) (Or.inl ⟨by rfl, ?_⟩) ?_ ?_
    rotate_left
    · intro w'
      go_simp
      with_reducible rfl
    rotate_left
    · simp only [Act.put, List.setIfInBounds_toArray, List.set_cons_zero, List.set_cons_succ, i64_w, i32_w]
      rfl
    refine pure_ (i := 15) (N := some 41) (v := ?_) (a' := ?_) #[true, true, true, true, true, true, true, true, true, true, true, true, true, true, true, true, false, false, false, false, false, false, false, false, false, false, false] rfl rfl (by kernel_rfl) (fun _ _ _ h => h) (Or.inl ⟨by rfl, ?_⟩) ?_ ?_
    rotate_left
    · intro w'
      go_simp
      with_reducible rfl
    rotate_left
    · simp only [Act.put, List.setIfInBounds_toArray, List.set_cons_zero, List.set_cons_succ, i64_w, i32_w]
      rfl
    refine pure_ (i := 16) (N := some 42) (v := ?_) (a' := ?_) #[true, true, true, true, true, true, true, true, true, true, true, true, true, true, true, true, true, false, false, false, false, false, false, false, false, false, false] rfl rfl (by kernel_rfl) (fun _ _ _ h => h) (Or.inl ⟨by rfl, ?_⟩) ?_ ?_
    rotate_left
    · intro w'
      go_simp
      with_reducible rfl
    rotate_left
    · simp only [Act.put, List.setIfInBounds_toArray, List.set_cons_zero, List.set_cons_succ, i64_w, i32_w]
      rfl
    refine pure_ (i := 17) (N := some 43) (v := ?_) (a' := ?_) #[true, true, true, true, true, true, true, true, true, true, true, true, true, true, true, true, true, true, false, false, false, false, false, false, false, false, false] rfl rfl (by kernel_rfl) (fun _ _ _ h => h) (Or.inl ⟨by rfl, ?_⟩) ?_ ?_
    rotate_left
    · intro w'
      go_simp
      with_reducible rfl
    rotate_left
    · simp only [Act.put, List.setIfInBounds_toArray, List.set_cons_zero, List.set_cons_succ, i64_w, i32_w]
      rfl
    refine pure_ (i := 18) (N := some 44) (v := ?_) (a' := ?_) #[true, true, true, true, true, true, true, true, true, true, true, true, true, true, true, true, true, true, true, false, false, false, false, false, false, false, false] rfl rfl (by kernel_rfl) (fun _ _ _ h => h) (Or.inl ⟨by rfl, ?_⟩) ?_ ?_
    rotate_left
    · intro w'
      go_simp
      with_reducible rfl
    rotate_left
    · simp only [Act.put, List.setIfInBounds_toArray, List.set_cons_zero, List.set_cons_succ, i64_w, i32_w]
      rfl
    refine pure_ (i := 19) (N := some 45) (v := ?_) (a' := ?_) #[true, true, true, true, true, true, true, true, true, true, true, true, true, true, true, true, true, true, true, true, false, false, false, false, false, false, false] rfl rfl (by kernel_rfl) (fun _ _ _ h => h) (Or.inl ⟨by rfl, ?_⟩) ?_ ?_
    rotate_left
    · intro w'
      go_simp
      with_reducible rfl
    rotate_left
    · simp only [Act.put, List.setIfInBounds_toArray, List.set_cons_zero, List.set_cons_succ, i64_w, i32_w]
      rfl
    refine pure_ (i := 20) (N := some 46) (v := ?_) (a' := ?_) #[true, true, true, true, true, true, true, true, true, true, true, true, true, true, true, true, true, true, true, true, true, false, false, false, false, false, false] rfl rfl (by kernel_rfl) (fun _ _ _ h => h) (Or.inl ⟨by rfl, ?_⟩) ?_ ?_
    rotate_left
    · intro w'
      go_simp
      with_reducible rfl
    rotate_left
    · simp only [Act.put, List.setIfInBounds_toArray, List.set_cons_zero, List.set_cons_succ, i64_w, i32_w]
      rfl
    refine pure_ (i := 21) (N := some 47) (v := ?_) (a' := ?_) #[true, true, true, true, true, true, true, true, true, true, true, true, true, true, true, true, true, true, true, true, true, true, false, false, false, false, false] rfl rfl (by kernel_rfl) (fun _ _ _ h => h) (Or.inl ⟨by rfl, ?_⟩) ?_ ?_
    rotate_left
    · intro w'
      go_simp
      with_reducible rfl
    rotate_left
    · simp only [Act.put, List.setIfInBounds_toArray, List.set_cons_zero, List.set_cons_succ, i64_w, i32_w]
      rfl
    refine pure_ (i := 22) (N := some 48) (v := ?_) (a' := ?_) #[true, true, true, true, true, true, true, true, true, true, true, true, true, true, true, true, true, true, true, true, true, true, true, false, false, false, false] rfl rfl (by kernel_rfl) (fun _ _ _ h => h) (Or.inl ⟨by rfl, ?_⟩) ?_ ?_
    rotate_left
    · intro w'
      go_simp
      with_reducible rfl
    rotate_left
    · simp only [Act.put, List.setIfInBounds_toArray, List.set_cons_zero, List.set_cons_succ, i64_w, i32_w]
      rfl
    refine pure_ (i := 23) (N := some 49) (v := ?_) (a' := ?_) #[true, true, true, true, true, true, true, true, true, true, true, true, true, true, true, true, true, true, true, true, true, true, true, true, false, false, false] rfl rfl (by kernel_rfl) (fun _ _ _ h => h) (Or.inl ⟨by rfl, ?_⟩) ?_ ?_
    rotate_left
    · intro w'
      go_simp
      with_reducible rfl
    rotate_left
    · simp only [Act.put, List.setIfInBounds_toArray, List.set_cons_zero, List.set_cons_succ, i64_w, i32_w]
      rfl
    refine one_ (i := 24) (N := some 50) #[true, true, true, true, true, true, true, true, true, true, true, true, true, true, true, true, true, true, true, true, true, true, true, true, true, false, false] rfl rfl (by kernel_rfl) (by simp) (fun K hK => ?_)
    refine goes_ Try.func11 (by kernel_rfl) rfl #[] (by rfl) rfl rfl (by (try simp only [List.map_toArray, List.map_cons, List.map_nil]); first | done | rfl) ?_
    refine (hawake_c _).mono ?_
    rintro e x4 ⟨rfl, hb⟩
    refine ⟨_, rfl, ?_⟩
    have hC4w := Kd.C_below hC4z hb; have hbx4 := hbx3.trans (hb.mono hbx3.size); clear hb hbx3 hC4z
    clear hHeld
    refine hK.out _ _ ⟨str_c8 hC4w, CS _ hbx4⟩ (fun hHeld => ?_)
    clear hK K
    refine norm_ (a' := ?_) ?_ ?_
    rotate_left
    · show Act.put _ (some 50) _ = _
      simp only [Act.put, List.setIfInBounds_toArray, List.set_cons_zero, List.set_cons_succ, i64_w, i32_w]
      rfl
    refine pure_ (i := 25) (N := some 51) (v := ?_) (a' := ?_) #[true, true, true, true, true, true, true, true, true, true, true, true, true, true, true, true, true, true, true, true, true, true, true, true, true, true, false] rfl rfl (by kernel_rfl) (fun _ _ _ h => h) (Or.inl ⟨by rfl, ?_⟩) ?_ ?_
    rotate_left
    · intro w'
      go_simp
      with_reducible rfl
    rotate_left
    · simp only [Act.put, List.setIfInBounds_toArray, List.set_cons_zero, List.set_cons_succ, i64_w, i32_w]
      rfl
    refine pure_ (i := 26) (N := some 4) (v := ?_) (a' := ?_) #[true, true, true, true, true, true, true, true, true, true, true, true, true, true, true, true, true, true, true, true, true, true, true, true, true, true, true] rfl rfl (by kernel_rfl) (fun _ _ _ h => h) (Or.inl ⟨by rfl, ?_⟩) ?_ ?_
    rotate_left
    · intro w'
      go_simp
      with_reducible rfl
    rotate_left
    · simp only [Act.put, List.setIfInBounds_toArray, List.set_cons_zero, List.set_cons_succ, i64_w, i32_w]
      rfl
    refine done_ (by kernel_rfl) ?_
    refine NoPanic.normal ?_
    clear hHeld
    go_wp2
    go_ret
    exact ⟨rfl, hbx4⟩
end Go.Proofs.Ytofgcacahfdjdaa.Pure
