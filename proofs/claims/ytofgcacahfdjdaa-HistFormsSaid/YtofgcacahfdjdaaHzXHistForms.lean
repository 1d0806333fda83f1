/- HistForms: of the two forms the shorter one is put, never more than the number of buckets says, and it is read again. No condition. -/
import Derived.Test.YtofgcacahfdjdaaHzM4
namespace Go.Proofs.Ytofgcacahfdjdaa.Pure
set_option linter.unusedVariables false
set_option linter.unusedSimpArgs false
open Go.RowKit Go.Maps Go.Deep Go.Proofs.YtofgcacahfdjdaaW.PrintWords Go.Proofs.YtofgcacahfdjdaaW.PrintLast Go.Proofs.YtofgcacahfdjdaaW.PrintMore Go.Proofs.Ytofgcacahfdjdaa.Hi Go.Proofs.Ytofgcacahfdjdaa.Vt Go.Proofs.Ytofgcacahfdjdaa.Hb
theorem C_two (w : World) (x y : Int) : Kd.C (Kd.int .u8) (w.alloc (.cells #[.int .u8 x, .int .u8 y] 5)) (some ⟨w.heap.size, 0, none⟩) 2 [x, y] := by
  refine ⟨rfl, by decide, fun _ => ⟨_, rfl, fun j p hp => ?_⟩⟩
  have h0 := blk_cell (blk_new w (.cells #[.int .u8 x, .int .u8 y] 5)) 0
  have h1 := blk_cell (blk_new w (.cells #[.int .u8 x, .int .u8 y] 5)) 1
  match j with
  | 0 =>
    obtain rfl : x = p := by simpa using hp
    refine ⟨_, rfl, rfl, fun i u hu => ?_⟩
    cases i with
    | succ i => simp at hu
    | zero =>
      obtain rfl : Value.int .u8 x = u := by simpa using hu
      have e : (⟨w.heap.size, 0, none⟩ : Addr).add (0 * (Kd.int .u8).sz + 0) = ⟨w.heap.size, 0, none⟩ := rfl
      rw [e, h0]; rfl
  | 1 =>
    obtain rfl : y = p := by simpa using hp
    refine ⟨_, rfl, rfl, fun i u hu => ?_⟩
    cases i with
    | succ i => simp at hu
    | zero =>
      obtain rfl : Value.int .u8 y = u := by simpa using hu
      have e : (⟨w.heap.size, 0, none⟩ : Addr).add (1 * (Kd.int .u8).sz + 0) = ⟨w.heap.size, 1, none⟩ := rfl
      rw [e, h1]; rfl
  | j + 2 => simp at hp
theorem encN_two {n : Nat} (h : n < 16384) : (encN n).length ≤ 2 := by
  by_cases c : n < 128
  · rw [encN_low c]; simp
  · rw [encN_high c, List.length_cons, encN_low (by omega)]; simp
theorem gaps_short : ∀ (l : List S67) (next : Int), 0 ≤ next → (∀ x ∈ l, 0 ≤ x.f0 ∧ x.f0 < 7424) → Bnum l → (gaps next l).length ≤ 12 * l.length
  | [], _, _, _, _ => by simp [gaps]
  | x :: r, next, h0, h, hn => by
    have hx := h x (List.mem_cons_self ..)
    have ih := gaps_short r (x.f0 + 1) (by omega) (fun y hy => h y (List.mem_cons_of_mem _ hy)) hn.tail
    have a := encN_two (n := (x.f0 - next).toNat) (by omega)
    have b := encN_len x.f1.toNat (by have := hn x (List.mem_cons_self ..); omega)
    simp only [gaps, List.length_append, List.length_cons]; omega
theorem formB_short {l : List S67} (hc : chk l = true) (hn : Bnum l) : (formB l).length ≤ 3 + 12 * l.length := by
  have hl := chk_len hc
  have h1 : (sparseB l).length ≤ 3 + 12 * l.length := by
    have a := encN_two (n := l.length) (by omega)
    have b := gaps_short l 0 (by omega) (chk_range hc) hn
    have z : (encN 0).length = 1 := by rw [encN_low (by omega)]; rfl
    simp only [sparseB, List.length_append]; omega
  unfold formB
  split
  · exact h1
  · split
    · omega
    · exact h1
theorem formB_head (l : List S67) : (rd (formB l) 0 = 0 ∨ rd (formB l) 0 = 1) ∧ (l.length = 0 → rd (formB l) 0 = 0) := by
  have z0 : encN 0 = [0] := by rw [encN_low (by omega)]; rfl
  have z1 : encN 1 = [1] := by rw [encN_low (by omega)]; rfl
  have hs : rd (sparseB l) 0 = 0 := by rw [sparseB, z0]; rfl
  have hd : rd (denseB l) 0 = 1 := by rw [denseB, z1]; rfl
  unfold formB
  split
  · exact ⟨.inl hs, fun _ => hs⟩
  case isFalse h =>
    split
    · exact ⟨.inr hd, fun e => absurd e h⟩
    · exact ⟨.inl hs, fun _ => hs⟩
set_option maxHeartbeats 4000000 in
set_option maxRecDepth 100000 in
theorem HistForms_walk (A0 : Option Addr) (c0 : Nat) (l : List S67) (w : World) (C0 : Kd.C k67 w A0 l.length l) (m0 : l.length ≤ c0) (w0 : WB l) :
    Calls Try.prog 5 #[.slice A0 l.length c0] w fun e w' => e = .returned (.bool true) ∧ Below w.heap.size w w' := by
  have hlen := w0.len
  have hn := w0.num
  have CK := Lib.hid (fun W (hb : Below w.heap.size w W) => hrcheck_c hlen C0 m0 hb)
  have hb0 := Below.refl w.heap.size w
  cases hk : chk l with
  | false =>
    rw [hk] at CK
    clear C0 m0 w0 hlen hn hk
    go_enter Try.func5, Try.ntmps5
    go_wp2_with (first
      | (go_at_call 15; refine (CK.out _ hb0).mono ?_; rintro e w1 ⟨rfl, hb⟩; have hb1 := hb0.trans (hb.mono hb0.size); clear hb0 hb CK)
      | (go_at_call 11; refine (hawake_c _).mono ?_; rintro e w9 ⟨rfl, hb⟩; have hb9 := hb1.trans (hb.mono hb1.size); clear hb1 hb))
    go_ret
    exact ⟨rfl, hb9⟩
  | true =>
    rw [hk] at CK
    by_cases h300 : 300 < l.length
    · have e3 : decide ((300 : Int) < (l.length : Int)) = true := decide_eq_true (by omega)
      have e3b : decide (300 < l.length) = true := decide_eq_true h300
      clear C0 m0 w0 hlen hn hk
      go_enter Try.func5, Try.ntmps5
      go_wp2_with (first
        | (go_at_call 15; refine (CK.out _ hb0).mono ?_; rintro e w1 ⟨rfl, hb⟩; have hb1 := hb0.trans (hb.mono hb0.size); clear hb0 hb CK)
        | (go_at_call 11; refine (hawake_c _).mono ?_; rintro e w9 ⟨rfl, hb⟩; have hb9 := hb1.trans (hb.mono hb1.size); clear hb1 hb))
      go_ret
      exact ⟨rfl, hb9⟩
    · have e3 : decide ((300 : Int) < (l.length : Int)) = false := decide_eq_false (by omega)
      have e3b : decide (300 < l.length) = false := decide_eq_false h300
      have BK := Lib.hid (fun W (hb : Below w.heap.size w W) => hbks_c hlen C0 m0 hb)
      have PU := Lib.hid (fun W B d (h1 : Kd.C k67 W B l.length l) (h2 : l.length ≤ d) => hput_r (xs := []) (A := none) (c := 0) (Kd.C_nil _ W) (Nat.le_refl _) h1 h2 hlen hn (by simp))
      simp only [hk, if_true, List.nil_append] at PU
      have hshort := formB_short hk hn
      have hpos := formB_pos l
      obtain ⟨hhead, hzero⟩ := formB_head l
      have hby : WBy (formB l ++ [7, 7]) := ⟨by simp; omega, fun x hx => by
        rcases List.mem_append.1 hx with hx | hx
        · exact formB_by l x hx
        · simp at hx; omega⟩
      have hget : getH (formB l ++ [7, 7]) 0 = some (l, (formB l).length) := getH_of hk hn (Int.le_refl _) (by omega) (by simp) (by simp)
      have GE := Lib.hid (fun W A c (h1 : Kd.C (Kd.int .u8) W A (formB l ++ [7, 7]).length (formB l ++ [7, 7])) (h2 : (formB l ++ [7, 7]).length ≤ c) => hget_c hby 0 h1 h2)
      rw [hget] at GE
      have HC0 := Lib.hid C0; have HM0 := Lib.hid m0
      obtain ⟨X, hX⟩ : ∃ X, formB l = X := ⟨_, rfl⟩
      rw [hX] at PU GE hshort hpos hhead hzero
      clear hX hby hget C0 m0 w0 hn hk
      obtain ⟨Z, hZ⟩ : ∃ Z, X ++ [7, 7] = Z := ⟨_, rfl⟩
      rw [hZ] at GE
      have HZ := Lib.hid hZ
      clear hZ
      have x0 : decide ((X.length : Int) = 0) = false := decide_eq_false (by omega)
      have x0b : decide (X.length = 0) = false := decide_eq_false (by omega)
      have x0d : ((X.length : Int) == 0) = false := beq_eq_false_iff_ne.mpr (by omega)
      have x0c : (X = []) = False := eq_false (fun h => by subst h; simp at hpos)
      have x1 : decide (3 + 12 * (l.length : Int) < (X.length : Int)) = false := decide_eq_false (by omega)
      have ew1 : IntKind.i64.wrap (12 * (l.length : Int)) = 12 * (l.length : Int) := by rw [IntKind.wrap_i64]; omega
      have ew2 : IntKind.i64.wrap (3 + 12 * (l.length : Int)) = 3 + 12 * (l.length : Int) := by rw [IntKind.wrap_i64]; omega
      have HX := Lib.hid (show X.length + 2 ≤ 140737488355328 by omega)
      have hv : (rd X 0 = 0 ∨ (rd X 0 = 1 ∧ l.length ≠ 0)) := by
        rcases hhead with h | h
        · exact .inl h
        · exact .inr ⟨h, fun e => by rw [hzero e] at h; cases h⟩
      clear hhead hzero
      rcases hv with hv | ⟨hv, hl0⟩
      · cases hz : decide ((l.length : Int) = 0) with
        | true =>
          have hzb : decide (l.length = 0) = true := decide_eq_true (by have := of_decide_eq_true hz; omega)
          have hzc : ((l.length : Int) == 0) = true := beq_iff_eq.mpr (of_decide_eq_true hz)
          go_enter Try.func5, Try.ntmps5
          go_wp2_with (first
            | (go_at_call 15; refine (CK.out _ hb0).mono ?_; rintro e w1 ⟨rfl, hb⟩; have hb1 := hb0.trans (hb.mono hb0.size); clear hb0 hb CK)
            | (go_at_call 14; refine (BK.out _ hb1).mono ?_; rintro e w2 ⟨A2, c2, rfl, lc2, hC2, hb⟩; have hb2 := hb1.trans (hb.mono hb1.size); clear hb1 hb BK)
            | (go_at_call 13; refine (PU.out _ _ _ hC2 lc2).mono ?_; rintro e w3 ⟨v3, rfl, hR3, hb⟩; have HBP := Lib.hid hb; obtain ⟨A3, c3, rfl, lc3, hC3⟩ := Kd.R_reads hR3; obtain ⟨ad, hax, q0⟩ := Kd.at_int hC3 0 (by omega) (by omega); subst hax; rw [hv, show ad.add (Int.toNat 0) = ad by simp [Addr.add]] at q0; have HR3 := Lib.hid hR3; have HS3 := Lib.hid hb.size; have hb3 := hb2.trans (hb.mono hb2.size); have HB2 := Lib.hid hb2; clear hb2 hb PU hC2 hR3 hC3 lc2)
            | ((with_reducible refine gate_builtin (b := .append) (xs := #[.tmp 49, .tmp 50]) rfl ?_); at_builtin; go_must (refine App.append (w0 := w2) w2.heap.size rfl (.tmp 49) (.tmp 50) rfl (.slice (some ad) X.length c3) X [7, 7] (some ⟨w3.heap.size, 0, none⟩) 2 2 rfl rfl (App.below (.inl HR3.out) (below_alloc (Below.refl _ _) _)) (C_two w3 7 7) (by decide) (below_alloc HBP.out _) (below_alloc HBP.out _).size HX.out ?_; intro v5 w5 ho5 hbq hg5; rw [HZ.out] at ho5; obtain ⟨A5, c5, rfl, lc5, hC5⟩ := Kd.R_reads ho5; have hb5 := (HB2.out).trans (hbq.mono HB2.out.size); clear ho5 hbq hg5 HR3 HBP hb3))
            | (go_at_call 8; refine (GE.out _ _ _ hC5 lc5).mono ?_; rintro e w6 ⟨hb, h1, -⟩; obtain ⟨A6, c6, rfl, lc6, hC6⟩ := h1 l _ rfl; have hb6 := hb5.trans (hb.mono hb5.size); clear hb5 hb h1 GE hC5)
            | (go_at_call 12; refine (hsame_c hlen hC6 lc6 (Kd.C_below HC0.out hb6) HM0.out).mono ?_; rintro e w7 ⟨rfl, hb⟩; have hb7 := hb6.trans (hb.mono hb6.size); clear hb hb6 hC6)
            | (go_at_call 11; refine (hawake_c _).mono ?_; rintro e w9 ⟨rfl, hb⟩; have hb9 := hb7.trans (hb.mono hb7.size); clear hb7 hb))
          go_ret
          exact ⟨rfl, hb9⟩
        | false =>
          have hzb : decide (l.length = 0) = false := decide_eq_false (by have := of_decide_eq_false hz; omega)
          have hzc : ((l.length : Int) == 0) = false := beq_eq_false_iff_ne.mpr (of_decide_eq_false hz)
          go_enter Try.func5, Try.ntmps5
          go_wp2_with (first
            | (go_at_call 15; refine (CK.out _ hb0).mono ?_; rintro e w1 ⟨rfl, hb⟩; have hb1 := hb0.trans (hb.mono hb0.size); clear hb0 hb CK)
            | (go_at_call 14; refine (BK.out _ hb1).mono ?_; rintro e w2 ⟨A2, c2, rfl, lc2, hC2, hb⟩; have hb2 := hb1.trans (hb.mono hb1.size); clear hb1 hb BK)
            | (go_at_call 13; refine (PU.out _ _ _ hC2 lc2).mono ?_; rintro e w3 ⟨v3, rfl, hR3, hb⟩; have HBP := Lib.hid hb; obtain ⟨A3, c3, rfl, lc3, hC3⟩ := Kd.R_reads hR3; obtain ⟨ad, hax, q0⟩ := Kd.at_int hC3 0 (by omega) (by omega); subst hax; rw [hv, show ad.add (Int.toNat 0) = ad by simp [Addr.add]] at q0; have HR3 := Lib.hid hR3; have HS3 := Lib.hid hb.size; have hb3 := hb2.trans (hb.mono hb2.size); have HB2 := Lib.hid hb2; clear hb2 hb PU hC2 hR3 hC3 lc2)
            | ((with_reducible refine gate_builtin (b := .append) (xs := #[.tmp 49, .tmp 50]) rfl ?_); at_builtin; go_must (refine App.append (w0 := w2) w2.heap.size rfl (.tmp 49) (.tmp 50) rfl (.slice (some ad) X.length c3) X [7, 7] (some ⟨w3.heap.size, 0, none⟩) 2 2 rfl rfl (App.below (.inl HR3.out) (below_alloc (Below.refl _ _) _)) (C_two w3 7 7) (by decide) (below_alloc HBP.out _) (below_alloc HBP.out _).size HX.out ?_; intro v5 w5 ho5 hbq hg5; rw [HZ.out] at ho5; obtain ⟨A5, c5, rfl, lc5, hC5⟩ := Kd.R_reads ho5; have hb5 := (HB2.out).trans (hbq.mono HB2.out.size); clear ho5 hbq hg5 HR3 HBP hb3))
            | (go_at_call 8; refine (GE.out _ _ _ hC5 lc5).mono ?_; rintro e w6 ⟨hb, h1, -⟩; obtain ⟨A6, c6, rfl, lc6, hC6⟩ := h1 l _ rfl; have hb6 := hb5.trans (hb.mono hb5.size); clear hb5 hb h1 GE hC5)
            | (go_at_call 12; refine (hsame_c hlen hC6 lc6 (Kd.C_below HC0.out hb6) HM0.out).mono ?_; rintro e w7 ⟨rfl, hb⟩; have hb7 := hb6.trans (hb.mono hb6.size); clear hb hb6 hC6)
            | (go_at_call 11; refine (hawake_c _).mono ?_; rintro e w9 ⟨rfl, hb⟩; have hb9 := hb7.trans (hb.mono hb7.size); clear hb7 hb))
          go_ret
          exact ⟨rfl, hb9⟩
      · have hz : decide ((l.length : Int) = 0) = false := decide_eq_false (by omega)
        have hzb : decide (l.length = 0) = false := decide_eq_false hl0
        have hzc : ((l.length : Int) == 0) = false := beq_eq_false_iff_ne.mpr (by omega)
        go_enter Try.func5, Try.ntmps5
        go_wp2_with (first
          | (go_at_call 15; refine (CK.out _ hb0).mono ?_; rintro e w1 ⟨rfl, hb⟩; have hb1 := hb0.trans (hb.mono hb0.size); clear hb0 hb CK)
          | (go_at_call 14; refine (BK.out _ hb1).mono ?_; rintro e w2 ⟨A2, c2, rfl, lc2, hC2, hb⟩; have hb2 := hb1.trans (hb.mono hb1.size); clear hb1 hb BK)
          | (go_at_call 13; refine (PU.out _ _ _ hC2 lc2).mono ?_; rintro e w3 ⟨v3, rfl, hR3, hb⟩; have HBP := Lib.hid hb; obtain ⟨A3, c3, rfl, lc3, hC3⟩ := Kd.R_reads hR3; obtain ⟨ad, hax, q0⟩ := Kd.at_int hC3 0 (by omega) (by omega); subst hax; rw [hv, show ad.add (Int.toNat 0) = ad by simp [Addr.add]] at q0; have HR3 := Lib.hid hR3; have HS3 := Lib.hid hb.size; have hb3 := hb2.trans (hb.mono hb2.size); have HB2 := Lib.hid hb2; clear hb2 hb PU hC2 hR3 hC3 lc2)
          | ((with_reducible refine gate_builtin (b := .append) (xs := #[.tmp 49, .tmp 50]) rfl ?_); at_builtin; go_must (refine App.append (w0 := w2) w2.heap.size rfl (.tmp 49) (.tmp 50) rfl (.slice (some ad) X.length c3) X [7, 7] (some ⟨w3.heap.size, 0, none⟩) 2 2 rfl rfl (App.below (.inl HR3.out) (below_alloc (Below.refl _ _) _)) (C_two w3 7 7) (by decide) (below_alloc HBP.out _) (below_alloc HBP.out _).size HX.out ?_; intro v5 w5 ho5 hbq hg5; rw [HZ.out] at ho5; obtain ⟨A5, c5, rfl, lc5, hC5⟩ := Kd.R_reads ho5; have hb5 := (HB2.out).trans (hbq.mono HB2.out.size); clear ho5 hbq hg5 HR3 HBP hb3))
          | (go_at_call 8; refine (GE.out _ _ _ hC5 lc5).mono ?_; rintro e w6 ⟨hb, h1, -⟩; obtain ⟨A6, c6, rfl, lc6, hC6⟩ := h1 l _ rfl; have hb6 := hb5.trans (hb.mono hb5.size); clear hb5 hb h1 GE hC5)
          | (go_at_call 12; refine (hsame_c hlen hC6 lc6 (Kd.C_below HC0.out hb6) HM0.out).mono ?_; rintro e w7 ⟨rfl, hb⟩; have hb7 := hb6.trans (hb.mono hb6.size); clear hb hb6 hC6)
          | (go_at_call 11; refine (hawake_c _).mono ?_; rintro e w9 ⟨rfl, hb⟩; have hb9 := hb7.trans (hb.mono hb7.size); clear hb7 hb))
        go_ret
        exact ⟨rfl, hb9⟩
end Go.Proofs.Ytofgcacahfdjdaa.Pure
