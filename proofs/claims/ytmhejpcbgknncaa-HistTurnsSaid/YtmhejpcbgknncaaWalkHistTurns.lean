/- What is asked of the law HistTurns: the walk over its Go text. No condition but how an argument is read. -/
import Derived.Test.YtmhejpcbgknncaaHMany
import Derived.Test.YtmhejpcbgknncaaHPlus
namespace Go.Proofs.Ytmhejpcbgknncaa
open Go.RowKit Go.Proofs.YtmhejpcbgknncaaW.PrintWords Go.Proofs.YtmhejpcbgknncaaW.PrintLast Go.Proofs.YtmhejpcbgknncaaW.PrintMore Go.Proofs.Ytmhejpcbgknncaa.Hi Go.Proofs.Ytmhejpcbgknncaa.Hj

theorem awake_t (w : World) : Calls Try.prog 23 #[] w fun e w' => e = .returned (.bool true) ∧ Below w.heap.size w w' := varvelaw07_awake.calls true w Pure.awake_true
theorem HS.check {w0 W : World} {m : List (Nat × List Int)} (h : HS w0 W m) {A : Option Addr} {c : Nat} {l : List S51} (hC : Kd.C k51 w0 A l.length l) (hc : l.length ≤ c) (hw : Pure.WB l) {r : Bool} (hr : Pure.chk l = r) :
    Calls Try.prog 32 #[.slice A l.length c] W fun e w' => e = .returned (.bool r) ∧ HS w0 w' m :=
  (varveref07_Check.calls (l.length + 1) A c l r W (Kd.C_below hC h.bel) hc (by rw [Pure.refCheck_eq l hw.len _ (by omega), hr])).mono fun _ _ ⟨he, hd⟩ => ⟨he, h.drawn hd⟩
theorem HS.copy {w0 W : World} {m : List (Nat × List Int)} (h : HS w0 W m) {A : Option Addr} {c : Nat} {l : List S51} (hC : Kd.C k51 w0 A l.length l) (hc : l.length ≤ c) (hw : Pure.WB l) :
    Calls Try.prog 30 #[.slice A l.length c] W fun e w' => ∃ v, e = .returned v ∧ Kd.R k51 51 w' W.heap.size (fun _ => True) v l ∧ HS w0 w' m :=
  (varvelaw00_Buckets.calls A c l l W (Kd.C_below hC h.bel) hc (Pure.Copy_eq l hw.len)).mono fun _ _ ⟨v, he, hR, hb⟩ => ⟨v, he, hR, h.below hb⟩

set_option maxHeartbeats 2000000 in
set_option maxRecDepth 100000 in
theorem HistTurns_no (Aa Ab Ac : Option Addr) (ca cb cc : Nat) (a b c : List S51) (w : World) (hCa : Kd.C k51 w Aa a.length a) (hCb : Kd.C k51 w Ab b.length b) (hCc : Kd.C k51 w Ac c.length c) (la : a.length ≤ ca) (lb : b.length ≤ cb) (lc : c.length ≤ cc)
    (wa : Pure.WB a) (wb : Pure.WB b) (wc : Pure.WB c) (va vb vc : Bool) (ha : Pure.chk a = va) (hb : Pure.chk b = vb) (hc : Pure.chk c = vc) (hv : (va && vb && vc) = false) :
    Calls Try.prog 12 #[.slice Aa a.length ca, .slice Ab b.length cb, .slice Ac c.length cc] w fun e w' => e = .returned (.bool true) ∧ Below w.heap.size w w' := by
  have hS0 := HS.nil w
  have HA := fun W (h : HS w W []) => HS.check h hCa la wa ha
  have HB := fun W (h : HS w W []) => HS.check h hCb lb wb hb
  have HC := fun W (h : HS w W []) => HS.check h hCc lc wc hc
  clear hCa hCb hCc la lb lc wa wb wc ha hb hc
  cases va <;> cases vb <;> cases vc
  case true.true.true => simp at hv
  all_goals
    clear hv
    go_enter Try.func12, Try.ntmps12
    go_wp2_with (first
      | (go_at_call 32; refine (HA _ hS0).mono ?_; rintro e w1 ⟨rfl, hS1⟩; clear hS0 HA)
      | (go_at_call 32; refine (HB _ hS1).mono ?_; rintro e w2 ⟨rfl, hS2⟩; clear hS1 HB)
      | (go_at_call 32; refine (HC _ hS2).mono ?_; rintro e w3 ⟨rfl, hS3⟩; clear hS2 HC)
      | (go_at_call 23; refine (awake_t _).mono ?_; rintro e w13 ⟨rfl, hb13⟩; first | (have hS13 := hS1.below hb13) | (have hS13 := hS2.below hb13) | (have hS13 := hS3.below hb13)))
    go_ret
    exact ⟨rfl, hS13.bel⟩
set_option maxHeartbeats 4000000 in
set_option maxRecDepth 100000 in
theorem HistTurns_yes (Aa Ab Ac : Option Addr) (ca cb cc : Nat) (a b c : List S51) (w : World) (hCa : Kd.C k51 w Aa a.length a) (hCb : Kd.C k51 w Ab b.length b) (hCc : Kd.C k51 w Ac c.length c) (la : a.length ≤ ca) (lb : b.length ≤ cb) (lc : c.length ≤ cc)
    (wa : Pure.WB a) (wb : Pure.WB b) (wc : Pure.WB c) (ha : Pure.chk a = true) (hb : Pure.chk b = true) (hc : Pure.chk c = true) (X Y Z W Ma Mb Mc Ma1 Mc1 : List Int)
    (eMa : Pure.merged (hzero 7424) a = Ma) (eMb : Pure.merged (hzero 7424) b = Mb) (eMc : Pure.merged (hzero 7424) c = Mc) (eMa1 : Pure.merged Ma b = Ma1) (eX : Pure.merged Ma1 c = X) (eMc1 : Pure.merged Mc b = Mc1) (eY : Pure.merged Mc1 a = Y) (eZ : Pure.merged Mb c = Z) (eW : Pure.merged Ma (bks Z) = W)
    (gMa : hgood Ma = true) (gMb : hgood Mb = true) (gMc : hgood Mc = true) (gMa1 : hgood Ma1 = true) (gMc1 : hgood Mc1 = true) (gX : hgood X = true) (gY : hgood Y = true) (gZ : hgood Z = true) (gW : hgood W = true) (hXY : bks Y = bks X) (hXW : bks W = bks X) :
    Calls Try.prog 12 #[.slice Aa a.length ca, .slice Ab b.length cb, .slice Ac c.length cc] w fun e w' => e = .returned (.bool true) ∧ Below w.heap.size w w' := by
  have hS0 := HS.nil w
  have HA := fun W (h : HS w W []) => HS.check h hCa la wa ha
  have HB := fun W (h : HS w W []) => HS.check h hCb lb wb hb
  have HC := fun W (h : HS w W []) => HS.check h hCc lc wc hc
  have CA := fun W m (h : HS w W m) => HS.copy h hCa la wa
  have CB := fun W m (h : HS w W m) => HS.copy h hCb lb wb
  have CC := fun W m (h : HS w W m) => HS.copy h hCc lc wc
  have FA := fun W m v base (h : HS w W m) (hR : Kd.R k51 51 W base (fun _ => True) v a) => HS.from h hR wa ha
  have FB := fun W m v base (h : HS w W m) (hR : Kd.R k51 51 W base (fun _ => True) v b) => HS.from h hR wb hb
  have FC := fun W m v base (h : HS w W m) (hR : Kd.R k51 51 W base (fun _ => True) v c) => HS.from h hR wc hc
  rw [eMa] at FA; rw [eMb] at FB; rw [eMc] at FC
  have M1 := fun W gx gy gz (h : HS w W [(gx, Ma), (gy, Mc), (gz, Mb)]) => HS.merge h 0 rfl gMa lb (HS.old h 0 rfl hCb) wb hb
  have M2 := fun W gx gy gz (h : HS w W [(gx, Ma1), (gy, Mc), (gz, Mb)]) => HS.merge h 0 rfl gMa1 lc (HS.old h 0 rfl hCc) wc hc
  have M3 := fun W gx gy gz (h : HS w W [(gx, X), (gy, Mc), (gz, Mb)]) => HS.merge h 2 rfl gMb lc (HS.old h 2 rfl hCc) wc hc
  have M4 := fun W gx gy gz (h : HS w W [(gx, X), (gy, Mc), (gz, Z)]) => HS.merge h 1 rfl gMc lb (HS.old h 1 rfl hCb) wb hb
  have M5 := fun W gx gy gz (h : HS w W [(gx, X), (gy, Mc1), (gz, Z)]) => HS.merge h 1 rfl gMc1 la (HS.old h 1 rfl hCa) wa ha
  rw [eMa1] at M1; rw [eX] at M2; rw [eZ] at M3; rw [eMc1] at M4; rw [eY] at M5
  have gZ2 := Pure.bks_WB gZ
  have gZ3 := Pure.bks_chk gZ
  have M6 := fun W' gx gy gz gw A c (h : HS w W' [(gx, X), (gy, Y), (gz, Z), (gw, Ma)]) (hc : (bks Z).length ≤ c) base (hR : Kd.R k51 51 W' base (fun _ => True) (.slice A (bks Z).length c) (bks Z)) => HS.merge h 3 rfl gMa hc (HS.own h 3 rfl hR) gZ2 gZ3
  rw [eW] at M6
  have BX := fun W' m i g (h : HS w W' m) (hi : m[i]? = some (g, X)) => HS.bks h i hi gX
  have BY := fun W' m i g (h : HS w W' m) (hi : m[i]? = some (g, Y)) => HS.bks h i hi gY
  have BZ := fun W' m i g (h : HS w W' m) (hi : m[i]? = some (g, Z)) => HS.bks h i hi gZ
  have BW := fun W' m i g (h : HS w W' m) (hi : m[i]? = some (g, W)) => HS.bks h i hi gW
  rw [hXY] at BY; rw [hXW] at BW
  have LX : (bks X).length < 8796093022208 := by have := Pure.bks_len X; omega
  have SA := fun A c A' c' W' h1 h2 h3 h4 => varvelaw00_SameBuckets.calls ((bks X).length + 1) A c (bks X) A' c' (bks X) true W' h1 h2 h3 h4 (Pure.Same_self _ LX _ (Nat.lt_succ_self _))
  clear hCa hCb hCc la lb lc wa wb wc ha hb hc eMa eMb eMc eMa1 eX eMc1 eY eZ eW gMa gMb gMc gMa1 gMc1 gX gY gZ gW hXY hXW gZ2 gZ3 LX
  go_enter Try.func12, Try.ntmps12
  go_wp2_with (first
    | (go_at_call 32; refine (HA _ hS0).mono ?_; rintro e w1 ⟨rfl, hS1⟩; clear hS0 HA)
    | (go_at_call 32; refine (HB _ hS1).mono ?_; rintro e w2 ⟨rfl, hS2⟩; clear hS1 HB)
    | (go_at_call 32; refine (HC _ hS2).mono ?_; rintro e w3 ⟨rfl, hS3⟩; clear hS2 HC)
    | (go_at_call 30; refine (CA _ _ hS3).mono ?_; rintro e w4 ⟨v4, rfl, hR4, hS4⟩; clear hS3)
    | (go_at_call 36; refine (FA _ _ _ _ hS4 hR4).mono ?_; rintro e w5 ⟨gx, rfl, hS5, hb⟩; clear hS4 hR4 hb)
    | (go_at_call 30; refine (CC _ _ hS5).mono ?_; rintro e w6 ⟨v6, rfl, hR6, hS6⟩; clear hS5 CC)
    | (go_at_call 36; refine (FC _ _ _ _ hS6 hR6).mono ?_; rintro e w7 ⟨gy, rfl, hS7, hb⟩; clear hS6 hR6 hb FC)
    | (go_at_call 30; refine (CB _ _ hS7).mono ?_; rintro e w8 ⟨v8, rfl, hR8, hS8⟩; clear hS7 CB)
    | (go_at_call 36; refine (FB _ _ _ _ hS8 hR8).mono ?_; rintro e w9 ⟨gz, rfl, hS9, hb⟩; clear hS8 hR8 hb FB)
    | (go_at_call 37; refine (M1 _ _ _ _ hS9).mono ?_; rintro e w10 ⟨rfl, hS10, hk⟩; clear hS9 hk M1)
    | (go_at_call 37; refine (M2 _ _ _ _ hS10).mono ?_; rintro e w11 ⟨rfl, hS11, hk⟩; clear hS10 hk M2)
    | (go_at_call 37; refine (M3 _ _ _ _ hS11).mono ?_; rintro e w12 ⟨rfl, hS12, hk⟩; clear hS11 hk M3)
    | (go_at_call 37; refine (M4 _ _ _ _ hS12).mono ?_; rintro e w13 ⟨rfl, hS13, hk⟩; clear hS12 hk M4)
    | (go_at_call 37; refine (M5 _ _ _ _ hS13).mono ?_; rintro e w14 ⟨rfl, hS14, hk⟩; clear hS13 hk M5)
    | (go_at_call 30; refine (CA _ _ hS14).mono ?_; rintro e w15 ⟨v15, rfl, hR15, hS15⟩; clear hS14 CA)
    | (go_at_call 36; refine (FA _ _ _ _ hS15 hR15).mono ?_; rintro e w16 ⟨gw, rfl, hS16, hb⟩; clear hS15 hR15 hb FA)
    | (go_at_call 35; refine (BZ _ _ 2 _ hS16 rfl).mono ?_; rintro e w17 ⟨A17, c17, rfl, lc17, hC, hR17, hS17, hb⟩; clear hS16 hC hb BZ)
    | (go_at_call 37; refine (M6 _ _ _ _ _ _ _ hS17 lc17 _ hR17).mono ?_; rintro e w18 ⟨rfl, hS18, hk⟩; clear hS17 hk hR17 lc17 M6)
    | (go_at_call 35; refine (BX _ _ 0 _ hS18 rfl).mono ?_; rintro e w19 ⟨A19, c19, rfl, lc19, hC19, hR, hS19, hb⟩; clear hS18 hR hb)
    | (go_at_call 35; refine (BY _ _ 1 _ hS19 rfl).mono ?_; rintro e w20 ⟨A20, c20, rfl, lc20, hC20, hR, hS20, hb⟩; have hC19' := Kd.C_below hC19 hb; clear hS19 hR hb hC19 BY)
    | (go_at_call 33; refine (SA _ _ _ _ _ hC19' lc19 hC20 lc20).mono ?_; rintro e w21 ⟨rfl, hd⟩; have hS21 := hS20.drawn hd; clear hS20 hC19' hC20 hd lc19 lc20)
    | (go_at_call 35; refine (BX _ _ 0 _ hS21 rfl).mono ?_; rintro e w22 ⟨A22, c22, rfl, lc22, hC22, hR, hS22, hb⟩; clear hS21 hR hb BX)
    | (go_at_call 35; refine (BW _ _ 3 _ hS22 rfl).mono ?_; rintro e w23 ⟨A23, c23, rfl, lc23, hC23, hR, hS23, hb⟩; have hC22' := Kd.C_below hC22 hb; clear hS22 hR hb hC22 BW)
    | (go_at_call 33; refine (SA _ _ _ _ _ hC22' lc22 hC23 lc23).mono ?_; rintro e w24 ⟨rfl, hd⟩; have hS24 := hS23.drawn hd; clear hS23 hC22' hC23 hd lc22 lc23 SA)
    | (go_at_call 23; refine (awake_t _).mono ?_; rintro e w25 ⟨rfl, hb25⟩; have hS25 := hS24.below hb25; clear hS24 hb25))
  go_ret
  exact ⟨rfl, hS25.bel⟩
end Go.Proofs.Ytmhejpcbgknncaa
