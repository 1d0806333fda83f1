/- For every three lists of numbers: to merge may be turned round and grouped, and what is there already changes nothing. No condition. -/
import Derived.Test.YtpjchgiemmnikaaKLaws
namespace Go.Proofs.Ytpjchgiemmnikaa.Pure
set_option linter.unusedVariables false
set_option linter.unusedSimpArgs false
open Go.RowKit Go.Maps Go.Proofs.YtpjchgiemmnikaaW.PrintWords Go.Proofs.YtpjchgiemmnikaaW.PrintLast Go.Proofs.YtpjchgiemmnikaaW.PrintMore Go.Proofs.Ytpjchgiemmnikaa.Q

theorem kgood_kmany {S l : List Int} (h : KGood S) (hl : ∀ x ∈ l, 0 ≤ x ∧ x < 18446744073709551616) : KGood (kmany S l) := by
  refine ⟨asc_kmany h.1 h.2.1, kmany_len h.1 h.2.1, fun x hx => ?_⟩
  rw [kmany_eq h.1 h.2.1] at hx
  rcases (mem_kall x).1 (List.mem_of_mem_take hx) with c | c
  · exact h.2.2 x c
  · exact hl x c
theorem kmany_kmany (s l m : List Int) : kmany (kmany s l) m = kmany s (l ++ m) := by simp [kmany, List.foldl_append]
theorem kmany_turn {a b c : List Int} (ha : KGood a) (hc : KGood c) : kmany (kmany c b) a = kmany (kmany a b) c := by
  rw [kmany_kmany, kmany_kmany]
  refine kmany_same hc.1 hc.2.1 ha.1 ha.2.1 fun x => ?_
  simp only [List.mem_append]
  exact ⟨fun h => h.elim (fun h => .inr (.inr h)) (fun h => h.elim (fun h => .inr (.inl h)) .inl), fun h => h.elim (fun h => .inr (.inr h)) (fun h => h.elim (fun h => .inr (.inl h)) .inl)⟩
theorem kmany_group {a b c : List Int} (ha : KGood a) (hb : KGood b) : kmany (kmany a (kmany b c)) b = kmany (kmany a b) c := by
  rw [kmany_eq hb.1 hb.2.1, kmany_least ha.1 ha.2.1 (asc_kall hb.1), kmany_kmany, kmany_kmany]
  refine kmany_same ha.1 ha.2.1 ha.1 ha.2.1 fun x => ?_
  simp only [List.mem_append, mem_kall]
  exact ⟨fun h => h.elim .inl (fun h => h.elim .inr (fun h => .inr (.inl h))), fun h => h.elim .inl (fun h => .inr (.inl h))⟩
theorem _root_.Go.Proofs.Ytpjchgiemmnikaa.KS.mergeOwn {w0 W : World} {m : List (Nat × Nat × List Int)} (h : KS w0 W m) (i : Nat) {k b : Nat} {s : List Int} (hi : m[i]? = some (k, b, s)) {A : Option Addr} {c base : Nat} {l : List Int} (hC : Kd.C (Kd.int .u64) W A l.length l) (ho : W.ownsRow base 25 1 (.slice A l.length c) l.length (nums .u64 l))
    (hlt : k < base ∧ b < base) (hg : KGood l) :
    Calls Try.prog 37 #[.pointer (some ⟨k, 0, none⟩), .slice A l.length c] W fun e w' => e = .returned (.int .i64 0) ∧ KS w0 w' (m.set i (k, b, kmany s l)) ∧ KF W w' k b :=
  h.merge i hi hC (fun ad e _ => by have := own_block ho ad e; omega) hg.2.2 ⟨hg.1, hg.2.1⟩

set_option maxHeartbeats 2000000 in
theorem Turns_no (A0 A1 A2 : Option Addr) (c0 c1 c2 : Nat) (a b c : List Int) (w : World) (C0 : Kd.C (Kd.int .u64) w A0 a.length a) (C1 : Kd.C (Kd.int .u64) w A1 b.length b) (C2 : Kd.C (Kd.int .u64) w A2 c.length c) (m0 : a.length ≤ c0) (m1 : b.length ≤ c1) (m2 : c.length ≤ c2)
    (wa : WU a) (wb : WU b) (wc : WU c) (va vb vc : Bool) (ha : decide (KOk a) = va) (hb : decide (KOk b) = vb) (hc : decide (KOk c) = vc) (hv : (va && vb && vc) = false) :
    Calls Try.prog 7 #[.slice A0 a.length c0, .slice A1 b.length c1, .slice A2 c.length c2] w fun e w' => e = .returned (.bool true) ∧ Below w.heap.size w w' := by
  have hb0 := Below.refl w.heap.size w
  have KA := fun W (h : Below w.heap.size w W) => refCheck_c wa (Kd.C_below C0 h) m0
  have KB := fun W (h : Below w.heap.size w W) => refCheck_c wb (Kd.C_below C1 h) m1
  have KC := fun W (h : Below w.heap.size w W) => refCheck_c wc (Kd.C_below C2 h) m2
  rw [ha] at KA; rw [hb] at KB; rw [hc] at KC
  clear C0 C1 C2 m0 m1 m2 wa wb wc ha hb hc
  cases va <;> cases vb <;> cases vc
  case true.true.true => simp at hv
  all_goals
    clear hv
    go_enter Try.func7, Try.ntmps7
    go_wp2_with (first
      | (go_at_call 22; refine (KA _ hb0).mono ?_; rintro e w1 ⟨rfl, hb⟩; have hb1 := hb0.trans (hb.mono hb0.size); clear hb0 hb KA)
      | (go_at_call 22; refine (KB _ hb1).mono ?_; rintro e w2 ⟨rfl, hb⟩; have hb2 := hb1.trans (hb.mono hb1.size); clear hb1 hb KB)
      | (go_at_call 22; refine (KC _ hb2).mono ?_; rintro e w3 ⟨rfl, hb⟩; have hb3 := hb2.trans (hb.mono hb2.size); clear hb2 hb KC)
      | (go_at_call 25; refine (awake_u _).mono ?_; rintro e w4 ⟨rfl, hb⟩; first | (have hb4 := hb1.trans (hb.mono hb1.size)) | (have hb4 := hb2.trans (hb.mono hb2.size)) | (have hb4 := hb3.trans (hb.mono hb3.size))))
    go_ret
    exact ⟨rfl, hb4⟩
set_option maxHeartbeats 4000000 in
set_option maxRecDepth 100000 in
theorem Turns_yes (A0 A1 A2 : Option Addr) (c0 c1 c2 : Nat) (a b c : List Int) (w : World) (C0 : Kd.C (Kd.int .u64) w A0 a.length a) (C1 : Kd.C (Kd.int .u64) w A1 b.length b) (C2 : Kd.C (Kd.int .u64) w A2 c.length c) (m0 : a.length ≤ c0) (m1 : b.length ≤ c1) (m2 : c.length ≤ c2)
    (wa : WU a) (wb : WU b) (wc : WU c) (ka : KOk a) (kb : KOk b) (kc : KOk c) (X Z ab cb aZ : List Int)
    (e1 : kmany a b = ab) (e2 : kmany ab c = X) (e3 : kmany b c = Z) (e4 : kmany c b = cb) (e5 : kmany cb a = X) (e6 : kmany a Z = aZ) (e7 : kmany aZ b = X) (gZ : KGood Z) (gX : KGood X) :
    Calls Try.prog 7 #[.slice A0 a.length c0, .slice A1 b.length c1, .slice A2 c.length c2] w fun e w' => e = .returned (.bool true) ∧ Below w.heap.size w w' := by
  have hS0 := KS.nil w
  have ga := KGood.of wa ka; have gb := KGood.of wb kb; have gc := KGood.of wc kc
  have KA := fun W (h : KS w W []) => refCheck_c wa (Kd.C_below C0 h.bel) m0
  have KB := fun W (h : KS w W []) => refCheck_c wb (Kd.C_below C1 h.bel) m1
  have KC := fun W (h : KS w W []) => refCheck_c wc (Kd.C_below C2 h.bel) m2
  rw [decide_eq_true ka] at KA; rw [decide_eq_true kb] at KB; rw [decide_eq_true kc] at KC
  have NA := fun W m (h : KS w W m) => nums_c (c := c0) wa C0 h.bel
  have NB := fun W m (h : KS w W m) => nums_c (c := c1) wb C1 h.bel
  have NC := fun W m (h : KS w W m) => nums_c (c := c2) wc C2 h.bel
  have FA := fun W m A c (h : KS w W m) (hC : Kd.C (Kd.int .u64) W A a.length a) => h.from (c := c) hC ga
  have FB := fun W m A c (h : KS w W m) (hC : Kd.C (Kd.int .u64) W A b.length b) => h.from (c := c) hC gb
  have FC := fun W m A c_ (h : KS w W m) (hC : Kd.C (Kd.int .u64) W A c.length c) => h.from (c := c_) hC gc
  have M1 := fun W x x' y y' z z' (h : KS w W [(x, x', a), (y, y', c), (z, z', b)]) => h.mergeOld (c := c1) 0 rfl C1 wb.num kb
  have M2 := fun W x x' y y' z z' (h : KS w W [(x, x', ab), (y, y', c), (z, z', b)]) => h.mergeOld (c := c2) 0 rfl C2 wc.num kc
  have M3 := fun W x x' y y' z z' (h : KS w W [(x, x', X), (y, y', c), (z, z', b)]) => h.mergeOld (c := c2) 2 rfl C2 wc.num kc
  have M4 := fun W x x' y y' z z' (h : KS w W [(x, x', X), (y, y', c), (z, z', Z)]) => h.mergeOld (c := c1) 1 rfl C1 wb.num kb
  have M5 := fun W x x' y y' z z' (h : KS w W [(x, x', X), (y, y', cb), (z, z', Z)]) => h.mergeOld (c := c0) 1 rfl C0 wa.num ka
  have M6 := fun W x x' y y' z z' v v' A c base (h : KS w W [(x, x', X), (y, y', X), (z, z', Z), (v, v', a)]) (hC : Kd.C (Kd.int .u64) W A Z.length Z) (ho : W.ownsRow base 25 1 (.slice A Z.length c) Z.length (nums .u64 Z)) (hlt : v < base ∧ v' < base) => h.mergeOwn 3 rfl hC ho hlt gZ
  have M7 := fun W x x' y y' z z' v v' (h : KS w W [(x, x', X), (y, y', X), (z, z', Z), (v, v', aZ)]) => h.mergeOld (c := c1) 3 rfl C1 wb.num kb
  rw [e1] at M1; rw [e2] at M2; rw [e3] at M3; rw [e4] at M4; rw [e5] at M5; rw [e6] at M6; rw [e7] at M7
  have HX := fun W m i k b (h : KS w W m) (hi : m[i]? = some (k, b, X)) => h.hashes i hi
  have HZ := fun W m i k b (h : KS w W m) (hi : m[i]? = some (k, b, Z)) => h.hashes i hi
  have SA := fun W A c A' c' h1 h2 h3 h4 => same_c (W := W) (A := A) (c := c) (A' := A') (c' := c') (l := X) (m := X) (by have := gX.2.1; omega) h1 h2 h3 h4
  rw [decide_eq_true (rfl : X = X)] at SA
  have LT := fun W x x' y y' z z' v v' (h : KS w W [(x, x', X), (y, y', X), (z, z', Z), (v, v', a)]) => (h.at_ 3 rfl).1.lt
  clear C0 C1 C2 m0 m1 m2 wa wb wc ka kb kc e1 e2 e3 e4 e5 e6 e7 gZ gX ga gb gc
  go_enter Try.func7, Try.ntmps7
  go_wp2_with (first
    | (go_at_call 22; refine (KA _ hS0).mono ?_; rintro e w1 ⟨rfl, hb⟩; have hS1 := hS0.below hb; clear hS0 hb KA)
    | (go_at_call 22; refine (KB _ hS1).mono ?_; rintro e w2 ⟨rfl, hb⟩; have hS2 := hS1.below hb; clear hS1 hb KB)
    | (go_at_call 22; refine (KC _ hS2).mono ?_; rintro e w3 ⟨rfl, hb⟩; have hS3 := hS2.below hb; clear hS2 hb KC)
    | (go_at_call 21; refine (NA _ _ hS3).mono ?_; rintro e w4 ⟨A4, c4, rfl, lc4, hC4, ho, hb⟩; have hS4 := hS3.below hb; clear hS3 ho hb lc4)
    | (go_at_call 34; refine (FA _ _ _ _ hS4 hC4).mono ?_; rintro e w5 ⟨x, x', rfl, hS5, hb⟩; clear hS4 hC4 hb)
    | (go_at_call 21; refine (NC _ _ hS5).mono ?_; rintro e w6 ⟨A6, c6, rfl, lc6, hC6, ho, hb⟩; have hS6 := hS5.below hb; clear hS5 ho hb lc6 NC)
    | (go_at_call 34; refine (FC _ _ _ _ hS6 hC6).mono ?_; rintro e w7 ⟨y, y', rfl, hS7, hb⟩; clear hS6 hC6 hb FC)
    | (go_at_call 21; refine (NB _ _ hS7).mono ?_; rintro e w8 ⟨A8, c8, rfl, lc8, hC8, ho, hb⟩; have hS8 := hS7.below hb; clear hS7 ho hb lc8 NB)
    | (go_at_call 34; refine (FB _ _ _ _ hS8 hC8).mono ?_; rintro e w9 ⟨z, z', rfl, hS9, hb⟩; clear hS8 hC8 hb FB)
    | (go_at_call 37; refine (M1 _ _ _ _ _ _ _ hS9).mono ?_; rintro e w10 ⟨rfl, hS10, hk⟩; clear hS9 hk M1)
    | (go_at_call 37; refine (M2 _ _ _ _ _ _ _ hS10).mono ?_; rintro e w11 ⟨rfl, hS11, hk⟩; clear hS10 hk M2)
    | (go_at_call 37; refine (M3 _ _ _ _ _ _ _ hS11).mono ?_; rintro e w12 ⟨rfl, hS12, hk⟩; clear hS11 hk M3)
    | (go_at_call 37; refine (M4 _ _ _ _ _ _ _ hS12).mono ?_; rintro e w13 ⟨rfl, hS13, hk⟩; clear hS12 hk M4)
    | (go_at_call 37; refine (M5 _ _ _ _ _ _ _ hS13).mono ?_; rintro e w14 ⟨rfl, hS14, hk⟩; clear hS13 hk M5)
    | (go_at_call 21; refine (NA _ _ hS14).mono ?_; rintro e w15 ⟨A15, c15, rfl, lc15, hC15, ho, hb⟩; have hS15 := hS14.below hb; clear hS14 ho hb lc15 NA)
    | (go_at_call 34; refine (FA _ _ _ _ hS15 hC15).mono ?_; rintro e w16 ⟨v, v', rfl, hS16, hb⟩; clear hS15 hC15 hb FA; have hlt := LT _ _ _ _ _ _ _ _ _ hS16)
    | (go_at_call 32; refine (HZ _ _ 2 _ _ hS16 rfl).mono ?_; rintro e w17 ⟨A17, c17, rfl, lc17, hC17, ho17, hS17, hb⟩; clear hS16 hb HZ lc17)
    | (go_at_call 37; refine (M6 _ _ _ _ _ _ _ _ _ _ _ _ hS17 hC17 ho17 hlt).mono ?_; rintro e w18 ⟨rfl, hS18, hk⟩; clear hS17 hk hC17 ho17 hlt M6)
    | (go_at_call 37; refine (M7 _ _ _ _ _ _ _ _ _ hS18).mono ?_; rintro e w19 ⟨rfl, hS19, hk⟩; clear hS18 hk M7)
    | (go_at_call 32; refine (HX _ _ 0 _ _ hS19 rfl).mono ?_; rintro e w20 ⟨A20, c20, rfl, lc20, hC20, ho, hS20, hb⟩; clear hS19 hb ho)
    | (go_at_call 32; refine (HX _ _ 1 _ _ hS20 rfl).mono ?_; rintro e w21 ⟨A21, c21, rfl, lc21, hC21, ho, hS21, hb⟩; have hC20' := Kd.C_below hC20 hb; clear hS20 hb ho hC20)
    | (go_at_call 39; refine (SA _ _ _ _ _ hC20' lc20 hC21 lc21).mono ?_; rintro e w22 ⟨rfl, hb⟩; have hS22 := hS21.below hb; clear hS21 hC20' hC21 hb lc20 lc21)
    | (go_at_call 32; refine (HX _ _ 0 _ _ hS22 rfl).mono ?_; rintro e w23 ⟨A23, c23, rfl, lc23, hC23, ho, hS23, hb⟩; clear hS22 hb ho)
    | (go_at_call 32; refine (HX _ _ 3 _ _ hS23 rfl).mono ?_; rintro e w24 ⟨A24, c24, rfl, lc24, hC24, ho, hS24, hb⟩; have hC23' := Kd.C_below hC23 hb; clear hS23 hb ho hC23)
    | (go_at_call 39; refine (SA _ _ _ _ _ hC23' lc23 hC24 lc24).mono ?_; rintro e w25 ⟨rfl, hb⟩; have hS25 := hS24.below hb; clear hS24 hC23' hC24 hb lc23 lc24 SA)
    | (go_at_call 25; refine (awake_u _).mono ?_; rintro e w26 ⟨rfl, hb⟩; have hS26 := hS25.below hb; clear hS25 hb))
  go_ret
  exact ⟨rfl, hS26.bel⟩
theorem KmvTurns_walk (A0 : Option Addr) (c0 : Nat) (l0 : List Int) (A1 : Option Addr) (c1 : Nat) (l1 : List Int) (A2 : Option Addr) (c2 : Nat) (l2 : List Int) (w : World) (C0 : Kd.C (Kd.int .u64) w A0 l0.length l0) (m0 : l0.length ≤ c0) (w0 : WU l0) (C1 : Kd.C (Kd.int .u64) w A1 l1.length l1) (m1 : l1.length ≤ c1) (w1 : WU l1)
    (C2 : Kd.C (Kd.int .u64) w A2 l2.length l2) (m2 : l2.length ≤ c2) (w2 : WU l2) :
    Calls Try.prog 7 #[.slice A0 l0.length c0, .slice A1 l1.length c1, .slice A2 l2.length c2] w fun e w' => e = .returned (.bool true) ∧ Below w.heap.size w w' := by
  by_cases h : (decide (KOk l0) && decide (KOk l1) && decide (KOk l2)) = false
  · exact Turns_no A0 A1 A2 c0 c1 c2 l0 l1 l2 w C0 C1 C2 m0 m1 m2 w0 w1 w2 _ _ _ rfl rfl rfl h
  · simp only [Bool.not_eq_false, Bool.and_eq_true, decide_eq_true_eq] at h
    obtain ⟨⟨ka, kb⟩, kc⟩ := h
    have ga := KGood.of w0 ka; have gb := KGood.of w1 kb; have gc := KGood.of w2 kc
    have gab := kgood_kmany ga w1.num
    exact Turns_yes A0 A1 A2 c0 c1 c2 l0 l1 l2 w C0 C1 C2 m0 m1 m2 w0 w1 w2 ka kb kc _ _ _ _ _ rfl rfl rfl rfl (kmany_turn ga gc) rfl (kmany_group ga gb) (kgood_kmany gb w2.num) (kgood_kmany gab w2.num)
end Go.Proofs.Ytpjchgiemmnikaa.Pure
