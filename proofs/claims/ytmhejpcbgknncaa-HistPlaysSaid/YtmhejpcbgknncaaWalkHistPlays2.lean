/- What is asked of the law HistPlays: the walk of its loop. No condition but how an argument is read. -/
import Derived.Test.YtmhejpcbgknncaaWalkHistPlays
namespace Go.Proofs.Ytmhejpcbgknncaa
open Go.RowKit Go.Proofs.YtmhejpcbgknncaaW.PrintWords Go.Proofs.YtmhejpcbgknncaaW.PrintLast Go.Proofs.YtmhejpcbgknncaaW.PrintMore Go.Proofs.Ytmhejpcbgknncaa.Hi Go.Proofs.Ytmhejpcbgknncaa.Hj Go.Proofs.Ytmhejpcbgknncaa.Hp Go.Proofs.Ytmhejpcbgknncaa.Hr

/-- The state of the loop: one histogram, and the list of its buckets. -/
def St (w0 W : World) (g : Nat) (s : List Int) (A : Option Addr) (c : Nat) : Prop :=
  hgood s = true ∧ (bks s).length ≤ c ∧ HS w0 W [(g, s)] ∧ Kd.R k51 51 W w0.heap.size (fun _ => True) (.slice A (bks s).length c) (bks s)
theorem St.C {w0 W : World} {g : Nat} {s : List Int} {A : Option Addr} {c : Nat} (h : St w0 W g s A c) : Kd.C k51 W A (bks s).length (bks s) := (Kd.R_reads' h.2.2.2).2.2
theorem St.below {w0 W W' : World} {g : Nat} {s : List Int} {A : Option Addr} {c : Nat} (h : St w0 W g s A c) (hb : Below W.heap.size W W') : St w0 W' g s A c := ⟨h.1, h.2.1, h.2.2.1.below hb, Kd.R_below h.2.2.2 hb⟩
theorem St.ne {w0 W : World} {g : Nat} {s : List Int} {A : Option Addr} {c : Nat} (h : St w0 W g s A c) : g < W.heap.size := blk_lt (h.2.2.1.at_ 0 rfl).1
/-- Behind a call on the histogram: the list is as it was. -/
def St2 (w0 W : World) (g : Nat) (s t : List Int) (A : Option Addr) (c : Nat) : Prop :=
  hgood s = true ∧ hgood t = true ∧ (bks s).length ≤ c ∧ HS w0 W [(g, t)] ∧ Kd.R k51 51 W w0.heap.size (fun _ => True) (.slice A (bks s).length c) (bks s)
theorem St2.C {w0 W : World} {g : Nat} {s t : List Int} {A : Option Addr} {c : Nat} (h : St2 w0 W g s t A c) : Kd.C k51 W A (bks s).length (bks s) := (Kd.R_reads' h.2.2.2.2).2.2
theorem St2.below {w0 W W' : World} {g : Nat} {s t : List Int} {A : Option Addr} {c : Nat} (h : St2 w0 W g s t A c) (hb : Below W.heap.size W W') : St2 w0 W' g s t A c := ⟨h.1, h.2.1, h.2.2.1, h.2.2.2.1.below hb, Kd.R_below h.2.2.2.2 hb⟩
/-- The call's own box of an operation. -/
def Box (W : World) (b : Nat) (k v n : Int) (A : Option Addr) (l c : Nat) : Prop := W.heap[b]? = some (.cells #[.int .i64 k, .int .u64 v, .int .u64 n, .slice A l c] 59 (0, 0))
theorem Box.below {W W' : World} {b : Nat} {k v n : Int} {A : Option Addr} {l c : Nat} (h : Box W b k v n A l c) (hb : Below W.heap.size W W') : Box W' b k v n A l c := blk_below h hb
theorem Box.keep {W W' : World} {b g : Nat} {k v n : Int} {A : Option Addr} {l c : Nat} (h : Box W b k v n A l c) {cs : Array Value} (hg : W.heap[g]? = some (.cells cs 83 (0, 0))) (hk : KeepBut W W' g none) : Box W' b k v n A l c :=
  hk.blk h (blk_ne h hg (by decide)) (by simp)
theorem Box.cells {W : World} {b : Nat} {k v n : Int} {A : Option Addr} {l c : Nat} (h : Box W b k v n A l c) :
    W.cell? ⟨b, 0, none⟩ = some (.int .i64 k) ∧ W.cell? ⟨b, 1, none⟩ = some (.int .u64 v) ∧ W.cell? ⟨b, 2, none⟩ = some (.int .u64 n) ∧ W.cell? ⟨b, 3, none⟩ = some (.slice A l c) :=
  ⟨blk_cell h 0, blk_cell h 1, blk_cell h 2, blk_cell h 3⟩
theorem St.add {w0 W : World} {g : Nat} {s : List Int} {A : Option Addr} {c : Nat} (h : St w0 W g s A c) {v n : Int} (hv : 0 ≤ v ∧ v < 18446744073709551616) (hn : 0 ≤ n ∧ n < 18446744073709551616) {b : Nat} {bk bv bn : Int} {bA : Option Addr} {bl bc : Nat} (hb : Box W b bk bv bn bA bl bc) :
    Calls Try.prog 25 #[.pointer (some ⟨g, 0, none⟩), .int .u64 v, .int .u64 n] W fun e w' => e = .returned (.tuple #[]) ∧ St2 w0 w' g s (hadd s (bucketN v.toNat) n) A c ∧ Box w' b bk bv bn bA bl bc :=
  (HS.add h.2.2.1 0 rfl h.1 hv hn).mono fun _ _ ⟨he, hS, hk⟩ => ⟨he, ⟨h.1, hadd_good h.1 _ _ hn.1, h.2.1, hS, R_hist h.2.2.2 (h.2.2.1.at_ 0 rfl).1 hk⟩, hb.keep (h.2.2.1.at_ 0 rfl).1 hk⟩
theorem St2.refAdd {w0 W : World} {g : Nat} {s : List Int} {A : Option Addr} {c : Nat} {b : Nat} {v : Int} (hb : b < 7424) (hv : 0 ≤ v ∧ v < 18446744073709551616) (h : St2 w0 W g s (hadd s b v) A c) :
    Calls Try.prog 38 #[.slice A (bks s).length c, .int .i64 (b : Int), .int .u64 v] W fun e w' => ∃ A' c', e = .returned (.slice A' (bks (hadd s b v)).length c') ∧ St w0 w' g (hadd s b v) A' c' :=
  (varveref07_Add.calls 20000 A c (bks s) (b : Int) v _ W h.C h.2.2.1 (Pure.refAdd_list h.1 b hb v hv 20000 (Nat.le_refl _))).mono fun _ _ ⟨v0, he, hR, hB⟩ => by
    obtain ⟨A', c', rfl, hc', _⟩ := Kd.R_reads hR
    exact ⟨A', c', he, h.2.1, hc', h.2.2.2.1.below hB, Kd.R_lower hR h.2.2.2.1.bel.size⟩
theorem St.merge {w0 W : World} {g : Nat} {s : List Int} {A : Option Addr} {c : Nat} (h : St w0 W g s A c) {A2 : Option Addr} {c2 : Nat} {l : List S51} {base : Nat} {ok : Nat → Prop} (hR : Kd.R k51 51 W base ok (.slice A2 l.length c2) l) (hw : Pure.WB l) (hl : Pure.chk l = true) {b : Nat} {bk bv bn : Int} {bA : Option Addr} {bl bc : Nat} (hb : Box W b bk bv bn bA bl bc) :
    Calls Try.prog 37 #[.pointer (some ⟨g, 0, none⟩), .slice A2 l.length c2] W fun e w' => e = .returned (.int .i64 0) ∧ St2 w0 w' g s (Pure.merged s l) A c ∧ Box w' b bk bv bn bA bl bc :=
  (HS.merge h.2.2.1 0 rfl h.1 (Kd.R_reads' hR).2.1 (HS.own h.2.2.1 0 rfl hR) hw hl).mono fun _ _ ⟨he, hS, hk⟩ => ⟨he, ⟨h.1, Pure.merged_good_of (Pure.Bok.of hw hl) h.1, h.2.1, hS, R_hist h.2.2.2 (h.2.2.1.at_ 0 rfl).1 hk⟩, hb.keep (h.2.2.1.at_ 0 rfl).1 hk⟩
theorem St.merge_no {w0 W : World} {g : Nat} {s : List Int} {A : Option Addr} {c : Nat} (h : St w0 W g s A c) {A2 : Option Addr} {c2 : Nat} {l : List S51} {base : Nat} {ok : Nat → Prop} (hR : Kd.R k51 51 W base ok (.slice A2 l.length c2) l) (hw : Pure.WB l) (hl : Pure.chk l = false) {b : Nat} {bk bv bn : Int} {bA : Option Addr} {bl bc : Nat} (hb : Box W b bk bv bn bA bl bc) :
    Calls Try.prog 37 #[.pointer (some ⟨g, 0, none⟩), .slice A2 l.length c2] W fun e w' => e = .returned (.int .i64 5) ∧ St w0 w' g s A c ∧ Box w' b bk bv bn bA bl bc :=
  (hist_Hist_Merge.calls (l.length + 1) g s A2 c2 l 5 s w0 W (h.2.2.1.at_ 0 rfl) h.2.2.1.bel (HS.own h.2.2.1 0 rfl hR) (Kd.R_reads' hR).2.1 (Pure.Merge_no hw hl _ (by omega))).mono fun _ _ ⟨he, hI, hB, hk⟩ =>
    ⟨he, ⟨h.1, h.2.1, h.2.2.1.put 0 rfl hk hI.1 hB, R_hist h.2.2.2 (h.2.2.1.at_ 0 rfl).1 hk⟩, hb.keep (h.2.2.1.at_ 0 rfl).1 hk⟩
theorem St2.refMerge {w0 W : World} {g : Nat} {s : List Int} {A : Option Addr} {c : Nat} {l : List S51} (hw : Pure.WB l) (hl : Pure.chk l = true) (h : St2 w0 W g s (Pure.merged s l) A c) {A2 : Option Addr} {c2 : Nat} (hc2 : l.length ≤ c2) (hC : Kd.C k51 w0 A2 l.length l) :
    Calls Try.prog 39 #[.slice A (bks s).length c, .slice A2 l.length c2] W fun e w' => ∃ A' c', e = .returned (.slice A' (bks (Pure.merged s l)).length c') ∧ St w0 w' g (Pure.merged s l) A' c' :=
  (varveref07_Merge.calls 50000 A c (bks s) A2 c2 l _ W h.C h.2.2.1 (Kd.C_below hC h.2.2.2.1.bel) hc2 (Pure.refMerge_list h.1 (Pure.Bok.of hw hl) hl (by have := chk_len l (-1) (by omega) hl; omega) 50000 (Nat.le_refl _))).mono fun _ _ ⟨v0, he, hR, hB⟩ => by
    obtain ⟨A', c', rfl, hc', _⟩ := Kd.R_reads hR
    exact ⟨A', c', he, h.2.1, hc', h.2.2.2.1.below hB, Kd.R_lower hR h.2.2.2.1.bel.size⟩
theorem St.same {w0 W : World} {g : Nat} {s : List Int} {A : Option Addr} {c : Nat} (h : St w0 W g s A c) :
    Calls Try.prog 42 #[.pointer (some ⟨g, 0, none⟩), .slice A (bks s).length c] W fun e w' => e = .returned (.bool true) ∧ St w0 w' g s A c :=
  (same_any h.2.2.1 0 rfl h.1 h.2.1 h.C).mono fun _ _ ⟨he, hb⟩ => ⟨he, h.below hb⟩
theorem St.quant {w0 W : World} {g : Nat} {s : List Int} {A : Option Addr} {c : Nat} (h : St w0 W g s A c) {a b v e : Int} (hq : hist_Hist_Quantile.f s a b = some (v, e, s)) {bb : Nat} {bk bv bn : Int} {bA : Option Addr} {bl bc : Nat} (hb : Box W bb bk bv bn bA bl bc) :
    Calls Try.prog 26 #[.pointer (some ⟨g, 0, none⟩), .int .u64 a, .int .u64 b] W fun e' w' => e' = .returned (.tuple #[.int .u64 v, .int .i64 e]) ∧ St w0 w' g s A c ∧ Box w' bb bk bv bn bA bl bc :=
  (hist_Hist_Quantile.calls g s a b v e s w0 W (h.2.2.1.at_ 0 rfl) h.2.2.1.bel hq).mono fun _ _ ⟨he, hI, hB, hk⟩ =>
    ⟨he, ⟨h.1, h.2.1, h.2.2.1.put 0 rfl hk hI.1 hB, R_hist h.2.2.2 (h.2.2.1.at_ 0 rfl).1 hk⟩, hb.keep (h.2.2.1.at_ 0 rfl).1 hk⟩
theorem St.refQuant {w0 W : World} {g : Nat} {s : List Int} {A : Option Addr} {c : Nat} (h : St w0 W g s A c) {a b v e : Int} (hq : varveref07_Quantile.f 20000 (bks s) a b = some (v, e)) :
    Calls Try.prog 40 #[.slice A (bks s).length c, .int .u64 a, .int .u64 b] W fun e' w' => e' = .returned (.tuple #[.int .u64 v, .int .i64 e]) ∧ St w0 w' g s A c :=
  (varveref07_Quantile.calls 20000 A c (bks s) a b v e W h.C h.2.1 hq).mono fun _ _ ⟨he, hd⟩ => ⟨he, h.below hd.below⟩
theorem St.rank {w0 W : World} {g : Nat} {s : List Int} {A : Option Addr} {c : Nat} (h : St w0 W g s A c) {v : Nat} (hv : v < 18446744073709551616) {r : Int} (hr : hsum (s.take (bucketN v + 1)) = r) :
    Calls Try.prog 29 #[.pointer (some ⟨g, 0, none⟩), .int .u64 (v : Int)] W fun e w' => e = .returned (.int .u64 r) ∧ W = w' := by
  rw [← hr]
  exact rank_any g s v W hv (h.2.2.1.at_ 0 rfl).1 ((hgood_iff _).mp h.1).1 ((hgood_iff _).mp h.1).2
theorem St.refRank {w0 W : World} {g : Nat} {s : List Int} {A : Option Addr} {c : Nat} (h : St w0 W g s A c) {v : Nat} (hv : v < 18446744073709551616) {r : Int} (hr : hsum (s.take (bucketN v + 1)) = r) :
    Calls Try.prog 41 #[.slice A (bks s).length c, .int .u64 (v : Int)] W fun e w' => e = .returned (.int .u64 r) ∧ Drawn0 W w' := by
  rw [← hr]
  exact varveref07_Rank.calls 10000 A c (bks s) (v : Int) _ W h.C h.2.1 (Pure.refRank_list h.1 v hv 10000 (Nat.le_refl _))

theorem Place5 (n : Int) : ∃ p : Int, varvelaw00_Place.f n 5 = some p ∧ (p = 0 ∨ p = 1 ∨ p = 2 ∨ p = 3 ∨ p = 4) := by
  have e := Int.mul_tdiv_add_tmod n 5
  have l1 := Int.tmod_lt_of_pos n (show (0 : Int) < 5 by omega)
  have l2 : -5 < Int.tmod n 5 := Int.lt_tmod_of_pos n (by omega)
  unfold varvelaw00_Place.f
  rw [if_neg (by omega)]
  by_cases c : Int.tmod n 5 < 0
  · rw [if_pos c, Pure.w64 (by omega) (by omega)]
    exact ⟨_, rfl, by omega⟩
  · rw [if_neg c]
    exact ⟨_, rfl, by omega⟩
set_option maxHeartbeats 4000000 in
set_option maxRecDepth 100000 in
theorem HistPlays_yes (A0 : Option Addr) (c0 : Nat) (l0 : List S51) (A1 : Option Addr) (c1 : Nat) (l1 : List S59) (w : World) (C0 : Kd.C k51 w A0 l0.length l0) (m0 : l0.length ≤ c0) (w0 : Pure.WB l0) (hc : Pure.chk l0 = true) (C1 : Kd.C k59 w A1 l1.length l1) (w1 : Pure.WOps l1) :
    Calls Try.prog 13 #[.slice A0 l0.length c0, .slice A1 l1.length c1] w fun e w' => e = .returned (.bool true) ∧ Below w.heap.size w w' := by
  have gS := Pure.merged_good w0 hc
  have eS := Pure.bks_merged (Pure.Bok.of w0 hc) hc
  have CP := fun W m (h : HS w W m) => (varvelaw00_Buckets.calls A0 c0 l0 l0 W (Kd.C_below C0 h.bel) m0 (Pure.Copy_eq l0 w0.len))
  have FR := fun W v base m (h : HS w W m) (hR : Kd.R k51 51 W base (fun _ => True) v l0) => HS.from h hR w0 hc
  have CK := fun W hC => varveref07_Check.calls (l0.length + 1) A0 c0 l0 true W hC m0 (by rw [Pure.refCheck_eq l0 w0.len _ (by omega), hc])
  have HC0 := Lib.hid C0; have HC1 := Lib.hid C1; have HW1 := Lib.hid w1; have HGS := Lib.hid gS; have HES := Lib.hid eS
  have hS0 := HS.nil w
  have hlen := w1.2.1
  clear C0 m0 w0 hc C1 w1 gS eS
  go_enter Try.func13, Try.ntmps13
  go_wp2_with (first
    | (go_at_call 30; refine (CP _ _ hS0).mono ?_; rintro e w1 ⟨v1, rfl, hR1, hb1⟩; have hS1 := hS0.below hb1; clear hS0 hb1)
    | (go_at_call 36; refine (FR _ _ _ _ hS1 hR1).mono ?_; rintro e w2 ⟨g, rfl, hS2, hb2⟩; clear hS1 hR1 hb2)
    | (go_at_call 32; refine (CK _ (Kd.C_below HC0.out hS2.bel)).mono ?_; rintro e w3 ⟨rfl, hd⟩; have hS3 := hS2.drawn hd; clear hS2 hd)
    | (go_at_call 30; refine (CP _ _ hS3).mono ?_; rintro e w4 ⟨v4, rfl, hR4, hb4⟩; obtain ⟨A4, c4, rfl, hc4, _⟩ := Kd.R_reads hR4; have hS4 : St w _ g (Pure.merged (hzero 7424) l0) A4 c4 := ⟨HGS.out, by rw [HES.out]; exact hc4, hS3.below hb4, by rw [HES.out]; exact Kd.R_lower hR4 hS3.bel.size⟩; clear hS3 hR4 hb4 hc4))
  go_loopw [7, 8] (fun v7 i wr => ∃ (j : Nat) (s : List Int) (A : Option Addr) (c : Nat), j ≤ l1.length ∧ i = .int .i64 j ∧ v7 = .slice A (bks s).length c ∧ St w wr g s A c) (fun _ i _ => l1.length - (intOf i).toNat)
  case atStart => exact ⟨0, _, A4, c4, Nat.zero_le _, rfl, by rw [HES.out], hS4⟩
  case round =>
    clear hS4 CP FR CK
    obtain ⟨j, s, A, c, hj, rfl, rfl, hS⟩ := hrel
    by_cases hlt : j < l1.length ∧ j < 60
    · obtain ⟨h1, h2⟩ := hlt
      have hx := HW1.out.2.2 (rd_T59 l1 (j : Int)) (by
        rw [rd_T59, Int.toNat_natCast, List.getD, List.getElem?_eq_getElem h1]; exact List.getElem_mem _)
      obtain ⟨ad, A3, c3, rfl, q0, q1, q2, q3, lc3, C3⟩ := at_T59 HC1.out (j : Int) (by omega) (by omega)
      rw [Int.toNat_natCast] at q0 q1 q2 q3
      generalize rd_T59 l1 (j : Int) = x at *
      obtain ⟨k0, v, n, L⟩ := x
      obtain ⟨x0, x1, x2, x3⟩ := hx
      dsimp only at q0 q1 q2 q3 lc3 C3 x0 x1 x2 x3
      have hv := Pure.U.of x1; have hn := Pure.U.of x2
      obtain ⟨v, rfl⟩ : ∃ y : Nat, v = y := ⟨v.toNat, by omega⟩
      have HV := Lib.hid hv; have HN := Lib.hid hn; have HVN : Hid (v < 18446744073709551616) := Lib.hid (by omega)
      replace q0 := (hS.2.2.1.bel.cell (World.block_lt_of_cell? w _ q0)).trans q0
      replace q1 := (hS.2.2.1.bel.cell (World.block_lt_of_cell? w _ q1)).trans q1
      replace q2 := (hS.2.2.1.bel.cell (World.block_lt_of_cell? w _ q2)).trans q2
      replace q3 := (hS.2.2.1.bel.cell (World.block_lt_of_cell? w _ q3)).trans q3
      have HJ := Lib.hid h1
      have dj1 : decide (j < l1.length) = true := decide_eq_true h1
      have dj2 : decide ((j : Int) < 60) = true := decide_eq_true (by omega)
      have dj3 : decide (j < 60) = true := decide_eq_true h2
      have HC3 := Lib.hid C3; have HL := Lib.hid lc3; have HX3 := Lib.hid x3
      obtain ⟨p, hp, hp5⟩ := Place5 k0
      have PL := fun W => varvelaw00_Place.calls k0 5 p W hp
      clear hp x0 x1 x2 x3 hv hn h1 h2 C3 lc3
      rcases hp5 with rfl | rfl | rfl | rfl | rfl
      · -- Add
        go_wp2_with (first
          | (go_at_call 34; refine (PL _).mono ?_; rintro e w5 ⟨rfl, hd⟩; have hS1 := (hS.below (below_alloc (Below.refl _ _) _)).below hd.below; have hB1 : Box w5 wr.heap.size k0 (v : Int) n A3 L.length c3 := box_of hd; obtain ⟨b0, b1, b2, b3⟩ := hB1.cells; clear hS hd PL)
          | (go_at_call 25; refine (hS1.add HV.out HN.out hB1).mono ?_; rintro e w6 ⟨rfl, hS2, hB2⟩; clear b0 b1 b2 b3; obtain ⟨b0, b1, b2, b3⟩ := hB2.cells; clear hS1 hB1 hB2))
        rw [Int.toNat_natCast] at hS2
        have d1 : w6.drew.cell? ⟨wr.heap.size, 1, none⟩ = some (.int .u64 (v : Int)) := b1
        have d2 : w6.drew.cell? ⟨wr.heap.size, 2, none⟩ = some (.int .u64 n) := b2
        have hS3 : St2 w w6.drew g s (hadd s (bucketN v) n) A c := hS2.below (below_drew (Below.refl _ _))
        clear b0 b1 b2 b3 hS2
        refine wp_region_still_tail 6 (by kernel_rfl) (by kernel_rfl) ?_
        simp only [List.take_succ_cons, List.take_zero, List.drop_succ_cons, List.drop_zero]
        change wpStill _ _ w6.drew _ _ _
        obtain ⟨W2, hW2⟩ : ∃ W2, w6.drew = W2 := ⟨_, rfl⟩
        rw [hW2] at d1 d2 hS3 ⊢
        have HW2 := Lib.hid hW2
        clear hW2
        repeat still_step
        still_call ((refBucket_same v HVN.out W2).mono fun _ _ ⟨he, hw⟩ => ⟨he, hw.symm⟩)
        repeat still_step
        refine wpStill_nil ?_
        change wpList _ _ _ _ _ w6.drew
        rw [HW2.out]
        clear d1 d2
        go_wp2_with (first
          | (go_at_call 38; refine (St2.refAdd (bucketN_lt v HVN.out) HN.out hS3).mono ?_; rintro e w8 ⟨A8, c8, rfl, hS9⟩; clear hS3)
          | (go_at_call 42; refine hS9.same.mono ?_; rintro e w9 ⟨rfl, hSr⟩; clear hS9))
        go_roundw
        case rel => exact ⟨j + 1, _, _, _, by have := HJ.out; omega, by go_num, rfl, hSr⟩
        case measure => have := HJ.out; simp [intOf]; omega
      · -- Add
        go_wp2_with (first
          | (go_at_call 34; refine (PL _).mono ?_; rintro e w5 ⟨rfl, hd⟩; have hS1 := (hS.below (below_alloc (Below.refl _ _) _)).below hd.below; have hB1 : Box w5 wr.heap.size k0 (v : Int) n A3 L.length c3 := box_of hd; obtain ⟨b0, b1, b2, b3⟩ := hB1.cells; clear hS hd PL)
          | (go_at_call 25; refine (hS1.add HV.out HN.out hB1).mono ?_; rintro e w6 ⟨rfl, hS2, hB2⟩; clear b0 b1 b2 b3; obtain ⟨b0, b1, b2, b3⟩ := hB2.cells; clear hS1 hB1 hB2))
        rw [Int.toNat_natCast] at hS2
        have d1 : w6.drew.cell? ⟨wr.heap.size, 1, none⟩ = some (.int .u64 (v : Int)) := b1
        have d2 : w6.drew.cell? ⟨wr.heap.size, 2, none⟩ = some (.int .u64 n) := b2
        have hS3 : St2 w w6.drew g s (hadd s (bucketN v) n) A c := hS2.below (below_drew (Below.refl _ _))
        clear b0 b1 b2 b3 hS2
        refine wp_region_still_tail 6 (by kernel_rfl) (by kernel_rfl) ?_
        simp only [List.take_succ_cons, List.take_zero, List.drop_succ_cons, List.drop_zero]
        change wpStill _ _ w6.drew _ _ _
        obtain ⟨W2, hW2⟩ : ∃ W2, w6.drew = W2 := ⟨_, rfl⟩
        rw [hW2] at d1 d2 hS3 ⊢
        have HW2 := Lib.hid hW2
        clear hW2
        repeat still_step
        still_call ((refBucket_same v HVN.out W2).mono fun _ _ ⟨he, hw⟩ => ⟨he, hw.symm⟩)
        repeat still_step
        refine wpStill_nil ?_
        change wpList _ _ _ _ _ w6.drew
        rw [HW2.out]
        clear d1 d2
        go_wp2_with (first
          | (go_at_call 38; refine (St2.refAdd (bucketN_lt v HVN.out) HN.out hS3).mono ?_; rintro e w8 ⟨A8, c8, rfl, hS9⟩; clear hS3)
          | (go_at_call 42; refine hS9.same.mono ?_; rintro e w9 ⟨rfl, hSr⟩; clear hS9))
        go_roundw
        case rel => exact ⟨j + 1, _, _, _, by have := HJ.out; omega, by go_num, rfl, hSr⟩
        case measure => have := HJ.out; simp [intOf]; omega
      · -- Merge
        have CL := fun W m (h : HS w W m) => varvelaw00_Buckets.calls A3 c3 L L W (Kd.C_below HC3.out h.bel) HL.out (Pure.Copy_eq L HX3.out.len)
        have CK := fun W m (h : HS w W m) => varveref07_Check.calls (L.length + 1) A3 c3 L (Pure.chk L) W (Kd.C_below HC3.out h.bel) HL.out (by rw [Pure.refCheck_eq L HX3.out.len _ (by omega)])
        by_cases hck : Pure.chk L = true
        · rw [hck] at CK
          have HCK := Lib.hid hck
          clear hck
          go_wp2_with (first
            | (go_at_call 34; refine (PL _).mono ?_; rintro e w5 ⟨rfl, hd⟩; have hS1 := (hS.below (below_alloc (Below.refl _ _) _)).below hd.below; have hB1 : Box w5 wr.heap.size k0 (v : Int) n A3 L.length c3 := box_of hd; obtain ⟨b0, b1, b2, b3⟩ := hB1.cells; clear hS hd PL)
            | (go_at_call 30; refine (CL _ _ hS1.2.2.1).mono ?_; rintro e w6 ⟨v6, rfl, hR6, hb6⟩; obtain ⟨A6, c6, rfl, lc6, _⟩ := Kd.R_reads hR6; have hS2 := hS1.below hb6; have hB2 := hB1.below hb6; clear b0 b1 b2 b3 hS1 hB1 hb6)
            | (go_at_call 37; refine (hS2.merge hR6 HX3.out HCK.out hB2).mono ?_; rintro e w7 ⟨rfl, hS3, hB3⟩; obtain ⟨b0, b1, b2, b3⟩ := hB3.cells; clear hS2 hB2 hR6 lc6)
            | (go_at_call 32; refine (CK _ _ hS3.2.2.2.1).mono ?_; rintro e w8 ⟨rfl, hd⟩; have hS4 := hS3.below hd.below; have hB4 := hB3.below hd.below; clear b0 b1 b2 b3; obtain ⟨b0, b1, b2, b3⟩ := hB4.cells; clear hS3 hB3 hd)
            | (go_at_call 39; refine (St2.refMerge HX3.out HCK.out hS4 HL.out HC3.out).mono ?_; rintro e w10 ⟨A8, c8, rfl, hS9⟩; clear hS4 hB4 b0 b1 b2 b3)
            | (go_at_call 42; refine hS9.same.mono ?_; rintro e w9 ⟨rfl, hSr⟩; clear hS9))
          go_roundw
          case rel => exact ⟨j + 1, _, _, _, by have := HJ.out; omega, by go_num, rfl, hSr⟩
          case measure => have := HJ.out; simp [intOf]; omega
        · replace hck := Bool.eq_false_iff.mpr hck
          rw [hck] at CK
          have HCK := Lib.hid hck
          clear hck
          go_wp2_with (first
            | (go_at_call 34; refine (PL _).mono ?_; rintro e w5 ⟨rfl, hd⟩; have hS1 := (hS.below (below_alloc (Below.refl _ _) _)).below hd.below; have hB1 : Box w5 wr.heap.size k0 (v : Int) n A3 L.length c3 := box_of hd; obtain ⟨b0, b1, b2, b3⟩ := hB1.cells; clear hS hd PL)
            | (go_at_call 30; refine (CL _ _ hS1.2.2.1).mono ?_; rintro e w6 ⟨v6, rfl, hR6, hb6⟩; obtain ⟨A6, c6, rfl, lc6, _⟩ := Kd.R_reads hR6; have hS2 := hS1.below hb6; have hB2 := hB1.below hb6; clear b0 b1 b2 b3 hS1 hB1 hb6)
            | (go_at_call 37; refine (hS2.merge_no hR6 HX3.out HCK.out hB2).mono ?_; rintro e w7 ⟨rfl, hS3, hB3⟩; obtain ⟨b0, b1, b2, b3⟩ := hB3.cells; clear hS2 hB2 hR6 lc6)
            | (go_at_call 32; refine (CK _ _ hS3.2.2.1).mono ?_; rintro e w8 ⟨rfl, hd⟩; have hS9 := hS3.below hd.below; clear b0 b1 b2 b3 hS3 hB3 hd)
            | (go_at_call 42; refine hS9.same.mono ?_; rintro e w9 ⟨rfl, hSr⟩; clear hS9))
          go_roundw
          case rel => exact ⟨j + 1, _, _, _, by have := HJ.out; omega, by go_num, rfl, hSr⟩
          case measure => have := HJ.out; simp [intOf]; omega
      · -- Quantile
        obtain ⟨qv, qe, r1, r2⟩ := Pure.refQuant_list hS.1 HV.out HN.out 20000 (Nat.le_refl _)
        have HR1 := Lib.hid r1; have HR2 := Lib.hid r2
        clear r1 r2
        go_wp2_with (first
          | (go_at_call 34; refine (PL _).mono ?_; rintro e w5 ⟨rfl, hd⟩; have hS1 := (hS.below (below_alloc (Below.refl _ _) _)).below hd.below; have hB1 : Box w5 wr.heap.size k0 (v : Int) n A3 L.length c3 := box_of hd; obtain ⟨b0, b1, b2, b3⟩ := hB1.cells; clear hS hd PL)
          | (go_at_call 26; refine (hS1.quant HR2.out hB1).mono ?_; rintro e w6 ⟨rfl, hS2, hB2⟩; clear b0 b1 b2 b3; obtain ⟨b0, b1, b2, b3⟩ := hB2.cells; clear hS1 hB1)
          | (go_at_call 40; refine (hS2.refQuant HR1.out).mono ?_; rintro e w7 ⟨rfl, hS9⟩; clear hS2 hB2 b0 b1 b2 b3)
          | (go_at_call 42; refine hS9.same.mono ?_; rintro e w9 ⟨rfl, hSr⟩; clear hS9))
        go_roundw
        case rel => exact ⟨j + 1, _, _, _, by have := HJ.out; omega, by go_num, rfl, hSr⟩
        case measure => have := HJ.out; simp [intOf]; omega
      · -- Rank
        obtain ⟨r, hr⟩ : ∃ r : Int, hsum (s.take (bucketN v + 1)) = r := ⟨_, rfl⟩
        have HR := Lib.hid hr
        clear hr
        go_wp2_with (first
          | (go_at_call 34; refine (PL _).mono ?_; rintro e w5 ⟨rfl, hd⟩; have hS1 := (hS.below (below_alloc (Below.refl _ _) _)).below hd.below; have hB1 : Box w5 wr.heap.size k0 (v : Int) n A3 L.length c3 := box_of hd; obtain ⟨b0, b1, b2, b3⟩ := hB1.cells; clear hS hd PL))
        have K1 : ∀ W, St w W g s A c → Calls Try.prog 29 #[.pointer (some ⟨g, 0, none⟩), .int .u64 (v : Int)] W fun e w' => e = .returned (.int .u64 r) ∧ Drawn0 W w' := fun W h => (h.rank HVN.out HR.out).mono fun _ _ ⟨he, hw⟩ => ⟨he, by rw [← hw]; exact Drawn0.refl _⟩
        have K2 := fun W (h : St w W g s A c) => h.refRank HVN.out HR.out
        have SD : ∀ m, St w (w5.drewN m) g s A c := fun m => hS1.below (pw_below_drewN (Below.refl _ _) m)
        have HS1 := Lib.hid hS1
        have HSD := Lib.hid SD
        clear hS1 SD hB1
        go_quiet (first
          | (go_at_call 29; refine (K1 _ (by first | exact HS1.out | exact HSD.out _)).mono ?_; rintro e w' ⟨rfl, ⟨nd, rfl⟩⟩; (try first | exact ⟨rfl, _, World.drewN_drewN _ _ _⟩ | exact ⟨rfl, _, Eq.trans (World.drewN_drewN _ _ _) (congrArg (World.drewN _) (Nat.add_assoc _ _ _))⟩))
          | (go_at_call 41; refine (K2 _ (by first | exact HS1.out | exact HSD.out _)).mono ?_; rintro e w' ⟨rfl, ⟨nd, rfl⟩⟩; (try first | exact ⟨rfl, _, World.drewN_drewN _ _ _⟩ | exact ⟨rfl, _, Eq.trans (World.drewN_drewN _ _ _) (congrArg (World.drewN _) (Nat.add_assoc _ _ _))⟩)))
        go_wp2_with (go_at_call 42; refine (HSD.out _).same.mono ?_; rintro e w9 ⟨rfl, hSr⟩)
        go_roundw
        case rel => exact ⟨j + 1, _, _, _, by have := HJ.out; omega, by go_num, rfl, hSr⟩
        case measure => have := HJ.out; simp [intOf]; omega
    · have hend : (decide (j < l1.length) = false) ∨ (decide (j < l1.length) = true ∧ decide ((j : Int) < 60) = false) := by
        by_cases c : j < l1.length
        · exact .inr ⟨decide_eq_true c, decide_eq_false (by omega)⟩
        · exact .inl (decide_eq_false c)
      have HC := Lib.hid hlt
      clear hlt
      rcases hend with d1 | ⟨d1, d2⟩
      all_goals
        go_wp2_with (first
          | (go_at_call 42; refine hS.same.mono ?_; rintro e w9 ⟨rfl, hS9⟩; clear hS)
          | (go_at_call 23; refine (awake_p _).mono ?_; rintro e w10 ⟨rfl, hb10⟩))
        go_ret
        exact ⟨rfl, hS9.2.2.1.bel.trans (hb10.mono hS9.2.2.1.bel.size)⟩
end Go.Proofs.Ytmhejpcbgknncaa
