/- For every list of numbers and every script of calls: all hashes, and how many unlike things, are what the reference says. No condition. -/
import Derived.Test.YtpjchgiemmnikaaKRefMerge
import Derived.Test.YtpjchgiemmnikaaPureKmvTurns
namespace Go.Proofs.Ytpjchgiemmnikaa
set_option linter.unusedVariables false
set_option linter.unusedSimpArgs false
open Go.RowKit Go.Maps Go.Proofs.YtpjchgiemmnikaaW.PrintWords Go.Proofs.YtpjchgiemmnikaaW.PrintLast Go.Proofs.YtpjchgiemmnikaaW.PrintMore Go.Proofs.Ytpjchgiemmnikaa.Pure Go.Proofs.Ytpjchgiemmnikaa.Q

/-! #### an operation: struct type 47 -/
structure S47 where
  f0 : Int
  f1 : ByteArray
  f2 : Int
  f3 : (List Int)
def z47 : S47 := ⟨(0 : Int), ByteArray.empty, (0 : Int), ([] : List Int)⟩
def k47 : Kd S47 := Kd.iso (Kd.pair (Kd.int .i64) (Kd.pair Kd.string (Kd.pair (Kd.int .u64) (Kd.slice 25 (Kd.int .u64))))) (fun x : S47 => (x.f0, x.f1, x.f2, x.f3))
theorem k47_open {w : World} {x : S47} {cs : List Value} (h : k47.K w x cs) : ∃ A3 c3, cs = [.int .i64 x.f0, .string x.f1, .int .u64 x.f2, .slice A3 x.f3.length c3] ∧ x.f3.length ≤ c3 ∧ (Kd.int .u64).C w A3 x.f3.length x.f3 := by
  obtain ⟨_, _, rfl, rfl, ⟨_, _, rfl, rfl, ⟨_, _, rfl, rfl, ⟨A3, c3, rfl, l3, g3⟩⟩⟩⟩ := h
  exact ⟨A3, c3, rfl, l3, g3⟩
def rd_T47 (xs : List S47) (i : Int) : S47 := xs.getD i.toNat z47
theorem at_T47 {w : World} {A : Option Addr} {n : Nat} {xs : List S47} (h : Kd.C k47 w A n xs) (i : Int) (h0 : 0 ≤ i) (h1 : i < n) : ∃ ad A3 c3, A = some ad ∧ w.cell? (ad.add (i.toNat * 4)) = some (.int .i64 (rd_T47 xs i).f0) ∧ w.cell? ⟨(ad.add (i.toNat * 4)).block, (ad.add (i.toNat * 4)).off + 1, none⟩ = some (.string (rd_T47 xs i).f1) ∧ w.cell? ⟨(ad.add (i.toNat * 4)).block, (ad.add (i.toNat * 4)).off + 2, none⟩ = some (.int .u64 (rd_T47 xs i).f2) ∧ w.cell? ⟨(ad.add (i.toNat * 4)).block, (ad.add (i.toNat * 4)).off + 3, none⟩ = some (.slice A3 (rd_T47 xs i).f3.length c3) ∧ (rd_T47 xs i).f3.length ≤ c3 ∧ (Kd.int .u64).C w A3 (rd_T47 xs i).f3.length (rd_T47 xs i).f3 := by
  obtain ⟨ad, c, e, _, hK, hc0⟩ := Kd.C_get h z47 i h0 h1
  have hc : ∀ j u, c[j]? = some u → w.cell? (ad.add (i.toNat * 4 + j)) = some u := hc0
  obtain ⟨A3, c3, rfl, l3, g3⟩ := k47_open hK
  exact ⟨ad, A3, c3, e, hc 0 _ rfl, by rw [← add_field _ _ 1 (by omega)]; exact hc 1 _ rfl, by rw [← add_field _ _ 2 (by omega)]; exact hc 2 _ rfl, by rw [← add_field _ _ 3 (by omega)]; exact hc 3 _ rfl, l3, g3⟩
def Pure.WOp (x : S47) : Prop := (Lit.int .i64 x.f0).wf = true ∧ x.f1.size ≤ 140737488351232 ∧ (Lit.int .u64 x.f2).wf = true ∧ Pure.WU x.f3
def Pure.WOps (l : List S47) : Prop := l.length * 56 ≤ 140737488351232 ∧ l.length ≤ 9223372036854775807 ∧ ∀ x ∈ l, Pure.WOp x
theorem opens47 : Opens Try.prog 47 k47 Pure.WOp :=
  opens_iso (fun x : S47 => (x.f0, x.f1, x.f2, x.f3)) (fun p => ⟨p.1, p.2.1, p.2.2.1, p.2.2.2⟩) (fun _ => rfl) (opens_struct Try.underlying47 (by kernel_rfl) (opensFields_cons rfl (by kernel_rfl) (opens_int Try.underlying3) (opensFields_cons rfl (by kernel_rfl) (opens_string Try.underlying9) (opensFields_cons rfl (by kernel_rfl) (opens_int Try.underlying25) (opensFields_one rfl (by kernel_rfl) opens22)))))
theorem opens42 : Opens Try.prog 42 (Kd.slice 47 k47) Pure.WOps := opens_slice Try.underlying42 (by kernel_rfl) (by kernel_rfl) opens47

theorem Place5 (n : Int) : ∃ p : Int, varvelaw00_Place.f n 5 = some p ∧ (p = 0 ∨ p = 1 ∨ p = 2 ∨ p = 3 ∨ p = 4) := by
  have e := Int.mul_tdiv_add_tmod n 5
  have l1 := Int.tmod_lt_of_pos n (show (0 : Int) < 5 by omega)
  have l2 : -5 < Int.tmod n 5 := Int.lt_tmod_of_pos n (by omega)
  unfold varvelaw00_Place.f
  rw [if_neg (by omega)]
  by_cases c : Int.tmod n 5 < 0
  · rw [if_pos c, show wrap64 (Int.tmod n 5 + 5) = Int.tmod n 5 + 5 from by unfold wrap64; omega]
    exact ⟨_, rfl, by omega⟩
  · rw [if_neg c]
    exact ⟨_, rfl, by omega⟩

/-- The state of the loop: one Kmv, and the list of its hashes, apart from it. -/
def St (w0 W : World) (g b : Nat) (s t : List Int) (A : Option Addr) (c : Nat) : Prop :=
  KS w0 W [(g, b, s)] ∧ KGood t ∧ t.length ≤ c ∧ Kd.C (Kd.int .u64) W A t.length t ∧ ∀ ad, A = some ad → 0 < t.length → ad.block ≠ g ∧ ad.block ≠ b
theorem St.below {w0 W W' : World} {g b : Nat} {s t : List Int} {A : Option Addr} {c : Nat} (h : St w0 W g b s t A c) (hb : Below W.heap.size W W') : St w0 W' g b s t A c := ⟨h.1.below hb, h.2.1, h.2.2.1, Kd.C_below h.2.2.2.1 hb, h.2.2.2.2⟩
theorem St.km {w0 W : World} {g b : Nat} {s t : List Int} {A : Option Addr} {c : Nat} (h : St w0 W g b s t A c) : KM W g b s := (h.1.at_ 0 rfl).1
theorem St.put {w0 W W' : World} {g b : Nat} {s s' t : List Int} {A : Option Addr} {c : Nat} (h : St w0 W g b s t A c) (hk : KS w0 W' [(g, b, s')]) (hf : KF W W' g b) : St w0 W' g b s' t A c := ⟨hk, h.2.1, h.2.2.1, C_kf h.2.2.2.1 hf h.2.2.2.2, h.2.2.2.2⟩
/-- The list gives way to another one, which is new or the old one. -/
theorem St.list {w0 W W' : World} {g b : Nat} {s t t' : List Int} {A A' : Option Addr} {c c' : Nat} (h : St w0 W g b s t A c) (hb : Below W.heap.size W W') (hg : KGood t') (hc : t'.length ≤ c') (hC : Kd.C (Kd.int .u64) W' A' t'.length t') (hA : (A' = A ∧ (0 < t'.length → 0 < t.length)) ∨ ∀ ad, A' = some ad → W.heap.size ≤ ad.block) : St w0 W' g b s t' A' c' := by
  refine ⟨h.1.below hb, hg, hc, hC, fun ad e hl => ?_⟩
  have := h.km.lt
  rcases hA with ⟨rfl, k⟩ | k
  · exact h.2.2.2.2 ad e (k hl)
  · have := k ad e; omega
/-- The call's own box of an operation. -/
def Box (W : World) (x g b : Nat) (k : Int) (s : ByteArray) (v : Int) (A : Option Addr) (l c : Nat) : Prop := W.heap[x]? = some (.cells #[.int .i64 k, .string s, .int .u64 v, .slice A l c] 47 (0, 0)) ∧ x ≠ g ∧ x ≠ b
theorem Box.below {W W' : World} {x g b : Nat} {k : Int} {s : ByteArray} {v : Int} {A : Option Addr} {l c : Nat} (h : Box W x g b k s v A l c) (hb : Below W.heap.size W W') : Box W' x g b k s v A l c := ⟨blk_below h.1 hb, h.2⟩
theorem Box.kf {W W' : World} {x g b : Nat} {k : Int} {s : ByteArray} {v : Int} {A : Option Addr} {l c : Nat} (h : Box W x g b k s v A l c) (hf : KF W W' g b) : Box W' x g b k s v A l c :=
  ⟨(hf.2.2.2.2 x (blk_lt h.1) h.2.1 h.2.2).trans h.1, h.2⟩
theorem Box.cells {W : World} {x g b : Nat} {k : Int} {s : ByteArray} {v : Int} {A : Option Addr} {l c : Nat} (h : Box W x g b k s v A l c) :
    W.cell? ⟨x, 0, none⟩ = some (.int .i64 k) ∧ W.cell? ⟨x, 1, none⟩ = some (.string s) ∧ W.cell? ⟨x, 2, none⟩ = some (.int .u64 v) ∧ W.cell? ⟨x, 3, none⟩ = some (.slice A l c) :=
  ⟨blk_cell h.1 0, blk_cell h.1 1, blk_cell h.1 2, blk_cell h.1 3⟩
theorem box_of {w w1 : World} {g b : Nat} {k : Int} {s : ByteArray} {v : Int} {A : Option Addr} {l c : Nat} (hd : Drawn0 (w.alloc (.cells #[.int .i64 k, .string s, .int .u64 v, .slice A l c] 47)) w1) (hg : g < w.heap.size) (hb : b < w.heap.size) : Box w1 w.heap.size g b k s v A l c :=
  ⟨(hd.below.block _ (by simp)).trans (blk_new w _), by omega, by omega⟩

theorem St.add {w0 W : World} {g b : Nat} {s t : List Int} {A : Option Addr} {c : Nat} (h : St w0 W g b s t A c) {x : Nat} {k : Int} {a : ByteArray} {v : Int} {bA : Option Addr} {bl bc : Nat} (hb : Box W x g b k a v bA bl bc) {n : Nat} {u : Int} (hf : fnv_Of.f n a = some u) (hu : 0 ≤ u ∧ u < 18446744073709551616) :
    Calls Try.prog 28 #[.pointer (some ⟨g, 0, none⟩), .string a] W fun e w' => e = .returned (.tuple #[]) ∧ St w0 w' g b (khash s u) t A c ∧ Box w' x g b k a v bA bl bc :=
  (h.1.add 0 rfl hf hu).mono fun _ _ ⟨he, hk, hf⟩ => ⟨he, h.put hk hf, hb.kf hf⟩
theorem St.hash {w0 W : World} {g b : Nat} {s t : List Int} {A : Option Addr} {c : Nat} (h : St w0 W g b s t A c) {x : Nat} {k : Int} {a : ByteArray} {v : Int} {bA : Option Addr} {bl bc : Nat} (hb : Box W x g b k a v bA bl bc) {u : Int} (hu : 0 ≤ u ∧ u < 18446744073709551616) :
    Calls Try.prog 31 #[.pointer (some ⟨g, 0, none⟩), .int .u64 u] W fun e w' => e = .returned (.tuple #[]) ∧ St w0 w' g b (khash s u) t A c ∧ Box w' x g b k a v bA bl bc :=
  (h.1.hash 0 rfl hu).mono fun _ _ ⟨he, hk, hf⟩ => ⟨he, h.put hk hf, hb.kf hf⟩
theorem St.refHash {w0 W : World} {g b : Nat} {t : List Int} {A : Option Addr} {c : Nat} {u : Int} (hu : 0 ≤ u ∧ u < 18446744073709551616) (h : St w0 W g b (khash t u) t A c) :
    Calls Try.prog 36 #[.slice A t.length c, .int .u64 u] W fun e w' => ∃ A' c', e = .returned (.slice A' (khash t u).length c') ∧ St w0 w' g b (khash t u) (khash t u) A' c' :=
  (refHash_same A c t u W h.2.2.2.1 ⟨h.2.1.1, h.2.1.2.1⟩ h.2.2.1).mono fun _ _ ⟨A', c', he, hc, hC, hb, hA⟩ =>
    ⟨A', c', he, h.list hb (kgood_khash h.2.1 hu) hc hC (hA.imp (fun ⟨e1, e2⟩ => ⟨e1, fun hl => by rw [e2] at hl; exact hl⟩) id)⟩
theorem St.refAdd {w0 W : World} {g b : Nat} {t : List Int} {A : Option Addr} {c : Nat} {a : ByteArray} {n : Nat} {u : Int} (hf : varveref06_Of.f n a = some u) (hu : 0 ≤ u ∧ u < 18446744073709551616) (h : St w0 W g b (khash t u) t A c) :
    Calls Try.prog 35 #[.slice A t.length c, .string a] W fun e w' => ∃ A' c', e = .returned (.slice A' (khash t u).length c') ∧ St w0 w' g b (khash t u) (khash t u) A' c' :=
  (refAdd_u A c t a W h.2.2.2.1 ⟨h.2.1.1, h.2.1.2.1⟩ h.2.2.1 n u hf).mono fun _ _ ⟨A', c', he, hc, hC, hb, hA⟩ =>
    ⟨A', c', he, h.list hb (kgood_khash h.2.1 hu) hc hC (hA.imp (fun ⟨e1, e2⟩ => ⟨e1, fun hl => by rw [e2] at hl; exact hl⟩) id)⟩
theorem St.merge {w0 W : World} {g b : Nat} {s t : List Int} {A : Option Addr} {c : Nat} (h : St w0 W g b s t A c) {x : Nat} {k : Int} {a : ByteArray} {v : Int} {bA : Option Addr} {bl bc : Nat} (hb : Box W x g b k a v bA bl bc) {A2 : Option Addr} {c2 base : Nat} {l : List Int} (hC : Kd.C (Kd.int .u64) W A2 l.length l) (ho : W.ownsRow base 25 1 (.slice A2 l.length c2) l.length (nums .u64 l)) (hlt : g < base ∧ b < base) (hg : KGood l) :
    Calls Try.prog 37 #[.pointer (some ⟨g, 0, none⟩), .slice A2 l.length c2] W fun e w' => e = .returned (.int .i64 0) ∧ St w0 w' g b (kmany s l) t A c ∧ Box w' x g b k a v bA bl bc :=
  (h.1.mergeOwn 0 rfl hC ho hlt hg).mono fun _ _ ⟨he, hk, hf⟩ => ⟨he, h.put hk hf, hb.kf hf⟩
theorem St.merge_no {w0 W : World} {g b : Nat} {s t : List Int} {A : Option Addr} {c : Nat} (h : St w0 W g b s t A c) {x : Nat} {k : Int} {a : ByteArray} {v : Int} {bA : Option Addr} {bl bc : Nat} (hb : Box W x g b k a v bA bl bc) {A2 : Option Addr} {c2 : Nat} {l : List Int} (hC : Kd.C (Kd.int .u64) W A2 l.length l) (hL : l.length ≤ 17592186043904) (hn : ¬ KOk l) :
    Calls Try.prog 37 #[.pointer (some ⟨g, 0, none⟩), .slice A2 l.length c2] W fun e w' => e = .returned (.int .i64 5) ∧ St w0 w' g b s t A c ∧ Box w' x g b k a v bA bl bc :=
  (merge_bad g A2 c2 l W hC (by omega) hn).mono fun _ w' ⟨he, n, hw⟩ => by
    have hb' : Below W.heap.size W w' := by rw [hw]; exact pw_below_drewN (Below.refl _ _) n
    exact ⟨he, h.below hb', hb.below hb'⟩
theorem St.refMerge {w0 W : World} {g b : Nat} {t : List Int} {A : Option Addr} {c : Nat} {l : List Int} (hg : KGood l) (h : St w0 W g b (kmany t l) t A c) {A2 : Option Addr} {c2 : Nat} (hc2 : l.length ≤ c2) (hC : Kd.C (Kd.int .u64) w0 A2 l.length l) :
    Calls Try.prog 38 #[.slice A t.length c, .slice A2 l.length c2] W fun e w' => ∃ A' c', e = .returned (.slice A' (kmany t l).length c') ∧ St w0 w' g b (kmany t l) (kmany t l) A' c' :=
  (varveref08_Merge.calls _ A c t A2 c2 l _ W h.2.2.2.1 h.2.2.1 (Kd.C_below hC h.1.bel) hc2 (refMerge_all h.2.1 ⟨hg.1, hg.2.1⟩)).mono fun _ _ ⟨v0, he, hR, hB⟩ => by
    have ho := Kd.own_of_R hR
    obtain ⟨A', c', rfl, hc', hC'⟩ := Kd.R_reads hR
    exact ⟨A', c', he, h.list hB (kgood_kmany h.2.1 hg.2.2) hc' hC' (.inr (own_block ho))⟩
/-- The two lists are one, and stand for as many things. -/
theorem St.hashes {w0 W : World} {g b : Nat} {t : List Int} {A : Option Addr} {c : Nat} (h : St w0 W g b t t A c) :
    Calls Try.prog 32 #[.pointer (some ⟨g, 0, none⟩)] W fun e w' => ∃ A2 c2, e = .returned (.slice A2 t.length c2) ∧ t.length ≤ c2 ∧ Kd.C (Kd.int .u64) w' A2 t.length t ∧ St w0 w' g b t t A c :=
  (h.1.hashes 0 rfl).mono fun _ _ ⟨A2, c2, he, hc, hC, _, _, hb⟩ => ⟨A2, c2, he, hc, hC, h.below hb⟩
theorem St.same {w0 W : World} {g b : Nat} {t : List Int} {A : Option Addr} {c : Nat} (h : St w0 W g b t t A c) {A2 : Option Addr} {c2 : Nat} (hc : t.length ≤ c2) (hC : Kd.C (Kd.int .u64) W A2 t.length t) :
    Calls Try.prog 39 #[.slice A2 t.length c2, .slice A t.length c] W fun e w' => e = .returned (.bool true) ∧ St w0 w' g b t t A c :=
  (same_c (by have := h.2.1.2.1; omega) hC hc h.2.2.2.1 h.2.2.1).mono fun _ _ ⟨he, hb⟩ => ⟨by rw [he, decide_eq_true (rfl : t = t)], h.below hb⟩
theorem St.dist {w0 W : World} {g b : Nat} {t : List Int} {A : Option Addr} {c : Nat} (h : St w0 W g b t t A c) {d : Int} (hd : kdist t = d) :
    Calls Try.prog 30 #[.pointer (some ⟨g, 0, none⟩)] W fun e w' => e = .returned (.int .u64 d) ∧ St w0 w' g b t t A c :=
  (h.1.dist 0 rfl).mono fun _ _ ⟨he, _, hb⟩ => ⟨by rw [he, hd], h.below hb⟩
theorem St.refDist {w0 W : World} {g b : Nat} {t : List Int} {A : Option Addr} {c : Nat} (h : St w0 W g b t t A c) {d : Int} (hd : kdist t = d) :
    Calls Try.prog 24 #[.slice A t.length c] W fun e w' => e = .returned (.int .u64 d) ∧ St w0 w' g b t t A c :=
  (refDist_c h.2.1.2.2 (by have := h.2.1.2.1; omega) h.2.2.2.1 h.2.2.1).mono fun _ _ ⟨he, hb⟩ => ⟨by rw [he, hd], h.below hb⟩
set_option maxHeartbeats 1000000 in
theorem Plays_no (A0 : Option Addr) (c0 : Nat) (l0 : List Int) (A1 : Option Addr) (n1 c1 : Nat) (w : World) (C0 : Kd.C (Kd.int .u64) w A0 l0.length l0) (m0 : l0.length ≤ c0) (w0 : Pure.WU l0) (hn : ¬ KOk l0) :
    Calls Try.prog 6 #[.slice A0 l0.length c0, .slice A1 n1 c1] w fun e w' => e = .returned (.bool true) ∧ Below w.heap.size w w' := by
  have hb0 := Below.refl w.heap.size w
  have CP := nums_c (c := c0) w0 C0 hb0
  have FR := fun W A c (hC : Kd.C (Kd.int .u64) W A l0.length l0) => from_bad A c l0 W hC (by have := w0.len; omega) hn
  have RK := fun W (h : Below w.heap.size w W) => refCheck_c w0 (Kd.C_below C0 h) m0
  rw [decide_eq_false hn] at RK
  clear C0 m0 w0 hn hb0
  go_enter Try.func6, Try.ntmps6
  go_wp2_with (first
    | (go_at_call 21; refine CP.mono ?_; rintro e w1 ⟨A1, c1, rfl, lc1, hC1, ho, hb1⟩; clear CP ho lc1)
    | (go_at_call 34; refine (FR _ _ _ hC1).mono ?_; rintro e w2 ⟨rfl, hb⟩; have hb2 := hb1.trans (hb.mono hb1.size); clear FR hC1 hb1 hb)
    | (go_at_call 22; refine (RK _ hb2).mono ?_; rintro e w3 ⟨rfl, hb⟩; have hb3 := hb2.trans (hb.mono hb2.size); clear RK hb2 hb)
    | (go_at_call 25; refine (awake_u _).mono ?_; rintro e w4 ⟨rfl, hb⟩; have hb4 := hb3.trans (hb.mono hb3.size); clear hb3 hb))
  go_ret
  exact ⟨rfl, hb4⟩
set_option maxHeartbeats 4000000 in
set_option maxRecDepth 100000 in
theorem Plays_yes (A0 : Option Addr) (c0 : Nat) (l0 : List Int) (A1 : Option Addr) (c1 : Nat) (l1 : List S47) (w : World) (C0 : Kd.C (Kd.int .u64) w A0 l0.length l0) (m0 : l0.length ≤ c0) (w0 : Pure.WU l0) (hk : KOk l0) (C1 : Kd.C k47 w A1 l1.length l1) (w1 : Pure.WOps l1) :
    Calls Try.prog 6 #[.slice A0 l0.length c0, .slice A1 l1.length c1] w fun e w' => e = .returned (.bool true) ∧ Below w.heap.size w w' := by
  have hg := KGood.of w0 hk
  have CP := fun W m (h : KS w W m) => nums_c (c := c0) w0 C0 h.bel
  have FR := fun W A c (h : KS w W []) (hC : Kd.C (Kd.int .u64) W A l0.length l0) => h.from (c := c) hC hg
  have RK := fun W m (h : KS w W m) => refCheck_c w0 (Kd.C_below C0 h.bel) m0
  rw [decide_eq_true hk] at RK
  have HC1 := Lib.hid C1; have HW1 := Lib.hid w1; have HG := Lib.hid hg
  have hS0 := KS.nil w
  have hlen := w1.2.1
  clear C0 m0 w0 hk hg C1 w1
  go_enter Try.func6, Try.ntmps6
  go_wp2_with (first
    | (go_at_call 21; refine (CP _ _ hS0).mono ?_; rintro e w1 ⟨A1, c1, rfl, lc1, hC1, ho, hb⟩; have hS1 := hS0.below hb; clear hS0 ho lc1 hb)
    | (go_at_call 34; refine (FR _ _ _ hS1 hC1).mono ?_; rintro e w2 ⟨g, b, rfl, hS2, hb⟩; clear hS1 hC1 hb FR)
    | (go_at_call 22; refine (RK _ _ hS2).mono ?_; rintro e w3 ⟨rfl, hb⟩; have hS3 := hS2.below hb; clear hS2 hb RK)
    | (go_at_call 21; refine (CP _ _ hS3).mono ?_; rintro e w4 ⟨A4, c4, rfl, lc4, hC4, ho4, hb⟩; have hlt := (hS3.at_ 0 rfl).1.lt; have hS4 : St w _ g b l0 l0 A4 c4 := ⟨hS3.below hb, HG.out, lc4, hC4, fun ad e _ => by have := own_block ho4 ad e; omega⟩; clear hS3 lc4 hC4 ho4 hb hlt CP))
  go_loopw [7, 8] (fun v7 i wr => ∃ (j : Nat) (t : List Int) (A : Option Addr) (c : Nat), j ≤ l1.length ∧ i = .int .i64 j ∧ v7 = .slice A t.length c ∧ St w wr g b t t A c) (fun _ i _ => l1.length - (intOf i).toNat)
  case atStart => exact ⟨0, _, A4, c4, Nat.zero_le _, rfl, rfl, hS4⟩
  case round =>
    clear hS4
    obtain ⟨j, t, A, c, hj, rfl, rfl, hS⟩ := hrel
    by_cases hlt : j < l1.length ∧ j < 60
    · obtain ⟨h1, h2⟩ := hlt
      have hx := HW1.out.2.2 (rd_T47 l1 (j : Int)) (by
        rw [rd_T47, Int.toNat_natCast, List.getD, List.getElem?_eq_getElem h1]; exact List.getElem_mem _)
      obtain ⟨ad, A3, c3, rfl, q0, q1, q2, q3, lc3, C3⟩ := at_T47 HC1.out (j : Int) (by omega) (by omega)
      rw [Int.toNat_natCast] at q0 q1 q2 q3
      generalize rd_T47 l1 (j : Int) = x at *
      obtain ⟨k0, a, v, L⟩ := x
      obtain ⟨x0, x1, x2, x3⟩ := hx
      dsimp only at q0 q1 q2 q3 lc3 C3 x0 x1 x2 x3
      obtain ⟨fn, u, hf1, hf2, hu⟩ := fnv_all a (by have : maxLen = 9223372036854775807 := rfl; omega)
      have HF1 := Lib.hid hf1; have HF2 := Lib.hid hf2; have HU := Lib.hid hu
      have HV := Lib.hid (U_of x2)
      replace q0 := (hS.1.bel.cell (World.block_lt_of_cell? w _ q0)).trans q0
      replace q1 := (hS.1.bel.cell (World.block_lt_of_cell? w _ q1)).trans q1
      replace q2 := (hS.1.bel.cell (World.block_lt_of_cell? w _ q2)).trans q2
      replace q3 := (hS.1.bel.cell (World.block_lt_of_cell? w _ q3)).trans q3
      have HJ := Lib.hid h1
      have dj1 : decide (j < l1.length) = true := decide_eq_true h1
      have dj2 : decide ((j : Int) < 60) = true := decide_eq_true (by omega)
      have dj3 : decide (j < 60) = true := decide_eq_true h2
      have HC3 := Lib.hid C3; have HL := Lib.hid lc3; have HX3 := Lib.hid x3
      obtain ⟨p, hp, hp5⟩ := Place5 k0
      have PL := fun W => varvelaw00_Place.calls k0 5 p W hp
      clear hp x0 x1 x2 x3 h1 h2 C3 lc3 hf1 hf2 hu
      rcases hp5 with rfl | rfl | rfl | rfl | rfl
      · -- Add
        go_wp2_with (first
          | (go_at_call 27; refine (PL _).mono ?_; rintro e w5 ⟨rfl, hd⟩; have hB1 : Box w5 wr.heap.size g b k0 a v A3 L.length c3 := box_of hd hS.km.lt.1 hS.km.lt.2; have hS1 := (hS.below (below_alloc (Below.refl _ _) _)).below hd.below; obtain ⟨b0, b1, b2, b3⟩ := hB1.cells; clear hS hd PL)
          | (go_at_call 28; refine (hS1.add hB1 HF1.out HU.out).mono ?_; rintro e w6 ⟨rfl, hS2, hB2⟩; clear b0 b1 b2 b3; obtain ⟨b0, b1, b2, b3⟩ := hB2.cells; clear hS1 hB1)
          | (go_at_call 35; refine (St.refAdd HF2.out HU.out hS2).mono ?_; rintro e w7 ⟨A7, c7, rfl, hS4⟩; clear hS2 hB2 b0 b1 b2 b3)
          | (go_at_call 32; refine hS4.hashes.mono ?_; rintro e w8 ⟨A8, c8, rfl, lc8, hC8, hS8⟩; clear hS4)
          | (go_at_call 39; refine (hS8.same lc8 hC8).mono ?_; rintro e w9 ⟨rfl, hS9⟩; clear hS8 lc8 hC8)
          | (go_at_call 30; refine (hS9.dist rfl).mono ?_; rintro e w10 ⟨rfl, hS10⟩; clear hS9)
          | (go_at_call 24; refine (hS10.refDist rfl).mono ?_; rintro e w11 ⟨rfl, hSr⟩; clear hS10))
        go_roundw
        case rel => exact ⟨j + 1, _, _, _, by have := HJ.out; omega, by go_num, rfl, hSr⟩
        case measure => have := HJ.out; simp [intOf]; omega
      · -- Add
        go_wp2_with (first
          | (go_at_call 27; refine (PL _).mono ?_; rintro e w5 ⟨rfl, hd⟩; have hB1 : Box w5 wr.heap.size g b k0 a v A3 L.length c3 := box_of hd hS.km.lt.1 hS.km.lt.2; have hS1 := (hS.below (below_alloc (Below.refl _ _) _)).below hd.below; obtain ⟨b0, b1, b2, b3⟩ := hB1.cells; clear hS hd PL)
          | (go_at_call 28; refine (hS1.add hB1 HF1.out HU.out).mono ?_; rintro e w6 ⟨rfl, hS2, hB2⟩; clear b0 b1 b2 b3; obtain ⟨b0, b1, b2, b3⟩ := hB2.cells; clear hS1 hB1)
          | (go_at_call 35; refine (St.refAdd HF2.out HU.out hS2).mono ?_; rintro e w7 ⟨A7, c7, rfl, hS4⟩; clear hS2 hB2 b0 b1 b2 b3)
          | (go_at_call 32; refine hS4.hashes.mono ?_; rintro e w8 ⟨A8, c8, rfl, lc8, hC8, hS8⟩; clear hS4)
          | (go_at_call 39; refine (hS8.same lc8 hC8).mono ?_; rintro e w9 ⟨rfl, hS9⟩; clear hS8 lc8 hC8)
          | (go_at_call 30; refine (hS9.dist rfl).mono ?_; rintro e w10 ⟨rfl, hS10⟩; clear hS9)
          | (go_at_call 24; refine (hS10.refDist rfl).mono ?_; rintro e w11 ⟨rfl, hSr⟩; clear hS10))
        go_roundw
        case rel => exact ⟨j + 1, _, _, _, by have := HJ.out; omega, by go_num, rfl, hSr⟩
        case measure => have := HJ.out; simp [intOf]; omega
      · -- Hash
        go_wp2_with (first
          | (go_at_call 27; refine (PL _).mono ?_; rintro e w5 ⟨rfl, hd⟩; have hB1 : Box w5 wr.heap.size g b k0 a v A3 L.length c3 := box_of hd hS.km.lt.1 hS.km.lt.2; have hS1 := (hS.below (below_alloc (Below.refl _ _) _)).below hd.below; obtain ⟨b0, b1, b2, b3⟩ := hB1.cells; clear hS hd PL)
          | (go_at_call 31; refine (hS1.hash hB1 HV.out).mono ?_; rintro e w6 ⟨rfl, hS2, hB2⟩; clear b0 b1 b2 b3; obtain ⟨b0, b1, b2, b3⟩ := hB2.cells; clear hS1 hB1)
          | (go_at_call 36; refine (St.refHash HV.out hS2).mono ?_; rintro e w7 ⟨A7, c7, rfl, hS4⟩; clear hS2 hB2 b0 b1 b2 b3)
          | (go_at_call 32; refine hS4.hashes.mono ?_; rintro e w8 ⟨A8, c8, rfl, lc8, hC8, hS8⟩; clear hS4)
          | (go_at_call 39; refine (hS8.same lc8 hC8).mono ?_; rintro e w9 ⟨rfl, hS9⟩; clear hS8 lc8 hC8)
          | (go_at_call 30; refine (hS9.dist rfl).mono ?_; rintro e w10 ⟨rfl, hS10⟩; clear hS9)
          | (go_at_call 24; refine (hS10.refDist rfl).mono ?_; rintro e w11 ⟨rfl, hSr⟩; clear hS10))
        go_roundw
        case rel => exact ⟨j + 1, _, _, _, by have := HJ.out; omega, by go_num, rfl, hSr⟩
        case measure => have := HJ.out; simp [intOf]; omega
      · -- Hash
        go_wp2_with (first
          | (go_at_call 27; refine (PL _).mono ?_; rintro e w5 ⟨rfl, hd⟩; have hB1 : Box w5 wr.heap.size g b k0 a v A3 L.length c3 := box_of hd hS.km.lt.1 hS.km.lt.2; have hS1 := (hS.below (below_alloc (Below.refl _ _) _)).below hd.below; obtain ⟨b0, b1, b2, b3⟩ := hB1.cells; clear hS hd PL)
          | (go_at_call 31; refine (hS1.hash hB1 HV.out).mono ?_; rintro e w6 ⟨rfl, hS2, hB2⟩; clear b0 b1 b2 b3; obtain ⟨b0, b1, b2, b3⟩ := hB2.cells; clear hS1 hB1)
          | (go_at_call 36; refine (St.refHash HV.out hS2).mono ?_; rintro e w7 ⟨A7, c7, rfl, hS4⟩; clear hS2 hB2 b0 b1 b2 b3)
          | (go_at_call 32; refine hS4.hashes.mono ?_; rintro e w8 ⟨A8, c8, rfl, lc8, hC8, hS8⟩; clear hS4)
          | (go_at_call 39; refine (hS8.same lc8 hC8).mono ?_; rintro e w9 ⟨rfl, hS9⟩; clear hS8 lc8 hC8)
          | (go_at_call 30; refine (hS9.dist rfl).mono ?_; rintro e w10 ⟨rfl, hS10⟩; clear hS9)
          | (go_at_call 24; refine (hS10.refDist rfl).mono ?_; rintro e w11 ⟨rfl, hSr⟩; clear hS10))
        go_roundw
        case rel => exact ⟨j + 1, _, _, _, by have := HJ.out; omega, by go_num, rfl, hSr⟩
        case measure => have := HJ.out; simp [intOf]; omega
      · -- Merge
        have CL := fun W (h : Below w.heap.size w W) => nums_c (c := c3) HX3.out HC3.out h
        have CK := fun W (h : Below w.heap.size w W) => refCheck_c HX3.out (Kd.C_below HC3.out h) HL.out
        by_cases hck : KOk L
        · rw [decide_eq_true hck] at CK
          have HCK := Lib.hid (KGood.of HX3.out hck)
          clear hck
          go_wp2_with (first
          | (go_at_call 27; refine (PL _).mono ?_; rintro e w5 ⟨rfl, hd⟩; have hB1 : Box w5 wr.heap.size g b k0 a v A3 L.length c3 := box_of hd hS.km.lt.1 hS.km.lt.2; have hS1 := (hS.below (below_alloc (Below.refl _ _) _)).below hd.below; obtain ⟨b0, b1, b2, b3⟩ := hB1.cells; clear hS hd PL)
          | (go_at_call 21; refine (CL _ hS1.1.bel).mono ?_; rintro e w6 ⟨A6, c6, rfl, lc6, hC6, ho6, hb6⟩; have hlt := hS1.km.lt; have hS2 := hS1.below hb6; have hB2 := hB1.below hb6; clear b0 b1 b2 b3 hS1 hB1 hb6 lc6)
          | (go_at_call 37; refine (hS2.merge hB2 hC6 ho6 hlt HCK.out).mono ?_; rintro e w7 ⟨rfl, hS3, hB3⟩; obtain ⟨b0, b1, b2, b3⟩ := hB3.cells; clear hS2 hB2 hC6 ho6 hlt)
          | (go_at_call 22; refine (CK _ hS3.1.bel).mono ?_; rintro e w72 ⟨rfl, hb7⟩; have hS31 := hS3.below hb7; have hB31 := hB3.below hb7; clear b0 b1 b2 b3; obtain ⟨b0, b1, b2, b3⟩ := hB31.cells; clear hS3 hB3 hb7)
          | (go_at_call 38; refine (St.refMerge HCK.out hS31 HL.out HC3.out).mono ?_; rintro e w10 ⟨A7, c7, rfl, hS4⟩; clear hS31 hB31 b0 b1 b2 b3)
          | (go_at_call 32; refine hS4.hashes.mono ?_; rintro e w8 ⟨A8, c8, rfl, lc8, hC8, hS8⟩; clear hS4)
            | (go_at_call 39; refine (hS8.same lc8 hC8).mono ?_; rintro e w9 ⟨rfl, hS9⟩; clear hS8 lc8 hC8)
            | (go_at_call 30; refine (hS9.dist rfl).mono ?_; rintro e w10 ⟨rfl, hS10⟩; clear hS9)
            | (go_at_call 24; refine (hS10.refDist rfl).mono ?_; rintro e w11 ⟨rfl, hSr⟩; clear hS10))
          go_roundw
          case rel => exact ⟨j + 1, _, _, _, by have := HJ.out; omega, by go_num, rfl, hSr⟩
          case measure => have := HJ.out; simp [intOf]; omega
        · rw [decide_eq_false hck] at CK
          have HCK := Lib.hid hck
          clear hck
          go_wp2_with (first
          | (go_at_call 27; refine (PL _).mono ?_; rintro e w5 ⟨rfl, hd⟩; have hB1 : Box w5 wr.heap.size g b k0 a v A3 L.length c3 := box_of hd hS.km.lt.1 hS.km.lt.2; have hS1 := (hS.below (below_alloc (Below.refl _ _) _)).below hd.below; obtain ⟨b0, b1, b2, b3⟩ := hB1.cells; clear hS hd PL)
          | (go_at_call 21; refine (CL _ hS1.1.bel).mono ?_; rintro e w6 ⟨A6, c6, rfl, lc6, hC6, ho6, hb6⟩; have hS2 := hS1.below hb6; have hB2 := hB1.below hb6; clear b0 b1 b2 b3 hS1 hB1 hb6 lc6 ho6)
          | (go_at_call 37; refine (hS2.merge_no hB2 hC6 HX3.out.len HCK.out).mono ?_; rintro e w7 ⟨rfl, hS3, hB3⟩; obtain ⟨b0, b1, b2, b3⟩ := hB3.cells; clear hS2 hB2 hC6)
          | (go_at_call 22; refine (CK _ hS3.1.bel).mono ?_; rintro e w72 ⟨rfl, hb7⟩; have hS4 := hS3.below hb7; clear b0 b1 b2 b3 hS3 hB3 hb7)
          | (go_at_call 32; refine hS4.hashes.mono ?_; rintro e w8 ⟨A8, c8, rfl, lc8, hC8, hS8⟩; clear hS4)
            | (go_at_call 39; refine (hS8.same lc8 hC8).mono ?_; rintro e w9 ⟨rfl, hS9⟩; clear hS8 lc8 hC8)
            | (go_at_call 30; refine (hS9.dist rfl).mono ?_; rintro e w10 ⟨rfl, hS10⟩; clear hS9)
            | (go_at_call 24; refine (hS10.refDist rfl).mono ?_; rintro e w11 ⟨rfl, hSr⟩; clear hS10))
          go_roundw
          case rel => exact ⟨j + 1, _, _, _, by have := HJ.out; omega, by go_num, rfl, hSr⟩
          case measure => have := HJ.out; simp [intOf]; omega
    · have hend : (decide (j < l1.length) = false) ∨ (decide (j < l1.length) = true ∧ decide ((j : Int) < 60) = false) := by
        by_cases c : j < l1.length
        · exact .inr ⟨decide_eq_true c, decide_eq_false (by omega)⟩
        · exact .inl (decide_eq_false c)
      have HC := Lib.hid hlt
      clear hlt
      rcases hend with d1 | ⟨d1, d2⟩
      all_goals
        go_wp2_with (first
          | (go_at_call 32; refine hS.hashes.mono ?_; rintro e w8 ⟨A8, c8, rfl, lc8, hC8, hS8⟩; clear hS)
          | (go_at_call 39; refine (hS8.same lc8 hC8).mono ?_; rintro e w9 ⟨rfl, hS9⟩; clear hS8 lc8 hC8)
          | (go_at_call 25; refine (awake_u _).mono ?_; rintro e w10 ⟨rfl, hb10⟩))
        go_ret
        exact ⟨rfl, hS9.1.bel.trans (hb10.mono hS9.1.bel.size)⟩
theorem Pure.KmvPlays_walk (A0 : Option Addr) (c0 : Nat) (l0 : List Int) (A1 : Option Addr) (c1 : Nat) (l1 : List S47) (w : World) (C0 : Kd.C (Kd.int .u64) w A0 l0.length l0) (m0 : l0.length ≤ c0) (w0 : Pure.WU l0) (C1 : Kd.C k47 w A1 l1.length l1) (_ : l1.length ≤ c1) (w1 : Pure.WOps l1) :
    Calls Try.prog 6 #[.slice A0 l0.length c0, .slice A1 l1.length c1] w fun e w' => e = .returned (.bool true) ∧ Below w.heap.size w w' := by
  by_cases h : KOk l0
  · exact Plays_yes A0 c0 l0 A1 c1 l1 w C0 m0 w0 h C1 w1
  · exact Plays_no A0 c0 l0 A1 l1.length c1 w C0 m0 w0 h
end Go.Proofs.Ytpjchgiemmnikaa
