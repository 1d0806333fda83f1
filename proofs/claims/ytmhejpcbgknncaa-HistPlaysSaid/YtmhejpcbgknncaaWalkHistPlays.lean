/- What is asked of the law HistPlays: the walk over its Go text. No condition but how an argument is read. -/
import Derived.Test.YtmhejpcbgknncaaHMany
import Derived.Test.YtmhejpcbgknncaaHRef2
import Derived.Test.YtmhejpcbgknncaaHpx
import Derived.Test.YtmhejpcbgknncaaOpens
import Derived.StillTailTactics
namespace Go.Proofs.Ytmhejpcbgknncaa
open Go.RowKit Go.Proofs.YtmhejpcbgknncaaW.PrintWords Go.Proofs.YtmhejpcbgknncaaW.PrintLast Go.Proofs.YtmhejpcbgknncaaW.PrintMore Go.Proofs.Ytmhejpcbgknncaa.Hi Go.Proofs.Ytmhejpcbgknncaa.Hj Go.Proofs.Ytmhejpcbgknncaa.Hp Go.Proofs.Ytmhejpcbgknncaa.Hr

/-! #### struct type 59 -/
structure S59 where
  f0 : Int
  f1 : Int
  f2 : Int
  f3 : (List S51)
def z59 : S59 := ⟨(0 : Int), (0 : Int), (0 : Int), ([] : List S51)⟩
def k59 : Kd S59 := Kd.iso (Kd.pair (Kd.int .i64) (Kd.pair (Kd.int .u64) (Kd.pair (Kd.int .u64) (Kd.slice 51 k51)))) (fun x : S59 => (x.f0, x.f1, x.f2, x.f3))
theorem k59_open {w : World} {x : S59} {cs : List Value} (h : k59.K w x cs) : ∃ A3 c3, cs = [.int .i64 x.f0, .int .u64 x.f1, .int .u64 x.f2, .slice A3 x.f3.length c3] ∧ x.f3.length ≤ c3 ∧ k51.C w A3 x.f3.length x.f3 := by
  obtain ⟨_, _, rfl, rfl, ⟨_, _, rfl, rfl, ⟨_, _, rfl, rfl, ⟨A3, c3, rfl, l3, g3⟩⟩⟩⟩ := h
  exact ⟨A3, c3, rfl, l3, g3⟩
theorem k59_openM {w : World} {base : Nat} {ok : Nat → Prop} {x : S59} {cs : List Value} (h : k59.M w base ok x cs) : ∃ v3, cs = [.int .i64 x.f0, .int .u64 x.f1, .int .u64 x.f2, v3] ∧ k51.R 51 w base ok v3 x.f3 := by
  obtain ⟨_, _, rfl, rfl, ⟨_, _, rfl, rfl, ⟨_, _, rfl, rfl, ⟨v3, rfl, g3⟩⟩⟩⟩ := h
  exact ⟨v3, rfl, g3⟩
theorem k59_mk (w : World) (x : S59) {A3 : Option Addr} {c3 : Nat} (l3 : x.f3.length ≤ c3) (g3 : k51.C w A3 x.f3.length x.f3) : k59.K w x [.int .i64 x.f0, .int .u64 x.f1, .int .u64 x.f2, .slice A3 x.f3.length c3] := ⟨[.int .i64 x.f0], [.int .u64 x.f1, .int .u64 x.f2, .slice A3 x.f3.length c3], rfl, rfl, ⟨[.int .u64 x.f1], [.int .u64 x.f2, .slice A3 x.f3.length c3], rfl, rfl, ⟨[.int .u64 x.f2], [.slice A3 x.f3.length c3], rfl, rfl, ⟨A3, c3, rfl, l3, g3⟩⟩⟩⟩
theorem k59_mkM (w : World) (base : Nat) (ok : Nat → Prop) (x : S59) {v3 : Value} (g3 : k51.R 51 w base ok v3 x.f3) : k59.M w base ok x [.int .i64 x.f0, .int .u64 x.f1, .int .u64 x.f2, v3] := ⟨[.int .i64 x.f0], [.int .u64 x.f1, .int .u64 x.f2, v3], rfl, rfl, ⟨[.int .u64 x.f1], [.int .u64 x.f2, v3], rfl, rfl, ⟨[.int .u64 x.f2], [v3], rfl, rfl, ⟨v3, rfl, g3⟩⟩⟩⟩
def rd_T59 (xs : List S59) (i : Int) : S59 := xs.getD i.toNat z59
theorem at_T59 {w : World} {A : Option Addr} {n : Nat} {xs : List S59} (h : Kd.C k59 w A n xs) (i : Int) (h0 : 0 ≤ i) (h1 : i < n) : ∃ ad A3 c3, A = some ad ∧ w.cell? (ad.add (i.toNat * 4)) = some (.int .i64 (rd_T59 xs i).f0) ∧ w.cell? ⟨(ad.add (i.toNat * 4)).block, (ad.add (i.toNat * 4)).off + 1, none⟩ = some (.int .u64 (rd_T59 xs i).f1) ∧ w.cell? ⟨(ad.add (i.toNat * 4)).block, (ad.add (i.toNat * 4)).off + 2, none⟩ = some (.int .u64 (rd_T59 xs i).f2) ∧ w.cell? ⟨(ad.add (i.toNat * 4)).block, (ad.add (i.toNat * 4)).off + 3, none⟩ = some (.slice A3 (rd_T59 xs i).f3.length c3) ∧ (rd_T59 xs i).f3.length ≤ c3 ∧ k51.C w A3 (rd_T59 xs i).f3.length (rd_T59 xs i).f3 := by
  obtain ⟨ad, c, e, _, hK, hc0⟩ := Kd.C_get h z59 i h0 h1
  have hc : ∀ j u, c[j]? = some u → w.cell? (ad.add (i.toNat * 4 + j)) = some u := hc0
  obtain ⟨A3, c3, rfl, l3, g3⟩ := k59_open hK
  exact ⟨ad, A3, c3, e, hc 0 _ rfl, by rw [← add_field _ _ 1 (by omega)]; exact hc 1 _ rfl, by rw [← add_field _ _ 2 (by omega)]; exact hc 2 _ rfl, by rw [← add_field _ _ 3 (by omega)]; exact hc 3 _ rfl, l3, g3⟩


theorem opens59 : Opens Try.prog 59 k59 (fun x => (Lit.int .i64 x.f0).wf = true ∧ (Lit.int .u64 x.f1).wf = true ∧ (Lit.int .u64 x.f2).wf = true ∧ Pure.WB x.f3) :=
  opens_iso (fun x : S59 => (x.f0, x.f1, x.f2, x.f3)) (fun p => ⟨p.1, p.2.1, p.2.2.1, p.2.2.2⟩) (fun _ => rfl) (opens_struct Try.underlying59 (by kernel_rfl) (opensFields_cons rfl (by kernel_rfl) (opens_int Try.underlying3) (opensFields_cons rfl (by kernel_rfl) (opens_int Try.underlying22) (opensFields_cons rfl (by kernel_rfl) (opens_int Try.underlying22) (opensFields_one rfl (by kernel_rfl) opens41)))))
def Pure.WOp (x : S59) : Prop := (Lit.int .i64 x.f0).wf = true ∧ (Lit.int .u64 x.f1).wf = true ∧ (Lit.int .u64 x.f2).wf = true ∧ Pure.WB x.f3
def Pure.WOps (l : List S59) : Prop := l.length * 48 ≤ 140737488351232 ∧ l.length ≤ 9223372036854775807 ∧ ∀ x ∈ l, Pure.WOp x
theorem opens57 : Opens Try.prog 57 (Kd.slice 59 k59) Pure.WOps := opens_slice Try.underlying57 (by kernel_rfl) (by kernel_rfl) opens59

theorem awake_p (w : World) : Calls Try.prog 23 #[] w fun e w' => e = .returned (.bool true) ∧ Below w.heap.size w w' := varvelaw07_awake.calls true w Pure.awake_true
theorem chk_len : ∀ (l : List S51) (last : Int), last ≤ 7423 → Pure.chkFrom last l = true → (l.length : Int) ≤ 7423 - last := by
  intro l
  induction l with
  | nil => intro last h _; simp; omega
  | cons b l ih =>
    intro last h hc
    obtain ⟨c1, c2, c3, c4⟩ := Pure.chk_cons.mp hc
    have := ih b.f0 (by omega) c4
    rw [List.length_cons]; omega
theorem box_of {w w1 : World} {o : Obj} (hd : Drawn0 (w.alloc o) w1) : w1.heap[w.heap.size]? = some o := (hd.below.block _ (by simp)).trans (blk_new w o)

set_option maxHeartbeats 1000000 in
/-- A list that may not be gives no histogram. -/
theorem from_no {W : World} {base : Nat} {ok : Nat → Prop} {v : Value} {l : List S51} (hR : Kd.R k51 51 W base ok v l) (hw : Pure.WB l) (hl : Pure.chk l = false) :
    Calls Try.prog 36 #[v] W fun e w' => e = .returned (.tuple #[.pointer none, .int .i64 5]) ∧ Below W.heap.size W w' := by
  obtain ⟨A, c, rfl, hle, hC⟩ := Kd.R_reads hR
  have merge : ∀ w1 g, HS W w1 [(g, hzero 7424)] → Calls Try.prog 37 #[.pointer (some ⟨g, 0, none⟩), .slice A l.length c] w1 fun e w' => e = .returned (.int .i64 5) ∧ Below W.heap.size W w' := fun w1 g h =>
    (hist_Hist_Merge.calls (l.length + 1) g (hzero 7424) A c l 5 (hzero 7424) W w1 (h.at_ 0 rfl) h.bel (HS.old h 0 rfl hC) hle (Pure.Merge_no hw hl _ (by omega))).mono fun _ _ ⟨he, _, hB, _⟩ => ⟨he, hB⟩
  have hS0 := HS.nil W
  clear hR hw hl hC hle
  go_enter Try.func36, Try.ntmps36
  go_wp2_with (first | (go_at_call 24; refine (HS.new hS0).mono ?_; rintro e w1 ⟨g, rfl, hS1, hb⟩; clear hS0 hb) | (go_at_call 37; refine (merge _ _ hS1).mono ?_; rintro e w2 ⟨rfl, hb2⟩))
  go_ret2
  exact ⟨rfl, hb2⟩
set_option maxHeartbeats 1000000 in
theorem same_any {w0 W : World} {m : List (Nat × List Int)} (h : HS w0 W m) (i : Nat) {g : Nat} {s : List Int} (hi : m[i]? = some (g, s)) (hs : hgood s = true) {A : Option Addr} {c : Nat} (hc : (bks s).length ≤ c) (hC : Kd.C k51 W A (bks s).length (bks s)) :
    Calls Try.prog 42 #[.pointer (some ⟨g, 0, none⟩), .slice A (bks s).length c] W fun e w' => e = .returned (.bool true) ∧ Below W.heap.size W w' := by
  have CO := HS.count h i hi hs
  have CR := fun W' hC => varveref07_Count.calls 10000 A c (bks s) _ _ W' hC hc (Pure.refCount_list hs 10000 (Nat.le_refl _))
  have BK := fun W' (h : HS w0 W' m) => HS.bks h i hi hs
  have LN : (bks s).length < 8796093022208 := by have := Pure.bks_len s; omega
  have SA := fun A' c' W' h1 h2 hC => varvelaw00_SameBuckets.calls ((bks s).length + 1) A' c' (bks s) A c (bks s) true W' h1 h2 hC hc (Pure.Same_self _ LN _ (Nat.lt_succ_self _))
  obtain ⟨E, hE⟩ : ∃ E : Int, (if hsum s = 18446744073709551615 then (11 : Int) else 0) = E := ⟨_, rfl⟩
  rw [hE] at CO CR
  obtain ⟨n, hn⟩ : ∃ n : Int, hsum s = n := ⟨_, rfl⟩
  rw [hn] at CO CR
  have HC := Lib.hid hC; have H := Lib.hid h
  clear hi hs hc hC hE hn LN h
  go_enter Try.func42, Try.ntmps42
  go_wp2_with (first
    | (go_at_call 28; refine CO.mono ?_; rintro e w1 ⟨rfl, rfl⟩; clear CO)
    | (go_at_call 54; refine (CR _ HC.out).mono ?_; rintro e w2 ⟨rfl, hd2⟩; have hS2 := H.out.drawn hd2; have hb2 := hd2.below; clear hd2 CR)
    | (go_at_call 35; refine (BK _ hS2).mono ?_; rintro e w3 ⟨A3, c3, rfl, lc3, hC3, _, hS3, hb3⟩; have hb4 := hb2.trans (hb3.mono hb2.size); clear hS2 hb2 hb3)
    | (go_at_call 33; refine (SA _ _ _ hC3 lc3 (Kd.C_below HC.out hb4)).mono ?_; rintro e w5 ⟨rfl, hd5⟩; have hb5 := hb4.trans (hd5.below.mono hb4.size); clear hd5 hb4))
  go_ret
  exact ⟨rfl, hb5⟩
set_option maxHeartbeats 1000000 in
theorem HistPlays_no (A0 : Option Addr) (c0 : Nat) (l0 : List S51) (A1 : Option Addr) (c1 : Nat) (l1 : List S59) (w : World) (C0 : Kd.C k51 w A0 l0.length l0) (m0 : l0.length ≤ c0) (w0 : Pure.WB l0) (hc : Pure.chk l0 = false) :
    Calls Try.prog 13 #[.slice A0 l0.length c0, .slice A1 l1.length c1] w fun e w' => e = .returned (.bool true) ∧ Below w.heap.size w w' := by
  have CP := varvelaw00_Buckets.calls A0 c0 l0 l0 w C0 m0 (Pure.Copy_eq l0 w0.len)
  have FR := fun W v base (hR : Kd.R k51 51 W base (fun _ => True) v l0) => from_no hR w0 hc
  have CK := fun W hC => varveref07_Check.calls (l0.length + 1) A0 c0 l0 false W hC m0 (by rw [Pure.refCheck_eq l0 w0.len _ (by omega), hc])
  have HC := Lib.hid C0
  clear C0 m0 w0 hc
  go_enter Try.func13, Try.ntmps13
  go_wp2_with (first
    | (go_at_call 30; refine CP.mono ?_; rintro e w1 ⟨v1, rfl, hR1, hb1⟩; clear CP)
    | (go_at_call 36; refine (FR _ _ _ hR1).mono ?_; rintro e w2 ⟨rfl, hb2⟩; have hb3 := hb1.trans (hb2.mono hb1.size); clear FR hR1 hb1 hb2)
    | (go_at_call 32; refine (CK _ (Kd.C_below HC.out hb3)).mono ?_; rintro e w3 ⟨rfl, hd⟩; have hb4 := hb3.trans (hd.below.mono hb3.size); clear CK hb3 hd)
    | (go_at_call 23; refine (awake_p _).mono ?_; rintro e w4 ⟨rfl, hb5⟩; have hb6 := hb4.trans (hb5.mono hb4.size); clear hb4 hb5))
  go_ret
  exact ⟨rfl, hb6⟩
set_option maxHeartbeats 1000000 in
theorem refBucket_same (v : Nat) (hv : v < 18446744073709551616) (w : World) :
    Calls Try.prog 22 #[.int .u64 (v : Int)] w fun e w' => e = .returned (.int .i64 (bucketN v : Int)) ∧ w = w' := by
  obtain ⟨r, hr⟩ : ∃ r : Int, (bucketN v : Int) = r := ⟨_, rfl⟩
  obtain ⟨a0, ha⟩ : ∃ a : Int, (v : Int) = a := ⟨_, rfl⟩
  obtain ⟨k, hk⟩ : ∃ k : Nat, k = 70 := ⟨_, rfl⟩
  have h : varveref07_Bucket.f k a0 = some r := by rw [← ha, ← hr]; exact Pure.refBucket_eq v hv k (by omega)
  rw [hr, ha]
  clear hr ha hk hv
  have H : (varveref07_Bucket.l0 k a0 0) = some r := h
  clear h
  have H' := Aside0.mk H
  clear H
  go_enter Try.func22, Try.ntmps22
  go_wp2
  go_loopg [0, 3] k (fun kq v0 v3 w' => ∃ (x0_1 : Int) (x3_1 : Int), v0 = .int .u64 x0_1 ∧ v3 = .int .i64 x3_1 ∧ Aside0 (varveref07_Bucket.l0 kq x0_1 x3_1 = some r) ∧ Aside0 (kq ≤ k) ∧ w = w')
  case atStart => exact ⟨(a0), (0), rfl, rfl, H', ⟨Nat.le_refl _⟩, rfl⟩
  case round =>
    clear H'
    obtain ⟨x0_1, x3_1, rfl, rfl, HA, HK1, rfl⟩ := hrel
    cases gk with
    | zero => exact absurd HA.out (by simp [varveref07_Bucket.l0])
    | succ k1 =>
      have H := HA.out
      clear HA
      simp only [varveref07_Bucket.l0] at H
      by_cases c2 : x0_1 ≥ 256
      · rw [if_pos c2] at H
        have c2b0 : decide (256 ≤ x0_1) = true := decide_eq_true c2
        clear c2
        have H' := Aside0.mk H
        clear H
        go_wp2
        go_roundg k1
        case measure => have := HK1.out; omega
        case rel => exact ⟨(x0_1 / 2), (wrap64 (x3_1 + 1)), (by first | rfl | (simp; done) | (simp [*]; done)), (by first | rfl | (simp; done) | (simp [*]; done)), H', ⟨by have := HK1.out; omega⟩, rfl⟩
      · rw [if_neg c2] at H
        have c2b0 : decide (256 ≤ x0_1) = false := decide_eq_false c2
        clear c2
        obtain rfl := Option.some.inj H
        go_wp2
        go_ret
        exact ⟨by first | rfl | (simp; done) | (simp [*]; done), rfl⟩
end Go.Proofs.Ytmhejpcbgknncaa
