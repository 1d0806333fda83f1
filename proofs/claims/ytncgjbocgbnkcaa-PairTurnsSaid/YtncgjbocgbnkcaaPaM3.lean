/- What the laws of this folder share, part 3: walks of functions over their Go text, and plain lemmas. Conditions: as each lemma says. -/
import Derived.Deep.RegionHeld3
import Derived.Outline
import Derived.Test.YtncgjbocgbnkcaaPaM2
namespace Go.Proofs.Ytncgjbocgbnkcaa
set_option linter.unusedVariables false
set_option linter.unusedSimpArgs false
open Go.RowKit Go.Maps Go.Proofs.YtncgjbocgbnkcaaW.PrintWords Go.Proofs.YtncgjbocgbnkcaaW.PrintLast Go.Proofs.YtncgjbocgbnkcaaW.PrintMore Go.Proofs.Ytncgjbocgbnkcaa.Pure Go.Proofs.Ytncgjbocgbnkcaa.Q Go.Proofs.Ytncgjbocgbnkcaa.Hi Go.Proofs.Ytncgjbocgbnkcaa.Ga
theorem PS.hmerge {w0 W : World} {r g k b x : Nat} {s S : List Int} {G : G4} (h : PS w0 W r g k b x s S G) (hs : hgood s = true) {A : Option Addr} {c : Nat} {l : List S68} (hc : l.length ≤ c) (hC : Kd.C k68 w0 A l.length l) (hw : Pure.WB l) (hl : Pure.chk l = true) :
    Calls Try.prog 86 #[.pointer (some ⟨g, 0, none⟩), .slice A l.length c] W fun e w' => e = .returned (.int .i64 0) ∧ PS w0 w' r g k b x (Pure.merged s l) S G ∧ W.heap.size ≤ w'.heap.size ∧ ∀ i, i < W.heap.size → i ≠ g → w'.heap[i]? = W.heap[i]? :=
  (h.hs.merge 0 rfl hs hc (h.hs.old 0 rfl hC) hw hl).mono fun _ w' ⟨he, h1, hk⟩ => by
    have l := h.lt
    have o := h.ord
    have q : ∀ i, i < W.heap.size → i ≠ g → w'.heap[i]? = W.heap[i]? := fun i hi hne => hk.2 i hi hne (by simp)
    exact ⟨he, ⟨h1, h.ks.one h1.bel (q k (by omega) (by omega)) (q b (by omega) (by omega)), (q x (by omega) (by omega)).trans h.gb, (q r (by omega) (by omega)).trans h.rb, o⟩, hk.1, q⟩
theorem PS.kmerge {w0 W : World} {r g k b x : Nat} {s S : List Int} {G : G4} (h : PS w0 W r g k b x s S G) {A : Option Addr} {c : Nat} {l : List Int} (hC : Kd.C (Kd.int .u64) w0 A l.length l)
    (hr : ∀ x ∈ l, 0 ≤ x ∧ x < 18446744073709551616) (hok : KOk l) :
    Calls Try.prog 87 #[.pointer (some ⟨k, 0, none⟩), .slice A l.length c] W fun e w' => e = .returned (.int .i64 0) ∧ PS w0 w' r g k b x s (kmany S l) G ∧ W.heap.size ≤ w'.heap.size ∧ ∀ i, i < W.heap.size → i ≠ k → i ≠ b → w'.heap[i]? = W.heap[i]? :=
  (h.ks.mergeOld 0 rfl hC hr hok).mono fun _ w' ⟨he, h1, hk⟩ => by
    have l := h.lt
    have o := h.ord
    have q : ∀ i, i < W.heap.size → i ≠ k → i ≠ b → w'.heap[i]? = W.heap[i]? := hk.2.2.2.2
    exact ⟨he, ⟨h.hs.one h1.bel (q g (by omega) (by omega) (by omega)), h1, (q x (by omega) (by omega) (by omega)).trans h.gb, (q r (by omega) (by omega) (by omega)).trans h.rb, o⟩, hk.2.2.2.1, q⟩
/-- What Sum comes to. -/
def SumPost (l : List SV) (w : World) (e : Ending) (w' : World) : Prop :=
  (AllOk l → ∃ A c B d, e = .returned (.tuple #[.agg #[.slice A (sumV l).h.length c, .slice B (sumV l).k.length d, .int .u64 (sumV l).g.n, .int .u64 (sumV l).g.nans, .int .u64 (sumV l).g.lo, .int .u64 (sumV l).g.hi], .int .i64 0]) ∧ (sumV l).h.length ≤ c ∧ (sumV l).k.length ≤ d ∧
    Kd.R k68 68 w' w.heap.size (fun _ => True) (.slice A (sumV l).h.length c) (sumV l).h ∧ Kd.R (Kd.int .u64) 41 w' w.heap.size (fun _ => True) (.slice B (sumV l).k.length d) (sumV l).k) ∧
  (¬ AllOk l → e = .returned (.tuple #[.agg #[.slice none 0 0, .slice none 0 0, .int .u64 0, .int .u64 0, .int .u64 0, .int .u64 0], .int .i64 5])) ∧ Below w.heap.size w w'
set_option maxHeartbeats 4000000 in
set_option maxRecDepth 100000 in
theorem sum_any (A0 : Option Addr) (c0 : Nat) (l : List SV) (w : World) (C0 : Kd.C kV w A0 l.length l) (hO : ∀ v ∈ l, v.wf) :
    Calls Try.prog 44 #[.slice A0 l.length c0] w (SumPost l w) := by
  have hlen : l.length ≤ 9223372036854775807 := C0.2.1
  have HC0 := Lib.hid C0; have HO := Lib.hid hO
  clear C0 hO
  go_enter Try.func44, Try.ntmps44
  go_wp2_with (first
    | (go_at_call 57; refine (new_at _ (w.heap.size + 1) (by simp)).mono ?_; rintro e w1 ⟨rfl, hh, hb1⟩)
    | (go_at_call 65; refine (new_u _).mono ?_; rintro e w2 ⟨k, b, rfl, hk, l1, l2, hb2⟩))
  have hS := PS.start w w1 w2 hh hb1 hk l1 l2 hb2
  obtain ⟨g, hg⟩ : ∃ g, w.heap.size + 1 = g := ⟨_, rfl⟩
  obtain ⟨x, hx⟩ : ∃ x, w2.heap.size = x := ⟨_, rfl⟩
  rw [hg, hx] at hS
  rw [hg, hx]
  clear hh hb1 hk l1 l2 hb2 hg hx
  go_loopw [14] (fun v14 wr => ∃ i : Nat, v14 = .int .i64 i ∧ i ≤ l.length ∧ AllOk (l.take i) ∧ PS w wr w.heap.size g k b x (sumH (l.take i)) (sumK (l.take i)) (sumG (l.take i))) (fun vi _ => l.length - (intOf vi).toNat)
  case atStart => exact ⟨0, rfl, Nat.zero_le _, by rw [List.take_zero]; exact AllOk.nil, hS⟩
  case round =>
    clear hS
    obtain ⟨i, rfl, hi, hA, hP⟩ := hrel
    have HP := Lib.hid hP; have HA := Lib.hid hA
    clear hA
    by_cases hil : i < l.length
    · have e1 : decide ((i : Int) < (l.length : Int)) = true := decide_eq_true (by omega)
      have e1b : decide (i < l.length) = true := decide_eq_true hil
      obtain ⟨ad, A1, c1, B1, d1, hax, m1, m2, C1, C2, q0, q1, q2, q3, q4, q5⟩ := at_V HC0.out (i : Int) (by omega) (by omega)
      rw [Int.toNat_natCast] at q0 q1 q2 q3 q4 q5
      rw [rd_V_at hil] at m1 m2 C1 C2 q0 q1 q2 q3 q4 q5
      obtain ⟨v, hv⟩ : ∃ v, l[i] = v := ⟨_, rfl⟩
      rw [hv] at m1 m2 C1 C2 q0 q1 q2 q3 q4 q5
      have et : l.take (i + 1) = l.take i ++ [v] := by rw [← hv, List.take_succ_eq_append_getElem hil]
      have eH := sumH_snoc (l.take i) v
      have eK := sumK_snoc (l.take i) v
      have eG := sumG_snoc (l.take i) v
      have eA : v.ok = true → AllOk (l.take (i + 1)) := fun ho => by rw [et]; exact HA.out.snoc (HO.out v (by rw [← hv]; exact List.getElem_mem _)) ho
      have eN : v.ok = false → ¬ AllOk l := fun ho ha => by have := (ha v (by rw [← hv]; exact List.getElem_mem _)).2; rw [ho] at this; cases this
      rw [← et] at eH eK eG
      have hwf := HO.out v (by rw [← hv]; exact List.getElem_mem _)
      have hgd := (sum_good HA.out).1
      have hGw := (sum_good HA.out).2.2.1
      have HW1 := Lib.hid hwf.1; have HW2 := Lib.hid hwf.2.1; have HW3 := Lib.hid hwf.2.2; have HI := Lib.hid hil; have HEH := Lib.hid eH; have HEK := Lib.hid eK; have HEG := Lib.hid eG; have HEA := Lib.hid eA; have HEN := Lib.hid eN
      have p0 := (hP.bel.cell (World.block_lt_of_cell? w _ q0)).trans q0
      have p1 := (hP.bel.cell (World.block_lt_of_cell? w _ q1)).trans q1
      have p2 := (hP.bel.cell (World.block_lt_of_cell? w _ q2)).trans q2
      have p3 := (hP.bel.cell (World.block_lt_of_cell? w _ q3)).trans q3
      have p4 := (hP.bel.cell (World.block_lt_of_cell? w _ q4)).trans q4
      have p5 := (hP.bel.cell (World.block_lt_of_cell? w _ q5)).trans q5
      obtain ⟨s, hs⟩ : ∃ s, sumH (l.take i) = s := ⟨_, rfl⟩
      obtain ⟨S, hS⟩ : ∃ S, sumK (l.take i) = S := ⟨_, rfl⟩
      obtain ⟨G, hG⟩ : ∃ G, sumG (l.take i) = G := ⟨_, rfl⟩
      rw [hs] at HP HEH hgd
      rw [hS] at HP HEK
      rw [hG] at HP HEG hGw
      have HGD := Lib.hid hgd; have HGW := Lib.hid hGw
      have hsk : SK w A1 c1 v.h B1 d1 v.k := ⟨C1, m1, C2, m2, WB.len hwf.1, by have := hwf.2.1.1; omega⟩
      have HSK := Lib.hid hsk
      obtain ⟨G1, hG1⟩ : ∃ G1, gmerge G v.g = G1 := ⟨_, rfl⟩
      rw [hG1] at HEG
      have GA := fun W => gauge_Merge.calls G.n G.nans G.lo G.hi v.g.n v.g.nans v.g.lo v.g.hi G1.n G1.nans G1.lo G1.hi W (by rw [← hG1]; exact merge_eq HGW.out HW3.out)
      have hlx := HP.out.lt.1
      have hox := HP.out.ord
      have hP1 := HP.out.below (below_alloc (Below.refl wr.heap.size wr) (.cells #[.slice A1 v.h.length c1, .slice B1 v.k.length d1, .int .u64 v.g.n, .int .u64 v.g.nans, .int .u64 v.g.lo, .int .u64 v.g.hi] 45))
      have hb1 := blk_new wr (.cells #[.slice A1 v.h.length c1, .slice B1 v.k.length d1, .int .u64 v.g.n, .int .u64 v.g.nans, .int .u64 v.g.lo, .int .u64 v.g.hi] 45)
      have hz1 : (wr.alloc (.cells #[.slice A1 v.h.length c1, .slice B1 v.k.length d1, .int .u64 v.g.n, .int .u64 v.g.nans, .int .u64 v.g.lo, .int .u64 v.g.hi] 45)).heap.size = wr.heap.size + 1 := by simp
      have HP1 := Lib.hid hP1; have HB1 := Lib.hid hb1; have HZ1 := Lib.hid hz1
      have hu62 := Try.underlying45
      have hu60 := Try.underlying43
      have CC := sk_check (SK.below hsk hP1.bel (Nat.le_refl _)) v.g hwf.2.2
      subst hax
      by_cases hok : v.ok = true
      · obtain ⟨o1, o2, o3⟩ := (SV.ok_iff v).1 hok
        have HA1 := Lib.hid (HEA.out hok)
        rw [show okS v.h v.k v.g = true from hok] at CC
        have HO1 := Lib.hid o1; have HO2 := Lib.hid o2
        clear hs hS hG hv hG1 hP1 hb1 hz1 hgd hGw hok o1 o2 o3 hwf hsk m1 m2 C1 C2 q0 q1 q2 q3 q4 q5 eH eK eG et eA eN HEN hP
        go_wp2_with (first
          | (go_at_call 29; (with_reducible refine CC.mono ?_); rintro e w2 ⟨rfl, hb2⟩; have hP2 := HP1.out.below hb2; have hx2 := (hb2.block wr.heap.size (by rw [HZ1.out]; omega)).trans HB1.out; have c0 : w2.cell? ⟨wr.heap.size, 0, none⟩ = some (.slice A1 v.h.length c1) := blk_cell hx2 0; have HP2 := Lib.hid hP2; have HB2 := Lib.hid hx2; clear hP2 hx2 hb2 CC)
          | (go_at_call 86; (with_reducible refine (HP2.out.hmerge HGD.out HSK.out.l1 HSK.out.c1 HW1.out HO1.out).mono ?_); rintro e w3 ⟨rfl, hP3, hs3, hq3⟩; have hb3 := (hq3 wr.heap.size (blk_lt HB2.out) (by omega)).trans HB2.out; clear c0; have c1_ : w3.cell? ⟨wr.heap.size, 1, none⟩ = some (.slice B1 v.k.length d1) := blk_cell hb3 1; have HP3 := Lib.hid hP3; have HB3 := Lib.hid hb3; clear hP3 hs3 hq3 hb3 HP2 HB2)
          | (go_at_call 87; (with_reducible refine (HP3.out.kmerge HSK.out.c2 HW2.out.num HO2.out).mono ?_); rintro e w4 ⟨rfl, hP4, hs4, hq4⟩; have hb4 := (hq4 wr.heap.size (blk_lt HB3.out) (by omega) (by omega)).trans HB3.out; have b2 : w4.cell? ⟨wr.heap.size, 2, none⟩ = some (.int .u64 v.g.n) := blk_cell hb4 2; have b3 : w4.cell? ⟨wr.heap.size, 3, none⟩ = some (.int .u64 v.g.nans) := blk_cell hb4 3; have b4 : w4.cell? ⟨wr.heap.size, 4, none⟩ = some (.int .u64 v.g.lo) := blk_cell hb4 4; have b5 : w4.cell? ⟨wr.heap.size, 5, none⟩ = some (.int .u64 v.g.hi) := blk_cell hb4 5; have hg4 := hP4.gb; have d0 : w4.cell? ⟨x, 0, none⟩ = some (.int .u64 G.n) := blk_cell hg4 0; have d1_ : w4.cell? ⟨x, 1, none⟩ = some (.int .u64 G.nans) := blk_cell hg4 1; have d2 : w4.cell? ⟨x, 2, none⟩ = some (.int .u64 G.lo) := blk_cell hg4 2; have d3 : w4.cell? ⟨x, 3, none⟩ = some (.int .u64 G.hi) := blk_cell hg4 3; have HP4 := Lib.hid hP4; have hz4 := hP4.lt.1; clear hP4 hs4 hq4 hb4 hg4 c1_ HP3 HB3)
          | (go_at_call 88; (with_reducible refine (GA _).mono ?_); rintro e w5 ⟨rfl, hb5⟩; have hP5 := HP4.out.below hb5; clear GA hb5 b2 b3 b4 b5 d0 d1_ d2 d3 HP4; have hg5 := hP5.gb; have d0 : w5.cell? ⟨x, 0, none⟩ = some (.int .u64 G.n) := blk_cell hg5 0; have d1_ : w5.cell? ⟨x, 1, none⟩ = some (.int .u64 G.nans) := blk_cell hg5 1; have d2 : w5.cell? ⟨x, 2, none⟩ = some (.int .u64 G.lo) := blk_cell hg5 2; have d3 : w5.cell? ⟨x, 3, none⟩ = some (.int .u64 G.hi) := blk_cell hg5 3; have f0 := blk_frozen hg5 0; have f1 := blk_frozen hg5 1; have f2' := blk_frozen hg5 2; have f3 := blk_frozen hg5 3; have HP5 := Lib.hid hP5; have HG5 := Lib.hid hg5; clear hP5 hg5))
        go_roundw
        case rel => exact ⟨i + 1, by go_num, by have := HI.out; omega, HA1.out, by rw [HEH.out, HEK.out, HEG.out]; exact HP5.out.put4 G1⟩
        case measure => have := HI.out; simp [intOf]; omega
      · have hno : v.ok = false := by simpa using hok
        have HN := Lib.hid (HEN.out hno)
        rw [show okS v.h v.k v.g = false from hno] at CC
        clear hs hS hG hv hG1 hP1 hb1 hz1 hgd hGw hok hno hwf hsk m1 m2 C1 C2 q0 q1 q2 q3 q4 q5 eH eK eG et eA eN HEN GA hP
        go_wp2_with (go_at_call 29; (with_reducible refine CC.mono ?_); rintro e w2 ⟨rfl, hb2⟩; have hP2 := HP1.out.below hb2; have hr2 := hP2.rb; have r0 : w2.cell? ⟨w.heap.size, 0, none⟩ = some (.slice none 0 0) := blk_cell hr2 0; have r1 : w2.cell? ⟨w.heap.size, 1, none⟩ = some (.slice none 0 0) := blk_cell hr2 1; have r2 : w2.cell? ⟨w.heap.size, 2, none⟩ = some (.int .u64 0) := blk_cell hr2 2; have r3 : w2.cell? ⟨w.heap.size, 3, none⟩ = some (.int .u64 0) := blk_cell hr2 3; have r4 : w2.cell? ⟨w.heap.size, 4, none⟩ = some (.int .u64 0) := blk_cell hr2 4; have r5 : w2.cell? ⟨w.heap.size, 5, none⟩ = some (.int .u64 0) := blk_cell hr2 5; have t0 := blk_frozen hr2 0; have t1 := blk_frozen hr2 1; have t2 := blk_frozen hr2 2; have t3 := blk_frozen hr2 3; have t4 := blk_frozen hr2 4; have t5 := blk_frozen hr2 5; have HP2 := Lib.hid hP2; have HR2 := Lib.hid hr2; clear hP2 hr2 hb2 CC)
        have hx := Nat.le_refl w.heap.size
        refine bodyPost_ret (results_ct rfl _ _ w.heap.size 45 #[.slice none 0 0, .slice none 0 0, .int .u64 0, .int .u64 0, .int .u64 0, .int .u64 0] (0, 0) _ rfl (blk_set (blk_set (blk_set (blk_set (blk_set (blk_set HR2.out 0 _) 1 _) 2 _) 3 _) 4 _) 5 _) Try.underlying45 rfl (by kernel_rfl)) rfl ⟨fun ha => absurd ha HN.out, fun _ => rfl, below_set (below_set (below_set (below_set (below_set (below_set HP2.out.bel hx) hx) hx) hx) hx) hx⟩
    · have e1 : decide ((i : Int) < (l.length : Int)) = false := decide_eq_false (by omega)
      have e1b : decide (i < l.length) = false := decide_eq_false hil
      obtain rfl : i = l.length := by omega
      rw [List.take_length] at hP
      rw [List.take_length] at HA
      have hgood_ := (sum_good HA.out).1
      obtain ⟨s, hs⟩ : ∃ s, sumH l = s := ⟨_, rfl⟩
      obtain ⟨S, hS⟩ : ∃ S, sumK l = S := ⟨_, rfl⟩
      obtain ⟨G, hG⟩ : ∃ G, sumG l = G := ⟨_, rfl⟩
      rw [hs, hS, hG] at hP
      rw [hs] at hgood_
      have HE := Lib.hid (And.intro hs (And.intro hS hG))
      clear HP; have HP := Lib.hid hP; clear hP; have HGD := Lib.hid hgood_
      clear hs hS hG hgood_ hil
      go_wp2
      have hPa := HP.out.below (below_drew (Below.refl wr.heap.size wr))
      have hga := hPa.gb
      have d0 : wr.drew.cell? ⟨x, 0, none⟩ = some (.int .u64 G.n) := blk_cell hga 0; have d1 : wr.drew.cell? ⟨x, 1, none⟩ = some (.int .u64 G.nans) := blk_cell hga 1; have d2 : wr.drew.cell? ⟨x, 2, none⟩ = some (.int .u64 G.lo) := blk_cell hga 2; have d3 : wr.drew.cell? ⟨x, 3, none⟩ = some (.int .u64 G.hi) := blk_cell hga 3
      have HPA := Lib.hid hPa
      have hne : ¬ w.heap.size = x := by have := hPa.ord; omega
      have CB := HPA.out.hs.bks 0 rfl HGD.out
      clear hPa hga
      refine wp_region_noPanic ?_
      refine start_ (n := 8) (S := fun w' => w'.cell? ⟨x, 0, none⟩ = some (.int .u64 G.n) ∧ w'.cell? ⟨x, 1, none⟩ = some (.int .u64 G.nans) ∧ w'.cell? ⟨x, 2, none⟩ = some (.int .u64 G.lo) ∧ w'.cell? ⟨x, 3, none⟩ = some (.int .u64 G.hi)) (ds := [6]) #[false, false, false, false, false, false, false, false] (by kernel_rfl) rfl rfl ⟨d0, d1, d2, d3⟩ (fun hHeld => ?_)
      clear d0 d1 d2 d3
      refine pure_ (i := 0) (N := some 35) (v := ?_) (a' := ?_) #[true, false, false, false, false, false, false, false] rfl rfl (by kernel_rfl) (fun _ _ _ h => h) (Or.inl ⟨by rfl, ?_⟩) ?_ ?_
      rotate_left
      · intro w'
        go_simp
        with_reducible rfl
      rotate_left
      · simp only [Act.put, List.setIfInBounds_toArray, List.set_cons_zero, List.set_cons_succ, i64_w, i32_w]
        rfl
      refine pure_ (i := 2) (N := some 37) (v := ?_) (a' := ?_) #[true, false, true, false, false, false, false, false] rfl rfl (by kernel_rfl) (fun _ _ _ h => h) (Or.inl ⟨by rfl, ?_⟩) ?_ ?_
      rotate_left
      · intro w'
        go_simp
        with_reducible rfl
      rotate_left
      · simp only [Act.put, List.setIfInBounds_toArray, List.set_cons_zero, List.set_cons_succ, i64_w, i32_w]
        rfl
      refine take_ (i := 4) (N := some 39) (v := ?_) (a' := ?_) #[true, false, true, false, true, false, false, false] rfl rfl (by kernel_rfl) (fun _ _ _ h => h) (Or.inl ⟨by rfl, ?_⟩) hHeld ?_ ?_
      rotate_left
      · rintro w' ⟨s0, s1, s2, s3⟩
        go_simp
        with_reducible rfl
      rotate_left
      · simp only [Act.put, List.setIfInBounds_toArray, List.set_cons_zero, List.set_cons_succ, i64_w, i32_w]
        rfl
      refine one_ (i := 1) (N := some 36) #[true, true, true, false, true, false, false, false] rfl rfl (by kernel_rfl) (by decide) (fun K hK => ?_)
      refine goes_ Try.func68 (by kernel_rfl) rfl #[.pointer (some ⟨g, 0, none⟩)] (by rfl) rfl rfl (by (try simp only [List.map_toArray, List.map_cons, List.map_nil]); first | done | rfl) ?_
      with_reducible refine CB.mono ?_
      rintro e w6 ⟨A, c, rfl, hc, hCA, hRA, hH6, hb6⟩
      refine ⟨_, rfl, ?_⟩
      have hP6 := HPA.out.below hb6
      have hg6 := hP6.gb
      have d0 : w6.cell? ⟨x, 0, none⟩ = some (.int .u64 G.n) := blk_cell hg6 0
      have d1 : w6.cell? ⟨x, 1, none⟩ = some (.int .u64 G.nans) := blk_cell hg6 1
      have d2 : w6.cell? ⟨x, 2, none⟩ = some (.int .u64 G.lo) := blk_cell hg6 2
      have d3 : w6.cell? ⟨x, 3, none⟩ = some (.int .u64 G.hi) := blk_cell hg6 3
      have HP6 := Lib.hid hP6; have HRA := Lib.hid hRA; have HC := Lib.hid hc; have CH := HP6.out.ks.hashes 0 rfl; have HB6 := Lib.hid hb6
      clear hP6 hg6 hRA hc hb6 CB hCA hH6
      refine hK.out _ _ ⟨d0, d1, d2, d3⟩ (fun hHeld => ?_)
      clear d0 d1 d2 d3
      clear hK K
      refine norm_ (a' := ?_) ?_ ?_
      rotate_left
      · show Act.put _ (some 36) _ = _
        simp only [Act.put, List.setIfInBounds_toArray, List.set_cons_zero, List.set_cons_succ, i64_w, i32_w]
        rfl
      refine one_ (i := 3) (N := some 38) #[true, true, true, true, true, false, false, false] rfl rfl (by kernel_rfl) (by decide) (fun K hK => ?_)
      refine goes_ Try.func69 (by kernel_rfl) rfl #[.pointer (some ⟨k, 0, none⟩)] (by rfl) rfl rfl (by (try simp only [List.map_toArray, List.map_cons, List.map_nil]); first | done | rfl) ?_
      with_reducible refine CH.mono ?_
      rintro e w7 ⟨B, c2, rfl, hc2, hCB, hoB, hK7, hb7⟩
      refine ⟨_, rfl, ?_⟩
      have hP7 := HP6.out.below hb7
      have hg7 := hP7.gb
      have d0 : w7.cell? ⟨x, 0, none⟩ = some (.int .u64 G.n) := blk_cell hg7 0
      have d1 : w7.cell? ⟨x, 1, none⟩ = some (.int .u64 G.nans) := blk_cell hg7 1
      have d2 : w7.cell? ⟨x, 2, none⟩ = some (.int .u64 G.lo) := blk_cell hg7 2
      have d3 : w7.cell? ⟨x, 3, none⟩ = some (.int .u64 G.hi) := blk_cell hg7 3
      have HP7 := Lib.hid hP7; have HOB := Lib.hid hoB; have HC2 := Lib.hid hc2; have HB7 := Lib.hid hb7
      clear hP7 hg7 hoB hc2 hb7 CH hCB hK7
      refine hK.out _ _ ⟨d0, d1, d2, d3⟩ (fun hHeld => ?_)
      clear d0 d1 d2 d3
      clear hK K
      refine norm_ (a' := ?_) ?_ ?_
      rotate_left
      · show Act.put _ (some 38) _ = _
        simp only [Act.put, List.setIfInBounds_toArray, List.set_cons_zero, List.set_cons_succ, i64_w, i32_w]
        rfl
      refine pure_ (i := 5) (N := some 40) (v := ?_) (a' := ?_) #[true, true, true, true, true, true, false, false] rfl rfl (by kernel_rfl) (fun _ _ _ h => h) (Or.inl ⟨by rfl, ?_⟩) ?_ ?_
      rotate_left
      · intro w'
        go_simp
        with_reducible rfl
      rotate_left
      · simp only [Act.put, List.setIfInBounds_toArray, List.set_cons_zero, List.set_cons_succ, i64_w, i32_w]
        rfl
      refine last_ (i := 6) (N := none) #[true, true, true, true, true, true, true, false] rfl rfl (by kernel_rfl) (by decide) (fun K hK => ?_)
      have hr7 := HP7.out.rb
      have r0 : w7.cell? ⟨w.heap.size, 0, none⟩ = some (.slice none 0 0) := blk_cell hr7 0; have r1 : w7.cell? ⟨w.heap.size, 1, none⟩ = some (.slice none 0 0) := blk_cell hr7 1; have r2 : w7.cell? ⟨w.heap.size, 2, none⟩ = some (.int .u64 0) := blk_cell hr7 2; have r3 : w7.cell? ⟨w.heap.size, 3, none⟩ = some (.int .u64 0) := blk_cell hr7 3; have r4 : w7.cell? ⟨w.heap.size, 4, none⟩ = some (.int .u64 0) := blk_cell hr7 4; have r5 : w7.cell? ⟨w.heap.size, 5, none⟩ = some (.int .u64 0) := blk_cell hr7 5
      have q0 := blk_frozen hr7 0; have q1 := blk_frozen hr7 1; have q2 := blk_frozen hr7 2; have q3 := blk_frozen hr7 3; have q4 := blk_frozen hr7 4; have q5 := blk_frozen hr7 5
      have hu62 := Try.underlying45
      have hu60 := Try.underlying43
      have HR7 := Lib.hid hr7
      clear hr7
      refine skip_ (w1 := ?_) (by rfl) rfl ?_ ?_
      rotate_left
      · go_simp
        rfl
      refine hK.out _ _ ?_
      clear hK K r0 r1 r2 r3 r4 r5 q0 q1 q2 q3 q4 q5
      refine pure_ (i := 7) (N := some 3) (v := ?_) (a' := ?_) #[true, true, true, true, true, true, true, true] rfl rfl (by kernel_rfl) (fun _ _ _ h => h) (Or.inl ⟨by rfl, ?_⟩) ?_ ?_
      rotate_left
      · intro w'
        go_simp
        with_reducible rfl
      rotate_left
      · simp only [Act.put, List.setIfInBounds_toArray, List.set_cons_zero, List.set_cons_succ, i64_w, i32_w]
        rfl
      refine done_ (by kernel_rfl) ?_
      refine NoPanic.normal ?_
      go_wp2
      obtain ⟨hs, hS, hG⟩ := HE.out
      have ho := HP7.out.ord
      have hz : w.heap.size < wr.drew.heap.size := HPA.out.lt.2.2.2.2
      have hz6 : wr.drew.heap.size ≤ w6.heap.size := HB6.out.size
      have fin : ∀ i, i ≠ w.heap.size → ((((((w7.setCell ⟨w.heap.size, 0, none⟩ (.slice A (bks s).length c)).setCell ⟨w.heap.size, 1, none⟩ (.slice B S.length c2)).setCell ⟨w.heap.size, 2, none⟩ (.int .u64 G.n)).setCell ⟨w.heap.size, 3, none⟩ (.int .u64 G.nans)).setCell ⟨w.heap.size, 4, none⟩ (.int .u64 G.lo)).setCell ⟨w.heap.size, 5, none⟩ (.int .u64 G.hi)).heap[i]? = w7.heap[i]? := fun i hne => by
        rw [Below.heap_setCell _ _ _ i hne, Below.heap_setCell _ _ _ i hne, Below.heap_setCell _ _ _ i hne, Below.heap_setCell _ _ _ i hne, Below.heap_setCell _ _ _ i hne, Below.heap_setCell _ _ _ i hne]
      have RA := Kd.R_step (Kd.R_bound (Kd.R_below HRA.out HB7.out)) (fun q hq _ => fin q (by have := hq.2.1; omega))
      have RB0 : Kd.R (Kd.int .u64) 41 w7 w6.heap.size (fun _ => True) (.slice B S.length c2) S := Kd.R_of_own HOB.out (fun _ _ => trivial)
      have RB := Kd.R_step (Kd.R_bound RB0) (fun q hq _ => fin q (by have := hq.2.1; omega))
      refine bodyPost_ret (results_ct rfl _ _ w.heap.size 45 #[.slice A (bks s).length c, .slice B S.length c2, .int .u64 G.n, .int .u64 G.nans, .int .u64 G.lo, .int .u64 G.hi] (0, 0) _ rfl (blk_set (blk_set (blk_set (blk_set (blk_set (blk_set HR7.out 0 _) 1 _) 2 _) 3 _) 4 _) 5 _) Try.underlying45 rfl (by kernel_rfl)) rfl ⟨fun _ => ⟨A, c, B, c2, ?_, ?_, ?_, ?_, ?_⟩, fun hn => absurd HA.out hn, ?_⟩
      · show _ = Ending.returned (.tuple #[.agg #[.slice A (bks (sumH l)).length c, .slice B (sumK l).length c2, .int .u64 (sumG l).n, .int .u64 (sumG l).nans, .int .u64 (sumG l).lo, .int .u64 (sumG l).hi], .int .i64 0])
        rw [hs, hS, hG]; rfl
      · show (bks (sumH l)).length ≤ c
        rw [hs]; exact HC.out
      · show (sumK l).length ≤ c2
        rw [hS]; exact HC2.out
      · show Kd.R k68 68 _ w.heap.size (fun _ => True) (.slice A (bks (sumH l)).length c) (bks (sumH l))
        rw [hs]; exact Kd.R_lower (Kd.R_mono RA (fun _ _ => trivial)) (by omega)
      · show Kd.R (Kd.int .u64) 41 _ w.heap.size (fun _ => True) (.slice B (sumK l).length c2) (sumK l)
        rw [hS]; exact Kd.R_lower (Kd.R_mono RB (fun _ _ => trivial)) (by omega)
      · have hx := Nat.le_refl w.heap.size
        exact below_set (below_set (below_set (below_set (below_set (below_set HP7.out.bel hx) hx) hx) hx) hx) hx
end Go.Proofs.Ytncgjbocgbnkcaa
namespace Go.Proofs.Ytncgjbocgbnkcaa
set_option linter.unusedVariables false
set_option linter.unusedSimpArgs false
open Go.RowKit Go.Maps Go.Proofs.YtncgjbocgbnkcaaW.PrintWords Go.Proofs.YtncgjbocgbnkcaaW.PrintLast Go.Proofs.YtncgjbocgbnkcaaW.PrintMore Go.Proofs.Ytncgjbocgbnkcaa.Pure Go.Proofs.Ytncgjbocgbnkcaa.Q Go.Proofs.Ytncgjbocgbnkcaa.Hi Go.Proofs.Ytncgjbocgbnkcaa.Ga
/-- A row of one or two sketches that was just made. -/
theorem C_V {W : World} {b n : Nat} {l : List SV} {cs : Array Value} {T : TypeId} (hb : W.heap[b]? = some (.cells cs T (0, 0))) (hl : l.length = n) (hn : n ≤ 1000)
    (h : ∀ j v, l[j]? = some v → ∃ c6 : List Value, kV.K W v c6 ∧ ∀ i u, c6[i]? = some u → cs[j * 6 + i]? = some u) : Kd.C kV W (some ⟨b, 0, none⟩) n l := by
  refine ⟨hl, by omega, fun _ => ⟨_, rfl, fun j p hp => ?_⟩⟩
  obtain ⟨c6, hK, hc⟩ := h j p hp
  refine ⟨c6, kV.K_len hK, hK, fun i u hu => ?_⟩
  have e : (⟨b, 0, none⟩ : Addr).add (j * kV.sz + i) = ⟨b, j * 6 + i, none⟩ := by
    have hs : kV.sz = 6 := rfl
    rw [hs]
    simp [Addr.add]
    omega
  rw [e, blk_cell hb (j * 6 + i)]
  exact hc i u hu
theorem name_calls {P : Program} {f : FuncId} {xs : Array Value} {W : World} {Q : Ending → World → Prop} (h : ∀ WW, Hid (W = WW) → Calls P f xs WW Q) : Calls P f xs W Q := h W (Lib.hid rfl)
theorem four_ (w : World) (o1 o2 o3 o4 : Obj) : ((((w.alloc o1).alloc o2).alloc o3).alloc o4).heap[w.heap.size + 1 + 1]? = some o3 ∧ ((((w.alloc o1).alloc o2).alloc o3).alloc o4).heap[w.heap.size + 1 + 1 + 1]? = some o4 ∧ Below w.heap.size w ((((w.alloc o1).alloc o2).alloc o3).alloc o4) := by
  have s2 : ((w.alloc o1).alloc o2).heap.size = w.heap.size + 1 + 1 := by simp
  have s3 : (((w.alloc o1).alloc o2).alloc o3).heap.size = w.heap.size + 1 + 1 + 1 := by simp
  exact ⟨blk_alloc (by rw [← s2]; exact blk_new _ _) _, by rw [← s3]; exact blk_new _ _, below_alloc (below_alloc (below_alloc (below_alloc (Below.refl _ _) _) _) _) _⟩
theorem SumPost.tells {l : List SV} {w : World} {e : Ending} {w' : World} (h : SumPost l w e w') : ∃ A n c B m d n1 n2 n3 n4 er, e = .returned (.tuple #[.agg #[.slice A n c, .slice B m d, .int .u64 n1, .int .u64 n2, .int .u64 n3, .int .u64 n4], .int .i64 er]) := by
  by_cases ha : AllOk l
  · obtain ⟨A, c, B, d, he, _⟩ := h.1 ha
    exact ⟨_, _, _, _, _, _, _, _, _, _, _, he⟩
  · exact ⟨_, _, _, _, _, _, _, _, _, _, _, h.2.1 ha⟩
theorem SumPost.lift {l : List SV} {w W : World} {e : Ending} {w1 w' : World} (h : SumPost l W e w1) (hb : w.heap.size ≤ W.heap.size) (hm : ∀ i, W.heap.size ≤ i → i < w1.heap.size → w'.heap[i]? = w1.heap[i]?) (hB : Below w.heap.size w w') : SumPost l w e w' := by
  refine ⟨fun ha => ?_, h.2.1, hB⟩
  obtain ⟨A, c, B, d, he, h1, h2, hR, hS⟩ := h.1 ha
  have R1 := Kd.R_step (Kd.R_bound hR) (fun q hq hlt => hm q hq.2.1 hlt)
  have R2 := Kd.R_step (Kd.R_bound hS) (fun q hq hlt => hm q hq.2.1 hlt)
  exact ⟨A, c, B, d, he, h1, h2, Kd.R_lower (Kd.R_mono R1 (fun _ _ => trivial)) hb, Kd.R_lower (Kd.R_mono R2 (fun _ _ => trivial)) hb⟩
set_option maxHeartbeats 4000000 in
set_option maxRecDepth 100000 in
theorem merge_any {w : World} {A : Option Addr} {c : Nat} {B : Option Addr} {d : Nat} {a : SV} (k : SK w A c a.h B d a.k) {A' : Option Addr} {c' : Nat} {B' : Option Addr} {d' : Nat} {v : SV} (k' : SK w A' c' v.h B' d' v.k) (ha : a.wf) (hv : v.wf) :
    Calls Try.prog 45 #[.agg #[.slice A a.h.length c, .slice B a.k.length d, .int .u64 a.g.n, .int .u64 a.g.nans, .int .u64 a.g.lo, .int .u64 a.g.hi], .agg #[.slice A' v.h.length c', .slice B' v.k.length d', .int .u64 v.g.n, .int .u64 v.g.nans, .int .u64 v.g.lo, .int .u64 v.g.hi]] w (SumPost [a, v] w) := by
  have K := Lib.hid k; have K' := Lib.hid k'; have HA := Lib.hid ha; have HV := Lib.hid hv
  clear k k' ha hv
  have hu62 := Try.underlying45
  go_enter Try.func45, Try.ntmps45
  go_wp2_with fail
  refine name_calls (fun WW HW => ?_)
  have F := four_ w (.cells #[.slice A a.h.length c, .slice B a.k.length d, .int .u64 a.g.n, .int .u64 a.g.nans, .int .u64 a.g.lo, .int .u64 a.g.hi] 45) (.cells #[.slice A' v.h.length c', .slice B' v.k.length d', .int .u64 v.g.n, .int .u64 v.g.nans, .int .u64 v.g.lo, .int .u64 v.g.hi] 45) (.cells #[.slice none 0 0, .slice none 0 0, .int .u64 0, .int .u64 0, .int .u64 0, .int .u64 0] 45)
    (.cells #[.slice A a.h.length c, .slice B a.k.length d, .int .u64 a.g.n, .int .u64 a.g.nans, .int .u64 a.g.lo, .int .u64 a.g.hi, .slice A' v.h.length c', .slice B' v.k.length d', .int .u64 v.g.n, .int .u64 v.g.nans, .int .u64 v.g.lo, .int .u64 v.g.hi] 45)
  rw [HW.out] at F
  obtain ⟨bR, bA, bL⟩ := F
  have KA := K.out.below bL (Nat.le_refl _)
  have KB := K'.out.below bL (Nat.le_refl _)
  have hC : Kd.C kV WW (some ⟨w.heap.size + 1 + 1 + 1, 0, none⟩) 2 [a, v] := C_V bA rfl (by decide) (fun j u hu => by
    match j, hu with
    | 0, hu => obtain rfl : a = u := by simpa using hu
               exact ⟨_, kV_mk KA.l1 KA.l2 KA.c1 KA.c2, fun i x hx => by
                 match i, hx with
                 | 0, hx | 1, hx | 2, hx | 3, hx | 4, hx | 5, hx => simpa using hx
                 | n + 6, hx => simp at hx⟩
    | 1, hu => obtain rfl : v = u := by simpa using hu
               exact ⟨_, kV_mk KB.l1 KB.l2 KB.c1 KB.c2, fun i x hx => by
                 match i, hx with
                 | 0, hx | 1, hx | 2, hx | 3, hx | 4, hx | 5, hx => simpa using hx
                 | n + 6, hx => simp at hx⟩
    | n + 2, hu => simp at hu)
  refine (sum_any (some ⟨w.heap.size + 1 + 1 + 1, 0, none⟩) 2 [a, v] WW hC (fun u hu => by
    simp at hu
    rcases hu with rfl | rfl
    · exact HA.out
    · exact HV.out)).mono ?_
  intro e w1 hp
  obtain ⟨A1, n, c1, B1, m, d1, n1, n2, n3, n4, er, rfl⟩ := hp.tells
  have hb1 := hp.2.2
  have bR1 := (hb1.block _ (blk_lt bR)).trans bR
  have r0 : w1.cell? ⟨w.heap.size + 1 + 1, 0, none⟩ = some (.slice none 0 0) := blk_cell bR1 0; have r1 : w1.cell? ⟨w.heap.size + 1 + 1, 1, none⟩ = some (.slice none 0 0) := blk_cell bR1 1; have r2 : w1.cell? ⟨w.heap.size + 1 + 1, 2, none⟩ = some (.int .u64 0) := blk_cell bR1 2; have r3 : w1.cell? ⟨w.heap.size + 1 + 1, 3, none⟩ = some (.int .u64 0) := blk_cell bR1 3; have r4 : w1.cell? ⟨w.heap.size + 1 + 1, 4, none⟩ = some (.int .u64 0) := blk_cell bR1 4; have r5 : w1.cell? ⟨w.heap.size + 1 + 1, 5, none⟩ = some (.int .u64 0) := blk_cell bR1 5
  have t0 := blk_frozen bR1 0; have t1 := blk_frozen bR1 1; have t2 := blk_frozen bR1 2; have t3 := blk_frozen bR1 3; have t4 := blk_frozen bR1 4; have t5 := blk_frozen bR1 5
  have HR := Lib.hid bR1; have HP := Lib.hid hp; have HBL := Lib.hid (bL.trans (hb1.mono bL.size))
  have HZ := Lib.hid (show w.heap.size + 1 + 1 < WW.heap.size from blk_lt bR)
  clear bR bA bL KA KB hC hp hb1 bR1
  go_wp2
  have hx : w.heap.size ≤ w.heap.size + 1 + 1 := by omega
  refine bodyPost_ret (results_ct rfl _ _ (w.heap.size + 1 + 1) 45 #[.slice A1 n c1, .slice B1 m d1, .int .u64 n1, .int .u64 n2, .int .u64 n3, .int .u64 n4] (0, 0) _ rfl (blk_set (blk_set (blk_set (blk_set (blk_set (blk_set HR.out 0 _) 1 _) 2 _) 3 _) 4 _) 5 _) Try.underlying45 rfl (by kernel_rfl)) rfl ?_
  refine HP.out.lift (by have := HZ.out; omega) (fun i h1 h2 => ?_) (below_set (below_set (below_set (below_set (below_set (below_set HBL.out hx) hx) hx) hx) hx) hx)
  have hne : i ≠ w.heap.size + 1 + 1 := by have := HZ.out; omega
  rw [Below.heap_setCell _ _ _ i hne, Below.heap_setCell _ _ _ i hne, Below.heap_setCell _ _ _ i hne, Below.heap_setCell _ _ _ i hne, Below.heap_setCell _ _ _ i hne, Below.heap_setCell _ _ _ i hne]
end Go.Proofs.Ytncgjbocgbnkcaa
namespace Go.Proofs.Ytncgjbocgbnkcaa
set_option linter.unusedVariables false
set_option linter.unusedSimpArgs false
open Go.RowKit Go.Maps Go.Proofs.YtncgjbocgbnkcaaW.PrintWords Go.Proofs.YtncgjbocgbnkcaaW.PrintLast Go.Proofs.YtncgjbocgbnkcaaW.PrintMore Go.Proofs.Ytncgjbocgbnkcaa.Pure Go.Proofs.Ytncgjbocgbnkcaa.Q Go.Proofs.Ytncgjbocgbnkcaa.Hi Go.Proofs.Ytncgjbocgbnkcaa.Ga
theorem AllOk.two {a b : SV} (ha : a.wf) (oa : a.ok = true) (hb : b.wf) (ob : b.ok = true) : AllOk [a, b] := fun v hv => by
  simp at hv
  rcases hv with rfl | rfl
  · exact ⟨ha, oa⟩
  · exact ⟨hb, ob⟩
theorem AllOk.one {a : SV} (ha : a.wf) (oa : a.ok = true) : AllOk [a] := fun v hv => by
  simp at hv
  subst hv
  exact ⟨ha, oa⟩
/-- The histogram of a sketch. -/
def hV (v : SV) : List Int := merged (hzero 7424) v.h
theorem hV_good {v : SV} (hw : v.wf) (ho : v.ok = true) : hgood (hV v) = true := merged_good_of (Bok.of hw.1 ((SV.ok_iff v).1 ho).1) hzero_good
theorem hV_bks {v : SV} (hw : v.wf) (ho : v.ok = true) : bks (hV v) = v.h := bks_merged (Bok.of hw.1 ((SV.ok_iff v).1 ho).1) ((SV.ok_iff v).1 ho).1
theorem kV_good {v : SV} (hw : v.wf) (ho : v.ok = true) : KGood v.k := KGood.of hw.2.1 ((SV.ok_iff v).1 ho).2.1
theorem sum_two {a b : SV} (ha : a.wf) (oa : a.ok = true) (hb : b.wf) (ob : b.ok = true) : sumV [a, b] = ⟨bks (hplus (hV a) (hV b)), kmany a.k b.k, gmerge a.g b.g⟩ := by
  show (⟨bks (merged (merged (hzero 7424) a.h) b.h), kmany (kmany [] a.k) b.k, gmerge (gmerge gzero a.g) b.g⟩ : SV) = _
  rw [kmany_nil ((SV.ok_iff a).1 oa).2.1.1 ((SV.ok_iff a).1 oa).2.1.2, gmerge_zero_left ha.2.2, merged_plus (Bok.of hb.1 ((SV.ok_iff b).1 ob).1) (show hgood (merged (hzero 7424) a.h) = true from hV_good ha oa)]
  rfl
theorem sum_comm {a b : SV} (ha : a.wf) (oa : a.ok = true) (hb : b.wf) (ob : b.ok = true) : sumV [a, b] = sumV [b, a] := by
  rw [sum_two ha oa hb ob, sum_two hb ob ha oa, hplus_comm (hV_good ha oa) (hV_good hb ob), gmerge_comm ha.2.2 hb.2.2 ((SV.ok_iff a).1 oa).2.2 ((SV.ok_iff b).1 ob).2.2]
  have ka := kV_good ha oa
  have kb := kV_good hb ob
  rw [kmany_same (s := a.k) (s' := b.k) (l := b.k) (l' := a.k) ka.1 ka.2.1 kb.1 kb.2.1 (fun x => Or.comm)]
theorem hV_sum {a b : SV} (ha : a.wf) (oa : a.ok = true) (hb : b.wf) (ob : b.ok = true) : hV (sumV [a, b]) = hplus (hV a) (hV b) := by
  rw [sum_two ha oa hb ob]
  exact merged_bks (hplus_good (hV_good ha oa) (hV_good hb ob))
theorem kmany_assoc {a b c : List Int} (ha : KGood a) (hb : KGood b) (hc : KGood c) : kmany (kmany a b) c = kmany a (kmany b c) := by
  have e1 : kmany a b = (kall a b).take 1024 := kmany_eq ha.1 ha.2.1
  have e2 : kmany b c = (kall b c).take 1024 := kmany_eq hb.1 hb.2.1
  have k1 := asc_kmany (l := b) ha.1 ha.2.1
  have l1 := kmany_len (l := b) ha.1 ha.2.1
  -- both are the least of all three
  rw [e2, kmany_least ha.1 ha.2.1 (asc_kall hb.1)]
  have e3 : kmany (kmany a b) c = kmany c (kmany a b) := kmany_same k1 l1 hc.1 hc.2.1 (fun x => Or.comm)
  rw [e3, e1, kmany_least hc.1 hc.2.1 (asc_kall ha.1)]
  refine kmany_same hc.1 hc.2.1 ha.1 ha.2.1 (fun x => ?_)
  rw [mem_kall, mem_kall]
  constructor
  · rintro (h | h | h)
    · exact .inr (.inr h)
    · exact .inl h
    · exact .inr (.inl h)
  · rintro (h | h | h)
    · exact .inr (.inl h)
    · exact .inr (.inr h)
    · exact .inl h
theorem sum_assoc {a b c : SV} (ha : a.wf) (oa : a.ok = true) (hb : b.wf) (ob : b.ok = true) (hc : c.wf) (oc : c.ok = true) : sumV [sumV [a, b], c] = sumV [a, sumV [b, c]] := by
  obtain ⟨wab, oab⟩ := sumV_ok (AllOk.two ha oa hb ob)
  obtain ⟨wbc, obc⟩ := sumV_ok (AllOk.two hb ob hc oc)
  rw [sum_two wab oab hc oc, sum_two ha oa wbc obc, hV_sum ha oa hb ob, hV_sum hb ob hc oc, hplus_assoc (hV_good ha oa) (hV_good hb ob) (hV_good hc oc), sum_two ha oa hb ob, sum_two hb ob hc oc]
  show (⟨_, kmany (kmany a.k b.k) c.k, gmerge (gmerge a.g b.g) c.g⟩ : SV) = ⟨_, kmany a.k (kmany b.k c.k), gmerge a.g (gmerge b.g c.g)⟩
  rw [kmany_assoc (kV_good ha oa) (kV_good hb ob) (kV_good hc oc), gmerge_assoc ha.2.2 hb.2.2 hc.2.2 ((SV.ok_iff a).1 oa).2.2 ((SV.ok_iff b).1 ob).2.2 ((SV.ok_iff c).1 oc).2.2]
theorem hV_zero : hV zV = hzero 7424 := rfl
theorem sum_zero_right {a : SV} (ha : a.wf) (oa : a.ok = true) : sumV [a, zV] = a := by
  rw [sum_two ha oa zV_wf zV_ok, hV_zero, hplus_zero (hV_good ha oa), hV_bks ha oa, show zV.g = gzero from rfl, gmerge_zero_right ha.2.2 ((SV.ok_iff a).1 oa).2.2]
  rfl
theorem sum_zero_left {a : SV} (ha : a.wf) (oa : a.ok = true) : sumV [zV, a] = a := by rw [sum_comm zV_wf zV_ok ha oa, sum_zero_right ha oa]
def ofV (l : List S90) : SV := ⟨bks (ofH l), ofK l, ofG l⟩
theorem ofV_wf {l : List S90} (h : OW l) (hl : l.length ≤ 1000) : (ofV l).wf ∧ (ofV l).ok = true :=
  ⟨⟨bks_WB (ofH_good h hl), WU_good (ofK_good l h), ofG_wf h⟩, of_okS h hl⟩
theorem OW.of_append {a b : List S90} (h : OW (a ++ b)) : OW a ∧ OW b := ⟨fun o ho => h o (by simp [ho]), fun o ho => h o (by simp [ho])⟩
theorem ofH_append (a : List S90) {b : List S90} : OW (a ++ b) → (a ++ b).length ≤ 1000 → ofH (a ++ b) = hplus (ofH a) (ofH b) := by
  refine snocs (P := fun b => OW (a ++ b) → (a ++ b).length ≤ 1000 → ofH (a ++ b) = hplus (ofH a) (ofH b)) (fun h hl => ?_) (fun l o ih h hl => ?_) b
  · rw [List.append_nil] at h hl ⊢
    exact (hplus_zero (ofH_good h hl)).symm
  · rw [← List.append_assoc] at h hl ⊢
    have hl' : (a ++ l).length ≤ 1000 := by have := @List.length_append _ (a ++ l) [o]; omega
    have e := ih h.of_append.1 hl'
    have ha := ofH_good h.of_append.1.of_append.1 (by rw [List.length_append] at hl'; omega)
    have hb := ofH_good h.of_append.1.of_append.2 (by rw [List.length_append] at hl'; omega)
    have hlt : bucketN o.f0.toNat < 7424 := by
      obtain ⟨h0, h1⟩ := (h o (by simp)).1
      exact bucketN_lt _ (by omega)
    rw [ofH_snoc, ofH_snoc, e, hadd_plus (hplus_good ha hb) _ hlt 1 (by decide) (by decide), hadd_plus hb _ hlt 1 (by decide) (by decide), hplus_assoc ha hb (hadd_good hzero_good _ _ (by decide))]
theorem kmany_append (s a b : List Int) : kmany s (a ++ b) = kmany (kmany s a) b := by simp [kmany, List.foldl_append]
theorem ofK_append {a b : List S90} (h : OW (a ++ b)) : ofK (a ++ b) = kmany (ofK a) (ofK b) := by
  have ha := ofK_good a h.of_append.1
  have e : ofK b = (kall [] (b.map (fun o : S90 => fnvV o.f1))).take 1024 := kmany_eq List.Pairwise.nil (by simp)
  have e0 : ofK (a ++ b) = kmany (ofK a) (b.map (fun o => fnvV o.f1)) := by
    unfold ofK; rw [List.map_append, kmany_append]
  rw [e0, e, kmany_least ha.1 ha.2.1 (asc_kall List.Pairwise.nil)]
  refine kmany_same ha.1 ha.2.1 ha.1 ha.2.1 (fun x => ?_)
  rw [mem_kall]
  simp
theorem gadd_merge {g h : G4} (wg : g.wf) (wh : h.wf) (cg : gchk g = true) (ch : gchk h = true) {b : Int} (hb : U b) : gadd (gmerge g h) b = gmerge g (gadd h b) := by
  cases hn : nanB b
  · unfold gadd
    rw [hn, if_neg (by simp), if_neg (by simp)]
    exact gmerge_assoc wg wh (one_wf hb) cg ch (one_chk hn)
  · -- not a number: it is counted alone
    have e : ∀ x : G4, x.wf → gchk x = true → gadd x b = gmerge x ⟨0, 1, 0, 0⟩ := fun x wx cx => by
      have e1 : hold (x.n + 0) = x.n := by unfold hold; rw [Int.add_zero, if_pos wx.1.2]
      unfold gadd
      rw [hn, if_pos rfl]
      by_cases z : x.n = 0
      · rw [gmerge_left z, e1, (gchk_none cx z).1, (gchk_none cx z).2]
      · rw [gmerge_right z rfl, e1]
    have w1 : (⟨0, 1, 0, 0⟩ : G4).wf := ⟨⟨by decide, by decide⟩, ⟨by decide, by decide⟩, ⟨by decide, by decide⟩, ⟨by decide, by decide⟩⟩
    have c1 : gchk ⟨0, 1, 0, 0⟩ = true := rfl
    rw [e _ (gmerge_wf wg wh) (gmerge_chk wg wh cg ch), e h wh ch]
    exact gmerge_assoc wg wh w1 cg ch c1
theorem ofG_append (a : List S90) {b : List S90} : OW (a ++ b) → ofG (a ++ b) = gmerge (ofG a) (ofG b) := by
  refine snocs (P := fun b => OW (a ++ b) → ofG (a ++ b) = gmerge (ofG a) (ofG b)) (fun h => ?_) (fun l o ih h => ?_) b
  · rw [List.append_nil] at h ⊢
    exact (gmerge_zero_right (ofG_wf h) (ofG_chk h)).symm
  · rw [← List.append_assoc] at h ⊢
    have h1 := h.of_append.1
    rw [ofG_snoc, ofG_snoc, ih h1]
    exact gadd_merge (ofG_wf h1.of_append.1) (ofG_wf h1.of_append.2) (ofG_chk h1.of_append.1) (ofG_chk h1.of_append.2) (h o (by simp)).2.2
/-- Observations in two parts are the sum of the parts. -/
theorem ofV_append {a b : List S90} (h : OW (a ++ b)) (hl : (a ++ b).length ≤ 1000) : ofV (a ++ b) = sumV [ofV a, ofV b] := by
  have la : a.length ≤ 1000 := by rw [List.length_append] at hl; omega
  have lb : b.length ≤ 1000 := by rw [List.length_append] at hl; omega
  obtain ⟨wa, oa⟩ := ofV_wf h.of_append.1 la
  obtain ⟨wb, ob⟩ := ofV_wf h.of_append.2 lb
  rw [sum_two wa oa wb ob]
  show (⟨bks (ofH (a ++ b)), ofK (a ++ b), ofG (a ++ b)⟩ : SV) = ⟨bks (hplus (merged (hzero 7424) (bks (ofH a))) (merged (hzero 7424) (bks (ofH b)))), kmany (ofK a) (ofK b), gmerge (ofG a) (ofG b)⟩
  rw [merged_bks (ofH_good h.of_append.1 la), merged_bks (ofH_good h.of_append.2 lb), ofH_append a h hl, ofK_append h, ofG_append a h]
theorem OW.swap {a b : List S90} (h : OW (a ++ b)) : OW (b ++ a) := fun o ho => h o (by rw [List.mem_append] at ho ⊢; exact ho.symm)
theorem ofV_turn {a b : List S90} (h : OW (a ++ b)) (hl : (a ++ b).length ≤ 1000) : ofV (b ++ a) = ofV (a ++ b) := by
  have hl2 : (b ++ a).length ≤ 1000 := by rw [List.length_append] at hl ⊢; omega
  have la : a.length ≤ 1000 := by rw [List.length_append] at hl; omega
  have lb : b.length ≤ 1000 := by rw [List.length_append] at hl; omega
  obtain ⟨wa, oa⟩ := ofV_wf h.of_append.1 la
  obtain ⟨wb, ob⟩ := ofV_wf h.of_append.2 lb
  rw [ofV_append h hl, ofV_append h.swap hl2, sum_comm wb ob wa oa]
end Go.Proofs.Ytncgjbocgbnkcaa
namespace Go.Proofs.Ytncgjbocgbnkcaa
set_option linter.unusedVariables false
set_option linter.unusedSimpArgs false
open Go.RowKit Go.Maps Go.Proofs.YtncgjbocgbnkcaaW.PrintWords Go.Proofs.YtncgjbocgbnkcaaW.PrintLast Go.Proofs.YtncgjbocgbnkcaaW.PrintMore Go.Proofs.Ytncgjbocgbnkcaa.Pure Go.Proofs.Ytncgjbocgbnkcaa.Q Go.Proofs.Ytncgjbocgbnkcaa.Hi Go.Proofs.Ytncgjbocgbnkcaa.Ga
theorem SK.alloc {W : World} {A : Option Addr} {c : Nat} {l : List S68} {B : Option Addr} {d : Nat} {h : List Int} (k : SK W A c l B d h) (o : Obj) : SK (W.alloc o) A c l B d h := k.below (below_alloc (Below.refl _ _) o) (Nat.le_refl _)
theorem SK.zero (W : World) : SK W none 0 zV.h none 0 zV.k := ⟨⟨rfl, by decide, fun h => absurd h (by decide)⟩, Nat.le_refl _, ⟨rfl, by decide, fun h => absurd h (by decide)⟩, Nat.le_refl _, by decide, by decide⟩
/-- A block's six cells. -/
theorem box6 {W : World} {x : Nat} {a0 a1 a2 a3 a4 a5 : Value} {T : TypeId} (h : W.heap[x]? = some (.cells #[a0, a1, a2, a3, a4, a5] T (0, 0))) :
    W.cell? ⟨x, 0, none⟩ = some a0 ∧ W.cell? ⟨x, 1, none⟩ = some a1 ∧ W.cell? ⟨x, 2, none⟩ = some a2 ∧ W.cell? ⟨x, 3, none⟩ = some a3 ∧ W.cell? ⟨x, 4, none⟩ = some a4 ∧ W.cell? ⟨x, 5, none⟩ = some a5 :=
  ⟨blk_cell h 0, blk_cell h 1, blk_cell h 2, blk_cell h 3, blk_cell h 4, blk_cell h 5⟩
theorem below_of_alloc {W w' : World} {o : Obj} (hb : Below (W.alloc o).heap.size (W.alloc o) w') : Below W.heap.size W w' := (below_alloc (Below.refl _ _) o).trans (hb.mono (by simp))
theorem new_below {W w' : World} {o : Obj} (hb : Below (W.alloc o).heap.size (W.alloc o) w') : w'.heap[W.heap.size]? = some o := (hb.block _ (by simp)).trans (blk_new W o)
theorem SumPost.good {l : List SV} {w : World} {e : Ending} {w' : World} (h : SumPost l w e w') (ha : AllOk l) {s : SV} (hs : sumV l = s) :
    ∃ A c B d, e = .returned (.tuple #[.agg #[.slice A s.h.length c, .slice B s.k.length d, .int .u64 s.g.n, .int .u64 s.g.nans, .int .u64 s.g.lo, .int .u64 s.g.hi], .int .i64 0]) ∧ SK w' A c s.h B d s.k ∧ Kd.R k68 68 w' w.heap.size (fun _ => True) (.slice A s.h.length c) s.h ∧ Kd.R (Kd.int .u64) 41 w' w.heap.size (fun _ => True) (.slice B s.k.length d) s.k ∧ Below w.heap.size w w' := by
  subst hs
  obtain ⟨A, c, B, d, he, h1, h2, hR, hS⟩ := h.1 ha
  have hw := (sumV_ok ha).1
  exact ⟨A, c, B, d, he, ⟨(Kd.R_reads' hR).2.2, h1, (Kd.R_reads' hS).2.2, h2, WB.len hw.1, by have := hw.2.1.1; omega⟩, hR, hS, h.2.2⟩
def OkRes (s : SV) (w : World) (e : Ending) (w' : World) : Prop :=
  ∃ A c B d, e = .returned (.tuple #[.agg #[.slice A s.h.length c, .slice B s.k.length d, .int .u64 s.g.n, .int .u64 s.g.nans, .int .u64 s.g.lo, .int .u64 s.g.hi], .int .i64 0]) ∧ SK w' A c s.h B d s.k ∧ Below w.heap.size w w'
theorem merge_ok {w : World} {A : Option Addr} {c : Nat} {B : Option Addr} {d : Nat} {a : SV} (k : SK w A c a.h B d a.k) {A' : Option Addr} {c' : Nat} {B' : Option Addr} {d' : Nat} {v : SV} (k' : SK w A' c' v.h B' d' v.k) (ha : AllOk [a, v]) {s : SV} (hs : sumV [a, v] = s) :
    Calls Try.prog 45 #[.agg #[.slice A a.h.length c, .slice B a.k.length d, .int .u64 a.g.n, .int .u64 a.g.nans, .int .u64 a.g.lo, .int .u64 a.g.hi], .agg #[.slice A' v.h.length c', .slice B' v.k.length d', .int .u64 v.g.n, .int .u64 v.g.nans, .int .u64 v.g.lo, .int .u64 v.g.hi]] w (OkRes s w) :=
  (merge_any k k' (ha a (by simp)).1 (ha v (by simp)).1).mono fun _ _ h => by
    obtain ⟨A, c, B, d, he, hk, _, _, hb⟩ := h.good ha hs
    exact ⟨A, c, B, d, he, hk, hb⟩
theorem merge_zr {w : World} {A : Option Addr} {c : Nat} {B : Option Addr} {d : Nat} {a : SV} (k : SK w A c a.h B d a.k) (ha : a.wf) (oa : a.ok = true) :
    Calls Try.prog 45 #[.agg #[.slice A a.h.length c, .slice B a.k.length d, .int .u64 a.g.n, .int .u64 a.g.nans, .int .u64 a.g.lo, .int .u64 a.g.hi], .agg #[.slice none 0 0, .slice none 0 0, .int .u64 0, .int .u64 0, .int .u64 0, .int .u64 0]] w (OkRes a w) :=
  merge_ok k (SK.zero w) (AllOk.two ha oa zV_wf zV_ok) (sum_zero_right ha oa)
theorem merge_zl {w : World} {A : Option Addr} {c : Nat} {B : Option Addr} {d : Nat} {a : SV} (k : SK w A c a.h B d a.k) (ha : a.wf) (oa : a.ok = true) :
    Calls Try.prog 45 #[.agg #[.slice none 0 0, .slice none 0 0, .int .u64 0, .int .u64 0, .int .u64 0, .int .u64 0], .agg #[.slice A a.h.length c, .slice B a.k.length d, .int .u64 a.g.n, .int .u64 a.g.nans, .int .u64 a.g.lo, .int .u64 a.g.hi]] w (OkRes a w) :=
  merge_ok (SK.zero w) k (AllOk.two zV_wf zV_ok ha oa) (sum_zero_left ha oa)
/-- Sum of one, out of a row that was just made. -/
theorem sum_one {W : World} {A : Option Addr} {c : Nat} {B : Option Addr} {d : Nat} {a : SV} (k : SK W A c a.h B d a.k) (ha : a.wf) :
    Calls Try.prog 44 #[.slice (some ⟨W.heap.size, 0, none⟩) 1 1] (W.alloc (.cells #[.slice A a.h.length c, .slice B a.k.length d, .int .u64 a.g.n, .int .u64 a.g.nans, .int .u64 a.g.lo, .int .u64 a.g.hi] 45)) (SumPost [a] W) := by
  have k1 := k.alloc (.cells #[.slice A a.h.length c, .slice B a.k.length d, .int .u64 a.g.n, .int .u64 a.g.nans, .int .u64 a.g.lo, .int .u64 a.g.hi] 45)
  have hC : Kd.C kV _ (some ⟨W.heap.size, 0, none⟩) 1 [a] := C_V (blk_new W (.cells #[.slice A a.h.length c, .slice B a.k.length d, .int .u64 a.g.n, .int .u64 a.g.nans, .int .u64 a.g.lo, .int .u64 a.g.hi] 45)) rfl (by decide) (fun j u hu => by
    match j, hu with
    | 0, hu => obtain rfl : a = u := by simpa using hu
               exact ⟨_, kV_mk k1.l1 k1.l2 k1.c1 k1.c2, fun i x hx => by
                 match i, hx with
                 | 0, hx | 1, hx | 2, hx | 3, hx | 4, hx | 5, hx => simpa using hx
                 | n + 6, hx => simp at hx⟩
    | n + 1, hu => simp at hu)
  refine (sum_any _ 1 [a] _ hC (fun u hu => by simp at hu; subst hu; exact ha)).mono fun e w' h => ?_
  exact h.lift (by simp) (fun _ _ _ => rfl) (below_of_alloc h.2.2)
theorem sum_two_ {W : World} {A : Option Addr} {c : Nat} {B : Option Addr} {d : Nat} {a : SV} (k : SK W A c a.h B d a.k) (ha : a.wf) {A' : Option Addr} {c' : Nat} {B' : Option Addr} {d' : Nat} {v : SV} (k' : SK W A' c' v.h B' d' v.k) (hv : v.wf) :
    Calls Try.prog 44 #[.slice (some ⟨W.heap.size, 0, none⟩) 2 2] (W.alloc (.cells #[.slice A a.h.length c, .slice B a.k.length d, .int .u64 a.g.n, .int .u64 a.g.nans, .int .u64 a.g.lo, .int .u64 a.g.hi, .slice A' v.h.length c', .slice B' v.k.length d', .int .u64 v.g.n, .int .u64 v.g.nans, .int .u64 v.g.lo, .int .u64 v.g.hi] 45)) (SumPost [a, v] W) := by
  have k1 := k.alloc (.cells #[.slice A a.h.length c, .slice B a.k.length d, .int .u64 a.g.n, .int .u64 a.g.nans, .int .u64 a.g.lo, .int .u64 a.g.hi, .slice A' v.h.length c', .slice B' v.k.length d', .int .u64 v.g.n, .int .u64 v.g.nans, .int .u64 v.g.lo, .int .u64 v.g.hi] 45)
  have k2 := k'.alloc (.cells #[.slice A a.h.length c, .slice B a.k.length d, .int .u64 a.g.n, .int .u64 a.g.nans, .int .u64 a.g.lo, .int .u64 a.g.hi, .slice A' v.h.length c', .slice B' v.k.length d', .int .u64 v.g.n, .int .u64 v.g.nans, .int .u64 v.g.lo, .int .u64 v.g.hi] 45)
  have hC : Kd.C kV _ (some ⟨W.heap.size, 0, none⟩) 2 [a, v] := C_V (blk_new W (.cells #[.slice A a.h.length c, .slice B a.k.length d, .int .u64 a.g.n, .int .u64 a.g.nans, .int .u64 a.g.lo, .int .u64 a.g.hi, .slice A' v.h.length c', .slice B' v.k.length d', .int .u64 v.g.n, .int .u64 v.g.nans, .int .u64 v.g.lo, .int .u64 v.g.hi] 45)) rfl (by decide) (fun j u hu => by
    match j, hu with
    | 0, hu => obtain rfl : a = u := by simpa using hu
               exact ⟨_, kV_mk k1.l1 k1.l2 k1.c1 k1.c2, fun i x hx => by
                 match i, hx with
                 | 0, hx | 1, hx | 2, hx | 3, hx | 4, hx | 5, hx => simpa using hx
                 | n + 6, hx => simp at hx⟩
    | 1, hu => obtain rfl : v = u := by simpa using hu
               exact ⟨_, kV_mk k2.l1 k2.l2 k2.c1 k2.c2, fun i x hx => by
                 match i, hx with
                 | 0, hx | 1, hx | 2, hx | 3, hx | 4, hx | 5, hx => simpa using hx
                 | n + 6, hx => simp at hx⟩
    | n + 2, hu => simp at hu)
  refine (sum_any _ 2 [a, v] _ hC (fun u hu => by
    simp at hu
    rcases hu with rfl | rfl
    · exact ha
    · exact hv)).mono fun e w' h => ?_
  exact h.lift (by simp) (fun _ _ _ => rfl) (below_of_alloc h.2.2)
theorem sum1_ok {W : World} {A : Option Addr} {c : Nat} {B : Option Addr} {d : Nat} {a : SV} (k : SK W A c a.h B d a.k) (ha : a.wf) (oa : a.ok = true) :
    Calls Try.prog 44 #[.slice (some ⟨W.heap.size, 0, none⟩) 1 1] (W.alloc (.cells #[.slice A a.h.length c, .slice B a.k.length d, .int .u64 a.g.n, .int .u64 a.g.nans, .int .u64 a.g.lo, .int .u64 a.g.hi] 45)) (OkRes a W) :=
  (sum_one k ha).mono fun _ _ h => by
    obtain ⟨A, c, B, d, he, hk, _, _, hb⟩ := h.good (AllOk.one ha oa) (sumV_one ha oa)
    exact ⟨A, c, B, d, he, hk, hb⟩
theorem sum2_ok {W : World} {A : Option Addr} {c : Nat} {B : Option Addr} {d : Nat} {a : SV} (k : SK W A c a.h B d a.k) {A' : Option Addr} {c' : Nat} {B' : Option Addr} {d' : Nat} {v : SV} (k' : SK W A' c' v.h B' d' v.k) (ha : AllOk [a, v]) {s : SV} (hs : sumV [a, v] = s) :
    Calls Try.prog 44 #[.slice (some ⟨W.heap.size, 0, none⟩) 2 2] (W.alloc (.cells #[.slice A a.h.length c, .slice B a.k.length d, .int .u64 a.g.n, .int .u64 a.g.nans, .int .u64 a.g.lo, .int .u64 a.g.hi, .slice A' v.h.length c', .slice B' v.k.length d', .int .u64 v.g.n, .int .u64 v.g.nans, .int .u64 v.g.lo, .int .u64 v.g.hi] 45)) (OkRes s W) :=
  (sum_two_ k (ha a (by simp)).1 k' (ha v (by simp)).1).mono fun _ _ h => by
    obtain ⟨A, c, B, d, he, hk, _, _, hb⟩ := h.good ha hs
    exact ⟨A, c, B, d, he, hk, hb⟩
theorem rcheckV {W : World} {A : Option Addr} {c : Nat} {B : Option Addr} {d : Nat} {v : SV} (k : SK W A c v.h B d v.k) (hw : v.wf) {r : Bool} (hr : v.ok = r) :
    Calls Try.prog 40 #[.agg #[.slice A v.h.length c, .slice B v.k.length d, .int .u64 v.g.n, .int .u64 v.g.nans, .int .u64 v.g.lo, .int .u64 v.g.hi]] W fun e w' => e = .returned (.bool r) ∧ Below W.heap.size W w' := by
  subst hr; exact sk_rcheck k v.g hw.2.2
theorem copyV {W : World} {A : Option Addr} {c : Nat} {B : Option Addr} {d : Nat} {v : SV} (k : SK W A c v.h B d v.k) :
    Calls Try.prog 39 #[.agg #[.slice A v.h.length c, .slice B v.k.length d, .int .u64 v.g.n, .int .u64 v.g.nans, .int .u64 v.g.lo, .int .u64 v.g.hi]] W fun e w' =>
      ∃ A' c' B' d', e = .returned (.agg #[.slice A' v.h.length c', .slice B' v.k.length d', .int .u64 v.g.n, .int .u64 v.g.nans, .int .u64 v.g.lo, .int .u64 v.g.hi]) ∧ SK w' A' c' v.h B' d' v.k ∧ Below W.heap.size W w' := sk_copy k v.g.n v.g.nans v.g.lo v.g.hi
theorem sameV {W : World} {A : Option Addr} {c : Nat} {B : Option Addr} {d : Nat} {v : SV} (k : SK W A c v.h B d v.k) {A' : Option Addr} {c' : Nat} {B' : Option Addr} {d' : Nat} (k' : SK W A' c' v.h B' d' v.k) :
    Calls Try.prog 42 #[.agg #[.slice A v.h.length c, .slice B v.k.length d, .int .u64 v.g.n, .int .u64 v.g.nans, .int .u64 v.g.lo, .int .u64 v.g.hi], .agg #[.slice A' v.h.length c', .slice B' v.k.length d', .int .u64 v.g.n, .int .u64 v.g.nans, .int .u64 v.g.lo, .int .u64 v.g.hi]] W fun e w' => e = .returned (.bool true) ∧ Below W.heap.size W w' := by
  have h := sk_same k v.g k' v.g
  rwa [sameS_self] at h
end Go.Proofs.Ytncgjbocgbnkcaa
namespace Go.Proofs.Ytncgjbocgbnkcaa
set_option linter.unusedVariables false
set_option linter.unusedSimpArgs false
open Go.RowKit Go.Maps Go.Proofs.YtncgjbocgbnkcaaW.PrintWords Go.Proofs.YtncgjbocgbnkcaaW.PrintLast Go.Proofs.YtncgjbocgbnkcaaW.PrintMore Go.Proofs.Ytncgjbocgbnkcaa.Pure Go.Proofs.Ytncgjbocgbnkcaa.Q Go.Proofs.Ytncgjbocgbnkcaa.Hi Go.Proofs.Ytncgjbocgbnkcaa.Ga
theorem aw_b0 : bks (ofH []) = [] := bks_merged (l := []) (fun b hb => by simp at hb) rfl
theorem aw_b : bks (ofH [⟨300, ⟨#[97]⟩, 0⟩]) = [⟨278, 1⟩] := by
  have e : bks (hadd (hzero 7424) 278 1) = insB 278 1 (bks (hzero 7424)) := (bks_add hzero_good 278 (by omega) 1 (by omega)).symm
  have e0 : bks (hzero 7424) = [] := aw_b0
  rw [e0] at e
  exact e
theorem aw_k0 : ofK [] = [] := rfl
theorem aw_g0 : ofG [] = gzero := rfl
theorem aw_f : fnvV ⟨#[97]⟩ = 12638187200555641996 := by
  have f1 : fnv_Of.f 2 ⟨#[97]⟩ = some 12638187200555641996 := by decide +kernel
  show (fnv_Of.f 2 ⟨#[97]⟩).getD 0 = _
  rw [f1]; rfl
theorem aw_k : ofK [⟨300, ⟨#[97]⟩, 0⟩] = [12638187200555641996] := by
  show khash [] (fnvV ⟨#[97]⟩) = _
  rw [aw_f]; rfl
theorem aw_c (w : World) : Kd.C k90 (w.alloc (.cells #[.int .u64 300, .string ⟨#[97]⟩, .int .u64 0] 90)) (some ⟨w.heap.size, 0, none⟩) 1 [⟨300, ⟨#[97]⟩, 0⟩] := by
  have h := blk_new w (.cells #[.int .u64 300, .string ⟨#[97]⟩, .int .u64 0] 90)
  refine ⟨rfl, by decide, fun _ => ⟨_, rfl, fun j p hp => ?_⟩⟩
  cases j with
  | succ j => simp at hp
  | zero =>
    obtain rfl : (⟨300, ⟨#[97]⟩, 0⟩ : S90) = p := by simpa using hp
    refine ⟨[.int .u64 300, .string ⟨#[97]⟩, .int .u64 0], rfl, k90_mk _ _, fun i u hu => ?_⟩
    have e : (⟨w.heap.size, 0, none⟩ : Addr).add (0 * k90.sz + i) = ⟨w.heap.size, i, none⟩ := by
      simp [Addr.add]
      omega
    rw [e, blk_cell h i, ← hu]; simp
theorem aw_g : ofG [⟨300, ⟨#[97]⟩, 0⟩] = ⟨1, 0, 0, 0⟩ := by
  show gadd gzero 0 = _
  have n0 : nanB 0 = false := by decide
  unfold gadd
  rw [n0]
  rfl
theorem of_one (w : World) : Calls Try.prog 26 #[.slice (some ⟨w.heap.size, 0, none⟩) 1 1] (w.alloc (.cells #[.int .u64 300, .string ⟨#[97]⟩, .int .u64 0] 90)) fun e w' =>
    ∃ A c A' c', e = .returned (.agg #[.slice A 1 c, .slice A' 1 c', .int .u64 1, .int .u64 0, .int .u64 0, .int .u64 0]) ∧ 1 ≤ c ∧ 1 ≤ c' ∧ Kd.C k68 w' A 1 [⟨278, 1⟩] ∧ Kd.C (Kd.int .u64) w' A' 1 [12638187200555641996] ∧ Below w.heap.size w w' := by
  have h := of_any (some ⟨w.heap.size, 0, none⟩) 1 [⟨300, ⟨#[97]⟩, 0⟩] _ (aw_c w) (fun o ho => by
    rw [List.mem_singleton] at ho; subst ho
    exact ⟨⟨by decide, by decide⟩, (by have hM : maxLen = 9223372036854775807 := rfl; have hs : (⟨#[97]⟩ : ByteArray).size = 1 := rfl; show (⟨#[97]⟩ : ByteArray).size ≤ maxLen; omega), ⟨by decide, by decide⟩⟩) (by decide)
  rw [aw_b, aw_k, aw_g] at h
  refine h.mono fun e w' ⟨A, c, A', c', he, h1, h2, hR, hS, hb⟩ => ⟨A, c, A', c', he, h1, h2, (Kd.R_reads' hR).2.2, (Kd.R_reads' hS).2.2, ?_⟩
  exact (below_alloc (Below.refl _ _) _).trans (hb.mono (by simp))
theorem of_nil (w : World) : Calls Try.prog 26 #[.slice none 0 0] w fun e w' =>
    ∃ A c A' c', e = .returned (.agg #[.slice A 0 c, .slice A' 0 c', .int .u64 0, .int .u64 0, .int .u64 0, .int .u64 0]) ∧ Kd.C k68 w' A 0 [] ∧ Kd.C (Kd.int .u64) w' A' 0 [] ∧ Below w.heap.size w w' := by
  have h := of_any none 0 [] w ⟨rfl, by decide, fun h => absurd h (by decide)⟩ (fun o ho => by simp at ho) (by decide)
  rw [aw_b0, aw_k0, aw_g0] at h
  exact h.mono fun e w' ⟨A, c, A', c', he, h1, h2, hR, hS, hb⟩ => ⟨A, c, A', c', he, (Kd.R_reads' hR).2.2, (Kd.R_reads' hS).2.2, hb⟩
theorem emp_nil (B : Option Addr) (d : Nat) (B' : Option Addr) (d' : Nat) (w : World) (hC : Kd.C k68 w B 0 []) (hK : Kd.C (Kd.int .u64) w B' 0 []) :
    Calls Try.prog 30 #[.agg #[.slice B 0 d, .slice B' 0 d', .int .u64 0, .int .u64 0, .int .u64 0, .int .u64 0]] w fun e w' => e = .returned (.bool true) ∧ Below w.heap.size w w' :=
  pair_Empty.calls B d [] B' d' [] 0 0 0 0 true w hC (Nat.zero_le _) hK (Nat.zero_le _) rfl
theorem emp_one (B : Option Addr) (d : Nat) (B' : Option Addr) (d' : Nat) (w : World) (h1 : 1 ≤ d) (h2 : 1 ≤ d') (hC : Kd.C k68 w B 1 [⟨278, 1⟩]) (hK : Kd.C (Kd.int .u64) w B' 1 [12638187200555641996]) :
    Calls Try.prog 30 #[.agg #[.slice B 1 d, .slice B' 1 d', .int .u64 1, .int .u64 0, .int .u64 0, .int .u64 0]] w fun e w' => e = .returned (.bool false) ∧ Below w.heap.size w w' :=
  pair_Empty.calls B d [⟨278, 1⟩] B' d' [12638187200555641996] 1 0 0 0 false w hC h1 hK h2 rfl
theorem first75 {w : World} {A : Option Addr} (h : Kd.C k68 w A 1 [⟨278, 1⟩]) : ∃ ad, A = some ad ∧ w.cell? ad = some (.int .i64 278) := by
  obtain ⟨ad, e, hc⟩ := h.2.2 (by decide)
  obtain ⟨cs, hl, hK, hcs⟩ := hc 0 ⟨278, 1⟩ rfl
  refine ⟨ad, e, ?_⟩
  have hk := k68_open hK
  subst hk
  have h0 := hcs 0 _ rfl
  have e0 : ad.add (0 * k68.sz + 0) = ad := by obtain ⟨b, o, p⟩ := ad; cases p <;> simp [Addr.add]
  rwa [e0] at h0
set_option maxHeartbeats 4000000 in
set_option maxRecDepth 100000 in
theorem awake_p (w : World) : Calls Try.prog 25 #[] w fun e w' => e = .returned (.bool true) ∧ Below w.heap.size w w' := by
  go_enter Try.func25, Try.ntmps25
  go_wp2_with (first
    | (go_at_call 26; (with_reducible refine (of_one _).mono ?_); rintro e w1 ⟨A, c, A', c', rfl, h1, h2, hC, hK, hb1⟩; have HC := Lib.hid hC; have HK := Lib.hid hK; have H1 := Lib.hid h1; have H2 := Lib.hid h2; clear hC hK h1 h2)
    | (go_at_call 26; (with_reducible refine (of_nil _).mono ?_); rintro e w2 ⟨B, d, B', d', rfl, hC2, hK2, hb2⟩; have HC2 := Lib.hid hC2; have HK2 := Lib.hid hK2; clear hC2 hK2; have hB2 := (below_alloc (Below.refl w1.heap.size w1) _).trans (hb2.mono (by simp)); have hx2 := (hb2.block w1.heap.size (by simp)).trans (blk_new w1 _); have HB2 := Lib.hid hB2; have HX2 := Lib.hid hx2; clear hb2 hB2 hx2)
    | (go_at_call 30; (with_reducible refine (emp_nil B d B' d' _ HC2.out HK2.out).mono ?_); rintro e w3 ⟨rfl, hb3⟩; have hx3 := (hb3.block w1.heap.size (blk_lt HX2.out)).trans HX2.out; have hB3 := HB2.out.trans (hb3.mono HB2.out.size); have c0 : w3.cell? ⟨w1.heap.size, 0, none⟩ = some (.slice A 1 c) := blk_cell hx3 0; have c1 : w3.cell? ⟨w1.heap.size, 1, none⟩ = some (.slice A' 1 c') := blk_cell hx3 1; have c2 : w3.cell? ⟨w1.heap.size, 2, none⟩ = some (.int .u64 1) := blk_cell hx3 2; have c3 : w3.cell? ⟨w1.heap.size, 3, none⟩ = some (.int .u64 0) := blk_cell hx3 3; have c4 : w3.cell? ⟨w1.heap.size, 4, none⟩ = some (.int .u64 0) := blk_cell hx3 4; have c5 : w3.cell? ⟨w1.heap.size, 5, none⟩ = some (.int .u64 0) := blk_cell hx3 5; have HB3 := Lib.hid hB3; have HX3 := Lib.hid hx3; clear hb3 hB3 hx3 HB2 HX2)
    | (go_at_call 30; (with_reducible refine (emp_one A c A' c' _ H1.out H2.out (Kd.C_below HC.out HB3.out) (Kd.C_below HK.out HB3.out)).mono ?_); rintro e w4 ⟨rfl, hb4⟩; have hx4 := (hb4.block w1.heap.size (blk_lt HX3.out)).trans HX3.out; have hB4 := HB3.out.trans (hb4.mono HB3.out.size); clear c0 c1 c2 c3 c4 c5; have c0 : w4.cell? ⟨w1.heap.size, 0, none⟩ = some (.slice A 1 c) := blk_cell hx4 0; have c1 : w4.cell? ⟨w1.heap.size, 1, none⟩ = some (.slice A' 1 c') := blk_cell hx4 1; have c2 : w4.cell? ⟨w1.heap.size, 2, none⟩ = some (.int .u64 1) := blk_cell hx4 2; have c3 : w4.cell? ⟨w1.heap.size, 3, none⟩ = some (.int .u64 0) := blk_cell hx4 3; have c4 : w4.cell? ⟨w1.heap.size, 4, none⟩ = some (.int .u64 0) := blk_cell hx4 4; have c5 : w4.cell? ⟨w1.heap.size, 5, none⟩ = some (.int .u64 0) := blk_cell hx4 5; obtain ⟨ad, rfl, q0⟩ := first75 (Kd.C_below HC.out hB4); have HB4 := Lib.hid hB4; clear hb4 hB4 hx4 HB3 HX3))
  go_ret
  exact ⟨rfl, hb1.trans (HB4.out.mono hb1.size)⟩
end Go.Proofs.Ytncgjbocgbnkcaa
namespace Go.Proofs.Ytncgjbocgbnkcaa
set_option linter.unusedVariables false
set_option linter.unusedSimpArgs false
open Go.RowKit Go.Maps Go.Proofs.YtncgjbocgbnkcaaW.PrintWords Go.Proofs.YtncgjbocgbnkcaaW.PrintLast Go.Proofs.YtncgjbocgbnkcaaW.PrintMore Go.Proofs.Ytncgjbocgbnkcaa.Pure Go.Proofs.Ytncgjbocgbnkcaa.Q Go.Proofs.Ytncgjbocgbnkcaa.Hi Go.Proofs.Ytncgjbocgbnkcaa.Ga
theorem SK.heap {W W' : World} {A : Option Addr} {c : Nat} {l : List S68} {B : Option Addr} {d : Nat} {h : List Int} (k : SK W A c l B d h) (hh : ∀ i, i < W.heap.size → W'.heap[i]? = W.heap[i]?) : SK W' A c l B d h :=
  ⟨heap51.C hh k.c1, k.l1, (Kd.heap_int .u64).C hh k.c2, k.l2, k.s1, k.s2⟩
def OkResR (s : SV) (w : World) (e : Ending) (w' : World) : Prop :=
  ∃ A c B d, e = .returned (.tuple #[.agg #[.slice A s.h.length c, .slice B s.k.length d, .int .u64 s.g.n, .int .u64 s.g.nans, .int .u64 s.g.lo, .int .u64 s.g.hi], .int .i64 0]) ∧ SK w' A c s.h B d s.k ∧ Kd.R k68 68 w' w.heap.size (fun _ => True) (.slice A s.h.length c) s.h ∧ Kd.R (Kd.int .u64) 41 w' w.heap.size (fun _ => True) (.slice B s.k.length d) s.k ∧ Below w.heap.size w w'
theorem merge_okR {w : World} {A : Option Addr} {c : Nat} {B : Option Addr} {d : Nat} {a : SV} (k : SK w A c a.h B d a.k) {A' : Option Addr} {c' : Nat} {B' : Option Addr} {d' : Nat} {v : SV} (k' : SK w A' c' v.h B' d' v.k) (ha : AllOk [a, v]) {s : SV} (hs : sumV [a, v] = s) :
    Calls Try.prog 45 #[.agg #[.slice A a.h.length c, .slice B a.k.length d, .int .u64 a.g.n, .int .u64 a.g.nans, .int .u64 a.g.lo, .int .u64 a.g.hi], .agg #[.slice A' v.h.length c', .slice B' v.k.length d', .int .u64 v.g.n, .int .u64 v.g.nans, .int .u64 v.g.lo, .int .u64 v.g.hi]] w (OkResR s w) :=
  (merge_any k k' (ha a (by simp)).1 (ha v (by simp)).1).mono fun _ _ h => h.good ha hs
/-- What is told is there whatever becomes of block r. -/
def Rob (w' : World) (r : Nat) (A : Option Addr) (c : Nat) (B : Option Addr) (d : Nat) (s : SV) : Prop := ∀ w'', (∀ i, i ≠ r → w''.heap[i]? = w'.heap[i]?) → SK w'' A c s.h B d s.k
theorem Rob.of_R {w' : World} {r base : Nat} {A : Option Addr} {c : Nat} {B : Option Addr} {d : Nat} {s : SV} (k : SK w' A c s.h B d s.k) (hR : Kd.R k68 68 w' base (fun _ => True) (.slice A s.h.length c) s.h) (hS : Kd.R (Kd.int .u64) 41 w' base (fun _ => True) (.slice B s.k.length d) s.k) (hr : r < base) : Rob w' r A c B d s := fun w'' hw =>
  ⟨(Kd.R_reads' (Kd.R_step (Kd.R_bound hR) (fun i hi _ => hw i (by have := hi.2.1; omega)))).2.2, k.l1, (Kd.R_reads' (Kd.R_step (Kd.R_bound hS) (fun i hi _ => hw i (by have := hi.2.1; omega)))).2.2, k.l2, k.s1, k.s2⟩
theorem Rob.of_alloc {w' : World} {A : Option Addr} {c : Nat} {B : Option Addr} {d : Nat} {s : SV} (k : SK w' A c s.h B d s.k) (o : Obj) : Rob (w'.alloc o) w'.heap.size A c B d s := fun _ hw =>
  k.heap (fun i hi => (hw i (by omega)).trans (Below.heap_alloc w' o i hi))
theorem name_last {P : Program} {md : Region.Mode} {ops : Array Oper} {Q : Exit → Act → World → Prop} {S : World → Prop} {ds : List Nat} {fuel : Nat} {l : Array Bool} {a : Act} {W : World} (h : ∀ W', Hid (W = W') → wpAnyLast P md ops Q S ds fuel l a W') : wpAnyLast P md ops Q S ds fuel l a W := h W (Lib.hid rfl)
theorem fin6 {wX w' : World} {r : Nat} (hb : Below wX.heap.size wX w') (hr : wX.heap.size ≤ r) (hk : w'.heap[r]? = some (.cells szero 45 (0, 0))) (a0 a1 a2 a3 a4 a5 : Value) :
    ((((((w'.setCell ⟨r, 0, none⟩ a0).setCell ⟨r, 1, none⟩ a1).setCell ⟨r, 2, none⟩ a2).setCell ⟨r, 3, none⟩ a3).setCell ⟨r, 4, none⟩ a4).setCell ⟨r, 5, none⟩ a5).heap[r]? = some (.cells #[a0, a1, a2, a3, a4, a5] 45 (0, 0)) ∧
    Below wX.heap.size wX ((((((w'.setCell ⟨r, 0, none⟩ a0).setCell ⟨r, 1, none⟩ a1).setCell ⟨r, 2, none⟩ a2).setCell ⟨r, 3, none⟩ a3).setCell ⟨r, 4, none⟩ a4).setCell ⟨r, 5, none⟩ a5) ∧
    ∀ i, i ≠ r → ((((((w'.setCell ⟨r, 0, none⟩ a0).setCell ⟨r, 1, none⟩ a1).setCell ⟨r, 2, none⟩ a2).setCell ⟨r, 3, none⟩ a3).setCell ⟨r, 4, none⟩ a4).setCell ⟨r, 5, none⟩ a5).heap[i]? = w'.heap[i]? := by
  refine ⟨blk_set (blk_set (blk_set (blk_set (blk_set (blk_set hk 0 _) 1 _) 2 _) 3 _) 4 _) 5 _, below_set (below_set (below_set (below_set (below_set (below_set hb hr) hr) hr) hr) hr) hr, fun i hne => ?_⟩
  rw [Below.heap_setCell _ _ _ i hne, Below.heap_setCell _ _ _ i hne, Below.heap_setCell _ _ _ i hne, Below.heap_setCell _ _ _ i hne, Below.heap_setCell _ _ _ i hne, Below.heap_setCell _ _ _ i hne]
/-- What is known where the orders meet. -/
def Met (Y : World) (s : SV) (σ : Value × Value × Nat × Option Addr × Nat × Option Addr × Nat) (w' : World) : Prop :=
  Below Y.heap.size Y w' ∧ Y.heap.size ≤ σ.2.2.1 ∧ w'.heap[σ.2.2.1]? = some (.cells szero 45 (0, 0)) ∧ Rob w' σ.2.2.1 σ.2.2.2.1 σ.2.2.2.2.1 σ.2.2.2.2.2.1 σ.2.2.2.2.2.2 s
theorem Met.mk {Y : World} {s : SV} {v1 v2 : Value} {r : Nat} {A : Option Addr} {c : Nat} {B : Option Addr} {d : Nat} {w' : World} (h1 : Below Y.heap.size Y w') (h2 : Y.heap.size ≤ r) (h3 : w'.heap[r]? = some (.cells szero 45 (0, 0))) (h4 : Rob w' r A c B d s) : Met Y s (v1, v2, r, A, c, B, d) w' := ⟨h1, h2, h3, h4⟩
theorem Met.out {Y : World} {s : SV} {v1 v2 : Value} {r : Nat} {A : Option Addr} {c : Nat} {B : Option Addr} {d : Nat} {w' : World} (h : Met Y s (v1, v2, r, A, c, B, d) w') : Below Y.heap.size Y w' ∧ Y.heap.size ≤ r ∧ w'.heap[r]? = some (.cells szero 45 (0, 0)) ∧ Rob w' r A c B d s := h
end Go.Proofs.Ytncgjbocgbnkcaa
namespace Go.Proofs.Ytncgjbocgbnkcaa
set_option linter.unusedVariables false
set_option linter.unusedSimpArgs false
open Go.RowKit Go.Maps Go.Proofs.YtncgjbocgbnkcaaW.PrintWords Go.Proofs.YtncgjbocgbnkcaaW.PrintLast Go.Proofs.YtncgjbocgbnkcaaW.PrintMore Go.Proofs.Ytncgjbocgbnkcaa.Pure Go.Proofs.Ytncgjbocgbnkcaa.Q Go.Proofs.Ytncgjbocgbnkcaa.Hi Go.Proofs.Ytncgjbocgbnkcaa.Ga
/-- So it is whatever becomes of block r and of the one ahead of it. -/
def RC (C : World → Prop) (W : World) (r : Nat) : Prop := ∀ W'', (∀ i, i < W.heap.size → i ≠ r → i + 1 ≠ r → W''.heap[i]? = W.heap[i]?) → C W''
theorem RC.now {C : World → Prop} {W : World} {r : Nat} (h : RC C W r) : C W := h W (fun _ _ _ _ => rfl)
theorem RC.below {C : World → Prop} {W W' : World} {r : Nat} (h : RC C W r) (hb : Below W.heap.size W W') : RC C W' r := fun W'' hw => h W'' (fun i hi hr hr2 => (hw i (by have := hb.size; omega) hr hr2).trans (hb.block i hi))
theorem RC.set {C : World → Prop} {W : World} {r j : Nat} (h : RC C W r) (v : Value) : RC C (W.setCell ⟨r, j, none⟩ v) r := fun W'' hw =>
  h W'' (fun i hi hr hr2 => (hw i (by have : (W.setCell ⟨r, j, none⟩ v).heap.size = W.heap.size := by simp
                                      omega) hr hr2).trans (Below.heap_setCell _ _ _ i hr))
theorem RC.of_R {α : Type} {kd : Kd α} {e : Nat} {W : World} {base r : Nat} {v : Value} {xs : List α} (hR : kd.R e W base (fun _ => True) v xs) (hr : r < base) : RC (fun w => ∃ A c, v = .slice A xs.length c ∧ kd.C w A xs.length xs) W r := fun W'' hw => by
  have h := Kd.R_step (w1 := W'') (Kd.R_bound hR) (fun i hi hlt => hw i hlt (by have := hi.2.1; omega) (by have := hi.2.1; omega))
  obtain ⟨A, c, e, _, hC⟩ := Kd.R_reads h
  exact ⟨A, c, e, hC⟩
theorem RC.slice {α : Type} {kd : Kd α} {W : World} {r : Nat} {A : Option Addr} {c : Nat} {xs : List α} (h : RC (fun w => ∃ A' c', Value.slice A xs.length c = .slice A' xs.length c' ∧ kd.C w A' xs.length xs) W r) : RC (fun w => kd.C w A xs.length xs) W r := fun W'' hw => by
  obtain ⟨A', c', e, hC⟩ := h W'' hw
  injection e with e1 _ _
  subst e1
  exact hC
structure RS (w0 W : World) (A : Option Addr) (c : Nat) (h : List S68) (B : Option Addr) (d : Nat) (k : List Int) (G : G4) : Prop where
  bel : Below w0.heap.size w0 W
  bx : W.heap[w0.heap.size + 1]? = some (.cells #[.slice A h.length c, .slice B k.length d, .int .u64 G.n, .int .u64 G.nans, .int .u64 G.lo, .int .u64 G.hi] 45 (0, 0))
  rx : W.heap[w0.heap.size]? = some (.cells szero 45 (0, 0))
  r1 : RC (fun w => Kd.C k68 w A h.length h) W (w0.heap.size + 1)
  l1 : h.length ≤ c
  r2 : RC (fun w => Kd.C (Kd.int .u64) w B k.length k) W (w0.heap.size + 1)
  l2 : k.length ≤ d
theorem RS.below {w0 W W' : World} {A : Option Addr} {c : Nat} {h : List S68} {B : Option Addr} {d : Nat} {k : List Int} {G : G4} (s : RS w0 W A c h B d k G) (hb : Below W.heap.size W W') : RS w0 W' A c h B d k G :=
  ⟨s.bel.trans (hb.mono s.bel.size), (hb.block _ (blk_lt s.bx)).trans s.bx, (hb.block _ (blk_lt s.rx)).trans s.rx, s.r1.below hb, s.l1, s.r2.below hb, s.l2⟩
theorem elem {w0 W : World} {a : Addr} {v : Value} (hb : Below w0.heap.size w0 W) (h : w0.cell? a = some v) : W.cell? a = some v := (hb.cell (World.block_lt_of_cell? w0 _ h)).trans h
theorem RS.start (w : World) : RS w ((w.alloc (.cells szero 45)).alloc (.cells szero 45)) none 0 [] none 0 [] gzero := by
  have s1 : (w.alloc (.cells szero 45)).heap.size = w.heap.size + 1 := by simp
  refine ⟨below_alloc (below_alloc (Below.refl _ _) _) _, by rw [← s1]; exact blk_new _ _, blk_alloc (blk_new _ _) _, fun _ _ => ⟨rfl, by decide, fun h => absurd h (by decide)⟩, Nat.le_refl _, fun _ _ => ⟨rfl, by decide, fun h => absurd h (by decide)⟩, Nat.le_refl _⟩
end Go.Proofs.Ytncgjbocgbnkcaa
namespace Go.Proofs.Ytncgjbocgbnkcaa
set_option linter.unusedVariables false
set_option linter.unusedSimpArgs false
open Go.RowKit Go.Maps Go.ChangeShapes Go.WideShapes Go.Deep Go.Proofs.YtncgjbocgbnkcaaW.PrintWords Go.Proofs.YtncgjbocgbnkcaaW.PrintLast Go.Proofs.YtncgjbocgbnkcaaW.PrintMore Go.Proofs.Ytncgjbocgbnkcaa.Pure Go.Proofs.Ytncgjbocgbnkcaa.Q Go.Proofs.Ytncgjbocgbnkcaa.Hi Go.Proofs.Ytncgjbocgbnkcaa.Ga
def Pure.WO (l : List S90) : Prop := l.length * 32 ≤ 140737488351232 ∧ l.length ≤ 9223372036854775807 ∧ ∀ o ∈ l, (Lit.int .u64 o.f0).wf = true ∧ o.f1.size ≤ 140737488351232 ∧ (Lit.int .u64 o.f2).wf = true
theorem opens90 : Opens Try.prog 90 k90 (fun o => (Lit.int .u64 o.f0).wf = true ∧ o.f1.size ≤ 140737488351232 ∧ (Lit.int .u64 o.f2).wf = true) :=
  opens_iso (fun x : S90 => (x.f0, x.f1, x.f2)) (fun x => ⟨x.1, x.2.1, x.2.2⟩) (fun _ => rfl) (opens_struct Try.underlying90 (by kernel_rfl) (opensFields_cons rfl (by kernel_rfl) (opens_int Try.underlying41) (opensFields_cons rfl (by kernel_rfl) (opens_string Try.underlying9) (opensFields_one rfl (by kernel_rfl) (opens_int Try.underlying41)))))
theorem opens39 : Opens Try.prog 39 (Kd.slice 90 k90) Pure.WO := opens_slice Try.underlying39 (by kernel_rfl) (by kernel_rfl) opens90
theorem Pure.WO.ow {l : List S90} (h : Pure.WO l) : OW l := fun o ho => by
  obtain ⟨h1, h2, h3⟩ := h.2.2 o ho
  have hM : maxLen = 9223372036854775807 := rfl
  exact ⟨U.of_wf h1, by omega, U.of_wf h3⟩
theorem info90_ : (Try.prog.info? 90).map (fun i => (i.zero, i.size, i.bytes)) = some (some (.agg #[(.int .u64 0), .string ByteArray.empty, (.int .u64 0)]), 3, 32) := by kernel_rfl
theorem OW.take {l : List S90} (h : OW l) (n : Nat) : OW (l.take n) := fun o ho => h o (List.mem_of_mem_take ho)
theorem OW.drop {l : List S90} (h : OW l) (n : Nat) : OW (l.drop n) := fun o ho => h o (List.mem_of_mem_drop ho)
/-- Observations as they lie. -/
abbrev OC (W : World) (A : Option Addr) (l : List S90) : Prop := Kd.C k90 W A l.length l
theorem OC.below {W W' : World} {A : Option Addr} {l : List S90} (k : OC W A l) {n : Nat} (hb : Below n W W') (hn : W.heap.size ≤ n) : OC W' A l := Kd.C_below k (hb.mono hn)
theorem OC.alloc {W : World} {A : Option Addr} {l : List S90} (k : OC W A l) (o : Obj) : OC (W.alloc o) A l := Kd.C_below k (below_alloc (Below.refl _ _) o)
theorem below_grown_nil {W W' : World} (hg : W.grownBy W' (Value.slice none 0 0).ownBlock) : Below W.heap.size W W' := ⟨hg.os, hg.tape, hg.output, hg.size, fun k hk => hg.block k hk (by simp [Value.ownBlock])⟩
theorem cut_h {A : Option Addr} {c : Nat} {l : List S90} {k : Nat} (hk : k ≤ l.length) (hc : l.length ≤ c) (W : World) : (Instr.slice 39 (.slice A l.length c) none (some (.int .i64 (k : Int))) none).run Try.prog W = .ok (.slice A (l.take k).length c) W := by
  obtain ⟨i, hi, hzz⟩ := Option.map_eq_some_iff.1 info90_
  simp only [Prod.mk.injEq] at hzz
  have hel : Try.prog.elem 39 = 90 := by simp [Program.elem, Try.underlying39]
  have hu : Try.prog.underlying 39 = some (.slice (Try.prog.elem 39)) := by rw [hel]; exact Try.underlying39
  have ha : (A.map fun x => x.add 0) = A := by cases A <;> simp [Addr.add]
  rw [run_slice_h W 39 A l.length c hu .i64 (k : Int) (by omega) (by omega), hel, show (l.take k).length = k by rw [List.length_take]; omega]
  simp [sizeOf, typeInfo, hi, hzz.2.1, sliced, Result.andThen, ha]
theorem cut_l {A : Option Addr} {c : Nat} {l : List S90} {k : Nat} (hk : k ≤ l.length) (hc : l.length ≤ c) : ∃ A', (∀ W, (Instr.slice 39 (.slice A l.length c) (some (.int .i64 (k : Int))) none none).run Try.prog W = .ok (.slice A' (l.drop k).length (c - k)) W) ∧ ∀ W, OC W A l → OC W A' (l.drop k) := by
  refine ⟨if c = k then A else A.map (·.add (k * 3)), fun W => ?_, fun W h => Kd.C_drop h hk hc⟩
  obtain ⟨i, hi, hzz⟩ := Option.map_eq_some_iff.1 info90_
  simp only [Prod.mk.injEq] at hzz
  have hel : Try.prog.elem 39 = 90 := by simp [Program.elem, Try.underlying39]
  have hu : Try.prog.underlying 39 = some (.slice (Try.prog.elem 39)) := by rw [hel]; exact Try.underlying39
  rw [run_slice_l W 39 A l.length c hu .i64 (k : Int) (by omega) (by omega), hel, List.length_drop]
  simp [sizeOf, typeInfo, hi, hzz.2.1, sliced, Result.andThen]
theorem place_p (n m : Int) (h0 : 0 < m) (hm : m ≤ 1000000000) : ∃ k : Nat, varvelaw00_Place.f n m = some (k : Int) ∧ (k : Int) < m := by
  have e := Int.mul_tdiv_add_tmod n m
  have l1 := Int.tmod_lt_of_pos n h0
  have l2 : -m < Int.tmod n m := Int.lt_tmod_of_pos n (by omega)
  unfold varvelaw00_Place.f
  rw [if_neg (by omega)]
  by_cases c : Int.tmod n m < 0
  · rw [if_pos c]
    refine ⟨(Int.tmod n m + m).toNat, ?_, by omega⟩
    rw [show wrap64 (Int.tmod n m + m) = Int.tmod n m + m from by unfold wrap64; omega]
    congr 1; omega
  · rw [if_neg c]
    exact ⟨(Int.tmod n m).toNat, by congr 1; omega, by omega⟩
theorem sum2_okA {W : World} {A : Option Addr} {c : Nat} {B : Option Addr} {d : Nat} {a : SV} (k : SK W A c a.h B d a.k) {A' : Option Addr} {c' : Nat} {B' : Option Addr} {d' : Nat} {v : SV} (k' : SK W A' c' v.h B' d' v.k) {r : Nat} (hr : W.heap.size = r) (ha : AllOk [a, v]) {s : SV} (hs : sumV [a, v] = s) :
    Calls Try.prog 44 #[.slice (some ⟨r, 0, none⟩) 2 2] (W.alloc (.cells #[.slice A a.h.length c, .slice B a.k.length d, .int .u64 a.g.n, .int .u64 a.g.nans, .int .u64 a.g.lo, .int .u64 a.g.hi, .slice A' v.h.length c', .slice B' v.k.length d', .int .u64 v.g.n, .int .u64 v.g.nans, .int .u64 v.g.lo, .int .u64 v.g.hi] 45)) (OkRes s W) := by
  subst hr
  exact sum2_ok k k' ha hs
def OneRes (s : SV) (w : World) (e : Ending) (w' : World) : Prop :=
  ∃ A c B d, e = .returned (.agg #[.slice A s.h.length c, .slice B s.k.length d, .int .u64 s.g.n, .int .u64 s.g.nans, .int .u64 s.g.lo, .int .u64 s.g.hi]) ∧ SK w' A c s.h B d s.k ∧ Below w.heap.size w w'
theorem ofV_any {A0 : Option Addr} {c0 : Nat} {l : List S90} {w : World} (C0 : Kd.C k90 w A0 l.length l) (hO : OW l) (hl : l.length ≤ 1000) {s : SV} (hs : ofV l = s) :
    Calls Try.prog 26 #[.slice A0 l.length c0] w (OneRes s w) := by
  subst hs
  refine (of_any A0 c0 l w C0 hO hl).mono fun e w' h => ?_
  obtain ⟨A, c, B, d, he, h1, h2, hR, hS, hb⟩ := h
  have hw := (ofV_wf hO hl).1
  exact ⟨A, c, B, d, he, ⟨(Kd.R_reads' hR).2.2, h1, (Kd.R_reads' hS).2.2, h2, WB.len hw.1, by have := hw.2.1.1; omega⟩, hb⟩
end Go.Proofs.Ytncgjbocgbnkcaa
