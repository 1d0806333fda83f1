/- What the laws of this folder share, part 4: walks of functions over their Go text, and plain lemmas. Conditions: as each lemma says. -/
import Derived.Deep.RegionHeld3
import Derived.Outline
import Derived.Test.YtncgjbocgbnkcaaPbM3
namespace Go.Proofs.Ytncgjbocgbnkcaa
set_option linter.unusedVariables false
set_option linter.unusedSimpArgs false
open Go.RowKit Go.Maps Go.Proofs.YtncgjbocgbnkcaaW.PrintWords Go.Proofs.YtncgjbocgbnkcaaW.PrintLast Go.Proofs.YtncgjbocgbnkcaaW.PrintMore Go.Proofs.Ytncgjbocgbnkcaa.Pure Go.Proofs.Ytncgjbocgbnkcaa.Q Go.Proofs.Ytncgjbocgbnkcaa.Hi Go.Proofs.Ytncgjbocgbnkcaa.Ga
/-- A row of one or two sketches that was just made. -/
theorem C_V {W : World} {b n : Nat} {l : List SV} {cs : Array Value} {T : TypeId} (hb : W.heap[b]? = some (.cells cs T (0, 0))) (hl : l.length = n) (hn : n ≤ 1000)
    (h : ∀ j v, l[j]? = some v → ∃ c6 : List Value, kV.K W v c6 ∧ ∀ i u, c6[i]? = some u → cs[j * 6 + i]? = some u) : Kd.C kV W (some ⟨b, 0, none⟩) n l := by
  refine ⟨hl, by omega, fun _ => ⟨_, rfl, fun j p hp => ?_⟩⟩
  obtain ⟨c6, hK, hc⟩ := h j p hp
  refine ⟨c6, kV.K_len hK, hK, fun i u hu => ?_⟩
  have e : (⟨b, 0, none⟩ : Addr).add (j * kV.sz + i) = ⟨b, j * 6 + i, none⟩ := by
    have hs : kV.sz = 6 := rfl
    rw [hs]
    simp [Addr.add]
    omega
  rw [e, blk_cell hb (j * 6 + i)]
  exact hc i u hu
theorem name_calls {P : Program} {f : FuncId} {xs : Array Value} {W : World} {Q : Ending → World → Prop} (h : ∀ WW, Hid (W = WW) → Calls P f xs WW Q) : Calls P f xs W Q := h W (Lib.hid rfl)
theorem four_ (w : World) (o1 o2 o3 o4 : Obj) : ((((w.alloc o1).alloc o2).alloc o3).alloc o4).heap[w.heap.size + 1 + 1]? = some o3 ∧ ((((w.alloc o1).alloc o2).alloc o3).alloc o4).heap[w.heap.size + 1 + 1 + 1]? = some o4 ∧ Below w.heap.size w ((((w.alloc o1).alloc o2).alloc o3).alloc o4) := by
  have s2 : ((w.alloc o1).alloc o2).heap.size = w.heap.size + 1 + 1 := by simp
  have s3 : (((w.alloc o1).alloc o2).alloc o3).heap.size = w.heap.size + 1 + 1 + 1 := by simp
  exact ⟨blk_alloc (by rw [← s2]; exact blk_new _ _) _, by rw [← s3]; exact blk_new _ _, below_alloc (below_alloc (below_alloc (below_alloc (Below.refl _ _) _) _) _) _⟩
theorem SumPost.tells {l : List SV} {w : World} {e : Ending} {w' : World} (h : SumPost l w e w') : ∃ A n c B m d n1 n2 n3 n4 er, e = .returned (.tuple #[.agg #[.slice A n c, .slice B m d, .int .u64 n1, .int .u64 n2, .int .u64 n3, .int .u64 n4], .int .i64 er]) := by
  by_cases ha : AllOk l
  · obtain ⟨A, c, B, d, he, _⟩ := h.1 ha
    exact ⟨_, _, _, _, _, _, _, _, _, _, _, he⟩
  · exact ⟨_, _, _, _, _, _, _, _, _, _, _, h.2.1 ha⟩
theorem SumPost.lift {l : List SV} {w W : World} {e : Ending} {w1 w' : World} (h : SumPost l W e w1) (hb : w.heap.size ≤ W.heap.size) (hm : ∀ i, W.heap.size ≤ i → i < w1.heap.size → w'.heap[i]? = w1.heap[i]?) (hB : Below w.heap.size w w') : SumPost l w e w' := by
  refine ⟨fun ha => ?_, h.2.1, hB⟩
  obtain ⟨A, c, B, d, he, h1, h2, hR, hS⟩ := h.1 ha
  have R1 := Kd.R_step (Kd.R_bound hR) (fun q hq hlt => hm q hq.2.1 hlt)
  have R2 := Kd.R_step (Kd.R_bound hS) (fun q hq hlt => hm q hq.2.1 hlt)
  exact ⟨A, c, B, d, he, h1, h2, Kd.R_lower (Kd.R_mono R1 (fun _ _ => trivial)) hb, Kd.R_lower (Kd.R_mono R2 (fun _ _ => trivial)) hb⟩
set_option maxHeartbeats 4000000 in
set_option maxRecDepth 100000 in
theorem merge_any {w : World} {A : Option Addr} {c : Nat} {B : Option Addr} {d : Nat} {a : SV} (k : SK w A c a.h B d a.k) {A' : Option Addr} {c' : Nat} {B' : Option Addr} {d' : Nat} {v : SV} (k' : SK w A' c' v.h B' d' v.k) (ha : a.wf) (hv : v.wf) :
    Calls Try.prog 45 #[.agg #[.slice A a.h.length c, .slice B a.k.length d, .int .u64 a.g.n, .int .u64 a.g.nans, .int .u64 a.g.lo, .int .u64 a.g.hi], .agg #[.slice A' v.h.length c', .slice B' v.k.length d', .int .u64 v.g.n, .int .u64 v.g.nans, .int .u64 v.g.lo, .int .u64 v.g.hi]] w (SumPost [a, v] w) := by
  have K := Lib.hid k; have K' := Lib.hid k'; have HA := Lib.hid ha; have HV := Lib.hid hv
  clear k k' ha hv
  have hu62 := Try.underlying45
  go_enter Try.func45, Try.ntmps45
  go_wp2_with fail
  refine name_calls (fun WW HW => ?_)
  have F := four_ w (.cells #[.slice A a.h.length c, .slice B a.k.length d, .int .u64 a.g.n, .int .u64 a.g.nans, .int .u64 a.g.lo, .int .u64 a.g.hi] 45) (.cells #[.slice A' v.h.length c', .slice B' v.k.length d', .int .u64 v.g.n, .int .u64 v.g.nans, .int .u64 v.g.lo, .int .u64 v.g.hi] 45) (.cells #[.slice none 0 0, .slice none 0 0, .int .u64 0, .int .u64 0, .int .u64 0, .int .u64 0] 45)
    (.cells #[.slice A a.h.length c, .slice B a.k.length d, .int .u64 a.g.n, .int .u64 a.g.nans, .int .u64 a.g.lo, .int .u64 a.g.hi, .slice A' v.h.length c', .slice B' v.k.length d', .int .u64 v.g.n, .int .u64 v.g.nans, .int .u64 v.g.lo, .int .u64 v.g.hi] 45)
  rw [HW.out] at F
  obtain ⟨bR, bA, bL⟩ := F
  have KA := K.out.below bL (Nat.le_refl _)
  have KB := K'.out.below bL (Nat.le_refl _)
  have hC : Kd.C kV WW (some ⟨w.heap.size + 1 + 1 + 1, 0, none⟩) 2 [a, v] := C_V bA rfl (by decide) (fun j u hu => by
    match j, hu with
    | 0, hu => obtain rfl : a = u := by simpa using hu
               exact ⟨_, kV_mk KA.l1 KA.l2 KA.c1 KA.c2, fun i x hx => by
                 match i, hx with
                 | 0, hx | 1, hx | 2, hx | 3, hx | 4, hx | 5, hx => simpa using hx
                 | n + 6, hx => simp at hx⟩
    | 1, hu => obtain rfl : v = u := by simpa using hu
               exact ⟨_, kV_mk KB.l1 KB.l2 KB.c1 KB.c2, fun i x hx => by
                 match i, hx with
                 | 0, hx | 1, hx | 2, hx | 3, hx | 4, hx | 5, hx => simpa using hx
                 | n + 6, hx => simp at hx⟩
    | n + 2, hu => simp at hu)
  refine (sum_any (some ⟨w.heap.size + 1 + 1 + 1, 0, none⟩) 2 [a, v] WW hC (fun u hu => by
    simp at hu
    rcases hu with rfl | rfl
    · exact HA.out
    · exact HV.out)).mono ?_
  intro e w1 hp
  obtain ⟨A1, n, c1, B1, m, d1, n1, n2, n3, n4, er, rfl⟩ := hp.tells
  have hb1 := hp.2.2
  have bR1 := (hb1.block _ (blk_lt bR)).trans bR
  have r0 : w1.cell? ⟨w.heap.size + 1 + 1, 0, none⟩ = some (.slice none 0 0) := blk_cell bR1 0; have r1 : w1.cell? ⟨w.heap.size + 1 + 1, 1, none⟩ = some (.slice none 0 0) := blk_cell bR1 1; have r2 : w1.cell? ⟨w.heap.size + 1 + 1, 2, none⟩ = some (.int .u64 0) := blk_cell bR1 2; have r3 : w1.cell? ⟨w.heap.size + 1 + 1, 3, none⟩ = some (.int .u64 0) := blk_cell bR1 3; have r4 : w1.cell? ⟨w.heap.size + 1 + 1, 4, none⟩ = some (.int .u64 0) := blk_cell bR1 4; have r5 : w1.cell? ⟨w.heap.size + 1 + 1, 5, none⟩ = some (.int .u64 0) := blk_cell bR1 5
  have t0 := blk_frozen bR1 0; have t1 := blk_frozen bR1 1; have t2 := blk_frozen bR1 2; have t3 := blk_frozen bR1 3; have t4 := blk_frozen bR1 4; have t5 := blk_frozen bR1 5
  have HR := Lib.hid bR1; have HP := Lib.hid hp; have HBL := Lib.hid (bL.trans (hb1.mono bL.size))
  have HZ := Lib.hid (show w.heap.size + 1 + 1 < WW.heap.size from blk_lt bR)
  clear bR bA bL KA KB hC hp hb1 bR1
  go_wp2
  have hx : w.heap.size ≤ w.heap.size + 1 + 1 := by omega
  refine bodyPost_ret (results_ct rfl _ _ (w.heap.size + 1 + 1) 45 #[.slice A1 n c1, .slice B1 m d1, .int .u64 n1, .int .u64 n2, .int .u64 n3, .int .u64 n4] (0, 0) _ rfl (blk_set (blk_set (blk_set (blk_set (blk_set (blk_set HR.out 0 _) 1 _) 2 _) 3 _) 4 _) 5 _) Try.underlying45 rfl (by kernel_rfl)) rfl ?_
  refine HP.out.lift (by have := HZ.out; omega) (fun i h1 h2 => ?_) (below_set (below_set (below_set (below_set (below_set (below_set HBL.out hx) hx) hx) hx) hx) hx)
  have hne : i ≠ w.heap.size + 1 + 1 := by have := HZ.out; omega
  rw [Below.heap_setCell _ _ _ i hne, Below.heap_setCell _ _ _ i hne, Below.heap_setCell _ _ _ i hne, Below.heap_setCell _ _ _ i hne, Below.heap_setCell _ _ _ i hne, Below.heap_setCell _ _ _ i hne]
end Go.Proofs.Ytncgjbocgbnkcaa
namespace Go.Proofs.Ytncgjbocgbnkcaa
set_option linter.unusedVariables false
set_option linter.unusedSimpArgs false
open Go.RowKit Go.Maps Go.Proofs.YtncgjbocgbnkcaaW.PrintWords Go.Proofs.YtncgjbocgbnkcaaW.PrintLast Go.Proofs.YtncgjbocgbnkcaaW.PrintMore Go.Proofs.Ytncgjbocgbnkcaa.Pure Go.Proofs.Ytncgjbocgbnkcaa.Q Go.Proofs.Ytncgjbocgbnkcaa.Hi Go.Proofs.Ytncgjbocgbnkcaa.Ga
theorem AllOk.two {a b : SV} (ha : a.wf) (oa : a.ok = true) (hb : b.wf) (ob : b.ok = true) : AllOk [a, b] := fun v hv => by
  simp at hv
  rcases hv with rfl | rfl
  · exact ⟨ha, oa⟩
  · exact ⟨hb, ob⟩
theorem AllOk.one {a : SV} (ha : a.wf) (oa : a.ok = true) : AllOk [a] := fun v hv => by
  simp at hv
  subst hv
  exact ⟨ha, oa⟩
/-- The histogram of a sketch. -/
def hV (v : SV) : List Int := merged (hzero 7424) v.h
theorem hV_good {v : SV} (hw : v.wf) (ho : v.ok = true) : hgood (hV v) = true := merged_good_of (Bok.of hw.1 ((SV.ok_iff v).1 ho).1) hzero_good
theorem hV_bks {v : SV} (hw : v.wf) (ho : v.ok = true) : bks (hV v) = v.h := bks_merged (Bok.of hw.1 ((SV.ok_iff v).1 ho).1) ((SV.ok_iff v).1 ho).1
theorem sum_two {a b : SV} (ha : a.wf) (oa : a.ok = true) (hb : b.wf) (ob : b.ok = true) : sumV [a, b] = ⟨bks (hplus (hV a) (hV b)), kmany a.k b.k, gmerge a.g b.g⟩ := by
  show (⟨bks (merged (merged (hzero 7424) a.h) b.h), kmany (kmany [] a.k) b.k, gmerge (gmerge gzero a.g) b.g⟩ : SV) = _
  rw [kmany_nil ((SV.ok_iff a).1 oa).2.1.1 ((SV.ok_iff a).1 oa).2.1.2, gmerge_zero_left ha.2.2, merged_plus (Bok.of hb.1 ((SV.ok_iff b).1 ob).1) (show hgood (merged (hzero 7424) a.h) = true from hV_good ha oa)]
  rfl
theorem hV_zero : hV zV = hzero 7424 := rfl
theorem sum_zero_right {a : SV} (ha : a.wf) (oa : a.ok = true) : sumV [a, zV] = a := by
  rw [sum_two ha oa zV_wf zV_ok, hV_zero, hplus_zero (hV_good ha oa), hV_bks ha oa, show zV.g = gzero from rfl, gmerge_zero_right ha.2.2 ((SV.ok_iff a).1 oa).2.2]
  rfl
def ofV (l : List S90) : SV := ⟨bks (ofH l), ofK l, ofG l⟩
theorem ofV_wf {l : List S90} (h : OW l) (hl : l.length ≤ 1000) : (ofV l).wf ∧ (ofV l).ok = true :=
  ⟨⟨bks_WB (ofH_good h hl), WU_good (ofK_good l h), ofG_wf h⟩, of_okS h hl⟩
end Go.Proofs.Ytncgjbocgbnkcaa
namespace Go.Proofs.Ytncgjbocgbnkcaa
set_option linter.unusedVariables false
set_option linter.unusedSimpArgs false
open Go.RowKit Go.Maps Go.Proofs.YtncgjbocgbnkcaaW.PrintWords Go.Proofs.YtncgjbocgbnkcaaW.PrintLast Go.Proofs.YtncgjbocgbnkcaaW.PrintMore Go.Proofs.Ytncgjbocgbnkcaa.Pure Go.Proofs.Ytncgjbocgbnkcaa.Q Go.Proofs.Ytncgjbocgbnkcaa.Hi Go.Proofs.Ytncgjbocgbnkcaa.Ga
theorem SK.alloc {W : World} {A : Option Addr} {c : Nat} {l : List S68} {B : Option Addr} {d : Nat} {h : List Int} (k : SK W A c l B d h) (o : Obj) : SK (W.alloc o) A c l B d h := k.below (below_alloc (Below.refl _ _) o) (Nat.le_refl _)
theorem SK.zero (W : World) : SK W none 0 zV.h none 0 zV.k := ⟨⟨rfl, by decide, fun h => absurd h (by decide)⟩, Nat.le_refl _, ⟨rfl, by decide, fun h => absurd h (by decide)⟩, Nat.le_refl _, by decide, by decide⟩
/-- A block's six cells. -/
theorem box6 {W : World} {x : Nat} {a0 a1 a2 a3 a4 a5 : Value} {T : TypeId} (h : W.heap[x]? = some (.cells #[a0, a1, a2, a3, a4, a5] T (0, 0))) :
    W.cell? ⟨x, 0, none⟩ = some a0 ∧ W.cell? ⟨x, 1, none⟩ = some a1 ∧ W.cell? ⟨x, 2, none⟩ = some a2 ∧ W.cell? ⟨x, 3, none⟩ = some a3 ∧ W.cell? ⟨x, 4, none⟩ = some a4 ∧ W.cell? ⟨x, 5, none⟩ = some a5 :=
  ⟨blk_cell h 0, blk_cell h 1, blk_cell h 2, blk_cell h 3, blk_cell h 4, blk_cell h 5⟩
theorem below_of_alloc {W w' : World} {o : Obj} (hb : Below (W.alloc o).heap.size (W.alloc o) w') : Below W.heap.size W w' := (below_alloc (Below.refl _ _) o).trans (hb.mono (by simp))
theorem SumPost.good {l : List SV} {w : World} {e : Ending} {w' : World} (h : SumPost l w e w') (ha : AllOk l) {s : SV} (hs : sumV l = s) :
    ∃ A c B d, e = .returned (.tuple #[.agg #[.slice A s.h.length c, .slice B s.k.length d, .int .u64 s.g.n, .int .u64 s.g.nans, .int .u64 s.g.lo, .int .u64 s.g.hi], .int .i64 0]) ∧ SK w' A c s.h B d s.k ∧ Kd.R k68 68 w' w.heap.size (fun _ => True) (.slice A s.h.length c) s.h ∧ Kd.R (Kd.int .u64) 41 w' w.heap.size (fun _ => True) (.slice B s.k.length d) s.k ∧ Below w.heap.size w w' := by
  subst hs
  obtain ⟨A, c, B, d, he, h1, h2, hR, hS⟩ := h.1 ha
  have hw := (sumV_ok ha).1
  exact ⟨A, c, B, d, he, ⟨(Kd.R_reads' hR).2.2, h1, (Kd.R_reads' hS).2.2, h2, WB.len hw.1, by have := hw.2.1.1; omega⟩, hR, hS, h.2.2⟩
/-- Sum of one, out of a row that was just made. -/
theorem sum_one {W : World} {A : Option Addr} {c : Nat} {B : Option Addr} {d : Nat} {a : SV} (k : SK W A c a.h B d a.k) (ha : a.wf) :
    Calls Try.prog 44 #[.slice (some ⟨W.heap.size, 0, none⟩) 1 1] (W.alloc (.cells #[.slice A a.h.length c, .slice B a.k.length d, .int .u64 a.g.n, .int .u64 a.g.nans, .int .u64 a.g.lo, .int .u64 a.g.hi] 45)) (SumPost [a] W) := by
  have k1 := k.alloc (.cells #[.slice A a.h.length c, .slice B a.k.length d, .int .u64 a.g.n, .int .u64 a.g.nans, .int .u64 a.g.lo, .int .u64 a.g.hi] 45)
  have hC : Kd.C kV _ (some ⟨W.heap.size, 0, none⟩) 1 [a] := C_V (blk_new W (.cells #[.slice A a.h.length c, .slice B a.k.length d, .int .u64 a.g.n, .int .u64 a.g.nans, .int .u64 a.g.lo, .int .u64 a.g.hi] 45)) rfl (by decide) (fun j u hu => by
    match j, hu with
    | 0, hu => obtain rfl : a = u := by simpa using hu
               exact ⟨_, kV_mk k1.l1 k1.l2 k1.c1 k1.c2, fun i x hx => by
                 match i, hx with
                 | 0, hx | 1, hx | 2, hx | 3, hx | 4, hx | 5, hx => simpa using hx
                 | n + 6, hx => simp at hx⟩
    | n + 1, hu => simp at hu)
  refine (sum_any _ 1 [a] _ hC (fun u hu => by simp at hu; subst hu; exact ha)).mono fun e w' h => ?_
  exact h.lift (by simp) (fun _ _ _ => rfl) (below_of_alloc h.2.2)
theorem rcheckV {W : World} {A : Option Addr} {c : Nat} {B : Option Addr} {d : Nat} {v : SV} (k : SK W A c v.h B d v.k) (hw : v.wf) {r : Bool} (hr : v.ok = r) :
    Calls Try.prog 40 #[.agg #[.slice A v.h.length c, .slice B v.k.length d, .int .u64 v.g.n, .int .u64 v.g.nans, .int .u64 v.g.lo, .int .u64 v.g.hi]] W fun e w' => e = .returned (.bool r) ∧ Below W.heap.size W w' := by
  subst hr; exact sk_rcheck k v.g hw.2.2
theorem checkV {W : World} {A : Option Addr} {c : Nat} {B : Option Addr} {d : Nat} {v : SV} (k : SK W A c v.h B d v.k) (hw : v.wf) {r : Bool} (hr : v.ok = r) :
    Calls Try.prog 29 #[.agg #[.slice A v.h.length c, .slice B v.k.length d, .int .u64 v.g.n, .int .u64 v.g.nans, .int .u64 v.g.lo, .int .u64 v.g.hi]] W fun e w' => e = .returned (.bool r) ∧ Below W.heap.size W w' := by
  subst hr; exact sk_check k v.g hw.2.2
theorem copyV {W : World} {A : Option Addr} {c : Nat} {B : Option Addr} {d : Nat} {v : SV} (k : SK W A c v.h B d v.k) :
    Calls Try.prog 39 #[.agg #[.slice A v.h.length c, .slice B v.k.length d, .int .u64 v.g.n, .int .u64 v.g.nans, .int .u64 v.g.lo, .int .u64 v.g.hi]] W fun e w' =>
      ∃ A' c' B' d', e = .returned (.agg #[.slice A' v.h.length c', .slice B' v.k.length d', .int .u64 v.g.n, .int .u64 v.g.nans, .int .u64 v.g.lo, .int .u64 v.g.hi]) ∧ SK w' A' c' v.h B' d' v.k ∧ Below W.heap.size W w' := sk_copy k v.g.n v.g.nans v.g.lo v.g.hi
theorem rsameV {W : World} {A : Option Addr} {c : Nat} {B : Option Addr} {d : Nat} {v : SV} (k : SK W A c v.h B d v.k) {A' : Option Addr} {c' : Nat} {B' : Option Addr} {d' : Nat} (k' : SK W A' c' v.h B' d' v.k) :
    Calls Try.prog 27 #[.agg #[.slice A v.h.length c, .slice B v.k.length d, .int .u64 v.g.n, .int .u64 v.g.nans, .int .u64 v.g.lo, .int .u64 v.g.hi], .agg #[.slice A' v.h.length c', .slice B' v.k.length d', .int .u64 v.g.n, .int .u64 v.g.nans, .int .u64 v.g.lo, .int .u64 v.g.hi]] W fun e w' => e = .returned (.bool true) ∧ Below W.heap.size W w' := by
  have h := sk_rsame k v.g k' v.g
  rwa [sameS_self] at h
end Go.Proofs.Ytncgjbocgbnkcaa
namespace Go.Proofs.Ytncgjbocgbnkcaa
set_option linter.unusedVariables false
set_option linter.unusedSimpArgs false
open Go.RowKit Go.Maps Go.Proofs.YtncgjbocgbnkcaaW.PrintWords Go.Proofs.YtncgjbocgbnkcaaW.PrintLast Go.Proofs.YtncgjbocgbnkcaaW.PrintMore Go.Proofs.Ytncgjbocgbnkcaa.Pure Go.Proofs.Ytncgjbocgbnkcaa.Q Go.Proofs.Ytncgjbocgbnkcaa.Hi Go.Proofs.Ytncgjbocgbnkcaa.Ga
theorem SK.heap {W W' : World} {A : Option Addr} {c : Nat} {l : List S68} {B : Option Addr} {d : Nat} {h : List Int} (k : SK W A c l B d h) (hh : ∀ i, i < W.heap.size → W'.heap[i]? = W.heap[i]?) : SK W' A c l B d h :=
  ⟨heap51.C hh k.c1, k.l1, (Kd.heap_int .u64).C hh k.c2, k.l2, k.s1, k.s2⟩
def OkResR (s : SV) (w : World) (e : Ending) (w' : World) : Prop :=
  ∃ A c B d, e = .returned (.tuple #[.agg #[.slice A s.h.length c, .slice B s.k.length d, .int .u64 s.g.n, .int .u64 s.g.nans, .int .u64 s.g.lo, .int .u64 s.g.hi], .int .i64 0]) ∧ SK w' A c s.h B d s.k ∧ Kd.R k68 68 w' w.heap.size (fun _ => True) (.slice A s.h.length c) s.h ∧ Kd.R (Kd.int .u64) 41 w' w.heap.size (fun _ => True) (.slice B s.k.length d) s.k ∧ Below w.heap.size w w'
theorem merge_okR {w : World} {A : Option Addr} {c : Nat} {B : Option Addr} {d : Nat} {a : SV} (k : SK w A c a.h B d a.k) {A' : Option Addr} {c' : Nat} {B' : Option Addr} {d' : Nat} {v : SV} (k' : SK w A' c' v.h B' d' v.k) (ha : AllOk [a, v]) {s : SV} (hs : sumV [a, v] = s) :
    Calls Try.prog 45 #[.agg #[.slice A a.h.length c, .slice B a.k.length d, .int .u64 a.g.n, .int .u64 a.g.nans, .int .u64 a.g.lo, .int .u64 a.g.hi], .agg #[.slice A' v.h.length c', .slice B' v.k.length d', .int .u64 v.g.n, .int .u64 v.g.nans, .int .u64 v.g.lo, .int .u64 v.g.hi]] w (OkResR s w) :=
  (merge_any k k' (ha a (by simp)).1 (ha v (by simp)).1).mono fun _ _ h => h.good ha hs
/-- What is told is there whatever becomes of block r. -/
def Rob (w' : World) (r : Nat) (A : Option Addr) (c : Nat) (B : Option Addr) (d : Nat) (s : SV) : Prop := ∀ w'', (∀ i, i ≠ r → w''.heap[i]? = w'.heap[i]?) → SK w'' A c s.h B d s.k
theorem Rob.of_R {w' : World} {r base : Nat} {A : Option Addr} {c : Nat} {B : Option Addr} {d : Nat} {s : SV} (k : SK w' A c s.h B d s.k) (hR : Kd.R k68 68 w' base (fun _ => True) (.slice A s.h.length c) s.h) (hS : Kd.R (Kd.int .u64) 41 w' base (fun _ => True) (.slice B s.k.length d) s.k) (hr : r < base) : Rob w' r A c B d s := fun w'' hw =>
  ⟨(Kd.R_reads' (Kd.R_step (Kd.R_bound hR) (fun i hi _ => hw i (by have := hi.2.1; omega)))).2.2, k.l1, (Kd.R_reads' (Kd.R_step (Kd.R_bound hS) (fun i hi _ => hw i (by have := hi.2.1; omega)))).2.2, k.l2, k.s1, k.s2⟩
theorem name_last {P : Program} {md : Region.Mode} {ops : Array Oper} {Q : Exit → Act → World → Prop} {S : World → Prop} {ds : List Nat} {fuel : Nat} {l : Array Bool} {a : Act} {W : World} (h : ∀ W', Hid (W = W') → wpAnyLast P md ops Q S ds fuel l a W') : wpAnyLast P md ops Q S ds fuel l a W := h W (Lib.hid rfl)
/-- What is known where the orders meet. -/
def Met (Y : World) (s : SV) (σ : Value × Value × Nat × Option Addr × Nat × Option Addr × Nat) (w' : World) : Prop :=
  Below Y.heap.size Y w' ∧ Y.heap.size ≤ σ.2.2.1 ∧ w'.heap[σ.2.2.1]? = some (.cells szero 45 (0, 0)) ∧ Rob w' σ.2.2.1 σ.2.2.2.1 σ.2.2.2.2.1 σ.2.2.2.2.2.1 σ.2.2.2.2.2.2 s
theorem Met.mk {Y : World} {s : SV} {v1 v2 : Value} {r : Nat} {A : Option Addr} {c : Nat} {B : Option Addr} {d : Nat} {w' : World} (h1 : Below Y.heap.size Y w') (h2 : Y.heap.size ≤ r) (h3 : w'.heap[r]? = some (.cells szero 45 (0, 0))) (h4 : Rob w' r A c B d s) : Met Y s (v1, v2, r, A, c, B, d) w' := ⟨h1, h2, h3, h4⟩
theorem Met.out {Y : World} {s : SV} {v1 v2 : Value} {r : Nat} {A : Option Addr} {c : Nat} {B : Option Addr} {d : Nat} {w' : World} (h : Met Y s (v1, v2, r, A, c, B, d) w') : Below Y.heap.size Y w' ∧ Y.heap.size ≤ r ∧ w'.heap[r]? = some (.cells szero 45 (0, 0)) ∧ Rob w' r A c B d s := h
end Go.Proofs.Ytncgjbocgbnkcaa
namespace Go.Proofs.Ytncgjbocgbnkcaa
set_option linter.unusedVariables false
set_option linter.unusedSimpArgs false
open Go.RowKit Go.Maps Go.Proofs.YtncgjbocgbnkcaaW.PrintWords Go.Proofs.YtncgjbocgbnkcaaW.PrintLast Go.Proofs.YtncgjbocgbnkcaaW.PrintMore Go.Proofs.Ytncgjbocgbnkcaa.Pure Go.Proofs.Ytncgjbocgbnkcaa.Q Go.Proofs.Ytncgjbocgbnkcaa.Hi Go.Proofs.Ytncgjbocgbnkcaa.Ga
/-- So it is whatever becomes of block r and of the one ahead of it. -/
def RC (C : World → Prop) (W : World) (r : Nat) : Prop := ∀ W'', (∀ i, i < W.heap.size → i ≠ r → i + 1 ≠ r → W''.heap[i]? = W.heap[i]?) → C W''
theorem RC.now {C : World → Prop} {W : World} {r : Nat} (h : RC C W r) : C W := h W (fun _ _ _ _ => rfl)
theorem RC.below {C : World → Prop} {W W' : World} {r : Nat} (h : RC C W r) (hb : Below W.heap.size W W') : RC C W' r := fun W'' hw => h W'' (fun i hi hr hr2 => (hw i (by have := hb.size; omega) hr hr2).trans (hb.block i hi))
theorem RC.set {C : World → Prop} {W : World} {r j : Nat} (h : RC C W r) (v : Value) : RC C (W.setCell ⟨r, j, none⟩ v) r := fun W'' hw =>
  h W'' (fun i hi hr hr2 => (hw i (by have : (W.setCell ⟨r, j, none⟩ v).heap.size = W.heap.size := by simp
                                      omega) hr hr2).trans (Below.heap_setCell _ _ _ i hr))
theorem RC.now2 {C : World → Prop} {W W'' : World} {r : Nat} (h : RC C W (r + 1)) (hw : ∀ i, i ≠ r → W''.heap[i]? = W.heap[i]?) : C W'' := h W'' (fun i _ _ h2 => hw i (by omega))
theorem RC.of_R {α : Type} {kd : Kd α} {e : Nat} {W : World} {base r : Nat} {v : Value} {xs : List α} (hR : kd.R e W base (fun _ => True) v xs) (hr : r < base) : RC (fun w => ∃ A c, v = .slice A xs.length c ∧ kd.C w A xs.length xs) W r := fun W'' hw => by
  have h := Kd.R_step (w1 := W'') (Kd.R_bound hR) (fun i hi hlt => hw i hlt (by have := hi.2.1; omega) (by have := hi.2.1; omega))
  obtain ⟨A, c, e, _, hC⟩ := Kd.R_reads h
  exact ⟨A, c, e, hC⟩
theorem RC.slice {α : Type} {kd : Kd α} {W : World} {r : Nat} {A : Option Addr} {c : Nat} {xs : List α} (h : RC (fun w => ∃ A' c', Value.slice A xs.length c = .slice A' xs.length c' ∧ kd.C w A' xs.length xs) W r) : RC (fun w => kd.C w A xs.length xs) W r := fun W'' hw => by
  obtain ⟨A', c', e, hC⟩ := h W'' hw
  injection e with e1 _ _
  subst e1
  exact hC
theorem RC.of_block {W : World} {r : Nat} {A : Option Addr} {l : List Int} (h : Kd.C (Kd.int .u64) W A l.length l) (hA : ∀ ad, A = some ad → 0 < l.length → r < ad.block) : RC (fun w => Kd.C (Kd.int .u64) w A l.length l) W r := fun W'' hw => by
  have h2 := Kd.reads_of_C (d := (0 : Int)) h
  refine Kd.C_of_reads (d := (0 : Int)) ⟨h2.1, h2.2.1, fun hn => ?_⟩
  obtain ⟨ad, e, hc⟩ := h2.2.2 hn
  refine ⟨ad, e, fun j hj => ?_⟩
  have a1 := hA ad e hn
  have eb : (ad.add j).block = ad.block := by unfold Addr.add; split <;> rfl
  have := hc j hj
  exact (show W''.cell? (ad.add j) = W.cell? (ad.add j) from World.cell?_of_block (hw (ad.add j).block (cell_lt this) (by rw [eb]; omega) (by rw [eb]; omega))).trans this
theorem RC.of_add {W w' : World} {r : Nat} {A A' : Option Addr} {l l' : List Int} (h : RC (fun w => Kd.C (Kd.int .u64) w A l.length l) W r) (hr : r < W.heap.size) (hC : Kd.C (Kd.int .u64) w' A' l'.length l') (hb : Below W.heap.size W w') (hor : (A' = A ∧ l' = l) ∨ ∀ ad, A' = some ad → W.heap.size ≤ ad.block) : RC (fun w => Kd.C (Kd.int .u64) w A' l'.length l') w' r := by
  rcases hor with ⟨rfl, rfl⟩ | h2
  · exact h.below hb
  · exact RC.of_block hC (fun ad e _ => by have := h2 ad e; omega)
structure RS (w0 W : World) (A : Option Addr) (c : Nat) (h : List S68) (B : Option Addr) (d : Nat) (k : List Int) (G : G4) : Prop where
  bel : Below w0.heap.size w0 W
  bx : W.heap[w0.heap.size + 1]? = some (.cells #[.slice A h.length c, .slice B k.length d, .int .u64 G.n, .int .u64 G.nans, .int .u64 G.lo, .int .u64 G.hi] 45 (0, 0))
  rx : W.heap[w0.heap.size]? = some (.cells szero 45 (0, 0))
  r1 : RC (fun w => Kd.C k68 w A h.length h) W (w0.heap.size + 1)
  l1 : h.length ≤ c
  r2 : RC (fun w => Kd.C (Kd.int .u64) w B k.length k) W (w0.heap.size + 1)
  l2 : k.length ≤ d
theorem RS.below {w0 W W' : World} {A : Option Addr} {c : Nat} {h : List S68} {B : Option Addr} {d : Nat} {k : List Int} {G : G4} (s : RS w0 W A c h B d k G) (hb : Below W.heap.size W W') : RS w0 W' A c h B d k G :=
  ⟨s.bel.trans (hb.mono s.bel.size), (hb.block _ (blk_lt s.bx)).trans s.bx, (hb.block _ (blk_lt s.rx)).trans s.rx, s.r1.below hb, s.l1, s.r2.below hb, s.l2⟩
theorem RS.put1 {w0 W : World} {A : Option Addr} {c : Nat} {h : List S68} {B : Option Addr} {d : Nat} {k : List Int} {G : G4} (s : RS w0 W A c h B d k G) {A1 : Option Addr} {c1 : Nat} {h1 : List S68} (hc : h1.length ≤ c1) (hR : RC (fun w => ∃ A' c', Value.slice A1 h1.length c1 = .slice A' h1.length c' ∧ Kd.C k68 w A' h1.length h1) W (w0.heap.size + 1)) :
    RS w0 (W.setCell ⟨w0.heap.size + 1, 0, none⟩ (.slice A1 h1.length c1)) A1 c1 h1 B d k G :=
  ⟨below_set s.bel (by simp), blk_set s.bx 0 _, (Below.heap_setCell _ _ _ _ (by simp)).trans s.rx, hR.slice.set _, hc, s.r2.set _, s.l2⟩
theorem RS.put2 {w0 W : World} {A : Option Addr} {c : Nat} {h : List S68} {B : Option Addr} {d : Nat} {k : List Int} {G : G4} (s : RS w0 W A c h B d k G) {B1 : Option Addr} {d1 : Nat} {k1 : List Int} (hd : k1.length ≤ d1) (hR : RC (fun w => Kd.C (Kd.int .u64) w B1 k1.length k1) W (w0.heap.size + 1)) :
    RS w0 (W.setCell ⟨w0.heap.size + 1, 1, none⟩ (.slice B1 k1.length d1)) A c h B1 d1 k1 G :=
  ⟨below_set s.bel (by simp), blk_set s.bx 1 _, (Below.heap_setCell _ _ _ _ (by simp)).trans s.rx, s.r1.set _, s.l1, hR.set _, hd⟩
theorem RS.put3 {w0 W : World} {A : Option Addr} {c : Nat} {h : List S68} {B : Option Addr} {d : Nat} {k : List Int} {G : G4} (s : RS w0 W A c h B d k G) (G1 : G4) :
    RS w0 ((((W.setCell ⟨w0.heap.size + 1, 2, none⟩ (.int .u64 G1.n)).setCell ⟨w0.heap.size + 1, 3, none⟩ (.int .u64 G1.nans)).setCell ⟨w0.heap.size + 1, 4, none⟩ (.int .u64 G1.lo)).setCell ⟨w0.heap.size + 1, 5, none⟩ (.int .u64 G1.hi)) A c h B d k G1 := by
  have hx : w0.heap.size ≤ w0.heap.size + 1 := by omega
  exact ⟨below_set (below_set (below_set (below_set s.bel hx) hx) hx) hx, blk_set (blk_set (blk_set (blk_set s.bx 2 _) 3 _) 4 _) 5 _,
    (Below.heap_setCell _ _ _ _ (by simp)).trans ((Below.heap_setCell _ _ _ _ (by simp)).trans ((Below.heap_setCell _ _ _ _ (by simp)).trans ((Below.heap_setCell _ _ _ _ (by simp)).trans s.rx))), (((s.r1.set _).set _).set _).set _, s.l1, (((s.r2.set _).set _).set _).set _, s.l2⟩
theorem elem {w0 W : World} {a : Addr} {v : Value} (hb : Below w0.heap.size w0 W) (h : w0.cell? a = some v) : W.cell? a = some v := (hb.cell (World.block_lt_of_cell? w0 _ h)).trans h
theorem RS.start (w : World) : RS w ((w.alloc (.cells szero 45)).alloc (.cells szero 45)) none 0 [] none 0 [] gzero := by
  have s1 : (w.alloc (.cells szero 45)).heap.size = w.heap.size + 1 := by simp
  refine ⟨below_alloc (below_alloc (Below.refl _ _) _) _, by rw [← s1]; exact blk_new _ _, blk_alloc (blk_new _ _) _, fun _ _ => ⟨rfl, by decide, fun h => absurd h (by decide)⟩, Nat.le_refl _, fun _ _ => ⟨rfl, by decide, fun h => absurd h (by decide)⟩, Nat.le_refl _⟩
theorem ofG_tidy {l : List S90} (h : OW l) : (ofG l).tidy := gchk_tidy (ofG_chk h)
set_option maxHeartbeats 8000000 in
set_option maxRecDepth 100000 in
theorem rof_any (A0 : Option Addr) (c0 : Nat) (l : List S90) (w : World) (C0 : Kd.C k90 w A0 l.length l) (hO : OW l) (hl : l.length ≤ 1000) :
    Calls Try.prog 28 #[.slice A0 l.length c0] w fun e w' => ∃ A c B d, e = .returned (.agg #[.slice A (ofV l).h.length c, .slice B (ofV l).k.length d, .int .u64 (ofV l).g.n, .int .u64 (ofV l).g.nans, .int .u64 (ofV l).g.lo, .int .u64 (ofV l).g.hi]) ∧ SK w' A c (ofV l).h B d (ofV l).k ∧ Below w.heap.size w w' := by
  have hu62 := Try.underlying45
  have hu60 := Try.underlying43
  have HC0 := Lib.hid C0; have HO := Lib.hid hO
  clear C0 hO
  go_enter Try.func28, Try.ntmps28
  go_wp2
  have HS := RS.start w
  go_loopw [4] (fun v4 wr => ∃ (i : Nat) (A : Option Addr) (c : Nat) (B : Option Addr) (d : Nat), v4 = .int .i64 i ∧ i ≤ l.length ∧ RS w wr A c (bks (ofH (l.take i))) B d (ofK (l.take i)) (ofG (l.take i))) (fun vi _ => l.length - (intOf vi).toNat)
  case atStart =>
    refine ⟨0, none, 0, none, 0, rfl, Nat.zero_le _, ?_⟩
    rw [List.take_zero, show bks (ofH []) = [] from aw_b0]
    exact HS
  case round =>
    clear HS
    obtain ⟨i, A, c, B, d, rfl, hi, hP⟩ := hrel
    have HRS := Lib.hid hP
    clear hP
    by_cases hil : i < l.length
    · have e1 : decide ((i : Int) < (l.length : Int)) = true := decide_eq_true (by omega)
      have e1b : decide (i < l.length) = true := decide_eq_true hil
      obtain ⟨ad, hax, q0, q1, q2⟩ := at_T90 HC0.out (i : Int) (by omega) (by omega)
      rw [Int.toNat_natCast, rd121 hil] at q0 q1 q2
      obtain ⟨o, ho⟩ : ∃ o, l[i] = o := ⟨_, rfl⟩
      rw [ho] at q0 q1 q2
      have et : l.take (i + 1) = l.take i ++ [o] := by rw [← ho, List.take_succ_eq_append_getElem hil]
      have eH := ofH_snoc (l.take i) o
      have eK := ofK_snoc (l.take i) o
      have eG := ofG_snoc (l.take i) o
      rw [← et] at eH eK eG
      have hoU := HO.out o (by rw [← ho]; exact List.getElem_mem _)
      have hOi : OW (l.take i) := fun y hy => HO.out y (List.mem_of_mem_take hy)
      have hgd := ofH_good hOi (by rw [List.length_take]; omega)
      have hwf := ofG_wf hOi
      have htd := ofG_tidy hOi
      have hkg := ofK_good _ hOi
      have HU := Lib.hid hoU; have HI := Lib.hid hil; have HEH := Lib.hid eH; have HEK := Lib.hid eK; have HEG := Lib.hid eG
      have Q0 := Lib.hid q0; have Q1 := Lib.hid q1; have Q2 := Lib.hid q2
      have hb7 : bucketN o.f0.toNat < 7424 := bucketN_lt _ (by have := hoU.1.2; have := hoU.1.1; omega)
      have CB := fun W => varveref07_Bucket.calls 100 o.f0 (bucketN o.f0.toNat : Int) W (by have h := refBucket_eq o.f0.toNat (by have := hoU.1.2; have := hoU.1.1; omega) 100 (by omega); rwa [show ((o.f0.toNat : Nat) : Int) = o.f0 from by have := hoU.1.1; omega] at h)
      have CA := fun (A : Option Addr) (c : Nat) (W : World) (h : Kd.C k68 W A (bks (ofH (l.take i))).length (bks (ofH (l.take i)))) (hc : (bks (ofH (l.take i))).length ≤ c) => varveref07_Add.calls 20000 A c (bks (ofH (l.take i))) (bucketN o.f0.toNat : Int) 1 _ W h hc (refAdd_list hgd _ hb7 1 ⟨by decide, by decide⟩ 20000 (Nat.le_refl _))
      have FV := (fnv_val o.f1 HU.out.2.1).2.1
      have CK := fun (B : Option Addr) (d : Nat) (W : World) (h : Kd.C (Kd.int .u64) W B (ofK (l.take i)).length (ofK (l.take i))) (hd : (ofK (l.take i)).length ≤ d) => refAdd_u B d (ofK (l.take i)) o.f1 W h ⟨hkg.1, hkg.2.1⟩ hd _ _ FV
      have CG := fun W => varveref09_Add.calls 1 (ofG (l.take i)).n (ofG (l.take i)).nans (ofG (l.take i)).lo (ofG (l.take i)).hi o.f2 (gadd (ofG (l.take i)) o.f2).n (gadd (ofG (l.take i)) o.f2).nans (gadd (ofG (l.take i)) o.f2).lo (gadd (ofG (l.take i)) o.f2).hi W (refGAdd_eq hwf htd hoU.2.2 1 (Nat.le_refl _))
      rw [← eH] at CA
      rw [← eK] at CK
      rw [← eG] at CG
      obtain ⟨h, hh⟩ : ∃ h, bks (ofH (l.take i)) = h := ⟨_, rfl⟩
      obtain ⟨h1, hh1⟩ : ∃ h, bks (ofH (l.take (i + 1))) = h := ⟨_, rfl⟩
      obtain ⟨k, hk⟩ : ∃ k, ofK (l.take i) = k := ⟨_, rfl⟩
      obtain ⟨k1, hk1⟩ : ∃ k, ofK (l.take (i + 1)) = k := ⟨_, rfl⟩
      obtain ⟨G, hG⟩ : ∃ G, ofG (l.take i) = G := ⟨_, rfl⟩
      obtain ⟨G1, hG1⟩ : ∃ G, ofG (l.take (i + 1)) = G := ⟨_, rfl⟩
      rw [hh, hk, hG] at HRS
      rw [hh, hh1] at CA
      rw [hk, hk1] at CK
      rw [hG, hG1] at CG
      have HE := Lib.hid (And.intro hh1 (And.intro hk1 hG1))
      clear hh hh1 hk hk1 hG hG1 eH eK eG et ho hoU hgd hwf htd hkg hb7 q0 q1 q2 hOi HEH HEK HEG FV
      subst hax
      go_wp2
      have n_ := HRS.out.below (below_drew (Below.refl _ _)); clear HRS; have HRS := Lib.hid n_; clear n_
      refine wp_region_noPanic ?_
      refine start_ (n := 11) (S := fun w' => w'.cell? ⟨w.heap.size + 1, 0, none⟩ = some (.slice A h.length c) ∧ w'.cell? (ad.add (i * 3)) = some (.int .u64 o.f0)) (ds := [10]) #[false, false, false, false, false, false, false, false, false, false, false] (by kernel_rfl) rfl rfl ⟨blk_cell HRS.out.bx 0, elem HRS.out.bel Q0.out⟩ (fun hHeld => ?_)
      generalize wr.drew = Y0 at HRS hHeld ⊢
      refine pure_ (i := 0) (N := some 11) (v := ?_) (a' := ?_) #[true, false, false, false, false, false, false, false, false, false, false] rfl rfl (by kernel_rfl) (fun _ _ _ h => h) (Or.inl ⟨by rfl, ?_⟩) ?_ ?_
      rotate_left
      · intro w'
        go_simp
        with_reducible rfl
      rotate_left
      · simp only [Act.put, List.setIfInBounds_toArray, List.set_cons_zero, List.set_cons_succ, i64_w, i32_w]
        rfl
      refine pure_ (i := 2) (N := some 13) (v := ?_) (a' := ?_) #[true, false, true, false, false, false, false, false, false, false, false] rfl rfl (by kernel_rfl) (fun _ _ _ h => h) (Or.inl ⟨by rfl, ?_⟩) ?_ ?_
      rotate_left
      · intro w'
        go_simp
        with_reducible rfl
      rotate_left
      · simp only [Act.put, List.setIfInBounds_toArray, List.set_cons_zero, List.set_cons_succ, i64_w, i32_w]
        rfl
      refine pure_ (i := 3) (N := some 14) (v := ?_) (a' := ?_) #[true, false, true, true, false, false, false, false, false, false, false] rfl rfl (by kernel_rfl) (fun _ _ _ h => h) (Or.inl ⟨by rfl, ?_⟩) ?_ ?_
      rotate_left
      · intro w'
        go_simp
        with_reducible rfl
      rotate_left
      · simp only [Act.put, List.setIfInBounds_toArray, List.set_cons_zero, List.set_cons_succ, i64_w, i32_w]
        rfl
      refine pure_ (i := 4) (N := some 15) (v := ?_) (a' := ?_) #[true, false, true, true, true, false, false, false, false, false, false] rfl rfl (by kernel_rfl) (fun _ _ _ h => h) (Or.inl ⟨by rfl, ?_⟩) ?_ ?_
      rotate_left
      · intro w'
        go_simp
        with_reducible rfl
      rotate_left
      · simp only [Act.put, List.setIfInBounds_toArray, List.set_cons_zero, List.set_cons_succ, i64_w, i32_w]
        rfl
      refine pure_ (i := 5) (N := some 16) (v := ?_) (a' := ?_) #[true, false, true, true, true, true, false, false, false, false, false] rfl rfl (by kernel_rfl) (fun _ _ _ h => h) (Or.inl ⟨by rfl, ?_⟩) ?_ ?_
      rotate_left
      · intro w'
        go_simp
        with_reducible rfl
      rotate_left
      · simp only [Act.put, List.setIfInBounds_toArray, List.set_cons_zero, List.set_cons_succ, i64_w, i32_w]
        rfl
      refine take_ (i := 1) (N := some 12) (v := ?_) (a' := ?_) #[true, true, true, true, true, true, false, false, false, false, false] rfl rfl (by kernel_rfl) (fun _ _ _ h => h) (Or.inl ⟨by rfl, ?_⟩) hHeld ?_ ?_
      rotate_left
      · rintro w' ⟨s0_, s1_⟩
        go_simp
        with_reducible rfl
      rotate_left
      · simp only [Act.put, List.setIfInBounds_toArray, List.set_cons_zero, List.set_cons_succ, i64_w, i32_w]
        rfl
      refine take_ (i := 6) (N := some 17) (v := ?_) (a' := ?_) #[true, true, true, true, true, true, true, false, false, false, false] rfl rfl (by kernel_rfl) (fun _ _ _ h => h) (Or.inl ⟨by rfl, ?_⟩) hHeld ?_ ?_
      rotate_left
      · rintro w' ⟨s0_, s1_⟩
        go_simp
        with_reducible rfl
      rotate_left
      · simp only [Act.put, List.setIfInBounds_toArray, List.set_cons_zero, List.set_cons_succ, i64_w, i32_w]
        rfl
      clear hHeld
      refine one_ (i := 7) (N := some 18) #[true, true, true, true, true, true, true, true, false, false, false] rfl rfl (by kernel_rfl) (by decide) (fun K hK => ?_)
      refine goes_ Try.func71 (by kernel_rfl) rfl #[.int .u64 o.f0] (by rfl) rfl rfl (by (try simp only [List.map_toArray, List.map_cons, List.map_nil]); first | done | rfl) ?_
      (with_reducible refine (CB _).mono ?_)
      rintro e w1_ ⟨rfl, hd⟩
      refine ⟨_, rfl, ?_⟩
      have n_ := HRS.out.below hd.below; clear HRS; have HRS := Lib.hid n_; clear n_ hd CB
      refine hK.out _ _ ⟨blk_cell HRS.out.bx 0, elem HRS.out.bel Q0.out⟩ (fun hHeld => ?_)
      clear hK K
      refine norm_ (a' := ?_) ?_ ?_
      rotate_left
      · show Act.put _ (some 18) _ = _
        simp only [Act.put, List.setIfInBounds_toArray, List.set_cons_zero, List.set_cons_succ, i64_w, i32_w]
        rfl
      clear hHeld
      refine one_ (i := 8) (N := some 19) #[true, true, true, true, true, true, true, true, true, false, false] rfl rfl (by kernel_rfl) (by decide) (fun K hK => ?_)
      refine goes_ Try.func70 (by kernel_rfl) rfl #[.slice A h.length c, .int .i64 (bucketN o.f0.toNat : Int), .int .u64 1] (by rfl) rfl rfl (by (try simp only [List.map_toArray, List.map_cons, List.map_nil]); first | done | rfl) ?_
      (with_reducible refine (CA _ _ _ HRS.out.r1.now HRS.out.l1).mono ?_)
      rintro e w2_ ⟨v0, rfl, hR, hb⟩
      refine ⟨_, rfl, ?_⟩
      have HRB := Lib.hid (RC.of_R hR (blk_lt HRS.out.bx)); have n_ := HRS.out.below hb; clear HRS; have HRS := Lib.hid n_; clear n_ hb
      obtain ⟨A1, c1, rfl, hc1, hC1⟩ := Kd.R_reads hR
      have HC1 := Lib.hid hc1; clear hR hc1 hC1 CA
      refine hK.out _ _ ⟨blk_cell HRS.out.bx 0, elem HRS.out.bel Q0.out⟩ (fun hHeld => ?_)
      clear hK K
      refine norm_ (a' := ?_) ?_ ?_
      rotate_left
      · show Act.put _ (some 19) _ = _
        simp only [Act.put, List.setIfInBounds_toArray, List.set_cons_zero, List.set_cons_succ, i64_w, i32_w]
        rfl
      clear hHeld
      refine pure_ (i := 9) (N := some 20) (v := ?_) (a' := ?_) #[true, true, true, true, true, true, true, true, true, true, false] rfl rfl (by kernel_rfl) (fun _ _ _ h => h) (Or.inl ⟨by rfl, ?_⟩) ?_ ?_
      rotate_left
      · intro w'
        go_simp
        with_reducible rfl
      rotate_left
      · simp only [Act.put, List.setIfInBounds_toArray, List.set_cons_zero, List.set_cons_succ, i64_w, i32_w]
        rfl
      refine last_ (i := 10) (N := none) #[true, true, true, true, true, true, true, true, true, true, true] rfl rfl (by kernel_rfl) (by decide) (fun K hK => ?_)
      have r0_ : w2_.cell? ⟨w.heap.size + 1, 0, none⟩ = some (.slice A h.length c) := blk_cell HRS.out.bx 0; have q0_ := blk_frozen HRS.out.bx 0
      refine skip_ (w1 := ?_) (by rfl) rfl ?_ ?_
      rotate_left
      · go_simp
        rfl
      refine hK.out _ _ ?_
      clear hK K r0_ q0_
      refine name_last (fun X0 HN => ?_)
      have n_ := HRS.out.put1 HC1.out HRB.out
      rw [HN.out] at n_
      clear HRS HN HRB HC1
      have HRS := Lib.hid n_; clear n_
      refine done_ (by kernel_rfl) ?_
      refine NoPanic.normal ?_
      go_wp2
      have n_ := HRS.out.below (below_drew (Below.refl _ _)); clear HRS; have HRS := Lib.hid n_; clear n_
      refine wp_region_noPanic ?_
      refine start_ (n := 10) (S := fun w' => w'.cell? ⟨w.heap.size + 1, 1, none⟩ = some (.slice B k.length d) ∧ w'.cell? (⟨(ad.add (i * 3)).block, (ad.add (i * 3)).off + 1, none⟩) = some (.string o.f1)) (ds := [9]) #[false, false, false, false, false, false, false, false, false, false] (by kernel_rfl) rfl rfl ⟨blk_cell HRS.out.bx 1, elem HRS.out.bel Q1.out⟩ (fun hHeld => ?_)
      generalize X0.drew = Y1 at HRS hHeld ⊢
      refine pure_ (i := 0) (N := some 21) (v := ?_) (a' := ?_) #[true, false, false, false, false, false, false, false, false, false] rfl rfl (by kernel_rfl) (fun _ _ _ h => h) (Or.inl ⟨by rfl, ?_⟩) ?_ ?_
      rotate_left
      · intro w'
        go_simp
        with_reducible rfl
      rotate_left
      · simp only [Act.put, List.setIfInBounds_toArray, List.set_cons_zero, List.set_cons_succ, i64_w, i32_w]
        rfl
      refine pure_ (i := 2) (N := some 23) (v := ?_) (a' := ?_) #[true, false, true, false, false, false, false, false, false, false] rfl rfl (by kernel_rfl) (fun _ _ _ h => h) (Or.inl ⟨by rfl, ?_⟩) ?_ ?_
      rotate_left
      · intro w'
        go_simp
        with_reducible rfl
      rotate_left
      · simp only [Act.put, List.setIfInBounds_toArray, List.set_cons_zero, List.set_cons_succ, i64_w, i32_w]
        rfl
      refine pure_ (i := 3) (N := some 24) (v := ?_) (a' := ?_) #[true, false, true, true, false, false, false, false, false, false] rfl rfl (by kernel_rfl) (fun _ _ _ h => h) (Or.inl ⟨by rfl, ?_⟩) ?_ ?_
      rotate_left
      · intro w'
        go_simp
        with_reducible rfl
      rotate_left
      · simp only [Act.put, List.setIfInBounds_toArray, List.set_cons_zero, List.set_cons_succ, i64_w, i32_w]
        rfl
      refine pure_ (i := 4) (N := some 25) (v := ?_) (a' := ?_) #[true, false, true, true, true, false, false, false, false, false] rfl rfl (by kernel_rfl) (fun _ _ _ h => h) (Or.inl ⟨by rfl, ?_⟩) ?_ ?_
      rotate_left
      · intro w'
        go_simp
        with_reducible rfl
      rotate_left
      · simp only [Act.put, List.setIfInBounds_toArray, List.set_cons_zero, List.set_cons_succ, i64_w, i32_w]
        rfl
      refine pure_ (i := 5) (N := some 26) (v := ?_) (a' := ?_) #[true, false, true, true, true, true, false, false, false, false] rfl rfl (by kernel_rfl) (fun _ _ _ h => h) (Or.inl ⟨by rfl, ?_⟩) ?_ ?_
      rotate_left
      · intro w'
        go_simp
        with_reducible rfl
      rotate_left
      · simp only [Act.put, List.setIfInBounds_toArray, List.set_cons_zero, List.set_cons_succ, i64_w, i32_w]
        rfl
      refine take_ (i := 1) (N := some 22) (v := ?_) (a' := ?_) #[true, true, true, true, true, true, false, false, false, false] rfl rfl (by kernel_rfl) (fun _ _ _ h => h) (Or.inl ⟨by rfl, ?_⟩) hHeld ?_ ?_
      rotate_left
      · rintro w' ⟨s0_, s1_⟩
        go_simp
        with_reducible rfl
      rotate_left
      · simp only [Act.put, List.setIfInBounds_toArray, List.set_cons_zero, List.set_cons_succ, i64_w, i32_w]
        rfl
      refine take_ (i := 6) (N := some 27) (v := ?_) (a' := ?_) #[true, true, true, true, true, true, true, false, false, false] rfl rfl (by kernel_rfl) (fun _ _ _ h => h) (Or.inl ⟨by rfl, ?_⟩) hHeld ?_ ?_
      rotate_left
      · rintro w' ⟨s0_, s1_⟩
        go_simp
        with_reducible rfl
      rotate_left
      · simp only [Act.put, List.setIfInBounds_toArray, List.set_cons_zero, List.set_cons_succ, i64_w, i32_w]
        rfl
      clear hHeld
      refine one_ (i := 7) (N := some 28) #[true, true, true, true, true, true, true, true, false, false] rfl rfl (by kernel_rfl) (by decide) (fun K hK => ?_)
      refine goes_ Try.func72 (by kernel_rfl) rfl #[.slice B k.length d, .string o.f1] (by rfl) rfl rfl (by (try simp only [List.map_toArray, List.map_cons, List.map_nil]); first | done | rfl) ?_
      (with_reducible refine (CK _ _ _ HRS.out.r2.now HRS.out.l2).mono ?_)
      rintro e w2_ ⟨B1, d1, rfl, hd1, hC1, hb, hor⟩
      refine ⟨_, rfl, ?_⟩
      have HRB := Lib.hid (RC.of_add HRS.out.r2 (blk_lt HRS.out.bx) hC1 hb hor); have n_ := HRS.out.below hb; clear HRS; have HRS := Lib.hid n_; clear n_ hb
      have HD1 := Lib.hid hd1; clear hd1 hC1 hor CK
      refine hK.out _ _ ⟨blk_cell HRS.out.bx 1, elem HRS.out.bel Q1.out⟩ (fun hHeld => ?_)
      clear hK K
      refine norm_ (a' := ?_) ?_ ?_
      rotate_left
      · show Act.put _ (some 28) _ = _
        simp only [Act.put, List.setIfInBounds_toArray, List.set_cons_zero, List.set_cons_succ, i64_w, i32_w]
        rfl
      clear hHeld
      refine pure_ (i := 8) (N := some 29) (v := ?_) (a' := ?_) #[true, true, true, true, true, true, true, true, true, false] rfl rfl (by kernel_rfl) (fun _ _ _ h => h) (Or.inl ⟨by rfl, ?_⟩) ?_ ?_
      rotate_left
      · intro w'
        go_simp
        with_reducible rfl
      rotate_left
      · simp only [Act.put, List.setIfInBounds_toArray, List.set_cons_zero, List.set_cons_succ, i64_w, i32_w]
        rfl
      refine last_ (i := 9) (N := none) #[true, true, true, true, true, true, true, true, true, true] rfl rfl (by kernel_rfl) (by decide) (fun K hK => ?_)
      have r1_ : w2_.cell? ⟨w.heap.size + 1, 1, none⟩ = some (.slice B k.length d) := blk_cell HRS.out.bx 1; have q1_ := blk_frozen HRS.out.bx 1
      refine skip_ (w1 := ?_) (by rfl) rfl ?_ ?_
      rotate_left
      · go_simp
        rfl
      refine hK.out _ _ ?_
      clear hK K r1_ q1_
      refine name_last (fun X1 HN => ?_)
      have n_ := HRS.out.put2 HD1.out HRB.out
      rw [HN.out] at n_
      clear HRS HN HRB HD1
      have HRS := Lib.hid n_; clear n_
      refine done_ (by kernel_rfl) ?_
      refine NoPanic.normal ?_
      go_wp2
      have n_ := HRS.out.below (below_drew (Below.refl _ _)); clear HRS; have HRS := Lib.hid n_; clear n_
      refine wp_region_noPanic ?_
      refine start_ (n := 10) (S := fun w' => w'.cell? ⟨w.heap.size + 1, 2, none⟩ = some (.int .u64 G.n) ∧ w'.cell? ⟨w.heap.size + 1, 3, none⟩ = some (.int .u64 G.nans) ∧ w'.cell? ⟨w.heap.size + 1, 4, none⟩ = some (.int .u64 G.lo) ∧ w'.cell? ⟨w.heap.size + 1, 5, none⟩ = some (.int .u64 G.hi) ∧ w'.cell? (⟨(ad.add (i * 3)).block, (ad.add (i * 3)).off + 2, none⟩) = some (.int .u64 o.f2)) (ds := [9]) #[false, false, false, false, false, false, false, false, false, false] (by kernel_rfl) rfl rfl ⟨blk_cell HRS.out.bx 2, blk_cell HRS.out.bx 3, blk_cell HRS.out.bx 4, blk_cell HRS.out.bx 5, elem HRS.out.bel Q2.out⟩ (fun hHeld => ?_)
      generalize X1.drew = Y2 at HRS hHeld ⊢
      refine pure_ (i := 0) (N := some 30) (v := ?_) (a' := ?_) #[true, false, false, false, false, false, false, false, false, false] rfl rfl (by kernel_rfl) (fun _ _ _ h => h) (Or.inl ⟨by rfl, ?_⟩) ?_ ?_
      rotate_left
      · intro w'
        go_simp
        with_reducible rfl
      rotate_left
      · simp only [Act.put, List.setIfInBounds_toArray, List.set_cons_zero, List.set_cons_succ, i64_w, i32_w]
        rfl
      refine pure_ (i := 2) (N := some 32) (v := ?_) (a' := ?_) #[true, false, true, false, false, false, false, false, false, false] rfl rfl (by kernel_rfl) (fun _ _ _ h => h) (Or.inl ⟨by rfl, ?_⟩) ?_ ?_
      rotate_left
      · intro w'
        go_simp
        with_reducible rfl
      rotate_left
      · simp only [Act.put, List.setIfInBounds_toArray, List.set_cons_zero, List.set_cons_succ, i64_w, i32_w]
        rfl
      refine pure_ (i := 3) (N := some 33) (v := ?_) (a' := ?_) #[true, false, true, true, false, false, false, false, false, false] rfl rfl (by kernel_rfl) (fun _ _ _ h => h) (Or.inl ⟨by rfl, ?_⟩) ?_ ?_
      rotate_left
      · intro w'
        go_simp
        with_reducible rfl
      rotate_left
      · simp only [Act.put, List.setIfInBounds_toArray, List.set_cons_zero, List.set_cons_succ, i64_w, i32_w]
        rfl
      refine pure_ (i := 4) (N := some 34) (v := ?_) (a' := ?_) #[true, false, true, true, true, false, false, false, false, false] rfl rfl (by kernel_rfl) (fun _ _ _ h => h) (Or.inl ⟨by rfl, ?_⟩) ?_ ?_
      rotate_left
      · intro w'
        go_simp
        with_reducible rfl
      rotate_left
      · simp only [Act.put, List.setIfInBounds_toArray, List.set_cons_zero, List.set_cons_succ, i64_w, i32_w]
        rfl
      refine pure_ (i := 5) (N := some 35) (v := ?_) (a' := ?_) #[true, false, true, true, true, true, false, false, false, false] rfl rfl (by kernel_rfl) (fun _ _ _ h => h) (Or.inl ⟨by rfl, ?_⟩) ?_ ?_
      rotate_left
      · intro w'
        go_simp
        with_reducible rfl
      rotate_left
      · simp only [Act.put, List.setIfInBounds_toArray, List.set_cons_zero, List.set_cons_succ, i64_w, i32_w]
        rfl
      refine take_ (i := 1) (N := some 31) (v := ?_) (a' := ?_) #[true, true, true, true, true, true, false, false, false, false] rfl rfl (by kernel_rfl) (fun _ _ _ h => h) (Or.inl ⟨by rfl, ?_⟩) hHeld ?_ ?_
      rotate_left
      · rintro w' ⟨s0_, s1_, s2_, s3_, s4_⟩
        go_simp
        with_reducible rfl
      rotate_left
      · simp only [Act.put, List.setIfInBounds_toArray, List.set_cons_zero, List.set_cons_succ, i64_w, i32_w]
        rfl
      refine take_ (i := 6) (N := some 36) (v := ?_) (a' := ?_) #[true, true, true, true, true, true, true, false, false, false] rfl rfl (by kernel_rfl) (fun _ _ _ h => h) (Or.inl ⟨by rfl, ?_⟩) hHeld ?_ ?_
      rotate_left
      · rintro w' ⟨s0_, s1_, s2_, s3_, s4_⟩
        go_simp
        with_reducible rfl
      rotate_left
      · simp only [Act.put, List.setIfInBounds_toArray, List.set_cons_zero, List.set_cons_succ, i64_w, i32_w]
        rfl
      clear hHeld
      refine one_ (i := 7) (N := some 37) #[true, true, true, true, true, true, true, true, false, false] rfl rfl (by kernel_rfl) (by decide) (fun K hK => ?_)
      refine goes_ Try.func73 (by kernel_rfl) rfl #[.agg #[.int .u64 G.n, .int .u64 G.nans, .int .u64 G.lo, .int .u64 G.hi], .int .u64 o.f2] (by rfl) rfl rfl (by (try simp only [List.map_toArray, List.map_cons, List.map_nil]); first | done | rfl) ?_
      (with_reducible refine (CG _).mono ?_)
      rintro e w2_ ⟨rfl, hb⟩
      refine ⟨_, rfl, ?_⟩
      have n_ := HRS.out.below hb; clear HRS; have HRS := Lib.hid n_; clear n_ hb CG
      refine hK.out _ _ ⟨blk_cell HRS.out.bx 2, blk_cell HRS.out.bx 3, blk_cell HRS.out.bx 4, blk_cell HRS.out.bx 5, elem HRS.out.bel Q2.out⟩ (fun hHeld => ?_)
      clear hK K
      refine norm_ (a' := ?_) ?_ ?_
      rotate_left
      · show Act.put _ (some 37) _ = _
        simp only [Act.put, List.setIfInBounds_toArray, List.set_cons_zero, List.set_cons_succ, i64_w, i32_w]
        rfl
      clear hHeld
      refine pure_ (i := 8) (N := some 38) (v := ?_) (a' := ?_) #[true, true, true, true, true, true, true, true, true, false] rfl rfl (by kernel_rfl) (fun _ _ _ h => h) (Or.inl ⟨by rfl, ?_⟩) ?_ ?_
      rotate_left
      · intro w'
        go_simp
        with_reducible rfl
      rotate_left
      · simp only [Act.put, List.setIfInBounds_toArray, List.set_cons_zero, List.set_cons_succ, i64_w, i32_w]
        rfl
      refine last_ (i := 9) (N := none) #[true, true, true, true, true, true, true, true, true, true] rfl rfl (by kernel_rfl) (by decide) (fun K hK => ?_)
      have r2_ : w2_.cell? ⟨w.heap.size + 1, 2, none⟩ = some (.int .u64 G.n) := blk_cell HRS.out.bx 2; have q2_ := blk_frozen HRS.out.bx 2
      have r3_ : w2_.cell? ⟨w.heap.size + 1, 3, none⟩ = some (.int .u64 G.nans) := blk_cell HRS.out.bx 3; have q3_ := blk_frozen HRS.out.bx 3
      have r4_ : w2_.cell? ⟨w.heap.size + 1, 4, none⟩ = some (.int .u64 G.lo) := blk_cell HRS.out.bx 4; have q4_ := blk_frozen HRS.out.bx 4
      have r5_ : w2_.cell? ⟨w.heap.size + 1, 5, none⟩ = some (.int .u64 G.hi) := blk_cell HRS.out.bx 5; have q5_ := blk_frozen HRS.out.bx 5
      refine skip_ (w1 := ?_) (by rfl) rfl ?_ ?_
      rotate_left
      · go_simp
        rfl
      refine hK.out _ _ ?_
      clear hK K r2_ q2_ r3_ q3_ r4_ q4_ r5_ q5_
      refine name_last (fun X2 HN => ?_)
      have n_ := HRS.out.put3 G1
      rw [HN.out] at n_
      clear HRS HN
      have HRS := Lib.hid n_; clear n_
      refine done_ (by kernel_rfl) ?_
      refine NoPanic.normal ?_
      go_wp2
      go_roundw
      case rel => exact ⟨i + 1, A1, c1, B1, d1, by go_num, by have := HI.out; omega, by rw [HE.out.1, HE.out.2.1, HE.out.2.2]; exact HRS.out⟩
      case measure => have := HI.out; simp [intOf]; omega
    · have e1 : decide ((i : Int) < (l.length : Int)) = false := decide_eq_false (by omega)
      have e1b : decide (i < l.length) = false := decide_eq_false hil
      obtain rfl : i = l.length := by omega
      rw [List.take_length] at HRS
      have hV := ofV_wf HO.out hl
      have HW := Lib.hid hV
      obtain ⟨v, hv⟩ : ∃ v, ofV l = v := ⟨_, rfl⟩
      change Hid (RS w wr A c (ofV l).h B d (ofV l).k (ofV l).g) at HRS
      rw [hv] at HRS HW
      have HVE := Lib.hid hv
      have HR2 := Lib.hid HRS.out.rx
      have s0 := blk_cell HRS.out.bx 0; have s1 := blk_cell HRS.out.bx 1; have s2 := blk_cell HRS.out.bx 2; have s3 := blk_cell HRS.out.bx 3; have s4 := blk_cell HRS.out.bx 4; have s5 := blk_cell HRS.out.bx 5
      have r0 : wr.cell? ⟨w.heap.size, 0, none⟩ = some (.slice none 0 0) := blk_cell HR2.out 0; have r1 : wr.cell? ⟨w.heap.size, 1, none⟩ = some (.slice none 0 0) := blk_cell HR2.out 1; have r2 : wr.cell? ⟨w.heap.size, 2, none⟩ = some (.int .u64 0) := blk_cell HR2.out 2; have r3 : wr.cell? ⟨w.heap.size, 3, none⟩ = some (.int .u64 0) := blk_cell HR2.out 3; have r4 : wr.cell? ⟨w.heap.size, 4, none⟩ = some (.int .u64 0) := blk_cell HR2.out 4; have r5 : wr.cell? ⟨w.heap.size, 5, none⟩ = some (.int .u64 0) := blk_cell HR2.out 5
      have t0 := blk_frozen HR2.out 0; have t1 := blk_frozen HR2.out 1; have t2 := blk_frozen HR2.out 2; have t3 := blk_frozen HR2.out 3; have t4 := blk_frozen HR2.out 4; have t5 := blk_frozen HR2.out 5
      clear hv hV hil
      go_wp2
      have hx := Nat.le_refl w.heap.size
      have hw := HW.out.1
      have fin : ∀ i, i ≠ w.heap.size → ((((((wr.setCell ⟨w.heap.size, 0, none⟩ (.slice A v.h.length c)).setCell ⟨w.heap.size, 1, none⟩ (.slice B v.k.length d)).setCell ⟨w.heap.size, 2, none⟩ (.int .u64 v.g.n)).setCell ⟨w.heap.size, 3, none⟩ (.int .u64 v.g.nans)).setCell ⟨w.heap.size, 4, none⟩ (.int .u64 v.g.lo)).setCell ⟨w.heap.size, 5, none⟩ (.int .u64 v.g.hi)).heap[i]? = wr.heap[i]? := fun i hne => by
        rw [Below.heap_setCell _ _ _ i hne, Below.heap_setCell _ _ _ i hne, Below.heap_setCell _ _ _ i hne, Below.heap_setCell _ _ _ i hne, Below.heap_setCell _ _ _ i hne, Below.heap_setCell _ _ _ i hne]
      refine bodyPost_ret (results_cell_row rfl _ _ w.heap.size 45 #[.slice A v.h.length c, .slice B v.k.length d, .int .u64 v.g.n, .int .u64 v.g.nans, .int .u64 v.g.lo, .int .u64 v.g.hi] (0, 0) _ rfl (blk_set (blk_set (blk_set (blk_set (blk_set (blk_set HR2.out 0 _) 1 _) 2 _) 3 _) 4 _) 5 _) Try.underlying45 rfl (by kernel_rfl)) rfl ?_
      rw [HVE.out]
      refine ⟨A, c, B, d, rfl, ⟨HRS.out.r1.now2 fin, HRS.out.l1, HRS.out.r2.now2 fin, HRS.out.l2, WB.len hw.1, by have := hw.2.1.1; omega⟩, ?_⟩
      exact below_set (below_set (below_set (below_set (below_set (below_set HRS.out.bel hx) hx) hx) hx) hx) hx
end Go.Proofs.Ytncgjbocgbnkcaa
namespace Go.Proofs.Ytncgjbocgbnkcaa
set_option linter.unusedVariables false
set_option linter.unusedSimpArgs false
open Go.RowKit Go.Maps Go.ChangeShapes Go.WideShapes Go.Deep Go.Proofs.YtncgjbocgbnkcaaW.PrintWords Go.Proofs.YtncgjbocgbnkcaaW.PrintLast Go.Proofs.YtncgjbocgbnkcaaW.PrintMore Go.Proofs.Ytncgjbocgbnkcaa.Pure Go.Proofs.Ytncgjbocgbnkcaa.Q Go.Proofs.Ytncgjbocgbnkcaa.Hi Go.Proofs.Ytncgjbocgbnkcaa.Ga
def Pure.WO (l : List S90) : Prop := l.length * 32 ≤ 140737488351232 ∧ l.length ≤ 9223372036854775807 ∧ ∀ o ∈ l, (Lit.int .u64 o.f0).wf = true ∧ o.f1.size ≤ 140737488351232 ∧ (Lit.int .u64 o.f2).wf = true
theorem opens90 : Opens Try.prog 90 k90 (fun o => (Lit.int .u64 o.f0).wf = true ∧ o.f1.size ≤ 140737488351232 ∧ (Lit.int .u64 o.f2).wf = true) :=
  opens_iso (fun x : S90 => (x.f0, x.f1, x.f2)) (fun x => ⟨x.1, x.2.1, x.2.2⟩) (fun _ => rfl) (opens_struct Try.underlying90 (by kernel_rfl) (opensFields_cons rfl (by kernel_rfl) (opens_int Try.underlying41) (opensFields_cons rfl (by kernel_rfl) (opens_string Try.underlying9) (opensFields_one rfl (by kernel_rfl) (opens_int Try.underlying41)))))
theorem opens39 : Opens Try.prog 39 (Kd.slice 90 k90) Pure.WO := opens_slice Try.underlying39 (by kernel_rfl) (by kernel_rfl) opens90
theorem Pure.WO.ow {l : List S90} (h : Pure.WO l) : OW l := fun o ho => by
  obtain ⟨h1, h2, h3⟩ := h.2.2 o ho
  have hM : maxLen = 9223372036854775807 := rfl
  exact ⟨U.of_wf h1, by omega, U.of_wf h3⟩
theorem info90_ : (Try.prog.info? 90).map (fun i => (i.zero, i.size, i.bytes)) = some (some (.agg #[(.int .u64 0), .string ByteArray.empty, (.int .u64 0)]), 3, 32) := by kernel_rfl
theorem OW.take {l : List S90} (h : OW l) (n : Nat) : OW (l.take n) := fun o ho => h o (List.mem_of_mem_take ho)
theorem OW.drop {l : List S90} (h : OW l) (n : Nat) : OW (l.drop n) := fun o ho => h o (List.mem_of_mem_drop ho)
/-- Observations as they lie. -/
abbrev OC (W : World) (A : Option Addr) (l : List S90) : Prop := Kd.C k90 W A l.length l
theorem OC.below {W W' : World} {A : Option Addr} {l : List S90} (k : OC W A l) {n : Nat} (hb : Below n W W') (hn : W.heap.size ≤ n) : OC W' A l := Kd.C_below k (hb.mono hn)
theorem OC.alloc {W : World} {A : Option Addr} {l : List S90} (k : OC W A l) (o : Obj) : OC (W.alloc o) A l := Kd.C_below k (below_alloc (Below.refl _ _) o)
def OneRes (s : SV) (w : World) (e : Ending) (w' : World) : Prop :=
  ∃ A c B d, e = .returned (.agg #[.slice A s.h.length c, .slice B s.k.length d, .int .u64 s.g.n, .int .u64 s.g.nans, .int .u64 s.g.lo, .int .u64 s.g.hi]) ∧ SK w' A c s.h B d s.k ∧ Below w.heap.size w w'
theorem ofV_any {A0 : Option Addr} {c0 : Nat} {l : List S90} {w : World} (C0 : Kd.C k90 w A0 l.length l) (hO : OW l) (hl : l.length ≤ 1000) {s : SV} (hs : ofV l = s) :
    Calls Try.prog 26 #[.slice A0 l.length c0] w (OneRes s w) := by
  subst hs
  refine (of_any A0 c0 l w C0 hO hl).mono fun e w' h => ?_
  obtain ⟨A, c, B, d, he, h1, h2, hR, hS, hb⟩ := h
  have hw := (ofV_wf hO hl).1
  exact ⟨A, c, B, d, he, ⟨(Kd.R_reads' hR).2.2, h1, (Kd.R_reads' hS).2.2, h2, WB.len hw.1, by have := hw.2.1.1; omega⟩, hb⟩
theorem rofV_any {A0 : Option Addr} {c0 : Nat} {l : List S90} {w : World} (C0 : Kd.C k90 w A0 l.length l) (hO : OW l) (hl : l.length ≤ 1000) {s : SV} (hs : ofV l = s) :
    Calls Try.prog 28 #[.slice A0 l.length c0] w (OneRes s w) := by
  subst hs
  exact rof_any A0 c0 l w C0 hO hl
theorem emptyV {W : World} {A : Option Addr} {c : Nat} {B : Option Addr} {d : Nat} {v : SV} (k : SK W A c v.h B d v.k) {r : Bool} (hr : pair_Empty.f v.h v.k v.g.n v.g.nans v.g.lo v.g.hi = some r) :
    Calls Try.prog 30 #[.agg #[.slice A v.h.length c, .slice B v.k.length d, .int .u64 v.g.n, .int .u64 v.g.nans, .int .u64 v.g.lo, .int .u64 v.g.hi]] W fun e w' => e = .returned (.bool r) ∧ Below W.heap.size W w' :=
  pair_Empty.calls A c v.h B d v.k v.g.n v.g.nans v.g.lo v.g.hi r W k.c1 k.l1 k.c2 k.l2 hr
theorem kins_ne (h : Int) (l : List Int) : kins h l ≠ [] := fun e => by
  have : h ∈ kins h l := (mem_kins h l h).2 (.inl rfl)
  rw [e] at this
  simp at this
theorem ofK_ne {l : List S90} (h : l ≠ []) : (ofK l).length ≠ 0 := by
  have e : l = l.dropLast ++ [l.getLast h] := (List.dropLast_concat_getLast h).symm
  rw [e, ofK_snoc]
  unfold khash
  rw [List.length_take]
  have := kins_ne (fnvV (l.getLast h).f1) (ofK l.dropLast)
  have : (kins (fnvV (l.getLast h).f1) (ofK l.dropLast)).length ≠ 0 := fun e => this (List.length_eq_zero_iff.1 e)
  omega
theorem ofV_empty (l : List S90) : pair_Empty.f (ofV l).h (ofV l).k (ofV l).g.n (ofV l).g.nans (ofV l).g.lo (ofV l).g.hi = some ((l.length : Int) == 0) := by
  by_cases h : l = []
  · subst h
    have e : ofV [] = zV := by
      show (⟨bks (ofH []), ofK [], ofG []⟩ : SV) = _
      rw [aw_b0]; rfl
    rw [e]
    simp [pair_Empty.f, zV, gzero]
  · have hk := ofK_ne h
    have hl : ((l.length : Int) == 0) = false := by
      rw [beq_eq_false_iff_ne]
      have : l.length ≠ 0 := fun e => h (List.length_eq_zero_iff.1 e)
      omega
    rw [hl]
    unfold pair_Empty.f
    rw [if_neg (show ¬ ((ofV l).k.length : Int) = 0 from fun e => hk (by show (ofV l).k.length = 0; omega))]
    split <;> rfl
end Go.Proofs.Ytncgjbocgbnkcaa
namespace Go.Proofs.Ytncgjbocgbnkcaa
set_option linter.unusedVariables false
set_option linter.unusedSimpArgs false
open Go.RowKit Go.Maps Go.Proofs.YtncgjbocgbnkcaaW.PrintWords Go.Proofs.YtncgjbocgbnkcaaW.PrintLast Go.Proofs.YtncgjbocgbnkcaaW.PrintMore Go.Proofs.Ytncgjbocgbnkcaa.Pure Go.Proofs.Ytncgjbocgbnkcaa.Q Go.Proofs.Ytncgjbocgbnkcaa.Hi Go.Proofs.Ytncgjbocgbnkcaa.Ga
/-- A row of n elements of sz cells, from block 'base' on, that may be written. -/
def Own (base : Nat) (W : World) (A : Option Addr) (n sz : Nat) (T : TypeId) : Prop := 0 < n → ∃ g cur, A = some ⟨g, 0, none⟩ ∧ base ≤ g ∧ W.heap[g]? = some (.cells cur T (0, 0)) ∧ n * sz ≤ cur.size
theorem Own.of_R {α : Type} {kd : Kd α} {e : Nat} {W : World} {base : Nat} {ok : Nat → Prop} {A : Option Addr} {c : Nat} {xs : List α} (h : kd.R e W base ok (.slice A xs.length c) xs) : Own base W A xs.length kd.sz e := by
  intro hn
  obtain ⟨_, inner, hown, _⟩ := h
  rcases hown.2 with ⟨hv, _⟩ | ⟨g, cap, cur, hv, hb, hh, hnc, hcm, hcs, _⟩
  · injection hv with _ h2 _
    omega
  · injection hv with ha _ hc
    exact ⟨g, cur, ha, hb, hh, by rw [hcs]; exact Nat.mul_le_mul_right _ hnc⟩
theorem Own.below {base : Nat} {W W' : World} {A : Option Addr} {n sz : Nat} {T : TypeId} (h : Own base W A n sz T) (hb : Below W.heap.size W W') : Own base W' A n sz T := fun hn => by
  obtain ⟨g, cur, e, h1, h2, h3⟩ := h hn
  exact ⟨g, cur, e, h1, (hb.block g (blk_lt h2)).trans h2, h3⟩
theorem Own.set {base : Nat} {W : World} {A : Option Addr} {n sz : Nat} {T : TypeId} (h : Own base W A n sz T) (g' j : Nat) (v : Value) : Own base (W.setCell ⟨g', j, none⟩ v) A n sz T := fun hn => by
  obtain ⟨g, cur, e, h1, h2, h3⟩ := h hn
  by_cases c : g = g'
  · subst c
    exact ⟨g, _, e, h1, blk_set h2 j v, by simpa using h3⟩
  · exact ⟨g, cur, e, h1, (Below.heap_setCell W ⟨g', j, none⟩ v g c).trans h2, h3⟩
theorem box_keep {W : World} {b g j : Nat} {cs cur : Array Value} {T T' : TypeId} (hb : W.heap[b]? = some (.cells cs T (0, 0))) (hg : W.heap[g]? = some (.cells cur T' (0, 0))) (ht : T' ≠ T) (v : Value) : (W.setCell ⟨g, j, none⟩ v).heap[b]? = some (.cells cs T (0, 0)) := by
  refine (Below.heap_setCell W ⟨g, j, none⟩ v b ?_).trans hb
  rintro rfl
  have hg' : W.heap[b]? = some (.cells cur T' (0, 0)) := hg
  rw [hb] at hg'
  injection hg' with hg'
  injection hg' with _ e
  exact ht e.symm
theorem add0 (g m : Nat) : (⟨g, 0, none⟩ : Addr).add m = ⟨g, m, none⟩ := by
  unfold Addr.add
  by_cases h : m = 0 <;> simp [h]
theorem some_cell {W : World} {g : Nat} {cur : Array Value} {T : TypeId} (h : W.heap[g]? = some (.cells cur T (0, 0))) {j : Nat} (hj : j < cur.size) : ∃ u, W.cell? ⟨g, j, none⟩ = some u := ⟨cur[j], by rw [blk_cell h j]; simp [hj]⟩
/-- What lies below stays where writes are to later blocks. -/
structure OS (Wm W : World) (b6 : Nat) (A : Option Addr) (c : Nat) (n : Nat) (B : Option Addr) (d : Nat) (m : Nat) (x0 x1 x2 x3 : Value) : Prop where
  bel : Below Wm.heap.size Wm W
  bx : W.heap[b6]? = some (.cells #[.slice A n c, .slice B m d, x0, x1, x2, x3] 45 (0, 0))
  o1 : Own Wm.heap.size W A n 2 68
  o2 : Own Wm.heap.size W B m 1 41
section
variable {Wm W W' : World} {b6 : Nat} {A : Option Addr} {c n : Nat} {B : Option Addr} {d m : Nat} {x0 x1 x2 x3 : Value}
theorem OS.below (s : OS Wm W b6 A c n B d m x0 x1 x2 x3) (hb : Below W.heap.size W W') : OS Wm W' b6 A c n B d m x0 x1 x2 x3 :=
  ⟨s.bel.trans (hb.mono s.bel.size), (hb.block _ (blk_lt s.bx)).trans s.bx, s.o1.below hb, s.o2.below hb⟩
theorem OS.put (s : OS Wm W b6 A c n B d m x0 x1 x2 x3) {g : Nat} {cur : Array Value} {T : TypeId} (hg : W.heap[g]? = some (.cells cur T (0, 0))) (ht : T ≠ 45) (hm : Wm.heap.size ≤ g) (j : Nat) (v : Value) : OS Wm (W.setCell ⟨g, j, none⟩ v) b6 A c n B d m x0 x1 x2 x3 :=
  ⟨below_set s.bel hm, box_keep s.bx hg ht v, s.o1.set g j v, s.o2.set g j v⟩
end
theorem merge_zrR {w : World} {A : Option Addr} {c : Nat} {B : Option Addr} {d : Nat} {a : SV} (k : SK w A c a.h B d a.k) (ha : a.wf) (oa : a.ok = true) :
    Calls Try.prog 45 #[.agg #[.slice A a.h.length c, .slice B a.k.length d, .int .u64 a.g.n, .int .u64 a.g.nans, .int .u64 a.g.lo, .int .u64 a.g.hi], .agg #[.slice none 0 0, .slice none 0 0, .int .u64 0, .int .u64 0, .int .u64 0, .int .u64 0]] w (OkResR a w) :=
  merge_okR k (SK.zero w) (AllOk.two ha oa zV_wf zV_ok) (sum_zero_right ha oa)
theorem sum1_okR {W : World} {A : Option Addr} {c : Nat} {B : Option Addr} {d : Nat} {a : SV} (k : SK W A c a.h B d a.k) (ha : a.wf) (oa : a.ok = true) :
    Calls Try.prog 44 #[.slice (some ⟨W.heap.size, 0, none⟩) 1 1] (W.alloc (.cells #[.slice A a.h.length c, .slice B a.k.length d, .int .u64 a.g.n, .int .u64 a.g.nans, .int .u64 a.g.lo, .int .u64 a.g.hi] 45)) (OkResR a W) :=
  (sum_one k ha).mono fun _ _ h => h.good (AllOk.one ha oa) (sumV_one ha oa)
theorem OS.start {Wm W : World} {A : Option Addr} {c : Nat} {B : Option Addr} {d : Nat} {v : SV} {x0 x1 x2 x3 : Value} (hb : Below Wm.heap.size Wm W) (h1 : Kd.R k68 68 W Wm.heap.size (fun _ => True) (.slice A v.h.length c) v.h) (h2 : Kd.R (Kd.int .u64) 41 W Wm.heap.size (fun _ => True) (.slice B v.k.length d) v.k) :
    OS Wm (W.alloc (.cells #[.slice A v.h.length c, .slice B v.k.length d, x0, x1, x2, x3] 45)) W.heap.size A c v.h.length B d v.k.length x0 x1 x2 x3 :=
  ⟨below_alloc hb _, blk_new _ _, (Own.of_R h1).below (below_alloc (Below.refl _ _) _), (Own.of_R h2).below (below_alloc (Below.refl _ _) _)⟩
end Go.Proofs.Ytncgjbocgbnkcaa
namespace Go.Proofs.Ytncgjbocgbnkcaa
set_option linter.unusedVariables false
set_option linter.unusedSimpArgs false
open Go.RowKit Go.Maps Go.ChangeShapes Go.WideShapes Go.Deep Go.Proofs.YtncgjbocgbnkcaaW.PrintWords Go.Proofs.YtncgjbocgbnkcaaW.PrintLast Go.Proofs.YtncgjbocgbnkcaaW.PrintMore Go.Proofs.Ytncgjbocgbnkcaa.Pure Go.Proofs.Ytncgjbocgbnkcaa.Q Go.Proofs.Ytncgjbocgbnkcaa.Hi Go.Proofs.Ytncgjbocgbnkcaa.Ga
theorem SK.of_R {W : World} {b1 b2 : Nat} {ok1 ok2 : Nat → Prop} {A : Option Addr} {c : Nat} {B : Option Addr} {d : Nat} {v : SV} (h1 : Kd.R k68 68 W b1 ok1 (.slice A v.h.length c) v.h) (h2 : Kd.R (Kd.int .u64) 41 W b2 ok2 (.slice B v.k.length d) v.k) (hw : v.wf) : SK W A c v.h B d v.k :=
  ⟨(Kd.R_reads' h1).2.2, (Kd.R_reads' h1).2.1, (Kd.R_reads' h2).2.2, (Kd.R_reads' h2).2.1, WB.len hw.1, by have := hw.2.1.1; omega⟩
structure WS (w0 W : World) (v : SV) (A : Option Addr) (c : Nat) (B : Option Addr) (d : Nat) (mv : Value) (ls : List SV) : Prop where
  bel : Below w0.heap.size w0 W
  bx : W.heap[w0.heap.size]? = some (.cells #[.slice A v.h.length c, .slice B v.k.length d, .int .u64 v.g.n, .int .u64 v.g.nans, .int .u64 v.g.lo, .int .u64 v.g.hi] 45 (0, 0))
  r1 : Kd.R k68 68 W w0.heap.size (fun _ => True) (.slice A v.h.length c) v.h
  r2 : Kd.R (Kd.int .u64) 41 W w0.heap.size (fun _ => True) (.slice B v.k.length d) v.k
  rm : Kd.R kV 45 W w0.heap.size (fun k => k ≠ w0.heap.size) mv ls
section
variable {w0 W W' : World} {v : SV} {A : Option Addr} {c : Nat} {B : Option Addr} {d : Nat} {mv : Value} {ls : List SV}
theorem WS.below (s : WS w0 W v A c B d mv ls) (hb : Below W.heap.size W W') : WS w0 W' v A c B d mv ls :=
  ⟨s.bel.trans (hb.mono s.bel.size), (hb.block _ (blk_lt s.bx)).trans s.bx, Kd.R_below s.r1 hb, Kd.R_below s.r2 hb, Kd.R_below s.rm hb⟩
end
theorem WS.start (w : World) : WS w (w.alloc (.cells szero 45)) zV none 0 none 0 (.slice none 0 0) [] :=
  ⟨below_alloc (Below.refl _ _) _, blk_new _ _, Kd.R_nil _ _ _ _ _, Kd.R_nil _ _ _ _ _, Kd.R_nil _ _ _ _ _⟩
end Go.Proofs.Ytncgjbocgbnkcaa
