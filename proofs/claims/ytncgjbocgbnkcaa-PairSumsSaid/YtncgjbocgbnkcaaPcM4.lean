/- What the laws of this folder share, part 4: walks of functions over their Go text, and plain lemmas. Conditions: as each lemma says. -/
import Derived.Deep.RegionHeld3
import Derived.Outline
import Derived.Test.YtncgjbocgbnkcaaPcM3
namespace Go.Proofs.Ytncgjbocgbnkcaa
set_option linter.unusedVariables false
set_option linter.unusedSimpArgs false
open Go.RowKit Go.Maps Go.Proofs.YtncgjbocgbnkcaaW.PrintWords Go.Proofs.YtncgjbocgbnkcaaW.PrintLast Go.Proofs.YtncgjbocgbnkcaaW.PrintMore Go.Proofs.Ytncgjbocgbnkcaa.Pure Go.Proofs.Ytncgjbocgbnkcaa.Q Go.Proofs.Ytncgjbocgbnkcaa.Hi Go.Proofs.Ytncgjbocgbnkcaa.Ga
/-- A string's hash. -/
def fnvV (s : ByteArray) : Int := (fnv_Of.f (s.size + 1) s).getD 0
theorem fnv_val (s : ByteArray) (hs : s.size ≤ maxLen) : fnv_Of.f (s.size + 1) s = some (fnvV s) ∧ varveref06_Of.f (s.size + 1) s = some (fnvV s) ∧ 0 ≤ fnvV s ∧ fnvV s < 18446744073709551616 := by
  obtain ⟨r, e1, e2, hr⟩ := fnv_round s hs s.size 0 14695981039346656037 (by omega) (by omega) (by omega)
  have f1 : fnv_Of.f (s.size + 1) s = some r := by
    unfold fnv_Of.f fnv_More.f
    rw [show (0 : Int) = ((0 : Nat) : Int) from rfl, e1]; rfl
  have f2 : varveref06_Of.f (s.size + 1) s = some r := by
    unfold varveref06_Of.f varveref06_More.f
    rw [show (0 : Int) = ((0 : Nat) : Int) from rfl, e2]; rfl
  have e : fnvV s = r := by unfold fnvV; rw [f1]; rfl
  rw [e]
  exact ⟨f1, f2, hr⟩
/-- Observations as they come. -/
def OW (l : List S90) : Prop := ∀ o ∈ l, U o.f0 ∧ o.f1.size ≤ maxLen ∧ U o.f2
def ofH (l : List S90) : List Int := addEach (l.map (fun o : S90 => o.f0))
def ofK (l : List S90) : List Int := kmany [] (l.map (fun o => fnvV o.f1))
def ofG (l : List S90) : G4 := (l.map (fun o : S90 => o.f2)).foldl gadd gzero
theorem ofH_snoc (l : List S90) (o : S90) : ofH (l ++ [o]) = hadd (ofH l) (bucketN o.f0.toNat) 1 := by
  unfold ofH; rw [List.map_append]; exact addEach_snoc _ _
theorem ofK_snoc (l : List S90) (o : S90) : ofK (l ++ [o]) = khash (ofK l) (fnvV o.f1) := by
  unfold ofK; rw [List.map_append]; exact kmany_snoc _ _ _
theorem ofG_snoc (l : List S90) (o : S90) : ofG (l ++ [o]) = gadd (ofG l) o.f2 := by
  unfold ofG; simp [List.foldl_append]
theorem ofH_good {l : List S90} (h : OW l) (hl : l.length ≤ 1000) : hgood (ofH l) = true :=
  (addEach_spec (l.map (fun o : S90 => o.f0)) (fun x hx => by obtain ⟨o, ho, rfl⟩ := List.mem_map.1 hx; exact (h o ho).1) (by simpa using hl)).1
theorem foldl_wf (l : List Int) (hl : ∀ x ∈ l, U x) : ∀ g : G4, g.wf → (l.foldl gadd g).wf := by
  induction l with
  | nil => intro g h; exact h
  | cons x l ih => intro g h; exact ih (fun y hy => hl y (by simp [hy])) _ (gadd_wf h (hl x (by simp)))
theorem gzero_wf : gzero.wf := ⟨⟨by decide, by decide⟩, ⟨by decide, by decide⟩, ⟨by decide, by decide⟩, ⟨by decide, by decide⟩⟩
theorem ofG_wf {l : List S90} (h : OW l) : (ofG l).wf :=
  foldl_wf _ (fun x hx => by obtain ⟨o, ho, rfl⟩ := List.mem_map.1 hx; exact (h o ho).2.2) _ gzero_wf
theorem rd121 {l : List S90} {i : Nat} (h : i < l.length) : rd_T90 l (i : Int) = l[i] := by
  simp [rd_T90, List.getD, List.getElem?_eq_getElem h]
theorem PS.put4 {w0 W : World} {r g k b x : Nat} {s S : List Int} {G : G4} (h : PS w0 W r g k b x s S G) (G' : G4) :
    PS w0 ((((W.setCell ⟨x, 0, none⟩ (.int .u64 G'.n)).setCell ⟨x, 1, none⟩ (.int .u64 G'.nans)).setCell ⟨x, 2, none⟩ (.int .u64 G'.lo)).setCell ⟨x, 3, none⟩ (.int .u64 G'.hi)) r g k b x s S G' := by
  have hx : w0.heap.size ≤ x := by have := h.ord; omega
  refine h.to (below_set (below_set (below_set (below_set h.bel hx) hx) hx) hx) (fun i _ hne => ?_) ?_
  · rw [Below.heap_setCell _ _ _ i hne, Below.heap_setCell _ _ _ i hne, Below.heap_setCell _ _ _ i hne, Below.heap_setCell _ _ _ i hne]
  · exact blk_set (blk_set (blk_set (blk_set h.gb 0 _) 1 _) 2 _) 3 _
theorem alloc_old (w : World) (o : Obj) (k : Nat) (h : k < w.heap.size) : (w.alloc o).heap[k]? = w.heap[k]? := (below_alloc (Below.refl w.heap.size w) o).block k h
theorem new_at (W : World) (n : Nat) (hn : W.heap.size = n) : Calls Try.prog 57 #[] W fun e w' => e = .returned (.pointer (some ⟨n, 0, none⟩)) ∧ w'.heap[n]? = some (.cells (hcells (hzero 7424)) 118 (0, 0)) ∧ Below n W w' := by
  subst hn; exact (new_any W).mono fun _ _ ⟨he, hh, hb⟩ => ⟨he, hh, hb⟩
theorem PS.start (w w1 w2 : World) {k b : Nat} (h1 : w1.heap[w.heap.size + 1]? = some (.cells (hcells (hzero 7424)) 118 (0, 0))) (b1 : Below (w.heap.size + 1) (w.alloc (.cells szero 45)) w1)
    (hk : KM w2 k b []) (l1 : w1.heap.size ≤ k) (l2 : w1.heap.size ≤ b) (b2 : Below w1.heap.size w1 w2) :
    PS w (w2.alloc (.cells (gcells gzero) 43)) w.heap.size (w.heap.size + 1) k b w2.heap.size (hzero 7424) [] gzero := by
  have s0 : (w.alloc (.cells szero 45)).heap.size = w.heap.size + 1 := by simp
  have B0 : Below w.heap.size w (w.alloc (.cells szero 45)) := below_alloc (Below.refl _ _) _
  have B1 := B0.trans (b1.mono (Nat.le_succ _))
  have B2 := B1.trans (b2.mono B1.size)
  have B3 : Below w.heap.size w (w2.alloc (.cells (gcells gzero) 43)) := below_alloc B2 _
  have g1 := blk_lt h1
  have km := hk.lt
  have r0 : (w.alloc (.cells szero 45)).heap[w.heap.size]? = some (.cells szero 45 (0, 0)) := blk_new _ _
  have r1 := (b1.block w.heap.size (Nat.lt_succ_self _)).trans r0
  have r2 := (b2.block w.heap.size (by omega)).trans r1
  have g2 := (b2.block _ g1).trans h1
  have hk3 : KM (w2.alloc (.cells (gcells gzero) 43)) k b [] := hk.block (alloc_old _ _ _ km.1) (alloc_old _ _ _ km.2)
  refine ⟨⟨fun p hp => ?_, by simp, B3⟩, ⟨fun p hp => ?_, fun i j p q hij hp hq => ?_, B3⟩, blk_new _ _, blk_alloc r2 _, by omega⟩
  · rw [List.mem_singleton] at hp
    subst hp
    exact ⟨blk_alloc g2 _, by omega⟩
  · rw [List.mem_singleton] at hp
    subst hp
    exact ⟨hk3, by have := B1.size; simp only; omega, by have := B1.size; simp only; omega⟩
  · exfalso
    have a1 := (List.getElem?_eq_some_iff.1 hp).1
    have a2 := (List.getElem?_eq_some_iff.1 hq).1
    simp at a1 a2
    omega
set_option maxHeartbeats 4000000 in
set_option maxRecDepth 100000 in
theorem of_any (A0 : Option Addr) (c0 : Nat) (l : List S90) (w : World) (C0 : Kd.C k90 w A0 l.length l) (hO : OW l) (hl : l.length ≤ 1000) :
    Calls Try.prog 26 #[.slice A0 l.length c0] w fun e w' => ∃ A c A' c', e = .returned (.agg #[.slice A (bks (ofH l)).length c, .slice A' (ofK l).length c', .int .u64 (ofG l).n, .int .u64 (ofG l).nans, .int .u64 (ofG l).lo, .int .u64 (ofG l).hi]) ∧ (bks (ofH l)).length ≤ c ∧ (ofK l).length ≤ c' ∧
      Kd.R k68 68 w' w.heap.size (fun _ => True) (.slice A (bks (ofH l)).length c) (bks (ofH l)) ∧ Kd.R (Kd.int .u64) 41 w' w.heap.size (fun _ => True) (.slice A' (ofK l).length c') (ofK l) ∧ Below w.heap.size w w' := by
  have HC0 := Lib.hid C0; have HO := Lib.hid hO
  clear C0 hO
  go_enter Try.func26, Try.ntmps26
  go_wp2_with (first
    | (go_at_call 57; refine (new_at _ (w.heap.size + 1) (by simp)).mono ?_; rintro e w1 ⟨rfl, hh, hb1⟩)
    | (go_at_call 65; refine (new_u _).mono ?_; rintro e w2 ⟨k, b, rfl, hk, l1, l2, hb2⟩))
  have hS := PS.start w w1 w2 hh hb1 hk l1 l2 hb2
  obtain ⟨g, hg⟩ : ∃ g, w.heap.size + 1 = g := ⟨_, rfl⟩
  obtain ⟨x, hx⟩ : ∃ x, w2.heap.size = x := ⟨_, rfl⟩
  rw [hg, hx] at hS
  rw [hg, hx]
  clear hh hb1 hk l1 l2 hb2 hg hx
  go_loopw [13] (fun v13 wr => ∃ i : Nat, v13 = .int .i64 i ∧ i ≤ l.length ∧ PS w wr w.heap.size g k b x (ofH (l.take i)) (ofK (l.take i)) (ofG (l.take i))) (fun vi _ => l.length - (intOf vi).toNat)
  case atStart => exact ⟨0, rfl, Nat.zero_le _, hS⟩
  case round =>
    clear hS
    obtain ⟨i, rfl, hi, hP⟩ := hrel
    have HP := Lib.hid hP
    by_cases hil : i < l.length
    · have e1 : decide ((i : Int) < (l.length : Int)) = true := decide_eq_true (by omega)
      have e1b : decide (i < l.length) = true := decide_eq_true hil
      obtain ⟨ax, hax, q0, q1, q2⟩ := at_T90 HC0.out (i : Int) (by omega) (by omega)
      rw [Int.toNat_natCast, rd121 hil] at q0 q1 q2
      obtain ⟨o, ho⟩ : ∃ o, l[i] = o := ⟨_, rfl⟩
      rw [ho] at q0 q1 q2
      have et : l.take (i + 1) = l.take i ++ [o] := by rw [← ho, List.take_succ_eq_append_getElem hil]
      have eH := ofH_snoc (l.take i) o
      have eK := ofK_snoc (l.take i) o
      have eG := ofG_snoc (l.take i) o
      rw [← et] at eH eK eG
      have hoU := HO.out o (by rw [← ho]; exact List.getElem_mem _)
      have hgood_ := ofH_good (l := l.take i) (fun y hy => HO.out y (List.mem_of_mem_take hy)) (by rw [List.length_take]; omega)
      have hwf := ofG_wf (l := l.take i) (fun y hy => HO.out y (List.mem_of_mem_take hy))
      have HU := Lib.hid hoU; have HI := Lib.hid hil; have HEH := Lib.hid eH; have HEK := Lib.hid eK; have HEG := Lib.hid eG; have HGD := Lib.hid hgood_; have HWF := Lib.hid hwf
      have p0 := (hP.bel.cell (World.block_lt_of_cell? w _ q0)).trans q0
      have p1 := (hP.bel.cell (World.block_lt_of_cell? w _ q1)).trans q1
      have p2 := (hP.bel.cell (World.block_lt_of_cell? w _ q2)).trans q2
      obtain ⟨s, hs⟩ : ∃ s, ofH (l.take i) = s := ⟨_, rfl⟩
      obtain ⟨S, hS⟩ : ∃ S, ofK (l.take i) = S := ⟨_, rfl⟩
      obtain ⟨G, hG⟩ : ∃ G, ofG (l.take i) = G := ⟨_, rfl⟩
      rw [hs] at HP HEH HGD
      rw [hS] at HP HEK
      rw [hG] at HP HEG HWF
      have FV := Lib.hid (fnv_val o.f1 HU.out.2.1)
      obtain ⟨v, hv⟩ : ∃ v, fnvV o.f1 = v := ⟨_, rfl⟩
      rw [hv] at FV HEK
      obtain ⟨os, ns, f2⟩ := o
      obtain ⟨G1, hG1⟩ : ∃ G1, gadd G f2 = G1 := ⟨_, rfl⟩
      rw [hG1] at HEG
      have GA := fun W => gauge_Add.calls G.n G.nans G.lo G.hi f2 G1.n G1.nans G1.lo G1.hi W (by rw [← hG1]; exact gadd_eq HWF.out HU.out.2.2)
      have hlx := HP.out.lt.1
      have hox := HP.out.ord
      have hP1 := HP.out.below (below_alloc (Below.refl wr.heap.size wr) (.cells #[.int .u64 os, .string ns, .int .u64 f2] 90))
      have hb1 := blk_new wr (.cells #[.int .u64 os, .string ns, .int .u64 f2] 90)
      have hz1 : (wr.alloc (.cells #[.int .u64 os, .string ns, .int .u64 f2] 90)).heap.size = wr.heap.size + 1 := by simp
      have HP1 := Lib.hid hP1; have HB1 := Lib.hid hb1; have HZ1 := Lib.hid hz1
      have CA := hP1.hadd HGD.out HU.out.1 (n := 1) ⟨by decide, by decide⟩
      subst hax
      clear hs hS hG hv hG1 hP1 hb1 hz1
      go_wp2_with (first
        | (go_at_call 58; refine CA.mono ?_; rintro e w3 ⟨rfl, hP3, hs3, hq3⟩; have hb3 := (hq3 wr.heap.size (by rw [HZ1.out]; omega) (by omega)).trans HB1.out; have c3 := blk_cell hb3 1; have HP3 := Lib.hid hP3; have HB3 := Lib.hid hb3; have hz3 : wr.heap.size < w3.heap.size := blk_lt hb3; clear hP3 hs3 hq3 hb3 CA)
        | (go_at_call 66; refine (HP3.out.kadd FV.out.1 FV.out.2.2).mono ?_; rintro e w4 ⟨rfl, hP4, hs4, hq4⟩; have hb4 := (hq4 wr.heap.size hz3 (by omega) (by omega)).trans HB3.out; have c4 := blk_cell hb4 2; have hg4 := hP4.gb; have d0 : w4.cell? ⟨x, 0, none⟩ = some (.int .u64 G.n) := blk_cell hg4 0; have d1 : w4.cell? ⟨x, 1, none⟩ = some (.int .u64 G.nans) := blk_cell hg4 1; have d2 : w4.cell? ⟨x, 2, none⟩ = some (.int .u64 G.lo) := blk_cell hg4 2; have d3 : w4.cell? ⟨x, 3, none⟩ = some (.int .u64 G.hi) := blk_cell hg4 3; have HP4 := Lib.hid hP4; have hz4 := hP4.lt.1; clear hP4 hs4 hq4 hb4 hg4 c3 HP3 HB3 hz3)
        | (go_at_call 67; refine (GA _).mono ?_; rintro e w5 ⟨rfl, hb5⟩; have hP5 := HP4.out.below hb5; clear GA hb5 c4 d0 d1 d2 d3 HP4; have hg5 := hP5.gb; have d0 : w5.cell? ⟨x, 0, none⟩ = some (.int .u64 G.n) := blk_cell hg5 0; have d1 : w5.cell? ⟨x, 1, none⟩ = some (.int .u64 G.nans) := blk_cell hg5 1; have d2 : w5.cell? ⟨x, 2, none⟩ = some (.int .u64 G.lo) := blk_cell hg5 2; have d3 : w5.cell? ⟨x, 3, none⟩ = some (.int .u64 G.hi) := blk_cell hg5 3; have f0 := blk_frozen hg5 0; have f1 := blk_frozen hg5 1; have f2' := blk_frozen hg5 2; have f3 := blk_frozen hg5 3; have HP5 := Lib.hid hP5; have HG5 := Lib.hid hg5; clear hP5 hg5))
      go_roundw
      case rel => exact ⟨i + 1, by go_num, by have := HI.out; omega, by rw [HEH.out, HEK.out, HEG.out]; exact HP5.out.put4 G1⟩
      case measure => have := HI.out; simp [intOf]; omega
    · have e1 : decide ((i : Int) < (l.length : Int)) = false := decide_eq_false (by omega)
      have e1b : decide (i < l.length) = false := decide_eq_false hil
      obtain rfl : i = l.length := by omega
      rw [List.take_length] at hP
      have hgood_ := ofH_good HO.out hl
      obtain ⟨s, hs⟩ : ∃ s, ofH l = s := ⟨_, rfl⟩
      obtain ⟨S, hS⟩ : ∃ S, ofK l = S := ⟨_, rfl⟩
      obtain ⟨G, hG⟩ : ∃ G, ofG l = G := ⟨_, rfl⟩
      rw [hs, hS, hG] at hP
      rw [hs] at hgood_
      have HE := Lib.hid (And.intro hs (And.intro hS hG))
      have HP := Lib.hid hP; have HGD := Lib.hid hgood_
      clear hs hS hG hP hgood_ hil
      go_wp2
      have hPa := HP.out.below (below_drew (Below.refl wr.heap.size wr))
      have hga := hPa.gb
      have d0 : wr.drew.cell? ⟨x, 0, none⟩ = some (.int .u64 G.n) := blk_cell hga 0; have d1 : wr.drew.cell? ⟨x, 1, none⟩ = some (.int .u64 G.nans) := blk_cell hga 1; have d2 : wr.drew.cell? ⟨x, 2, none⟩ = some (.int .u64 G.lo) := blk_cell hga 2; have d3 : wr.drew.cell? ⟨x, 3, none⟩ = some (.int .u64 G.hi) := blk_cell hga 3
      have HPA := Lib.hid hPa
      have hne : ¬ w.heap.size = x := by have := hPa.ord; omega
      have CB := HPA.out.hs.bks 0 rfl HGD.out
      clear hPa hga
      refine wp_region_noPanic ?_
      refine start_ (n := 7) (S := fun w' => w'.cell? ⟨x, 0, none⟩ = some (.int .u64 G.n) ∧ w'.cell? ⟨x, 1, none⟩ = some (.int .u64 G.nans) ∧ w'.cell? ⟨x, 2, none⟩ = some (.int .u64 G.lo) ∧ w'.cell? ⟨x, 3, none⟩ = some (.int .u64 G.hi)) (ds := [6]) #[false, false, false, false, false, false, false] (by kernel_rfl) rfl rfl ⟨d0, d1, d2, d3⟩ (fun hHeld => ?_)
      clear d0 d1 d2 d3
      refine pure_ (i := 0) (N := some 30) (v := ?_) (a' := ?_) #[true, false, false, false, false, false, false] rfl rfl (by kernel_rfl) (fun _ _ _ h => h) (Or.inl ⟨by rfl, ?_⟩) ?_ ?_
      rotate_left
      · intro w'
        go_simp
        with_reducible rfl
      rotate_left
      · simp only [Act.put, List.setIfInBounds_toArray, List.set_cons_zero, List.set_cons_succ, i64_w, i32_w]
        rfl
      refine pure_ (i := 2) (N := some 32) (v := ?_) (a' := ?_) #[true, false, true, false, false, false, false] rfl rfl (by kernel_rfl) (fun _ _ _ h => h) (Or.inl ⟨by rfl, ?_⟩) ?_ ?_
      rotate_left
      · intro w'
        go_simp
        with_reducible rfl
      rotate_left
      · simp only [Act.put, List.setIfInBounds_toArray, List.set_cons_zero, List.set_cons_succ, i64_w, i32_w]
        rfl
      refine take_ (i := 4) (N := some 34) (v := ?_) (a' := ?_) #[true, false, true, false, true, false, false] rfl rfl (by kernel_rfl) (fun _ _ _ h => h) (Or.inl ⟨by rfl, ?_⟩) hHeld ?_ ?_
      rotate_left
      · rintro w' ⟨s0, s1, s2, s3⟩
        go_simp
        with_reducible rfl
      rotate_left
      · simp only [Act.put, List.setIfInBounds_toArray, List.set_cons_zero, List.set_cons_succ, i64_w, i32_w]
        rfl
      refine one_ (i := 1) (N := some 31) #[true, true, true, false, true, false, false] rfl rfl (by kernel_rfl) (by decide) (fun K hK => ?_)
      refine goes_ Try.func68 (by kernel_rfl) rfl #[.pointer (some ⟨g, 0, none⟩)] (by rfl) rfl rfl (by (try simp only [List.map_toArray, List.map_cons, List.map_nil]); first | done | rfl) ?_
      with_reducible refine CB.mono ?_
      rintro e w6 ⟨A, c, rfl, hc, hCA, hRA, hH6, hb6⟩
      refine ⟨_, rfl, ?_⟩
      have hP6 := HPA.out.below hb6
      have hg6 := hP6.gb
      have d0 : w6.cell? ⟨x, 0, none⟩ = some (.int .u64 G.n) := blk_cell hg6 0
      have d1 : w6.cell? ⟨x, 1, none⟩ = some (.int .u64 G.nans) := blk_cell hg6 1
      have d2 : w6.cell? ⟨x, 2, none⟩ = some (.int .u64 G.lo) := blk_cell hg6 2
      have d3 : w6.cell? ⟨x, 3, none⟩ = some (.int .u64 G.hi) := blk_cell hg6 3
      have HP6 := Lib.hid hP6; have HRA := Lib.hid hRA; have HC := Lib.hid hc; have CH := HP6.out.ks.hashes 0 rfl; have HB6 := Lib.hid hb6
      clear hP6 hg6 hRA hc hb6 CB hCA hH6
      refine hK.out _ _ ⟨d0, d1, d2, d3⟩ (fun hHeld => ?_)
      clear d0 d1 d2 d3
      clear hK K
      refine norm_ (a' := ?_) ?_ ?_
      rotate_left
      · show Act.put _ (some 31) _ = _
        simp only [Act.put, List.setIfInBounds_toArray, List.set_cons_zero, List.set_cons_succ, i64_w, i32_w]
        rfl
      refine one_ (i := 3) (N := some 33) #[true, true, true, true, true, false, false] rfl rfl (by kernel_rfl) (by decide) (fun K hK => ?_)
      refine goes_ Try.func69 (by kernel_rfl) rfl #[.pointer (some ⟨k, 0, none⟩)] (by rfl) rfl rfl (by (try simp only [List.map_toArray, List.map_cons, List.map_nil]); first | done | rfl) ?_
      with_reducible refine CH.mono ?_
      rintro e w7 ⟨B, c2, rfl, hc2, hCB, hoB, hK7, hb7⟩
      refine ⟨_, rfl, ?_⟩
      have hP7 := HP6.out.below hb7
      have hg7 := hP7.gb
      have d0 : w7.cell? ⟨x, 0, none⟩ = some (.int .u64 G.n) := blk_cell hg7 0
      have d1 : w7.cell? ⟨x, 1, none⟩ = some (.int .u64 G.nans) := blk_cell hg7 1
      have d2 : w7.cell? ⟨x, 2, none⟩ = some (.int .u64 G.lo) := blk_cell hg7 2
      have d3 : w7.cell? ⟨x, 3, none⟩ = some (.int .u64 G.hi) := blk_cell hg7 3
      have HP7 := Lib.hid hP7; have HOB := Lib.hid hoB; have HC2 := Lib.hid hc2; have HB7 := Lib.hid hb7
      clear hP7 hg7 hoB hc2 hb7 CH hCB hK7
      refine hK.out _ _ ⟨d0, d1, d2, d3⟩ (fun hHeld => ?_)
      clear d0 d1 d2 d3
      clear hK K
      refine norm_ (a' := ?_) ?_ ?_
      rotate_left
      · show Act.put _ (some 33) _ = _
        simp only [Act.put, List.setIfInBounds_toArray, List.set_cons_zero, List.set_cons_succ, i64_w, i32_w]
        rfl
      refine pure_ (i := 5) (N := some 35) (v := ?_) (a' := ?_) #[true, true, true, true, true, true, false] rfl rfl (by kernel_rfl) (fun _ _ _ h => h) (Or.inl ⟨by rfl, ?_⟩) ?_ ?_
      rotate_left
      · intro w'
        go_simp
        with_reducible rfl
      rotate_left
      · simp only [Act.put, List.setIfInBounds_toArray, List.set_cons_zero, List.set_cons_succ, i64_w, i32_w]
        rfl
      refine last_ (i := 6) (N := none) #[true, true, true, true, true, true, true] rfl rfl (by kernel_rfl) (by decide) (fun K hK => ?_)
      have hr7 := HP7.out.rb
      have r0 : w7.cell? ⟨w.heap.size, 0, none⟩ = some (.slice none 0 0) := blk_cell hr7 0; have r1 : w7.cell? ⟨w.heap.size, 1, none⟩ = some (.slice none 0 0) := blk_cell hr7 1; have r2 : w7.cell? ⟨w.heap.size, 2, none⟩ = some (.int .u64 0) := blk_cell hr7 2; have r3 : w7.cell? ⟨w.heap.size, 3, none⟩ = some (.int .u64 0) := blk_cell hr7 3; have r4 : w7.cell? ⟨w.heap.size, 4, none⟩ = some (.int .u64 0) := blk_cell hr7 4; have r5 : w7.cell? ⟨w.heap.size, 5, none⟩ = some (.int .u64 0) := blk_cell hr7 5
      have q0 := blk_frozen hr7 0; have q1 := blk_frozen hr7 1; have q2 := blk_frozen hr7 2; have q3 := blk_frozen hr7 3; have q4 := blk_frozen hr7 4; have q5 := blk_frozen hr7 5
      have hu62 := Try.underlying45
      have hu60 := Try.underlying43
      have HR7 := Lib.hid hr7
      clear hr7
      refine skip_ (w1 := ?_) (by rfl) rfl ?_ ?_
      rotate_left
      · go_simp
        rfl
      refine hK.out _ _ ?_
      clear hK K r0 r1 r2 r3 r4 r5 q0 q1 q2 q3 q4 q5
      refine done_ (by kernel_rfl) ?_
      refine NoPanic.normal ?_
      go_wp2
      obtain ⟨hs, hS, hG⟩ := HE.out
      rw [hs, hS, hG]
      have ho := HP7.out.ord
      have hz : w.heap.size < wr.drew.heap.size := HPA.out.lt.2.2.2.2
      have hz6 : wr.drew.heap.size ≤ w6.heap.size := HB6.out.size
      have fin : ∀ i, i ≠ w.heap.size → ((((((w7.setCell ⟨w.heap.size, 0, none⟩ (.slice A (bks s).length c)).setCell ⟨w.heap.size, 1, none⟩ (.slice B S.length c2)).setCell ⟨w.heap.size, 2, none⟩ (.int .u64 G.n)).setCell ⟨w.heap.size, 3, none⟩ (.int .u64 G.nans)).setCell ⟨w.heap.size, 4, none⟩ (.int .u64 G.lo)).setCell ⟨w.heap.size, 5, none⟩ (.int .u64 G.hi)).heap[i]? = w7.heap[i]? := fun i hne => by
        rw [Below.heap_setCell _ _ _ i hne, Below.heap_setCell _ _ _ i hne, Below.heap_setCell _ _ _ i hne, Below.heap_setCell _ _ _ i hne, Below.heap_setCell _ _ _ i hne, Below.heap_setCell _ _ _ i hne]
      have RA := Kd.R_step (Kd.R_bound (Kd.R_below HRA.out HB7.out)) (fun q hq _ => fin q (by have := hq.2.1; omega))
      have RB0 : Kd.R (Kd.int .u64) 41 w7 w6.heap.size (fun _ => True) (.slice B S.length c2) S := Kd.R_of_own HOB.out (fun _ _ => trivial)
      have RB := Kd.R_step (Kd.R_bound RB0) (fun q hq _ => fin q (by have := hq.2.1; omega))
      refine bodyPost_ret (results_cell_row rfl _ _ w.heap.size 45 #[.slice A (bks s).length c, .slice B S.length c2, .int .u64 G.n, .int .u64 G.nans, .int .u64 G.lo, .int .u64 G.hi] (0, 0) _ rfl (blk_set (blk_set (blk_set (blk_set (blk_set (blk_set HR7.out 0 _) 1 _) 2 _) 3 _) 4 _) 5 _) Try.underlying45 rfl (by kernel_rfl)) rfl ⟨A, c, B, c2, rfl, HC.out, HC2.out, ?_, ?_, ?_⟩
      · exact Kd.R_lower (Kd.R_mono RA (fun _ _ => trivial)) (by omega)
      · exact Kd.R_lower (Kd.R_mono RB (fun _ _ => trivial)) (by omega)
      · have hx := Nat.le_refl w.heap.size
        exact below_set (below_set (below_set (below_set (below_set (below_set HP7.out.bel hx) hx) hx) hx) hx) hx
end Go.Proofs.Ytncgjbocgbnkcaa
namespace Go.Proofs.Ytncgjbocgbnkcaa
set_option linter.unusedVariables false
set_option linter.unusedSimpArgs false
open Go.RowKit Go.Maps Go.Proofs.YtncgjbocgbnkcaaW.PrintWords Go.Proofs.YtncgjbocgbnkcaaW.PrintLast Go.Proofs.YtncgjbocgbnkcaaW.PrintMore Go.Proofs.Ytncgjbocgbnkcaa.Pure Go.Proofs.Ytncgjbocgbnkcaa.Q Go.Proofs.Ytncgjbocgbnkcaa.Hi Go.Proofs.Ytncgjbocgbnkcaa.Ga
/-- A sketch: buckets, hashes, a gauge. -/
structure SV where
  h : List S68
  k : List Int
  g : G4
def SV.ok (v : SV) : Bool := okS v.h v.k v.g
def SV.wf (v : SV) : Prop := Pure.WB v.h ∧ Pure.WU v.k ∧ v.g.wf
theorem skV {w : World} {A : Option Addr} {c : Nat} {B : Option Addr} {d : Nat} {y : SV} (C0 : Kd.C k68 w A y.h.length y.h) (m0 : y.h.length ≤ c) (D0 : Kd.C (Kd.int .u64) w B y.k.length y.k) (n0 : y.k.length ≤ d) (w0 : y.wf) : SK w A c y.h B d y.k :=
  ⟨C0, m0, D0, n0, WB.len w0.1, by have := w0.2.1.1; omega⟩
def zV : SV := ⟨[], [], gzero⟩
def kV : Kd SV := Kd.iso kS (fun v : SV => (v.h, v.k, v.g.n, v.g.nans, v.g.lo, v.g.hi))
theorem kV_open {W : World} {v : SV} {cs : List Value} (h : kV.K W v cs) :
    ∃ A c B d, cs = [.slice A v.h.length c, .slice B v.k.length d, .int .u64 v.g.n, .int .u64 v.g.nans, .int .u64 v.g.lo, .int .u64 v.g.hi] ∧ v.h.length ≤ c ∧ v.k.length ≤ d ∧ Kd.C k68 W A v.h.length v.h ∧ Kd.C (Kd.int .u64) W B v.k.length v.k :=
  kS_open (y := (v.h, v.k, v.g.n, v.g.nans, v.g.lo, v.g.hi)) h
theorem kV_mk {W : World} {v : SV} {A : Option Addr} {c : Nat} {B : Option Addr} {d : Nat} (hc : v.h.length ≤ c) (hd : v.k.length ≤ d) (hC : Kd.C k68 W A v.h.length v.h) (hD : Kd.C (Kd.int .u64) W B v.k.length v.k) :
    kV.K W v [.slice A v.h.length c, .slice B v.k.length d, .int .u64 v.g.n, .int .u64 v.g.nans, .int .u64 v.g.lo, .int .u64 v.g.hi] :=
  ⟨[.slice A v.h.length c], [.slice B v.k.length d, .int .u64 v.g.n, .int .u64 v.g.nans, .int .u64 v.g.lo, .int .u64 v.g.hi], rfl, ⟨A, c, rfl, hc, hC⟩, [.slice B v.k.length d], [.int .u64 v.g.n, .int .u64 v.g.nans, .int .u64 v.g.lo, .int .u64 v.g.hi], rfl, ⟨B, d, rfl, hd, hD⟩,
    [.int .u64 v.g.n], [.int .u64 v.g.nans, .int .u64 v.g.lo, .int .u64 v.g.hi], rfl, rfl, [.int .u64 v.g.nans], [.int .u64 v.g.lo, .int .u64 v.g.hi], rfl, rfl, [.int .u64 v.g.lo], [.int .u64 v.g.hi], rfl, rfl, rfl⟩
def rd_V (xs : List SV) (i : Int) : SV := xs.getD i.toNat zV
theorem rd_V_at {l : List SV} {i : Nat} (h : i < l.length) : rd_V l (i : Int) = l[i] := by
  simp [rd_V, List.getD, List.getElem?_eq_getElem h]
theorem at_V {w : World} {A : Option Addr} {n : Nat} {xs : List SV} (h : Kd.C kV w A n xs) (i : Int) (h0 : 0 ≤ i) (h1 : i < n) :
    ∃ ad A1 c1 B1 d1, A = some ad ∧ (rd_V xs i).h.length ≤ c1 ∧ (rd_V xs i).k.length ≤ d1 ∧ Kd.C k68 w A1 (rd_V xs i).h.length (rd_V xs i).h ∧ Kd.C (Kd.int .u64) w B1 (rd_V xs i).k.length (rd_V xs i).k ∧
      w.cell? (ad.add (i.toNat * 6)) = some (.slice A1 (rd_V xs i).h.length c1) ∧ w.cell? ⟨(ad.add (i.toNat * 6)).block, (ad.add (i.toNat * 6)).off + 1, none⟩ = some (.slice B1 (rd_V xs i).k.length d1) ∧
      w.cell? ⟨(ad.add (i.toNat * 6)).block, (ad.add (i.toNat * 6)).off + 2, none⟩ = some (.int .u64 (rd_V xs i).g.n) ∧ w.cell? ⟨(ad.add (i.toNat * 6)).block, (ad.add (i.toNat * 6)).off + 3, none⟩ = some (.int .u64 (rd_V xs i).g.nans) ∧
      w.cell? ⟨(ad.add (i.toNat * 6)).block, (ad.add (i.toNat * 6)).off + 4, none⟩ = some (.int .u64 (rd_V xs i).g.lo) ∧ w.cell? ⟨(ad.add (i.toNat * 6)).block, (ad.add (i.toNat * 6)).off + 5, none⟩ = some (.int .u64 (rd_V xs i).g.hi) := by
  obtain ⟨ad, c, e, _, hK, hc0⟩ := Kd.C_get h zV i h0 h1
  have hc : ∀ j u, c[j]? = some u → w.cell? (ad.add (i.toNat * 6 + j)) = some u := hc0
  obtain ⟨A1, c1, B1, d1, rfl, h2, h3, h4, h5⟩ := kV_open hK
  exact ⟨ad, A1, c1, B1, d1, e, h2, h3, h4, h5, hc 0 _ rfl, by rw [← add_field _ _ 1 (by omega)]; exact hc 1 _ rfl, by rw [← add_field _ _ 2 (by omega)]; exact hc 2 _ rfl, by rw [← add_field _ _ 3 (by omega)]; exact hc 3 _ rfl, by rw [← add_field _ _ 4 (by omega)]; exact hc 4 _ rfl, by rw [← add_field _ _ 5 (by omega)]; exact hc 5 _ rfl⟩
theorem opensV : Opens Try.prog 45 kV SV.wf :=
  Opens.imp (opens_iso (fun v : SV => (v.h, v.k, v.g.n, v.g.nans, v.g.lo, v.g.hi)) (fun x => (⟨x.1, x.2.1, ⟨x.2.2.1, x.2.2.2.1, x.2.2.2.2.1, x.2.2.2.2.2⟩⟩ : SV)) (fun _ => rfl) opensS) (fun v h => ⟨h.1, h.2.1, U.of_wf h.2.2.1, U.of_wf h.2.2.2.1, U.of_wf h.2.2.2.2.1, U.of_wf h.2.2.2.2.2⟩)
theorem snocs {α : Type} {P : List α → Prop} (h0 : P []) (h1 : ∀ l x, P l → P (l ++ [x])) (l : List α) : P l := by
  have key : ∀ n (l : List α), l.length = n → P l := by
    intro n
    induction n with
    | zero => intro l hl; rw [List.length_eq_zero_iff.1 hl]; exact h0
    | succ n ih =>
      intro l hl
      have hne : l ≠ [] := by rintro rfl; simp at hl
      rw [← List.dropLast_concat_getLast hne]
      exact h1 _ _ (ih _ (by simp [hl]))
  exact key _ l rfl
def sumH (l : List SV) : List Int := l.foldl (fun s v => merged s v.h) (hzero 7424)
def sumK (l : List SV) : List Int := l.foldl (fun S v => kmany S v.k) []
def sumG (l : List SV) : G4 := l.foldl (fun G v => gmerge G v.g) gzero
def sumV (l : List SV) : SV := ⟨bks (sumH l), sumK l, sumG l⟩
theorem sumH_snoc (l : List SV) (v : SV) : sumH (l ++ [v]) = merged (sumH l) v.h := by simp [sumH, List.foldl_append]
theorem sumK_snoc (l : List SV) (v : SV) : sumK (l ++ [v]) = kmany (sumK l) v.k := by simp [sumK, List.foldl_append]
theorem sumG_snoc (l : List SV) (v : SV) : sumG (l ++ [v]) = gmerge (sumG l) v.g := by simp [sumG, List.foldl_append]
theorem SV.ok_iff (v : SV) : v.ok = true ↔ chk v.h = true ∧ KOk v.k ∧ gchk v.g = true := by
  unfold SV.ok okS
  rw [Bool.and_eq_true, Bool.and_eq_true, decide_eq_true_eq, and_assoc]
theorem kmany_good {l S : List Int} (hS : KGood S) (hl : ∀ x ∈ l, 0 ≤ x ∧ x < 18446744073709551616) : KGood (kmany S l) := by
  induction l generalizing S with
  | nil => exact hS
  | cons x l ih => exact ih (kgood_khash hS (hl x (by simp))) (fun y hy => hl y (by simp [hy]))
/-- All may be. -/
def AllOk (l : List SV) : Prop := ∀ v ∈ l, v.wf ∧ v.ok = true
theorem AllOk.nil : AllOk [] := fun v h => by simp at h
theorem AllOk.snoc {l : List SV} {v : SV} (h : AllOk l) (hw : v.wf) (ho : v.ok = true) : AllOk (l ++ [v]) := fun u hu => by
  rcases List.mem_append.1 hu with hu | hu
  · exact h u hu
  · rw [List.mem_singleton] at hu; subst hu; exact ⟨hw, ho⟩
theorem AllOk.front {l : List SV} {v : SV} (h : AllOk (l ++ [v])) : AllOk l ∧ v.wf ∧ v.ok = true := ⟨fun u hu => h u (by simp [hu]), h v (by simp)⟩
theorem sum_good {l : List SV} : AllOk l → hgood (sumH l) = true ∧ KGood (sumK l) ∧ (sumG l).wf ∧ gchk (sumG l) = true := by
  refine snocs (P := fun l => AllOk l → hgood (sumH l) = true ∧ KGood (sumK l) ∧ (sumG l).wf ∧ gchk (sumG l) = true) (fun _ => ⟨hzero_good, kgood_nil, gzero_wf, gzero_chk⟩) (fun l v ih h => ?_) l
  obtain ⟨h1, hw, ho⟩ := h.front
  obtain ⟨a1, a2, a3, a4⟩ := ih h1
  obtain ⟨o1, o2, o3⟩ := (SV.ok_iff v).1 ho
  rw [sumH_snoc, sumK_snoc, sumG_snoc]
  exact ⟨merged_good_of (Bok.of hw.1 o1) a1, kmany_good a2 hw.2.1.num, gmerge_wf a3 hw.2.2, gmerge_chk a3 hw.2.2 a4 o3⟩
theorem WU_good {l : List Int} (h : KGood l) : Pure.WU l :=
  ⟨by have := h.2.1; omega, by have := h.2.1; omega, fun x hx => wf_u64 (h.2.2 x hx).1 (h.2.2 x hx).2⟩
theorem sumV_ok {l : List SV} (h : AllOk l) : (sumV l).wf ∧ (sumV l).ok = true := by
  obtain ⟨a1, a2, a3, a4⟩ := sum_good h
  exact ⟨⟨bks_WB a1, WU_good a2, a3⟩, (SV.ok_iff _).2 ⟨bks_chk a1, ⟨a2.1, a2.2.1⟩, a4⟩⟩
theorem sumV_snoc {l : List SV} (h : AllOk l) {v : SV} (hw : v.wf) (ho : v.ok = true) : sumV (l ++ [v]) = sumV [sumV l, v] := by
  obtain ⟨a1, a2, a3, a4⟩ := sum_good h
  show (⟨bks (sumH (l ++ [v])), sumK (l ++ [v]), sumG (l ++ [v])⟩ : SV) = ⟨bks (merged (merged (hzero 7424) (bks (sumH l))) v.h), kmany (kmany [] (sumK l)) v.k, gmerge (gmerge gzero (sumG l)) v.g⟩
  rw [sumH_snoc, sumK_snoc, sumG_snoc, merged_bks a1, kmany_nil a2.1 a2.2.1, gmerge_zero_left a3]
theorem zV_wf : zV.wf := ⟨⟨by decide, by decide, fun b hb => by simp [zV] at hb⟩, ⟨by decide, by decide, fun b hb => by simp [zV] at hb⟩, gzero_wf⟩
end Go.Proofs.Ytncgjbocgbnkcaa
namespace Go.Proofs.Ytncgjbocgbnkcaa
set_option linter.unusedVariables false
set_option linter.unusedSimpArgs false
open Go.RowKit Go.Maps Go.Proofs.YtncgjbocgbnkcaaW.PrintWords Go.Proofs.YtncgjbocgbnkcaaW.PrintLast Go.Proofs.YtncgjbocgbnkcaaW.PrintMore Go.Proofs.Ytncgjbocgbnkcaa.Pure Go.Proofs.Ytncgjbocgbnkcaa.Q Go.Proofs.Ytncgjbocgbnkcaa.Hi Go.Proofs.Ytncgjbocgbnkcaa.Ga
theorem PS.hmerge {w0 W : World} {r g k b x : Nat} {s S : List Int} {G : G4} (h : PS w0 W r g k b x s S G) (hs : hgood s = true) {A : Option Addr} {c : Nat} {l : List S68} (hc : l.length ≤ c) (hC : Kd.C k68 w0 A l.length l) (hw : Pure.WB l) (hl : Pure.chk l = true) :
    Calls Try.prog 86 #[.pointer (some ⟨g, 0, none⟩), .slice A l.length c] W fun e w' => e = .returned (.int .i64 0) ∧ PS w0 w' r g k b x (Pure.merged s l) S G ∧ W.heap.size ≤ w'.heap.size ∧ ∀ i, i < W.heap.size → i ≠ g → w'.heap[i]? = W.heap[i]? :=
  (h.hs.merge 0 rfl hs hc (h.hs.old 0 rfl hC) hw hl).mono fun _ w' ⟨he, h1, hk⟩ => by
    have l := h.lt
    have o := h.ord
    have q : ∀ i, i < W.heap.size → i ≠ g → w'.heap[i]? = W.heap[i]? := fun i hi hne => hk.2 i hi hne (by simp)
    exact ⟨he, ⟨h1, h.ks.one h1.bel (q k (by omega) (by omega)) (q b (by omega) (by omega)), (q x (by omega) (by omega)).trans h.gb, (q r (by omega) (by omega)).trans h.rb, o⟩, hk.1, q⟩
theorem PS.kmerge {w0 W : World} {r g k b x : Nat} {s S : List Int} {G : G4} (h : PS w0 W r g k b x s S G) {A : Option Addr} {c : Nat} {l : List Int} (hC : Kd.C (Kd.int .u64) w0 A l.length l)
    (hr : ∀ x ∈ l, 0 ≤ x ∧ x < 18446744073709551616) (hok : KOk l) :
    Calls Try.prog 87 #[.pointer (some ⟨k, 0, none⟩), .slice A l.length c] W fun e w' => e = .returned (.int .i64 0) ∧ PS w0 w' r g k b x s (kmany S l) G ∧ W.heap.size ≤ w'.heap.size ∧ ∀ i, i < W.heap.size → i ≠ k → i ≠ b → w'.heap[i]? = W.heap[i]? :=
  (h.ks.mergeOld 0 rfl hC hr hok).mono fun _ w' ⟨he, h1, hk⟩ => by
    have l := h.lt
    have o := h.ord
    have q : ∀ i, i < W.heap.size → i ≠ k → i ≠ b → w'.heap[i]? = W.heap[i]? := hk.2.2.2.2
    exact ⟨he, ⟨h.hs.one h1.bel (q g (by omega) (by omega) (by omega)), h1, (q x (by omega) (by omega) (by omega)).trans h.gb, (q r (by omega) (by omega) (by omega)).trans h.rb, o⟩, hk.2.2.2.1, q⟩
/-- What Sum comes to. -/
def SumPost (l : List SV) (w : World) (e : Ending) (w' : World) : Prop :=
  (AllOk l → ∃ A c B d, e = .returned (.tuple #[.agg #[.slice A (sumV l).h.length c, .slice B (sumV l).k.length d, .int .u64 (sumV l).g.n, .int .u64 (sumV l).g.nans, .int .u64 (sumV l).g.lo, .int .u64 (sumV l).g.hi], .int .i64 0]) ∧ (sumV l).h.length ≤ c ∧ (sumV l).k.length ≤ d ∧
    Kd.R k68 68 w' w.heap.size (fun _ => True) (.slice A (sumV l).h.length c) (sumV l).h ∧ Kd.R (Kd.int .u64) 41 w' w.heap.size (fun _ => True) (.slice B (sumV l).k.length d) (sumV l).k) ∧
  (¬ AllOk l → e = .returned (.tuple #[.agg #[.slice none 0 0, .slice none 0 0, .int .u64 0, .int .u64 0, .int .u64 0, .int .u64 0], .int .i64 5])) ∧ Below w.heap.size w w'
set_option maxHeartbeats 4000000 in
set_option maxRecDepth 100000 in
theorem sum_any (A0 : Option Addr) (c0 : Nat) (l : List SV) (w : World) (C0 : Kd.C kV w A0 l.length l) (hO : ∀ v ∈ l, v.wf) :
    Calls Try.prog 44 #[.slice A0 l.length c0] w (SumPost l w) := by
  have hlen : l.length ≤ 9223372036854775807 := C0.2.1
  have HC0 := Lib.hid C0; have HO := Lib.hid hO
  clear C0 hO
  go_enter Try.func44, Try.ntmps44
  go_wp2_with (first
    | (go_at_call 57; refine (new_at _ (w.heap.size + 1) (by simp)).mono ?_; rintro e w1 ⟨rfl, hh, hb1⟩)
    | (go_at_call 65; refine (new_u _).mono ?_; rintro e w2 ⟨k, b, rfl, hk, l1, l2, hb2⟩))
  have hS := PS.start w w1 w2 hh hb1 hk l1 l2 hb2
  obtain ⟨g, hg⟩ : ∃ g, w.heap.size + 1 = g := ⟨_, rfl⟩
  obtain ⟨x, hx⟩ : ∃ x, w2.heap.size = x := ⟨_, rfl⟩
  rw [hg, hx] at hS
  rw [hg, hx]
  clear hh hb1 hk l1 l2 hb2 hg hx
  go_loopw [14] (fun v14 wr => ∃ i : Nat, v14 = .int .i64 i ∧ i ≤ l.length ∧ AllOk (l.take i) ∧ PS w wr w.heap.size g k b x (sumH (l.take i)) (sumK (l.take i)) (sumG (l.take i))) (fun vi _ => l.length - (intOf vi).toNat)
  case atStart => exact ⟨0, rfl, Nat.zero_le _, by rw [List.take_zero]; exact AllOk.nil, hS⟩
  case round =>
    clear hS
    obtain ⟨i, rfl, hi, hA, hP⟩ := hrel
    have HP := Lib.hid hP; have HA := Lib.hid hA
    clear hA
    by_cases hil : i < l.length
    · have e1 : decide ((i : Int) < (l.length : Int)) = true := decide_eq_true (by omega)
      have e1b : decide (i < l.length) = true := decide_eq_true hil
      obtain ⟨ad, A1, c1, B1, d1, hax, m1, m2, C1, C2, q0, q1, q2, q3, q4, q5⟩ := at_V HC0.out (i : Int) (by omega) (by omega)
      rw [Int.toNat_natCast] at q0 q1 q2 q3 q4 q5
      rw [rd_V_at hil] at m1 m2 C1 C2 q0 q1 q2 q3 q4 q5
      obtain ⟨v, hv⟩ : ∃ v, l[i] = v := ⟨_, rfl⟩
      rw [hv] at m1 m2 C1 C2 q0 q1 q2 q3 q4 q5
      have et : l.take (i + 1) = l.take i ++ [v] := by rw [← hv, List.take_succ_eq_append_getElem hil]
      have eH := sumH_snoc (l.take i) v
      have eK := sumK_snoc (l.take i) v
      have eG := sumG_snoc (l.take i) v
      have eA : v.ok = true → AllOk (l.take (i + 1)) := fun ho => by rw [et]; exact HA.out.snoc (HO.out v (by rw [← hv]; exact List.getElem_mem _)) ho
      have eN : v.ok = false → ¬ AllOk l := fun ho ha => by have := (ha v (by rw [← hv]; exact List.getElem_mem _)).2; rw [ho] at this; cases this
      rw [← et] at eH eK eG
      have hwf := HO.out v (by rw [← hv]; exact List.getElem_mem _)
      have hgd := (sum_good HA.out).1
      have hGw := (sum_good HA.out).2.2.1
      have HW1 := Lib.hid hwf.1; have HW2 := Lib.hid hwf.2.1; have HW3 := Lib.hid hwf.2.2; have HI := Lib.hid hil; have HEH := Lib.hid eH; have HEK := Lib.hid eK; have HEG := Lib.hid eG; have HEA := Lib.hid eA; have HEN := Lib.hid eN
      have p0 := (hP.bel.cell (World.block_lt_of_cell? w _ q0)).trans q0
      have p1 := (hP.bel.cell (World.block_lt_of_cell? w _ q1)).trans q1
      have p2 := (hP.bel.cell (World.block_lt_of_cell? w _ q2)).trans q2
      have p3 := (hP.bel.cell (World.block_lt_of_cell? w _ q3)).trans q3
      have p4 := (hP.bel.cell (World.block_lt_of_cell? w _ q4)).trans q4
      have p5 := (hP.bel.cell (World.block_lt_of_cell? w _ q5)).trans q5
      obtain ⟨s, hs⟩ : ∃ s, sumH (l.take i) = s := ⟨_, rfl⟩
      obtain ⟨S, hS⟩ : ∃ S, sumK (l.take i) = S := ⟨_, rfl⟩
      obtain ⟨G, hG⟩ : ∃ G, sumG (l.take i) = G := ⟨_, rfl⟩
      rw [hs] at HP HEH hgd
      rw [hS] at HP HEK
      rw [hG] at HP HEG hGw
      have HGD := Lib.hid hgd; have HGW := Lib.hid hGw
      have hsk : SK w A1 c1 v.h B1 d1 v.k := ⟨C1, m1, C2, m2, WB.len hwf.1, by have := hwf.2.1.1; omega⟩
      have HSK := Lib.hid hsk
      obtain ⟨G1, hG1⟩ : ∃ G1, gmerge G v.g = G1 := ⟨_, rfl⟩
      rw [hG1] at HEG
      have GA := fun W => gauge_Merge.calls G.n G.nans G.lo G.hi v.g.n v.g.nans v.g.lo v.g.hi G1.n G1.nans G1.lo G1.hi W (by rw [← hG1]; exact merge_eq HGW.out HW3.out)
      have hlx := HP.out.lt.1
      have hox := HP.out.ord
      have hP1 := HP.out.below (below_alloc (Below.refl wr.heap.size wr) (.cells #[.slice A1 v.h.length c1, .slice B1 v.k.length d1, .int .u64 v.g.n, .int .u64 v.g.nans, .int .u64 v.g.lo, .int .u64 v.g.hi] 45))
      have hb1 := blk_new wr (.cells #[.slice A1 v.h.length c1, .slice B1 v.k.length d1, .int .u64 v.g.n, .int .u64 v.g.nans, .int .u64 v.g.lo, .int .u64 v.g.hi] 45)
      have hz1 : (wr.alloc (.cells #[.slice A1 v.h.length c1, .slice B1 v.k.length d1, .int .u64 v.g.n, .int .u64 v.g.nans, .int .u64 v.g.lo, .int .u64 v.g.hi] 45)).heap.size = wr.heap.size + 1 := by simp
      have HP1 := Lib.hid hP1; have HB1 := Lib.hid hb1; have HZ1 := Lib.hid hz1
      have hu62 := Try.underlying45
      have hu60 := Try.underlying43
      have CC := sk_check (SK.below hsk hP1.bel (Nat.le_refl _)) v.g hwf.2.2
      subst hax
      by_cases hok : v.ok = true
      · obtain ⟨o1, o2, o3⟩ := (SV.ok_iff v).1 hok
        have HA1 := Lib.hid (HEA.out hok)
        rw [show okS v.h v.k v.g = true from hok] at CC
        have HO1 := Lib.hid o1; have HO2 := Lib.hid o2
        clear hs hS hG hv hG1 hP1 hb1 hz1 hgd hGw hok o1 o2 o3 hwf hsk m1 m2 C1 C2 q0 q1 q2 q3 q4 q5 eH eK eG et eA eN HEN hP
        go_wp2_with (first
          | (go_at_call 29; (with_reducible refine CC.mono ?_); rintro e w2 ⟨rfl, hb2⟩; have hP2 := HP1.out.below hb2; have hx2 := (hb2.block wr.heap.size (by rw [HZ1.out]; omega)).trans HB1.out; have c0 : w2.cell? ⟨wr.heap.size, 0, none⟩ = some (.slice A1 v.h.length c1) := blk_cell hx2 0; have HP2 := Lib.hid hP2; have HB2 := Lib.hid hx2; clear hP2 hx2 hb2 CC)
          | (go_at_call 86; (with_reducible refine (HP2.out.hmerge HGD.out HSK.out.l1 HSK.out.c1 HW1.out HO1.out).mono ?_); rintro e w3 ⟨rfl, hP3, hs3, hq3⟩; have hb3 := (hq3 wr.heap.size (blk_lt HB2.out) (by omega)).trans HB2.out; clear c0; have c1_ : w3.cell? ⟨wr.heap.size, 1, none⟩ = some (.slice B1 v.k.length d1) := blk_cell hb3 1; have HP3 := Lib.hid hP3; have HB3 := Lib.hid hb3; clear hP3 hs3 hq3 hb3 HP2 HB2)
          | (go_at_call 87; (with_reducible refine (HP3.out.kmerge HSK.out.c2 HW2.out.num HO2.out).mono ?_); rintro e w4 ⟨rfl, hP4, hs4, hq4⟩; have hb4 := (hq4 wr.heap.size (blk_lt HB3.out) (by omega) (by omega)).trans HB3.out; have b2 : w4.cell? ⟨wr.heap.size, 2, none⟩ = some (.int .u64 v.g.n) := blk_cell hb4 2; have b3 : w4.cell? ⟨wr.heap.size, 3, none⟩ = some (.int .u64 v.g.nans) := blk_cell hb4 3; have b4 : w4.cell? ⟨wr.heap.size, 4, none⟩ = some (.int .u64 v.g.lo) := blk_cell hb4 4; have b5 : w4.cell? ⟨wr.heap.size, 5, none⟩ = some (.int .u64 v.g.hi) := blk_cell hb4 5; have hg4 := hP4.gb; have d0 : w4.cell? ⟨x, 0, none⟩ = some (.int .u64 G.n) := blk_cell hg4 0; have d1_ : w4.cell? ⟨x, 1, none⟩ = some (.int .u64 G.nans) := blk_cell hg4 1; have d2 : w4.cell? ⟨x, 2, none⟩ = some (.int .u64 G.lo) := blk_cell hg4 2; have d3 : w4.cell? ⟨x, 3, none⟩ = some (.int .u64 G.hi) := blk_cell hg4 3; have HP4 := Lib.hid hP4; have hz4 := hP4.lt.1; clear hP4 hs4 hq4 hb4 hg4 c1_ HP3 HB3)
          | (go_at_call 88; (with_reducible refine (GA _).mono ?_); rintro e w5 ⟨rfl, hb5⟩; have hP5 := HP4.out.below hb5; clear GA hb5 b2 b3 b4 b5 d0 d1_ d2 d3 HP4; have hg5 := hP5.gb; have d0 : w5.cell? ⟨x, 0, none⟩ = some (.int .u64 G.n) := blk_cell hg5 0; have d1_ : w5.cell? ⟨x, 1, none⟩ = some (.int .u64 G.nans) := blk_cell hg5 1; have d2 : w5.cell? ⟨x, 2, none⟩ = some (.int .u64 G.lo) := blk_cell hg5 2; have d3 : w5.cell? ⟨x, 3, none⟩ = some (.int .u64 G.hi) := blk_cell hg5 3; have f0 := blk_frozen hg5 0; have f1 := blk_frozen hg5 1; have f2' := blk_frozen hg5 2; have f3 := blk_frozen hg5 3; have HP5 := Lib.hid hP5; have HG5 := Lib.hid hg5; clear hP5 hg5))
        go_roundw
        case rel => exact ⟨i + 1, by go_num, by have := HI.out; omega, HA1.out, by rw [HEH.out, HEK.out, HEG.out]; exact HP5.out.put4 G1⟩
        case measure => have := HI.out; simp [intOf]; omega
      · have hno : v.ok = false := by simpa using hok
        have HN := Lib.hid (HEN.out hno)
        rw [show okS v.h v.k v.g = false from hno] at CC
        clear hs hS hG hv hG1 hP1 hb1 hz1 hgd hGw hok hno hwf hsk m1 m2 C1 C2 q0 q1 q2 q3 q4 q5 eH eK eG et eA eN HEN GA hP
        go_wp2_with (go_at_call 29; (with_reducible refine CC.mono ?_); rintro e w2 ⟨rfl, hb2⟩; have hP2 := HP1.out.below hb2; have hr2 := hP2.rb; have r0 : w2.cell? ⟨w.heap.size, 0, none⟩ = some (.slice none 0 0) := blk_cell hr2 0; have r1 : w2.cell? ⟨w.heap.size, 1, none⟩ = some (.slice none 0 0) := blk_cell hr2 1; have r2 : w2.cell? ⟨w.heap.size, 2, none⟩ = some (.int .u64 0) := blk_cell hr2 2; have r3 : w2.cell? ⟨w.heap.size, 3, none⟩ = some (.int .u64 0) := blk_cell hr2 3; have r4 : w2.cell? ⟨w.heap.size, 4, none⟩ = some (.int .u64 0) := blk_cell hr2 4; have r5 : w2.cell? ⟨w.heap.size, 5, none⟩ = some (.int .u64 0) := blk_cell hr2 5; have t0 := blk_frozen hr2 0; have t1 := blk_frozen hr2 1; have t2 := blk_frozen hr2 2; have t3 := blk_frozen hr2 3; have t4 := blk_frozen hr2 4; have t5 := blk_frozen hr2 5; have HP2 := Lib.hid hP2; have HR2 := Lib.hid hr2; clear hP2 hr2 hb2 CC)
        have hx := Nat.le_refl w.heap.size
        refine bodyPost_ret (results_ct rfl _ _ w.heap.size 45 #[.slice none 0 0, .slice none 0 0, .int .u64 0, .int .u64 0, .int .u64 0, .int .u64 0] (0, 0) _ rfl (blk_set (blk_set (blk_set (blk_set (blk_set (blk_set HR2.out 0 _) 1 _) 2 _) 3 _) 4 _) 5 _) Try.underlying45 rfl (by kernel_rfl)) rfl ⟨fun ha => absurd ha HN.out, fun _ => rfl, below_set (below_set (below_set (below_set (below_set (below_set HP2.out.bel hx) hx) hx) hx) hx) hx⟩
    · have e1 : decide ((i : Int) < (l.length : Int)) = false := decide_eq_false (by omega)
      have e1b : decide (i < l.length) = false := decide_eq_false hil
      obtain rfl : i = l.length := by omega
      rw [List.take_length] at hP
      rw [List.take_length] at HA
      have hgood_ := (sum_good HA.out).1
      obtain ⟨s, hs⟩ : ∃ s, sumH l = s := ⟨_, rfl⟩
      obtain ⟨S, hS⟩ : ∃ S, sumK l = S := ⟨_, rfl⟩
      obtain ⟨G, hG⟩ : ∃ G, sumG l = G := ⟨_, rfl⟩
      rw [hs, hS, hG] at hP
      rw [hs] at hgood_
      have HE := Lib.hid (And.intro hs (And.intro hS hG))
      clear HP; have HP := Lib.hid hP; clear hP; have HGD := Lib.hid hgood_
      clear hs hS hG hgood_ hil
      go_wp2
      have hPa := HP.out.below (below_drew (Below.refl wr.heap.size wr))
      have hga := hPa.gb
      have d0 : wr.drew.cell? ⟨x, 0, none⟩ = some (.int .u64 G.n) := blk_cell hga 0; have d1 : wr.drew.cell? ⟨x, 1, none⟩ = some (.int .u64 G.nans) := blk_cell hga 1; have d2 : wr.drew.cell? ⟨x, 2, none⟩ = some (.int .u64 G.lo) := blk_cell hga 2; have d3 : wr.drew.cell? ⟨x, 3, none⟩ = some (.int .u64 G.hi) := blk_cell hga 3
      have HPA := Lib.hid hPa
      have hne : ¬ w.heap.size = x := by have := hPa.ord; omega
      have CB := HPA.out.hs.bks 0 rfl HGD.out
      clear hPa hga
      refine wp_region_noPanic ?_
      refine start_ (n := 8) (S := fun w' => w'.cell? ⟨x, 0, none⟩ = some (.int .u64 G.n) ∧ w'.cell? ⟨x, 1, none⟩ = some (.int .u64 G.nans) ∧ w'.cell? ⟨x, 2, none⟩ = some (.int .u64 G.lo) ∧ w'.cell? ⟨x, 3, none⟩ = some (.int .u64 G.hi)) (ds := [6]) #[false, false, false, false, false, false, false, false] (by kernel_rfl) rfl rfl ⟨d0, d1, d2, d3⟩ (fun hHeld => ?_)
      clear d0 d1 d2 d3
      refine pure_ (i := 0) (N := some 35) (v := ?_) (a' := ?_) #[true, false, false, false, false, false, false, false] rfl rfl (by kernel_rfl) (fun _ _ _ h => h) (Or.inl ⟨by rfl, ?_⟩) ?_ ?_
      rotate_left
      · intro w'
        go_simp
        with_reducible rfl
      rotate_left
      · simp only [Act.put, List.setIfInBounds_toArray, List.set_cons_zero, List.set_cons_succ, i64_w, i32_w]
        rfl
      refine pure_ (i := 2) (N := some 37) (v := ?_) (a' := ?_) #[true, false, true, false, false, false, false, false] rfl rfl (by kernel_rfl) (fun _ _ _ h => h) (Or.inl ⟨by rfl, ?_⟩) ?_ ?_
      rotate_left
      · intro w'
        go_simp
        with_reducible rfl
      rotate_left
      · simp only [Act.put, List.setIfInBounds_toArray, List.set_cons_zero, List.set_cons_succ, i64_w, i32_w]
        rfl
      refine take_ (i := 4) (N := some 39) (v := ?_) (a' := ?_) #[true, false, true, false, true, false, false, false] rfl rfl (by kernel_rfl) (fun _ _ _ h => h) (Or.inl ⟨by rfl, ?_⟩) hHeld ?_ ?_
      rotate_left
      · rintro w' ⟨s0, s1, s2, s3⟩
        go_simp
        with_reducible rfl
      rotate_left
      · simp only [Act.put, List.setIfInBounds_toArray, List.set_cons_zero, List.set_cons_succ, i64_w, i32_w]
        rfl
      refine one_ (i := 1) (N := some 36) #[true, true, true, false, true, false, false, false] rfl rfl (by kernel_rfl) (by decide) (fun K hK => ?_)
      refine goes_ Try.func68 (by kernel_rfl) rfl #[.pointer (some ⟨g, 0, none⟩)] (by rfl) rfl rfl (by (try simp only [List.map_toArray, List.map_cons, List.map_nil]); first | done | rfl) ?_
      with_reducible refine CB.mono ?_
      rintro e w6 ⟨A, c, rfl, hc, hCA, hRA, hH6, hb6⟩
      refine ⟨_, rfl, ?_⟩
      have hP6 := HPA.out.below hb6
      have hg6 := hP6.gb
      have d0 : w6.cell? ⟨x, 0, none⟩ = some (.int .u64 G.n) := blk_cell hg6 0
      have d1 : w6.cell? ⟨x, 1, none⟩ = some (.int .u64 G.nans) := blk_cell hg6 1
      have d2 : w6.cell? ⟨x, 2, none⟩ = some (.int .u64 G.lo) := blk_cell hg6 2
      have d3 : w6.cell? ⟨x, 3, none⟩ = some (.int .u64 G.hi) := blk_cell hg6 3
      have HP6 := Lib.hid hP6; have HRA := Lib.hid hRA; have HC := Lib.hid hc; have CH := HP6.out.ks.hashes 0 rfl; have HB6 := Lib.hid hb6
      clear hP6 hg6 hRA hc hb6 CB hCA hH6
      refine hK.out _ _ ⟨d0, d1, d2, d3⟩ (fun hHeld => ?_)
      clear d0 d1 d2 d3
      clear hK K
      refine norm_ (a' := ?_) ?_ ?_
      rotate_left
      · show Act.put _ (some 36) _ = _
        simp only [Act.put, List.setIfInBounds_toArray, List.set_cons_zero, List.set_cons_succ, i64_w, i32_w]
        rfl
      refine one_ (i := 3) (N := some 38) #[true, true, true, true, true, false, false, false] rfl rfl (by kernel_rfl) (by decide) (fun K hK => ?_)
      refine goes_ Try.func69 (by kernel_rfl) rfl #[.pointer (some ⟨k, 0, none⟩)] (by rfl) rfl rfl (by (try simp only [List.map_toArray, List.map_cons, List.map_nil]); first | done | rfl) ?_
      with_reducible refine CH.mono ?_
      rintro e w7 ⟨B, c2, rfl, hc2, hCB, hoB, hK7, hb7⟩
      refine ⟨_, rfl, ?_⟩
      have hP7 := HP6.out.below hb7
      have hg7 := hP7.gb
      have d0 : w7.cell? ⟨x, 0, none⟩ = some (.int .u64 G.n) := blk_cell hg7 0
      have d1 : w7.cell? ⟨x, 1, none⟩ = some (.int .u64 G.nans) := blk_cell hg7 1
      have d2 : w7.cell? ⟨x, 2, none⟩ = some (.int .u64 G.lo) := blk_cell hg7 2
      have d3 : w7.cell? ⟨x, 3, none⟩ = some (.int .u64 G.hi) := blk_cell hg7 3
      have HP7 := Lib.hid hP7; have HOB := Lib.hid hoB; have HC2 := Lib.hid hc2; have HB7 := Lib.hid hb7
      clear hP7 hg7 hoB hc2 hb7 CH hCB hK7
      refine hK.out _ _ ⟨d0, d1, d2, d3⟩ (fun hHeld => ?_)
      clear d0 d1 d2 d3
      clear hK K
      refine norm_ (a' := ?_) ?_ ?_
      rotate_left
      · show Act.put _ (some 38) _ = _
        simp only [Act.put, List.setIfInBounds_toArray, List.set_cons_zero, List.set_cons_succ, i64_w, i32_w]
        rfl
      refine pure_ (i := 5) (N := some 40) (v := ?_) (a' := ?_) #[true, true, true, true, true, true, false, false] rfl rfl (by kernel_rfl) (fun _ _ _ h => h) (Or.inl ⟨by rfl, ?_⟩) ?_ ?_
      rotate_left
      · intro w'
        go_simp
        with_reducible rfl
      rotate_left
      · simp only [Act.put, List.setIfInBounds_toArray, List.set_cons_zero, List.set_cons_succ, i64_w, i32_w]
        rfl
      refine last_ (i := 6) (N := none) #[true, true, true, true, true, true, true, false] rfl rfl (by kernel_rfl) (by decide) (fun K hK => ?_)
      have hr7 := HP7.out.rb
      have r0 : w7.cell? ⟨w.heap.size, 0, none⟩ = some (.slice none 0 0) := blk_cell hr7 0; have r1 : w7.cell? ⟨w.heap.size, 1, none⟩ = some (.slice none 0 0) := blk_cell hr7 1; have r2 : w7.cell? ⟨w.heap.size, 2, none⟩ = some (.int .u64 0) := blk_cell hr7 2; have r3 : w7.cell? ⟨w.heap.size, 3, none⟩ = some (.int .u64 0) := blk_cell hr7 3; have r4 : w7.cell? ⟨w.heap.size, 4, none⟩ = some (.int .u64 0) := blk_cell hr7 4; have r5 : w7.cell? ⟨w.heap.size, 5, none⟩ = some (.int .u64 0) := blk_cell hr7 5
      have q0 := blk_frozen hr7 0; have q1 := blk_frozen hr7 1; have q2 := blk_frozen hr7 2; have q3 := blk_frozen hr7 3; have q4 := blk_frozen hr7 4; have q5 := blk_frozen hr7 5
      have hu62 := Try.underlying45
      have hu60 := Try.underlying43
      have HR7 := Lib.hid hr7
      clear hr7
      refine skip_ (w1 := ?_) (by rfl) rfl ?_ ?_
      rotate_left
      · go_simp
        rfl
      refine hK.out _ _ ?_
      clear hK K r0 r1 r2 r3 r4 r5 q0 q1 q2 q3 q4 q5
      refine pure_ (i := 7) (N := some 3) (v := ?_) (a' := ?_) #[true, true, true, true, true, true, true, true] rfl rfl (by kernel_rfl) (fun _ _ _ h => h) (Or.inl ⟨by rfl, ?_⟩) ?_ ?_
      rotate_left
      · intro w'
        go_simp
        with_reducible rfl
      rotate_left
      · simp only [Act.put, List.setIfInBounds_toArray, List.set_cons_zero, List.set_cons_succ, i64_w, i32_w]
        rfl
      refine done_ (by kernel_rfl) ?_
      refine NoPanic.normal ?_
      go_wp2
      obtain ⟨hs, hS, hG⟩ := HE.out
      have ho := HP7.out.ord
      have hz : w.heap.size < wr.drew.heap.size := HPA.out.lt.2.2.2.2
      have hz6 : wr.drew.heap.size ≤ w6.heap.size := HB6.out.size
      have fin : ∀ i, i ≠ w.heap.size → ((((((w7.setCell ⟨w.heap.size, 0, none⟩ (.slice A (bks s).length c)).setCell ⟨w.heap.size, 1, none⟩ (.slice B S.length c2)).setCell ⟨w.heap.size, 2, none⟩ (.int .u64 G.n)).setCell ⟨w.heap.size, 3, none⟩ (.int .u64 G.nans)).setCell ⟨w.heap.size, 4, none⟩ (.int .u64 G.lo)).setCell ⟨w.heap.size, 5, none⟩ (.int .u64 G.hi)).heap[i]? = w7.heap[i]? := fun i hne => by
        rw [Below.heap_setCell _ _ _ i hne, Below.heap_setCell _ _ _ i hne, Below.heap_setCell _ _ _ i hne, Below.heap_setCell _ _ _ i hne, Below.heap_setCell _ _ _ i hne, Below.heap_setCell _ _ _ i hne]
      have RA := Kd.R_step (Kd.R_bound (Kd.R_below HRA.out HB7.out)) (fun q hq _ => fin q (by have := hq.2.1; omega))
      have RB0 : Kd.R (Kd.int .u64) 41 w7 w6.heap.size (fun _ => True) (.slice B S.length c2) S := Kd.R_of_own HOB.out (fun _ _ => trivial)
      have RB := Kd.R_step (Kd.R_bound RB0) (fun q hq _ => fin q (by have := hq.2.1; omega))
      refine bodyPost_ret (results_ct rfl _ _ w.heap.size 45 #[.slice A (bks s).length c, .slice B S.length c2, .int .u64 G.n, .int .u64 G.nans, .int .u64 G.lo, .int .u64 G.hi] (0, 0) _ rfl (blk_set (blk_set (blk_set (blk_set (blk_set (blk_set HR7.out 0 _) 1 _) 2 _) 3 _) 4 _) 5 _) Try.underlying45 rfl (by kernel_rfl)) rfl ⟨fun _ => ⟨A, c, B, c2, ?_, ?_, ?_, ?_, ?_⟩, fun hn => absurd HA.out hn, ?_⟩
      · show _ = Ending.returned (.tuple #[.agg #[.slice A (bks (sumH l)).length c, .slice B (sumK l).length c2, .int .u64 (sumG l).n, .int .u64 (sumG l).nans, .int .u64 (sumG l).lo, .int .u64 (sumG l).hi], .int .i64 0])
        rw [hs, hS, hG]; rfl
      · show (bks (sumH l)).length ≤ c
        rw [hs]; exact HC.out
      · show (sumK l).length ≤ c2
        rw [hS]; exact HC2.out
      · show Kd.R k68 68 _ w.heap.size (fun _ => True) (.slice A (bks (sumH l)).length c) (bks (sumH l))
        rw [hs]; exact Kd.R_lower (Kd.R_mono RA (fun _ _ => trivial)) (by omega)
      · show Kd.R (Kd.int .u64) 41 _ w.heap.size (fun _ => True) (.slice B (sumK l).length c2) (sumK l)
        rw [hS]; exact Kd.R_lower (Kd.R_mono RB (fun _ _ => trivial)) (by omega)
      · have hx := Nat.le_refl w.heap.size
        exact below_set (below_set (below_set (below_set (below_set (below_set HP7.out.bel hx) hx) hx) hx) hx) hx
end Go.Proofs.Ytncgjbocgbnkcaa
namespace Go.Proofs.Ytncgjbocgbnkcaa
set_option linter.unusedVariables false
set_option linter.unusedSimpArgs false
open Go.RowKit Go.Maps Go.Proofs.YtncgjbocgbnkcaaW.PrintWords Go.Proofs.YtncgjbocgbnkcaaW.PrintLast Go.Proofs.YtncgjbocgbnkcaaW.PrintMore Go.Proofs.Ytncgjbocgbnkcaa.Pure Go.Proofs.Ytncgjbocgbnkcaa.Q Go.Proofs.Ytncgjbocgbnkcaa.Hi Go.Proofs.Ytncgjbocgbnkcaa.Ga
/-- A row of one or two sketches that was just made. -/
theorem C_V {W : World} {b n : Nat} {l : List SV} {cs : Array Value} {T : TypeId} (hb : W.heap[b]? = some (.cells cs T (0, 0))) (hl : l.length = n) (hn : n ≤ 1000)
    (h : ∀ j v, l[j]? = some v → ∃ c6 : List Value, kV.K W v c6 ∧ ∀ i u, c6[i]? = some u → cs[j * 6 + i]? = some u) : Kd.C kV W (some ⟨b, 0, none⟩) n l := by
  refine ⟨hl, by omega, fun _ => ⟨_, rfl, fun j p hp => ?_⟩⟩
  obtain ⟨c6, hK, hc⟩ := h j p hp
  refine ⟨c6, kV.K_len hK, hK, fun i u hu => ?_⟩
  have e : (⟨b, 0, none⟩ : Addr).add (j * kV.sz + i) = ⟨b, j * 6 + i, none⟩ := by
    have hs : kV.sz = 6 := rfl
    rw [hs]
    simp [Addr.add]
    omega
  rw [e, blk_cell hb (j * 6 + i)]
  exact hc i u hu
theorem name_calls {P : Program} {f : FuncId} {xs : Array Value} {W : World} {Q : Ending → World → Prop} (h : ∀ WW, Hid (W = WW) → Calls P f xs WW Q) : Calls P f xs W Q := h W (Lib.hid rfl)
theorem four_ (w : World) (o1 o2 o3 o4 : Obj) : ((((w.alloc o1).alloc o2).alloc o3).alloc o4).heap[w.heap.size + 1 + 1]? = some o3 ∧ ((((w.alloc o1).alloc o2).alloc o3).alloc o4).heap[w.heap.size + 1 + 1 + 1]? = some o4 ∧ Below w.heap.size w ((((w.alloc o1).alloc o2).alloc o3).alloc o4) := by
  have s2 : ((w.alloc o1).alloc o2).heap.size = w.heap.size + 1 + 1 := by simp
  have s3 : (((w.alloc o1).alloc o2).alloc o3).heap.size = w.heap.size + 1 + 1 + 1 := by simp
  exact ⟨blk_alloc (by rw [← s2]; exact blk_new _ _) _, by rw [← s3]; exact blk_new _ _, below_alloc (below_alloc (below_alloc (below_alloc (Below.refl _ _) _) _) _) _⟩
theorem SumPost.tells {l : List SV} {w : World} {e : Ending} {w' : World} (h : SumPost l w e w') : ∃ A n c B m d n1 n2 n3 n4 er, e = .returned (.tuple #[.agg #[.slice A n c, .slice B m d, .int .u64 n1, .int .u64 n2, .int .u64 n3, .int .u64 n4], .int .i64 er]) := by
  by_cases ha : AllOk l
  · obtain ⟨A, c, B, d, he, _⟩ := h.1 ha
    exact ⟨_, _, _, _, _, _, _, _, _, _, _, he⟩
  · exact ⟨_, _, _, _, _, _, _, _, _, _, _, h.2.1 ha⟩
theorem SumPost.lift {l : List SV} {w W : World} {e : Ending} {w1 w' : World} (h : SumPost l W e w1) (hb : w.heap.size ≤ W.heap.size) (hm : ∀ i, W.heap.size ≤ i → i < w1.heap.size → w'.heap[i]? = w1.heap[i]?) (hB : Below w.heap.size w w') : SumPost l w e w' := by
  refine ⟨fun ha => ?_, h.2.1, hB⟩
  obtain ⟨A, c, B, d, he, h1, h2, hR, hS⟩ := h.1 ha
  have R1 := Kd.R_step (Kd.R_bound hR) (fun q hq hlt => hm q hq.2.1 hlt)
  have R2 := Kd.R_step (Kd.R_bound hS) (fun q hq hlt => hm q hq.2.1 hlt)
  exact ⟨A, c, B, d, he, h1, h2, Kd.R_lower (Kd.R_mono R1 (fun _ _ => trivial)) hb, Kd.R_lower (Kd.R_mono R2 (fun _ _ => trivial)) hb⟩
set_option maxHeartbeats 4000000 in
set_option maxRecDepth 100000 in
theorem merge_any {w : World} {A : Option Addr} {c : Nat} {B : Option Addr} {d : Nat} {a : SV} (k : SK w A c a.h B d a.k) {A' : Option Addr} {c' : Nat} {B' : Option Addr} {d' : Nat} {v : SV} (k' : SK w A' c' v.h B' d' v.k) (ha : a.wf) (hv : v.wf) :
    Calls Try.prog 45 #[.agg #[.slice A a.h.length c, .slice B a.k.length d, .int .u64 a.g.n, .int .u64 a.g.nans, .int .u64 a.g.lo, .int .u64 a.g.hi], .agg #[.slice A' v.h.length c', .slice B' v.k.length d', .int .u64 v.g.n, .int .u64 v.g.nans, .int .u64 v.g.lo, .int .u64 v.g.hi]] w (SumPost [a, v] w) := by
  have K := Lib.hid k; have K' := Lib.hid k'; have HA := Lib.hid ha; have HV := Lib.hid hv
  clear k k' ha hv
  have hu62 := Try.underlying45
  go_enter Try.func45, Try.ntmps45
  go_wp2_with fail
  refine name_calls (fun WW HW => ?_)
  have F := four_ w (.cells #[.slice A a.h.length c, .slice B a.k.length d, .int .u64 a.g.n, .int .u64 a.g.nans, .int .u64 a.g.lo, .int .u64 a.g.hi] 45) (.cells #[.slice A' v.h.length c', .slice B' v.k.length d', .int .u64 v.g.n, .int .u64 v.g.nans, .int .u64 v.g.lo, .int .u64 v.g.hi] 45) (.cells #[.slice none 0 0, .slice none 0 0, .int .u64 0, .int .u64 0, .int .u64 0, .int .u64 0] 45)
    (.cells #[.slice A a.h.length c, .slice B a.k.length d, .int .u64 a.g.n, .int .u64 a.g.nans, .int .u64 a.g.lo, .int .u64 a.g.hi, .slice A' v.h.length c', .slice B' v.k.length d', .int .u64 v.g.n, .int .u64 v.g.nans, .int .u64 v.g.lo, .int .u64 v.g.hi] 45)
  rw [HW.out] at F
  obtain ⟨bR, bA, bL⟩ := F
  have KA := K.out.below bL (Nat.le_refl _)
  have KB := K'.out.below bL (Nat.le_refl _)
  have hC : Kd.C kV WW (some ⟨w.heap.size + 1 + 1 + 1, 0, none⟩) 2 [a, v] := C_V bA rfl (by decide) (fun j u hu => by
    match j, hu with
    | 0, hu => obtain rfl : a = u := by simpa using hu
               exact ⟨_, kV_mk KA.l1 KA.l2 KA.c1 KA.c2, fun i x hx => by
                 match i, hx with
                 | 0, hx | 1, hx | 2, hx | 3, hx | 4, hx | 5, hx => simpa using hx
                 | n + 6, hx => simp at hx⟩
    | 1, hu => obtain rfl : v = u := by simpa using hu
               exact ⟨_, kV_mk KB.l1 KB.l2 KB.c1 KB.c2, fun i x hx => by
                 match i, hx with
                 | 0, hx | 1, hx | 2, hx | 3, hx | 4, hx | 5, hx => simpa using hx
                 | n + 6, hx => simp at hx⟩
    | n + 2, hu => simp at hu)
  refine (sum_any (some ⟨w.heap.size + 1 + 1 + 1, 0, none⟩) 2 [a, v] WW hC (fun u hu => by
    simp at hu
    rcases hu with rfl | rfl
    · exact HA.out
    · exact HV.out)).mono ?_
  intro e w1 hp
  obtain ⟨A1, n, c1, B1, m, d1, n1, n2, n3, n4, er, rfl⟩ := hp.tells
  have hb1 := hp.2.2
  have bR1 := (hb1.block _ (blk_lt bR)).trans bR
  have r0 : w1.cell? ⟨w.heap.size + 1 + 1, 0, none⟩ = some (.slice none 0 0) := blk_cell bR1 0; have r1 : w1.cell? ⟨w.heap.size + 1 + 1, 1, none⟩ = some (.slice none 0 0) := blk_cell bR1 1; have r2 : w1.cell? ⟨w.heap.size + 1 + 1, 2, none⟩ = some (.int .u64 0) := blk_cell bR1 2; have r3 : w1.cell? ⟨w.heap.size + 1 + 1, 3, none⟩ = some (.int .u64 0) := blk_cell bR1 3; have r4 : w1.cell? ⟨w.heap.size + 1 + 1, 4, none⟩ = some (.int .u64 0) := blk_cell bR1 4; have r5 : w1.cell? ⟨w.heap.size + 1 + 1, 5, none⟩ = some (.int .u64 0) := blk_cell bR1 5
  have t0 := blk_frozen bR1 0; have t1 := blk_frozen bR1 1; have t2 := blk_frozen bR1 2; have t3 := blk_frozen bR1 3; have t4 := blk_frozen bR1 4; have t5 := blk_frozen bR1 5
  have HR := Lib.hid bR1; have HP := Lib.hid hp; have HBL := Lib.hid (bL.trans (hb1.mono bL.size))
  have HZ := Lib.hid (show w.heap.size + 1 + 1 < WW.heap.size from blk_lt bR)
  clear bR bA bL KA KB hC hp hb1 bR1
  go_wp2
  have hx : w.heap.size ≤ w.heap.size + 1 + 1 := by omega
  refine bodyPost_ret (results_ct rfl _ _ (w.heap.size + 1 + 1) 45 #[.slice A1 n c1, .slice B1 m d1, .int .u64 n1, .int .u64 n2, .int .u64 n3, .int .u64 n4] (0, 0) _ rfl (blk_set (blk_set (blk_set (blk_set (blk_set (blk_set HR.out 0 _) 1 _) 2 _) 3 _) 4 _) 5 _) Try.underlying45 rfl (by kernel_rfl)) rfl ?_
  refine HP.out.lift (by have := HZ.out; omega) (fun i h1 h2 => ?_) (below_set (below_set (below_set (below_set (below_set (below_set HBL.out hx) hx) hx) hx) hx) hx)
  have hne : i ≠ w.heap.size + 1 + 1 := by have := HZ.out; omega
  rw [Below.heap_setCell _ _ _ i hne, Below.heap_setCell _ _ _ i hne, Below.heap_setCell _ _ _ i hne, Below.heap_setCell _ _ _ i hne, Below.heap_setCell _ _ _ i hne, Below.heap_setCell _ _ _ i hne]
end Go.Proofs.Ytncgjbocgbnkcaa
namespace Go.Proofs.Ytncgjbocgbnkcaa.Pure
set_option linter.unusedVariables false
set_option linter.unusedSimpArgs false
open Go.RowKit Go.Maps Go.Proofs.YtncgjbocgbnkcaaW.PrintWords Go.Proofs.YtncgjbocgbnkcaaW.PrintLast Go.Proofs.YtncgjbocgbnkcaaW.PrintMore Go.Proofs.Ytncgjbocgbnkcaa.Q
/-- Both, in order, each once. -/
def mg : List Int → List Int → List Int
  | [], b => b
  | x :: a, [] => x :: a
  | x :: a, y :: b => if x < y then x :: mg a (y :: b) else if y < x then y :: mg (x :: a) b else x :: mg a b
termination_by a b => a.length + b.length
theorem mg_nil (a : List Int) : mg a [] = a := by cases a <;> simp [mg]
theorem mem_mg : ∀ (n : Nat) (a b : List Int), a.length + b.length = n → ∀ x, x ∈ mg a b ↔ x ∈ a ∨ x ∈ b := by
  intro n
  induction n using Nat.strongRecOn with
  | _ n ih =>
    intro a b hn x
    cases a with
    | nil => simp [mg]
    | cons u a =>
      cases b with
      | nil => simp [mg]
      | cons v b =>
        simp only [List.length_cons] at hn
        rw [mg]
        split
        · rw [List.mem_cons, ih _ (by simp only [List.length_cons]; omega) a (v :: b) rfl, List.mem_cons (a := x) (b := u), or_assoc]
        · split
          · rw [List.mem_cons, ih _ (by simp only [List.length_cons]; omega) (u :: a) b rfl, List.mem_cons (a := x) (b := v)]
            exact ⟨fun h => h.elim (fun h => .inr (.inl h)) (fun h => h.elim .inl (fun h => .inr (.inr h))), fun h => h.elim (fun h => .inr (.inl h)) (fun h => h.elim .inl (fun h => .inr (.inr h)))⟩
          · have e : u = v := by omega
            rw [List.mem_cons, ih _ (by omega) a b rfl, List.mem_cons, List.mem_cons, ← e]
            exact ⟨fun h => h.elim (fun h => .inl (.inl h)) (fun h => h.elim (fun h => .inl (.inr h)) (fun h => .inr (.inr h))), fun h => h.elim (fun h => h.elim .inl (fun h => .inr (.inl h))) (fun h => h.elim .inl (fun h => .inr (.inr h)))⟩
theorem asc_mg : ∀ (n : Nat) (a b : List Int), a.length + b.length = n → Asc a → Asc b → Asc (mg a b) := by
  intro n
  induction n using Nat.strongRecOn with
  | _ n ih =>
    intro a b hn ha hb
    cases a with
    | nil => simpa [mg] using hb
    | cons u a =>
      cases b with
      | nil => simpa [mg] using ha
      | cons v b =>
        simp only [List.length_cons] at hn
        obtain ⟨a1, a2⟩ := List.pairwise_cons.mp ha
        obtain ⟨b1, b2⟩ := List.pairwise_cons.mp hb
        rw [mg]
        split
        · refine List.pairwise_cons.mpr ⟨fun z hz => ?_, ih _ (by simp only [List.length_cons]; omega) a (v :: b) rfl a2 hb⟩
          rcases (mem_mg _ _ _ rfl z).1 hz with h | h
          · exact a1 z h
          · rcases List.mem_cons.mp h with h | h
            · omega
            · have := b1 z h; omega
        · split
          · refine List.pairwise_cons.mpr ⟨fun z hz => ?_, ih _ (by simp only [List.length_cons]; omega) (u :: a) b rfl ha b2⟩
            rcases (mem_mg _ _ _ rfl z).1 hz with h | h
            · rcases List.mem_cons.mp h with h | h
              · omega
              · have := a1 z h; omega
            · exact b1 z h
          · refine List.pairwise_cons.mpr ⟨fun z hz => ?_, ih _ (by omega) a b rfl a2 b2⟩
            rcases (mem_mg _ _ _ rfl z).1 hz with h | h
            · exact a1 z h
            · have := b1 z h; omega
theorem mg_kall {a b : List Int} (ha : Asc a) (hb : Asc b) : mg a b = kall a b :=
  asc_ext (asc_mg _ a b rfl ha hb) (asc_kall ha) fun x => by rw [mem_mg _ a b rfl, mem_kall]
theorem take_full {acc r : List Int} (h : acc.length = 1024) : (acc ++ r).take 1024 = acc := by
  rw [List.take_append_of_le_length (by omega), List.take_of_length_le (by omega)]
/-- The round's steps, each by itself. -/
theorem rm_end (k : Nat) (a b acc : List Int) (i j : Int) : varveref08_Merge.j1 (k + 1) a b acc i j false = some acc := by rw [varveref08_Merge.j1, if_neg (by simp)]
theorem rm_l0 (k : Nat) (a b acc : List Int) (i j : Nat) (h : i < a.length ∨ j < b.length) : varveref08_Merge.l0 (k + 1) a b acc (i : Int) (j : Int) = varveref08_Merge.j1 k a b acc (i : Int) (j : Int) (decide ((acc.length : Int) < 1024)) := by
  rw [varveref08_Merge.l0]
  by_cases c : (i : Int) < (a.length : Int)
  · rw [if_pos c]
  · rw [if_neg c, if_pos (by omega)]
theorem rm_l0_end (k : Nat) (a b acc : List Int) (i j : Nat) (h1 : ¬ i < a.length) (h2 : ¬ j < b.length) : varveref08_Merge.l0 (k + 2) a b acc (i : Int) (j : Int) = some acc := by
  rw [varveref08_Merge.l0, if_neg (by omega), if_neg (by omega), rm_end]
theorem rm_a (k : Nat) (a b acc : List Int) (i j : Nat) (hi : i < a.length) (hj : ¬ j < b.length) (hl : a.length ≤ 1024) (hc : acc.length ≤ 1024) :
    varveref08_Merge.j1 (k + 2) a b acc (i : Int) (j : Int) true = varveref08_Merge.l0 k a b (acc ++ [a[i]]) ((i + 1 : Nat) : Int) (j : Int) := by
  have wi : wrap64 ((i : Int) + 1) = ((i + 1 : Nat) : Int) := by unfold wrap64; omega
  rw [varveref08_Merge.j1, if_pos rfl, if_pos (by omega), varveref08_Merge.j2, if_pos rfl, if_pos (by omega), if_pos (by omega), if_pos (by omega), rd_nat hi, wi]
theorem rm_b (k : Nat) (a b acc : List Int) (i j : Nat) (hi : ¬ i < a.length) (hj : j < b.length) (hl : b.length ≤ 1024) (hc : acc.length ≤ 1024) :
    varveref08_Merge.j1 (k + 2) a b acc (i : Int) (j : Int) true = varveref08_Merge.l0 k a b (acc ++ [b[j]]) (i : Int) ((j + 1 : Nat) : Int) := by
  have wj : wrap64 ((j : Int) + 1) = ((j + 1 : Nat) : Int) := by unfold wrap64; omega
  rw [varveref08_Merge.j1, if_pos rfl, if_neg (by omega), if_neg (by omega), varveref08_Merge.j2, if_neg (by simp), if_pos (by omega), if_pos (by omega), if_pos (by omega), if_pos (by omega), rd_nat hj, wj]
theorem rm_both (k : Nat) (a b acc : List Int) (i j : Nat) (hi : i < a.length) (hj : j < b.length) : varveref08_Merge.j1 (k + 1) a b acc (i : Int) (j : Int) true = varveref08_Merge.j2 k a b acc (i : Int) (j : Int) (decide (a[i] < b[j])) := by
  rw [varveref08_Merge.j1, if_pos rfl, if_neg (by omega), if_pos (by omega), if_pos (by omega), if_pos (by omega), if_pos (by omega), rd_nat hi, rd_nat hj]
theorem rm_lt (k : Nat) (a b acc : List Int) (i j : Nat) (hi : i < a.length) (hl : a.length ≤ 1024) (hc : acc.length ≤ 1024) :
    varveref08_Merge.j2 (k + 1) a b acc (i : Int) (j : Int) true = varveref08_Merge.l0 k a b (acc ++ [a[i]]) ((i + 1 : Nat) : Int) (j : Int) := by
  have wi : wrap64 ((i : Int) + 1) = ((i + 1 : Nat) : Int) := by unfold wrap64; omega
  rw [varveref08_Merge.j2, if_pos rfl, if_pos (by omega), if_pos (by omega), if_pos (by omega), rd_nat hi, wi]
theorem rm_gt (k : Nat) (a b acc : List Int) (i j : Nat) (hi : i < a.length) (hj : j < b.length) (hl : b.length ≤ 1024) (hc : acc.length ≤ 1024) (c : b[j] < a[i]) :
    varveref08_Merge.j2 (k + 1) a b acc (i : Int) (j : Int) false = varveref08_Merge.l0 k a b (acc ++ [b[j]]) (i : Int) ((j + 1 : Nat) : Int) := by
  have wj : wrap64 ((j : Int) + 1) = ((j + 1 : Nat) : Int) := by unfold wrap64; omega
  rw [varveref08_Merge.j2, if_neg (by simp), if_neg (by omega), if_pos (by omega), if_pos (by omega), if_pos (by omega), if_pos (by omega), rd_nat hi, rd_nat hj, if_pos c, if_pos (by omega), wj]
theorem rm_eq (k : Nat) (a b acc : List Int) (i j : Nat) (hi : i < a.length) (hj : j < b.length) (hl : a.length ≤ 1024) (hl2 : b.length ≤ 1024) (hc : acc.length ≤ 1024) (c : ¬ b[j] < a[i]) :
    varveref08_Merge.j2 (k + 1) a b acc (i : Int) (j : Int) false = varveref08_Merge.l0 k a b (acc ++ [a[i]]) ((i + 1 : Nat) : Int) ((j + 1 : Nat) : Int) := by
  have wi : wrap64 ((i : Int) + 1) = ((i + 1 : Nat) : Int) := by unfold wrap64; omega
  have wj : wrap64 ((j : Int) + 1) = ((j + 1 : Nat) : Int) := by unfold wrap64; omega
  rw [varveref08_Merge.j2, if_neg (by simp), if_neg (by omega), if_pos (by omega), if_pos (by omega), if_pos (by omega), if_pos (by omega), rd_nat hi, rd_nat hj, if_neg c, if_pos (by omega), wi, wj]
theorem refMerge_go (a b : List Int) (ha : a.length ≤ 1024) (hb : b.length ≤ 1024) : ∀ (d i j : Nat) (acc : List Int), (a.length - i) + (b.length - j) = d → i ≤ a.length → j ≤ b.length → acc.length ≤ 1024 →
    ∀ k, 3 * d + 2 ≤ k → varveref08_Merge.l0 k a b acc (i : Int) (j : Int) = some ((acc ++ mg (a.drop i) (b.drop j)).take 1024) := by
  intro d
  induction d using Nat.strongRecOn with
  | _ d ih =>
    intro i j acc hd hi hj hacc k hk
    have step : ∀ (i' j' : Nat) (x : Int) (k' : Nat), i ≤ i' → j ≤ j' → i' ≤ a.length → j' ≤ b.length → i + j < i' + j' → acc.length < 1024 → k ≤ k' + 3 → varveref08_Merge.l0 k' a b (acc ++ [x]) (i' : Int) (j' : Int) = some ((acc ++ (x :: mg (a.drop i') (b.drop j'))).take 1024) := by
      intro i' j' x k' h1 h2 h3 h4 h5 h6 h7
      rw [ih ((a.length - i') + (b.length - j')) (by omega) i' j' (acc ++ [x]) rfl h3 h4 (by rw [List.length_append, List.length_singleton]; omega) k' (by omega), List.append_assoc, List.singleton_append]
    by_cases hia : i < a.length
    · obtain ⟨k, rfl⟩ : ∃ m, k = m + 3 := ⟨k - 3, by omega⟩
      rw [rm_l0 _ _ _ _ _ _ (.inl hia)]
      by_cases hfull : acc.length = 1024
      · rw [decide_eq_false (by omega), rm_end, take_full hfull]
      rw [decide_eq_true (by omega), List.drop_eq_getElem_cons hia]
      by_cases hjb : j < b.length
      · rw [rm_both _ _ _ _ _ _ hia hjb, List.drop_eq_getElem_cons hjb, mg]
        by_cases c1 : a[i] < b[j]
        · rw [decide_eq_true c1, rm_lt _ _ _ _ _ _ hia ha hacc, step (i + 1) j _ _ (by omega) (by omega) (by omega) (by omega) (by omega) (by omega) (by omega), if_pos c1, List.drop_eq_getElem_cons hjb]
        · rw [decide_eq_false c1, if_neg c1]
          by_cases c2 : b[j] < a[i]
          · rw [rm_gt _ _ _ _ _ _ hia hjb hb hacc c2, step i (j + 1) _ _ (by omega) (by omega) (by omega) (by omega) (by omega) (by omega) (by omega), if_pos c2, List.drop_eq_getElem_cons hia]
          · rw [rm_eq _ _ _ _ _ _ hia hjb ha hb hacc c2, step (i + 1) (j + 1) _ _ (by omega) (by omega) (by omega) (by omega) (by omega) (by omega) (by omega), if_neg c2]
      · rw [rm_a _ _ _ _ _ _ hia hjb ha hacc, step (i + 1) j _ _ (by omega) (by omega) (by omega) (by omega) (by omega) (by omega) (by omega), show b.drop j = [] from List.drop_eq_nil_of_le (by omega), mg_nil, mg_nil]
    · have e : a.drop i = [] := List.drop_eq_nil_of_le (by omega)
      rw [e, mg]
      by_cases hjb : j < b.length
      · obtain ⟨k, rfl⟩ : ∃ m, k = m + 3 := ⟨k - 3, by omega⟩
        rw [rm_l0 _ _ _ _ _ _ (.inr hjb)]
        by_cases hfull : acc.length = 1024
        · rw [decide_eq_false (by omega), rm_end, take_full hfull]
        rw [decide_eq_true (by omega), rm_b _ _ _ _ _ _ hia hjb hb hacc, step i (j + 1) _ _ (by omega) (by omega) (by omega) (by omega) (by omega) (by omega) (by omega), e, mg, List.drop_eq_getElem_cons hjb]
      · obtain ⟨k, rfl⟩ : ∃ m, k = m + 2 := ⟨k - 2, by omega⟩
        rw [rm_l0_end _ _ _ _ _ _ hia hjb, List.drop_eq_nil_of_le (by omega), List.append_nil, List.take_of_length_le hacc]
theorem refMerge_all {a b : List Int} (ha : KGood a) (hb : KOk b) : varveref08_Merge.f (3 * (a.length + b.length) + 2) a b = some (kmany a b) := by
  unfold varveref08_Merge.f
  rw [show (0 : Int) = ((0 : Nat) : Int) from rfl, refMerge_go a b ha.2.1 hb.2 (a.length + b.length) 0 0 [] (by omega) (by omega) (by omega) (by simp) _ (Nat.le_refl _), List.drop_zero, List.drop_zero, List.nil_append, kmany_eq ha.1 ha.2.1, mg_kall ha.1 hb.1]
end Go.Proofs.Ytncgjbocgbnkcaa.Pure
namespace Go.Proofs.Ytncgjbocgbnkcaa
set_option linter.unusedVariables false
set_option linter.unusedSimpArgs false
open Go.RowKit Go.Maps Go.Proofs.YtncgjbocgbnkcaaW.PrintWords Go.Proofs.YtncgjbocgbnkcaaW.PrintLast Go.Proofs.YtncgjbocgbnkcaaW.PrintMore Go.Proofs.Ytncgjbocgbnkcaa.Pure Go.Proofs.Ytncgjbocgbnkcaa.Q Go.Proofs.Ytncgjbocgbnkcaa.Hi Go.Proofs.Ytncgjbocgbnkcaa.Ga
theorem AllOk.two {a b : SV} (ha : a.wf) (oa : a.ok = true) (hb : b.wf) (ob : b.ok = true) : AllOk [a, b] := fun v hv => by
  simp at hv
  rcases hv with rfl | rfl
  · exact ⟨ha, oa⟩
  · exact ⟨hb, ob⟩
theorem AllOk.one {a : SV} (ha : a.wf) (oa : a.ok = true) : AllOk [a] := fun v hv => by
  simp at hv
  subst hv
  exact ⟨ha, oa⟩
/-- The histogram of a sketch. -/
def hV (v : SV) : List Int := merged (hzero 7424) v.h
theorem hV_good {v : SV} (hw : v.wf) (ho : v.ok = true) : hgood (hV v) = true := merged_good_of (Bok.of hw.1 ((SV.ok_iff v).1 ho).1) hzero_good
theorem hV_bks {v : SV} (hw : v.wf) (ho : v.ok = true) : bks (hV v) = v.h := bks_merged (Bok.of hw.1 ((SV.ok_iff v).1 ho).1) ((SV.ok_iff v).1 ho).1
theorem kV_good {v : SV} (hw : v.wf) (ho : v.ok = true) : KGood v.k := KGood.of hw.2.1 ((SV.ok_iff v).1 ho).2.1
theorem sum_two {a b : SV} (ha : a.wf) (oa : a.ok = true) (hb : b.wf) (ob : b.ok = true) : sumV [a, b] = ⟨bks (hplus (hV a) (hV b)), kmany a.k b.k, gmerge a.g b.g⟩ := by
  show (⟨bks (merged (merged (hzero 7424) a.h) b.h), kmany (kmany [] a.k) b.k, gmerge (gmerge gzero a.g) b.g⟩ : SV) = _
  rw [kmany_nil ((SV.ok_iff a).1 oa).2.1.1 ((SV.ok_iff a).1 oa).2.1.2, gmerge_zero_left ha.2.2, merged_plus (Bok.of hb.1 ((SV.ok_iff b).1 ob).1) (show hgood (merged (hzero 7424) a.h) = true from hV_good ha oa)]
  rfl
/-- The reference's Merge of two that may be. -/
theorem ref_merge {a b : SV} (ha : a.wf) (oa : a.ok = true) (hb : b.wf) (ob : b.ok = true) :
    varveref10_Merge.f 60000 a.h a.k a.g.n a.g.nans a.g.lo a.g.hi b.h b.k b.g.n b.g.nans b.g.lo b.g.hi = some ((sumV [a, b]).h, (sumV [a, b]).k, (sumV [a, b]).g.n, (sumV [a, b]).g.nans, (sumV [a, b]).g.lo, (sumV [a, b]).g.hi) := by
  have ka := kV_good ha oa
  have kb := kV_good hb ob
  have hl : b.h.length ≤ 7424 := by rw [← hV_bks hb ob]; exact bks_len _
  have e1 := refMerge_list (hV_good ha oa) (Bok.of hb.1 ((SV.ok_iff b).1 ob).1) ((SV.ok_iff b).1 ob).1 hl 60000 (by omega)
  rw [hV_bks ha oa, merged_plus (Bok.of hb.1 ((SV.ok_iff b).1 ob).1) (hV_good ha oa)] at e1
  have e2 := upK (fun k => varveref08_Merge.mono a.k b.k k) (show 3 * (a.k.length + b.k.length) + 2 ≤ 60000 by have := ka.2.1; have := kb.2.1; omega) (refMerge_all ka ⟨kb.1, kb.2.1⟩)
  unfold varveref10_Merge.f
  rw [e1, e2, refMerge_eq ha.2.2 hb.2.2, sum_two ha oa hb ob]
  rfl
end Go.Proofs.Ytncgjbocgbnkcaa
namespace Go.Proofs.Ytncgjbocgbnkcaa
set_option linter.unusedVariables false
set_option linter.unusedSimpArgs false
open Go.RowKit Go.Maps Go.Proofs.YtncgjbocgbnkcaaW.PrintWords Go.Proofs.YtncgjbocgbnkcaaW.PrintLast Go.Proofs.YtncgjbocgbnkcaaW.PrintMore Go.Proofs.Ytncgjbocgbnkcaa.Pure Go.Proofs.Ytncgjbocgbnkcaa.Q Go.Proofs.Ytncgjbocgbnkcaa.Hi Go.Proofs.Ytncgjbocgbnkcaa.Ga
theorem SK.alloc {W : World} {A : Option Addr} {c : Nat} {l : List S68} {B : Option Addr} {d : Nat} {h : List Int} (k : SK W A c l B d h) (o : Obj) : SK (W.alloc o) A c l B d h := k.below (below_alloc (Below.refl _ _) o) (Nat.le_refl _)
theorem SK.zero (W : World) : SK W none 0 zV.h none 0 zV.k := ⟨⟨rfl, by decide, fun h => absurd h (by decide)⟩, Nat.le_refl _, ⟨rfl, by decide, fun h => absurd h (by decide)⟩, Nat.le_refl _, by decide, by decide⟩
/-- A block's six cells. -/
theorem box6 {W : World} {x : Nat} {a0 a1 a2 a3 a4 a5 : Value} {T : TypeId} (h : W.heap[x]? = some (.cells #[a0, a1, a2, a3, a4, a5] T (0, 0))) :
    W.cell? ⟨x, 0, none⟩ = some a0 ∧ W.cell? ⟨x, 1, none⟩ = some a1 ∧ W.cell? ⟨x, 2, none⟩ = some a2 ∧ W.cell? ⟨x, 3, none⟩ = some a3 ∧ W.cell? ⟨x, 4, none⟩ = some a4 ∧ W.cell? ⟨x, 5, none⟩ = some a5 :=
  ⟨blk_cell h 0, blk_cell h 1, blk_cell h 2, blk_cell h 3, blk_cell h 4, blk_cell h 5⟩
theorem below_of_alloc {W w' : World} {o : Obj} (hb : Below (W.alloc o).heap.size (W.alloc o) w') : Below W.heap.size W w' := (below_alloc (Below.refl _ _) o).trans (hb.mono (by simp))
theorem new_below {W w' : World} {o : Obj} (hb : Below (W.alloc o).heap.size (W.alloc o) w') : w'.heap[W.heap.size]? = some o := (hb.block _ (by simp)).trans (blk_new W o)
theorem SumPost.good {l : List SV} {w : World} {e : Ending} {w' : World} (h : SumPost l w e w') (ha : AllOk l) {s : SV} (hs : sumV l = s) :
    ∃ A c B d, e = .returned (.tuple #[.agg #[.slice A s.h.length c, .slice B s.k.length d, .int .u64 s.g.n, .int .u64 s.g.nans, .int .u64 s.g.lo, .int .u64 s.g.hi], .int .i64 0]) ∧ SK w' A c s.h B d s.k ∧ Kd.R k68 68 w' w.heap.size (fun _ => True) (.slice A s.h.length c) s.h ∧ Kd.R (Kd.int .u64) 41 w' w.heap.size (fun _ => True) (.slice B s.k.length d) s.k ∧ Below w.heap.size w w' := by
  subst hs
  obtain ⟨A, c, B, d, he, h1, h2, hR, hS⟩ := h.1 ha
  have hw := (sumV_ok ha).1
  exact ⟨A, c, B, d, he, ⟨(Kd.R_reads' hR).2.2, h1, (Kd.R_reads' hS).2.2, h2, WB.len hw.1, by have := hw.2.1.1; omega⟩, hR, hS, h.2.2⟩
def OkRes (s : SV) (w : World) (e : Ending) (w' : World) : Prop :=
  ∃ A c B d, e = .returned (.tuple #[.agg #[.slice A s.h.length c, .slice B s.k.length d, .int .u64 s.g.n, .int .u64 s.g.nans, .int .u64 s.g.lo, .int .u64 s.g.hi], .int .i64 0]) ∧ SK w' A c s.h B d s.k ∧ Below w.heap.size w w'
theorem merge_ok {w : World} {A : Option Addr} {c : Nat} {B : Option Addr} {d : Nat} {a : SV} (k : SK w A c a.h B d a.k) {A' : Option Addr} {c' : Nat} {B' : Option Addr} {d' : Nat} {v : SV} (k' : SK w A' c' v.h B' d' v.k) (ha : AllOk [a, v]) {s : SV} (hs : sumV [a, v] = s) :
    Calls Try.prog 45 #[.agg #[.slice A a.h.length c, .slice B a.k.length d, .int .u64 a.g.n, .int .u64 a.g.nans, .int .u64 a.g.lo, .int .u64 a.g.hi], .agg #[.slice A' v.h.length c', .slice B' v.k.length d', .int .u64 v.g.n, .int .u64 v.g.nans, .int .u64 v.g.lo, .int .u64 v.g.hi]] w (OkRes s w) :=
  (merge_any k k' (ha a (by simp)).1 (ha v (by simp)).1).mono fun _ _ h => by
    obtain ⟨A, c, B, d, he, hk, _, _, hb⟩ := h.good ha hs
    exact ⟨A, c, B, d, he, hk, hb⟩
theorem merge_no {w : World} {A : Option Addr} {c : Nat} {B : Option Addr} {d : Nat} {a : SV} (k : SK w A c a.h B d a.k) {A' : Option Addr} {c' : Nat} {B' : Option Addr} {d' : Nat} {v : SV} (k' : SK w A' c' v.h B' d' v.k) (ha : a.wf) (hv : v.wf) (hn : ¬ AllOk [a, v]) :
    Calls Try.prog 45 #[.agg #[.slice A a.h.length c, .slice B a.k.length d, .int .u64 a.g.n, .int .u64 a.g.nans, .int .u64 a.g.lo, .int .u64 a.g.hi], .agg #[.slice A' v.h.length c', .slice B' v.k.length d', .int .u64 v.g.n, .int .u64 v.g.nans, .int .u64 v.g.lo, .int .u64 v.g.hi]] w fun e w' => e = .returned (.tuple #[.agg #[.slice none 0 0, .slice none 0 0, .int .u64 0, .int .u64 0, .int .u64 0, .int .u64 0], .int .i64 5]) ∧ Below w.heap.size w w' :=
  (merge_any k k' ha hv).mono fun _ _ h => ⟨h.2.1 hn, h.2.2⟩
theorem rcheckV {W : World} {A : Option Addr} {c : Nat} {B : Option Addr} {d : Nat} {v : SV} (k : SK W A c v.h B d v.k) (hw : v.wf) {r : Bool} (hr : v.ok = r) :
    Calls Try.prog 40 #[.agg #[.slice A v.h.length c, .slice B v.k.length d, .int .u64 v.g.n, .int .u64 v.g.nans, .int .u64 v.g.lo, .int .u64 v.g.hi]] W fun e w' => e = .returned (.bool r) ∧ Below W.heap.size W w' := by
  subst hr; exact sk_rcheck k v.g hw.2.2
theorem copyV {W : World} {A : Option Addr} {c : Nat} {B : Option Addr} {d : Nat} {v : SV} (k : SK W A c v.h B d v.k) :
    Calls Try.prog 39 #[.agg #[.slice A v.h.length c, .slice B v.k.length d, .int .u64 v.g.n, .int .u64 v.g.nans, .int .u64 v.g.lo, .int .u64 v.g.hi]] W fun e w' =>
      ∃ A' c' B' d', e = .returned (.agg #[.slice A' v.h.length c', .slice B' v.k.length d', .int .u64 v.g.n, .int .u64 v.g.nans, .int .u64 v.g.lo, .int .u64 v.g.hi]) ∧ SK w' A' c' v.h B' d' v.k ∧ Below W.heap.size W w' := sk_copy k v.g.n v.g.nans v.g.lo v.g.hi
theorem rsameV {W : World} {A : Option Addr} {c : Nat} {B : Option Addr} {d : Nat} {v : SV} (k : SK W A c v.h B d v.k) {A' : Option Addr} {c' : Nat} {B' : Option Addr} {d' : Nat} (k' : SK W A' c' v.h B' d' v.k) :
    Calls Try.prog 27 #[.agg #[.slice A v.h.length c, .slice B v.k.length d, .int .u64 v.g.n, .int .u64 v.g.nans, .int .u64 v.g.lo, .int .u64 v.g.hi], .agg #[.slice A' v.h.length c', .slice B' v.k.length d', .int .u64 v.g.n, .int .u64 v.g.nans, .int .u64 v.g.lo, .int .u64 v.g.hi]] W fun e w' => e = .returned (.bool true) ∧ Below W.heap.size W w' := by
  have h := sk_rsame k v.g k' v.g
  rwa [sameS_self] at h
theorem rsame0 (W : World) : Calls Try.prog 27 #[.agg #[.slice none 0 0, .slice none 0 0, .int .u64 0, .int .u64 0, .int .u64 0, .int .u64 0], .agg #[.slice none 0 0, .slice none 0 0, .int .u64 0, .int .u64 0, .int .u64 0, .int .u64 0]] W fun e w' => e = .returned (.bool true) ∧ Below W.heap.size W w' :=
  rsameV (SK.zero W) (SK.zero W)
theorem rmergeV {W : World} {A : Option Addr} {c : Nat} {B : Option Addr} {d : Nat} {a : SV} (k : SK W A c a.h B d a.k) {A' : Option Addr} {c' : Nat} {B' : Option Addr} {d' : Nat} {v : SV} (k' : SK W A' c' v.h B' d' v.k) (ha : AllOk [a, v]) {s : SV} (hs : sumV [a, v] = s) :
    Calls Try.prog 43 #[.agg #[.slice A a.h.length c, .slice B a.k.length d, .int .u64 a.g.n, .int .u64 a.g.nans, .int .u64 a.g.lo, .int .u64 a.g.hi], .agg #[.slice A' v.h.length c', .slice B' v.k.length d', .int .u64 v.g.n, .int .u64 v.g.nans, .int .u64 v.g.lo, .int .u64 v.g.hi]] W fun e w' =>
      ∃ A c B d, e = .returned (.agg #[.slice A s.h.length c, .slice B s.k.length d, .int .u64 s.g.n, .int .u64 s.g.nans, .int .u64 s.g.lo, .int .u64 s.g.hi]) ∧ SK w' A c s.h B d s.k ∧ Below W.heap.size W w' := by
  subst hs
  obtain ⟨wa, oa⟩ := ha a (by simp)
  obtain ⟨wv, ov⟩ := ha v (by simp)
  refine (varveref10_Merge.calls 60000 A c a.h B d a.k a.g.n a.g.nans a.g.lo a.g.hi A' c' v.h B' d' v.k v.g.n v.g.nans v.g.lo v.g.hi _ _ _ _ _ _ W k.c1 k.l1 k.c2 k.l2 k'.c1 k'.l1 k'.c2 k'.l2 (ref_merge wa oa wv ov)).mono fun e w' h => ?_
  obtain ⟨v0, v1, he, h0, h1, hb⟩ := h
  obtain ⟨A1, c1, rfl, e1, e2⟩ := Kd.R_reads h0
  obtain ⟨B1, d1, rfl, e3, e4⟩ := Kd.R_reads h1
  have hw := (sumV_ok ha).1
  exact ⟨A1, c1, B1, d1, he, ⟨e2, e1, e4, e3, WB.len hw.1, by have := hw.2.1.1; omega⟩, hb⟩
end Go.Proofs.Ytncgjbocgbnkcaa
namespace Go.Proofs.Ytncgjbocgbnkcaa
set_option linter.unusedVariables false
set_option linter.unusedSimpArgs false
open Go.RowKit Go.Maps Go.Proofs.YtncgjbocgbnkcaaW.PrintWords Go.Proofs.YtncgjbocgbnkcaaW.PrintLast Go.Proofs.YtncgjbocgbnkcaaW.PrintMore Go.Proofs.Ytncgjbocgbnkcaa.Pure Go.Proofs.Ytncgjbocgbnkcaa.Q Go.Proofs.Ytncgjbocgbnkcaa.Hi Go.Proofs.Ytncgjbocgbnkcaa.Ga
theorem aw_b0 : bks (ofH []) = [] := bks_merged (l := []) (fun b hb => by simp at hb) rfl
theorem aw_b : bks (ofH [⟨300, ⟨#[97]⟩, 0⟩]) = [⟨278, 1⟩] := by
  have e : bks (hadd (hzero 7424) 278 1) = insB 278 1 (bks (hzero 7424)) := (bks_add hzero_good 278 (by omega) 1 (by omega)).symm
  have e0 : bks (hzero 7424) = [] := aw_b0
  rw [e0] at e
  exact e
theorem aw_k0 : ofK [] = [] := rfl
theorem aw_g0 : ofG [] = gzero := rfl
theorem aw_f : fnvV ⟨#[97]⟩ = 12638187200555641996 := by
  have f1 : fnv_Of.f 2 ⟨#[97]⟩ = some 12638187200555641996 := by decide +kernel
  show (fnv_Of.f 2 ⟨#[97]⟩).getD 0 = _
  rw [f1]; rfl
theorem aw_k : ofK [⟨300, ⟨#[97]⟩, 0⟩] = [12638187200555641996] := by
  show khash [] (fnvV ⟨#[97]⟩) = _
  rw [aw_f]; rfl
theorem aw_c (w : World) : Kd.C k90 (w.alloc (.cells #[.int .u64 300, .string ⟨#[97]⟩, .int .u64 0] 90)) (some ⟨w.heap.size, 0, none⟩) 1 [⟨300, ⟨#[97]⟩, 0⟩] := by
  have h := blk_new w (.cells #[.int .u64 300, .string ⟨#[97]⟩, .int .u64 0] 90)
  refine ⟨rfl, by decide, fun _ => ⟨_, rfl, fun j p hp => ?_⟩⟩
  cases j with
  | succ j => simp at hp
  | zero =>
    obtain rfl : (⟨300, ⟨#[97]⟩, 0⟩ : S90) = p := by simpa using hp
    refine ⟨[.int .u64 300, .string ⟨#[97]⟩, .int .u64 0], rfl, k90_mk _ _, fun i u hu => ?_⟩
    have e : (⟨w.heap.size, 0, none⟩ : Addr).add (0 * k90.sz + i) = ⟨w.heap.size, i, none⟩ := by
      simp [Addr.add]
      omega
    rw [e, blk_cell h i, ← hu]; simp
theorem aw_g : ofG [⟨300, ⟨#[97]⟩, 0⟩] = ⟨1, 0, 0, 0⟩ := by
  show gadd gzero 0 = _
  have n0 : nanB 0 = false := by decide
  unfold gadd
  rw [n0]
  rfl
theorem of_one (w : World) : Calls Try.prog 26 #[.slice (some ⟨w.heap.size, 0, none⟩) 1 1] (w.alloc (.cells #[.int .u64 300, .string ⟨#[97]⟩, .int .u64 0] 90)) fun e w' =>
    ∃ A c A' c', e = .returned (.agg #[.slice A 1 c, .slice A' 1 c', .int .u64 1, .int .u64 0, .int .u64 0, .int .u64 0]) ∧ 1 ≤ c ∧ 1 ≤ c' ∧ Kd.C k68 w' A 1 [⟨278, 1⟩] ∧ Kd.C (Kd.int .u64) w' A' 1 [12638187200555641996] ∧ Below w.heap.size w w' := by
  have h := of_any (some ⟨w.heap.size, 0, none⟩) 1 [⟨300, ⟨#[97]⟩, 0⟩] _ (aw_c w) (fun o ho => by
    rw [List.mem_singleton] at ho; subst ho
    exact ⟨⟨by decide, by decide⟩, (by have hM : maxLen = 9223372036854775807 := rfl; have hs : (⟨#[97]⟩ : ByteArray).size = 1 := rfl; show (⟨#[97]⟩ : ByteArray).size ≤ maxLen; omega), ⟨by decide, by decide⟩⟩) (by decide)
  rw [aw_b, aw_k, aw_g] at h
  refine h.mono fun e w' ⟨A, c, A', c', he, h1, h2, hR, hS, hb⟩ => ⟨A, c, A', c', he, h1, h2, (Kd.R_reads' hR).2.2, (Kd.R_reads' hS).2.2, ?_⟩
  exact (below_alloc (Below.refl _ _) _).trans (hb.mono (by simp))
theorem of_nil (w : World) : Calls Try.prog 26 #[.slice none 0 0] w fun e w' =>
    ∃ A c A' c', e = .returned (.agg #[.slice A 0 c, .slice A' 0 c', .int .u64 0, .int .u64 0, .int .u64 0, .int .u64 0]) ∧ Kd.C k68 w' A 0 [] ∧ Kd.C (Kd.int .u64) w' A' 0 [] ∧ Below w.heap.size w w' := by
  have h := of_any none 0 [] w ⟨rfl, by decide, fun h => absurd h (by decide)⟩ (fun o ho => by simp at ho) (by decide)
  rw [aw_b0, aw_k0, aw_g0] at h
  exact h.mono fun e w' ⟨A, c, A', c', he, h1, h2, hR, hS, hb⟩ => ⟨A, c, A', c', he, (Kd.R_reads' hR).2.2, (Kd.R_reads' hS).2.2, hb⟩
theorem emp_nil (B : Option Addr) (d : Nat) (B' : Option Addr) (d' : Nat) (w : World) (hC : Kd.C k68 w B 0 []) (hK : Kd.C (Kd.int .u64) w B' 0 []) :
    Calls Try.prog 30 #[.agg #[.slice B 0 d, .slice B' 0 d', .int .u64 0, .int .u64 0, .int .u64 0, .int .u64 0]] w fun e w' => e = .returned (.bool true) ∧ Below w.heap.size w w' :=
  pair_Empty.calls B d [] B' d' [] 0 0 0 0 true w hC (Nat.zero_le _) hK (Nat.zero_le _) rfl
theorem emp_one (B : Option Addr) (d : Nat) (B' : Option Addr) (d' : Nat) (w : World) (h1 : 1 ≤ d) (h2 : 1 ≤ d') (hC : Kd.C k68 w B 1 [⟨278, 1⟩]) (hK : Kd.C (Kd.int .u64) w B' 1 [12638187200555641996]) :
    Calls Try.prog 30 #[.agg #[.slice B 1 d, .slice B' 1 d', .int .u64 1, .int .u64 0, .int .u64 0, .int .u64 0]] w fun e w' => e = .returned (.bool false) ∧ Below w.heap.size w w' :=
  pair_Empty.calls B d [⟨278, 1⟩] B' d' [12638187200555641996] 1 0 0 0 false w hC h1 hK h2 rfl
theorem first75 {w : World} {A : Option Addr} (h : Kd.C k68 w A 1 [⟨278, 1⟩]) : ∃ ad, A = some ad ∧ w.cell? ad = some (.int .i64 278) := by
  obtain ⟨ad, e, hc⟩ := h.2.2 (by decide)
  obtain ⟨cs, hl, hK, hcs⟩ := hc 0 ⟨278, 1⟩ rfl
  refine ⟨ad, e, ?_⟩
  have hk := k68_open hK
  subst hk
  have h0 := hcs 0 _ rfl
  have e0 : ad.add (0 * k68.sz + 0) = ad := by obtain ⟨b, o, p⟩ := ad; cases p <;> simp [Addr.add]
  rwa [e0] at h0
set_option maxHeartbeats 4000000 in
set_option maxRecDepth 100000 in
theorem awake_p (w : World) : Calls Try.prog 25 #[] w fun e w' => e = .returned (.bool true) ∧ Below w.heap.size w w' := by
  go_enter Try.func25, Try.ntmps25
  go_wp2_with (first
    | (go_at_call 26; (with_reducible refine (of_one _).mono ?_); rintro e w1 ⟨A, c, A', c', rfl, h1, h2, hC, hK, hb1⟩; have HC := Lib.hid hC; have HK := Lib.hid hK; have H1 := Lib.hid h1; have H2 := Lib.hid h2; clear hC hK h1 h2)
    | (go_at_call 26; (with_reducible refine (of_nil _).mono ?_); rintro e w2 ⟨B, d, B', d', rfl, hC2, hK2, hb2⟩; have HC2 := Lib.hid hC2; have HK2 := Lib.hid hK2; clear hC2 hK2; have hB2 := (below_alloc (Below.refl w1.heap.size w1) _).trans (hb2.mono (by simp)); have hx2 := (hb2.block w1.heap.size (by simp)).trans (blk_new w1 _); have HB2 := Lib.hid hB2; have HX2 := Lib.hid hx2; clear hb2 hB2 hx2)
    | (go_at_call 30; (with_reducible refine (emp_nil B d B' d' _ HC2.out HK2.out).mono ?_); rintro e w3 ⟨rfl, hb3⟩; have hx3 := (hb3.block w1.heap.size (blk_lt HX2.out)).trans HX2.out; have hB3 := HB2.out.trans (hb3.mono HB2.out.size); have c0 : w3.cell? ⟨w1.heap.size, 0, none⟩ = some (.slice A 1 c) := blk_cell hx3 0; have c1 : w3.cell? ⟨w1.heap.size, 1, none⟩ = some (.slice A' 1 c') := blk_cell hx3 1; have c2 : w3.cell? ⟨w1.heap.size, 2, none⟩ = some (.int .u64 1) := blk_cell hx3 2; have c3 : w3.cell? ⟨w1.heap.size, 3, none⟩ = some (.int .u64 0) := blk_cell hx3 3; have c4 : w3.cell? ⟨w1.heap.size, 4, none⟩ = some (.int .u64 0) := blk_cell hx3 4; have c5 : w3.cell? ⟨w1.heap.size, 5, none⟩ = some (.int .u64 0) := blk_cell hx3 5; have HB3 := Lib.hid hB3; have HX3 := Lib.hid hx3; clear hb3 hB3 hx3 HB2 HX2)
    | (go_at_call 30; (with_reducible refine (emp_one A c A' c' _ H1.out H2.out (Kd.C_below HC.out HB3.out) (Kd.C_below HK.out HB3.out)).mono ?_); rintro e w4 ⟨rfl, hb4⟩; have hx4 := (hb4.block w1.heap.size (blk_lt HX3.out)).trans HX3.out; have hB4 := HB3.out.trans (hb4.mono HB3.out.size); clear c0 c1 c2 c3 c4 c5; have c0 : w4.cell? ⟨w1.heap.size, 0, none⟩ = some (.slice A 1 c) := blk_cell hx4 0; have c1 : w4.cell? ⟨w1.heap.size, 1, none⟩ = some (.slice A' 1 c') := blk_cell hx4 1; have c2 : w4.cell? ⟨w1.heap.size, 2, none⟩ = some (.int .u64 1) := blk_cell hx4 2; have c3 : w4.cell? ⟨w1.heap.size, 3, none⟩ = some (.int .u64 0) := blk_cell hx4 3; have c4 : w4.cell? ⟨w1.heap.size, 4, none⟩ = some (.int .u64 0) := blk_cell hx4 4; have c5 : w4.cell? ⟨w1.heap.size, 5, none⟩ = some (.int .u64 0) := blk_cell hx4 5; obtain ⟨ad, rfl, q0⟩ := first75 (Kd.C_below HC.out hB4); have HB4 := Lib.hid hB4; clear hb4 hB4 hx4 HB3 HX3))
  go_ret
  exact ⟨rfl, hb1.trans (HB4.out.mono hb1.size)⟩
end Go.Proofs.Ytncgjbocgbnkcaa
namespace Go.Proofs.Ytncgjbocgbnkcaa
set_option linter.unusedVariables false
set_option linter.unusedSimpArgs false
open Go.RowKit Go.Maps Go.Proofs.YtncgjbocgbnkcaaW.PrintWords Go.Proofs.YtncgjbocgbnkcaaW.PrintLast Go.Proofs.YtncgjbocgbnkcaaW.PrintMore Go.Proofs.Ytncgjbocgbnkcaa.Pure Go.Proofs.Ytncgjbocgbnkcaa.Q Go.Proofs.Ytncgjbocgbnkcaa.Hi Go.Proofs.Ytncgjbocgbnkcaa.Ga
theorem SK.heap {W W' : World} {A : Option Addr} {c : Nat} {l : List S68} {B : Option Addr} {d : Nat} {h : List Int} (k : SK W A c l B d h) (hh : ∀ i, i < W.heap.size → W'.heap[i]? = W.heap[i]?) : SK W' A c l B d h :=
  ⟨heap51.C hh k.c1, k.l1, (Kd.heap_int .u64).C hh k.c2, k.l2, k.s1, k.s2⟩
/-- What is told is there whatever becomes of block r. -/
def Rob (w' : World) (r : Nat) (A : Option Addr) (c : Nat) (B : Option Addr) (d : Nat) (s : SV) : Prop := ∀ w'', (∀ i, i ≠ r → w''.heap[i]? = w'.heap[i]?) → SK w'' A c s.h B d s.k
theorem Rob.of_R {w' : World} {r base : Nat} {A : Option Addr} {c : Nat} {B : Option Addr} {d : Nat} {s : SV} (k : SK w' A c s.h B d s.k) (hR : Kd.R k68 68 w' base (fun _ => True) (.slice A s.h.length c) s.h) (hS : Kd.R (Kd.int .u64) 41 w' base (fun _ => True) (.slice B s.k.length d) s.k) (hr : r < base) : Rob w' r A c B d s := fun w'' hw =>
  ⟨(Kd.R_reads' (Kd.R_step (Kd.R_bound hR) (fun i hi _ => hw i (by have := hi.2.1; omega)))).2.2, k.l1, (Kd.R_reads' (Kd.R_step (Kd.R_bound hS) (fun i hi _ => hw i (by have := hi.2.1; omega)))).2.2, k.l2, k.s1, k.s2⟩
theorem name_last {P : Program} {md : Region.Mode} {ops : Array Oper} {Q : Exit → Act → World → Prop} {S : World → Prop} {ds : List Nat} {fuel : Nat} {l : Array Bool} {a : Act} {W : World} (h : ∀ W', Hid (W = W') → wpAnyLast P md ops Q S ds fuel l a W') : wpAnyLast P md ops Q S ds fuel l a W := h W (Lib.hid rfl)
/-- What is known where the orders meet. -/
def Met (Y : World) (s : SV) (σ : Value × Value × Nat × Option Addr × Nat × Option Addr × Nat) (w' : World) : Prop :=
  Below Y.heap.size Y w' ∧ Y.heap.size ≤ σ.2.2.1 ∧ w'.heap[σ.2.2.1]? = some (.cells szero 45 (0, 0)) ∧ Rob w' σ.2.2.1 σ.2.2.2.1 σ.2.2.2.2.1 σ.2.2.2.2.2.1 σ.2.2.2.2.2.2 s
theorem Met.mk {Y : World} {s : SV} {v1 v2 : Value} {r : Nat} {A : Option Addr} {c : Nat} {B : Option Addr} {d : Nat} {w' : World} (h1 : Below Y.heap.size Y w') (h2 : Y.heap.size ≤ r) (h3 : w'.heap[r]? = some (.cells szero 45 (0, 0))) (h4 : Rob w' r A c B d s) : Met Y s (v1, v2, r, A, c, B, d) w' := ⟨h1, h2, h3, h4⟩
theorem Met.out {Y : World} {s : SV} {v1 v2 : Value} {r : Nat} {A : Option Addr} {c : Nat} {B : Option Addr} {d : Nat} {w' : World} (h : Met Y s (v1, v2, r, A, c, B, d) w') : Below Y.heap.size Y w' ∧ Y.heap.size ≤ r ∧ w'.heap[r]? = some (.cells szero 45 (0, 0)) ∧ Rob w' r A c B d s := h
end Go.Proofs.Ytncgjbocgbnkcaa
namespace Go.Proofs.Ytncgjbocgbnkcaa
set_option linter.unusedVariables false
set_option linter.unusedSimpArgs false
open Go.RowKit Go.Maps Go.Proofs.YtncgjbocgbnkcaaW.PrintWords Go.Proofs.YtncgjbocgbnkcaaW.PrintLast Go.Proofs.YtncgjbocgbnkcaaW.PrintMore Go.Proofs.Ytncgjbocgbnkcaa.Pure Go.Proofs.Ytncgjbocgbnkcaa.Q Go.Proofs.Ytncgjbocgbnkcaa.Hi Go.Proofs.Ytncgjbocgbnkcaa.Ga
/-- So it is whatever becomes of block r and of the one ahead of it. -/
def RC (C : World → Prop) (W : World) (r : Nat) : Prop := ∀ W'', (∀ i, i < W.heap.size → i ≠ r → i + 1 ≠ r → W''.heap[i]? = W.heap[i]?) → C W''
theorem RC.now {C : World → Prop} {W : World} {r : Nat} (h : RC C W r) : C W := h W (fun _ _ _ _ => rfl)
theorem RC.below {C : World → Prop} {W W' : World} {r : Nat} (h : RC C W r) (hb : Below W.heap.size W W') : RC C W' r := fun W'' hw => h W'' (fun i hi hr hr2 => (hw i (by have := hb.size; omega) hr hr2).trans (hb.block i hi))
theorem RC.set {C : World → Prop} {W : World} {r j : Nat} (h : RC C W r) (v : Value) : RC C (W.setCell ⟨r, j, none⟩ v) r := fun W'' hw =>
  h W'' (fun i hi hr hr2 => (hw i (by have : (W.setCell ⟨r, j, none⟩ v).heap.size = W.heap.size := by simp
                                      omega) hr hr2).trans (Below.heap_setCell _ _ _ i hr))
theorem RC.of_R {α : Type} {kd : Kd α} {e : Nat} {W : World} {base r : Nat} {v : Value} {xs : List α} (hR : kd.R e W base (fun _ => True) v xs) (hr : r < base) : RC (fun w => ∃ A c, v = .slice A xs.length c ∧ kd.C w A xs.length xs) W r := fun W'' hw => by
  have h := Kd.R_step (w1 := W'') (Kd.R_bound hR) (fun i hi hlt => hw i hlt (by have := hi.2.1; omega) (by have := hi.2.1; omega))
  obtain ⟨A, c, e, _, hC⟩ := Kd.R_reads h
  exact ⟨A, c, e, hC⟩
theorem RC.slice {α : Type} {kd : Kd α} {W : World} {r : Nat} {A : Option Addr} {c : Nat} {xs : List α} (h : RC (fun w => ∃ A' c', Value.slice A xs.length c = .slice A' xs.length c' ∧ kd.C w A' xs.length xs) W r) : RC (fun w => kd.C w A xs.length xs) W r := fun W'' hw => by
  obtain ⟨A', c', e, hC⟩ := h W'' hw
  injection e with e1 _ _
  subst e1
  exact hC
structure RS (w0 W : World) (A : Option Addr) (c : Nat) (h : List S68) (B : Option Addr) (d : Nat) (k : List Int) (G : G4) : Prop where
  bel : Below w0.heap.size w0 W
  bx : W.heap[w0.heap.size + 1]? = some (.cells #[.slice A h.length c, .slice B k.length d, .int .u64 G.n, .int .u64 G.nans, .int .u64 G.lo, .int .u64 G.hi] 45 (0, 0))
  rx : W.heap[w0.heap.size]? = some (.cells szero 45 (0, 0))
  r1 : RC (fun w => Kd.C k68 w A h.length h) W (w0.heap.size + 1)
  l1 : h.length ≤ c
  r2 : RC (fun w => Kd.C (Kd.int .u64) w B k.length k) W (w0.heap.size + 1)
  l2 : k.length ≤ d
theorem RS.below {w0 W W' : World} {A : Option Addr} {c : Nat} {h : List S68} {B : Option Addr} {d : Nat} {k : List Int} {G : G4} (s : RS w0 W A c h B d k G) (hb : Below W.heap.size W W') : RS w0 W' A c h B d k G :=
  ⟨s.bel.trans (hb.mono s.bel.size), (hb.block _ (blk_lt s.bx)).trans s.bx, (hb.block _ (blk_lt s.rx)).trans s.rx, s.r1.below hb, s.l1, s.r2.below hb, s.l2⟩
theorem elem {w0 W : World} {a : Addr} {v : Value} (hb : Below w0.heap.size w0 W) (h : w0.cell? a = some v) : W.cell? a = some v := (hb.cell (World.block_lt_of_cell? w0 _ h)).trans h
theorem RS.start (w : World) : RS w ((w.alloc (.cells szero 45)).alloc (.cells szero 45)) none 0 [] none 0 [] gzero := by
  have s1 : (w.alloc (.cells szero 45)).heap.size = w.heap.size + 1 := by simp
  refine ⟨below_alloc (below_alloc (Below.refl _ _) _) _, by rw [← s1]; exact blk_new _ _, blk_alloc (blk_new _ _) _, fun _ _ => ⟨rfl, by decide, fun h => absurd h (by decide)⟩, Nat.le_refl _, fun _ _ => ⟨rfl, by decide, fun h => absurd h (by decide)⟩, Nat.le_refl _⟩
end Go.Proofs.Ytncgjbocgbnkcaa
namespace Go.Proofs.Ytncgjbocgbnkcaa
set_option linter.unusedVariables false
set_option linter.unusedSimpArgs false
open Go.RowKit Go.Maps Go.ChangeShapes Go.WideShapes Go.Deep Go.Proofs.YtncgjbocgbnkcaaW.PrintWords Go.Proofs.YtncgjbocgbnkcaaW.PrintLast Go.Proofs.YtncgjbocgbnkcaaW.PrintMore Go.Proofs.Ytncgjbocgbnkcaa.Pure Go.Proofs.Ytncgjbocgbnkcaa.Q Go.Proofs.Ytncgjbocgbnkcaa.Hi Go.Proofs.Ytncgjbocgbnkcaa.Ga
def Pure.WV (l : List SV) : Prop := l.length * 80 ≤ 140737488351232 ∧ l.length ≤ 9223372036854775807 ∧ ∀ v ∈ l, SV.wf v
theorem opens60 : Opens Try.prog 60 (Kd.slice 45 kV) Pure.WV := opens_slice Try.underlying60 (by kernel_rfl) (by kernel_rfl) opensV
theorem info45_ : (Try.prog.info? 45).map (fun i => (i.zero, i.size, i.bytes)) = some (some (.agg #[.slice none 0 0, .slice none 0 0, .int .u64 0, .int .u64 0, .int .u64 0, .int .u64 0]), 6, 80) := by kernel_rfl
theorem kV_mkM {W : World} {base : Nat} {ok : Nat → Prop} {v : SV} {A : Option Addr} {c : Nat} {B : Option Addr} {d : Nat} (h1 : Kd.R k68 68 W base ok (.slice A v.h.length c) v.h) (h2 : Kd.R (Kd.int .u64) 41 W base ok (.slice B v.k.length d) v.k) :
    kV.M W base ok v [.slice A v.h.length c, .slice B v.k.length d, .int .u64 v.g.n, .int .u64 v.g.nans, .int .u64 v.g.lo, .int .u64 v.g.hi] :=
  ⟨[.slice A v.h.length c], [.slice B v.k.length d, .int .u64 v.g.n, .int .u64 v.g.nans, .int .u64 v.g.lo, .int .u64 v.g.hi], rfl, ⟨_, rfl, h1⟩, [.slice B v.k.length d], [.int .u64 v.g.n, .int .u64 v.g.nans, .int .u64 v.g.lo, .int .u64 v.g.hi], rfl, ⟨_, rfl, h2⟩,
    [.int .u64 v.g.n], [.int .u64 v.g.nans, .int .u64 v.g.lo, .int .u64 v.g.hi], rfl, rfl, [.int .u64 v.g.nans], [.int .u64 v.g.lo, .int .u64 v.g.hi], rfl, rfl, [.int .u64 v.g.lo], [.int .u64 v.g.hi], rfl, rfl, rfl⟩
def CopyRes (v : SV) (W : World) (e : Ending) (w' : World) : Prop :=
  ∃ A c B d, e = .returned (.agg #[.slice A v.h.length c, .slice B v.k.length d, .int .u64 v.g.n, .int .u64 v.g.nans, .int .u64 v.g.lo, .int .u64 v.g.hi]) ∧ Kd.R k68 68 w' W.heap.size (fun _ => True) (.slice A v.h.length c) v.h ∧ Kd.R (Kd.int .u64) 41 w' W.heap.size (fun _ => True) (.slice B v.k.length d) v.k ∧ Below W.heap.size W w'
theorem copyR {W : World} {A : Option Addr} {c : Nat} {B : Option Addr} {d : Nat} {v : SV} (k : SK W A c v.h B d v.k) :
    Calls Try.prog 39 #[.agg #[.slice A v.h.length c, .slice B v.k.length d, .int .u64 v.g.n, .int .u64 v.g.nans, .int .u64 v.g.lo, .int .u64 v.g.hi]] W (CopyRes v W) :=
  (varvelaw00_Sketch.calls A c v.h B d v.k v.g.n v.g.nans v.g.lo v.g.hi v.h v.k v.g.n v.g.nans v.g.lo v.g.hi W k.c1 k.l1 k.c2 k.l2 (by
    have := k.s1; have := k.s2
    unfold varvelaw00_Sketch.f varvelaw00_Buckets.f varvelaw00_Nums.f
    rw [if_pos (by simp; omega), if_pos (by simp; omega)]; rfl)).mono fun e w' ⟨v0, v1, he, h0, h1, hb⟩ => by
    obtain ⟨A', c', rfl, e1, e2⟩ := Kd.R_reads h0
    obtain ⟨B', d', rfl, e3, e4⟩ := Kd.R_reads h1
    exact ⟨A', c', B', d', he, h0, h1, hb⟩
theorem rmergeR {W : World} {A : Option Addr} {c : Nat} {B : Option Addr} {d : Nat} {a : SV} (k : SK W A c a.h B d a.k) {A' : Option Addr} {c' : Nat} {B' : Option Addr} {d' : Nat} {v : SV} (k' : SK W A' c' v.h B' d' v.k) (ha : AllOk [a, v]) {s : SV} (hs : sumV [a, v] = s) :
    Calls Try.prog 43 #[.agg #[.slice A a.h.length c, .slice B a.k.length d, .int .u64 a.g.n, .int .u64 a.g.nans, .int .u64 a.g.lo, .int .u64 a.g.hi], .agg #[.slice A' v.h.length c', .slice B' v.k.length d', .int .u64 v.g.n, .int .u64 v.g.nans, .int .u64 v.g.lo, .int .u64 v.g.hi]] W (CopyRes s W) := by
  subst hs
  obtain ⟨wa, oa⟩ := ha a (by simp)
  obtain ⟨wv, ov⟩ := ha v (by simp)
  refine (varveref10_Merge.calls 60000 A c a.h B d a.k a.g.n a.g.nans a.g.lo a.g.hi A' c' v.h B' d' v.k v.g.n v.g.nans v.g.lo v.g.hi _ _ _ _ _ _ W k.c1 k.l1 k.c2 k.l2 k'.c1 k'.l1 k'.c2 k'.l2 (ref_merge wa oa wv ov)).mono fun e w' h => ?_
  obtain ⟨v0, v1, he, h0, h1, hb⟩ := h
  obtain ⟨A1, c1, rfl, e1, e2⟩ := Kd.R_reads h0
  obtain ⟨B1, d1, rfl, e3, e4⟩ := Kd.R_reads h1
  exact ⟨A1, c1, B1, d1, he, h0, h1, hb⟩
theorem SK.of_R {W : World} {b1 b2 : Nat} {ok1 ok2 : Nat → Prop} {A : Option Addr} {c : Nat} {B : Option Addr} {d : Nat} {v : SV} (h1 : Kd.R k68 68 W b1 ok1 (.slice A v.h.length c) v.h) (h2 : Kd.R (Kd.int .u64) 41 W b2 ok2 (.slice B v.k.length d) v.k) (hw : v.wf) : SK W A c v.h B d v.k :=
  ⟨(Kd.R_reads' h1).2.2, (Kd.R_reads' h1).2.1, (Kd.R_reads' h2).2.2, (Kd.R_reads' h2).2.1, WB.len hw.1, by have := hw.2.1.1; omega⟩
/-- A row of one, just made, of a sketch whose lists are the call's own. -/
theorem reads_one {W : World} {b base : Nat} {ok : Nat → Prop} {v : SV} {A : Option Addr} {c : Nat} {B : Option Addr} {d : Nat} {T : TypeId} (hb : W.heap[b]? = some (.cells #[.slice A v.h.length c, .slice B v.k.length d, .int .u64 v.g.n, .int .u64 v.g.nans, .int .u64 v.g.lo, .int .u64 v.g.hi] T (0, 0))) (hM : kV.M W base ok v [.slice A v.h.length c, .slice B v.k.length d, .int .u64 v.g.n, .int .u64 v.g.nans, .int .u64 v.g.lo, .int .u64 v.g.hi]) :
    ReadsRow (kV.M W base ok) kV.sz W (some ⟨b, 0, none⟩) 1 [v] := by
  refine ⟨rfl, by decide, fun _ => ⟨_, rfl, fun j p hp => ?_⟩⟩
  cases j with
  | succ j => simp at hp
  | zero =>
    obtain rfl : v = p := by simpa using hp
    refine ⟨_, rfl, hM, fun i u hu => ?_⟩
    have e : (⟨b, 0, none⟩ : Addr).add (0 * kV.sz + i) = ⟨b, i, none⟩ := by
      simp [Addr.add]
      omega
    rw [e, blk_cell hb i, ← hu]; simp
structure WS (w0 W : World) (v : SV) (A : Option Addr) (c : Nat) (B : Option Addr) (d : Nat) (mv : Value) (ls : List SV) : Prop where
  bel : Below w0.heap.size w0 W
  bx : W.heap[w0.heap.size]? = some (.cells #[.slice A v.h.length c, .slice B v.k.length d, .int .u64 v.g.n, .int .u64 v.g.nans, .int .u64 v.g.lo, .int .u64 v.g.hi] 45 (0, 0))
  r1 : Kd.R k68 68 W w0.heap.size (fun _ => True) (.slice A v.h.length c) v.h
  r2 : Kd.R (Kd.int .u64) 41 W w0.heap.size (fun _ => True) (.slice B v.k.length d) v.k
  rm : Kd.R kV 45 W w0.heap.size (fun k => k ≠ w0.heap.size) mv ls
section
variable {w0 W W' : World} {v : SV} {A : Option Addr} {c : Nat} {B : Option Addr} {d : Nat} {mv : Value} {ls : List SV}
theorem WS.below (s : WS w0 W v A c B d mv ls) (hb : Below W.heap.size W W') : WS w0 W' v A c B d mv ls :=
  ⟨s.bel.trans (hb.mono s.bel.size), (hb.block _ (blk_lt s.bx)).trans s.bx, Kd.R_below s.r1 hb, Kd.R_below s.r2 hb, Kd.R_below s.rm hb⟩
theorem WS.sk (s : WS w0 W v A c B d mv ls) (hw : v.wf) : SK W A c v.h B d v.k := SK.of_R s.r1 s.r2 hw
theorem r_grown {α : Type} {kd : Kd α} {e : Nat} {base : Nat} {u : Value} {xs : List α} (h : kd.R e W base (fun _ => True) u xs) {b2 : Nat} {ok2 : Nat → Prop} (hm : Kd.R kV 45 W b2 ok2 mv ls) (hg : W.grownBy W' mv.ownBlock) (ht : ∀ q, q ∈ e :: kd.E → q ≠ 45) : kd.R e W' base (fun _ => True) u xs := by
  obtain ⟨_, inner, ho, _⟩ := hm
  refine Kd.R_mono (Kd.R_step (Kd.R_bound h) (fun k hk hlt => hg.block k hlt (fun ek => ?_))) (fun _ _ => trivial)
  obtain ⟨cells, hc⟩ := own_typed ho k ek.symm
  obtain ⟨_, _, _, q, hq, cells', hc'⟩ := hk
  rw [hc] at hc'
  injection hc' with hc'
  injection hc' with _ hc'
  exact ht q hq hc'.symm
theorem WS.app (s : WS w0 W v A c B d mv ls) {mv' : Value} {ls' : List SV} (ho : Kd.R kV 45 W' w0.heap.size (fun k => k ≠ w0.heap.size) mv' ls') (hB : Below w0.heap.size w0 W') (hg : W.grownBy W' mv.ownBlock) : WS w0 W' v A c B d mv' ls' :=
  ⟨hB, (hg.block _ (blk_lt s.bx) (fun e => s.rm.1 _ e.symm rfl)).trans s.bx, r_grown s.r1 s.rm hg (by decide), r_grown s.r2 s.rm hg (by decide), ho⟩
theorem WS.put (s : WS w0 W v A c B d mv ls) {v1 : SV} {A1 : Option Addr} {c1 : Nat} {B1 : Option Addr} {d1 : Nat} (h1 : Kd.R k68 68 W w0.heap.size (fun _ => True) (.slice A1 v1.h.length c1) v1.h) (h2 : Kd.R (Kd.int .u64) 41 W w0.heap.size (fun _ => True) (.slice B1 v1.k.length d1) v1.k) :
    WS w0 ((((((W.setCell ⟨w0.heap.size, 0, none⟩ (.slice A1 v1.h.length c1)).setCell ⟨w0.heap.size, 1, none⟩ (.slice B1 v1.k.length d1)).setCell ⟨w0.heap.size, 2, none⟩ (.int .u64 v1.g.n)).setCell ⟨w0.heap.size, 3, none⟩ (.int .u64 v1.g.nans)).setCell ⟨w0.heap.size, 4, none⟩ (.int .u64 v1.g.lo)).setCell ⟨w0.heap.size, 5, none⟩ (.int .u64 v1.g.hi)) v1 A1 c1 B1 d1 mv ls := by
  have hx := Nat.le_refl w0.heap.size
  have b0 := s.bx
  have b1 := blk_set b0 0 (.slice A1 v1.h.length c1)
  have b2 := blk_set b1 1 (.slice B1 v1.k.length d1)
  have b3 := blk_set b2 2 (.int .u64 v1.g.n)
  have b4 := blk_set b3 3 (.int .u64 v1.g.nans)
  have b5 := blk_set b4 4 (.int .u64 v1.g.lo)
  have b6 := blk_set b5 5 (.int .u64 v1.g.hi)
  refine ⟨below_set (below_set (below_set (below_set (below_set (below_set s.bel hx) hx) hx) hx) hx) hx, b6, ?_, ?_, ?_⟩
  · exact Kd.R_set (Kd.R_set (Kd.R_set (Kd.R_set (Kd.R_set (Kd.R_set h1 b0 (by decide) 0 _) b1 (by decide) 1 _) b2 (by decide) 2 _) b3 (by decide) 3 _) b4 (by decide) 4 _) b5 (by decide) 5 _
  · exact Kd.R_set (Kd.R_set (Kd.R_set (Kd.R_set (Kd.R_set (Kd.R_set h2 b0 (by decide) 0 _) b1 (by decide) 1 _) b2 (by decide) 2 _) b3 (by decide) 3 _) b4 (by decide) 4 _) b5 (by decide) 5 _
  · exact Kd.R_far (p := ⟨w0.heap.size, 5, none⟩) (Kd.R_far (p := ⟨w0.heap.size, 4, none⟩) (Kd.R_far (p := ⟨w0.heap.size, 3, none⟩) (Kd.R_far (p := ⟨w0.heap.size, 2, none⟩) (Kd.R_far (p := ⟨w0.heap.size, 1, none⟩) (Kd.R_far (p := ⟨w0.heap.size, 0, none⟩) s.rm (fun _ h => h) _) (fun _ h => h) _) (fun _ h => h) _) (fun _ h => h) _) (fun _ h => h) _) (fun _ h => h) _
end
theorem WS.start (w : World) : WS w (w.alloc (.cells szero 45)) zV none 0 none 0 (.slice none 0 0) [] :=
  ⟨below_alloc (Below.refl _ _) _, blk_new _ _, Kd.R_nil _ _ _ _ _, Kd.R_nil _ _ _ _ _, Kd.R_nil _ _ _ _ _⟩
theorem sumV_nil : sumV [] = zV := by
  show (⟨bks (hzero 7424), [], gzero⟩ : SV) = _
  rw [show bks (hzero 7424) = [] from aw_b0]; rfl
theorem sum_bad {A0 : Option Addr} {c0 : Nat} {l : List SV} {w : World} (C0 : Kd.C kV w A0 l.length l) (hO : ∀ v ∈ l, v.wf) (hn : ¬ AllOk l) :
    Calls Try.prog 44 #[.slice A0 l.length c0] w fun e w' => e = .returned (.tuple #[.agg #[.slice none 0 0, .slice none 0 0, .int .u64 0, .int .u64 0, .int .u64 0, .int .u64 0], .int .i64 5]) ∧ Below w.heap.size w w' :=
  (sum_any A0 c0 l w C0 hO).mono fun _ _ h => ⟨h.2.1 hn, h.2.2⟩
theorem sum_all {A0 : Option Addr} {c0 : Nat} {l : List SV} {w : World} (C0 : Kd.C kV w A0 l.length l) (ha : AllOk l) {s : SV} (hs : sumV l = s) : Calls Try.prog 44 #[.slice A0 l.length c0] w (OkRes s w) :=
  (sum_any A0 c0 l w C0 (fun v hv => (ha v hv).1)).mono fun _ _ h => by
    obtain ⟨A, c, B, d, he, hk, _, _, hb⟩ := h.good ha hs
    exact ⟨A, c, B, d, he, hk, hb⟩
end Go.Proofs.Ytncgjbocgbnkcaa
