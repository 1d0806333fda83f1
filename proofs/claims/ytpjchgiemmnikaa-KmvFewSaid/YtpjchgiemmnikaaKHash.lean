/- kmv.New and (*kmv.Kmv).Hash by walks over their Go text. -/
import Derived.Test.YtpjchgiemmnikaaKHashes
import Derived.StillTail
namespace Go.Proofs.Ytpjchgiemmnikaa
set_option linter.unusedVariables false
set_option linter.unusedSimpArgs false
open Go.RowKit Go.Maps Go.Proofs.YtpjchgiemmnikaaW.PrintWords Go.Proofs.Ytpjchgiemmnikaa.Pure

theorem kgood_nil : KGood [] := ⟨List.Pairwise.nil, by simp, fun x hx => by simp at hx⟩
theorem new_u (w : World) : Calls Try.prog 26 #[] w fun e w' => ∃ kb mb, e = .returned (.pointer (some ⟨kb, 0, none⟩)) ∧ KM w' kb mb [] ∧ w.heap.size ≤ kb ∧ w.heap.size ≤ mb ∧ Below w.heap.size w w' := by
  have h1 := World.ownsMap_made (H := Unit) w Try.prog 25 (plainElem Try.prog 3)
  have h2 := h1.alloc (.cells #[.map (some w.heap.size), .int .u64 0] 96)
  have b1 : Below w.heap.size w ((w.alloc (.map #[] 0)).alloc (.cells #[.map (some w.heap.size), .int .u64 0] 96)) :=
    ((Below.refl w.heap.size w).alloc (Nat.le_refl _) (.map #[] 0)).alloc (by simp) _
  have n1 := blk_new (w.alloc (.map #[] 0)) (Obj.cells #[.map (some w.heap.size), .int .u64 0] 96)
  have H2 := Lib.hid h2; have B1 := Lib.hid b1; have N1 := Lib.hid n1
  clear h1 h2 b1 n1
  have hmk : ∀ w, (Instr.makeMap 94 none).run Try.prog w = .ok (.map (some w.heap.size)) (w.alloc (.map #[] 0)) := fun w => run_makeMap 94 w
  go_enter Try.func26, Try.ntmps26
  go_wp2
  go_ret
  exact ⟨w.heap.size + 1, w.heap.size, by simp, ⟨by omega, ⟨_, H2.out, MapIs.nil⟩, kgood_nil, ⟨0, by simpa using N1.out, by simp⟩⟩, by omega, Nat.le_refl _, B1.out⟩

/-! ### What Hash does to the list -/
theorem khash_in {S : List Int} {h : Int} (hA : Asc S) (hl : S.length ≤ 1024) (hm : h ∈ S) : khash S h = S := by
  unfold khash; rw [kins_mem hA hm, List.take_of_length_le hl]
theorem kins_over {h : Int} : ∀ {S : List Int}, (∀ x ∈ S, x < h) → kins h S = S ++ [h] := by
  intro S
  induction S with
  | nil => intro _; rfl
  | cons x r ih =>
    intro hx
    have := hx x (by simp)
    rw [kins, if_neg (by omega), if_neg (by omega), ih (fun y hy => hx y (by simp [hy]))]; rfl
theorem khash_over {S : List Int} {h : Int} (hl : S.length = 1024) (hm : ∀ x ∈ S, x < h) : khash S h = S := by
  unfold khash; rw [kins_over hm, List.take_append_of_le_length (by omega), List.take_of_length_le (by omega)]
theorem khash_new {S : List Int} {h : Int} (hA : Asc S) (hl : S.length < 1024) (hm : h ∉ S) : khash S h = kins h S := by
  unfold khash; rw [List.take_of_length_le (by rw [kins_len hA hm]; omega)]
theorem mem_but_last {L : List Int} {n : Nat} {m : Int} (hA : Asc L) (hl : L.length = n + 1) (hm : m ∈ L) (hx : ∀ x ∈ L, x ≤ m) (y : Int) : y ∈ L.take n ↔ y ∈ L ∧ y ≠ m := by
  rcases List.eq_nil_or_concat L with rfl | ⟨K, z, rfl⟩
  · simp at hl
  · simp only [List.concat_eq_append, List.length_append, List.length_cons, List.length_nil] at *
    have hK : K.length = n := by omega
    have hz : ∀ a ∈ K, a < z := fun a ha => (List.pairwise_append.1 hA).2.2 a ha z (by simp)
    have e : z = m := by
      have h1 := hx z (by simp)
      rcases List.mem_append.1 hm with c | c
      · have := hz m c; omega
      · simp at c; exact c.symm
    rw [List.take_append_of_le_length (by omega), List.take_of_length_le (by omega), ← e]
    simp only [List.mem_append, List.mem_singleton]
    exact ⟨fun c => ⟨.inl c, fun c2 => by have := hz y c; omega⟩, fun ⟨c, c2⟩ => c.resolve_right c2⟩
theorem kgood_khash {S : List Int} (hg : KGood S) {h : Int} (h0 : 0 ≤ h ∧ h < 18446744073709551616) : KGood (khash S h) := by
  refine ⟨asc_khash hg.1 h, khash_len S h, fun x hx => ?_⟩
  rcases (mem_kins h S x).1 (List.mem_of_mem_take hx) with c | c
  · rw [c]; exact h0
  · exact hg.2.2 x c

/-- Only the two blocks of a Kmv have changed of those that stood. -/
def KF (w w' : World) (kb mb : Nat) : Prop := w'.os = w.os ∧ w'.tape = w.tape ∧ w'.output = w.output ∧ w.heap.size ≤ w'.heap.size ∧ ∀ i, i < w.heap.size → i ≠ kb → i ≠ mb → w'.heap[i]? = w.heap[i]?
theorem KF.refl (w : World) (kb mb : Nat) : KF w w kb mb := ⟨rfl, rfl, rfl, Nat.le_refl _, fun _ _ _ _ => rfl⟩
theorem KF.trans {a b c : World} {kb mb : Nat} (h : KF a b kb mb) (k : KF b c kb mb) : KF a c kb mb :=
  ⟨k.1.trans h.1, k.2.1.trans h.2.1, k.2.2.1.trans h.2.2.1, Nat.le_trans h.2.2.2.1 k.2.2.2.1, fun i hi h1 h2 => (k.2.2.2.2 i (Nat.lt_of_lt_of_le hi h.2.2.2.1) h1 h2).trans (h.2.2.2.2 i hi h1 h2)⟩
theorem KF.below {a b : World} {kb mb : Nat} (h : Below a.heap.size a b) : KF a b kb mb := ⟨h.os, h.tape, h.output, h.size, fun i hi _ _ => h.block i hi⟩
theorem KF.grown {a b : World} {kb mb : Nat} (h : a.grownBy b (some mb)) : KF a b kb mb := ⟨h.os, h.tape, h.output, h.size, fun i hi _ h2 => h.block i hi (by simpa using h2)⟩
theorem KF.set {a : World} {kb mb : Nat} (j : Nat) (v : Value) : KF a (a.setCell ⟨kb, j, none⟩ v) kb mb := ⟨rfl, rfl, rfl, by simp, fun i _ h1 _ => Below.heap_setCell a ⟨kb, j, none⟩ v i h1⟩
theorem KM.topped {w : World} {kb mb : Nat} {L : List Int} {t m : Int} (hne : kb ≠ mb) (hm : KMap w mb L) (hg : KGood L) (hc : w.heap[kb]? = some (.cells #[.map (some mb), .int .u64 t] 96 (0, 0))) (hin : m ∈ L) (hx : ∀ x ∈ L, x ≤ m) :
    KM (w.setCell ⟨kb, 1, none⟩ (.int .u64 m)) kb mb L :=
  ⟨hne, hm.block (Below.heap_setCell w ⟨kb, 1, none⟩ _ mb (Ne.symm hne)), hg, ⟨m, blk_set hc 1 (.int .u64 m), fun _ => ⟨hin, hx⟩⟩⟩
theorem greatest_in {L : List Int} {m : Int} (hg : KGood L) (hl : L.length = 1024) (hx : ∀ x ∈ L, x ≤ m) (hin : m ∈ L ∨ m = 0) : m ∈ L := by
  rcases hin with h | h
  · exact h
  · cases L with
    | nil => simp at hl
    | cons x r =>
      have h1 := hx x (by simp)
      have h2 := (hg.2.2 x (by simp)).1
      have : x = m := by omega
      rw [← this]; simp

set_option maxHeartbeats 2000000 in
set_option maxRecDepth 100000 in
theorem hash_u (kb mb : Nat) (S : List Int) (h : Int) (h0 : 0 ≤ h ∧ h < 18446744073709551616) (w : World) (hk : KM w kb mb S) :
    Calls Try.prog 31 #[.pointer (some ⟨kb, 0, none⟩), .int .u64 h] w fun e w' => e = .returned (.tuple #[]) ∧ KM w' kb mb (khash S h) ∧ KF w w' kb mb := by
  have hkm := hk
  obtain ⟨hne, ⟨D, hown, hD⟩, ⟨hA, hL, hr⟩, top, hc, htop⟩ := hk
  have wfh : (Lit.int .u64 h).wf = true := by
    have e1 : IntKind.u64.min = 0 := by decide
    have e2 : IntKind.u64.max = 18446744073709551615 := by decide
    simp only [Lit.wf, e1, e2, Bool.and_eq_true, decide_eq_true_eq]; omega
  have hc0 := blk_cell hc 0
  have hc1 := blk_cell hc 1
  obtain ⟨c, hlook, hat, hwc⟩ := hown.lookup_int law25 Try.underlying94 Try.underlying3 (by rfl) (keyOf_int_mk Try.underlying25 wfh)
  have hlen := fun ty => hown.len Try.underlying94 ty
  rw [hD.size] at hlen
  rw [hD.key] at hat
  by_cases hm : h ∈ S
  · rw [if_pos hm] at hat
    obtain rfl : c = 1 := by injection hat with e; injection e with _ e; exact e.symm
    have E := Lib.hid (khash_in hA hL hm)
    have KK := Lib.hid hkm
    clear hat hwc hA hL hr hm hD hown hkm htop
    go_enter Try.func31, Try.ntmps31
    go_wp2
    (try simp only [Exit.inBlock, Exit.then]); refine bodyPost_ret (results_none rfl _ _ _) rfl ?_
    exact ⟨rfl, by rw [E.out]; exact KK.out, KF.refl _ _ _⟩
  · rw [if_neg hm] at hat
    obtain rfl : c = 0 := by injection hat with e; injection e with _ e; exact e.symm
    clear hat hwc
    have hD1 := hD.put (hown.tidy law25) hm (mem_kins h S) (kins_len hA hm)
    have hkl := kins_len hA hm
    have hval : plainElem (H := Unit) Try.prog 3 (.int .i64 1) = some (kone, []) := plainElem_int Try.underlying3 (by decide)
    have hkb : kb < w.heap.size := (Array.getElem?_eq_some_iff.1 hc).1
    have hkey := keyOf_int_mk Try.underlying25 wfh
    by_cases h1024 : S.length = 1024
    · rw [h1024] at hlen
      obtain ⟨ht1, ht2⟩ := htop h1024
      by_cases hgt : top < h
      · have E := Lib.hid (khash_over (h := h) h1024 (fun x hx => by have := ht2 x hx; omega))
        have KK := Lib.hid hkm
        clear hA hL hr hm hD hown hkm htop hD1 ht2 h1024 hkl hval
        go_enter Try.func31, Try.ntmps31
        go_wp2
        (try simp only [Exit.inBlock, Exit.then]); refine bodyPost_ret (results_none rfl _ _ _) rfl ?_
        exact ⟨rfl, by rw [E.out]; exact KK.out, KF.refl _ _ _⟩
      · have hlt : h < top := by
          have : h ≠ top := fun c => hm (c ▸ ht1)
          omega
        have hle : ¬ top < h := hgt
        have hkl2 : (kins h S).length = 1025 := by omega
        have hin1 : top ∈ kins h S := (mem_kins h S top).2 (.inr ht1)
        have hmax : ∀ x ∈ kins h S, x ≤ top := fun x hx => by rcases (mem_kins h S x).1 hx with c | c; · omega
                                                              · exact ht2 x c
        have hmem := mem_but_last (asc_kins h hA) hkl2 hin1 hmax
        have hgd := kgood_khash hkm.good h0 (h := h)
        have hlk : (khash S h).length = 1024 := by unfold khash; rw [List.length_take]; omega
        have HGD := Lib.hid hgd; have HMEM := Lib.hid hmem; have HIN1 := Lib.hid hin1; have HLK := Lib.hid hlk
        have HD1 := Lib.hid hD1; have HSZ := Lib.hid (hD1.size.trans hkl2); have HL := Lib.hid h1024
        have hr2 := hr top ht1
        clear hA hL hr hm hD hkm htop hD1 hkl hkl2 hgd hmem hin1 hmax ht1 ht2 hlk h1024 hgt
        go_enter Try.func31, Try.ntmps31
        go_upto_if 41 with (first
          | (at_mapUpdate; refine wpList_mapUpdate_own _ rfl _ _ _ 94 rfl 25 3 law25 Try.underlying94 _ mb S.length D rfl hown (by have : maxLen = 9223372036854775807 := rfl; have := HL.out; omega) _ _ (.int .u64 h) rfl rfl hkey kone [] hval ?_; intro w1 hown1 hg1; have hc2 := (hg1.block kb hkb (by simp [hne])).trans hc; have hcc0 := blk_cell hc2 0; have hcc1 := blk_cell hc2 1; have hlen1 := fun ty => hown1.len Try.underlying94 ty; rw [HSZ.out, show ((1025 : Nat) : Int) = 1025 from rfl] at hlen1)
          | go_in)
        have HG1 := Lib.hid hg1
        have k1 := (Array.getElem?_eq_some_iff.1 hc2).1
        have ht1 := hown1.tidy law25
        have own2 := hown1.drew
        have hc3 : w1.drew.heap[kb]? = some (.cells #[.map (some mb), .int .u64 top] 96 (0, 0)) := hc2
        have kF : KF w1 w1.drew kb mb := KF.below (below_drew (Below.refl _ _))
        have TD := Lib.hid ht1
        clear hg1 ht1
        have hd41 : decide ((1024 : Int) < 1025) = true := by decide
        go_wp2
        refine wp_region_still_tail 8 (by kernel_rfl) (by kernel_rfl) ?_
        simp only [List.take_succ_cons, List.take_zero, List.drop_succ_cons, List.drop_zero]
        change wpStill _ _ w1.drew _ _ _
        obtain ⟨W2, hW2⟩ : ∃ W2, w1.drew = W2 := ⟨_, rfl⟩
        rw [hW2] at own2 hc3 kF ⊢
        have HW2 := Lib.hid hW2
        clear hW2 hcc0 hcc1 hlen1 hlen hc0 hc1 hlook hown hc hown1 hc2
        have hcc0 := blk_cell hc3 0; have hcc1 := blk_cell hc3 1
        repeat still_step
        refine wpStill_nil ?_
        change wpList _ _ _ _ _ w1.drew
        rw [HW2.out]
        have wft : (Lit.int .u64 top).wf = true := by
          have e1 : IntKind.u64.min = 0 := by decide
          have e2 : IntKind.u64.max = 18446744073709551615 := by decide
          simp only [Lit.wf, e1, e2, Bool.and_eq_true, decide_eq_true_eq]; omega
        have hkeyt := keyOf_int_mk Try.underlying25 wft
        have hD2 : MapIs _ (khash S h) := HD1.out.del TD.out HIN1.out HMEM.out (by have := HSZ.out; rw [HD1.out.size] at this; have := HLK.out; omega)
        have HD2 := Lib.hid hD2
        have kF2 := Lib.hid ((KF.grown (kb := kb) HG1.out).trans kF)
        have hkb2 := (Array.getElem?_eq_some_iff.1 hc3).1
        clear hD2 hcc0 hcc1 kF
        go_wp2_with (first
          | (at_delete; refine wpList_delete_own _ rfl _ _ 94 25 rfl 3 law25 Try.underlying94 _ mb _ _ rfl own2 (.int .u64 top) (.int .u64 top) rfl hkeyt ?_; intro w3 own3 turn3; have hg3 := turn3.grown; have hc4 := (hg3.block kb hkb2 (by simp [hne])).trans hc3; have hcc0 := blk_cell hc4 0; have hcc1 := blk_cell hc4 1; have hlen3 := fun ty => own3.len Try.underlying94 ty; rw [HD2.out.size, HLK.out, show ((1024 : Nat) : Int) = 1024 from rfl] at hlen3; have HG3 := Lib.hid hg3; clear turn3 hg3;
             have hmap3 : KMap w3 mb (khash S h) := ⟨_, by rw [← HD2.out.size]; exact ownsMap_tight own3, HD2.out⟩; have C := greatest_u kb mb top (khash S h) w3 hc4 hmap3 HGD.out.2.2; have HM3 := Lib.hid hmap3; have hmb3 := own3.lt; clear hmap3)
          | (go_at_call 65; refine C.mono ?_; rintro e w4 ⟨m, rfl, hx, hin, hb2⟩; clear C; have hkb1 := (Array.getElem?_eq_some_iff.1 hc4).1; have hc5 := (hb2.block kb hkb1).trans hc4; have hcd0 := blk_cell hc5 0; have hcd1 := blk_cell hc5 1; have hfd := blk_frozen hc5 1; have HIN := Lib.hid hin; have HX := Lib.hid hx; have HB2 := Lib.hid hb2; clear hin hx hb2)
          | go_in)
        go_end0
        exact ⟨rfl, KM.topped hne (HM3.out.block (HB2.out.block mb hmb3)) HGD.out hc5 (greatest_in HGD.out HLK.out HX.out HIN.out) HX.out, ((kF2.out.trans (KF.grown HG3.out)).trans (KF.below HB2.out)).trans (KF.set 1 _)⟩
    · have hlt : S.length < 1024 := by omega
      have hz1 : decide ((S.length : Int) = 1024) = false := decide_eq_false (by omega)
      have hz2 : decide ((1024 : Int) < ((kins h S).length : Int)) = false := decide_eq_false (by omega)
      have E := Lib.hid (khash_new hA hlt hm)
      have hgd := kgood_khash hkm.good h0 (h := h)
      rw [E.out] at hgd
      have HGD := Lib.hid hgd
      have HD1 := Lib.hid hD1; have HSZ := Lib.hid hD1.size
      clear hA hL hr hm hD hkm htop hD1 hkl hgd
      go_enter Try.func31, Try.ntmps31
      go_upto_if 41 with (first
        | (at_mapUpdate; refine wpList_mapUpdate_own _ rfl _ _ _ 94 rfl 25 3 law25 Try.underlying94 _ mb S.length D rfl hown (by have : maxLen = 9223372036854775807 := rfl; omega) _ _ (.int .u64 h) rfl rfl hkey kone [] hval ?_; intro w1 hown1 hg1; have hc2 := (hg1.block kb hkb (by simp [hne])).trans hc; have hcc0 := blk_cell hc2 0; have hcc1 := blk_cell hc2 1; have hlen1 := fun ty => hown1.len Try.underlying94 ty; rw [HSZ.out] at hlen1)
        | go_in)
      have hmap1 : KMap w1 mb (kins h S) := ⟨_, by rw [← HD1.out.size]; exact ownsMap_tight hown1, HD1.out⟩
      have HM1 := Lib.hid hmap1; have HG1 := Lib.hid hg1
      have hmb1 := hown1.lt
      by_cases hq : (kins h S).length = 1024
      · rw [hq, show ((1024 : Nat) : Int) = 1024 from rfl] at hlen1
        have C := greatest_u kb mb top (kins h S) w1 hc2 hmap1 HGD.out.2.2
        have HQ := Lib.hid hq
        clear hmap1 hg1 hq
        go_wp2_with (go_at_call 65; refine C.mono ?_; rintro e w2 ⟨m, rfl, hx, hin, hb2⟩; clear C; have hkb1 := (Array.getElem?_eq_some_iff.1 hc2).1; have hc3 := (hb2.block kb hkb1).trans hc2; have hcd0 := blk_cell hc3 0; have hcd1 := blk_cell hc3 1; have hfd := blk_frozen hc3 1; have HIN := Lib.hid hin; have HX := Lib.hid hx; have HB2 := Lib.hid hb2; clear hin hx hb2)
        go_end0
        exact ⟨rfl, by rw [E.out]; exact KM.topped hne (HM1.out.block (HB2.out.block mb hmb1)) HGD.out hc3 (greatest_in HGD.out HQ.out HX.out HIN.out) HX.out, ((KF.grown HG1.out).trans (KF.below HB2.out)).trans (KF.set 1 _)⟩
      · have hz3 : (((kins h S).length : Int) == 1024) = false := beq_eq_false_iff_ne.mpr (by omega)
        have HQ := Lib.hid hq
        clear hmap1 hg1 hq
        go_wp2
        go_end0
        exact ⟨rfl, by rw [E.out]; exact ⟨hne, HM1.out, HGD.out, ⟨top, hc2, fun c => absurd c HQ.out⟩⟩, KF.grown HG1.out⟩
end Go.Proofs.Ytpjchgiemmnikaa
