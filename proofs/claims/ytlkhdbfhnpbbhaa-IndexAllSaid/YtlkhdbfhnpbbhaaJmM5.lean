/- What the laws of this folder share, part 5: walks of functions over their Go text, and plain lemmas. Conditions: as each lemma says. -/
import Derived.StillTailTactics
import Derived.Test.YtlkhdbfhnpbbhaaJmM4
namespace Go.Proofs.Ytlkhdbfhnpbbhaa
set_option linter.unusedVariables false
set_option linter.unusedSimpArgs false
open Go.RowKit Go.Proofs.YtlkhdbfhnpbbhaaW.PrintWords Go.Proofs.YtlkhdbfhnpbbhaaW.PrintLast Go.Proofs.YtlkhdbfhnpbbhaaW.PrintMore Go.Proofs.Ytlkhdbfhnpbbhaa.Ix Go.Proofs.Ytlkhdbfhnpbbhaa.Tx Go.Proofs.Ytlkhdbfhnpbbhaa.Mx Go.Proofs.Ytlkhdbfhnpbbhaa.Pure
/-- The two lists of a matcher, as they lie. -/
structure MK (w : World) (m : MT) (A3 : Option Addr) (c3 : Nat) (A4 : Option Addr) (c4 : Nat) : Prop where
  l3 : m.f3.length ≤ c3
  g3 : Kd.string.C w A3 m.f3.length m.f3
  l4 : m.f4.length ≤ c4
  g4 : k54.C w A4 m.f4.length m.f4
theorem MK.below {w w' : World} {m : MT} {A3 A4 : Option Addr} {c3 c4 : Nat} (h : MK w m A3 c3 A4 c4) (hb : Below w.heap.size w w') : MK w' m A3 c3 A4 c4 := ⟨h.l3, Kd.C_below h.g3 hb, h.l4, Kd.C_below h.g4 hb⟩
abbrev mval (m : MT) (A3 : Option Addr) (c3 : Nat) (A4 : Option Addr) (c4 : Nat) : Value := .agg #[.int .i64 m.f0, .string m.f1, .string m.f2, .slice A3 m.f3.length c3, .slice A4 m.f4.length c4]
abbrev mobj (m : MT) (A3 : Option Addr) (c3 : Nat) (A4 : Option Addr) (c4 : Nat) : Array Value := #[.int .i64 m.f0, .string m.f1, .string m.f2, .slice A3 m.f3.length c3, .slice A4 m.f4.length c4]
theorem box5 {w : World} {g : Nat} {m : MT} {A3 A4 : Option Addr} {c3 c4 : Nat} (h : w.heap[g]? = some (.cells (mobj m A3 c3 A4 c4) 54 (0, 0))) :
    w.cell? ⟨g, 0, none⟩ = some (.int .i64 m.f0) ∧ w.cell? ⟨g, 1, none⟩ = some (.string m.f1) ∧ w.cell? ⟨g, 2, none⟩ = some (.string m.f2) ∧ w.cell? ⟨g, 3, none⟩ = some (.slice A3 m.f3.length c3) ∧ w.cell? ⟨g, 4, none⟩ = some (.slice A4 m.f4.length c4) :=
  ⟨blk_cell h 0, blk_cell h 1, blk_cell h 2, blk_cell h 3, blk_cell h 4⟩
/-- A kid, as it lies. -/
theorem kid_at {w : World} {A : Option Addr} {n : Nat} {xs : List MT} (h : k54.C w A n xs) (i : Nat) (hi : i < n) : ∃ ad A3 c3 A4 c4, A = some ad ∧ MK w (rd_T54 xs (i : Int)) A3 c3 A4 c4 ∧
    w.cell? (ad.add (i * 5)) = some (.int .i64 (rd_T54 xs (i : Int)).f0) ∧ w.cell? ⟨(ad.add (i * 5)).block, (ad.add (i * 5)).off + 1, none⟩ = some (.string (rd_T54 xs (i : Int)).f1) ∧ w.cell? ⟨(ad.add (i * 5)).block, (ad.add (i * 5)).off + 2, none⟩ = some (.string (rd_T54 xs (i : Int)).f2) ∧
    w.cell? ⟨(ad.add (i * 5)).block, (ad.add (i * 5)).off + 3, none⟩ = some (.slice A3 (rd_T54 xs (i : Int)).f3.length c3) ∧ w.cell? ⟨(ad.add (i * 5)).block, (ad.add (i * 5)).off + 4, none⟩ = some (.slice A4 (rd_T54 xs (i : Int)).f4.length c4) := by
  obtain ⟨ad, A3, c3, A4, c4, e, h0, h1, h2, h3, h4, l3, g3, l4, g4⟩ := at_T54 h (i : Int) (by omega) (by omega)
  rw [Int.toNat_natCast] at h0 h1 h2 h3 h4
  exact ⟨ad, A3, c3, A4, c4, e, ⟨l3, g3, l4, g4⟩, h0, h1, h2, h3, h4⟩
theorem kid_mem {xs : List MT} {i : Nat} (hi : i < xs.length) : rd_T54 xs (i : Int) ∈ xs := by
  unfold rd_T54
  rw [Int.toNat_natCast, List.getD_eq_getElem?_getD, List.getElem?_eq_getElem hi]
  exact List.getElem_mem _
/-- What a call of tiny leaves: an answer, the count, nothing else. -/
def TinyPost (nb : Nat) (w : World) (e : Ending) (w' : World) : Prop := ∃ (r : Bool) (N' : Nat), e = .returned (.bool r) ∧ w'.heap[nb]? = some (.cells #[.int .i64 (N' : Int)] 3 (0, 0)) ∧ (r = true → N' ≤ 200) ∧ Below nb w w' ∧ Far (fun k => k = nb) w w'
set_option maxRecDepth 100000 in
set_option maxHeartbeats 8000000 in
theorem tiny_u : ∀ (d : Nat), d ≤ 12 → ∀ {wm w : World} {nb : Nat} {N : Nat} {m : MT} {A3 A4 : Option Addr} {c3 c4 : Nat} (_ : MK wm m A3 c3 A4 c4) (_ : WM m) (_ : Below wm.heap.size wm w) (_ : wm.heap.size ≤ nb) (_ : N ≤ 200) (_ : w.heap[nb]? = some (.cells #[.int .i64 (N : Int)] 3 (0, 0))),
    Calls Try.prog 44 #[mval m A3 c3 A4 c4, .pointer (some ⟨nb, 0, none⟩), .int .i64 (12 - (d : Int))] w (TinyPost nb w) := by
  intro d
  induction d with
  | zero =>
    intro _ wm w nb N m A3 A4 c3 c4 hmk hwm hb hnb hN hr
    have hnw := (Array.getElem?_eq_some_iff.1 hr).1
    have hc0 : w.cell? ⟨nb, 0, none⟩ = some (.int .i64 (N : Int)) := blk_cell hr 0
    have HMK := Lib.hid hmk; have HWM := Lib.hid hwm; have HBM := Lib.hid hb; have HNB := Lib.hid hnb; have HR := Lib.hid hr; have HNW := Lib.hid hnw
    have hk1 := hwm.c
    have hk2 := hwm.l
    clear hmk hwm hb hnb hr hnw hc0
    go_enter Try.func44, Try.ntmps44
    go_upto_region 2 with (first
      | ((with_reducible refine gate_dst (N := 3) rfl ?_); go_must (refine box_event ?hg (N := 3) ?hd (cs := mobj m A3 c3 A4 c4) (t := 54) ?hr ?_; (case hd => rfl); (case hg => rfl); (case hr => first | (go_simp; done) | (go_simp; rfl)); intro gb hg w1 hbox hb1; have hn1 := (hb1.block nb HNW.out).trans HR.out; have hnc : w1.cell? ⟨nb, 0, none⟩ = some (.int .i64 (N : Int)) := blk_cell hn1 0; have hnf : w1.frozen? ⟨nb, 0, none⟩ = false := blk_frozen hn1 0; have HBOX := Lib.hid hbox; have HB1 := Lib.hid hb1; have HN1 := Lib.hid hn1; have HG := Lib.hid hg; clear hbox hb1 hn1 hg))
      | ((with_reducible refine gate_store (t := 3) (p := 13) rfl ?_); go_must (refine store_event (t := 3) (p := 13) (v := .tmp 12) (w1 := w1.setCell ⟨nb, 0, none⟩ (.int .i64 ((N : Int) + 1))) ?hg ?ho ?hn ?hr ?_; (case ho => rfl); (case hg => rfl); (case hn => rfl); (case hr => first | (go_simp; done) | (go_simp; rfl)); intro w2 hw2; have HW2 := Lib.hid hw2; clear hw2)))
    have hn2 : w2.heap[nb]? = some (.cells #[.int .i64 ((N : Int) + 1)] 3 (0, 0)) := by rw [HW2.out]; exact blk_put HN1.out 0 _ rfl
    have hgn : gb ≠ nb := by rw [HG.out]; have := HNW.out; omega
    have hbox2 : w2.heap[gb]? = some (.cells (mobj m A3 c3 A4 c4) 54 (0, 0)) := by rw [HW2.out]; exact (Below.heap_setCell _ ⟨nb, 0, none⟩ _ gb hgn).trans HBOX.out
    have hb2 : Below nb w w2 := by rw [HW2.out]; exact (HB1.out.mono (Nat.le_of_lt HNW.out)).setCell (p := ⟨nb, 0, none⟩) (Nat.le_refl _) _
    have hf2 : Far (fun k => k = nb) w w2 := by rw [HW2.out]; exact (Far.of_below (f := fun k => k = nb) HB1.out).setCell (p := ⟨nb, 0, none⟩) rfl _
    have hnc2 : w2.cell? ⟨nb, 0, none⟩ = some (.int .i64 ((N : Int) + 1)) := blk_cell hn2 0
    obtain ⟨b0, b1, b2, b3, b4⟩ := box5 hbox2
    have HN2 := Lib.hid hn2; have HX2 := Lib.hid hbox2; have HB2 := Lib.hid hb2; have HF2 := Lib.hid hf2; have HGN := Lib.hid hgn
    have HFAIL := Lib.hid (show TinyPost nb w (.returned (.bool false)) w2 from ⟨false, N + 1, rfl, by rw [hn2]; simp, by simp, hb2, hf2⟩)
    clear hn2 hbox2 hb2 hf2 hnc HBOX HN1 hnf hgn HW2 HB1
    go_wp2
    all_goals (go_ret; exact HFAIL.out)
  | succ d ih =>
    intro hd wm w nb N m A3 A4 c3 c4 hmk hwm hb hnb hN hr
    have hnw := (Array.getElem?_eq_some_iff.1 hr).1
    have hc0 : w.cell? ⟨nb, 0, none⟩ = some (.int .i64 (N : Int)) := blk_cell hr 0
    have HMK := Lib.hid hmk; have HWM := Lib.hid hwm; have HBM := Lib.hid hb; have HNB := Lib.hid hnb; have HR := Lib.hid hr; have HNW := Lib.hid hnw
    have ih2 := @ih (by omega)
    rw [show (12 : Int) - (d : Int) = 12 - ((d : Int) + 1) + 1 by omega] at ih2
    have HIH := Lib.hid (fun (_ : Unit) => @ih2)
    have hk1 := hwm.c
    have hk2 := hwm.l
    clear ih ih2 hmk hwm hb hnb hr hnw hc0
    go_enter Try.func44, Try.ntmps44
    go_upto_region 2 with (first
      | ((with_reducible refine gate_dst (N := 3) rfl ?_); go_must (refine box_event ?hg (N := 3) ?hd (cs := mobj m A3 c3 A4 c4) (t := 54) ?hr ?_; (case hd => rfl); (case hg => rfl); (case hr => first | (go_simp; done) | (go_simp; rfl)); intro gb hg w1 hbox hb1; have hn1 := (hb1.block nb HNW.out).trans HR.out; have hnc : w1.cell? ⟨nb, 0, none⟩ = some (.int .i64 (N : Int)) := blk_cell hn1 0; have hnf : w1.frozen? ⟨nb, 0, none⟩ = false := blk_frozen hn1 0; have HBOX := Lib.hid hbox; have HB1 := Lib.hid hb1; have HN1 := Lib.hid hn1; have HG := Lib.hid hg; clear hbox hb1 hn1 hg))
      | ((with_reducible refine gate_store (t := 3) (p := 13) rfl ?_); go_must (refine store_event (t := 3) (p := 13) (v := .tmp 12) (w1 := w1.setCell ⟨nb, 0, none⟩ (.int .i64 ((N : Int) + 1))) ?hg ?ho ?hn ?hr ?_; (case ho => rfl); (case hg => rfl); (case hn => rfl); (case hr => first | (go_simp; done) | (go_simp; rfl)); intro w2 hw2; have HW2 := Lib.hid hw2; clear hw2)))
    have hn2 : w2.heap[nb]? = some (.cells #[.int .i64 ((N : Int) + 1)] 3 (0, 0)) := by rw [HW2.out]; exact blk_put HN1.out 0 _ rfl
    have hgn : gb ≠ nb := by rw [HG.out]; have := HNW.out; omega
    have hbox2 : w2.heap[gb]? = some (.cells (mobj m A3 c3 A4 c4) 54 (0, 0)) := by rw [HW2.out]; exact (Below.heap_setCell _ ⟨nb, 0, none⟩ _ gb hgn).trans HBOX.out
    have hb2 : Below nb w w2 := by rw [HW2.out]; exact (HB1.out.mono (Nat.le_of_lt HNW.out)).setCell (p := ⟨nb, 0, none⟩) (Nat.le_refl _) _
    have hf2 : Far (fun k => k = nb) w w2 := by rw [HW2.out]; exact (Far.of_below (f := fun k => k = nb) HB1.out).setCell (p := ⟨nb, 0, none⟩) rfl _
    have hnc2 : w2.cell? ⟨nb, 0, none⟩ = some (.int .i64 ((N : Int) + 1)) := blk_cell hn2 0
    obtain ⟨b0, b1, b2, b3, b4⟩ := box5 hbox2
    have HN2 := Lib.hid hn2; have HX2 := Lib.hid hbox2; have HB2 := Lib.hid hb2; have HF2 := Lib.hid hf2; have HGN := Lib.hid hgn
    have HFAIL := Lib.hid (show TinyPost nb w (.returned (.bool false)) w2 from ⟨false, N + 1, rfl, by rw [hn2]; simp, by simp, hb2, hf2⟩)
    clear hn2 hbox2 hb2 hf2 hnc HBOX HN1 hnf hgn HW2 HB1
    have hd11 : (11 : Int) < 12 - ((d : Int) + 1) ↔ False := ⟨fun h => by omega, fun h => h.elim⟩
    go_wp2
    all_goals first | (go_ret; exact HFAIL.out) | skip
    have hN2 : N + 1 ≤ 200 := by omega
    have HN200 := Lib.hid hN2
    clear hN2
    go_loopw [7] (fun v7 wk => ∃ i : Nat, i ≤ m.f3.length ∧ v7 = .int .i64 (i : Int) ∧ w2 = wk) (fun v7 _ => m.f3.length - (intOf v7).toNat)
    case atStart => exact ⟨0, Nat.zero_le _, rfl, rfl⟩
    case round =>
      obtain ⟨i, hi, rfl, rfl⟩ := hrel
      by_cases hil : i < m.f3.length
      · have e1 : decide ((i : Int) < (m.f3.length : Int)) = true := decide_eq_true (by omega)
        have e2 : decide (i < m.f3.length) = true := decide_eq_true hil
        obtain ⟨ad, rfl, hs⟩ := Kd.at_string (Kd.C_below HMK.out.g3 (HBM.out.trans (HB2.out.mono HNB.out))) (i : Int) (by omega) (by omega)
        rw [Int.toNat_natCast] at hs
        obtain ⟨s, hse⟩ : ∃ s, rdOf ByteArray.empty m.f3 (i : Int) = s := ⟨_, rfl⟩
        rw [hse] at hs
        by_cases hsz : 300 < s.size
        · have e3 : decide ((300 : Int) < (s.size : Int)) = true := decide_eq_true (by omega)
          have e4 : decide (300 < s.size) = true := decide_eq_true hsz
          go_wp2
          go_ret
          exact HFAIL.out
        · have e3 : decide ((300 : Int) < (s.size : Int)) = false := decide_eq_false (by omega)
          have e4 : decide (300 < s.size) = false := decide_eq_false hsz
          go_wp2
          go_roundw
          case rel => exact ⟨i + 1, hil, by simp, by first | rfl | trivial⟩
          case measure => simp [intOf]; omega
      · have e1 : decide ((i : Int) < (m.f3.length : Int)) = false := decide_eq_false (by omega)
        have e2 : decide (i < m.f3.length) = false := decide_eq_false hil
        go_wp2
        go_loopw [8] (fun v8 wk => ∃ (j N' : Nat), j ≤ m.f4.length ∧ v8 = .int .i64 (j : Int) ∧ N' ≤ 200 ∧ wk.heap[nb]? = some (.cells #[.int .i64 (N' : Int)] 3 (0, 0)) ∧ Below nb w wk ∧ Far (fun k => k = nb) w2 wk) (fun v8 _ => m.f4.length - (intOf v8).toNat)
        case atStart => exact ⟨0, N + 1, Nat.zero_le _, rfl, HN200.out, by rw [HN2.out]; simp, HB2.out, Far.of_below (Below.refl _ _)⟩
        case round =>
          obtain ⟨j, N', hj, rfl, hN', hn', hbk, hfk⟩ := hrel
          clear b0 b1 b2 b3 b4 hnc2
          have hxk := (hfk.block gb (Array.getElem?_eq_some_iff.1 HX2.out).1 HGN.out).trans HX2.out
          obtain ⟨b0, b1, b2, b3, b4⟩ := box5 hxk
          have HBK := Lib.hid hbk; have HFK := Lib.hid hfk; have HNK := Lib.hid hn'; have HXK := Lib.hid hxk
          have HFW := Lib.hid (HF2.out.trans hfk)
          by_cases hjl : j < m.f4.length
          · have e3 : decide ((j : Int) < (m.f4.length : Int)) = true := decide_eq_true (by omega)
            have e4 : decide (j < m.f4.length) = true := decide_eq_true hjl
            obtain ⟨ad, K3, q3, K4, q4, rfl, hkm, k0, k1, k2, k3, k4⟩ := kid_at HMK.out.g4 j hjl
            have hbm : Below wm.heap.size wm wr := HBM.out.trans (hbk.mono HNB.out)
            replace k0 := (hbm.cell (World.block_lt_of_cell? wm _ k0)).trans k0
            replace k1 := (hbm.cell (World.block_lt_of_cell? wm _ k1)).trans k1
            replace k2 := (hbm.cell (World.block_lt_of_cell? wm _ k2)).trans k2
            replace k3 := (hbm.cell (World.block_lt_of_cell? wm _ k3)).trans k3
            replace k4 := (hbm.cell (World.block_lt_of_cell? wm _ k4)).trans k4
            have hkw := HWM.out.k _ (kid_mem hjl)
            obtain ⟨y, hy⟩ : ∃ y, rd_T54 m.f4 (j : Int) = y := ⟨_, rfl⟩
            rw [hy] at hkm k0 k1 k2 k3 k4 hkw
            have HCALL := Lib.hid (HIH.out () hkm hkw hbm HNB.out hN' hn')
            clear hkm hkw hbm hy hn' hbk hfk hxk
            go_wp2_with (go_at_call 44; go_must (refine HCALL.out.mono ?_; rintro e w5 ⟨r, N5, rfl, hn5, hr5, hb5, hf5⟩; have HN5 := Lib.hid hn5; have HR5 := Lib.hid hr5; have HB5 := Lib.hid (HBK.out.trans hb5); have HF5 := Lib.hid (HFK.out.trans hf5); have HFW5 := Lib.hid (HFW.out.trans hf5); clear hn5 hr5 hb5 hf5))
            all_goals first | (go_ret; exact ⟨false, N5, rfl, HN5.out, by simp, HB5.out, HFW5.out⟩) | skip
            have hrt : r = true := by simpa using (by assumption : (!r) = false)
            go_roundw
            case rel => exact ⟨j + 1, N5, hjl, by simp, HR5.out hrt, HN5.out, HB5.out, HF5.out⟩
            case measure => simp [intOf]; omega
          · have e3 : decide ((j : Int) < (m.f4.length : Int)) = false := decide_eq_false (by omega)
            have e4 : decide (j < m.f4.length) = false := decide_eq_false hjl
            clear hn' hbk hfk hxk
            go_wp2
            go_ret
            exact ⟨true, N', rfl, HNK.out, fun _ => hN', HBK.out, HFW.out⟩
set_option maxRecDepth 100000 in
set_option maxHeartbeats 8000000 in
theorem tinyB_u {w : World} {m : MT} {A3 A4 : Option Addr} {c3 c4 : Nat} (hmk : MK w m A3 c3 A4 c4) (hwm : WM m) :
    Calls Try.prog 24 #[mval m A3 c3 A4 c4] w fun e w' => ∃ r : Bool, e = .returned (.bool r) ∧ Below w.heap.size w w' := by
  have HMK := Lib.hid hmk; have HWM := Lib.hid hwm
  clear hmk hwm
  go_enter Try.func24, Try.ntmps24
  go_wp2_with (first
    | ((with_reducible refine gate_dst (N := 1) rfl ?_); go_must (refine box_event ?hg (N := 1) ?hd (cs := mobj m A3 c3 A4 c4) (t := 54) ?hr ?_; (case hd => rfl); (case hg => rfl); (case hr => first | (go_simp; done) | (go_simp; rfl)); intro gb hg w1 hbox hb1; obtain ⟨b0, b1, b2, b3, b4⟩ := box5 hbox; have HBOX := Lib.hid hbox; have HB1 := Lib.hid hb1; have HG := Lib.hid hg; clear hbox hb1 hg))
    | ((with_reducible refine gate_dst (N := 3) rfl ?_); go_must (refine box_event ?hg (N := 3) ?hd (cs := #[.int .i64 0]) (t := 3) ?hr ?_; (case hd => rfl); (case hg => rfl); (case hr => first | (go_simp; done) | (go_simp; rfl)); intro nb hn w2 hbox hb2; have hbox2 := (hb2.block gb (Array.getElem?_eq_some_iff.1 HBOX.out).1).trans HBOX.out; clear b0 b1 b2 b3 b4; obtain ⟨b0, b1, b2, b3, b4⟩ := box5 hbox2; have hcn : w2.cell? ⟨nb, 0, none⟩ = some (.int .i64 0) := blk_cell hbox 0; have hfn : w2.frozen? ⟨nb, 0, none⟩ = false := blk_frozen hbox 0; have HN := Lib.hid hbox; have HB2 := Lib.hid hb2; have HGN := Lib.hid hn; have HBOX2 := Lib.hid hbox2; clear hbox hb2 hn hbox2))
    | ((with_reducible refine gate_store (t := 3) (p := 3) rfl ?_); go_must (refine store_event (t := 3) (p := 3) (v := .const (.int .i64 0)) (w1 := w2.setCell ⟨nb, 0, none⟩ (.int .i64 0)) ?hg ?ho ?hn ?hr ?_; (case ho => rfl); (case hg => rfl); (case hn => rfl); (case hr => first | (go_simp; done) | (go_simp; rfl)); intro w3 hw3; have hn3 : w3.heap[nb]? = some (.cells #[.int .i64 ((0 : Nat) : Int)] 3 (0, 0)) := (by rw [hw3]; exact blk_put HN.out 0 _ rfl); have hx3 : w3.heap[gb]? = some (.cells (mobj m A3 c3 A4 c4) 54 (0, 0)) := (by rw [hw3]; exact (Below.heap_setCell _ ⟨nb, 0, none⟩ _ gb (by rw [HGN.out]; exact Nat.ne_of_lt (Array.getElem?_eq_some_iff.1 HBOX.out).1)).trans HBOX2.out); have hb3 : Below w.heap.size w w3 := (by rw [hw3]; exact (HB1.out.trans (HB2.out.mono HB1.out.size)).setCell (p := ⟨nb, 0, none⟩) (by rw [HGN.out]; exact HB1.out.size) _); clear b0 b1 b2 b3 b4 hcn hfn; obtain ⟨b0, b1, b2, b3, b4⟩ := box5 hx3; have HN3 := Lib.hid hn3; have HB3 := Lib.hid hb3; have HNB := Lib.hid (show w.heap.size ≤ nb by rw [HGN.out]; exact HB1.out.size); clear hn3 hx3 hb3 hw3))
    | (go_at_call 44; go_must (refine (tiny_u 12 (Nat.le_refl _) HMK.out HWM.out HB3.out HNB.out (Nat.zero_le _) HN3.out).mono ?_; rintro e w5 ⟨r, N5, rfl, -, -, hb5, -⟩; have HB5 := Lib.hid (HB3.out.trans (hb5.mono HNB.out)); clear hb5)))
  go_ret
  exact ⟨r, rfl, HB5.out⟩
end Go.Proofs.Ytlkhdbfhnpbbhaa
namespace Go.Proofs.Ytlkhdbfhnpbbhaa
set_option linter.unusedVariables false
set_option linter.unusedSimpArgs false
open Go.RowKit Go.Proofs.YtlkhdbfhnpbbhaaW.PrintWords Go.Proofs.YtlkhdbfhnpbbhaaW.PrintLast Go.Proofs.YtlkhdbfhnpbbhaaW.PrintMore Go.Proofs.Ytlkhdbfhnpbbhaa.Ix Go.Proofs.Ytlkhdbfhnpbbhaa.Tx Go.Proofs.Ytlkhdbfhnpbbhaa.Mx Go.Proofs.Ytlkhdbfhnpbbhaa.Pure
/-- What a call of holds leaves: whether the matcher may be and there is room; then the room that is left. -/
def HoldsPost (d n b : Nat) (m : MT) (rb : Nat) (w : World) (e : Ending) (w' : World) : Prop := ∃ (r : Bool) (x y : Int), e = .returned (.bool r) ∧ (r = true ↔ okM d n b m) ∧ (r = true → x = ((n - nodesD d m : Nat) : Int) ∧ y = ((b - bytesD d m : Nat) : Int)) ∧ w'.heap[rb]? = some (.cells #[.int .i64 x, .int .i64 y] 97 (0, 0)) ∧ Below rb w w' ∧ Far (fun k => k = rb) w w'
theorem alone_u {w : World} {m : MT} {A3 A4 : Option Addr} {c3 c4 : Nat} (h : MK w m A3 c3 A4 c4) : Calls Try.prog 71 #[mval m A3 c3 A4 c4] w fun e w' => e = .returned (.bool (okOp m)) ∧ Below w.heap.size w w' :=
  match_alone.calls 60 _ _ _ _ _ _ _ _ _ _ w h.g3 h.l3 h.g4 h.l4 (alone_eq m 60 (Nat.le_refl _))
theorem strsN_drop (l : List ByteArray) (i : Nat) (hi : i < l.length) : strsN (l.drop i) = (rdOf ByteArray.empty l (i : Int)).size + strsN (l.drop (i + 1)) := by
  have h : rdOf ByteArray.empty l (i : Int) = l[i] := by simp [rdOf, hi]
  rw [List.drop_eq_getElem_cons hi, h]
  unfold strsN
  rw [List.map_cons, List.sum_cons]
theorem strsN_drop_le (l : List ByteArray) (i : Nat) : strsN (l.drop i) ≤ strsN l := by
  induction i with
  | zero => exact Nat.le_refl _
  | succ i ih =>
    by_cases h : i < l.length
    · have := strsN_drop l i h; omega
    · rw [List.drop_eq_nil_of_le (by omega)]; exact Nat.zero_le _
def put5 (w : World) (kb : Nat) (y : MT) (K3 : Option Addr) (q3 : Nat) (K4 : Option Addr) (q4 : Nat) : World :=
  ((((w.setCell ⟨kb, 0, none⟩ (.int .i64 y.f0)).setCell ⟨kb, 1, none⟩ (.string y.f1)).setCell ⟨kb, 2, none⟩ (.string y.f2)).setCell ⟨kb, 3, none⟩ (.slice K3 y.f3.length q3)).setCell ⟨kb, 4, none⟩ (.slice K4 y.f4.length q4)
theorem put5_at {w : World} {kb : Nat} {y : MT} {K3 : Option Addr} {q3 : Nat} {K4 : Option Addr} {q4 : Nat} {t : TypeId} (h : w.heap[kb]? = some (.cells #[.int .i64 0, .string ByteArray.empty, .string ByteArray.empty, .slice none 0 0, .slice none 0 0] t (0, 0))) : (put5 w kb y K3 q3 K4 q4).heap[kb]? = some (.cells (mobj y K3 q3 K4 q4) t (0, 0)) := by
  unfold put5
  refine blk_put (cs := #[.int .i64 y.f0, .string y.f1, .string y.f2, .slice K3 y.f3.length q3, .slice none 0 0]) ?_ 4 _ rfl
  refine blk_put (cs := #[.int .i64 y.f0, .string y.f1, .string y.f2, .slice none 0 0, .slice none 0 0]) ?_ 3 _ rfl
  refine blk_put (cs := #[.int .i64 y.f0, .string y.f1, .string ByteArray.empty, .slice none 0 0, .slice none 0 0]) ?_ 2 _ rfl
  refine blk_put (cs := #[.int .i64 y.f0, .string ByteArray.empty, .string ByteArray.empty, .slice none 0 0, .slice none 0 0]) ?_ 1 _ rfl
  exact blk_put h 0 _ rfl
theorem put5_below {n : Nat} {w0 w : World} {kb : Nat} {y : MT} {K3 : Option Addr} {q3 : Nat} {K4 : Option Addr} {q4 : Nat} (h : Below n w0 w) (hk : n ≤ kb) : Below n w0 (put5 w kb y K3 q3 K4 q4) :=
  ((((h.setCell (p := ⟨kb, 0, none⟩) hk _).setCell (p := ⟨kb, 1, none⟩) hk _).setCell (p := ⟨kb, 2, none⟩) hk _).setCell (p := ⟨kb, 3, none⟩) hk _).setCell (p := ⟨kb, 4, none⟩) hk _
theorem zero5 {w : World} {g : Nat} {t : TypeId} (h : w.heap[g]? = some (.cells #[.int .i64 0, .string ByteArray.empty, .string ByteArray.empty, .slice none 0 0, .slice none 0 0] t (0, 0))) :
    w.cell? ⟨g, 0, none⟩ = some (.int .i64 0) ∧ w.cell? ⟨g, 1, none⟩ = some (.string ByteArray.empty) ∧ w.cell? ⟨g, 2, none⟩ = some (.string ByteArray.empty) ∧ w.cell? ⟨g, 3, none⟩ = some (.slice none 0 0) ∧ w.cell? ⟨g, 4, none⟩ = some (.slice none 0 0) ∧
    w.frozen? ⟨g, 0, none⟩ = false ∧ w.frozen? ⟨g, 1, none⟩ = false ∧ w.frozen? ⟨g, 2, none⟩ = false ∧ w.frozen? ⟨g, 3, none⟩ = false ∧ w.frozen? ⟨g, 4, none⟩ = false :=
  ⟨blk_cell h 0, blk_cell h 1, blk_cell h 2, blk_cell h 3, blk_cell h 4, blk_frozen h 0, blk_frozen h 1, blk_frozen h 2, blk_frozen h 3, blk_frozen h 4⟩
theorem kids_drop (l : List MT) (i : Nat) (hi : i < l.length) : l.drop i = rd_T54 l (i : Int) :: l.drop (i + 1) := by
  rw [List.drop_eq_getElem_cons hi]; congr 1; simp [rd_T54, hi]
def KidsRel (d n b : Nat) (m : MT) (n' b' j : Nat) : Prop := (okM (d + 1) n b m ↔ okL d n' b' (m.f4.drop j)) ∧ nodesD (d + 1) m + n' = n + sumN (nodesD d) (m.f4.drop j) ∧ bytesD (d + 1) m + b' = b + sumN (bytesD d) (m.f4.drop j)
theorem kids_start {d n b : Nat} {m : MT} (h : okM (d + 1) n b m ↔ okL d (n - 1) (b - (m.f1.size + m.f2.size + strsN m.f3)) m.f4) (hn : ¬ n = 0) (ht : m.f1.size + m.f2.size + strsN m.f3 ≤ b) : KidsRel d n b m (n - 1) (b - (m.f1.size + m.f2.size + strsN m.f3)) 0 := by
  refine ⟨by rw [List.drop_zero]; exact h, ?_, ?_⟩ <;> rw [List.drop_zero] <;> simp only [nodesD, bytesD] <;> omega
theorem kids_step {d n b : Nat} {m : MT} {n' b' j : Nat} (h : KidsRel d n b m n' b' j) (hj : j < m.f4.length) (hk : okM d n' b' (rd_T54 m.f4 (j : Int))) : KidsRel d n b m (n' - nodesD d (rd_T54 m.f4 (j : Int))) (b' - bytesD d (rd_T54 m.f4 (j : Int))) (j + 1) := by
  obtain ⟨h1, h2, h3⟩ := h
  rw [kids_drop _ _ hj] at h1 h2 h3
  rw [sumN_cons] at h2 h3
  rw [okL_cons] at h1
  have := hk.2.1; have := hk.2.2
  exact ⟨h1.trans (and_iff_right hk), by omega, by omega⟩
theorem kids_bad {d n b : Nat} {m : MT} {n' b' j : Nat} (h : KidsRel d n b m n' b' j) (hj : j < m.f4.length) (hk : ¬ okM d n' b' (rd_T54 m.f4 (j : Int))) : ¬ okM (d + 1) n b m := by
  intro c
  have h1 := h.1.1 c
  rw [kids_drop _ _ hj, okL_cons] at h1
  exact hk h1.1
theorem kids_end {d n b : Nat} {m : MT} {n' b' j : Nat} (h : KidsRel d n b m n' b' j) (hj : m.f4.length ≤ j) : okM (d + 1) n b m ∧ n' = n - nodesD (d + 1) m ∧ b' = b - bytesD (d + 1) m := by
  obtain ⟨h1, h2, h3⟩ := h
  rw [List.drop_eq_nil_of_le hj] at h1 h2 h3
  rw [show sumN (nodesD d) [] = 0 from rfl] at h2
  rw [show sumN (bytesD d) [] = 0 from rfl] at h3
  have hm := h1.2 (okL_nil d n' b')
  have := hm.2.1; have := hm.2.2
  exact ⟨hm, by omega, by omega⟩
theorem holds_no {d n b rb : Nat} {m : MT} {w w' : World} {x y : Int} (h : ¬ okM d n b m) (hr : w'.heap[rb]? = some (.cells #[.int .i64 x, .int .i64 y] 97 (0, 0))) (hb : Below rb w w') (hf : Far (fun k => k = rb) w w') : HoldsPost d n b m rb w (.returned (.bool false)) w' :=
  ⟨false, x, y, rfl, ⟨fun e => absurd e (by simp), fun c => absurd c h⟩, fun e => absurd e (by simp), hr, hb, hf⟩
set_option maxRecDepth 100000 in
set_option maxHeartbeats 8000000 in
theorem holds_u : ∀ (d : Nat), d ≤ 8 → ∀ {wm w : World} {rb : Nat} {n b : Nat} {m : MT} {A3 A4 : Option Addr} {c3 c4 : Nat} (_ : MK wm m A3 c3 A4 c4) (_ : WM m) (_ : Below wm.heap.size wm w) (_ : wm.heap.size ≤ rb) (_ : n ≤ 64) (_ : b ≤ 4096) (_ : w.heap[rb]? = some (.cells #[.int .i64 (n : Int), .int .i64 (b : Int)] 97 (0, 0))),
    Calls Try.prog 60 #[.pointer (some ⟨rb, 0, none⟩), mval m A3 c3 A4 c4, .int .i64 (9 - (d : Int))] w (HoldsPost d n b m rb w) := by
  intro d
  induction d with
  | zero =>
    intro _ wm w rb n b m A3 A4 c3 c4 hmk hwm hb hrb hN hbb hr
    have hnw := (Array.getElem?_eq_some_iff.1 hr).1
    have hc0 : w.cell? ⟨rb, 0, none⟩ = some (.int .i64 (n : Int)) := blk_cell hr 0
    have HMK := Lib.hid hmk; have HWM := Lib.hid hwm; have HBM := Lib.hid hb; have HRB := Lib.hid hrb; have HR := Lib.hid hr; have HNW := Lib.hid hnw
    have hk1 := hwm.c
    have hk2 := hwm.l
    clear hmk hwm hb hrb hr hnw hc0
    go_enter Try.func60, Try.ntmps60
    go_upto_region 2 with (first
      | ((with_reducible refine gate_dst (N := 4) rfl ?_); go_must (refine box_event ?hg (N := 4) ?hd (cs := mobj m A3 c3 A4 c4) (t := 54) ?hr ?_; (case hd => rfl); (case hg => rfl); (case hr => first | (go_simp; done) | (go_simp; rfl)); intro gb hg w1 hbox hb1; have hn1 := (hb1.block rb HNW.out).trans HR.out; have hnc : w1.cell? ⟨rb, 0, none⟩ = some (.int .i64 (n : Int)) := blk_cell hn1 0; have hnf : w1.frozen? ⟨rb, 0, none⟩ = false := blk_frozen hn1 0; have HBOX := Lib.hid hbox; have HB1 := Lib.hid hb1; have HN1 := Lib.hid hn1; have HG := Lib.hid hg; clear hbox hb1 hn1 hg))
      | ((with_reducible refine gate_store (t := 3) (p := 17) rfl ?_); go_must (refine store_event (t := 3) (p := 17) (v := .tmp 15) (w1 := w1.setCell ⟨rb, 0, none⟩ (.int .i64 ((n : Int) - 1))) ?hg ?ho ?hn ?hr ?_; (case ho => rfl); (case hg => rfl); (case hn => rfl); (case hr => first | (go_simp; done) | (go_simp; rfl)); intro w2 hw2; have HW2 := Lib.hid hw2; clear hw2)))
    have hn2 : w2.heap[rb]? = some (.cells #[.int .i64 ((n : Int) - 1), .int .i64 (b : Int)] 97 (0, 0)) := by rw [HW2.out]; exact blk_put HN1.out 0 _ rfl
    have hgn : gb ≠ rb := by rw [HG.out]; have := HNW.out; omega
    have hbox2 : w2.heap[gb]? = some (.cells (mobj m A3 c3 A4 c4) 54 (0, 0)) := by rw [HW2.out]; exact (Below.heap_setCell _ ⟨rb, 0, none⟩ _ gb hgn).trans HBOX.out
    have hb2 : Below rb w w2 := by rw [HW2.out]; exact (HB1.out.mono (Nat.le_of_lt HNW.out)).setCell (p := ⟨rb, 0, none⟩) (Nat.le_refl _) _
    have hf2 : Far (fun k => k = rb) w w2 := by rw [HW2.out]; exact (Far.of_below (f := fun k => k = rb) HB1.out).setCell (p := ⟨rb, 0, none⟩) rfl _
    have hnc2 : w2.cell? ⟨rb, 0, none⟩ = some (.int .i64 ((n : Int) - 1)) := blk_cell hn2 0
    obtain ⟨b0, b1, b2, b3, b4⟩ := box5 hbox2
    have HN2 := Lib.hid hn2; have HX2 := Lib.hid hbox2; have HB2 := Lib.hid hb2; have HF2 := Lib.hid hf2; have HGN := Lib.hid hgn
    clear hn2 hbox2 hb2 hf2 hnc HBOX HN1 hnf hgn HW2 HB1
    have HNO := Lib.hid (holds_no (d := 0) (n := n) (b := b) (m := m) (fun h => by have := h.1; cases this) HN2.out HB2.out HF2.out)
    go_wp2
    go_ret
    exact HNO.out
  | succ d ih =>
    intro hd wm w rb n b m A3 A4 c3 c4 hmk hwm hb hrb hN hbb hr
    have hnw := (Array.getElem?_eq_some_iff.1 hr).1
    have hc0 : w.cell? ⟨rb, 0, none⟩ = some (.int .i64 (n : Int)) := blk_cell hr 0
    have HMK := Lib.hid hmk; have HWM := Lib.hid hwm; have HBM := Lib.hid hb; have HRB := Lib.hid hrb; have HR := Lib.hid hr; have HNW := Lib.hid hnw
    have ih2 := @ih (by omega)
    rw [show (9 : Int) - (d : Int) = 9 - ((d : Int) + 1) + 1 by omega] at ih2
    have HIH := Lib.hid (fun (_ : Unit) => @ih2)
    have hk1 := hwm.c
    have hk2 := hwm.l
    clear ih ih2 hmk hwm hb hrb hr hnw hc0
    go_enter Try.func60, Try.ntmps60
    go_upto_region 2 with (first
      | ((with_reducible refine gate_dst (N := 4) rfl ?_); go_must (refine box_event ?hg (N := 4) ?hd (cs := mobj m A3 c3 A4 c4) (t := 54) ?hr ?_; (case hd => rfl); (case hg => rfl); (case hr => first | (go_simp; done) | (go_simp; rfl)); intro gb hg w1 hbox hb1; have hn1 := (hb1.block rb HNW.out).trans HR.out; have hnc : w1.cell? ⟨rb, 0, none⟩ = some (.int .i64 (n : Int)) := blk_cell hn1 0; have hnf : w1.frozen? ⟨rb, 0, none⟩ = false := blk_frozen hn1 0; have HBOX := Lib.hid hbox; have HB1 := Lib.hid hb1; have HN1 := Lib.hid hn1; have HG := Lib.hid hg; clear hbox hb1 hn1 hg))
      | ((with_reducible refine gate_store (t := 3) (p := 17) rfl ?_); go_must (refine store_event (t := 3) (p := 17) (v := .tmp 15) (w1 := w1.setCell ⟨rb, 0, none⟩ (.int .i64 ((n : Int) - 1))) ?hg ?ho ?hn ?hr ?_; (case ho => rfl); (case hg => rfl); (case hn => rfl); (case hr => first | (go_simp; done) | (go_simp; rfl)); intro w2 hw2; have HW2 := Lib.hid hw2; clear hw2)))
    have hn2 : w2.heap[rb]? = some (.cells #[.int .i64 ((n : Int) - 1), .int .i64 (b : Int)] 97 (0, 0)) := by rw [HW2.out]; exact blk_put HN1.out 0 _ rfl
    have hgn : gb ≠ rb := by rw [HG.out]; have := HNW.out; omega
    have hbox2 : w2.heap[gb]? = some (.cells (mobj m A3 c3 A4 c4) 54 (0, 0)) := by rw [HW2.out]; exact (Below.heap_setCell _ ⟨rb, 0, none⟩ _ gb hgn).trans HBOX.out
    have hb2 : Below rb w w2 := by rw [HW2.out]; exact (HB1.out.mono (Nat.le_of_lt HNW.out)).setCell (p := ⟨rb, 0, none⟩) (Nat.le_refl _) _
    have hf2 : Far (fun k => k = rb) w w2 := by rw [HW2.out]; exact (Far.of_below (f := fun k => k = rb) HB1.out).setCell (p := ⟨rb, 0, none⟩) rfl _
    have hnc2 : w2.cell? ⟨rb, 0, none⟩ = some (.int .i64 ((n : Int) - 1)) := blk_cell hn2 0
    obtain ⟨b0, b1, b2, b3, b4⟩ := box5 hbox2
    have HN2 := Lib.hid hn2; have HX2 := Lib.hid hbox2; have HB2 := Lib.hid hb2; have HF2 := Lib.hid hf2; have HGN := Lib.hid hgn
    clear hn2 hbox2 hb2 hf2 hnc HBOX HN1 hnf hgn HW2 HB1
    have hd8 : (8 : Int) < 9 - ((d : Int) + 1) ↔ False := ⟨fun h => by omega, fun h => h.elim⟩
    by_cases hn0 : n = 0
    · have e0 : (n : Int) - 1 < 0 ↔ True := ⟨fun _ => trivial, fun _ => by omega⟩
      have HNO := Lib.hid (holds_no (d := d + 1) (n := n) (b := b) (m := m) (fun h => by have := (okM_room h).1; omega) HN2.out HB2.out HF2.out)
      clear hn0
      go_wp2
      go_ret
      exact HNO.out
    · have e0 : (n : Int) - 1 < 0 ↔ False := ⟨fun h => by omega, fun h => h.elim⟩
      have HN0 := Lib.hid hn0
      clear hn0
      have HAL := Lib.hid (alone_u (HMK.out.below (HBM.out.trans (HB2.out.mono HRB.out))))
      obtain ⟨q, hq⟩ : ∃ q, okOp m = q := ⟨_, rfl⟩
      have HQ := Lib.hid hq
      rw [hq] at HAL
      clear hq
      cases q
      · go_wp2_with (go_at_call 71; go_must (refine HAL.out.mono ?_; rintro e w3 ⟨rfl, hb3⟩; have HB3 := Lib.hid hb3; clear hb3))
        go_ret
        exact holds_no (fun h => by have := okM_op h; rw [HQ.out] at this; cases this) ((HB3.out.block rb (Array.getElem?_eq_some_iff.1 HN2.out).1).trans HN2.out) (HB2.out.trans (HB3.out.mono (by have := (Array.getElem?_eq_some_iff.1 HN2.out).1; omega))) (HF2.out.trans (Far.of_below HB3.out))
      · go_upto_region 4 with (go_at_call 71; go_must (refine HAL.out.mono ?_; rintro e w3 ⟨rfl, hb3⟩; have HB3 := Lib.hid hb3; clear hb3))
        have hn3 := (HB3.out.block rb (Array.getElem?_eq_some_iff.1 HN2.out).1).trans HN2.out
        have hx3 := (HB3.out.block gb (Array.getElem?_eq_some_iff.1 HX2.out).1).trans HX2.out
        have hb3 : Below rb w w3 := HB2.out.trans (HB3.out.mono (by have := (Array.getElem?_eq_some_iff.1 HN2.out).1; omega))
        have hf3 : Far (fun k => k = rb) w w3 := HF2.out.trans (Far.of_below HB3.out)
        obtain ⟨s1, s2, s3, s4⟩ := okOp_small HQ.out
        have HSM := Lib.hid s4
        obtain ⟨W4, hW4⟩ : ∃ W4, w3.drew = W4 := ⟨_, rfl⟩
        have hn4 : W4.heap[rb]? = some (.cells #[.int .i64 ((n : Int) - 1), .int .i64 (b : Int)] 97 (0, 0)) := by rw [← hW4]; exact hn3
        have hx4 : W4.heap[gb]? = some (.cells (mobj m A3 c3 A4 c4) 54 (0, 0)) := by rw [← hW4]; exact hx3
        have hb4 : Below rb w W4 := by rw [← hW4]; exact below_drew hb3
        have hf4 : Far (fun k => k = rb) w W4 := by rw [← hW4]; exact hf3.trans (Far.of_below (below_drew (Below.refl _ _)))
        clear b0 b1 b2 b3 b4 hnc2
        obtain ⟨b0, b1, b2, b3, b4⟩ := box5 hx4
        have hbc : W4.cell? ⟨rb, 1, none⟩ = some (.int .i64 (b : Int)) := blk_cell hn4 1
        have hbf : W4.frozen? ⟨rb, 1, none⟩ = false := blk_frozen hn4 1
        have q1 : IntKind.i64.wrap ((m.f1.size : Int) + (m.f2.size : Int)) = (m.f1.size : Int) + (m.f2.size : Int) := IntWalk.i64_in _ (by omega)
        have q2 : IntKind.i64.wrap ((b : Int) - ((m.f1.size : Int) + (m.f2.size : Int))) = (b : Int) - ((m.f1.size : Int) + (m.f2.size : Int)) := IntWalk.i64_in _ (by omega)
        have HN4 := Lib.hid hn4; have HX4 := Lib.hid hx4; have HB4 := Lib.hid hb4; have HF4 := Lib.hid hf4
        clear hn3 hx3 hb3 hf3 hn4 hx4 hb4 hf4 HB3 HN2 HX2 HB2 HF2 HAL
        refine wp_region_still_tail 14 (by kernel_rfl) (by kernel_rfl) ?_
        simp only [List.take_succ_cons, List.take_zero, List.drop_succ_cons, List.drop_zero]
        change wpStill _ _ w3.drew _ _ _
        have HW4 := Lib.hid hW4
        rw [hW4]
        clear hW4
        repeat still_step
        refine wpStill_nil ?_
        change wpList _ _ _ _ _ w3.drew
        rw [HW4.out]
        go_upto_region 5 with ((with_reducible refine gate_store (t := 3) (p := 45) rfl ?_); go_must (refine store_event (t := 3) (p := 45) (v := .tmp 43) (w1 := W4.setCell ⟨rb, 1, none⟩ (.int .i64 ((b : Int) - ((m.f1.size : Int) + (m.f2.size : Int))))) ?hg ?ho ?hn ?hr ?_; (case ho => rfl); (case hg => rfl); (case hn => rfl); (case hr => first | (go_simp; done) | (go_simp; rfl)); intro w5 hw5; have HW5 := Lib.hid hw5; clear hw5))
        have hn5 : w5.heap[rb]? = some (.cells #[.int .i64 ((n : Int) - 1), .int .i64 ((b : Int) - ((m.f1.size : Int) + (m.f2.size : Int)) - (strsN m.f3 : Int) + (strsN (m.f3.drop 0) : Int))] 97 (0, 0)) := by rw [HW5.out, List.drop_zero, Int.sub_add_cancel]; exact blk_put HN4.out 1 _ rfl
        have hx5 : w5.heap[gb]? = some (.cells (mobj m A3 c3 A4 c4) 54 (0, 0)) := by rw [HW5.out]; exact (Below.heap_setCell _ ⟨rb, 1, none⟩ _ gb HGN.out).trans HX4.out
        have hb5 : Below rb w w5 := by rw [HW5.out]; exact HB4.out.setCell (p := ⟨rb, 1, none⟩) (Nat.le_refl _) _
        have hf5 : Far (fun k => k = rb) w w5 := by rw [HW5.out]; exact HF4.out.setCell (p := ⟨rb, 1, none⟩) rfl _
        clear b0 b1 b2 b3 b4 hbc hbf q1 q2
        obtain ⟨b0, b1, b2, b3, b4⟩ := box5 hx5
        have HN5 := Lib.hid hn5; have HX5 := Lib.hid hx5; have HB5 := Lib.hid hb5; have HF5 := Lib.hid hf5
        clear hn5 hx5 hb5 hf5 HN4 HX4 HB4 HF4 HW5
        go_wp2
        go_loopw [49] (fun v49 wk => ∃ i : Nat, i ≤ m.f3.length ∧ v49 = .int .i64 (i : Int) ∧ wk.heap[rb]? = some (.cells #[.int .i64 ((n : Int) - 1), .int .i64 ((b : Int) - ((m.f1.size : Int) + (m.f2.size : Int)) - (strsN m.f3 : Int) + (strsN (m.f3.drop i) : Int))] 97 (0, 0)) ∧ wk.heap[gb]? = some (.cells (mobj m A3 c3 A4 c4) 54 (0, 0)) ∧ Below rb w wk ∧ Far (fun k => k = rb) w wk) (fun v49 _ => m.f3.length - (intOf v49).toNat)
        case atStart => exact ⟨0, Nat.zero_le _, rfl, HN5.out, HX5.out, HB5.out, HF5.out⟩
        case round =>
          obtain ⟨i, hi, rfl, hnk, hxk, hbk, hfk⟩ := hrel
          clear b0 b1 b2 b3 b4
          obtain ⟨b0, b1, b2, b3, b4⟩ := box5 hxk
          have HNK := Lib.hid hnk; have HXK := Lib.hid hxk; have HBK := Lib.hid hbk; have HFK := Lib.hid hfk
          by_cases hil : i < m.f3.length
          · have e1 : decide ((i : Int) < (m.f3.length : Int)) = true := decide_eq_true (by omega)
            have e2 : decide (i < m.f3.length) = true := decide_eq_true hil
            obtain ⟨ad, rfl, hs⟩ := Kd.at_string (Kd.C_below HMK.out.g3 (HBM.out.trans (hbk.mono HRB.out))) (i : Int) (by omega) (by omega)
            rw [Int.toNat_natCast] at hs
            have hsd := strsN_drop m.f3 i hil
            have hle : strsN (m.f3.drop i) ≤ 1024 := Nat.le_trans (strsN_drop_le _ _) HSM.out
            obtain ⟨s, hse⟩ : ∃ s, rdOf ByteArray.empty m.f3 (i : Int) = s := ⟨_, rfl⟩
            rw [hse] at hs hsd
            obtain ⟨X, hX⟩ : ∃ X, (b : Int) - ((m.f1.size : Int) + (m.f2.size : Int)) - (strsN m.f3 : Int) + (strsN (m.f3.drop i) : Int) = X := ⟨_, rfl⟩
            have hX2 : (b : Int) - ((m.f1.size : Int) + (m.f2.size : Int)) - (strsN m.f3 : Int) + (strsN (m.f3.drop (i + 1)) : Int) = X - (s.size : Int) := by omega
            have hXw : IntKind.i64.wrap (X - (s.size : Int)) = X - (s.size : Int) := IntWalk.i64_in _ (by have := HSM.out; omega)
            rw [hX] at hnk HNK
            have hbc : wr.cell? ⟨rb, 1, none⟩ = some (.int .i64 X) := blk_cell hnk 1
            have hbf : wr.frozen? ⟨rb, 1, none⟩ = false := blk_frozen hnk 1
            have HX2 := Lib.hid hX2
            clear hX hX2 hse hsd hle hnk hxk hbk hfk
            go_wp2_with ((with_reducible refine gate_store (t := 3) (p := 61) rfl ?_); go_must (refine store_event (t := 3) (p := 61) (v := .tmp 59) (w1 := wr.setCell ⟨rb, 1, none⟩ (.int .i64 (X - (s.size : Int)))) ?hg ?ho ?hn ?hr ?_; (case ho => rfl); (case hg => rfl); (case hn => rfl); (case hr => first | (go_simp; done) | (go_simp; rfl)); intro w6 hw6; have HW6 := Lib.hid hw6; clear hw6))
            go_roundw
            case rel => exact ⟨i + 1, hil, by simp, by rw [HX2.out, HW6.out]; exact blk_put HNK.out 1 _ rfl, by rw [HW6.out]; exact (Below.heap_setCell _ ⟨rb, 1, none⟩ _ gb HGN.out).trans HXK.out, by rw [HW6.out]; exact HBK.out.setCell (p := ⟨rb, 1, none⟩) (Nat.le_refl _) _, by rw [HW6.out]; exact HFK.out.setCell (p := ⟨rb, 1, none⟩) rfl _⟩
            case measure => simp [intOf]; omega
          · have e1 : decide ((i : Int) < (m.f3.length : Int)) = false := decide_eq_false (by omega)
            have e2 : decide (i < m.f3.length) = false := decide_eq_false hil
            obtain ⟨X, hX⟩ : ∃ X, (b : Int) - ((m.f1.size : Int) + (m.f2.size : Int)) - (strsN m.f3 : Int) = X := ⟨_, rfl⟩
            rw [List.drop_eq_nil_of_le (by omega), show strsN [] = 0 from rfl, Int.natCast_zero, Int.add_zero, hX] at hnk HNK
            have hbc : wr.cell? ⟨rb, 1, none⟩ = some (.int .i64 X) := blk_cell hnk 1
            clear hnk hxk hbk hfk
            by_cases hneg : X < 0
            · have e3 : X < 0 ↔ True := ⟨fun _ => trivial, fun _ => hneg⟩
              have HNO := Lib.hid (holds_no (d := d + 1) (n := n) (b := b) (m := m) (fun h => by have := (okM_room h).2; omega) HNK.out HBK.out HFK.out)
              clear hX hneg
              go_wp2
              go_ret
              exact HNO.out
            · have e3 : X < 0 ↔ False := ⟨hneg, fun h => h.elim⟩
              have hXb : X = ((b - (m.f1.size + m.f2.size + strsN m.f3) : Nat) : Int) := by omega
              have hNn : (n : Int) - 1 = ((n - 1 : Nat) : Int) := by have := HN0.out; omega
              have HIFF := Lib.hid ((okM_succ d n b m (by have := HN0.out; omega) (by omega)).trans (and_iff_right HQ.out))
              have HTOT := Lib.hid (show m.f1.size + m.f2.size + strsN m.f3 ≤ b by omega)
              have HNK2 := Lib.hid HNK.out
              rw [hXb, hNn] at HNK2
              clear hX hneg hXb hNn
              go_wp2
              go_loopw [71] (fun v71 wk => ∃ (j n' b' : Nat), j ≤ m.f4.length ∧ v71 = .int .i64 (j : Int) ∧ n' ≤ 64 ∧ b' ≤ 4096 ∧ KidsRel d n b m n' b' j ∧ wk.heap[rb]? = some (.cells #[.int .i64 (n' : Int), .int .i64 (b' : Int)] 97 (0, 0)) ∧ wk.heap[gb]? = some (.cells (mobj m A3 c3 A4 c4) 54 (0, 0)) ∧ Below rb w wk ∧ Far (fun k => k = rb) w wk) (fun v71 _ => m.f4.length - (intOf v71).toNat)
              case atStart => exact ⟨0, n - 1, b - (m.f1.size + m.f2.size + strsN m.f3), Nat.zero_le _, rfl, by omega, by omega, kids_start HIFF.out HN0.out HTOT.out, HNK2.out, HXK.out, HBK.out, HFK.out⟩
              case round =>
                obtain ⟨j, n', b', hj, rfl, hn', hb', hrl, hnk, hxk, hbk, hfk⟩ := hrel
                clear b0 b1 b2 b3 b4 hbc
                obtain ⟨b0, b1, b2, b3, b4⟩ := box5 hxk
                have HRL := Lib.hid hrl; have HNK := Lib.hid hnk; have HXK := Lib.hid hxk; have HBK := Lib.hid hbk; have HFK := Lib.hid hfk
                by_cases hjl : j < m.f4.length
                · have e4 : decide ((j : Int) < (m.f4.length : Int)) = true := decide_eq_true (by omega)
                  have e5 : decide (j < m.f4.length) = true := decide_eq_true hjl
                  obtain ⟨ad, K3, q3, K4, q4, rfl, hkm, k0, k1, k2, k3, k4⟩ := kid_at HMK.out.g4 j hjl
                  have hbm : Below wm.heap.size wm wr := HBM.out.trans (hbk.mono HRB.out)
                  replace k0 := (hbm.cell (World.block_lt_of_cell? wm _ k0)).trans k0
                  replace k1 := (hbm.cell (World.block_lt_of_cell? wm _ k1)).trans k1
                  replace k2 := (hbm.cell (World.block_lt_of_cell? wm _ k2)).trans k2
                  replace k3 := (hbm.cell (World.block_lt_of_cell? wm _ k3)).trans k3
                  replace k4 := (hbm.cell (World.block_lt_of_cell? wm _ k4)).trans k4
                  have hkw := HWM.out.k _ (kid_mem hjl)
                  obtain ⟨y, hy⟩ : ∃ y, rd_T54 m.f4 (j : Int) = y := ⟨_, rfl⟩
                  rw [hy] at hkm k0 k1 k2 k3 k4 hkw
                  have HY := Lib.hid hy
                  have HKM := Lib.hid hkm; have HKW := Lib.hid hkw; have HBW := Lib.hid hbm
                  have hrw := (Array.getElem?_eq_some_iff.1 hnk).1
                  have hgw := (Array.getElem?_eq_some_iff.1 hxk).1
                  have HRW := Lib.hid hrw; have HGW := Lib.hid hgw
                  clear hkm hkw hbm hy hnk hxk hbk hfk hrl hrw hgw
                  go_wp2_with (first
                    | ((with_reducible refine gate_dst (N := 10) rfl ?_); go_must (refine box_event ?hg (N := 10) ?hd (cs := #[.int .i64 0, .string ByteArray.empty, .string ByteArray.empty, .slice none 0 0, .slice none 0 0]) (t := 54) ?hr ?_; (case hd => rfl); (case hg => rfl); (case hr => first | (go_simp; done) | (go_simp; rfl)); intro kb hk w6 hbox hb6; obtain ⟨z0, z1, z2, z3, z4, y0, y1, y2, y3, y4⟩ := zero5 hbox; have HBOX := Lib.hid hbox; have HB6 := Lib.hid hb6; have HK := Lib.hid hk; clear hbox hb6 hk))
                    | ((with_reducible refine gate_store (t := 54) (p := 10) rfl ?_); refine store_event (t := 54) (p := 10) (v := .tmp 74) (w1 := put5 w6 kb y K3 q3 K4 q4) ?hg ?ho ?hn ?hr ?_; (case ho => rfl); (case hg => rfl); (case hn => rfl); (case hr => go_simp; rfl); intro w7 hw7; have hb7 : Below wr.heap.size wr w7 := (by rw [hw7]; exact put5_below HB6.out (by rw [HK.out]; exact Nat.le_refl _)); have hk7 := put5_at (K3 := K3) (q3 := q3) (K4 := K4) (q4 := q4) (y := y) HBOX.out; rw [← hw7] at hk7; clear z0 z1 z2 z3 z4 y0 y1 y2 y3 y4 b0 b1 b2 b3 b4; obtain ⟨b0, b1, b2, b3, b4⟩ := box5 hk7; have hn7 := (hb7.block rb HRW.out).trans HNK.out; have hx7 := (hb7.block gb HGW.out).trans HXK.out; have HCALL := Lib.hid (HIH.out () HKM.out HKW.out (HBW.out.trans (hb7.mono HBW.out.size)) HRB.out hn' hb' hn7); have HB7 := Lib.hid (HBK.out.trans (hb7.mono (Nat.le_of_lt HRW.out))); have HF7 := Lib.hid (HFK.out.trans (Far.of_below hb7)); have HX7 := Lib.hid hx7; clear hw7 hb7 hk7 hn7 hx7)
                    | (go_at_call 60; go_must (refine HCALL.out.mono ?_; rintro e w8 ⟨r, x8, y8, rfl, hr8, hv8, hn8, hb8, hf8⟩; have HR8 := Lib.hid hr8; have HV8 := Lib.hid hv8; have HN8 := Lib.hid hn8; have HX8 := Lib.hid ((hf8.block gb (Array.getElem?_eq_some_iff.1 HX7.out).1 HGN.out).trans HX7.out); have HB8 := Lib.hid (HB7.out.trans hb8); have HF8 := Lib.hid (HF7.out.trans hf8); clear hr8 hv8 hn8 hb8 hf8)))
                  all_goals first | (go_ret; exact holds_no (kids_bad HRL.out hjl (by rw [HY.out]; intro c; have := HR8.out.2 c; simp_all)) HN8.out HB8.out HF8.out) | skip
                  have hrt : r = true := by simpa using (by assumption : (!r) = false)
                  go_roundw
                  case rel => exact ⟨j + 1, n' - nodesD d y, b' - bytesD d y, hjl, by simp, by omega, by omega, by have := kids_step HRL.out hjl (by rw [HY.out]; exact HR8.out.1 hrt); rw [HY.out] at this; exact this, by rw [← (HV8.out hrt).1, ← (HV8.out hrt).2]; exact HN8.out, HX8.out, HB8.out, HF8.out⟩
                  case measure => simp [intOf]; omega
                · have e4 : decide ((j : Int) < (m.f4.length : Int)) = false := decide_eq_false (by omega)
                  have e5 : decide (j < m.f4.length) = false := decide_eq_false hjl
                  obtain ⟨c1, c2, c3⟩ := kids_end hrl (by omega)
                  have HC1 := Lib.hid c1; have HC2 := Lib.hid c2; have HC3 := Lib.hid c3
                  clear hrl hnk hxk hbk hfk c1 c2 c3
                  go_wp2
                  go_ret
                  exact ⟨true, (n' : Int), (b' : Int), rfl, iff_of_true rfl HC1.out, fun _ => ⟨by rw [HC2.out], by rw [HC3.out]⟩, HNK.out, HBK.out, HFK.out⟩
end Go.Proofs.Ytlkhdbfhnpbbhaa
namespace Go.Proofs.Ytlkhdbfhnpbbhaa
set_option linter.unusedVariables false
set_option linter.unusedSimpArgs false
open Go.RowKit Go.Proofs.YtlkhdbfhnpbbhaaW.PrintWords Go.Proofs.YtlkhdbfhnpbbhaaW.PrintLast Go.Proofs.YtlkhdbfhnpbbhaaW.PrintMore Go.Proofs.Ytlkhdbfhnpbbhaa.Ix Go.Proofs.Ytlkhdbfhnpbbhaa.Tx Go.Proofs.Ytlkhdbfhnpbbhaa.Mx Go.Proofs.Ytlkhdbfhnpbbhaa.Pure
def preB (v p : ByteArray) : Bool := decide (p.size ≤ v.size) && ((v.extract 0 p.size).toList == p.toList)
def anyE (v : ByteArray) : List ByteArray → Bool
  | [] => false
  | s :: r => if s.toList = v.toList then true else anyE v r
def kidsE (f : MT → Bool) (o : Bool) : List MT → Bool
  | [] => !o
  | k :: r => if (f k == o) = true then o else kidsE f o r
/-- what a matcher of at most so many levels says of labels -/
def evalD : Nat → MT → List LB → Bool
  | 0, _, _ => false
  | d + 1, m, l =>
    if m.f0 = 0 then true
    else if m.f0 = 1 then (lbVal l m.f1).toList == m.f2.toList
    else if m.f0 = 2 then (lbVal l m.f1).toList != m.f2.toList
    else if m.f0 = 3 then preB (lbVal l m.f1) m.f2
    else if m.f0 = 4 then anyE (lbVal l m.f1) m.f3
    else if m.f0 = 7 then !(evalD d (rd_T54 m.f4 0) l)
    else kidsE (fun k => evalD d k l) (m.f0 == 6) m.f4
theorem nodes_pos {d : Nat} {m : MT} (h : okD d m = true) : 1 ≤ nodesD d m := by
  cases d with
  | zero => cases h
  | succ d => simp only [nodesD]; omega
theorem okL_len {d n b : Nat} {l : List MT} (h : okL d n b l) : l.length ≤ n := by
  obtain ⟨h1, h2, -⟩ := h
  refine Nat.le_trans ?_ h2
  clear h2
  induction l with
  | nil => exact Nat.zero_le _
  | cons k l ih =>
    rw [sumN_cons, List.length_cons]
    have := nodes_pos (h1 k List.mem_cons_self)
    have := ih (fun x hx => h1 x (List.mem_cons_of_mem _ hx))
    omega
theorem okM_kids {d n b : Nat} {m : MT} (h : okM (d + 1) n b m) : okL d (n - 1) (b - (m.f1.size + m.f2.size + strsN m.f3)) m.f4 := ((okM_succ d n b m (okM_room h).1 (okM_room h).2).1 h).2
theorem okL_get {d n b : Nat} {l : List MT} (h : okL d n b l) {j : Nat} (hj : j < l.length) : okM d n b (rd_T54 l (j : Int)) := by
  obtain ⟨h1, h2, h3⟩ := h
  have hm := kid_mem (xs := l) hj
  refine ⟨h1 _ hm, ?_, ?_⟩
  · refine Nat.le_trans ?_ h2
    exact sum_mem (nodesD d) hm
  · refine Nat.le_trans ?_ h3
    exact sum_mem (bytesD d) hm
where
  sum_mem (f : MT → Nat) {k : MT} {l : List MT} (h : k ∈ l) : f k ≤ sumN f l := by
    induction l with
    | nil => cases h
    | cons x l ih =>
      rw [sumN_cons]
      rcases List.mem_cons.1 h with e | e
      · rw [e]; omega
      · have := ih e; omega
theorem any_l0 (v : ByteArray) (l : List ByteArray) (hl : l.length ≤ 16) : ∀ (d i k : Nat), i + d = l.length → d < k → match_eval.l0 k v l (l.length : Int) (i : Int) = some (anyE v (l.drop i))
  | 0, i, k, h, hk => by
    obtain ⟨k, rfl⟩ : ∃ n, k = n + 1 := ⟨k - 1, by omega⟩
    rw [match_eval.l0, if_neg (by omega), List.drop_eq_nil_of_le (by omega)]; rfl
  | d + 1, i, k, h, hk => by
    obtain ⟨k, rfl⟩ : ∃ n, k = n + 1 := ⟨k - 1, by omega⟩
    have ih := any_l0 v l hl d (i + 1) k (by omega) (by omega)
    rw [Int.natCast_add, Int.natCast_one] at ih
    rw [match_eval.l0, if_pos (by omega), if_pos (by omega), if_pos (by omega), w64 (i := (i : Int) + 1) (by omega) (by omega), ih, List.drop_eq_getElem_cons (by omega : i < l.length), show rdOf ByteArray.empty l (i : Int) = l[i] by simp [rdOf, (by omega : i < l.length)], anyE]
    split <;> rfl
theorem kids_l1 (l : List LB) (o : Bool) (c : List MT) (E : MT → Bool) (F : Nat) (hc : c.length ≤ 64) (hE : ∀ j : Nat, j < c.length → ∀ k, F ≤ k → match_eval.f k (rd_T54 c (j : Int)).f0 (rd_T54 c (j : Int)).f1 (rd_T54 c (j : Int)).f2 (rd_T54 c (j : Int)).f3 (rd_T54 c (j : Int)).f4 l = some (E (rd_T54 c (j : Int)))) : ∀ (d i k : Nat), i + d = c.length → d + F < k → match_eval.l1 k l o c (c.length : Int) (i : Int) = some (kidsE E o (c.drop i))
  | 0, i, k, h, hk => by
    obtain ⟨k, rfl⟩ : ∃ n, k = n + 1 := ⟨k - 1, by omega⟩
    rw [match_eval.l1, if_neg (by omega), List.drop_eq_nil_of_le (by omega)]; rfl
  | d + 1, i, k, h, hk => by
    obtain ⟨k, rfl⟩ : ∃ n, k = n + 1 := ⟨k - 1, by omega⟩
    have ih := kids_l1 l o c E F hc hE d (i + 1) k (by omega) (by omega)
    rw [Int.natCast_add, Int.natCast_one] at ih
    rw [match_eval.l1, if_pos (by omega), if_pos (by omega), if_pos (by omega), w64 (i := (i : Int) + 1) (by omega) (by omega), ih, hE i (by omega) k (by omega), kids_drop c i (by omega), kidsE, Option.bind_some]
    split <;> rfl
theorem pre_eq (v p : ByteArray) : strings_HasPrefix.f v p = some (preB v p) := by
  unfold strings_HasPrefix.f stringslite_HasPrefix.f preB
  by_cases h : p.size ≤ v.size
  · rw [if_pos (by omega), if_pos (by omega), if_pos (by omega), decide_eq_true h, Bool.true_and]; rfl
  · rw [if_neg (by omega), decide_eq_false h]; rfl
theorem okOp_or {m : MT} (h : okOp m = true) (h0 : ¬ m.f0 = 0) (h1 : ¬ m.f0 = 1) (h2 : ¬ m.f0 = 2) (h3 : ¬ m.f0 = 3) (h4 : ¬ m.f0 = 4) : m.f0 = 5 ∨ m.f0 = 6 ∨ m.f0 = 7 ∧ m.f4.length = 1 := by
  unfold okOp at h
  rw [if_neg h0, if_neg (by omega), if_neg h4] at h
  by_cases h5 : m.f0 = 5 ∨ m.f0 = 6
  · rcases h5 with h | h <;> simp [h]
  · rw [if_neg h5] at h
    by_cases h7 : m.f0 = 7
    · rw [if_pos h7] at h
      simp only [Bool.and_eq_true, decide_eq_true_eq] at h
      exact Or.inr (Or.inr ⟨h7, h.2⟩)
    · rw [if_neg h7] at h; cases h
theorem eval_eq (l : List LB) (hl : l.length ≤ 140737488351232) : ∀ (d n b : Nat) (m : MT), okM d n b m → n ≤ 64 → ∀ k, l.length + 20 + d * 80 ≤ k → match_eval.f k m.f0 m.f1 m.f2 m.f3 m.f4 l = some (evalD d m l)
  | 0, n, b, m, h, hn, k, hk => by have := h.1; cases this
  | d + 1, n, b, m, h, hn, k, hk => by
    obtain ⟨k, rfl⟩ : ∃ n, k = n + 1 := ⟨k - 1, by omega⟩
    have hs := okOp_small (okM_op h)
    have hkids := okM_kids h
    have hlen := okL_len hkids
    rw [match_eval.f, value_eq l m.f1 hl k (by omega), Option.bind_some, evalD]
    by_cases h0 : m.f0 = 0
    · rw [if_pos h0, if_pos h0]
    · rw [if_neg h0, if_neg h0]
      by_cases h1 : m.f0 = 1
      · rw [if_pos h1, if_pos h1]
      · rw [if_neg h1, if_neg h1]
        by_cases h2 : m.f0 = 2
        · rw [if_pos h2, if_pos h2]
        · rw [if_neg h2, if_neg h2]
          by_cases h3 : m.f0 = 3
          · rw [if_pos h3, if_pos h3, pre_eq]; rfl
          · rw [if_neg h3, if_neg h3]
            by_cases h4 : m.f0 = 4
            · rw [if_pos h4, if_pos h4]
              exact any_l0 _ _ hs.2.2.1 m.f3.length 0 k (by omega) (by omega)
            · rw [if_neg h4, if_neg h4]
              rcases okOp_or (okM_op h) h0 h1 h2 h3 h4 with h7 | h7 | ⟨h7, hk1⟩
              · rw [if_neg (by omega), if_neg (by omega)]
                exact kids_l1 l _ m.f4 (fun k => evalD d k l) (l.length + 20 + d * 80) (by omega) (fun j hj k hk => eval_eq l hl d _ _ _ (okL_get hkids hj) (by omega) k hk) m.f4.length 0 k (by omega) (by omega)
              · rw [if_neg (by omega), if_neg (by omega)]
                exact kids_l1 l _ m.f4 (fun k => evalD d k l) (l.length + 20 + d * 80) (by omega) (fun j hj k hk => eval_eq l hl d _ _ _ (okL_get hkids hj) (by omega) k hk) m.f4.length 0 k (by omega) (by omega)
              · rw [if_pos h7, if_pos h7, if_pos (by omega)]
                have he := eval_eq l hl d _ _ _ (okL_get hkids (j := 0) (by omega)) (by omega) k (by omega)
                rw [Int.natCast_zero] at he
                rw [he]; rfl
end Go.Proofs.Ytlkhdbfhnpbbhaa
namespace Go.Proofs.Ytlkhdbfhnpbbhaa
set_option linter.unusedVariables false
set_option linter.unusedSimpArgs false
open Go.RowKit Go.Proofs.YtlkhdbfhnpbbhaaW.PrintWords Go.Proofs.YtlkhdbfhnpbbhaaW.PrintLast Go.Proofs.YtlkhdbfhnpbbhaaW.PrintMore Go.Proofs.Ytlkhdbfhnpbbhaa.Ix Go.Proofs.Ytlkhdbfhnpbbhaa.Tx Go.Proofs.Ytlkhdbfhnpbbhaa.Mx Go.Proofs.Ytlkhdbfhnpbbhaa.Pure
set_option maxRecDepth 100000 in
set_option maxHeartbeats 8000000 in
theorem mcheck_u {w : World} {m : MT} {A3 A4 : Option Addr} {c3 c4 : Nat} (hmk : MK w m A3 c3 A4 c4) (hwm : WM m) :
    Calls Try.prog 45 #[mval m A3 c3 A4 c4] w fun e w' => e = .returned (.bool (decide (okM 8 64 4096 m))) ∧ Below w.heap.size w w' := by
  have HMK := Lib.hid hmk; have HWM := Lib.hid hwm
  have hz : (1 : Int) = 9 - ((8 : Nat) : Int) := by decide
  clear hmk hwm
  go_enter Try.func45, Try.ntmps45
  have HZ := Lib.hid hz
  clear hz
  go_wp2_with (first
    | ((with_reducible refine gate_dst (N := 1) rfl ?_); go_must (refine box_event ?hg (N := 1) ?hd (cs := mobj m A3 c3 A4 c4) (t := 54) ?hr ?_; (case hd => rfl); (case hg => rfl); (case hr => first | (go_simp; done) | (go_simp; rfl)); intro gb hg w1 hbox hb1; obtain ⟨b0, b1, b2, b3, b4⟩ := box5 hbox; have HBOX := Lib.hid hbox; have HB1 := Lib.hid hb1; have HG := Lib.hid hg; clear hbox hb1 hg))
    | ((with_reducible refine gate_dst (N := 5) rfl ?_); go_must (refine box_event ?hg (N := 5) ?hd (cs := #[.int .i64 ((64 : Nat) : Int), .int .i64 ((4096 : Nat) : Int)]) (t := 97) ?hr ?_; (case hd => rfl); (case hg => rfl); (case hr => first | (go_simp; done) | (go_simp; rfl)); intro rb hr2 w2 hroom hb2; have hbox2 := (hb2.block gb (Array.getElem?_eq_some_iff.1 HBOX.out).1).trans HBOX.out; clear b0 b1 b2 b3 b4; obtain ⟨b0, b1, b2, b3, b4⟩ := box5 hbox2; have HRB := Lib.hid (show w.heap.size ≤ rb by rw [hr2]; exact HB1.out.size); have HB2 := Lib.hid (HB1.out.trans (hb2.mono HB1.out.size)); have HC := Lib.hid (holds_u 8 (Nat.le_refl _) HMK.out HWM.out HB2.out HRB.out (Nat.le_refl 64) (Nat.le_refl 4096) hroom); rw [← HZ.out] at HC; clear hroom hb2 hr2 hbox2))
    | (go_at_call 60; go_must (refine HC.out.mono ?_; rintro e w5 ⟨r, x5, y5, rfl, hiff, -, -, hb5, -⟩; have HIFF := Lib.hid hiff; have HB5 := Lib.hid (HB2.out.trans (hb5.mono HRB.out)); clear hb5 hiff)))
  go_ret
  refine ⟨?_, HB5.out⟩
  rw [show r = decide (okM 8 64 4096 m) from Bool.eq_iff_iff.2 (HIFF.out.trans decide_eq_true_iff.symm)]
  rfl
end Go.Proofs.Ytlkhdbfhnpbbhaa
namespace Go.Proofs.Ytlkhdbfhnpbbhaa
set_option linter.unusedVariables false
set_option linter.unusedSimpArgs false
open Go.RowKit Go.Maps Go.Proofs.YtlkhdbfhnpbbhaaW.PrintWords Go.Proofs.YtlkhdbfhnpbbhaaW.PrintLast Go.Proofs.YtlkhdbfhnpbbhaaW.PrintMore Go.Proofs.Ytlkhdbfhnpbbhaa.Ix Go.Proofs.Ytlkhdbfhnpbbhaa.Tx Go.Proofs.Ytlkhdbfhnpbbhaa.Mx Go.Proofs.Ytlkhdbfhnpbbhaa.Pure
/-- What match.Eval says. -/
def matchB (m : MT) (l : List LB) : Bool := decide (okM 8 64 4096 m) && evalD 8 m l
set_option maxRecDepth 100000 in
set_option maxHeartbeats 8000000 in
theorem meval_u {w : World} {m : MT} {A3 A4 A : Option Addr} {c3 c4 c : Nat} {l : List LB} (hmk : MK w m A3 c3 A4 c4) (hwm : WM m)
    (hC : Kd.C k41 w A l.length l) (hc : l.length ≤ c) (hl : l.length ≤ 8) :
    Calls Try.prog 29 #[mval m A3 c3 A4 c4, .slice A l.length c] w fun e w' => e = .returned (.bool (matchB m l)) ∧ Below w.heap.size w w' := by
  have HMK := Lib.hid hmk; have HWM := Lib.hid hwm; have HC := Lib.hid hC; have HCL := Lib.hid hc; have HL := Lib.hid hl
  clear hmk hwm hC hc hl
  by_cases hok : okM 8 64 4096 m
  · have HEV := Lib.hid (fun (w' : World) (hb : Below w.heap.size w w') => match_eval.calls (l.length + 20 + 8 * 80) m.f0 m.f1 m.f2 A3 c3 m.f3 A4 c4 m.f4 A c l _ w' (HMK.out.below hb).g3 HMK.out.l3 (HMK.out.below hb).g4 HMK.out.l4 (Kd.C_below HC.out hb) HCL.out (eval_eq l (by have := HL.out; omega) 8 64 4096 m hok (Nat.le_refl _) _ (Nat.le_refl _)))
    have HMB := Lib.hid (show matchB m l = evalD 8 m l by unfold matchB; rw [decide_eq_true hok, Bool.true_and])
    have HOK := Lib.hid (decide_eq_true hok)
    obtain ⟨q, hq⟩ : ∃ q, evalD 8 m l = q := ⟨_, rfl⟩
    rw [hq] at HEV HMB
    clear hok hq
    go_enter Try.func29, Try.ntmps29
    go_wp2_with (first
      | ((with_reducible refine gate_dst (N := 2) rfl ?_); go_must (refine box_event ?hg (N := 2) ?hd (cs := mobj m A3 c3 A4 c4) (t := 54) ?hr ?_; (case hd => rfl); (case hg => rfl); (case hr => first | (go_simp; done) | (go_simp; rfl)); intro gb hg w1 hbox hb1; obtain ⟨b0, b1, b2, b3, b4⟩ := box5 hbox; have HBOX := Lib.hid hbox; have HB1 := Lib.hid hb1; clear hbox hb1 hg))
      | (go_at_call 45; go_must (refine (mcheck_u (HMK.out.below HB1.out) HWM.out).mono ?_; rintro e w2 ⟨rfl, hb2⟩; rw [HOK.out]; have hbox2 := (hb2.block gb (Array.getElem?_eq_some_iff.1 HBOX.out).1).trans HBOX.out; clear b0 b1 b2 b3 b4; obtain ⟨b0, b1, b2, b3, b4⟩ := box5 hbox2; have HB2 := Lib.hid (HB1.out.trans (hb2.mono HB1.out.size)); clear hbox2 hb2))
      | (go_at_call 50; go_must (refine (HEV.out _ HB2.out).mono ?_; rintro e w3 ⟨rfl, hb3⟩; have HB3 := Lib.hid (HB2.out.trans (hb3.mono HB2.out.size)); clear hb3 b0 b1 b2 b3 b4)))
    go_ret
    exact ⟨by rw [HMB.out]; rfl, HB3.out⟩
  · have HMB := Lib.hid (show matchB m l = false by unfold matchB; rw [decide_eq_false hok, Bool.false_and])
    have HOK := Lib.hid (decide_eq_false hok)
    clear hok
    go_enter Try.func29, Try.ntmps29
    go_wp2_with (first
      | ((with_reducible refine gate_dst (N := 2) rfl ?_); go_must (refine box_event ?hg (N := 2) ?hd (cs := mobj m A3 c3 A4 c4) (t := 54) ?hr ?_; (case hd => rfl); (case hg => rfl); (case hr => first | (go_simp; done) | (go_simp; rfl)); intro gb hg w1 hbox hb1; obtain ⟨b0, b1, b2, b3, b4⟩ := box5 hbox; have HBOX := Lib.hid hbox; have HB1 := Lib.hid hb1; clear hbox hb1 hg))
      | (go_at_call 45; go_must (refine (mcheck_u (HMK.out.below HB1.out) HWM.out).mono ?_; rintro e w2 ⟨rfl, hb2⟩; rw [HOK.out]; have HB2 := Lib.hid (HB1.out.trans (hb2.mono HB1.out.size)); clear hb2 b0 b1 b2 b3 b4)))
    go_ret
    exact ⟨by rw [HMB.out]; rfl, HB2.out⟩
set_option maxRecDepth 100000 in
set_option maxHeartbeats 8000000 in
theorem sel1_u {w : World} {pm : Nat} {m : MT} {A3 A4 A : Option Addr} {c3 c4 c : Nat} {l : List LB} (hn : w.heap[pm]? = some (.cells (mobj m A3 c3 A4 c4) 54 (0, 0))) (hmk : MK w m A3 c3 A4 c4) (hwm : WM m)
    (hC : Kd.C k41 w A l.length l) (hc : l.length ≤ c) (hl : l.length ≤ 8) :
    Calls Try.prog 46 #[.slice A l.length c, .pointer (some ⟨pm, 0, none⟩)] w fun e w' => e = .returned (.bool (matchB m l)) ∧ Below w.heap.size w w' := by
  obtain ⟨b0, b1, b2, b3, b4⟩ := box5 hn
  have HEV := Lib.hid (meval_u hmk hwm hC hc hl)
  clear hn hmk hwm hC hc hl
  go_enter Try.func46, Try.ntmps46
  go_wp2_with (go_at_call 29; go_must (refine HEV.out.mono ?_; rintro e w3 ⟨rfl, hb3⟩; have HB3 := Lib.hid hb3; clear hb3 b0 b1 b2 b3 b4))
  go_ret
  exact ⟨rfl, HB3.out⟩
set_option maxRecDepth 100000 in
set_option maxHeartbeats 8000000 in
theorem thoseM_u {f : Nat → Prop} {w : World} {base kb mb : Nat} {S : List (List LB)} (h : IX f w base kb mb S) (hS : S.length < 4096) {pm : Nat} {m : MT} {A3 A4 : Option Addr} {c3 c4 : Nat}
    (hn : w.heap[pm]? = some (.cells (mobj m A3 c3 A4 c4) 54 (0, 0))) (hmk : MK w m A3 c3 A4 c4) (hwm : WM m) {k : Nat} (hR : post_Rises.f k (sel (matchB m) S S.length) = some true) :
    Calls Try.prog 40 #[.pointer (some ⟨kb, 0, none⟩), .func (.func 46) #[] #[.pointer (some ⟨pm, 0, none⟩)]] w
      fun e w' => ∃ v, e = .returned v ∧ w'.ownsRow w.heap.size 3 1 v (sel (matchB m) S S.length).length ((sel (matchB m) S S.length).map (.int .i64)) ∧ Below w.heap.size w w' := by
  have HX := Lib.hid h
  have HRI := Lib.hid hR
  have HN := Lib.hid (Array.getElem?_eq_some_iff.1 hn).1
  have HCN := Lib.hid hn; have HMK := Lib.hid hmk; have HWM := Lib.hid hwm
  obtain ⟨v, hv0, hR0⟩ := h.cells
  obtain ⟨A, c, rfl, hcc, hCS⟩ := Kd.R_reads hR0
  have HCS := Lib.hid hCS
  have c0 := blk_cell hv0 0
  obtain ⟨q, hq⟩ : ∃ q, matchB m = q := ⟨_, rfl⟩
  have HQ := Lib.hid hq
  rw [hq] at HRI ⊢
  clear h hR hn hmk hwm hR0 hCS hv0 hq
  go_enter Try.func40, Try.ntmps40
  go_wp2
  go_loopw [5, 16] (fun v5 v16 wr => ∃ i : Nat, i ≤ S.length ∧ v16 = .int .i64 (i : Int) ∧ Kd.R (Kd.int .i64) 3 wr w.heap.size (fun _ => True) v5 (sel q S i) ∧ Below w.heap.size w wr)
    (fun _ v16 _ => S.length - (intOf v16).toNat)
  case atStart => exact ⟨0, Nat.zero_le _, rfl, Kd.R_nil _ _ _ _ _, Below.refl _ _⟩
  case round =>
    obtain ⟨i, hi, rfl, hr, hb⟩ := hrel
    by_cases hlt : i < S.length
    · obtain ⟨ad, A', c', rfl, hcell, hle, hC'⟩ := set_at HCS.out i hlt
      have hc2 := (hb.cell (World.block_lt_of_cell? w _ hcell)).trans hcell
      have hs8 : (S.getD i []).length ≤ 8 := by
        have : S.getD i [] ∈ S := by rw [List.getD_eq_getElem?_getD, List.getElem?_eq_getElem hlt]; exact List.getElem_mem _
        exact (chk_fine (HX.out.good _ this)).2.1
      have hsl := sel_len q S i
      have hsu := sel_succ q S i
      have hC2 := Kd.C_below hC' hb
      obtain ⟨x, hx⟩ : ∃ x, S.getD i [] = x := ⟨_, rfl⟩
      rw [hx] at hc2 hle hC2 hs8 hsu
      have hqx : matchB m x = q x := by rw [HQ.out]
      have HC2 := Lib.hid hC2
      have HLE := Lib.hid hle
      have HB := Lib.hid hb
      have hnn := (hb.block pm HN.out).trans HCN.out
      have HP := Lib.hid (sel1_u hnn (HMK.out.below hb) HWM.out hC2 hle hs8)
      rw [hqx] at HP
      have HR := Lib.hid hr
      have HSU := Lib.hid hsu
      clear hcell hC' hC2 hle hb hnn hr hx hqx hsu
      by_cases hqi : q x = true
      · rw [hqi] at HP HSU
        go_wp2_with (first
          | (go_at_call 46; go_must (refine HP.out.mono ?_; rintro e w1 ⟨rfl, hb1⟩; have HB1 := Lib.hid hb1; have HR1 := Lib.hid (Kd.R_below HR.out hb1); clear hb1))
          | (at_builtin; go_must (refine Kd.R_append (Kd.int .i64) (w0 := w) w.heap.size rfl (.tmp 24) (.tmp 26) 38 3 (.int .i64 0) 8 rfl Try.underlying38 infoI rfl (by decide) (by decide) u5 (sel q S i) ((i : Nat) : Int) [.int .i64 ((i : Nat) : Int)] (fun _ => True) (fun _ => False) rfl rfl rfl (fun _ h => h.elim) (fun _ _ => trivial) HR1.out (HB.out.trans (HB1.out.mono HB.out.size)) (Nat.le_trans HB.out.size HB1.out.size) (by omega) ?_; intro v1 w2 hr2 hb2 _ _; have HR2 := Lib.hid hr2; have HB2 := Lib.hid hb2; clear hr2 hb2)))
        go_roundw
        case rel => exact ⟨i + 1, hlt, by simp, by rw [HSU.out]; simpa using HR2.out, HB2.out⟩
        case measure => simp [intOf]; omega
      · rw [eq_false_of_ne_true hqi] at HP HSU
        go_wp2_with (go_at_call 46; go_must (refine HP.out.mono ?_; rintro e w1 ⟨rfl, hb1⟩; have HB1 := Lib.hid hb1; have HR1 := Lib.hid (Kd.R_below HR.out hb1); clear hb1))
        go_roundw
        case rel => exact ⟨i + 1, hlt, by simp, by rw [HSU.out]; simpa using HR1.out, HB.out.trans (HB1.out.mono HB.out.size)⟩
        case measure => simp [intOf]; omega
    · obtain rfl : i = S.length := by omega
      obtain ⟨A', c', rfl, hle, hC'⟩ := Kd.R_reads hr
      have hsl := sel_len q S S.length
      have HC2 := Lib.hid hC'
      have HLE := Lib.hid hle
      have HB := Lib.hid hb
      clear hr hle hC' hb
      go_wp2_with (first
        | (go_at_call 59; go_must (refine (from_u (by repeat (first | exact HC2.out | (with_reducible refine Kd.C_drewN ?_ _) | (with_reducible refine Kd.C_drew ?_))) HLE.out HRI.out (by omega)).mono ?_; rintro e w1 ⟨ob, kb1, rfl, hi1, hb1⟩; have HI1 := Lib.hid hi1; have HB1 := Lib.hid hb1; clear hi1 hb1))
        | (go_at_call 58; go_must (refine (list_u HI1.out (by omega)).mono ?_; rintro e w2 ⟨v2, rfl, hr2, hb2⟩; have HR2 := Lib.hid hr2; have HB2 := Lib.hid hb2; clear hr2 hb2)))
      have hB1 : Below w.heap.size w w1 := by
        first
          | exact HB.out.trans (HB1.out.mono HB.out.size)
          | exact HB.out.trans (((below_drew (Below.refl _ _)).trans HB1.out).mono HB.out.size)
          | exact HB.out.trans (((pw_below_drewN (Below.refl _ _) _).trans HB1.out).mono HB.out.size)
      go_ret
      exact ⟨v2, rfl, own_weaken HR2.out hB1.size, hB1.trans (HB2.out.mono hB1.size)⟩
set_option maxRecDepth 100000 in
set_option maxHeartbeats 8000000 in
/-- What the program's index selects. -/
theorem isel_u {f : Nat → Prop} {w : World} {base kb mb : Nat} {S : List (List LB)} (h : IX f w base kb mb S) (hS : S.length < 4096) {m : MT} {A3 A4 : Option Addr} {c3 c4 : Nat} (hmk : MK w m A3 c3 A4 c4) (hwm : WM m) {k : Nat} (hR : post_Rises.f k (sel (matchB m) S S.length) = some true) (hok : okM 8 64 4096 m) :
    Calls Try.prog 25 #[.pointer (some ⟨kb, 0, none⟩), mval m A3 c3 A4 c4] w
      fun e w' => ∃ v, e = .returned (.tuple #[v, .int .i64 0]) ∧ w'.ownsRow w.heap.size 3 1 v (sel (matchB m) S S.length).length ((sel (matchB m) S S.length).map (.int .i64)) ∧ Below w.heap.size w w' := by
  have HX := Lib.hid h; have HMK := Lib.hid hmk; have HWM := Lib.hid hwm; have HR := Lib.hid hR; have HS := Lib.hid hS
  have HOK := Lib.hid (decide_eq_true hok)
  have hmf : ∀ (fn : Fn) (first cap : Array Value) (w : World), (Instr.makeFunc fn first cap).run Try.prog w = .ok (.func fn first cap) w := fun _ _ _ _ => rfl
  clear h hmk hwm hR hok hS
  go_enter Try.func25, Try.ntmps25
  go_wp2_with (first
      | ((with_reducible refine gate_dst (N := 3) rfl ?_); go_must (refine box_event ?hg (N := 3) ?hd (cs := mobj m A3 c3 A4 c4) (t := 54) ?hr ?_; (case hd => rfl); (case hg => rfl); (case hr => first | (go_simp; done) | (go_simp; rfl)); intro gb hg w1 hbox hb1; obtain ⟨b0, b1, b2, b3, b4⟩ := box5 hbox; have HBOX := Lib.hid hbox; have HB1 := Lib.hid hb1; clear hbox hb1 hg))
      | (go_at_call 45; go_must (refine (mcheck_u (HMK.out.below HB1.out) HWM.out).mono ?_; rintro e w2 ⟨rfl, hb2⟩; rw [HOK.out]; have hbox2 := (hb2.block gb (Array.getElem?_eq_some_iff.1 HBOX.out).1).trans HBOX.out; clear b0 b1 b2 b3 b4; have hb02 := HB1.out.trans (hb2.mono HB1.out.size); have HT := Lib.hid (thoseM_u (HX.out.below hb02) HS.out hbox2 (HMK.out.below hb02) HWM.out HR.out); have HB2 := Lib.hid hb02; clear hbox2 hb2 hb02))
      | (go_at_call 40; go_must (refine HT.out.mono ?_; rintro e w3 ⟨v1, rfl, hr1, hb3⟩; have HR1 := Lib.hid hr1; have HB3 := Lib.hid hb3; clear hr1 hb3)))
  go_ret2
  exact ⟨v1, rfl, own_weaken HR1.out HB2.out.size, HB2.out.trans (HB3.out.mono HB2.out.size)⟩
end Go.Proofs.Ytlkhdbfhnpbbhaa
namespace Go.Proofs.Ytlkhdbfhnpbbhaa
set_option linter.unusedVariables false
set_option linter.unusedSimpArgs false
open Go.RowKit Go.Proofs.YtlkhdbfhnpbbhaaW.PrintWords Go.Proofs.YtlkhdbfhnpbbhaaW.PrintLast Go.Proofs.YtlkhdbfhnpbbhaaW.PrintMore Go.Proofs.Ytlkhdbfhnpbbhaa.Ix Go.Proofs.Ytlkhdbfhnpbbhaa.Tx Go.Proofs.Ytlkhdbfhnpbbhaa.Mx Go.Proofs.Ytlkhdbfhnpbbhaa.Pure
/-- What is there behind a text. -/
def txY (y : Nat) (s : ByteArray) : Nat := if s.size ≤ 4096 - y then y + s.size else y
def txB (y : Nat) (bad : Bool) (s : ByteArray) : Bool := bad || !decide (s.size ≤ 4096 - y)
theorem txY_le {y : Nat} {s : ByteArray} (h : y ≤ 4096) : txY y s ≤ 4096 := by unfold txY; split <;> omega
theorem txB_no {y : Nat} {bad : Bool} {s : ByteArray} : txB y bad s = false ↔ bad = false ∧ s.size ≤ 4096 - y := by unfold txB; simp
abbrev scells (x y : Nat) (bad : Bool) : Array Value := #[.int .i64 (x : Int), .int .i64 (y : Int), .bool bad]
theorem sz3 {w : World} {g x y : Nat} {bad : Bool} (h : w.heap[g]? = some (.cells (scells x y bad) 84 (0, 0))) :
    w.cell? ⟨g, 0, none⟩ = some (.int .i64 (x : Int)) ∧ w.cell? ⟨g, 1, none⟩ = some (.int .i64 (y : Int)) ∧ w.cell? ⟨g, 2, none⟩ = some (.bool bad) ∧ w.frozen? ⟨g, 0, none⟩ = false ∧ w.frozen? ⟨g, 1, none⟩ = false ∧ w.frozen? ⟨g, 2, none⟩ = false :=
  ⟨blk_cell h 0, blk_cell h 1, blk_cell h 2, blk_frozen h 0, blk_frozen h 1, blk_frozen h 2⟩
set_option maxRecDepth 100000 in
set_option maxHeartbeats 8000000 in
theorem text_u {w : World} {sb x y : Nat} {bad : Bool} {s : ByteArray} (hy : y ≤ 4096) (hs : s.size ≤ 140737488351232) (hr : w.heap[sb]? = some (.cells (scells x y bad) 84 (0, 0))) :
    Calls Try.prog 62 #[.pointer (some ⟨sb, 0, none⟩), .string s] w fun e w' => e = .returned (.tuple #[]) ∧ w'.heap[sb]? = some (.cells (scells x (txY y s) (txB y bad s)) 84 (0, 0)) ∧ Below sb w w' ∧ Far (fun k => k = sb) w w' := by
  obtain ⟨c0, c1, c2, f0, f1, f2⟩ := sz3 hr
  have HR := Lib.hid hr
  clear hr
  have q1 : IntKind.i64.wrap ((4096 : Int) - (y : Int)) = 4096 - (y : Int) := IntWalk.i64_in _ (by omega)
  by_cases h : s.size ≤ 4096 - y
  · have e1 : decide ((4096 : Int) - (y : Int) < (s.size : Int)) = false := decide_eq_false (by omega)
    have e2 : (4096 : Int) - (y : Int) < (s.size : Int) ↔ False := ⟨fun h => by omega, fun h => h.elim⟩
    have q2 : IntKind.i64.wrap ((y : Int) + (s.size : Int)) = (y : Int) + (s.size : Int) := IntWalk.i64_in _ (by omega)
    have HH := Lib.hid h
    clear h
    go_enter Try.func62, Try.ntmps62
    go_wp2_with ((with_reducible refine gate_store (t := 3) (p := 24) rfl ?_); go_must (refine store_event (t := 3) (p := 24) (v := .tmp 22) (w1 := w.setCell ⟨sb, 1, none⟩ (.int .i64 ((y : Int) + (s.size : Int)))) ?hg ?ho ?hn ?hr ?_; (case ho => rfl); (case hg => rfl); (case hn => rfl); (case hr => first | (go_simp; done) | (go_simp; rfl)); intro w2 hw2; have HW2 := Lib.hid hw2; clear hw2))
    go_end0
    refine ⟨rfl, ?_, by rw [HW2.out]; exact (Below.refl _ _).setCell (p := ⟨sb, 1, none⟩) (Nat.le_refl _) _, by rw [HW2.out]; exact (Far.of_below (f := fun k => k = sb) (Below.refl _ _)).setCell (p := ⟨sb, 1, none⟩) rfl _⟩
    rw [HW2.out, show txY y s = y + s.size from if_pos HH.out, show txB y bad s = bad by unfold txB; rw [decide_eq_true HH.out]; simp]
    exact blk_put HR.out 1 _ (by simp)
  · have e1 : decide ((4096 : Int) - (y : Int) < (s.size : Int)) = true := decide_eq_true (by omega)
    have e2 : (4096 : Int) - (y : Int) < (s.size : Int) ↔ True := ⟨fun _ => trivial, fun _ => by omega⟩
    have HH := Lib.hid h
    clear h
    go_enter Try.func62, Try.ntmps62
    go_wp2_with ((with_reducible refine gate_store (t := 4) (p := 14) rfl ?_); go_must (refine store_event (t := 4) (p := 14) (v := .const (.bool true)) (w1 := w.setCell ⟨sb, 2, none⟩ (.bool true)) ?hg ?ho ?hn ?hr ?_; (case ho => rfl); (case hg => rfl); (case hn => rfl); (case hr => first | (go_simp; done) | (go_simp; rfl)); intro w2 hw2; have HW2 := Lib.hid hw2; clear hw2))
    (try simp only [Exit.inBlock, Exit.then]); refine bodyPost_ret (results_none rfl _ _ _) rfl ?_
    refine ⟨rfl, ?_, by rw [HW2.out]; exact (Below.refl _ _).setCell (p := ⟨sb, 2, none⟩) (Nat.le_refl _) _, by rw [HW2.out]; exact (Far.of_below (f := fun k => k = sb) (Below.refl _ _)).setCell (p := ⟨sb, 2, none⟩) rfl _⟩
    rw [HW2.out, show txY y s = y from if_neg HH.out, show txB y bad s = true by unfold txB; rw [decide_eq_false HH.out]; simp]
    exact blk_put HR.out 2 _ rfl
end Go.Proofs.Ytlkhdbfhnpbbhaa
namespace Go.Proofs.Ytlkhdbfhnpbbhaa
set_option linter.unusedVariables false
set_option linter.unusedSimpArgs false
open Go.RowKit Go.Proofs.YtlkhdbfhnpbbhaaW.PrintWords Go.Proofs.YtlkhdbfhnpbbhaaW.PrintLast Go.Proofs.YtlkhdbfhnpbbhaaW.PrintMore Go.Proofs.Ytlkhdbfhnpbbhaa.Ix Go.Proofs.Ytlkhdbfhnpbbhaa.Tx Go.Proofs.Ytlkhdbfhnpbbhaa.Mx Go.Proofs.Ytlkhdbfhnpbbhaa.Pure
theorem tol_iff (s : ByteArray) : s.toList = [] ↔ s = emp := emp_iff s
theorem bare_none (o : Int) (m : MT) : varveref12_bare.f o m.f1 m.f2 m.f3 m.f4 false false false = some (plainB m && decide (m.f4.length = 0)) := by
  unfold varveref12_bare.f plainB
  simp only [Bool.false_eq_true, if_false]
  by_cases h2 : m.f2 = emp
  · rw [if_pos ((tol_iff _).2 h2), decide_eq_true h2]
    by_cases h1 : m.f1 = emp
    · rw [if_pos ((tol_iff _).2 h1), decide_eq_true h1]
      by_cases h3 : m.f3.length = 0
      · rw [if_pos (by omega), decide_eq_true h3, show ((m.f4.length : Int) == 0) = decide (m.f4.length = 0) from len_beq _ 0]; rfl
      · rw [if_neg (by omega), decide_eq_false h3]; rfl
    · rw [if_neg (fun c => h1 ((tol_iff _).1 c)), decide_eq_false h1]; rfl
  · rw [if_neg (fun c => h2 ((tol_iff _).1 c)), decide_eq_false h2]; simp
theorem bare_one (o : Int) (m : MT) : varveref12_bare.f o m.f1 m.f2 m.f3 m.f4 true false false = some (decide (m.f3.length = 0) && decide (m.f4.length = 0)) := by
  unfold varveref12_bare.f
  simp only [Bool.false_eq_true, if_false, if_true]
  by_cases h3 : m.f3.length = 0
  · rw [if_pos (by omega), decide_eq_true h3, show ((m.f4.length : Int) == 0) = decide (m.f4.length = 0) from len_beq _ 0]; rfl
  · rw [if_neg (by omega), decide_eq_false h3]; rfl
theorem bare_many (o : Int) (m : MT) : varveref12_bare.f o m.f1 m.f2 m.f3 m.f4 false true false = some (decide (m.f2 = emp) && decide (m.f4.length = 0)) := by
  unfold varveref12_bare.f
  simp only [Bool.false_eq_true, if_false, if_true]
  by_cases h2 : m.f2 = emp
  · rw [if_pos ((tol_iff _).2 h2), decide_eq_true h2, show ((m.f4.length : Int) == 0) = decide (m.f4.length = 0) from len_beq _ 0]; rfl
  · rw [if_neg (fun c => h2 ((tol_iff _).1 c)), decide_eq_false h2]; rfl
theorem bare_kids (o : Int) (m : MT) : varveref12_bare.f o m.f1 m.f2 m.f3 m.f4 false false true = some (plainB m) := by
  unfold varveref12_bare.f plainB
  simp only [Bool.false_eq_true, if_false, if_true]
  by_cases h2 : m.f2 = emp
  · rw [if_pos ((tol_iff _).2 h2), decide_eq_true h2]
    by_cases h1 : m.f1 = emp
    · rw [if_pos ((tol_iff _).2 h1), decide_eq_true h1]
      by_cases h3 : m.f3.length = 0
      · rw [if_pos (by omega), decide_eq_true h3]; rfl
      · rw [if_neg (by omega), decide_eq_false h3]; rfl
    · rw [if_neg (fun c => h1 ((tol_iff _).1 c)), decide_eq_false h1]; rfl
  · rw [if_neg (fun c => h2 ((tol_iff _).1 c)), decide_eq_false h2]; simp
theorem op_none {m : MT} (h : m.f0 = 0) : okOp m = (plainB m && decide (m.f4.length = 0)) := by unfold okOp; rw [if_pos h]
theorem op_one {m : MT} (h : m.f0 = 1 ∨ m.f0 = 2 ∨ m.f0 = 3) : okOp m = ((decide (m.f3.length = 0) && decide (m.f4.length = 0)) && nm m.f1 && decide (m.f2.size ≤ 64)) := by
  unfold okOp namedB; rw [if_neg (by omega), if_pos h]
  cases nm m.f1 <;> cases decide (m.f2.size ≤ 64) <;> cases decide (m.f4.length = 0) <;> cases decide (m.f3.length = 0) <;> rfl
theorem op_many {m : MT} (h : m.f0 = 4) : okOp m = ((decide (m.f2 = emp) && decide (m.f4.length = 0)) && nm m.f1 && valsB m.f3) := by
  unfold okOp namedB; rw [if_neg (by omega), if_neg (by omega), if_pos h]
  by_cases h2 : m.f2 = emp
  · rw [decide_eq_true h2, show decide (m.f2.size ≤ 64) = true by rw [h2]; rfl]
    cases nm m.f1 <;> cases decide (m.f4.length = 0) <;> cases valsB m.f3 <;> rfl
  · rw [decide_eq_false h2]; simp
theorem op_kids {m : MT} (h : m.f0 = 5 ∨ m.f0 = 6 ∨ m.f0 = 7) : okOp m = (plainB m && (!(decide (m.f0 = 7) && !decide (m.f4.length = 1)))) := by
  unfold okOp; rw [if_neg (by omega), if_neg (by omega), if_neg (by omega)]
  rcases h with h | h | h
  · rw [if_pos (Or.inl h), h]; simp
  · rw [if_pos (Or.inr h), h]; simp
  · rw [if_neg (by omega), if_pos h, decide_eq_true h]; simp
theorem op_else {m : MT} (h : ¬ m.f0 = 0 ∧ ¬ m.f0 = 1 ∧ ¬ m.f0 = 2 ∧ ¬ m.f0 = 3 ∧ ¬ m.f0 = 4 ∧ ¬ m.f0 = 5 ∧ ¬ m.f0 = 6 ∧ ¬ m.f0 = 7) : okOp m = false := by
  unfold okOp; rw [if_neg (by omega), if_neg (by omega), if_neg (by omega), if_neg (by omega), if_neg (by omega)]
theorem plain_no {m : MT} (h : plainB m = true) : m.f1.size + m.f2.size + strsN m.f3 = 0 := by
  unfold plainB at h
  simp only [Bool.and_eq_true, decide_eq_true_eq] at h
  rw [h.1.1, h.1.2, List.eq_nil_of_length_eq_zero h.2]; rfl
/-- one without kids -/
theorem okM_leaf {d n b : Nat} {m : MT} (h : okOp m = true → m.f4.length = 0) : okM (d + 1) n b m ↔ okOp m = true ∧ 1 ≤ n ∧ m.f1.size + m.f2.size + strsN m.f3 ≤ b := by
  constructor
  · intro hm
    exact ⟨okM_op hm, (okM_room hm).1, (okM_room hm).2⟩
  · rintro ⟨h1, h2, h3⟩
    rw [okM_succ d n b m h2 h3, List.eq_nil_of_length_eq_zero (h h1)]
    exact ⟨h1, okL_nil _ _ _⟩
theorem nodes_leaf {d : Nat} {m : MT} (h : m.f4.length = 0) : nodesD (d + 1) m = 1 ∧ bytesD (d + 1) m = m.f1.size + m.f2.size + strsN m.f3 := by
  simp only [nodesD, bytesD]; rw [List.eq_nil_of_length_eq_zero h]; exact ⟨rfl, rfl⟩
theorem str_mem_size {l : List ByteArray} (h : ∀ v ∈ l, v.size ≤ 140737488351232) {i : Nat} (hi : i < l.length) : (rdOf ByteArray.empty l (i : Int)).size ≤ 140737488351232 := by
  rw [show rdOf ByteArray.empty l (i : Int) = l[i] by simp [rdOf, hi]]
  exact h _ (List.getElem_mem hi)
/-- What a call of look leaves. -/
def LookPost (d x y : Nat) (m : MT) (sb : Nat) (w : World) (e : Ending) (w' : World) : Prop :=
  ∃ (x' y' : Nat) (bad : Bool), e = .returned (.tuple #[]) ∧ (bad = false ↔ okM d (64 - x) (4096 - y) m) ∧ (bad = false → x' = x + nodesD d m ∧ y' = y + bytesD d m) ∧ w'.heap[sb]? = some (.cells (scells x' y' bad) 84 (0, 0)) ∧ Below sb w w' ∧ Far (fun k => k = sb) w w'
structure LS (w0 : World) (sb gb : Nat) (m : MT) (A3 : Option Addr) (c3 : Nat) (A4 : Option Addr) (c4 : Nat) (x y : Nat) (bad : Bool) (w : World) : Prop where
  room : w.heap[sb]? = some (.cells (scells x y bad) 84 (0, 0))
  box : w.heap[gb]? = some (.cells (mobj m A3 c3 A4 c4) 54 (0, 0))
  bel : Below sb w0 w
  far : Far (fun k => k = sb) w0 w
section
variable {w0 w w' : World} {sb gb : Nat} {m : MT} {A3 : Option Addr} {c3 : Nat} {A4 : Option Addr} {c4 : Nat} {x y x' y' : Nat} {bad : Bool}
theorem LS.flag (h : LS w0 sb gb m A3 c3 A4 c4 x y bad w) (hne : gb ≠ sb) (b : Bool) : LS w0 sb gb m A3 c3 A4 c4 x y b (w.setCell ⟨sb, 2, none⟩ (.bool b)) :=
  ⟨blk_put h.room 2 _ rfl, (Below.heap_setCell _ ⟨sb, 2, none⟩ _ gb hne).trans h.box, h.bel.setCell (p := ⟨sb, 2, none⟩) (Nat.le_refl _) _, h.far.setCell (f := fun k => k = sb) (p := ⟨sb, 2, none⟩) rfl _⟩
theorem LS.step {b : Bool} (h : LS w0 sb gb m A3 c3 A4 c4 x y bad w) (hne : gb ≠ sb) (hr : w'.heap[sb]? = some (.cells (scells x' y' b) 84 (0, 0))) (hb : Below sb w w') (hf : Far (fun k => k = sb) w w') : LS w0 sb gb m A3 c3 A4 c4 x' y' b w' :=
  ⟨hr, (hf.block gb (Array.getElem?_eq_some_iff.1 h.box).1 hne).trans h.box, h.bel.trans hb, h.far.trans hf⟩
theorem LS.below (h : LS w0 sb gb m A3 c3 A4 c4 x y bad w) (hb : Below w.heap.size w w') : LS w0 sb gb m A3 c3 A4 c4 x y bad w' :=
  ⟨(hb.block sb (Array.getElem?_eq_some_iff.1 h.room).1).trans h.room, (hb.block gb (Array.getElem?_eq_some_iff.1 h.box).1).trans h.box, h.bel.trans (hb.mono (Nat.le_of_lt (Array.getElem?_eq_some_iff.1 h.room).1)), h.far.trans (Far.of_below hb)⟩
theorem LS.facts (h : LS w0 sb gb m A3 c3 A4 c4 x y bad w) :
    (w.cell? ⟨sb, 0, none⟩ = some (.int .i64 (x : Int)) ∧ w.cell? ⟨sb, 1, none⟩ = some (.int .i64 (y : Int)) ∧ w.cell? ⟨sb, 2, none⟩ = some (.bool bad) ∧ w.frozen? ⟨sb, 0, none⟩ = false ∧ w.frozen? ⟨sb, 1, none⟩ = false ∧ w.frozen? ⟨sb, 2, none⟩ = false) ∧
    w.cell? ⟨gb, 0, none⟩ = some (.int .i64 m.f0) ∧ w.cell? ⟨gb, 1, none⟩ = some (.string m.f1) ∧ w.cell? ⟨gb, 2, none⟩ = some (.string m.f2) ∧ w.cell? ⟨gb, 3, none⟩ = some (.slice A3 m.f3.length c3) ∧ w.cell? ⟨gb, 4, none⟩ = some (.slice A4 m.f4.length c4) := ⟨sz3 h.room, box5 h.box⟩
theorem look_bad {d : Nat} (h : ¬ okM d (64 - x) (4096 - y) m) (hs : LS w0 sb gb m A3 c3 A4 c4 x' y' true w) : LookPost d x y m sb w0 (.returned (.tuple #[])) w :=
  ⟨x', y', true, rfl, ⟨fun c => absurd c (by simp), fun c => absurd c h⟩, fun c => absurd c (by simp), hs.room, hs.bel, hs.far⟩
/-- one that has no kids where it may be -/
theorem look_leaf {d : Nat} (hx : x + 1 ≤ 64) (hy : y ≤ 4096) (hop : okOp m = true → m.f4.length = 0) (hiff : bad = false ↔ okOp m = true ∧ m.f1.size + m.f2.size + strsN m.f3 ≤ 4096 - y) (hyy : bad = false → y' = y + (m.f1.size + m.f2.size + strsN m.f3)) (hx1 : x' = x + 1) (hs : LS w0 sb gb m A3 c3 A4 c4 x' y' bad w) : LookPost (d + 1) x y m sb w0 (.returned (.tuple #[])) w := by
  refine ⟨x', y', bad, rfl, ?_, ?_, hs.room, hs.bel, hs.far⟩
  · rw [hiff, okM_leaf hop]
    exact ⟨fun h => ⟨h.1, by omega, h.2⟩, fun h => ⟨h.1, h.2.2⟩⟩
  · intro hb
    have h4 := nodes_leaf (d := d) (hop (hiff.1 hb).1)
    rw [h4.1, h4.2]
    exact ⟨hx1, hyy hb⟩
theorem leaf2 {q : Bool} (h : q = true → strsN m.f3 = 0) : txB (txY y m.f1) (txB y (!q) m.f1) m.f2 = false ↔ q = true ∧ m.f1.size + m.f2.size + strsN m.f3 ≤ 4096 - y := by
  rw [txB_no, txB_no]
  constructor
  · rintro ⟨⟨h1, h2⟩, h3⟩
    have hq : q = true := by simpa using h1
    have := h hq
    rw [show txY y m.f1 = y + m.f1.size from if_pos h2] at h3
    exact ⟨hq, by omega⟩
  · rintro ⟨hq, h1⟩
    have h2 : m.f1.size ≤ 4096 - y := by omega
    rw [show txY y m.f1 = y + m.f1.size from if_pos h2]
    exact ⟨⟨by rw [hq]; rfl, h2⟩, by omega⟩
theorem leaf3 {q : Bool} (h : q = true → strsN m.f3 = 0) (hb : txB (txY y m.f1) (txB y (!q) m.f1) m.f2 = false) : txY (txY y m.f1) m.f2 = y + (m.f1.size + m.f2.size + strsN m.f3) := by
  rw [txB_no, txB_no] at hb
  obtain ⟨⟨h1, h2⟩, h3⟩ := hb
  have hq : q = true := by simpa using h1
  have h1 : txY y m.f1 = y + m.f1.size := if_pos h2
  rw [h1] at h3 ⊢
  rw [show txY (y + m.f1.size) m.f2 = y + m.f1.size + m.f2.size from if_pos h3, h hq]
  omega
def ValRel (m : MT) (y i y' : Nat) (bad : Bool) : Prop := (bad = false → okOp m = true ∧ y' + strsN (m.f3.drop i) = y + (m.f1.size + m.f2.size + strsN m.f3) ∧ y' ≤ 4096) ∧ (bad = true → ¬ (okOp m = true ∧ m.f1.size + m.f2.size + strsN m.f3 ≤ 4096 - y))
theorem val_start {q : Bool} (hq : okOp m = q) (hy : y ≤ 4096) (h : q = true → m.f2.size = 0) : ValRel m y 0 (txY y m.f1) (txB y (!q) m.f1) := by
  constructor
  · intro hb
    rw [txB_no] at hb
    have hq2 : q = true := by simpa using hb.1
    rw [show txY y m.f1 = y + m.f1.size from if_pos hb.2, List.drop_zero, h hq2]
    exact ⟨hq.trans hq2, by omega, by omega⟩
  · rintro hb ⟨h1, h2⟩
    have hn : ¬ txB y (!q) m.f1 = false := by rw [hb]; simp
    rw [txB_no] at hn
    exact hn ⟨by rw [← hq, h1]; rfl, by omega⟩
theorem val_step {i : Nat} {s : ByteArray} (h : ValRel m y i y' false) (hy : y ≤ 4096) (hi : i < m.f3.length) (hs : rdOf ByteArray.empty m.f3 (i : Int) = s) : ValRel m y (i + 1) (txY y' s) (txB y' false s) := by
  obtain ⟨h1, h2, h3⟩ := h.1 rfl
  have hd := strsN_drop m.f3 i hi
  rw [hs] at hd
  constructor
  · intro hb
    rw [txB_no] at hb
    rw [show txY y' s = y' + s.size from if_pos hb.2]
    exact ⟨h1, by omega, by omega⟩
  · rintro hb ⟨-, h5⟩
    have hn : ¬ txB y' false s = false := by rw [hb]; simp
    rw [txB_no] at hn
    exact hn ⟨rfl, by omega⟩
theorem val_end {i : Nat} (h : ValRel m y i y' bad) (hy : y ≤ 4096) (hi : bad = false → m.f3.length ≤ i) : (bad = false ↔ okOp m = true ∧ m.f1.size + m.f2.size + strsN m.f3 ≤ 4096 - y) ∧ (bad = false → y' = y + (m.f1.size + m.f2.size + strsN m.f3)) := by
  have hn : bad = false → strsN (m.f3.drop i) = 0 := fun hb => by rw [List.drop_eq_nil_of_le (hi hb)]; rfl
  refine ⟨⟨fun hb => ?_, fun hc => ?_⟩, fun hb => ?_⟩
  · have := h.1 hb; have := hn hb; exact ⟨(h.1 hb).1, by omega⟩
  · cases bad
    · rfl
    · exact absurd hc (h.2 rfl)
  · have := h.1 hb; have := hn hb; omega
def KRel (d : Nat) (m : MT) (x y j x' y' : Nat) (bad : Bool) : Prop := (bad = false → okOp m = true ∧ x' ≤ 64 ∧ y' ≤ 4096 ∧ KidsRel d (64 - x) (4096 - y) m (64 - x') (4096 - y') j) ∧ (bad = true → ¬ okM (d + 1) (64 - x) (4096 - y) m)
theorem k_start {d : Nat} {q : Bool} (hq : okOp m = q) (hx : x + 1 ≤ 64) (hy : y ≤ 4096) (h : q = true → m.f1.size + m.f2.size + strsN m.f3 = 0) (hx1 : x + 1 = x') : KRel d m x y 0 x' y (!q) := by
  constructor
  · intro hb
    have hq2 : q = true := by simpa using hb
    have h0 := h hq2
    have hk := kids_start (d := d) (n := 64 - x) (b := 4096 - y) (m := m) ((okM_succ d _ _ m (by omega) (by omega)).trans (and_iff_right (hq.trans hq2))) (by omega) (by omega)
    rw [h0, Nat.sub_zero, show 64 - x - 1 = 64 - x' by omega] at hk
    exact ⟨hq.trans hq2, by omega, hy, hk⟩
  · intro hb hm
    rw [← hq, okM_op hm] at hb
    cases hb
theorem k_step {d j x5 y5 : Nat} {bad5 : Bool} {k : MT} (h : KRel d m x y j x' y' false) (hj : j < m.f4.length) (hk : rd_T54 m.f4 (j : Int) = k) (hiff : bad5 = false ↔ okM d (64 - x') (4096 - y') k) (hv : bad5 = false → x5 = x' + nodesD d k ∧ y5 = y' + bytesD d k) : KRel d m x y (j + 1) x5 y5 bad5 := by
  obtain ⟨h1, h2, h3, h4⟩ := h.1 rfl
  constructor
  · intro hb
    have hok := hiff.1 hb
    have hs := kids_step h4 hj (by rw [hk]; exact hok)
    rw [hk, show 64 - x' - nodesD d k = 64 - x5 by rw [(hv hb).1]; omega, show 4096 - y' - bytesD d k = 4096 - y5 by rw [(hv hb).2]; omega] at hs
    have := hok.2.1; have := hok.2.2; have := hv hb
    exact ⟨h1, by omega, by omega, hs⟩
  · intro hb
    exact kids_bad h4 hj (by rw [hk]; intro c; rw [hiff.2 c] at hb; cases hb)
theorem k_end {d j : Nat} (h : KRel d m x y j x' y' bad) (hx : x ≤ 64) (hy : y ≤ 4096) (hj : bad = false → m.f4.length ≤ j) (hs : LS w0 sb gb m A3 c3 A4 c4 x' y' bad w) : LookPost (d + 1) x y m sb w0 (.returned (.tuple #[])) w := by
  refine ⟨x', y', bad, rfl, ⟨fun hb => ?_, fun hc => ?_⟩, fun hb => ?_, hs.room, hs.bel, hs.far⟩
  · obtain ⟨h1, h2, h3, h4⟩ := h.1 hb
    exact (kids_end h4 (hj hb)).1
  · cases bad
    · rfl
    · exact absurd hc (h.2 rfl)
  · obtain ⟨h1, h2, h3, h4⟩ := h.1 hb
    obtain ⟨e1, e2, e3⟩ := kids_end h4 (hj hb)
    have := e1.2.1; have := e1.2.2
    omega
end
end Go.Proofs.Ytlkhdbfhnpbbhaa
namespace Go.Proofs.Ytlkhdbfhnpbbhaa
set_option linter.unusedVariables false
set_option linter.unusedSimpArgs false
open Go.RowKit Go.Proofs.YtlkhdbfhnpbbhaaW.PrintWords Go.Proofs.YtlkhdbfhnpbbhaaW.PrintLast Go.Proofs.YtlkhdbfhnpbbhaaW.PrintMore Go.Proofs.Ytlkhdbfhnpbbhaa.Ix Go.Proofs.Ytlkhdbfhnpbbhaa.Tx Go.Proofs.Ytlkhdbfhnpbbhaa.Mx Go.Proofs.Ytlkhdbfhnpbbhaa.Pure
set_option maxRecDepth 100000 in
set_option maxHeartbeats 16000000 in
theorem look_u : ∀ (d : Nat), d ≤ 8 → ∀ {wm w : World} {sb : Nat} {x y : Nat} {m : MT} {A3 A4 : Option Addr} {c3 c4 : Nat} (_ : MK wm m A3 c3 A4 c4) (_ : WM m) (_ : Below wm.heap.size wm w) (_ : wm.heap.size ≤ sb) (_ : x ≤ 64) (_ : y ≤ 4096) (_ : w.heap[sb]? = some (.cells (scells x y false) 84 (0, 0))),
    Calls Try.prog 49 #[.pointer (some ⟨sb, 0, none⟩), mval m A3 c3 A4 c4, .int .i64 (9 - (d : Int))] w (LookPost d x y m sb w) := by
  intro d
  induction d with
  | zero =>
    intro _ wm w sb x y m A3 A4 c3 c4 hmk hwm hb hsb hx hy hr
    have hnw := (Array.getElem?_eq_some_iff.1 hr).1
    have hc0 : w.cell? ⟨sb, 0, none⟩ = some (.int .i64 (x : Int)) := blk_cell hr 0
    have HMK := Lib.hid hmk; have HWM := Lib.hid hwm; have HBM := Lib.hid hb; have HSB := Lib.hid hsb; have HR := Lib.hid hr; have HNW := Lib.hid hnw
    have hk1 := hwm.c
    have hk2 := hwm.l
    clear hmk hwm hb hsb hr hnw hc0
    go_enter Try.func49, Try.ntmps49
    go_upto_region 2 with (first
      | ((with_reducible refine gate_dst (N := 4) rfl ?_); go_must (refine box_event ?hg (N := 4) ?hd (cs := mobj m A3 c3 A4 c4) (t := 54) ?hr ?_; (case hd => rfl); (case hg => rfl); (case hr => first | (go_simp; done) | (go_simp; rfl)); intro gb hg w1 hbox hb1; have hn1 := (hb1.block sb HNW.out).trans HR.out; have hnc : w1.cell? ⟨sb, 0, none⟩ = some (.int .i64 (x : Int)) := blk_cell hn1 0; have hnf : w1.frozen? ⟨sb, 0, none⟩ = false := blk_frozen hn1 0; have HBOX := Lib.hid hbox; have HB1 := Lib.hid hb1; have HN1 := Lib.hid hn1; have HG := Lib.hid hg; clear hbox hb1 hn1 hg))
      | ((with_reducible refine gate_store (t := 3) (p := 14) rfl ?_); go_must (refine store_event (t := 3) (p := 14) (v := .tmp 12) (w1 := w1.setCell ⟨sb, 0, none⟩ (.int .i64 ((x : Int) + 1))) ?hg ?ho ?hn ?hr ?_; (case ho => rfl); (case hg => rfl); (case hn => rfl); (case hr => first | (go_simp; done) | (go_simp; rfl)); intro w3 hw3; have HW3 := Lib.hid hw3; clear hw3)))
    have hgn : gb ≠ sb := by rw [HG.out]; have := HNW.out; omega
    obtain ⟨x1, hx1⟩ : ∃ x1, x + 1 = x1 := ⟨_, rfl⟩
    have hx2 : (x : Int) + 1 = (x1 : Int) := by omega
    have hs : LS w sb gb m A3 c3 A4 c4 x1 y false w3 := by
      rw [HW3.out]
      refine ⟨?_, (Below.heap_setCell _ ⟨sb, 0, none⟩ _ gb hgn).trans HBOX.out, (HB1.out.mono (Nat.le_of_lt HNW.out)).setCell (p := ⟨sb, 0, none⟩) (Nat.le_refl _) _, (Far.of_below (f := fun k => k = sb) HB1.out).setCell (f := fun k => k = sb) (p := ⟨sb, 0, none⟩) rfl _⟩
      rw [hx2]
      exact blk_put HN1.out 0 _ rfl
    obtain ⟨⟨c0, c1, c2, f0, f1, f2⟩, b0, b1, b2, b3, b4⟩ := hs.facts
    have HS := Lib.hid hs; have HGN := Lib.hid hgn; have HX1 := Lib.hid hx1
    clear hs hgn HBOX HN1 hnf hnc HW3 HB1 hx1 hx2
    have HNO := Lib.hid (show ¬ okM 0 (64 - x) (4096 - y) m from fun h => absurd h.1 (by simp [okD]))
    by_cases hx3 : 64 < x1
    · have e0 : (64 : Int) < (x1 : Int) ↔ True := ⟨fun _ => trivial, fun _ => by omega⟩
      clear hx3
      go_wp2_with ((with_reducible refine gate_store (t := 4) (p := 32) rfl ?_); go_must (refine store_event (t := 4) (p := 32) (v := .const (.bool true)) (w1 := World.setCell w3 ⟨sb, 2, none⟩ (.bool true)) ?hg ?ho ?hn ?hr ?_; (case ho => rfl); (case hg => rfl); (case hn => rfl); (case hr => first | (go_simp; done) | (go_simp; rfl)); intro w3 hw3; have hs := HS.out.flag HGN.out true; rw [← hw3] at hs; clear HS hw3; clear c0 c1 c2 f0 f1 f2 b0 b1 b2 b3 b4; obtain ⟨⟨c0, c1, c2, f0, f1, f2⟩, b0, b1, b2, b3, b4⟩ := hs.facts; have HS := Lib.hid hs; clear hs))
      (try simp only [Exit.inBlock, Exit.then]); refine bodyPost_ret (results_none rfl _ _ _) rfl ?_
      exact look_bad HNO.out HS.out
    · have e0 : (64 : Int) < (x1 : Int) ↔ False := ⟨fun h => by omega, fun h => h.elim⟩
      clear hx3
      go_wp2_with ((with_reducible refine gate_store (t := 4) (p := 32) rfl ?_); go_must (refine store_event (t := 4) (p := 32) (v := .const (.bool true)) (w1 := World.setCell w3 ⟨sb, 2, none⟩ (.bool true)) ?hg ?ho ?hn ?hr ?_; (case ho => rfl); (case hg => rfl); (case hn => rfl); (case hr => first | (go_simp; done) | (go_simp; rfl)); intro w3 hw3; have hs := HS.out.flag HGN.out true; rw [← hw3] at hs; clear HS hw3; clear c0 c1 c2 f0 f1 f2 b0 b1 b2 b3 b4; obtain ⟨⟨c0, c1, c2, f0, f1, f2⟩, b0, b1, b2, b3, b4⟩ := hs.facts; have HS := Lib.hid hs; clear hs))
      (try simp only [Exit.inBlock, Exit.then]); refine bodyPost_ret (results_none rfl _ _ _) rfl ?_
      exact look_bad HNO.out HS.out
  | succ d ih =>
    intro hd wm w sb x y m A3 A4 c3 c4 hmk hwm hb hsb hx hy hr
    have hnw := (Array.getElem?_eq_some_iff.1 hr).1
    have hc0 : w.cell? ⟨sb, 0, none⟩ = some (.int .i64 (x : Int)) := blk_cell hr 0
    have HMK := Lib.hid hmk; have HWM := Lib.hid hwm; have HBM := Lib.hid hb; have HSB := Lib.hid hsb; have HR := Lib.hid hr; have HNW := Lib.hid hnw
    have hk1 := hwm.c
    have hk2 := hwm.l
    have ih2 := @ih (by omega)
    rw [show (9 : Int) - (d : Int) = 9 - ((d : Int) + 1) + 1 by omega] at ih2
    have HIH := Lib.hid (fun (_ : Unit) => @ih2)
    clear ih ih2
    clear hmk hwm hb hsb hr hnw hc0
    go_enter Try.func49, Try.ntmps49
    go_upto_region 2 with (first
      | ((with_reducible refine gate_dst (N := 4) rfl ?_); go_must (refine box_event ?hg (N := 4) ?hd (cs := mobj m A3 c3 A4 c4) (t := 54) ?hr ?_; (case hd => rfl); (case hg => rfl); (case hr => first | (go_simp; done) | (go_simp; rfl)); intro gb hg w1 hbox hb1; have hn1 := (hb1.block sb HNW.out).trans HR.out; have hnc : w1.cell? ⟨sb, 0, none⟩ = some (.int .i64 (x : Int)) := blk_cell hn1 0; have hnf : w1.frozen? ⟨sb, 0, none⟩ = false := blk_frozen hn1 0; have HBOX := Lib.hid hbox; have HB1 := Lib.hid hb1; have HN1 := Lib.hid hn1; have HG := Lib.hid hg; clear hbox hb1 hn1 hg))
      | ((with_reducible refine gate_store (t := 3) (p := 14) rfl ?_); go_must (refine store_event (t := 3) (p := 14) (v := .tmp 12) (w1 := w1.setCell ⟨sb, 0, none⟩ (.int .i64 ((x : Int) + 1))) ?hg ?ho ?hn ?hr ?_; (case ho => rfl); (case hg => rfl); (case hn => rfl); (case hr => first | (go_simp; done) | (go_simp; rfl)); intro w3 hw3; have HW3 := Lib.hid hw3; clear hw3)))
    have hgn : gb ≠ sb := by rw [HG.out]; have := HNW.out; omega
    obtain ⟨x1, hx1⟩ : ∃ x1, x + 1 = x1 := ⟨_, rfl⟩
    have hx2 : (x : Int) + 1 = (x1 : Int) := by omega
    have hs : LS w sb gb m A3 c3 A4 c4 x1 y false w3 := by
      rw [HW3.out]
      refine ⟨?_, (Below.heap_setCell _ ⟨sb, 0, none⟩ _ gb hgn).trans HBOX.out, (HB1.out.mono (Nat.le_of_lt HNW.out)).setCell (p := ⟨sb, 0, none⟩) (Nat.le_refl _) _, (Far.of_below (f := fun k => k = sb) HB1.out).setCell (f := fun k => k = sb) (p := ⟨sb, 0, none⟩) rfl _⟩
      rw [hx2]
      exact blk_put HN1.out 0 _ rfl
    obtain ⟨⟨c0, c1, c2, f0, f1, f2⟩, b0, b1, b2, b3, b4⟩ := hs.facts
    have HS := Lib.hid hs; have HGN := Lib.hid hgn; have HX1 := Lib.hid hx1
    clear hs hgn HBOX HN1 hnf hnc HW3 HB1 hx1 hx2
    have hd8 : (8 : Int) < 9 - ((d : Int) + 1) ↔ False := ⟨fun h => by omega, fun h => h.elim⟩
    by_cases hx3 : 64 < x1
    · have e0 : (64 : Int) < (x1 : Int) ↔ True := ⟨fun _ => trivial, fun _ => by omega⟩
      have HNO := Lib.hid (show ¬ okM (d + 1) (64 - x) (4096 - y) m from fun h => absurd (okM_room h).1 (by have := HX1.out; omega))
      clear hx3
      go_wp2_with ((with_reducible refine gate_store (t := 4) (p := 32) rfl ?_); go_must (refine store_event (t := 4) (p := 32) (v := .const (.bool true)) (w1 := World.setCell w3 ⟨sb, 2, none⟩ (.bool true)) ?hg ?ho ?hn ?hr ?_; (case ho => rfl); (case hg => rfl); (case hn => rfl); (case hr => first | (go_simp; done) | (go_simp; rfl)); intro w3 hw3; have hs := HS.out.flag HGN.out true; rw [← hw3] at hs; clear HS hw3; clear c0 c1 c2 f0 f1 f2 b0 b1 b2 b3 b4; obtain ⟨⟨c0, c1, c2, f0, f1, f2⟩, b0, b1, b2, b3, b4⟩ := hs.facts; have HS := Lib.hid hs; clear hs))
      (try simp only [Exit.inBlock, Exit.then]); refine bodyPost_ret (results_none rfl _ _ _) rfl ?_
      exact look_bad HNO.out HS.out
    · have e0 : (64 : Int) < (x1 : Int) ↔ False := ⟨fun h => by omega, fun h => h.elim⟩
      have HX3 := Lib.hid hx3
      clear hx3
      by_cases h0 : m.f0 = 0
      · have HOP := Lib.hid (op_none h0)
        have HBARE := Lib.hid (fun (w' : World) (hbw : Below sb w w') => varveref12_bare.calls m.f0 m.f1 m.f2 A3 c3 m.f3 A4 c4 m.f4 false false false _ w' (Kd.C_below HMK.out.g3 (HBM.out.trans (hbw.mono HSB.out))) HMK.out.l3 (Kd.C_below HMK.out.g4 (HBM.out.trans (hbw.mono HSB.out))) HMK.out.l4 (bare_none _ m))
        obtain ⟨q, hq⟩ : ∃ q, okOp m = q := ⟨_, rfl⟩
        have hq2 := HOP.out.symm.trans hq
        have HF4 := Lib.hid (show okOp m = true → m.f4.length = 0 from fun h => by rw [HOP.out] at h; simp only [Bool.and_eq_true, decide_eq_true_eq] at h; exact h.2)
        have HPL := Lib.hid (show okOp m = true → m.f1.size + m.f2.size + strsN m.f3 = 0 from fun h => by rw [HOP.out] at h; simp only [Bool.and_eq_true, decide_eq_true_eq] at h; exact plain_no h.1)
        rw [hq2] at HBARE
        rw [h0] at HBARE b0
        have HQ := Lib.hid hq
        clear hq hq2
        have H0 := Lib.hid h0
        clear h0
        go_wp2_with (first | (go_at_call 61; go_must (refine (HBARE.out _ (HS.out.bel)).mono ?_; rintro e w3 ⟨rfl, hb3⟩; have hs := HS.out.below hb3; clear HS; clear c0 c1 c2 f0 f1 f2 b0 b1 b2 b3 b4; obtain ⟨⟨c0, c1, c2, f0, f1, f2⟩, b0, b1, b2, b3, b4⟩ := hs.facts; rw [H0.out] at b0; have HS := Lib.hid hs; clear hs; clear hb3)) | ((with_reducible refine gate_store (t := 4) (p := 45) rfl ?_); go_must (refine store_event (t := 4) (p := 45) (v := .tmp 43) (w1 := World.setCell w3 ⟨sb, 2, none⟩ (.bool (!q))) ?hg ?ho ?hn ?hr ?_; (case ho => rfl); (case hg => rfl); (case hn => rfl); (case hr => first | (go_simp; done) | (go_simp; rfl)); intro w3 hw3; have hs := HS.out.flag HGN.out (!q); rw [← hw3] at hs; clear HS hw3; clear c0 c1 c2 f0 f1 f2 b0 b1 b2 b3 b4; obtain ⟨⟨c0, c1, c2, f0, f1, f2⟩, b0, b1, b2, b3, b4⟩ := hs.facts; rw [H0.out] at b0; have HS := Lib.hid hs; clear hs)))
        go_end0
        exact look_leaf (by have := HX3.out; have := HX1.out; omega) hy HF4.out (by rw [HQ.out]; constructor
                                                                                    · intro h; have hq : q = true := by simpa using h
                                                                                      exact ⟨hq, by rw [HPL.out (HQ.out.trans hq)]; omega⟩
                                                                                    · intro h; rw [h.1]; rfl) (fun h => by have hq : q = true := (by simpa using h); rw [HPL.out (HQ.out.trans hq)]; omega) HX1.out.symm HS.out
      · by_cases hB : m.f0 = 1 ∨ m.f0 = 2 ∨ m.f0 = 3
        · have HB := Lib.hid hB
          have HOP := Lib.hid (op_one hB)
          have HBARE := Lib.hid (fun (w' : World) (hbw : Below sb w w') => varveref12_bare.calls m.f0 m.f1 m.f2 A3 c3 m.f3 A4 c4 m.f4 true false false _ w' (Kd.C_below HMK.out.g3 (HBM.out.trans (hbw.mono HSB.out))) HMK.out.l3 (Kd.C_below HMK.out.g4 (HBM.out.trans (hbw.mono HSB.out))) HMK.out.l4 (bare_one _ m))
          obtain ⟨q1, hq1⟩ : ∃ q, (decide (m.f3.length = 0) && decide (m.f4.length = 0)) = q := ⟨_, rfl⟩
          obtain ⟨q2, hq2⟩ : ∃ q, nm m.f1 = q := ⟨_, rfl⟩
          obtain ⟨q3, hq3⟩ : ∃ q, decide (m.f2.size ≤ 64) = q := ⟨_, rfl⟩
          have HNM := Lib.hid (fun (w' : World) => varveref11_Name.calls (m.f1.size + 1) m.f1 q2 w' (by rw [rname_eq _ HWM.out.n _ (by omega), hq2]))
          rw [hq1] at HBARE
          have HQ := Lib.hid (show okOp m = (q1 && q2 && q3) by rw [HOP.out, hq1, hq2, hq3])
          have HL := Lib.hid (show q1 = true → m.f4.length = 0 ∧ strsN m.f3 = 0 from fun h => by rw [← hq1] at h; simp only [Bool.and_eq_true, decide_eq_true_eq] at h; exact ⟨h.2, by rw [List.eq_nil_of_length_eq_zero h.1]; rfl⟩)
          have HEND : Hid (∀ w' : World, LS w sb gb m A3 c3 A4 c4 x1 (txY (txY y m.f1) m.f2) (txB (txY y m.f1) (txB y (!(q1 && q2 && q3)) m.f1) m.f2) w' → LookPost (d + 1) x y m sb w (.returned (.tuple #[])) w') := Lib.hid (fun w' h => look_leaf (by have := HX3.out; have := HX1.out; omega) hy (fun h => by rw [HQ.out] at h; simp only [Bool.and_eq_true] at h; exact (HL.out h.1.1).1) (by rw [HQ.out]; exact leaf2 (fun h => (HL.out (by simp only [Bool.and_eq_true] at h; exact h.1.1)).2)) (fun h => leaf3 (fun h => (HL.out (by simp only [Bool.and_eq_true] at h; exact h.1.1)).2) h) HX1.out.symm h)
          have HV : Hid (q1 = false ∨ q1 = true ∧ q2 = false ∨ q1 = true ∧ q2 = true ∧ q3 = false ∧ ((64 : Int) < (m.f2.size : Int) ↔ True) ∨ q1 = true ∧ q2 = true ∧ q3 = true ∧ ((64 : Int) < (m.f2.size : Int) ↔ False)) := Lib.hid (by
            cases q1 <;> cases q2 <;> cases q3 <;> simp at hq3 ⊢ <;> omega)
          clear hq1 hq2 hq3 hB h0
          rcases HB.out with h | h | h <;> rcases HV.out with rfl | ⟨rfl, rfl⟩ | ⟨rfl, rfl, rfl, e3⟩ | ⟨rfl, rfl, rfl, e3⟩
          all_goals (rw [h] at HBARE b0; have H0 := Lib.hid h; clear h)
          all_goals go_wp2_with (first | (go_at_call 61; go_must (refine (HBARE.out _ (HS.out.bel)).mono ?_; rintro e w3 ⟨rfl, hb3⟩; have hs := HS.out.below hb3; clear HS; clear c0 c1 c2 f0 f1 f2 b0 b1 b2 b3 b4; obtain ⟨⟨c0, c1, c2, f0, f1, f2⟩, b0, b1, b2, b3, b4⟩ := hs.facts; rw [H0.out] at b0; have HS := Lib.hid hs; clear hs; clear hb3)) | (go_at_call 38; go_must (refine (HNM.out _).mono ?_; rintro e w3 ⟨rfl, hd3⟩; have hs := HS.out.below hd3.below; clear HS; clear c0 c1 c2 f0 f1 f2 b0 b1 b2 b3 b4; obtain ⟨⟨c0, c1, c2, f0, f1, f2⟩, b0, b1, b2, b3, b4⟩ := hs.facts; rw [H0.out] at b0; have HS := Lib.hid hs; clear hs; clear hd3)) | ((with_reducible refine gate_store (t := 4) (p := 67) rfl ?_); (refine store_event (t := 4) (p := 67) (v := .tmp 65) (w1 := World.setCell w3 ⟨sb, 2, none⟩ (.bool true)) ?hg ?ho ?hn ?hr ?_; (case ho => rfl); (case hg => rfl); (case hn => rfl); (case hr => first | (go_simp; done) | (go_simp; rfl)); intro w3 hw3; have hs := HS.out.flag HGN.out true; rw [← hw3] at hs; clear HS hw3; clear c0 c1 c2 f0 f1 f2 b0 b1 b2 b3 b4; obtain ⟨⟨c0, c1, c2, f0, f1, f2⟩, b0, b1, b2, b3, b4⟩ := hs.facts; rw [H0.out] at b0; have HS := Lib.hid hs; clear hs)) | ((with_reducible refine gate_store (t := 4) (p := 67) rfl ?_); go_must (refine store_event (t := 4) (p := 67) (v := .tmp 65) (w1 := World.setCell w3 ⟨sb, 2, none⟩ (.bool false)) ?hg ?ho ?hn ?hr ?_; (case ho => rfl); (case hg => rfl); (case hn => rfl); (case hr => first | (go_simp; done) | (go_simp; rfl)); intro w3 hw3; have hs := HS.out.flag HGN.out false; rw [← hw3] at hs; clear HS hw3; clear c0 c1 c2 f0 f1 f2 b0 b1 b2 b3 b4; obtain ⟨⟨c0, c1, c2, f0, f1, f2⟩, b0, b1, b2, b3, b4⟩ := hs.facts; rw [H0.out] at b0; have HS := Lib.hid hs; clear hs)) | (go_at_call 62; go_must (refine (text_u (by first | exact hy | exact txY_le hy | assumption) (by first | exact HWM.out.n | exact HWM.out.v | exact HVZ.out) HS.out.room).mono ?_; rintro e w3 ⟨rfl, hr3, hb3, hf3⟩; have hs := HS.out.step HGN.out hr3 hb3 hf3; clear HS; clear c0 c1 c2 f0 f1 f2 b0 b1 b2 b3 b4; obtain ⟨⟨c0, c1, c2, f0, f1, f2⟩, b0, b1, b2, b3, b4⟩ := hs.facts; rw [H0.out] at b0; have HS := Lib.hid hs; clear hs; clear hr3 hb3 hf3)))
          all_goals (go_end0; exact HEND.out _ HS.out)
        · by_cases hC : m.f0 = 4
          · have HC := Lib.hid hC
            have HOP := Lib.hid (op_many hC)
            have HBARE := Lib.hid (fun (w' : World) (hbw : Below sb w w') => varveref12_bare.calls m.f0 m.f1 m.f2 A3 c3 m.f3 A4 c4 m.f4 false true false _ w' (Kd.C_below HMK.out.g3 (HBM.out.trans (hbw.mono HSB.out))) HMK.out.l3 (Kd.C_below HMK.out.g4 (HBM.out.trans (hbw.mono HSB.out))) HMK.out.l4 (bare_many _ m))
            obtain ⟨q1, hq1⟩ : ∃ q, (decide (m.f2 = emp) && decide (m.f4.length = 0)) = q := ⟨_, rfl⟩
            obtain ⟨q2, hq2⟩ : ∃ q, nm m.f1 = q := ⟨_, rfl⟩
            obtain ⟨q3, hq3⟩ : ∃ q, valsB m.f3 = q := ⟨_, rfl⟩
            have HNM := Lib.hid (fun (w' : World) => varveref11_Name.calls (m.f1.size + 1) m.f1 q2 w' (by rw [rname_eq _ HWM.out.n _ (by omega), hq2]))
            have HVS := Lib.hid (fun (w' : World) (hbw : Below sb w w') => varveref12_values.calls 40 A3 c3 m.f3 q3 w' (Kd.C_below HMK.out.g3 (HBM.out.trans (hbw.mono HSB.out))) HMK.out.l3 (by rw [rvalues_eq _ _ (Nat.le_refl _), hq3]))
            rw [hq1] at HBARE
            have hq := (show okOp m = (q1 && q2 && q3) by rw [HOP.out, hq1, hq2, hq3])
            have hl := (show q1 = true → m.f2.size = 0 ∧ m.f4.length = 0 from fun h => by rw [← hq1] at h; simp only [Bool.and_eq_true, decide_eq_true_eq] at h; exact ⟨by rw [h.1]; rfl, h.2⟩)
            have HVAL := Lib.hid (val_start (y := y) hq hy (fun h => by simp only [Bool.and_eq_true] at h; exact (hl h.1.1).1))
            have HF4 := Lib.hid (show okOp m = true → m.f4.length = 0 from fun h => by rw [hq] at h; simp only [Bool.and_eq_true] at h; exact (hl h.1.1).2)
            have HV : Hid (q1 = false ∨ q1 = true ∧ q2 = false ∨ q1 = true ∧ q2 = true) := Lib.hid (by cases q1 <;> cases q2 <;> simp)
            clear hq hl hq1 hq2 hq3 hC hB h0
            rcases HV.out with rfl | ⟨rfl, rfl⟩ | ⟨rfl, rfl⟩
            all_goals (rw [HC.out] at HBARE b0; clear HV)
            all_goals go_upto_region 17 with (first | (go_at_call 61; go_must (refine (HBARE.out _ (HS.out.bel)).mono ?_; rintro e w3 ⟨rfl, hb3⟩; have hs := HS.out.below hb3; clear HS; clear c0 c1 c2 f0 f1 f2 b0 b1 b2 b3 b4; obtain ⟨⟨c0, c1, c2, f0, f1, f2⟩, b0, b1, b2, b3, b4⟩ := hs.facts; rw [HC.out] at b0; have HS := Lib.hid hs; clear hs; clear hb3)) | (go_at_call 38; go_must (refine (HNM.out _).mono ?_; rintro e w3 ⟨rfl, hd3⟩; have hs := HS.out.below hd3.below; clear HS; clear c0 c1 c2 f0 f1 f2 b0 b1 b2 b3 b4; obtain ⟨⟨c0, c1, c2, f0, f1, f2⟩, b0, b1, b2, b3, b4⟩ := hs.facts; rw [HC.out] at b0; have HS := Lib.hid hs; clear hs; clear hd3)) | (go_at_call 63; go_must (refine (HVS.out _ (HS.out.bel)).mono ?_; rintro e w3 ⟨rfl, hd3⟩; have hs := HS.out.below hd3.below; clear HS; clear c0 c1 c2 f0 f1 f2 b0 b1 b2 b3 b4; obtain ⟨⟨c0, c1, c2, f0, f1, f2⟩, b0, b1, b2, b3, b4⟩ := hs.facts; rw [HC.out] at b0; have HS := Lib.hid hs; clear hs; clear hd3)) | ((with_reducible refine gate_store (t := 4) (p := 95) rfl ?_); (refine store_event (t := 4) (p := 95) (v := .tmp 93) (w1 := World.setCell w3 ⟨sb, 2, none⟩ (.bool true)) ?hg ?ho ?hn ?hr ?_; (case ho => rfl); (case hg => rfl); (case hn => rfl); (case hr => first | (go_simp; done) | (go_simp; rfl)); intro w3 hw3; have hs := HS.out.flag HGN.out true; rw [← hw3] at hs; clear HS hw3; clear c0 c1 c2 f0 f1 f2 b0 b1 b2 b3 b4; obtain ⟨⟨c0, c1, c2, f0, f1, f2⟩, b0, b1, b2, b3, b4⟩ := hs.facts; rw [HC.out] at b0; have HS := Lib.hid hs; clear hs)) | ((with_reducible refine gate_store (t := 4) (p := 95) rfl ?_); go_must (refine store_event (t := 4) (p := 95) (v := .tmp 93) (w1 := World.setCell w3 ⟨sb, 2, none⟩ (.bool (!q3))) ?hg ?ho ?hn ?hr ?_; (case ho => rfl); (case hg => rfl); (case hn => rfl); (case hr => first | (go_simp; done) | (go_simp; rfl)); intro w3 hw3; have hs := HS.out.flag HGN.out (!q3); rw [← hw3] at hs; clear HS hw3; clear c0 c1 c2 f0 f1 f2 b0 b1 b2 b3 b4; obtain ⟨⟨c0, c1, c2, f0, f1, f2⟩, b0, b1, b2, b3, b4⟩ := hs.facts; rw [HC.out] at b0; have HS := Lib.hid hs; clear hs)) | (go_at_call 62; go_must (refine (text_u (by first | exact hy | exact txY_le hy | assumption) (by first | exact HWM.out.n | exact HWM.out.v | exact HVZ.out) HS.out.room).mono ?_; rintro e w3 ⟨rfl, hr3, hb3, hf3⟩; have hs := HS.out.step HGN.out hr3 hb3 hf3; clear HS; clear c0 c1 c2 f0 f1 f2 b0 b1 b2 b3 b4; obtain ⟨⟨c0, c1, c2, f0, f1, f2⟩, b0, b1, b2, b3, b4⟩ := hs.facts; rw [HC.out] at b0; have HS := Lib.hid hs; clear hs; clear hr3 hb3 hf3)))
            all_goals go_wp2
            all_goals (go_loopw [6] (fun v6 wk => ∃ (i y' : Nat) (bad : Bool), i ≤ m.f3.length ∧ v6 = .int .i64 (i : Int) ∧ ValRel m y i y' bad ∧ LS w sb gb m A3 c3 A4 c4 x1 y' bad wk) (fun v6 _ => m.f3.length - (intOf v6).toNat))
            all_goals first | (case atStart => exact ⟨0, _, _, Nat.zero_le _, rfl, HVAL.out, HS.out⟩) | skip
            all_goals
              obtain ⟨i, y', bad, hi, rfl, hrl, hs⟩ := hrel
              clear c0 c1 c2 f0 f1 f2 b0 b1 b2 b3 b4
              obtain ⟨⟨c0, c1, c2, f0, f1, f2⟩, b0, b1, b2, b3, b4⟩ := hs.facts
              rw [HC.out] at b0
              clear HS
              have HS := Lib.hid hs; have HRL := Lib.hid hrl
              clear hs hrl
              by_cases hil : i < m.f3.length
              · have e1 : decide ((i : Int) < (m.f3.length : Int)) = true := decide_eq_true (by omega)
                have e2 : decide (i < m.f3.length) = true := decide_eq_true hil
                cases bad
                · obtain ⟨ad, rfl, hsv⟩ := Kd.at_string (Kd.C_below HMK.out.g3 (HBM.out.trans (HS.out.bel.mono HSB.out))) (i : Int) (by omega) (by omega)
                  rw [Int.toNat_natCast] at hsv
                  obtain ⟨s, hse⟩ : ∃ s, rdOf ByteArray.empty m.f3 (i : Int) = s := ⟨_, rfl⟩
                  have HVZ := Lib.hid (show s.size ≤ 140737488351232 by rw [← hse]; exact str_mem_size HWM.out.s hil)
                  rw [hse] at hsv
                  have HSE := Lib.hid hse
                  have hy' : y' ≤ 4096 := (HRL.out.1 rfl).2.2
                  clear hse
                  go_wp2_with (go_at_call 62; go_must (refine (text_u (by first | exact hy | exact txY_le hy | assumption) (by first | exact HWM.out.n | exact HWM.out.v | exact HVZ.out) HS.out.room).mono ?_; rintro e w3 ⟨rfl, hr3, hb3, hf3⟩; have hs := HS.out.step HGN.out hr3 hb3 hf3; clear HS; clear c0 c1 c2 f0 f1 f2 b0 b1 b2 b3 b4; obtain ⟨⟨c0, c1, c2, f0, f1, f2⟩, b0, b1, b2, b3, b4⟩ := hs.facts; rw [HC.out] at b0; have HS := Lib.hid hs; clear hs; clear hr3 hb3 hf3))
                  go_roundw
                  case rel => exact ⟨i + 1, _, _, hil, by simp, val_step HRL.out hy hil HSE.out, HS.out⟩
                  case measure => simp [intOf]; omega
                · have HEND := Lib.hid (val_end HRL.out hy (fun h => absurd h (by simp)))
                  go_wp2
                  go_end0
                  exact look_leaf (by have := HX3.out; have := HX1.out; omega) hy HF4.out HEND.out.1 HEND.out.2 HX1.out.symm HS.out
              · have e1 : decide ((i : Int) < (m.f3.length : Int)) = false := decide_eq_false (by omega)
                have e2 : decide (i < m.f3.length) = false := decide_eq_false hil
                have HEND := Lib.hid (val_end HRL.out hy (fun _ => by omega))
                go_wp2
                go_end0
                exact look_leaf (by have := HX3.out; have := HX1.out; omega) hy HF4.out HEND.out.1 HEND.out.2 HX1.out.symm HS.out
          · by_cases hD : m.f0 = 5 ∨ m.f0 = 6 ∨ m.f0 = 7
            · have HOP := Lib.hid (op_kids hD)
              have HBARE := Lib.hid (fun (w' : World) (hbw : Below sb w w') => varveref12_bare.calls m.f0 m.f1 m.f2 A3 c3 m.f3 A4 c4 m.f4 false false true _ w' (Kd.C_below HMK.out.g3 (HBM.out.trans (hbw.mono HSB.out))) HMK.out.l3 (Kd.C_below HMK.out.g4 (HBM.out.trans (hbw.mono HSB.out))) HMK.out.l4 (bare_kids _ m))
              obtain ⟨q1, hq1⟩ : ∃ q, plainB m = q := ⟨_, rfl⟩
              obtain ⟨Q, hQ⟩ : ∃ q, okOp m = q := ⟨_, rfl⟩
              rw [hq1] at HBARE
              have HKR := Lib.hid (k_start (d := d) (m := m) (q := Q) hQ (by have := HX3.out; have := HX1.out; omega) hy (fun h => by rw [HOP.out, hq1] at hQ; rw [h] at hQ; simp only [Bool.and_eq_true] at hQ; exact plain_no (hq1.trans hQ.1)) HX1.out)
              have HV : Hid (m.f0 = 5 ∧ q1 = false ∧ Q = false ∨ m.f0 = 5 ∧ q1 = true ∧ Q = true ∨ m.f0 = 6 ∧ q1 = false ∧ Q = false ∨ m.f0 = 6 ∧ q1 = true ∧ Q = true ∨ m.f0 = 7 ∧ q1 = false ∧ Q = false ∨ m.f0 = 7 ∧ q1 = true ∧ Q = true ∧ (((m.f4.length : Int) != 1) = false) ∨ m.f0 = 7 ∧ q1 = true ∧ Q = false ∧ (((m.f4.length : Int) != 1) = true)) := Lib.hid (by
                have h := HOP.out
                rw [hQ, hq1] at h
                rcases hD with h7 | h7 | h7
                · rw [h7] at h ⊢; cases q1 <;> simp at h <;> simp [h]
                · rw [h7] at h ⊢; cases q1 <;> simp at h <;> simp [h]
                · rw [h7] at h ⊢
                  by_cases hl : m.f4.length = 1
                  · have hl2 : (m.f4.length : Int) = 1 := by omega
                    cases q1 <;> simp [hl] at h <;> simp [h, hl2]
                  · have hl2 : ¬ (m.f4.length : Int) = 1 := by omega
                    cases q1 <;> simp [hl] at h <;> simp [h, hl2])
              clear hq1 hQ hD hC hB h0
              rcases HV.out with ⟨h, rfl, rfl⟩ | ⟨h, rfl, rfl⟩ | ⟨h, rfl, rfl⟩ | ⟨h, rfl, rfl⟩ | ⟨h, rfl, rfl⟩ | ⟨h, rfl, rfl, e3⟩ | ⟨h, rfl, rfl, e3⟩
              all_goals (rw [h] at HBARE b0; clear HV; have H0 := Lib.hid h; clear h)
              all_goals go_upto_region 25 with (first | (go_at_call 61; go_must (refine (HBARE.out _ (HS.out.bel)).mono ?_; rintro e w3 ⟨rfl, hb3⟩; have hs := HS.out.below hb3; clear HS; clear c0 c1 c2 f0 f1 f2 b0 b1 b2 b3 b4; obtain ⟨⟨c0, c1, c2, f0, f1, f2⟩, b0, b1, b2, b3, b4⟩ := hs.facts; rw [H0.out] at b0; have HS := Lib.hid hs; clear hs; clear hb3)) | ((with_reducible refine gate_store (t := 4) (p := 141) rfl ?_); (refine store_event (t := 4) (p := 141) (v := .tmp 139) (w1 := World.setCell w3 ⟨sb, 2, none⟩ (.bool true)) ?hg ?ho ?hn ?hr ?_; (case ho => rfl); (case hg => rfl); (case hn => rfl); (case hr => first | (go_simp; done) | (go_simp; rfl)); intro w3 hw3; have hs := HS.out.flag HGN.out true; rw [← hw3] at hs; clear HS hw3; clear c0 c1 c2 f0 f1 f2 b0 b1 b2 b3 b4; obtain ⟨⟨c0, c1, c2, f0, f1, f2⟩, b0, b1, b2, b3, b4⟩ := hs.facts; rw [H0.out] at b0; have HS := Lib.hid hs; clear hs)) | ((with_reducible refine gate_store (t := 4) (p := 141) rfl ?_); go_must (refine store_event (t := 4) (p := 141) (v := .tmp 139) (w1 := World.setCell w3 ⟨sb, 2, none⟩ (.bool false)) ?hg ?ho ?hn ?hr ?_; (case ho => rfl); (case hg => rfl); (case hn => rfl); (case hr => first | (go_simp; done) | (go_simp; rfl)); intro w3 hw3; have hs := HS.out.flag HGN.out false; rw [← hw3] at hs; clear HS hw3; clear c0 c1 c2 f0 f1 f2 b0 b1 b2 b3 b4; obtain ⟨⟨c0, c1, c2, f0, f1, f2⟩, b0, b1, b2, b3, b4⟩ := hs.facts; rw [H0.out] at b0; have HS := Lib.hid hs; clear hs)))
              all_goals go_wp2
              all_goals (go_loopw [7] (fun v7 wk => ∃ (j x' y' : Nat) (bad : Bool), j ≤ m.f4.length ∧ v7 = .int .i64 (j : Int) ∧ KRel d m x y j x' y' bad ∧ LS w sb gb m A3 c3 A4 c4 x' y' bad wk) (fun v7 _ => m.f4.length - (intOf v7).toNat))
              all_goals first | (case atStart => exact ⟨0, _, _, _, Nat.zero_le _, rfl, HKR.out, HS.out⟩) | skip
              all_goals
                obtain ⟨j, x', y', bad, hj, rfl, hrl, hs⟩ := hrel
                clear c0 c1 c2 f0 f1 f2 b0 b1 b2 b3 b4
                obtain ⟨⟨c0, c1, c2, f0, f1, f2⟩, b0, b1, b2, b3, b4⟩ := hs.facts
                rw [H0.out] at b0
                clear HS
                have HS := Lib.hid hs; have HRL := Lib.hid hrl
                clear hs hrl
                by_cases hjl : j < m.f4.length
                · have e1 : decide ((j : Int) < (m.f4.length : Int)) = true := decide_eq_true (by omega)
                  have e2 : decide (j < m.f4.length) = true := decide_eq_true hjl
                  cases bad
                  · obtain ⟨ad, K3, q3, K4, q4, rfl, hkm, k0, k1, k2, k3, k4⟩ := kid_at HMK.out.g4 j hjl
                    have hbm : Below wm.heap.size wm wr := HBM.out.trans (HS.out.bel.mono HSB.out)
                    replace k0 := (hbm.cell (World.block_lt_of_cell? wm _ k0)).trans k0
                    replace k1 := (hbm.cell (World.block_lt_of_cell? wm _ k1)).trans k1
                    replace k2 := (hbm.cell (World.block_lt_of_cell? wm _ k2)).trans k2
                    replace k3 := (hbm.cell (World.block_lt_of_cell? wm _ k3)).trans k3
                    replace k4 := (hbm.cell (World.block_lt_of_cell? wm _ k4)).trans k4
                    have hkw := HWM.out.k _ (kid_mem hjl)
                    obtain ⟨z, hz⟩ : ∃ z, rd_T54 m.f4 (j : Int) = z := ⟨_, rfl⟩
                    rw [hz] at hkm k0 k1 k2 k3 k4 hkw
                    have HZ := Lib.hid hz
                    obtain ⟨g1, g2, g3, -⟩ := HRL.out.1 rfl
                    have HCALL := Lib.hid (HIH.out () hkm hkw hbm HSB.out g2 g3 HS.out.room)
                    clear hkm hkw hbm hz g1 g2 g3
                    go_wp2_with (go_at_call 49; go_must (refine HCALL.out.mono ?_; rintro e w5 ⟨x5, y5, bad5, rfl, hiff5, hv5, hr5, hb5, hf5⟩; have hs := HS.out.step HGN.out hr5 hb5 hf5; clear HS; have HS := Lib.hid hs; have HIFF := Lib.hid hiff5; have HV5 := Lib.hid hv5; clear hs hiff5 hv5 hr5 hb5 hf5))
                    go_roundw
                    case rel => exact ⟨j + 1, _, _, _, hjl, by simp, k_step HRL.out hjl HZ.out HIFF.out HV5.out, HS.out⟩
                    case measure => simp [intOf]; omega
                  · have HEND := Lib.hid (k_end HRL.out hx hy (fun h => absurd h (by simp)) HS.out)
                    go_wp2
                    go_end0
                    exact HEND.out
                · have e1 : decide ((j : Int) < (m.f4.length : Int)) = false := decide_eq_false (by omega)
                  have e2 : decide (j < m.f4.length) = false := decide_eq_false hjl
                  have HEND := Lib.hid (k_end HRL.out hx hy (fun _ => by omega) HS.out)
                  go_wp2
                  go_end0
                  exact HEND.out
            · have HNO := Lib.hid (show ¬ okM (d + 1) (64 - x) (4096 - y) m from fun c => by have := okM_op c; rw [op_else ⟨h0, by omega, by omega, by omega, hC, by omega, by omega, by omega⟩] at this; cases this)
              obtain ⟨o, ho⟩ : ∃ o, m.f0 = o := ⟨_, rfl⟩
              rw [ho] at h0 hB hC hD b0
              have t0 : (o == (0 : Int)) = false := by rw [beq_eq_false_iff_ne]; omega
              have t1 : (o == (1 : Int)) = false := by rw [beq_eq_false_iff_ne]; omega
              have t2 : (o == (2 : Int)) = false := by rw [beq_eq_false_iff_ne]; omega
              have t3 : (o == (3 : Int)) = false := by rw [beq_eq_false_iff_ne]; omega
              have t4 : (o == (4 : Int)) = false := by rw [beq_eq_false_iff_ne]; omega
              have t5 : (o == (5 : Int)) = false := by rw [beq_eq_false_iff_ne]; omega
              have t6 : (o == (6 : Int)) = false := by rw [beq_eq_false_iff_ne]; omega
              have t7 : (o == (7 : Int)) = false := by rw [beq_eq_false_iff_ne]; omega
              have HO := Lib.hid ho
              clear h0 hB hC hD ho
              go_wp2_with ((with_reducible refine gate_store (t := 4) (p := 37) rfl ?_); go_must (refine store_event (t := 4) (p := 37) (v := .const (.bool true)) (w1 := World.setCell w3 ⟨sb, 2, none⟩ (.bool true)) ?hg ?ho ?hn ?hr ?_; (case ho => rfl); (case hg => rfl); (case hn => rfl); (case hr => first | (go_simp; done) | (go_simp; rfl)); intro w3 hw3; have hs := HS.out.flag HGN.out true; rw [← hw3] at hs; clear HS hw3; clear c0 c1 c2 f0 f1 f2 b0 b1 b2 b3 b4; obtain ⟨⟨c0, c1, c2, f0, f1, f2⟩, b0, b1, b2, b3, b4⟩ := hs.facts; have HS := Lib.hid hs; clear hs))
              go_end0
              exact look_bad HNO.out HS.out
end Go.Proofs.Ytlkhdbfhnpbbhaa
namespace Go.Proofs.Ytlkhdbfhnpbbhaa
set_option linter.unusedVariables false
set_option linter.unusedSimpArgs false
open Go.RowKit Go.Proofs.YtlkhdbfhnpbbhaaW.PrintWords Go.Proofs.YtlkhdbfhnpbbhaaW.PrintLast Go.Proofs.YtlkhdbfhnpbbhaaW.PrintMore Go.Proofs.Ytlkhdbfhnpbbhaa.Ix Go.Proofs.Ytlkhdbfhnpbbhaa.Tx Go.Proofs.Ytlkhdbfhnpbbhaa.Mx Go.Proofs.Ytlkhdbfhnpbbhaa.Pure
set_option maxRecDepth 100000 in
set_option maxHeartbeats 8000000 in
theorem rmcheck_u {w : World} {m : MT} {A3 A4 : Option Addr} {c3 c4 : Nat} (hmk : MK w m A3 c3 A4 c4) (hwm : WM m) :
    Calls Try.prog 28 #[mval m A3 c3 A4 c4] w fun e w' => e = .returned (.bool (decide (okM 8 64 4096 m))) ∧ Below w.heap.size w w' := by
  have HMK := Lib.hid hmk; have HWM := Lib.hid hwm
  have hz : (1 : Int) = 9 - ((8 : Nat) : Int) := by decide
  clear hmk hwm
  go_enter Try.func28, Try.ntmps28
  have HZ := Lib.hid hz
  clear hz
  go_wp2_with (first
    | ((with_reducible refine gate_dst (N := 1) rfl ?_); go_must (refine box_event ?hg (N := 1) ?hd (cs := mobj m A3 c3 A4 c4) (t := 54) ?hr ?_; (case hd => rfl); (case hg => rfl); (case hr => first | (go_simp; done) | (go_simp; rfl)); intro gb hg w1 hbox hb1; obtain ⟨b0, b1, b2, b3, b4⟩ := box5 hbox; have HBOX := Lib.hid hbox; have HB1 := Lib.hid hb1; have HG := Lib.hid hg; clear hbox hb1 hg))
    | ((with_reducible refine gate_dst (N := 5) rfl ?_); go_must (refine box_event ?hg (N := 5) ?hd (cs := scells 0 0 false) (t := 84) ?hr ?_; (case hd => rfl); (case hg => rfl); (case hr => first | (go_simp; done) | (go_simp; rfl)); intro rb hr2 w2 hroom hb2; have hbox2 := (hb2.block gb (Array.getElem?_eq_some_iff.1 HBOX.out).1).trans HBOX.out; clear b0 b1 b2 b3 b4; obtain ⟨b0, b1, b2, b3, b4⟩ := box5 hbox2; have HRB := Lib.hid (show w.heap.size ≤ rb by rw [hr2]; exact HB1.out.size); have HB2 := Lib.hid (HB1.out.trans (hb2.mono HB1.out.size)); have HC := Lib.hid (look_u 8 (Nat.le_refl _) HMK.out HWM.out HB2.out HRB.out (Nat.zero_le 64) (Nat.zero_le 4096) hroom); rw [← HZ.out] at HC; clear hroom hb2 hr2 hbox2))
    | (go_at_call 49; go_must (refine HC.out.mono ?_; rintro e w5 ⟨x5, y5, bad5, rfl, hiff, -, hr5, hb5, -⟩; obtain ⟨c0, c1, c2, -, -, -⟩ := sz3 hr5; have HIFF := Lib.hid hiff; have HB5 := Lib.hid (HB2.out.trans (hb5.mono HRB.out)); clear hb5 hiff hr5 b0 b1 b2 b3 b4)))
  go_ret
  refine ⟨?_, HB5.out⟩
  rw [show decide (okM 8 64 4096 m) = !bad5 by rw [Bool.eq_iff_iff, decide_eq_true_iff]; simp only [Bool.not_eq_true']; exact HIFF.out.symm]
  rfl
end Go.Proofs.Ytlkhdbfhnpbbhaa
namespace Go.Proofs.Ytlkhdbfhnpbbhaa
set_option linter.unusedVariables false
set_option linter.unusedSimpArgs false
open Go.RowKit Go.ChangeShapes Go.WideShapes Go.Deep Go.Proofs.YtlkhdbfhnpbbhaaW.PrintWords Go.Proofs.YtlkhdbfhnpbbhaaW.PrintLast Go.Proofs.YtlkhdbfhnpbbhaaW.PrintMore Go.Proofs.Ytlkhdbfhnpbbhaa.Ix Go.Proofs.Ytlkhdbfhnpbbhaa.Tx Go.Proofs.Ytlkhdbfhnpbbhaa.Mx Go.Proofs.Ytlkhdbfhnpbbhaa.Pure
/-- As Opens, where what is told is smaller than N. -/
def OpensB {α : Type} (N : Nat) (P : Program) (t : TypeId) (k : Kd α) (wf : α → Prop) : Prop :=
  ∀ {H : Type} {enc : TypeId × Value → H} {w : World} {base : Nat} {spare : Nat → Bool} {held : Bool} {fuel : Nat} {cs : List Value} {x : DataW H × List MemPlace},
    DataW.trod enc P w base spare held fuel t cs = some x → SizeOf.sizeOf x.1 < N → (∀ n ∈ x.1.weights P t, n ≤ reachBytes) → ∃ y, k.K w y cs ∧ wf y
theorem slice_size {H : Type} (a b : List (DataW H)) {d : DataW H} (h : d ∈ a) : SizeOf.sizeOf d < SizeOf.sizeOf (DataW.slice a b) := by
  have := List.sizeOf_lt_of_mem h
  simp only [DataW.slice.sizeOf_spec]; omega
theorem agg_size {H : Type} (a : List (DataW H)) {d : DataW H} (h : d ∈ a) : SizeOf.sizeOf d < SizeOf.sizeOf (DataW.agg a) := by
  have := List.sizeOf_lt_of_mem h
  simp only [DataW.agg.sizeOf_spec]; omega
section
variable {P : Program} {t e : TypeId}
theorem opens_B {α : Type} {k : Kd α} {wf : α → Prop} (h : Opens P t k wf) (N : Nat) : OpensB N P t k wf := fun hx _ hs => h hx hs
/-- A slice, of elements of any kind. -/
theorem opensB_slice {N : Nat} {α : Type} {d : Kd α} {wf : α → Prop} {B : Nat} (ht : P.underlying t = some (.slice e)) (hc : P.cellsOf e = d.sz) (hB : P.bytesOf e = B) (he : OpensB N P e d wf) :
    OpensB N P t (Kd.slice e d) (fun xs => xs.length * B ≤ 140737488351232 ∧ xs.length ≤ 9223372036854775807 ∧ ∀ x ∈ xs, wf x) := by
  intro H enc w base spare held fuel cs x h hN hs
  rcases open_slice ht h with ⟨rfl, rfl⟩ | ⟨a, len, cap, m, n, D, Pl, rfl, hb, hl, hm, hmm, rfl, hi⟩
  · exact ⟨[], ⟨none, 0, rfl, Nat.le_refl _, Kd.C_nil d w⟩, by simp, by simp, by simp⟩
  · have hlm : len ≤ m := by rw [hmm]; split <;> omega
    have each : ∀ i, i < len → ∃ y cs', w.cells? base (a.add (i * P.cellsOf e)) (P.cellsOf e) = some cs' ∧ d.K w y cs' ∧ wf y := fun i hil => by
      obtain ⟨cs', h1, h2⟩ := hi i (by omega)
      obtain ⟨y, h3, h4⟩ := he h2 (Nat.lt_of_le_of_lt (Nat.le_of_lt (slice_size _ _ (List.mem_map.2 ⟨i, List.mem_range.2 hil, rfl⟩))) hN) (fun n hn => hs n (by
        rw [DataW.weights, ht]
        refine List.mem_cons_of_mem _ (List.mem_append_left _ (weightsAll_mem (d := D i) ?_ n hn))
        exact List.mem_map.2 ⟨i, List.mem_range.2 hil, rfl⟩))
      exact ⟨y, cs', h1, h3, h4⟩
    have mk : ∀ k, k ≤ len → ∃ ys : List α, ys.length = k ∧ ∀ i y, ys[i]? = some y → ∃ cs', w.cells? base (a.add (i * P.cellsOf e)) (P.cellsOf e) = some cs' ∧ d.K w y cs' ∧ wf y := by
      intro k
      induction k with
      | zero => intro _; exact ⟨[], rfl, fun i y hy => by simp at hy⟩
      | succ k ih =>
        intro hk
        obtain ⟨ys, h1, h2⟩ := ih (by omega)
        obtain ⟨y, cs', hy⟩ := each k (by omega)
        refine ⟨ys ++ [y], by simp [h1], fun i z hz => ?_⟩
        by_cases c : i < k
        · rw [List.getElem?_append_left (by omega)] at hz
          exact h2 i z hz
        · have hik : i = k := by
            have := (List.getElem?_eq_some_iff.1 hz).1
            rw [List.length_append, List.length_singleton] at this
            omega
          subst hik
          rw [List.getElem?_append_right (by omega), h1, Nat.sub_self, List.getElem?_cons_zero, Option.some.injEq] at hz
          subst hz
          exact ⟨cs', hy⟩
    obtain ⟨ys, h1, h2⟩ := mk len (Nat.le_refl _)
    have hmx : maxLen = 9223372036854775807 := rfl
    refine ⟨ys, ⟨some a, cap, by rw [h1], by omega, ?_⟩, ?_, by omega, fun y hy => ?_⟩
    · refine ⟨rfl, by omega, fun _ => ⟨a, rfl, fun j p hp => ?_⟩⟩
      obtain ⟨cs', h3, h4, _⟩ := h2 j p hp
      obtain ⟨_, hlen, hcell⟩ := World.cells?_some h3
      refine ⟨cs', by rw [hlen, hc], h4, fun i u hu => ?_⟩
      have hil := (List.getElem?_eq_some_iff.1 hu).1
      rw [← hc, ← Go.Deep.add_add, hcell i (by omega)]
      exact hu
    · have := hs ((((List.range len).map D).length + ((List.range (m - len)).map fun j => D (len + j)).length) * P.bytesOf e) (by rw [DataW.weights, ht]; exact List.mem_cons_self ..)
      rw [hB, List.length_map, List.length_range, List.length_map, List.length_range] at this
      rw [h1]
      refine Nat.le_trans (Nat.mul_le_mul_right B (Nat.le_add_right len _)) this
    · obtain ⟨i, hi'⟩ := List.mem_iff_getElem?.1 hy
      obtain ⟨_, _, _, h5⟩ := h2 i y hi'
      exact h5
/-- The fields of a struct from a place on: each of its own kind, one behind another. -/
def OpensFieldsB {α : Type} (N : Nat) (P : Program) : List Field → Nat → Kd α → (α → Prop) → Prop := fun fs off k wf =>
  ∀ {H : Type} {enc : TypeId × Value → H} {w : World} {base : Nat} {spare : Nat → Bool} {held : Bool} {fuel : Nat} {cs : List Value} {xs : List (DataW H × List MemPlace)},
    (∀ (i : Nat) (f : Field), fs[i]? = some f → DataW.trod enc P w base spare held fuel f.type ((cs.drop f.offset).take (P.cellsOf f.type)) = xs[i]?) → xs.length = fs.length → cs.length = off + k.sz → (∀ x ∈ xs, SizeOf.sizeOf x.1 < N) →
    (∀ n ∈ DataW.weightsEach P (fs.map (·.type)) (xs.map (·.1)), n ≤ reachBytes) → ∃ y, k.K w y (cs.drop off) ∧ wf y
theorem opensFieldsB_one {N : Nat} {α : Type} {f : Field} {off : Nat} {k : Kd α} {wf : α → Prop} (ho : f.offset = off) (hc : P.cellsOf f.type = k.sz) (h : OpensB N P f.type k wf) : OpensFieldsB N P [f] off k wf := by
  intro H enc w base spare held fuel cs xs hx hl hcs hN hs
  obtain ⟨x, rfl⟩ : ∃ x, xs = [x] := by
    cases xs with
    | nil => simp at hl
    | cons x r => cases r with
      | nil => exact ⟨x, rfl⟩
      | cons _ _ => simp at hl
  have h0 := hx 0 f rfl
  rw [ho, hc, List.take_of_length_le (by rw [List.length_drop]; omega)] at h0
  exact h h0 (hN x List.mem_cons_self) (fun n hn => hs n (by simpa [DataW.weightsEach] using hn))
theorem opensFieldsB_cons {N : Nat} {α β : Type} {f : Field} {fs : List Field} {off : Nat} {a : Kd α} {b : Kd β} {wa : α → Prop} {wb : β → Prop} (ho : f.offset = off) (hc : P.cellsOf f.type = a.sz) (h : OpensB N P f.type a wa) (hr : OpensFieldsB N P fs (off + a.sz) b wb) :
    OpensFieldsB N P (f :: fs) off (Kd.pair a b) (fun y => wa y.1 ∧ wb y.2) := by
  intro H enc w base spare held fuel cs xs hx hl hcs hN hs
  obtain ⟨x, r, rfl⟩ : ∃ x r, xs = x :: r := by
    cases xs with
    | nil => simp at hl
    | cons x r => exact ⟨x, r, rfl⟩
  have h0 := hx 0 f rfl
  have hsz : (Kd.pair a b).sz = a.sz + b.sz := rfl
  rw [ho, hc] at h0
  simp only [List.map_cons, DataW.weightsEach, List.mem_append] at hs
  obtain ⟨y, hy, wy⟩ := h h0 (hN x List.mem_cons_self) (fun n hn => hs n (.inl hn))
  obtain ⟨z, hz, wz⟩ := hr (fun i g hg => by have := hx (i + 1) g hg; simpa using this) (by simpa using hl) (by omega) (fun z hz => hN z (List.mem_cons_of_mem _ hz)) (fun n hn => hs n (.inr hn))
  refine ⟨(y, z), ⟨(cs.drop off).take a.sz, (cs.drop off).drop a.sz, (List.take_append_drop _ _).symm, hy, ?_⟩, wy, wz⟩
  rw [List.drop_drop]
  exact hz
theorem opensB_struct {N : Nat} {α : Type} {fs : Array Field} {k : Kd α} {wf : α → Prop} (ht : P.underlying t = some (.struct fs)) (hc : P.cellsOf t = k.sz) (h : OpensFieldsB N P fs.toList 0 k wf) : OpensB (N + 1) P t k wf := by
  intro H enc w base spare held fuel cs x hx hN hs
  obtain ⟨xs, n, rfl, rfl, hcl, hxl, hf⟩ := DataW.trod_struct ht hx
  have := h (enc := enc) (w := w) (base := base) (spare := spare) (held := held) (fuel := n) (cs := cs) (xs := xs) (fun i f hfi => hf i f (by simpa using hfi)) (by simpa using hxl) (by omega) (fun z hz => by have := agg_size (xs.map (·.1)) (List.mem_map.2 ⟨z, hz, rfl⟩); simp only at hN; omega) (fun m hm => hs m (by
    rw [DataW.weights, ht]; exact hm))
  simpa using this
end
theorem opensM_B : ∀ N, OpensB N Try.prog 54 k54 WM
  | 0 => by intro _ h; exact absurd h (Nat.not_lt_zero _)
  | N + 1 => by
    have hk : OpensB N Try.prog 52 (Kd.slice 54 k54) (fun xs => xs.length * 88 ≤ 140737488351232 ∧ xs.length ≤ 9223372036854775807 ∧ ∀ x ∈ xs, WM x) := opensB_slice Try.underlying52 (by kernel_rfl) (by kernel_rfl) (opensM_B N)
    have hs : OpensB N Try.prog 51 (Kd.slice 9 Kd.string) (fun xs => xs.length * 16 ≤ 140737488351232 ∧ xs.length ≤ 9223372036854775807 ∧ ∀ x ∈ xs, x.size ≤ 140737488351232) := opens_B (opens_slice Try.underlying51 (by kernel_rfl) (by kernel_rfl) (opens_string Try.underlying9)) N
    intro hx hN hw
    obtain ⟨⟨o, n, v, vs, ks⟩, hK, hW⟩ := opensB_struct (N := N) (k := Kd.pair (Kd.int .i64) (Kd.pair Kd.string (Kd.pair Kd.string (Kd.pair (Kd.slice 9 Kd.string) (Kd.slice 54 k54))))) Try.underlying54 (by kernel_rfl) (opensFieldsB_cons rfl (by kernel_rfl) (opens_B (opens_int Try.underlying3) N) (opensFieldsB_cons rfl (by kernel_rfl) (opens_B (opens_string Try.underlying9) N) (opensFieldsB_cons rfl (by kernel_rfl) (opens_B (opens_string Try.underlying9) N) (opensFieldsB_cons rfl (by kernel_rfl) hs (opensFieldsB_one rfl (by kernel_rfl) hk))))) hx hN hw
    obtain ⟨x1, x2, rfl, e1, ⟨x3, x4, rfl, e2, ⟨x5, x6, rfl, e3, ⟨x7, x8, rfl, ⟨A3, c3, rfl, l3, g3⟩, ⟨A4, c4, rfl, l4, g4⟩⟩⟩⟩⟩ := hK
    obtain rfl : x1 = [.int .i64 o] := e1
    obtain rfl : x3 = [.string n] := e2
    obtain rfl : x5 = [.string v] := e3
    obtain ⟨-, w1, w2, w3, w4⟩ := hW
    exact ⟨⟨o, n, v, vs, ks⟩, k54_mk _ ⟨o, n, v, vs, ks⟩ l3 g3 l4 g4, WM.mk w1 w2 w3.1 w3.2.2 w4.1 w4.2.2⟩
theorem opensM : Opens Try.prog 54 k54 WM := fun hx hs => opensM_B _ hx (Nat.lt_succ_self _) hs
theorem Opens.argM {P : Program} {t : TypeId} {α : Type} {k : Kd α} {wf : α → Prop} {ts : List TypeId} {H : Type} {ds : List (DataW H)} {j : Nat} {enc : TypeId × Value → H} {W : World} {base : Nat} {spare : Nat → Bool} {held : Bool} {v : Value} {x : DataW H} {p : List MemPlace}
    (h : Opens P t k wf) (hsz : (DataW.weightsEach P ts ds).all (· ≤ reachBytes) = true) (ht : ts[j]? = some t) (hd : ds[j]? = some x) (hv : ∃ a, v = .agg a) (hx : DataW.Trod enc P W base spare held t v x p) :
    ∃ y a, v = .agg a ∧ k.K W y a.toList ∧ wf y := by
  obtain ⟨fuel, hf⟩ := hx
  obtain ⟨a, rfl⟩ := hv
  obtain ⟨y, hK, hw⟩ := h hf (fun n hn => by
    have := List.all_eq_true.1 hsz _ (DataW.weights_mem_each ht hd n hn)
    simpa using this)
  exact ⟨y, a, rfl, hK, hw⟩
theorem okWide_aggM {P : Program} {W : World} {r : Reach} {base : Nat} {t : TypeId} {v : Value} {fs : Array Field} (ht : P.underlying t = some (.struct fs)) (h : Value.okWide P W r base t v) : ∃ a, v = .agg a := by
  simp only [Value.okWide, ht, Cell.okWide] at h
  cases v <;> simp_all [Cell.ok]
theorem kM_open {W : World} {y : MT} {cs : List Value} (h : k54.K W y cs) : ∃ A3 c3 A4 c4, cs = [.int .i64 y.f0, .string y.f1, .string y.f2, .slice A3 y.f3.length c3, .slice A4 y.f4.length c4] ∧ MK W y A3 c3 A4 c4 := by
  obtain ⟨A3, c3, A4, c4, e, l3, g3, l4, g4⟩ := k54_open h
  exact ⟨A3, c3, A4, c4, e, ⟨l3, g3, l4, g4⟩⟩
end Go.Proofs.Ytlkhdbfhnpbbhaa
