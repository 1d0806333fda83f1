/- What the laws of this folder share, part 6: walks of functions over their Go text, and plain lemmas. Conditions: as each lemma says. -/
import Derived.Deep.RegionHeld3
import Derived.Test.YtlkhdbfhnpbbhaaJnM5
set_option linter.unusedVariables false
set_option linter.unusedSimpArgs false
namespace Go.Proofs.Ytlkhdbfhnpbbhaa
open Go.RowKit Go.Proofs.YtlkhdbfhnpbbhaaW.PrintWords Go.Proofs.YtlkhdbfhnpbbhaaW.PrintLast Go.Proofs.YtlkhdbfhnpbbhaaW.PrintMore Go.Proofs.Ytlkhdbfhnpbbhaa.Ix Go.Proofs.Ytlkhdbfhnpbbhaa.Tx Go.Proofs.Ytlkhdbfhnpbbhaa.Mx Go.Proofs.Ytlkhdbfhnpbbhaa.Pure
set_option maxRecDepth 100000 in
set_option maxHeartbeats 16000000 in
theorem look_u : ∀ (d : Nat), d ≤ 8 → ∀ {wm w : World} {sb : Nat} {x y : Nat} {m : MT} {A3 A4 : Option Addr} {c3 c4 : Nat} (_ : MK wm m A3 c3 A4 c4) (_ : WM m) (_ : Below wm.heap.size wm w) (_ : wm.heap.size ≤ sb) (_ : x ≤ 64) (_ : y ≤ 4096) (_ : w.heap[sb]? = some (.cells (scells x y false) 84 (0, 0))),
  Calls Try.prog 49 #[.pointer (some ⟨sb, 0, none⟩), mval m A3 c3 A4 c4, .int .i64 (9 - (d : Int))] w (LookPost d x y m sb w) := by
 intro d
 induction d with
 | zero =>
  intro _ wm w sb x y m A3 A4 c3 c4 hmk hwm hb hsb hx hy hr; have hnw := (Array.getElem?_eq_some_iff.1 hr).1; have hc0 : w.cell? ⟨sb, 0, none⟩ = some (.int .i64 (x : Int)) := blk_cell hr 0; have HMK := Lib.hid hmk; have HWM := Lib.hid hwm; have HBM := Lib.hid hb; have HSB := Lib.hid hsb; have HR := Lib.hid hr; have HNW := Lib.hid hnw; have hk1 := hwm.c; have hk2 := hwm.l; clear hmk hwm hb hsb hr hnw hc0; go_enter Try.func49, Try.ntmps49
  go_upto_region 2 with (first
   | ((with_reducible refine gate_dst (N := 4) rfl ?_); go_must (refine box_event ?hg (N := 4) ?hd (cs := mobj m A3 c3 A4 c4) (t := 54) ?hr ?_; (case hd => exact zk16); (case hg => exact zk16); (case hr => exact zk9); intro gb hg w1 hbox hb1; have hn1 := (hb1.block sb HNW.out).trans HR.out; have hnc : w1.cell? ⟨sb, 0, none⟩ = some (.int .i64 (x : Int)) := blk_cell hn1 0; have hnf : w1.frozen? ⟨sb, 0, none⟩ = false := blk_frozen hn1 0; have HBOX := Lib.hid hbox; have HB1 := Lib.hid hb1; have HN1 := Lib.hid hn1; have HG := Lib.hid hg; clear hbox hb1 hn1 hg))
   | ((with_reducible refine gate_store (t := 3) (p := 14) rfl ?_); go_must (refine store_event (t := 3) (p := 14) (v := .tmp 12) (w1 := w1.setCell ⟨sb, 0, none⟩ (.int .i64 ((x : Int) + 1))) ?hg ?ho ?hn ?hr ?_; (case ho => exact zk16); (case hg => exact zk16); (case hn => exact zk16); (case hr => exact zk9); intro w3 hw3; have HW3 := Lib.hid hw3; clear hw3)))
  have hgn : gb ≠ sb := zk59
  obtain ⟨x1, hx1⟩ : ∃ x1, x + 1 = x1 := ⟨_, rfl⟩
  have hx2 : (x : Int) + 1 = (x1 : Int) := zk12
  have hs : LS w sb gb m A3 c3 A4 c4 x1 y false w3 := by
   rw [HW3.out]; refine ⟨?_, (Below.heap_setCell _ ⟨sb, 0, none⟩ _ gb hgn).trans HBOX.out, (HB1.out.mono (Nat.le_of_lt HNW.out)).setCell (p := ⟨sb, 0, none⟩) (Nat.le_refl _) _, (Far.of_below (f := fun k => k = sb) HB1.out).setCell (f := fun k => k = sb) (p := ⟨sb, 0, none⟩) rfl _⟩; rw [hx2]; exact blk_put HN1.out 0 _ rfl
  obtain ⟨⟨c0, c1, c2, f0, f1, f2⟩, b0, b1, b2, b3, b4⟩ := hs.facts; have HS := Lib.hid hs; have HGN := Lib.hid hgn; have HX1 := Lib.hid hx1; clear hs hgn HBOX HN1 hnf hnc HW3 HB1 hx1 hx2; have HNO := Lib.hid (show ¬ okM 0 (64 - x) (4096 - y) m from fun h => absurd h.1 (by simp [okD])); by_cases hx3 : 64 < x1
  ·have e0 : (64 : Int) < (x1 : Int) ↔ True := ⟨fun _ => trivial, fun _ => by omega⟩
   clear hx3; (go_wp2_with ((with_reducible refine gate_store (t := 4) (p := 32) rfl ?_); go_must (refine store_event (t := 4) (p := 32) (v := .const (.bool true)) (w1 := World.setCell w3 ⟨sb, 2, none⟩ (.bool true)) ?hg ?ho ?hn ?hr ?_; (case ho => exact zk16); (case hg => exact zk16); (case hn => exact zk16); (case hr => exact zk9); intro w3 hw3; have hs := HS.out.flag HGN.out true; rw [← hw3] at hs; clear HS hw3; clear c0 c1 c2 f0 f1 f2 b0 b1 b2 b3 b4; obtain ⟨⟨c0, c1, c2, f0, f1, f2⟩, b0, b1, b2, b3, b4⟩ := hs.facts; have HS := Lib.hid hs; clear hs)))
   (try simp only [Exit.inBlock, Exit.then]); refine bodyPost_ret (results_none rfl _ _ _) rfl ?_
   exact look_bad HNO.out HS.out
  ·have e0 : (64 : Int) < (x1 : Int) ↔ False := ⟨fun h => by omega, fun h => h.elim⟩
   clear hx3; (go_wp2_with ((with_reducible refine gate_store (t := 4) (p := 32) rfl ?_); go_must (refine store_event (t := 4) (p := 32) (v := .const (.bool true)) (w1 := World.setCell w3 ⟨sb, 2, none⟩ (.bool true)) ?hg ?ho ?hn ?hr ?_; (case ho => exact zk16); (case hg => exact zk16); (case hn => exact zk16); (case hr => exact zk9); intro w3 hw3; have hs := HS.out.flag HGN.out true; rw [← hw3] at hs; clear HS hw3; clear c0 c1 c2 f0 f1 f2 b0 b1 b2 b3 b4; obtain ⟨⟨c0, c1, c2, f0, f1, f2⟩, b0, b1, b2, b3, b4⟩ := hs.facts; have HS := Lib.hid hs; clear hs)))
   (try simp only [Exit.inBlock, Exit.then]); refine bodyPost_ret (results_none rfl _ _ _) rfl ?_
   exact look_bad HNO.out HS.out
 | succ d ih =>
  intro hd wm w sb x y m A3 A4 c3 c4 hmk hwm hb hsb hx hy hr; have hnw := (Array.getElem?_eq_some_iff.1 hr).1; have hc0 : w.cell? ⟨sb, 0, none⟩ = some (.int .i64 (x : Int)) := blk_cell hr 0; have HMK := Lib.hid hmk; have HWM := Lib.hid hwm; have HBM := Lib.hid hb; have HSB := Lib.hid hsb; have HR := Lib.hid hr; have HNW := Lib.hid hnw; have hk1 := hwm.c; have hk2 := hwm.l; have ih2 := @ih zk12; rw [show (9 : Int) - (d : Int) = 9 - ((d : Int) + 1) + 1 by omega] at ih2; have HIH := Lib.hid (fun (_ : Unit) => @ih2); clear ih ih2; clear hmk hwm hb hsb hr hnw hc0; go_enter Try.func49, Try.ntmps49
  go_upto_region 2 with (first
   | ((with_reducible refine gate_dst (N := 4) rfl ?_); go_must (refine box_event ?hg (N := 4) ?hd (cs := mobj m A3 c3 A4 c4) (t := 54) ?hr ?_; (case hd => exact zk16); (case hg => exact zk16); (case hr => exact zk9); intro gb hg w1 hbox hb1; have hn1 := (hb1.block sb HNW.out).trans HR.out; have hnc : w1.cell? ⟨sb, 0, none⟩ = some (.int .i64 (x : Int)) := blk_cell hn1 0; have hnf : w1.frozen? ⟨sb, 0, none⟩ = false := blk_frozen hn1 0; have HBOX := Lib.hid hbox; have HB1 := Lib.hid hb1; have HN1 := Lib.hid hn1; have HG := Lib.hid hg; clear hbox hb1 hn1 hg))
   | ((with_reducible refine gate_store (t := 3) (p := 14) rfl ?_); go_must (refine store_event (t := 3) (p := 14) (v := .tmp 12) (w1 := w1.setCell ⟨sb, 0, none⟩ (.int .i64 ((x : Int) + 1))) ?hg ?ho ?hn ?hr ?_; (case ho => exact zk16); (case hg => exact zk16); (case hn => exact zk16); (case hr => exact zk9); intro w3 hw3; have HW3 := Lib.hid hw3; clear hw3)))
  have hgn : gb ≠ sb := zk59
  obtain ⟨x1, hx1⟩ : ∃ x1, x + 1 = x1 := ⟨_, rfl⟩
  have hx2 : (x : Int) + 1 = (x1 : Int) := zk12
  have hs : LS w sb gb m A3 c3 A4 c4 x1 y false w3 := by
   rw [HW3.out]; refine ⟨?_, (Below.heap_setCell _ ⟨sb, 0, none⟩ _ gb hgn).trans HBOX.out, (HB1.out.mono (Nat.le_of_lt HNW.out)).setCell (p := ⟨sb, 0, none⟩) (Nat.le_refl _) _, (Far.of_below (f := fun k => k = sb) HB1.out).setCell (f := fun k => k = sb) (p := ⟨sb, 0, none⟩) rfl _⟩; rw [hx2]; exact blk_put HN1.out 0 _ rfl
  obtain ⟨⟨c0, c1, c2, f0, f1, f2⟩, b0, b1, b2, b3, b4⟩ := hs.facts; have HS := Lib.hid hs; have HGN := Lib.hid hgn; have HX1 := Lib.hid hx1; clear hs hgn HBOX HN1 hnf hnc HW3 HB1 hx1 hx2; have hd8 : (8 : Int) < 9 - ((d : Int) + 1) ↔ False := ⟨fun h => by omega, fun h => h.elim⟩
  by_cases hx3 : 64 < x1
  ·have e0 : (64 : Int) < (x1 : Int) ↔ True := ⟨fun _ => trivial, fun _ => by omega⟩
   have HNO := Lib.hid (show ¬ okM (d + 1) (64 - x) (4096 - y) m from fun h => absurd (okM_room h).1 (by have := HX1.out; omega)); clear hx3; (go_wp2_with ((with_reducible refine gate_store (t := 4) (p := 32) rfl ?_); go_must (refine store_event (t := 4) (p := 32) (v := .const (.bool true)) (w1 := World.setCell w3 ⟨sb, 2, none⟩ (.bool true)) ?hg ?ho ?hn ?hr ?_; (case ho => exact zk16); (case hg => exact zk16); (case hn => exact zk16); (case hr => exact zk9); intro w3 hw3; have hs := HS.out.flag HGN.out true; rw [← hw3] at hs; clear HS hw3; clear c0 c1 c2 f0 f1 f2 b0 b1 b2 b3 b4; obtain ⟨⟨c0, c1, c2, f0, f1, f2⟩, b0, b1, b2, b3, b4⟩ := hs.facts; have HS := Lib.hid hs; clear hs)))
   (try simp only [Exit.inBlock, Exit.then]); refine bodyPost_ret (results_none rfl _ _ _) rfl ?_
   exact look_bad HNO.out HS.out
  ·have e0 : (64 : Int) < (x1 : Int) ↔ False := ⟨fun h => by omega, fun h => h.elim⟩
   have HX3 := Lib.hid hx3; clear hx3; by_cases h0 : m.f0 = 0
   ·have HOP := Lib.hid (op_none h0)
    have HBARE := Lib.hid (fun (w' : World) (hbw : Below sb w w') => varveref12_bare.calls m.f0 m.f1 m.f2 A3 c3 m.f3 A4 c4 m.f4 false false false _ w' (Kd.C_below HMK.out.g3 (HBM.out.trans (hbw.mono HSB.out))) HMK.out.l3 (Kd.C_below HMK.out.g4 (HBM.out.trans (hbw.mono HSB.out))) HMK.out.l4 (bare_none _ m)); obtain ⟨q, hq⟩ : ∃ q, okOp m = q := ⟨_, rfl⟩
    have hq2 := HOP.out.symm.trans hq; have HF4 := Lib.hid (show okOp m = true → m.f4.length = 0 from fun h => by rw [HOP.out] at h; simp only [Bool.and_eq_true, decide_eq_true_eq] at h; exact h.2); have HPL := Lib.hid (show okOp m = true → m.f1.size + m.f2.size + strsN m.f3 = 0 from fun h => by rw [HOP.out] at h; simp only [Bool.and_eq_true, decide_eq_true_eq] at h; exact plain_no h.1); rw [hq2] at HBARE; rw [h0] at HBARE b0; have HQ := Lib.hid hq; clear hq hq2; have H0 := Lib.hid h0; clear h0; (go_wp2_with (first | (go_at_call 61; go_must (refine (HBARE.out _ (HS.out.bel)).mono ?_; rintro e w3 ⟨rfl, hb3⟩; have hs := HS.out.below hb3; clear HS; clear c0 c1 c2 f0 f1 f2 b0 b1 b2 b3 b4; obtain ⟨⟨c0, c1, c2, f0, f1, f2⟩, b0, b1, b2, b3, b4⟩ := hs.facts; rw [H0.out] at b0; have HS := Lib.hid hs; clear hs; clear hb3)) | ((with_reducible refine gate_store (t := 4) (p := 45) rfl ?_); go_must (refine store_event (t := 4) (p := 45) (v := .tmp 43) (w1 := World.setCell w3 ⟨sb, 2, none⟩ (.bool (!q))) ?hg ?ho ?hn ?hr ?_; (case ho => exact zk16); (case hg => exact zk16); (case hn => exact zk16); (case hr => exact zk9); intro w3 hw3; have hs := HS.out.flag HGN.out (!q); rw [← hw3] at hs; clear HS hw3; clear c0 c1 c2 f0 f1 f2 b0 b1 b2 b3 b4; obtain ⟨⟨c0, c1, c2, f0, f1, f2⟩, b0, b1, b2, b3, b4⟩ := hs.facts; rw [H0.out] at b0; have HS := Lib.hid hs; clear hs)))); go_end0
    exact look_leaf zk70 hy HF4.out (by rw [HQ.out]; constructor
                                        ·intro h; have hq : q = true := by simpa using h
                                         exact ⟨hq, by rw [HPL.out (HQ.out.trans hq)]; omega⟩
                                        ·intro h; rw [h.1]; rfl) (fun h => by have hq : q = true := (by simpa using h); rw [HPL.out (HQ.out.trans hq)]; omega) HX1.out.symm HS.out
   ·by_cases hB : m.f0 = 1 ∨ m.f0 = 2 ∨ m.f0 = 3
    ·have HB := Lib.hid hB
     have HOP := Lib.hid (op_one hB); have HBARE := Lib.hid (fun (w' : World) (hbw : Below sb w w') => varveref12_bare.calls m.f0 m.f1 m.f2 A3 c3 m.f3 A4 c4 m.f4 true false false _ w' (Kd.C_below HMK.out.g3 (HBM.out.trans (hbw.mono HSB.out))) HMK.out.l3 (Kd.C_below HMK.out.g4 (HBM.out.trans (hbw.mono HSB.out))) HMK.out.l4 (bare_one _ m)); obtain ⟨q1, hq1⟩ : ∃ q, (decide (m.f3.length = 0) && decide (m.f4.length = 0)) = q := ⟨_, rfl⟩
     obtain ⟨q2, hq2⟩ : ∃ q, nm m.f1 = q := ⟨_, rfl⟩
     obtain ⟨q3, hq3⟩ : ∃ q, decide (m.f2.size ≤ 64) = q := ⟨_, rfl⟩
     have HNM := Lib.hid (fun (w' : World) => varveref11_Name.calls (m.f1.size + 1) m.f1 q2 w' (by rw [rname_eq _ HWM.out.n _ zk12, hq2])); rw [hq1] at HBARE; have HQ := Lib.hid (show okOp m = (q1 && q2 && q3) by rw [HOP.out, hq1, hq2, hq3]); have HL := Lib.hid (show q1 = true → m.f4.length = 0 ∧ strsN m.f3 = 0 from fun h => by rw [← hq1] at h; simp only [Bool.and_eq_true, decide_eq_true_eq] at h; exact ⟨h.2, by rw [List.eq_nil_of_length_eq_zero h.1]; rfl⟩); have HEND : Hid (∀ w' : World, LS w sb gb m A3 c3 A4 c4 x1 (txY (txY y m.f1) m.f2) (txB (txY y m.f1) (txB y (!(q1 && q2 && q3)) m.f1) m.f2) w' → LookPost (d + 1) x y m sb w (.returned (.tuple #[])) w') := Lib.hid (fun w' h => look_leaf zk70 hy (fun h => by rw [HQ.out] at h; simp only [Bool.and_eq_true] at h; exact (HL.out h.1.1).1) (by rw [HQ.out]; exact leaf2 (fun h => (HL.out (by simp only [Bool.and_eq_true] at h; exact h.1.1)).2)) (fun h => leaf3 (fun h => (HL.out (by simp only [Bool.and_eq_true] at h; exact h.1.1)).2) h) HX1.out.symm h)
     have HV : Hid (q1 = false ∨ q1 = true ∧ q2 = false ∨ q1 = true ∧ q2 = true ∧ q3 = false ∧ ((64 : Int) < (m.f2.size : Int) ↔ True) ∨ q1 = true ∧ q2 = true ∧ q3 = true ∧ ((64 : Int) < (m.f2.size : Int) ↔ False)) := Lib.hid (by
      cases q1 <;> cases q2 <;> cases q3 <;> simp at hq3 ⊢ <;> omega)
     clear hq1 hq2 hq3 hB h0
     rcases HB.out with h | h | h <;> rcases HV.out with rfl | ⟨rfl, rfl⟩ | ⟨rfl, rfl, rfl, e3⟩ | ⟨rfl, rfl, rfl, e3⟩
     (all_goals (rw [h] at HBARE b0; have H0 := Lib.hid h; clear h)); (all_goals go_wp2_with (first | (go_at_call 61; go_must (refine (HBARE.out _ (HS.out.bel)).mono ?_; rintro e w3 ⟨rfl, hb3⟩; have hs := HS.out.below hb3; clear HS; clear c0 c1 c2 f0 f1 f2 b0 b1 b2 b3 b4; obtain ⟨⟨c0, c1, c2, f0, f1, f2⟩, b0, b1, b2, b3, b4⟩ := hs.facts; rw [H0.out] at b0; have HS := Lib.hid hs; clear hs; clear hb3)) | (go_at_call 38; go_must (refine (HNM.out _).mono ?_; rintro e w3 ⟨rfl, hd3⟩; have hs := HS.out.below hd3.below; clear HS; clear c0 c1 c2 f0 f1 f2 b0 b1 b2 b3 b4; obtain ⟨⟨c0, c1, c2, f0, f1, f2⟩, b0, b1, b2, b3, b4⟩ := hs.facts; rw [H0.out] at b0; have HS := Lib.hid hs; clear hs; clear hd3)) | ((with_reducible refine gate_store (t := 4) (p := 67) rfl ?_); (refine store_event (t := 4) (p := 67) (v := .tmp 65) (w1 := World.setCell w3 ⟨sb, 2, none⟩ (.bool true)) ?hg ?ho ?hn ?hr ?_; (case ho => exact zk16); (case hg => exact zk16); (case hn => exact zk16); (case hr => exact zk9); intro w3 hw3; have hs := HS.out.flag HGN.out true; rw [← hw3] at hs; clear HS hw3; clear c0 c1 c2 f0 f1 f2 b0 b1 b2 b3 b4; obtain ⟨⟨c0, c1, c2, f0, f1, f2⟩, b0, b1, b2, b3, b4⟩ := hs.facts; rw [H0.out] at b0; have HS := Lib.hid hs; clear hs)) | ((with_reducible refine gate_store (t := 4) (p := 67) rfl ?_); go_must (refine store_event (t := 4) (p := 67) (v := .tmp 65) (w1 := World.setCell w3 ⟨sb, 2, none⟩ (.bool false)) ?hg ?ho ?hn ?hr ?_; (case ho => exact zk16); (case hg => exact zk16); (case hn => exact zk16); (case hr => exact zk9); intro w3 hw3; have hs := HS.out.flag HGN.out false; rw [← hw3] at hs; clear HS hw3; clear c0 c1 c2 f0 f1 f2 b0 b1 b2 b3 b4; obtain ⟨⟨c0, c1, c2, f0, f1, f2⟩, b0, b1, b2, b3, b4⟩ := hs.facts; rw [H0.out] at b0; have HS := Lib.hid hs; clear hs)) | (go_at_call 62; go_must (refine (text_u zk83 zk75 HS.out.room).mono ?_; rintro e w3 ⟨rfl, hr3, hb3, hf3⟩; have hs := HS.out.step HGN.out hr3 hb3 hf3; clear HS; clear c0 c1 c2 f0 f1 f2 b0 b1 b2 b3 b4; obtain ⟨⟨c0, c1, c2, f0, f1, f2⟩, b0, b1, b2, b3, b4⟩ := hs.facts; rw [H0.out] at b0; have HS := Lib.hid hs; clear hs; clear hr3 hb3 hf3)))); (all_goals (go_end0; exact HEND.out _ HS.out))
    ·by_cases hC : m.f0 = 4
     ·have HC := Lib.hid hC
      have HOP := Lib.hid (op_many hC); have HBARE := Lib.hid (fun (w' : World) (hbw : Below sb w w') => varveref12_bare.calls m.f0 m.f1 m.f2 A3 c3 m.f3 A4 c4 m.f4 false true false _ w' (Kd.C_below HMK.out.g3 (HBM.out.trans (hbw.mono HSB.out))) HMK.out.l3 (Kd.C_below HMK.out.g4 (HBM.out.trans (hbw.mono HSB.out))) HMK.out.l4 (bare_many _ m)); obtain ⟨q1, hq1⟩ : ∃ q, (decide (m.f2 = emp) && decide (m.f4.length = 0)) = q := ⟨_, rfl⟩
      obtain ⟨q2, hq2⟩ : ∃ q, nm m.f1 = q := ⟨_, rfl⟩
      obtain ⟨q3, hq3⟩ : ∃ q, valsB m.f3 = q := ⟨_, rfl⟩
      have HNM := Lib.hid (fun (w' : World) => varveref11_Name.calls (m.f1.size + 1) m.f1 q2 w' (by rw [rname_eq _ HWM.out.n _ zk12, hq2])); have HVS := Lib.hid (fun (w' : World) (hbw : Below sb w w') => varveref12_values.calls 40 A3 c3 m.f3 q3 w' (Kd.C_below HMK.out.g3 (HBM.out.trans (hbw.mono HSB.out))) HMK.out.l3 (by rw [rvalues_eq _ _ (Nat.le_refl _), hq3])); rw [hq1] at HBARE; have hq := (show okOp m = (q1 && q2 && q3) by rw [HOP.out, hq1, hq2, hq3])
      have hl := (show q1 = true → m.f2.size = 0 ∧ m.f4.length = 0 from fun h => by rw [← hq1] at h; simp only [Bool.and_eq_true, decide_eq_true_eq] at h; exact ⟨by rw [h.1]; rfl, h.2⟩)
      have HVAL := Lib.hid (val_start (y := y) hq hy (fun h => by simp only [Bool.and_eq_true] at h; exact (hl h.1.1).1)); have HF4 := Lib.hid (show okOp m = true → m.f4.length = 0 from fun h => by rw [hq] at h; simp only [Bool.and_eq_true] at h; exact (hl h.1.1).2); have HV : Hid (q1 = false ∨ q1 = true ∧ q2 = false ∨ q1 = true ∧ q2 = true) := Lib.hid (by cases q1 <;> cases q2 <;> simp); clear hq hl hq1 hq2 hq3 hC hB h0
      rcases HV.out with rfl | ⟨rfl, rfl⟩ | ⟨rfl, rfl⟩
      (all_goals (rw [HC.out] at HBARE b0; clear HV)); (all_goals go_upto_region 17 with (first | (go_at_call 61; go_must (refine (HBARE.out _ (HS.out.bel)).mono ?_; rintro e w3 ⟨rfl, hb3⟩; have hs := HS.out.below hb3; clear HS; clear c0 c1 c2 f0 f1 f2 b0 b1 b2 b3 b4; obtain ⟨⟨c0, c1, c2, f0, f1, f2⟩, b0, b1, b2, b3, b4⟩ := hs.facts; rw [HC.out] at b0; have HS := Lib.hid hs; clear hs; clear hb3)) | (go_at_call 38; go_must (refine (HNM.out _).mono ?_; rintro e w3 ⟨rfl, hd3⟩; have hs := HS.out.below hd3.below; clear HS; clear c0 c1 c2 f0 f1 f2 b0 b1 b2 b3 b4; obtain ⟨⟨c0, c1, c2, f0, f1, f2⟩, b0, b1, b2, b3, b4⟩ := hs.facts; rw [HC.out] at b0; have HS := Lib.hid hs; clear hs; clear hd3)) | (go_at_call 63; go_must (refine (HVS.out _ (HS.out.bel)).mono ?_; rintro e w3 ⟨rfl, hd3⟩; have hs := HS.out.below hd3.below; clear HS; clear c0 c1 c2 f0 f1 f2 b0 b1 b2 b3 b4; obtain ⟨⟨c0, c1, c2, f0, f1, f2⟩, b0, b1, b2, b3, b4⟩ := hs.facts; rw [HC.out] at b0; have HS := Lib.hid hs; clear hs; clear hd3)) | ((with_reducible refine gate_store (t := 4) (p := 95) rfl ?_); (refine store_event (t := 4) (p := 95) (v := .tmp 93) (w1 := World.setCell w3 ⟨sb, 2, none⟩ (.bool true)) ?hg ?ho ?hn ?hr ?_; (case ho => exact zk16); (case hg => exact zk16); (case hn => exact zk16); (case hr => exact zk9); intro w3 hw3; have hs := HS.out.flag HGN.out true; rw [← hw3] at hs; clear HS hw3; clear c0 c1 c2 f0 f1 f2 b0 b1 b2 b3 b4; obtain ⟨⟨c0, c1, c2, f0, f1, f2⟩, b0, b1, b2, b3, b4⟩ := hs.facts; rw [HC.out] at b0; have HS := Lib.hid hs; clear hs)) | ((with_reducible refine gate_store (t := 4) (p := 95) rfl ?_); go_must (refine store_event (t := 4) (p := 95) (v := .tmp 93) (w1 := World.setCell w3 ⟨sb, 2, none⟩ (.bool (!q3))) ?hg ?ho ?hn ?hr ?_; (case ho => exact zk16); (case hg => exact zk16); (case hn => exact zk16); (case hr => exact zk9); intro w3 hw3; have hs := HS.out.flag HGN.out (!q3); rw [← hw3] at hs; clear HS hw3; clear c0 c1 c2 f0 f1 f2 b0 b1 b2 b3 b4; obtain ⟨⟨c0, c1, c2, f0, f1, f2⟩, b0, b1, b2, b3, b4⟩ := hs.facts; rw [HC.out] at b0; have HS := Lib.hid hs; clear hs)) | (go_at_call 62; go_must (refine (text_u zk83 zk75 HS.out.room).mono ?_; rintro e w3 ⟨rfl, hr3, hb3, hf3⟩; have hs := HS.out.step HGN.out hr3 hb3 hf3; clear HS; clear c0 c1 c2 f0 f1 f2 b0 b1 b2 b3 b4; obtain ⟨⟨c0, c1, c2, f0, f1, f2⟩, b0, b1, b2, b3, b4⟩ := hs.facts; rw [HC.out] at b0; have HS := Lib.hid hs; clear hs; clear hr3 hb3 hf3)))); (all_goals go_wp2); (all_goals (go_loopw [6] (fun v6 wk => ∃ (i y' : Nat) (bad : Bool), i ≤ m.f3.length ∧ v6 = .int .i64 (i : Int) ∧ ValRel m y i y' bad ∧ LS w sb gb m A3 c3 A4 c4 x1 y' bad wk) (fun v6 _ => m.f3.length - (intOf v6).toNat))); (all_goals first | (case atStart => exact ⟨0, _, _, Nat.zero_le _, rfl, HVAL.out, HS.out⟩) | skip)
      all_goals
       obtain ⟨i, y', bad, hi, rfl, hrl, hs⟩ := hrel; clear c0 c1 c2 f0 f1 f2 b0 b1 b2 b3 b4; obtain ⟨⟨c0, c1, c2, f0, f1, f2⟩, b0, b1, b2, b3, b4⟩ := hs.facts; rw [HC.out] at b0; clear HS; have HS := Lib.hid hs; have HRL := Lib.hid hrl; clear hs hrl; by_cases hil : i < m.f3.length
       ·have e1 : decide ((i : Int) < (m.f3.length : Int)) = true := decide_eq_true zk12
        have e2 : decide (i < m.f3.length) = true := decide_eq_true hil; cases bad
        ·obtain ⟨ad, rfl, hsv⟩ := Kd.at_string (Kd.C_below HMK.out.g3 (HBM.out.trans (HS.out.bel.mono HSB.out))) (i : Int) zk12 zk12
         rw [Int.toNat_natCast] at hsv; obtain ⟨s, hse⟩ : ∃ s, rdOf ByteArray.empty m.f3 (i : Int) = s := ⟨_, rfl⟩
         have HVZ := Lib.hid (show s.size ≤ 140737488351232 by rw [← hse]; exact str_mem_size HWM.out.s hil); rw [hse] at hsv; have HSE := Lib.hid hse; have hy' : y' ≤ 4096 := (HRL.out.1 rfl).2.2; clear hse; (go_wp2_with (go_at_call 62; go_must (refine (text_u zk83 zk75 HS.out.room).mono ?_; rintro e w3 ⟨rfl, hr3, hb3, hf3⟩; have hs := HS.out.step HGN.out hr3 hb3 hf3; clear HS; clear c0 c1 c2 f0 f1 f2 b0 b1 b2 b3 b4; obtain ⟨⟨c0, c1, c2, f0, f1, f2⟩, b0, b1, b2, b3, b4⟩ := hs.facts; rw [HC.out] at b0; have HS := Lib.hid hs; clear hs; clear hr3 hb3 hf3))); go_roundw
         case rel => exact ⟨i + 1, _, _, hil, zk30, val_step HRL.out hy hil HSE.out, HS.out⟩
         case measure => simp [intOf]; omega
        ·have HEND := Lib.hid (val_end HRL.out hy (fun h => absurd h zk30))
         go_wp2; go_end0
         exact look_leaf zk70 hy HF4.out HEND.out.1 HEND.out.2 HX1.out.symm HS.out
       ·have e1 : decide ((i : Int) < (m.f3.length : Int)) = false := decide_eq_false zk12
        have e2 : decide (i < m.f3.length) = false := decide_eq_false hil; have HEND := Lib.hid (val_end HRL.out hy (fun _ => by omega)); go_wp2; go_end0
        exact look_leaf zk70 hy HF4.out HEND.out.1 HEND.out.2 HX1.out.symm HS.out
     ·by_cases hD : m.f0 = 5 ∨ m.f0 = 6 ∨ m.f0 = 7
      ·have HOP := Lib.hid (op_kids hD)
       have HBARE := Lib.hid (fun (w' : World) (hbw : Below sb w w') => varveref12_bare.calls m.f0 m.f1 m.f2 A3 c3 m.f3 A4 c4 m.f4 false false true _ w' (Kd.C_below HMK.out.g3 (HBM.out.trans (hbw.mono HSB.out))) HMK.out.l3 (Kd.C_below HMK.out.g4 (HBM.out.trans (hbw.mono HSB.out))) HMK.out.l4 (bare_kids _ m)); obtain ⟨q1, hq1⟩ : ∃ q, plainB m = q := ⟨_, rfl⟩
       obtain ⟨Q, hQ⟩ : ∃ q, okOp m = q := ⟨_, rfl⟩
       rw [hq1] at HBARE; have HKR := Lib.hid (k_start (d := d) (m := m) (q := Q) hQ zk70 hy (fun h => by rw [HOP.out, hq1] at hQ; rw [h] at hQ; simp only [Bool.and_eq_true] at hQ; exact plain_no (hq1.trans hQ.1)) HX1.out)
       have HV : Hid (m.f0 = 5 ∧ q1 = false ∧ Q = false ∨ m.f0 = 5 ∧ q1 = true ∧ Q = true ∨ m.f0 = 6 ∧ q1 = false ∧ Q = false ∨ m.f0 = 6 ∧ q1 = true ∧ Q = true ∨ m.f0 = 7 ∧ q1 = false ∧ Q = false ∨ m.f0 = 7 ∧ q1 = true ∧ Q = true ∧ (((m.f4.length : Int) != 1) = false) ∨ m.f0 = 7 ∧ q1 = true ∧ Q = false ∧ (((m.f4.length : Int) != 1) = true)) := Lib.hid (by
        have h := HOP.out; rw [hQ, hq1] at h
        rcases hD with h7 | h7 | h7
        ·rw [h7] at h ⊢; cases q1 <;> simp at h <;> simp [h]
        ·rw [h7] at h ⊢; cases q1 <;> simp at h <;> simp [h]
        ·rw [h7] at h ⊢
         by_cases hl : m.f4.length = 1
         ·have hl2 : (m.f4.length : Int) = 1 := by omega
          cases q1 <;> simp [hl] at h <;> simp [h, hl2]
         ·have hl2 : ¬ (m.f4.length : Int) = 1 := by omega
          cases q1 <;> simp [hl] at h <;> simp [h, hl2])
       clear hq1 hQ hD hC hB h0
       rcases HV.out with ⟨h, rfl, rfl⟩ | ⟨h, rfl, rfl⟩ | ⟨h, rfl, rfl⟩ | ⟨h, rfl, rfl⟩ | ⟨h, rfl, rfl⟩ | ⟨h, rfl, rfl, e3⟩ | ⟨h, rfl, rfl, e3⟩
       (all_goals (rw [h] at HBARE b0; clear HV; have H0 := Lib.hid h; clear h)); (all_goals go_upto_region 25 with (first | (go_at_call 61; go_must (refine (HBARE.out _ (HS.out.bel)).mono ?_; rintro e w3 ⟨rfl, hb3⟩; have hs := HS.out.below hb3; clear HS; clear c0 c1 c2 f0 f1 f2 b0 b1 b2 b3 b4; obtain ⟨⟨c0, c1, c2, f0, f1, f2⟩, b0, b1, b2, b3, b4⟩ := hs.facts; rw [H0.out] at b0; have HS := Lib.hid hs; clear hs; clear hb3)) | ((with_reducible refine gate_store (t := 4) (p := 141) rfl ?_); (refine store_event (t := 4) (p := 141) (v := .tmp 139) (w1 := World.setCell w3 ⟨sb, 2, none⟩ (.bool true)) ?hg ?ho ?hn ?hr ?_; (case ho => exact zk16); (case hg => exact zk16); (case hn => exact zk16); (case hr => exact zk9); intro w3 hw3; have hs := HS.out.flag HGN.out true; rw [← hw3] at hs; clear HS hw3; clear c0 c1 c2 f0 f1 f2 b0 b1 b2 b3 b4; obtain ⟨⟨c0, c1, c2, f0, f1, f2⟩, b0, b1, b2, b3, b4⟩ := hs.facts; rw [H0.out] at b0; have HS := Lib.hid hs; clear hs)) | ((with_reducible refine gate_store (t := 4) (p := 141) rfl ?_); go_must (refine store_event (t := 4) (p := 141) (v := .tmp 139) (w1 := World.setCell w3 ⟨sb, 2, none⟩ (.bool false)) ?hg ?ho ?hn ?hr ?_; (case ho => exact zk16); (case hg => exact zk16); (case hn => exact zk16); (case hr => exact zk9); intro w3 hw3; have hs := HS.out.flag HGN.out false; rw [← hw3] at hs; clear HS hw3; clear c0 c1 c2 f0 f1 f2 b0 b1 b2 b3 b4; obtain ⟨⟨c0, c1, c2, f0, f1, f2⟩, b0, b1, b2, b3, b4⟩ := hs.facts; rw [H0.out] at b0; have HS := Lib.hid hs; clear hs)))); (all_goals go_wp2); (all_goals (go_loopw [7] (fun v7 wk => ∃ (j x' y' : Nat) (bad : Bool), j ≤ m.f4.length ∧ v7 = .int .i64 (j : Int) ∧ KRel d m x y j x' y' bad ∧ LS w sb gb m A3 c3 A4 c4 x' y' bad wk) (fun v7 _ => m.f4.length - (intOf v7).toNat))); (all_goals first | (case atStart => exact ⟨0, _, _, _, Nat.zero_le _, rfl, HKR.out, HS.out⟩) | skip)
       all_goals
        obtain ⟨j, x', y', bad, hj, rfl, hrl, hs⟩ := hrel; clear c0 c1 c2 f0 f1 f2 b0 b1 b2 b3 b4; obtain ⟨⟨c0, c1, c2, f0, f1, f2⟩, b0, b1, b2, b3, b4⟩ := hs.facts; rw [H0.out] at b0; clear HS; have HS := Lib.hid hs; have HRL := Lib.hid hrl; clear hs hrl; by_cases hjl : j < m.f4.length
        ·have e1 : decide ((j : Int) < (m.f4.length : Int)) = true := decide_eq_true zk12
         have e2 : decide (j < m.f4.length) = true := decide_eq_true hjl; cases bad
         ·obtain ⟨ad, K3, q3, K4, q4, rfl, hkm, k0, k1, k2, k3, k4⟩ := kid_at HMK.out.g4 j hjl
          have hbm : Below wm.heap.size wm wr := HBM.out.trans (HS.out.bel.mono HSB.out); replace k0 := (hbm.cell (World.block_lt_of_cell? wm _ k0)).trans k0; replace k1 := (hbm.cell (World.block_lt_of_cell? wm _ k1)).trans k1; replace k2 := (hbm.cell (World.block_lt_of_cell? wm _ k2)).trans k2; replace k3 := (hbm.cell (World.block_lt_of_cell? wm _ k3)).trans k3; replace k4 := (hbm.cell (World.block_lt_of_cell? wm _ k4)).trans k4; have hkw := HWM.out.k _ (kid_mem hjl); obtain ⟨z, hz⟩ : ∃ z, rd_T54 m.f4 (j : Int) = z := ⟨_, rfl⟩
          rw [hz] at hkm k0 k1 k2 k3 k4 hkw; have HZ := Lib.hid hz; obtain ⟨g1, g2, g3, -⟩ := HRL.out.1 rfl; have HCALL := Lib.hid (HIH.out () hkm hkw hbm HSB.out g2 g3 HS.out.room); clear hkm hkw hbm hz g1 g2 g3; (go_wp2_with (go_at_call 49; go_must (refine HCALL.out.mono ?_; rintro e w5 ⟨x5, y5, bad5, rfl, hiff5, hv5, hr5, hb5, hf5⟩; have hs := HS.out.step HGN.out hr5 hb5 hf5; clear HS; have HS := Lib.hid hs; have HIFF := Lib.hid hiff5; have HV5 := Lib.hid hv5; clear hs hiff5 hv5 hr5 hb5 hf5))); go_roundw
          case rel => exact ⟨j + 1, _, _, _, hjl, zk30, k_step HRL.out hjl HZ.out HIFF.out HV5.out, HS.out⟩
          case measure => simp [intOf]; omega
         ·have HEND := Lib.hid (k_end HRL.out hx hy (fun h => absurd h zk30) HS.out)
          go_wp2; go_end0
          exact HEND.out
        ·have e1 : decide ((j : Int) < (m.f4.length : Int)) = false := decide_eq_false zk12
         have e2 : decide (j < m.f4.length) = false := decide_eq_false hjl; have HEND := Lib.hid (k_end HRL.out hx hy (fun _ => by omega) HS.out); go_wp2; go_end0
         exact HEND.out
      ·have HNO := Lib.hid (show ¬ okM (d + 1) (64 - x) (4096 - y) m from fun c => by have := okM_op c; rw [op_else ⟨h0, zk12, zk12, zk12, hC, zk12, zk12, zk12⟩] at this; cases this)
       obtain ⟨o, ho⟩ : ∃ o, m.f0 = o := ⟨_, rfl⟩
       rw [ho] at h0 hB hC hD b0; have t0 : (o == (0 : Int)) = false := zk55
       have t1 : (o == (1 : Int)) = false := zk55
       have t2 : (o == (2 : Int)) = false := zk55
       have t3 : (o == (3 : Int)) = false := zk55
       have t4 : (o == (4 : Int)) = false := zk55
       have t5 : (o == (5 : Int)) = false := zk55
       have t6 : (o == (6 : Int)) = false := zk55
       have t7 : (o == (7 : Int)) = false := zk55
       have HO := Lib.hid ho; clear h0 hB hC hD ho; (go_wp2_with ((with_reducible refine gate_store (t := 4) (p := 37) rfl ?_); go_must (refine store_event (t := 4) (p := 37) (v := .const (.bool true)) (w1 := World.setCell w3 ⟨sb, 2, none⟩ (.bool true)) ?hg ?ho ?hn ?hr ?_; (case ho => exact zk16); (case hg => exact zk16); (case hn => exact zk16); (case hr => exact zk9); intro w3 hw3; have hs := HS.out.flag HGN.out true; rw [← hw3] at hs; clear HS hw3; clear c0 c1 c2 f0 f1 f2 b0 b1 b2 b3 b4; obtain ⟨⟨c0, c1, c2, f0, f1, f2⟩, b0, b1, b2, b3, b4⟩ := hs.facts; have HS := Lib.hid hs; clear hs))); go_end0
       exact look_bad HNO.out HS.out
end Go.Proofs.Ytlkhdbfhnpbbhaa
namespace Go.Proofs.Ytlkhdbfhnpbbhaa
open Go.RowKit Go.Proofs.YtlkhdbfhnpbbhaaW.PrintWords Go.Proofs.YtlkhdbfhnpbbhaaW.PrintLast Go.Proofs.YtlkhdbfhnpbbhaaW.PrintMore Go.Proofs.Ytlkhdbfhnpbbhaa.Ix Go.Proofs.Ytlkhdbfhnpbbhaa.Tx Go.Proofs.Ytlkhdbfhnpbbhaa.Mx Go.Proofs.Ytlkhdbfhnpbbhaa.Pure
set_option maxRecDepth 100000 in
set_option maxHeartbeats 8000000 in
theorem rmcheck_u {w : World} {m : MT} {A3 A4 : Option Addr} {c3 c4 : Nat} (hmk : MK w m A3 c3 A4 c4) (hwm : WM m) :
  Calls Try.prog 28 #[mval m A3 c3 A4 c4] w fun e w' => e = .returned (.bool (decide (okM 8 64 4096 m))) ∧ Below w.heap.size w w' := by
 have HMK := Lib.hid hmk; have HWM := Lib.hid hwm; have hz : (1 : Int) = 9 - ((8 : Nat) : Int) := zk40
 clear hmk hwm; go_enter Try.func28, Try.ntmps28; have HZ := Lib.hid hz; clear hz
 go_wp2_with (first
  | ((with_reducible refine gate_dst (N := 1) rfl ?_); go_must (refine box_event ?hg (N := 1) ?hd (cs := mobj m A3 c3 A4 c4) (t := 54) ?hr ?_; (case hd => exact zk16); (case hg => exact zk16); (case hr => exact zk9); intro gb hg w1 hbox hb1; obtain ⟨b0, b1, b2, b3, b4⟩ := box5 hbox; have HBOX := Lib.hid hbox; have HB1 := Lib.hid hb1; have HG := Lib.hid hg; clear hbox hb1 hg))
  | ((with_reducible refine gate_dst (N := 5) rfl ?_); go_must (refine box_event ?hg (N := 5) ?hd (cs := scells 0 0 false) (t := 84) ?hr ?_; (case hd => exact zk16); (case hg => exact zk16); (case hr => exact zk9); intro rb hr2 w2 hroom hb2; have hbox2 := (hb2.block gb (Array.getElem?_eq_some_iff.1 HBOX.out).1).trans HBOX.out; clear b0 b1 b2 b3 b4; obtain ⟨b0, b1, b2, b3, b4⟩ := box5 hbox2; have HRB := Lib.hid (show w.heap.size ≤ rb by rw [hr2]; exact HB1.out.size); have HB2 := Lib.hid (HB1.out.trans (hb2.mono HB1.out.size)); have HC := Lib.hid (look_u 8 (Nat.le_refl _) HMK.out HWM.out HB2.out HRB.out (Nat.zero_le 64) (Nat.zero_le 4096) hroom); rw [← HZ.out] at HC; clear hroom hb2 hr2 hbox2))
  | (go_at_call 49; go_must (refine HC.out.mono ?_; rintro e w5 ⟨x5, y5, bad5, rfl, hiff, -, hr5, hb5, -⟩; obtain ⟨c0, c1, c2, -, -, -⟩ := sz3 hr5; have HIFF := Lib.hid hiff; have HB5 := Lib.hid (HB2.out.trans (hb5.mono HRB.out)); clear hb5 hiff hr5 b0 b1 b2 b3 b4)))
 go_ret
 refine ⟨?_, HB5.out⟩; rw [show decide (okM 8 64 4096 m) = !bad5 by rw [Bool.eq_iff_iff, decide_eq_true_iff]; simp only [Bool.not_eq_true']; exact HIFF.out.symm]; rfl
end Go.Proofs.Ytlkhdbfhnpbbhaa
namespace Go.Proofs.Ytlkhdbfhnpbbhaa
open Go.RowKit Go.Maps Go.Proofs.YtlkhdbfhnpbbhaaW.PrintWords Go.Proofs.YtlkhdbfhnpbbhaaW.PrintLast Go.Proofs.YtlkhdbfhnpbbhaaW.PrintMore Go.Proofs.Ytlkhdbfhnpbbhaa.Ix Go.Proofs.Ytlkhdbfhnpbbhaa.Tx Go.Proofs.Ytlkhdbfhnpbbhaa.Mx Go.Proofs.Ytlkhdbfhnpbbhaa.Pure
theorem reval_u {w : World} {m : MT} {A3 A4 A : Option Addr} {c3 c4 c : Nat} {l : List LB} (hmk : MK w m A3 c3 A4 c4) (hok : okM 8 64 4096 m)
  (hC : Kd.C k41 w A l.length l) (hc : l.length ≤ c) (hl : l.length ≤ 8) :
  Calls Try.prog 48 #[mval m A3 c3 A4 c4, .slice A l.length c] w fun e w' => e = .returned (.bool (matchB m l)) ∧ Below w.heap.size w w' := by
 have h := varveref12_Eval.calls (l.length + 20 + 8 * 80) m.f0 m.f1 m.f2 A3 c3 m.f3 A4 c4 m.f4 A c l _ w hmk.g3 hmk.l3 hmk.g4 hmk.l4 hC hc (reval_eq l zk12 8 64 4096 m hok (Nat.le_refl _) _ (Nat.le_refl _)); rw [show matchB m l = evalD 8 m l by unfold matchB; rw [decide_eq_true hok, Bool.true_and]]; exact h
set_option maxRecDepth 100000 in
set_option maxHeartbeats 8000000 in
theorem rsel_u {f : Nat → Prop} {w : World} {base gb : Nat} {S : List (List LB)} (h : XR f w base gb S) {m : MT} {A3 A4 : Option Addr} {c3 c4 : Nat} (hmk : MK w m A3 c3 A4 c4) (hwm : WM m) (hok : okM 8 64 4096 m) :
  Calls Try.prog 27 #[.pointer (some ⟨gb, 0, none⟩), mval m A3 c3 A4 c4] w
   fun e w' => ∃ v, e = .returned (.tuple #[v, .int .i64 0]) ∧ Kd.R (Kd.int .i64) 3 w' w.heap.size (fun _ => True) v (sel (matchB m) S S.length) ∧ Below w.heap.size w w' := by
 have HX := Lib.hid h; have hlen := h.len; obtain ⟨v0, hv0, hr0⟩ := h.cells; obtain ⟨A0, c0, rfl, hcc, hCS⟩ := Kd.R_reads hr0; have HV0 := Lib.hid hv0; have HCS := Lib.hid hCS; have HMK := Lib.hid hmk; have HWM := Lib.hid hwm; have HOKM := Lib.hid hok; have HOK := Lib.hid (decide_eq_true hok); obtain ⟨q, hq⟩ : ∃ q, matchB m = q := ⟨_, rfl⟩
 have HQ := Lib.hid hq; rw [hq]; clear h hr0 hCS hv0 hq hmk hwm hok; go_enter Try.func27, Try.ntmps27
 go_wp2_with (first
   | ((with_reducible refine gate_dst (N := 3) rfl ?_); go_must (refine box_event ?hg (N := 3) ?hd (cs := mobj m A3 c3 A4 c4) (t := 54) ?hr ?_; (case hd => exact zk16); (case hg => exact zk16); (case hr => exact zk9); intro bx hg w1 hbox hb1; obtain ⟨b0, b1, b2, b3, b4⟩ := box5 hbox; have HBOX := Lib.hid hbox; have HB1 := Lib.hid hb1; clear hbox hb1 hg))
   | (go_at_call 28; go_must (refine (rmcheck_u (HMK.out.below HB1.out) HWM.out).mono ?_; rintro e w2 ⟨rfl, hb2⟩; rw [HOK.out]; have hbox2 := (hb2.block bx (Array.getElem?_eq_some_iff.1 HBOX.out).1).trans HBOX.out; clear b0 b1 b2 b3 b4; obtain ⟨b0, b1, b2, b3, b4⟩ := box5 hbox2; have HB2 := Lib.hid (HB1.out.trans (hb2.mono HB1.out.size)); have HBX := Lib.hid hbox2; clear hbox2 hb2)))
 go_loopw [6, 7] (fun v6 v7 wr => ∃ i : Nat, i ≤ S.length ∧ v7 = .int .i64 (i : Int) ∧ Kd.R (Kd.int .i64) 3 wr w2.heap.size (fun _ => True) v6 (sel q S i) ∧ Below w2.heap.size w2 wr)
  (fun _ v7 _ => S.length - (intOf v7).toNat)
 case atStart => exact ⟨0, Nat.zero_le _, rfl, Kd.R_nil _ _ _ _ _, Below.refl _ _⟩
 case round =>
  obtain ⟨i, hi, rfl, hr, hb⟩ := hrel; have hbw := HB2.out.trans (hb.mono HB2.out.size); have cc0 := (hbw.cell (p := ⟨gb, 0, none⟩) HX.out.lt).trans (blk_cell HV0.out 0); have hbx := (hb.block bx (Array.getElem?_eq_some_iff.1 HBX.out).1).trans HBX.out; clear b0 b1 b2 b3 b4; obtain ⟨b0, b1, b2, b3, b4⟩ := box5 hbx; have HBXR := Lib.hid hbx; by_cases hlt : i < S.length
  ·obtain ⟨ad, A', c', rfl, hcell, hle, hC'⟩ := set_at HCS.out i hlt
   have hc2 := (hbw.cell (World.block_lt_of_cell? w _ hcell)).trans hcell
   have hs8 : (S.getD i []).length ≤ 8 := by
    have : S.getD i [] ∈ S := zk47
    exact zk130
   have hsl := sel_len q S i; have hsu := sel_succ q S i; have hC2 := Kd.C_below (Kd.C_below hC' hbw) (below_drew (Below.refl _ wr)); obtain ⟨x, hx⟩ : ∃ x, S.getD i [] = x := ⟨_, rfl⟩
   rw [hx] at hc2 hle hC2 hs8 hsu; have HEV := Lib.hid (reval_u ((HMK.out.below hbw).below (below_drew (Below.refl _ wr))) HOKM.out hC2 hle hs8); rw [HQ.out] at HEV; have e1 : decide ((i : Int) < (S.length : Int)) = true := decide_eq_true zk12; have e2 : decide (i < S.length) = true := decide_eq_true hlt; have HB := Lib.hid (hb.trans ((below_drew (Below.refl _ wr)).mono hb.size)); have HR := Lib.hid (Kd.R_drew hr); have HC0 := Lib.hid cc0; have HC2 := Lib.hid hc2; obtain ⟨qx, hqx⟩ : ∃ qx, q x = qx := ⟨_, rfl⟩
   rw [hqx] at HEV hsu; have HSU := Lib.hid hsu; clear hcell hC' hC2 hle hb hr hx hsu hbw hbx hqx; go_wp2; clear b0 b1 b2 b3 b4 cc0 hc2
   go_region_held3 (fun w' => (w'.cell? ⟨bx, 0, none⟩ = some (.int .i64 m.f0) ∧ w'.cell? ⟨bx, 1, none⟩ = some (.string m.f1) ∧ w'.cell? ⟨bx, 2, none⟩ = some (.string m.f2) ∧ w'.cell? ⟨bx, 3, none⟩ = some (.slice A3 m.f3.length c3) ∧ w'.cell? ⟨bx, 4, none⟩ = some (.slice A4 m.f4.length c4)) ∧ w'.cell? ⟨gb, 0, none⟩ = some (.slice (some ad) S.length c0) ∧ w'.cell? (ad.add i) = some (.slice A' x.length c'))
    (exact ⟨box5 (by first | exact HBXR.out | exact HBX8.out), by first | exact HC0.out | exact HC08.out, by first | exact HC2.out | exact HC28.out⟩)
    (first | (go_at_call 48; (with_reducible refine HEV.out.mono ?_); rintro e w8 ⟨rfl, hb8⟩; have hb8' : Below wr.heap.size wr w8 := ((below_drew (Below.refl _ wr)).trans hb8); have HBX8 := Lib.hid ((hb8'.block bx (Array.getElem?_eq_some_iff.1 HBXR.out).1).trans HBXR.out); have HC08 := Lib.hid ((hb8'.cell (World.block_lt_of_cell? _ _ HC0.out)).trans HC0.out); have HC28 := Lib.hid ((hb8'.cell (World.block_lt_of_cell? _ _ HC2.out)).trans HC2.out); have hB8 := HB.out.trans (hb8.mono HB.out.size); have hR8 := Kd.R_below HR.out hb8; clear HB HR hb8 hb8'; have HB := Lib.hid hB8; have HR := Lib.hid hR8; clear hB8 hR8))
   cases qx
   ·go_wp2
    go_roundw
    case rel => exact ⟨i + 1, hlt, zk30, by rw [HSU.out]; simpa using HR.out, HB.out⟩
    case measure => simp [intOf]; omega
   ·go_wp2_with (at_builtin; go_must (refine Kd.R_append (Kd.int .i64) (w0 := w2) w2.heap.size rfl (.tmp 29) (.tmp 31) 38 3 (.int .i64 0) 8 rfl Try.underlying38 infoI rfl zk40 zk40 u6 (sel q S i) ((i : Nat) : Int) [.int .i64 ((i : Nat) : Int)] (fun _ => True) (fun _ => False) rfl rfl rfl (fun _ h => h.elim) (fun _ _ => trivial) HR.out HB.out HB.out.size zk12 ?_; intro v1 w9 hr9 hb9 _ _; have HR9 := Lib.hid hr9; have HB9 := Lib.hid hb9; clear hr9 hb9))
    go_roundw
    case rel => exact ⟨i + 1, hlt, zk30, by rw [HSU.out]; simpa using HR9.out, HB9.out⟩
    case measure => simp [intOf]; omega
  ·obtain rfl : i = S.length := by omega
   have e1 : decide ((S.length : Int) < (S.length : Int)) = false := decide_eq_false zk12; have e2 : decide (S.length < S.length) = false := decide_eq_false zk12; have HR := Lib.hid hr; have HB := Lib.hid (HB2.out.trans (hb.mono HB2.out.size)); clear hr hb hbx hbw; go_wp2; go_ret2
   exact ⟨_, rfl, Kd.R_lower HR.out HB2.out.size, HB.out⟩
set_option maxRecDepth 100000 in
set_option maxHeartbeats 8000000 in
theorem rsel_no {w : World} {gb : Nat} {m : MT} {A3 A4 : Option Addr} {c3 c4 : Nat} (hmk : MK w m A3 c3 A4 c4) (hwm : WM m) (hok : ¬ okM 8 64 4096 m) :
  Calls Try.prog 27 #[.pointer (some ⟨gb, 0, none⟩), mval m A3 c3 A4 c4] w
   fun e w' => e = .returned (.tuple #[.slice none 0 0, .int .i64 5]) ∧ Below w.heap.size w w' := by
 have HMK := Lib.hid hmk; have HWM := Lib.hid hwm; have HOK := Lib.hid (decide_eq_false hok); clear hmk hwm hok; go_enter Try.func27, Try.ntmps27
 go_wp2_with (first
   | ((with_reducible refine gate_dst (N := 3) rfl ?_); go_must (refine box_event ?hg (N := 3) ?hd (cs := mobj m A3 c3 A4 c4) (t := 54) ?hr ?_; (case hd => exact zk16); (case hg => exact zk16); (case hr => exact zk9); intro gb hg w1 hbox hb1; obtain ⟨b0, b1, b2, b3, b4⟩ := box5 hbox; have HBOX := Lib.hid hbox; have HB1 := Lib.hid hb1; clear hbox hb1 hg))
   | (go_at_call 28; go_must (refine (rmcheck_u (HMK.out.below HB1.out) HWM.out).mono ?_; rintro e w2 ⟨rfl, hb2⟩; rw [HOK.out]; have HB2 := Lib.hid (HB1.out.trans (hb2.mono HB1.out.size)); clear b0 b1 b2 b3 b4 hb2)))
 go_ret2
 exact ⟨rfl, HB2.out⟩
end Go.Proofs.Ytlkhdbfhnpbbhaa
namespace Go.Proofs.Ytlkhdbfhnpbbhaa
open Go.RowKit Go.Proofs.YtlkhdbfhnpbbhaaW.PrintWords Go.Proofs.YtlkhdbfhnpbbhaaW.PrintLast Go.Proofs.YtlkhdbfhnpbbhaaW.PrintMore Go.Proofs.Ytlkhdbfhnpbbhaa.Ix Go.Proofs.Ytlkhdbfhnpbbhaa.Tx Go.Proofs.Ytlkhdbfhnpbbhaa.Mx Go.Proofs.Ytlkhdbfhnpbbhaa.Pure
theorem okOp_cpy (m : MT) (l : List MT) (h : l.length = m.f4.length) : okOp ⟨m.f0, m.f1, m.f2, m.f3, l⟩ = okOp m := by
 unfold okOp plainB namedB; simp only [h]
theorem sumN_map (f : MT → Nat) (g : MT → MT) (l : List MT) : sumN f (l.map g) = sumN (fun x => f (g x)) l := by
 unfold sumN; rw [List.map_map]; rfl
theorem okD_cpy : ∀ (d e : Nat), d ≤ e → ∀ m, okD d (cpy e m) = okD d m
 | 0, e, h, m => rfl
 | d + 1, e, h, m => by
  obtain ⟨e, rfl⟩ : ∃ n, e = n + 1 := ⟨e - 1, zk12⟩
  have ih := okD_cpy d e zk12; rw [cpy]; simp only [okD]; rw [okOp_cpy m _ (List.length_map _), List.all_map]; congr 2; funext x; exact ih x
theorem nodes_cpy : ∀ (d e : Nat), d ≤ e → ∀ m, nodesD d (cpy e m) = nodesD d m
 | 0, e, h, m => rfl
 | d + 1, e, h, m => by
  obtain ⟨e, rfl⟩ : ∃ n, e = n + 1 := ⟨e - 1, zk12⟩
  have ih := nodes_cpy d e zk12; rw [cpy]; simp only [nodesD]; rw [sumN_map]; congr 2; funext x; exact ih x
theorem bytes_cpy : ∀ (d e : Nat), d ≤ e → ∀ m, bytesD d (cpy e m) = bytesD d m
 | 0, e, h, m => rfl
 | d + 1, e, h, m => by
  obtain ⟨e, rfl⟩ : ∃ n, e = n + 1 := ⟨e - 1, zk12⟩
  have ih := bytes_cpy d e zk12; rw [cpy]; simp only [bytesD]; rw [sumN_map]; congr 2; funext x; exact ih x
theorem okM_cpy {d e : Nat} (h : d ≤ e) (n b : Nat) (m : MT) : okM d n b (cpy e m) ↔ okM d n b m := by
 unfold okM; rw [okD_cpy d e h, nodes_cpy d e h, bytes_cpy d e h]
theorem kidsE_map (f : MT → Bool) (o : Bool) (g : MT → MT) : ∀ l : List MT, kidsE f o (l.map g) = kidsE (fun x => f (g x)) o l
 | [] => rfl
 | k :: r => by rw [List.map_cons, kidsE, kidsE, kidsE_map f o g r]
theorem eval_cpy (l : List LB) : ∀ (d e : Nat), d ≤ e → ∀ m, evalD d (cpy e m) l = evalD d m l
 | 0, e, h, m => rfl
 | d + 1, e, h, m => by
  obtain ⟨e, rfl⟩ : ∃ n, e = n + 1 := ⟨e - 1, zk12⟩
  have ih := eval_cpy l d e zk12; rw [cpy]; simp only [evalD]; rw [kidsE_map]; have h1 : (fun x => evalD d (cpy e x) l) = fun x => evalD d x l := by funext x; exact ih x
  have h2 : evalD d (rd_T54 (m.f4.map (cpy e)) 0) l = evalD d (rd_T54 m.f4 0) l := by
   cases m.f4 with
   | nil => rfl
   | cons k r => exact ih k
  rw [h1, h2]
theorem match_cpy (m : MT) : matchB (cpy 12 m) = matchB m := by
 funext l; unfold matchB; rw [eval_cpy l 8 12 zk40, decide_eq_decide.2 (okM_cpy zk40 64 4096 m)]
theorem wm_cpy : ∀ (e : Nat) (m : MT), WM m → WM (cpy e m)
 | 0, m, h => WM.mk h.n h.v h.l h.s (by simp [cpy]) (by simp [cpy])
 | e + 1, m, h => WM.mk h.n h.v h.l h.s (by simp only [cpy, List.length_map]; exact h.c) (fun k hk => by
   simp only [cpy] at hk; obtain ⟨x, hx, rfl⟩ := List.mem_map.1 hk
   exact wm_cpy e x (h.k x hx))
theorem put5_heap {w : World} {kb : Nat} {y : MT} {K3 : Option Addr} {q3 : Nat} {K4 : Option Addr} {q4 k : Nat} (h : k ≠ kb) : (put5 w kb y K3 q3 K4 q4).heap[k]? = w.heap[k]? := by
 unfold put5; exact (Below.heap_setCell _ ⟨kb, 4, none⟩ _ k h).trans ((Below.heap_setCell _ ⟨kb, 3, none⟩ _ k h).trans ((Below.heap_setCell _ ⟨kb, 2, none⟩ _ k h).trans ((Below.heap_setCell _ ⟨kb, 1, none⟩ _ k h).trans (Below.heap_setCell _ ⟨kb, 0, none⟩ _ k h))))
theorem copy_mk {w : World} {base : Nat} {ok : Nat → Prop} {x : MT} {a : Int} {b c : ByteArray} {B3 B4 : Option Addr} {n3 e3 n4 e4 : Nat} (h : k54.M w base ok x [.int .i64 a, .string b, .string c, .slice B3 n3 e3, .slice B4 n4 e4]) : MK w x B3 e3 B4 e4 := by
 obtain ⟨A3, c3, A4, c4, e, l3, g3, l4, g4⟩ := k54_open (k54.K_of_M h); simp only [List.cons.injEq, Value.slice.injEq, and_true] at e; obtain ⟨-, -, -, ⟨rfl, -, rfl⟩, rfl, -, rfl⟩ := e; exact ⟨l3, g3, l4, g4⟩
theorem copy_open {w : World} {base : Nat} {ok : Nat → Prop} {x : MT} {a : Int} {b c : ByteArray} {v3 v4 : Value} (h : k54.M w base ok x [.int .i64 a, .string b, .string c, v3, v4]) : ∃ B3 e3 B4 e4, v3 = .slice B3 x.f3.length e3 ∧ v4 = .slice B4 x.f4.length e4 := by
 obtain ⟨A3, c3, A4, c4, e, l3, g3, l4, g4⟩ := k54_open (k54.K_of_M h); simp only [List.cons.injEq, and_true] at e; exact ⟨A3, c3, A4, c4, e.2.2.2.1, e.2.2.2.2⟩
set_option maxRecDepth 100000 in
set_option maxHeartbeats 8000000 in
theorem copyM_u {w : World} {m : MT} {A3 A4 : Option Addr} {c3 c4 : Nat} (hmk : MK w m A3 c3 A4 c4) (hwm : WM m) :
  Calls Try.prog 26 #[mval m A3 c3 A4 c4] w fun e w' => ∃ B3 e3 B4 e4, e = .returned (mval (cpy 12 m) B3 e3 B4 e4) ∧ MK w' (cpy 12 m) B3 e3 B4 e4 ∧ Below w.heap.size w w' := by
 have HMK := Lib.hid hmk; have HWM := Lib.hid hwm; have HZ := Lib.hid (show (0 : Int) = 12 - ((12 : Nat) : Int) by decide); clear hmk hwm; go_enter Try.func26, Try.ntmps26
 go_wp2_with (first
  | ((with_reducible refine gate_dst (N := 1) rfl ?_); go_must (refine box_event ?hg (N := 1) ?hd (cs := mobj m A3 c3 A4 c4) (t := 54) ?hr ?_; (case hd => exact zk16); (case hg => exact zk16); (case hr => exact zk9); intro gb hg w1 hbox hb1; have HBOX := Lib.hid hbox; have HB1 := Lib.hid hb1; clear hbox hb1 hg))
  | ((with_reducible refine gate_dst (N := 2) rfl ?_); go_must (refine box_event ?hg (N := 2) ?hd (cs := zobj) (t := 54) ?hr ?_; (case hd => exact zk16); (case hg => exact zk16); (case hr => exact zk9); intro rb hg w2 hres hb2; obtain ⟨b0, b1, b2, b3, b4⟩ := box5 ((hb2.block gb (Array.getElem?_eq_some_iff.1 HBOX.out).1).trans HBOX.out); have HRES := Lib.hid hres; have HB2 := Lib.hid (HB1.out.trans (hb2.mono HB1.out.size)); have HRB := Lib.hid (show w.heap.size ≤ rb by rw [hg]; exact HB1.out.size); have HC := Lib.hid (copy_u 12 (Nat.le_refl _) HMK.out HWM.out HB2.out); rw [← HZ.out] at HC; clear hres hb2 hg))
  | (go_at_call 47; go_must (refine HC.out.mono ?_; rintro e w3 ⟨v3, v4, rfl, hm3, hb3⟩; obtain ⟨B3, e3, B4, e4, rfl, rfl⟩ := copy_open hm3; have hres3 := (hb3.block rb (Array.getElem?_eq_some_iff.1 HRES.out).1).trans HRES.out; obtain ⟨z0, z1, z2, z3, z4, x0, x1, x2, x3, x4⟩ := zero5 hres3; have HRES3 := Lib.hid hres3; have HM3 := Lib.hid hm3; have HRL := Lib.hid (Array.getElem?_eq_some_iff.1 HRES.out).1; have HB3 := Lib.hid hb3; clear hm3 hb3 hres3 b0 b1 b2 b3 b4))
  | ((with_reducible refine gate_store (t := 54) (p := 2) rfl ?_); go_must (refine store_event (t := 54) (p := 2) (v := .tmp 4) (w1 := put5 w3 rb (cpy 12 m) B3 e3 B4 e4) ?hg ?ho ?hn ?hr ?_; (case ho => exact zk16); (case hg => exact zk16); (case hn => exact zk16); (case hr => exact zk89); intro w7 hw7; have HW7 := Lib.hid hw7; clear hw7 z0 z1 z2 z3 z4 x0 x1 x2 x3 x4)))
 have hres7 : w7.heap[rb]? = some (.cells (mobj (cpy 12 m) B3 e3 B4 e4) 54 (0, 0)) := by rw [HW7.out]; exact put5_at HRES3.out
 refine bodyPost_ret (results_cell_row rfl _ _ rb 54 (mobj (cpy 12 m) B3 e3 B4 e4) (0, 0) _ rfl hres7 Try.underlying54 rfl zk3) rfl ?_; refine ⟨_, _, _, _, rfl, ?_, ?_⟩
 ·refine copy_mk (k54.M_move (fun k hk => ?_) HM3.out); rw [HW7.out]; exact put5_heap (by have := HRL.out; omega)
 ·rw [HW7.out]; exact put5_below (HB2.out.trans (HB3.out.mono HB2.out.size)) HRB.out
end Go.Proofs.Ytlkhdbfhnpbbhaa
namespace Go.Proofs.Ytlkhdbfhnpbbhaa
open Go.RowKit Go.ChangeShapes Go.WideShapes Go.Deep Go.Proofs.YtlkhdbfhnpbbhaaW.PrintWords Go.Proofs.YtlkhdbfhnpbbhaaW.PrintLast Go.Proofs.YtlkhdbfhnpbbhaaW.PrintMore Go.Proofs.Ytlkhdbfhnpbbhaa.Ix Go.Proofs.Ytlkhdbfhnpbbhaa.Tx Go.Proofs.Ytlkhdbfhnpbbhaa.Mx Go.Proofs.Ytlkhdbfhnpbbhaa.Pure
def OpensB {α : Type} (N : Nat) (P : Program) (t : TypeId) (k : Kd α) (wf : α → Prop) : Prop :=
 ∀ {H : Type} {enc : TypeId × Value → H} {w : World} {base : Nat} {spare : Nat → Bool} {held : Bool} {fuel : Nat} {cs : List Value} {x : DataW H × List MemPlace},
  DataW.trod enc P w base spare held fuel t cs = some x → SizeOf.sizeOf x.1 < N → (∀ n ∈ x.1.weights P t, n ≤ reachBytes) → ∃ y, k.K w y cs ∧ wf y
theorem slice_size {H : Type} (a b : List (DataW H)) {d : DataW H} (h : d ∈ a) : SizeOf.sizeOf d < SizeOf.sizeOf (DataW.slice a b) := by
 have := List.sizeOf_lt_of_mem h; simp only [DataW.slice.sizeOf_spec]; omega
theorem agg_size {H : Type} (a : List (DataW H)) {d : DataW H} (h : d ∈ a) : SizeOf.sizeOf d < SizeOf.sizeOf (DataW.agg a) := by
 have := List.sizeOf_lt_of_mem h; simp only [DataW.agg.sizeOf_spec]; omega
section
variable {P : Program} {t e : TypeId}
theorem opens_B {α : Type} {k : Kd α} {wf : α → Prop} (h : Opens P t k wf) (N : Nat) : OpensB N P t k wf := fun hx _ hs => h hx hs
theorem opensB_slice {N : Nat} {α : Type} {d : Kd α} {wf : α → Prop} {B : Nat} (ht : P.underlying t = some (.slice e)) (hc : P.cellsOf e = d.sz) (hB : P.bytesOf e = B) (he : OpensB N P e d wf) :
  OpensB N P t (Kd.slice e d) (fun xs => xs.length * B ≤ 140737488351232 ∧ xs.length ≤ 9223372036854775807 ∧ ∀ x ∈ xs, wf x) := by
 intro H enc w base spare held fuel cs x h hN hs
 rcases open_slice ht h with ⟨rfl, rfl⟩ | ⟨a, len, cap, m, n, D, Pl, rfl, hb, hl, hm, hmm, rfl, hi⟩
 ·exact ⟨[], ⟨none, 0, rfl, Nat.le_refl _, Kd.C_nil d w⟩, zk30, zk30, zk30⟩
 ·have hlm : len ≤ m := by rw [hmm]; split <;> omega
  have each : ∀ i, i < len → ∃ y cs', w.cells? base (a.add (i * P.cellsOf e)) (P.cellsOf e) = some cs' ∧ d.K w y cs' ∧ wf y := fun i hil => by
   obtain ⟨cs', h1, h2⟩ := hi i zk12
   obtain ⟨y, h3, h4⟩ := he h2 (Nat.lt_of_le_of_lt (Nat.le_of_lt (slice_size _ _ (List.mem_map.2 ⟨i, List.mem_range.2 hil, rfl⟩))) hN) (fun n hn => hs n (by
    rw [DataW.weights, ht]; refine List.mem_cons_of_mem _ (List.mem_append_left _ (weightsAll_mem (d := D i) ?_ n hn))
    exact List.mem_map.2 ⟨i, List.mem_range.2 hil, rfl⟩))
   exact ⟨y, cs', h1, h3, h4⟩
  have mk : ∀ k, k ≤ len → ∃ ys : List α, ys.length = k ∧ ∀ i y, ys[i]? = some y → ∃ cs', w.cells? base (a.add (i * P.cellsOf e)) (P.cellsOf e) = some cs' ∧ d.K w y cs' ∧ wf y := by
   intro k
   induction k with
   | zero => intro _; exact ⟨[], rfl, fun i y hy => by simp at hy⟩
   | succ k ih =>
    intro hk; obtain ⟨ys, h1, h2⟩ := ih zk12; obtain ⟨y, cs', hy⟩ := each k zk12; refine ⟨ys ++ [y], by simp [h1], fun i z hz => ?_⟩; by_cases c : i < k
    ·rw [List.getElem?_append_left zk12] at hz; exact h2 i z hz
    ·have hik : i = k := by
      have := (List.getElem?_eq_some_iff.1 hz).1; rw [List.length_append, List.length_singleton] at this; omega
     subst hik; rw [List.getElem?_append_right zk12, h1, Nat.sub_self, List.getElem?_cons_zero, Option.some.injEq] at hz; subst hz; exact ⟨cs', hy⟩
  obtain ⟨ys, h1, h2⟩ := mk len (Nat.le_refl _); have hmx : maxLen = 9223372036854775807 := rfl; refine ⟨ys, ⟨some a, cap, by rw [h1], zk12, ?_⟩, ?_, zk12, fun y hy => ?_⟩
  ·refine ⟨rfl, zk12, fun _ => ⟨a, rfl, fun j p hp => ?_⟩⟩; obtain ⟨cs', h3, h4, _⟩ := h2 j p hp; obtain ⟨_, hlen, hcell⟩ := World.cells?_some h3; refine ⟨cs', by rw [hlen, hc], h4, fun i u hu => ?_⟩; have hil := (List.getElem?_eq_some_iff.1 hu).1; rw [← hc, ← Go.Deep.add_add, hcell i zk12]; exact hu
  ·exact zk99
  ·exact zk120
def OpensFieldsB {α : Type} (N : Nat) (P : Program) : List Field → Nat → Kd α → (α → Prop) → Prop := fun fs off k wf =>
 ∀ {H : Type} {enc : TypeId × Value → H} {w : World} {base : Nat} {spare : Nat → Bool} {held : Bool} {fuel : Nat} {cs : List Value} {xs : List (DataW H × List MemPlace)},
  (∀ (i : Nat) (f : Field), fs[i]? = some f → DataW.trod enc P w base spare held fuel f.type ((cs.drop f.offset).take (P.cellsOf f.type)) = xs[i]?) → xs.length = fs.length → cs.length = off + k.sz → (∀ x ∈ xs, SizeOf.sizeOf x.1 < N) →
  (∀ n ∈ DataW.weightsEach P (fs.map (·.type)) (xs.map (·.1)), n ≤ reachBytes) → ∃ y, k.K w y (cs.drop off) ∧ wf y
theorem opensFieldsB_one {N : Nat} {α : Type} {f : Field} {off : Nat} {k : Kd α} {wf : α → Prop} (ho : f.offset = off) (hc : P.cellsOf f.type = k.sz) (h : OpensB N P f.type k wf) : OpensFieldsB N P [f] off k wf := by
 intro H enc w base spare held fuel cs xs hx hl hcs hN hs
 obtain ⟨x, rfl⟩ : ∃ x, xs = [x] := by
  cases xs with
  | nil => simp at hl
  | cons x r => cases r with
   | nil => exact ⟨x, rfl⟩
   | cons _ _ => simp at hl
 have h0 := hx 0 f rfl; rw [ho, hc, List.take_of_length_le zk88] at h0; exact h h0 (hN x List.mem_cons_self) (fun n hn => hs n (by simpa [DataW.weightsEach] using hn))
theorem opensFieldsB_cons {N : Nat} {α β : Type} {f : Field} {fs : List Field} {off : Nat} {a : Kd α} {b : Kd β} {wa : α → Prop} {wb : β → Prop} (ho : f.offset = off) (hc : P.cellsOf f.type = a.sz) (h : OpensB N P f.type a wa) (hr : OpensFieldsB N P fs (off + a.sz) b wb) :
  OpensFieldsB N P (f :: fs) off (Kd.pair a b) (fun y => wa y.1 ∧ wb y.2) := by
 intro H enc w base spare held fuel cs xs hx hl hcs hN hs
 obtain ⟨x, r, rfl⟩ : ∃ x r, xs = x :: r := by
  cases xs with
  | nil => simp at hl
  | cons x r => exact ⟨x, r, rfl⟩
 have h0 := hx 0 f rfl; have hsz : (Kd.pair a b).sz = a.sz + b.sz := rfl; rw [ho, hc] at h0; simp only [List.map_cons, DataW.weightsEach, List.mem_append] at hs; obtain ⟨y, hy, wy⟩ := h h0 (hN x List.mem_cons_self) (fun n hn => hs n (.inl hn)); obtain ⟨z, hz, wz⟩ := hr (fun i g hg => by have := hx (i + 1) g hg; simpa using this) (by simpa using hl) zk12 (fun z hz => hN z (List.mem_cons_of_mem _ hz)) (fun n hn => hs n (.inr hn)); refine ⟨(y, z), ⟨(cs.drop off).take a.sz, (cs.drop off).drop a.sz, (List.take_append_drop _ _).symm, hy, ?_⟩, wy, wz⟩; rw [List.drop_drop]; exact hz
theorem opensB_struct {N : Nat} {α : Type} {fs : Array Field} {k : Kd α} {wf : α → Prop} (ht : P.underlying t = some (.struct fs)) (hc : P.cellsOf t = k.sz) (h : OpensFieldsB N P fs.toList 0 k wf) : OpensB (N + 1) P t k wf := by
 intro H enc w base spare held fuel cs x hx hN hs; obtain ⟨xs, n, rfl, rfl, hcl, hxl, hf⟩ := DataW.trod_struct ht hx
 have := h (enc := enc) (w := w) (base := base) (spare := spare) (held := held) (fuel := n) (cs := cs) (xs := xs) (fun i f hfi => hf i f (by simpa using hfi)) (by simpa using hxl) zk12 (fun z hz => by have := agg_size (xs.map (·.1)) (List.mem_map.2 ⟨z, hz, rfl⟩); simp only at hN; omega) (fun m hm => hs m (by
  rw [DataW.weights, ht]; exact hm))
 simpa using this
end
theorem opensM_B : ∀ N, OpensB N Try.prog 54 k54 WM
 | 0 => by intro _ h; exact absurd h (Nat.not_lt_zero _)
 | N + 1 => by
  have hk : OpensB N Try.prog 52 (Kd.slice 54 k54) (fun xs => xs.length * 88 ≤ 140737488351232 ∧ xs.length ≤ 9223372036854775807 ∧ ∀ x ∈ xs, WM x) := opensB_slice Try.underlying52 zk3 zk3 (opensM_B N); have hs : OpensB N Try.prog 51 (Kd.slice 9 Kd.string) (fun xs => xs.length * 16 ≤ 140737488351232 ∧ xs.length ≤ 9223372036854775807 ∧ ∀ x ∈ xs, x.size ≤ 140737488351232) := opens_B (opens_slice Try.underlying51 zk3 zk3 (opens_string Try.underlying9)) N; intro hx hN hw; obtain ⟨⟨o, n, v, vs, ks⟩, hK, hW⟩ := opensB_struct (N := N) (k := Kd.pair (Kd.int .i64) (Kd.pair Kd.string (Kd.pair Kd.string (Kd.pair (Kd.slice 9 Kd.string) (Kd.slice 54 k54))))) Try.underlying54 zk3 (opensFieldsB_cons rfl zk3 (opens_B (opens_int Try.underlying3) N) (opensFieldsB_cons rfl zk3 (opens_B (opens_string Try.underlying9) N) (opensFieldsB_cons rfl zk3 (opens_B (opens_string Try.underlying9) N) (opensFieldsB_cons rfl zk3 hs (opensFieldsB_one rfl zk3 hk))))) hx hN hw; obtain ⟨x1, x2, rfl, e1, ⟨x3, x4, rfl, e2, ⟨x5, x6, rfl, e3, ⟨x7, x8, rfl, ⟨A3, c3, rfl, l3, g3⟩, ⟨A4, c4, rfl, l4, g4⟩⟩⟩⟩⟩ := hK; obtain rfl : x1 = [.int .i64 o] := e1; obtain rfl : x3 = [.string n] := e2; obtain rfl : x5 = [.string v] := e3; obtain ⟨-, w1, w2, w3, w4⟩ := hW; exact ⟨⟨o, n, v, vs, ks⟩, k54_mk _ ⟨o, n, v, vs, ks⟩ l3 g3 l4 g4, WM.mk w1 w2 w3.1 w3.2.2 w4.1 w4.2.2⟩
theorem opensM : Opens Try.prog 54 k54 WM := fun hx hs => opensM_B _ hx (Nat.lt_succ_self _) hs
theorem Opens.argM {P : Program} {t : TypeId} {α : Type} {k : Kd α} {wf : α → Prop} {ts : List TypeId} {H : Type} {ds : List (DataW H)} {j : Nat} {enc : TypeId × Value → H} {W : World} {base : Nat} {spare : Nat → Bool} {held : Bool} {v : Value} {x : DataW H} {p : List MemPlace}
  (h : Opens P t k wf) (hsz : (DataW.weightsEach P ts ds).all (· ≤ reachBytes) = true) (ht : ts[j]? = some t) (hd : ds[j]? = some x) (hv : ∃ a, v = .agg a) (hx : DataW.Trod enc P W base spare held t v x p) :
  ∃ y a, v = .agg a ∧ k.K W y a.toList ∧ wf y := by
 obtain ⟨fuel, hf⟩ := hx; obtain ⟨a, rfl⟩ := hv
 obtain ⟨y, hK, hw⟩ := h hf (fun n hn => by
  have := List.all_eq_true.1 hsz _ (DataW.weights_mem_each ht hd n hn)
  simpa using this)
 exact ⟨y, a, rfl, hK, hw⟩
theorem okWide_aggM {P : Program} {W : World} {r : Reach} {base : Nat} {t : TypeId} {v : Value} {fs : Array Field} (ht : P.underlying t = some (.struct fs)) (h : Value.okWide P W r base t v) : ∃ a, v = .agg a := by
 simp only [Value.okWide, ht, Cell.okWide] at h; cases v <;> simp_all [Cell.ok]
theorem kM_open {W : World} {y : MT} {cs : List Value} (h : k54.K W y cs) : ∃ A3 c3 A4 c4, cs = [.int .i64 y.f0, .string y.f1, .string y.f2, .slice A3 y.f3.length c3, .slice A4 y.f4.length c4] ∧ MK W y A3 c3 A4 c4 := by
 obtain ⟨A3, c3, A4, c4, e, l3, g3, l4, g4⟩ := k54_open h; exact ⟨A3, c3, A4, c4, e, ⟨l3, g3, l4, g4⟩⟩
end Go.Proofs.Ytlkhdbfhnpbbhaa
