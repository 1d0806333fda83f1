/- What the laws of this folder share, part 4: walks of functions over their Go text, and plain lemmas. Conditions: as each lemma says. -/
import Derived.Test.YtlkhdbfhnpbbhaaJgM3
namespace Go.Proofs.Ytlkhdbfhnpbbhaa
set_option linter.unusedVariables false
set_option linter.unusedSimpArgs false
open Go.RowKit Go.Maps Go.Proofs.YtlkhdbfhnpbbhaaW.PrintWords Go.Proofs.YtlkhdbfhnpbbhaaW.PrintLast Go.Proofs.YtlkhdbfhnpbbhaaW.PrintMore Go.Proofs.Ytlkhdbfhnpbbhaa.Ix Go.Proofs.Ytlkhdbfhnpbbhaa.Tx Go.Proofs.Ytlkhdbfhnpbbhaa.Pure
def exS : List LB := [⟨⟨#[97]⟩, ⟨#[49]⟩⟩]
theorem exS_chk : chk exS = true := by decide +kernel
theorem exS_sel : sel (hasVal (⟨#[98]⟩ : ByteArray) (⟨#[]⟩ : ByteArray)) [exS] 1 = [0] := by decide +kernel
theorem exI : varvelaw00_SameInts.f 5 [0] [0] = some true := by decide +kernel
theorem exS_reps {w : World} {base : Nat} {ok : Nat → Prop} : Reps (k41.M w base ok) k41.sz exS [.string ⟨#[97]⟩, .string ⟨#[49]⟩] := by
  refine ⟨rfl, fun j p h => ?_⟩
  rcases j with _ | j
  · obtain rfl := Option.some.inj h
    exact ⟨_, _, rfl, rfl, rfl⟩
  · simp [exS] at h
theorem ints_R {w : World} {base : Nat} {v : Value} {xs : List Int} (h : w.ownsRow base 3 1 v xs.length (xs.map (.int .i64))) : Kd.R (Kd.int .i64) 3 w base (fun _ => True) v xs :=
  Kd.R_of_own h (fun _ _ => trivial)
set_option maxRecDepth 100000 in
set_option maxHeartbeats 8000000 in
theorem iawake_u (w : World) : Calls Try.prog 20 #[] w fun e w' => e = .returned (.bool true) ∧ Below w.heap.size w w' := by
  go_enter Try.func20, Try.ntmps20
  go_wp2_with (first
    | (go_at_call 33; go_must (refine (inew_u _).mono ?_; rintro e w1 ⟨kb, mb, rfl, hx1, hb1⟩; have HX1 := Lib.hid hx1; have HB1 := Lib.hid hb1; clear hx1 hb1))
    | ((with_reducible refine gate_dst (N := 10) rfl ?_); go_must (refine Kd.R_lit k41 _ 41 ?hg (N := 10) ?hd (xs := exS) (inner := [.string ⟨#[97]⟩, .string ⟨#[49]⟩]) (ok := fun _ => True) (okp := fun _ => True) ?hr ?hp (fun _ hk => hk) trivial (Below.refl _ _) (Nat.le_refl _) (by simp [exS]) ?_; (case hd => rfl); (case hg => rfl); (case hr => first | (go_simp; done) | (go_simp; rfl)); (case hp => exact exS_reps); intro v2 w2 ho2 hb2 hg_ hnew_; obtain ⟨A2, c2, rfl⟩ := Kd.R_slice ho2; have HO2 := Lib.hid ho2; have HB2 := Lib.hid hb2; clear hg_ hnew_ ho2 hb2))
    | (go_at_call 22; go_must (refine (iid_new (HX1.out.below HB2.out) (Nat.le_trans HB1.out.size HB2.out.size) (fun k hk => Nat.le_trans (Nat.le_trans HB1.out.size HB2.out.size) hk) HO2.out exS_chk rfl (by simp)).mono ?_; rintro e w3 ⟨rfl, hx3, hb3, -⟩; have HX3 := Lib.hid hx3; have HB3 := Lib.hid hb3; clear hx3 hb3))
    | (go_at_call 18; go_must (refine (ipost_u HX3.out (by simp) (⟨#[98]⟩ : ByteArray) (⟨#[]⟩ : ByteArray) (k := 5) (by rw [show ([] ++ [exS] : List (List LB)).length = 1 from rfl, show ([] ++ [exS] : List (List LB)) = [exS] from rfl, exS_sel]; rfl)).mono ?_; rintro e w4 ⟨v4, rfl, hr4, hb4⟩; rw [show ([] ++ [exS] : List (List LB)).length = 1 from rfl, show ([] ++ [exS] : List (List LB)) = [exS] from rfl, exS_sel] at hr4; obtain ⟨A4, c4, rfl, hle4, hC4⟩ := Kd.R_reads (ints_R (xs := [0]) hr4); have HC4 := Lib.hid hC4; have HLE4 := Lib.hid hle4; have HB4 := Lib.hid hb4; have HX4 := Lib.hid (HX3.out.below hb4); clear hr4 hb4 hC4 hle4))
    | ((with_reducible refine gate_dst (N := 23) rfl ?_); go_must ((try (refine gate_guard (by rfl) ?_; dsimp only)); refine Kd.R_lit (Kd.int .i64) _ 3 ?hg (N := 23) ?hd (xs := ([0] : List Int)) (inner := [.int .i64 0]) (ok := fun _ => True) (okp := fun _ => True) ?hr ?hp (fun _ hk => hk) trivial (Below.refl _ _) (Nat.le_refl _) (by simp) ?_; (case hd => rfl); (case hg => rfl); (case hr => first | (go_simp; done) | (go_simp; rfl)); (case hp => exact (Reps.one (show Kd.M (Kd.int .i64) _ _ _ 0 [.int .i64 0] from rfl) (Reps.none _ _))); intro v5 w5 ho5 hb5 hg_ hnew_; obtain ⟨A5, c5, rfl, hle5, hC5⟩ := Kd.R_reads ho5; have HC5 := Lib.hid hC5; have HLE5 := Lib.hid hle5; have HB5 := Lib.hid hb5; have HX5 := Lib.hid (HX4.out.below hb5); clear hg_ hnew_ ho5 hb5 hC5 hle5))
    | (go_at_call 17; go_must (refine (varvelaw00_SameInts.calls 5 A4 c4 [0] A5 c5 [0] true _ (Kd.C_below HC4.out HB5.out) HLE4.out HC5.out HLE5.out exI).mono ?_; rintro e w6 ⟨rfl, ⟨nd, rfl⟩⟩; have HX6 := Lib.hid (HX5.out.below (pw_below_drewN (Below.refl w5.heap.size w5) nd))))
    | (go_at_call 23; go_must (refine (ilen_u HX6.out).mono ?_; rintro e w7 ⟨rfl, rfl⟩)))
  go_ret
  have b2 := HB1.out.trans (HB2.out.mono HB1.out.size)
  have b3 := b2.trans HB3.out
  have b4 := b3.trans (HB4.out.mono b3.size)
  have b5 := b4.trans (HB5.out.mono b4.size)
  exact ⟨rfl, pw_below_drewN b5 _⟩
end Go.Proofs.Ytlkhdbfhnpbbhaa
namespace Go.Proofs.Ytlkhdbfhnpbbhaa
set_option linter.unusedVariables false
set_option linter.unusedSimpArgs false
open Go.RowKit Go.Maps Go.Proofs.YtlkhdbfhnpbbhaaW.PrintWords Go.Proofs.YtlkhdbfhnpbbhaaW.PrintLast Go.Proofs.YtlkhdbfhnpbbhaaW.PrintMore Go.Proofs.Ytlkhdbfhnpbbhaa.Ix Go.Proofs.Ytlkhdbfhnpbbhaa.Tx Go.Proofs.Ytlkhdbfhnpbbhaa.Pure
/-- Both Finds tell the same of a set that may be. -/
theorem pos_eq {S : List (List LB)} {l : List LB} (hS : ∀ s ∈ S, chk s = true) (hl : chk l = true) : ((posOf S l : Nat) : Int) - 1 = rpos S l ∧ decide (posOf S l ≠ 0) = rhas S l := by
  have h := numOf_rat hS hl
  unfold posOf rpos rhas
  rw [if_pos hl]
  cases hr : rat S l with
  | none => rw [hr] at h; rw [h]; exact ⟨rfl, rfl⟩
  | some i => rw [hr] at h; rw [h]; exact ⟨by simp, by simp⟩
section
variable {own : Nat → Prop} {w0 w : World} {kb mb gb : Nat} {S T : List (List LB)}
theorem ifind_yes (h : Two own w0 w kb mb gb S T) {A : Option Addr} {c : Nat} {l : List LB} (hC : Kd.C k41 w A l.length l) (hc : l.length ≤ c) (hk : chk l = true) :
    Calls Try.prog 11 #[.pointer (some ⟨kb, 0, none⟩), .slice A l.length c] w fun e w' => e = .returned (.tuple #[.int .i64 (rpos S l), .bool (rhas S l)]) ∧ Below w.heap.size w w' := by
  have e := pos_eq h.ix.good hk
  refine (ifind_u h.ix hC hc).mono ?_
  rw [e.1, e.2]
  exact fun _ _ h => h
theorem ifind_no (h : Two own w0 w kb mb gb S T) {A : Option Addr} {c : Nat} {l : List LB} (hC : Kd.C k41 w A l.length l) (hc : l.length ≤ c) (hk : chk l = false) :
    Calls Try.prog 11 #[.pointer (some ⟨kb, 0, none⟩), .slice A l.length c] w fun e w' => e = .returned (.tuple #[.int .i64 (-1), .bool false]) ∧ Below w.heap.size w w' := by
  have e : posOf S l = 0 := by unfold posOf; rw [hk]; rfl
  refine (ifind_u h.ix hC hc).mono ?_
  rw [e]
  exact fun _ _ h => h
theorem ipost_any (h : Two own w0 w kb mb gb S T) (hS : S.length ≤ 60) (name value : ByteArray) :
    Calls Try.prog 18 #[.pointer (some ⟨kb, 0, none⟩), .string name, .string value] w fun e w' => ∃ A c, e = .returned (.slice A (sel (hasVal name value) S S.length).length c) ∧
      Kd.R (Kd.int .i64) 3 w' w.heap.size (fun _ => True) (.slice A (sel (hasVal name value) S S.length).length c) (sel (hasVal name value) S S.length) ∧ Below w.heap.size w w' := by
  refine (ipost_u h.ix (by omega) name value (k := 100) (sel_rises_eq _ S _ _ (by omega) (by omega))).mono ?_
  rintro e w' ⟨v, rfl, hr, hb⟩
  have hr := ints_R hr
  obtain ⟨A, c, rfl⟩ := Kd.R_slice hr
  exact ⟨A, c, rfl, hr, hb⟩
theorem rpost_any (h : Two own w0 w kb mb gb S T) (name value : ByteArray) :
    Calls Try.prog 19 #[.pointer (some ⟨gb, 0, none⟩), .string name, .string value] w fun e w' => ∃ A c, e = .returned (.slice A (sel (hasVal name value) T T.length).length c) ∧
      Kd.R (Kd.int .i64) 3 w' w.heap.size (fun _ => True) (.slice A (sel (hasVal name value) T T.length).length c) (sel (hasVal name value) T T.length) ∧ Below w.heap.size w w' := by
  refine (rpost_u h.xr name value).mono ?_
  rintro e w' ⟨v, rfl, hr, hb⟩
  obtain ⟨A, c, rfl⟩ := Kd.R_slice hr
  exact ⟨A, c, rfl, hr, hb⟩
end
theorem sameI_any {w : World} {A B : Option Addr} {c d : Nat} {l m : List Int} (hC : Kd.C (Kd.int .i64) w A l.length l) (hc : l.length ≤ c) (hD : Kd.C (Kd.int .i64) w B m.length m) (hd : m.length ≤ d) (hl : l.length ≤ 140737488351232) :
    Calls Try.prog 17 #[.slice A l.length c, .slice B m.length d] w fun e w' => e = .returned (.bool (decide (l = m))) ∧ ∃ n, w' = w.drewN n :=
  (varvelaw00_SameInts.calls (l.length + 1) A c l B d m _ w hC hc hD hd (sameI_eq l m hl _ (by omega))).mono (by rintro e w' ⟨rfl, ⟨n, rfl⟩⟩; exact ⟨rfl, n, rfl⟩)
/-- The document's row of sets, as the law reads it. -/
theorem Two.row {own : Nat → Prop} {w0 w : World} {kb mb gb : Nat} {S T : List (List LB)} (h : Two own w0 w kb mb gb S T) :
    ∃ A c, w.cell? ⟨gb, 0, none⟩ = some (.slice A T.length c) ∧ T.length ≤ c ∧ (Kd.slice 41 k41).C w A T.length T := by
  obtain ⟨v, hv, hr⟩ := h.xr.cells
  obtain ⟨A, c, rfl, hc, hC⟩ := Kd.R_reads hr
  exact ⟨A, c, blk_cell hv 0, hc, hC⟩
theorem Two.fine {own : Nat → Prop} {w0 w : World} {kb mb gb : Nat} {S T : List (List LB)} (h : Two own w0 w kb mb gb S T) {i : Nat} (hi : i < T.length) : chk (T.getD i []) = true ∧ (T.getD i []).length ≤ 8 ∧ 1 ≤ (T.getD i []).length := by
  have hm : T.getD i [] ∈ T := by rw [List.getD_eq_getElem?_getD, List.getElem?_eq_getElem hi]; exact List.getElem_mem _
  have hk := h.xr.good _ hm
  exact ⟨hk, (chk_fine hk).2.1, (chk_fine hk).2.2⟩
end Go.Proofs.Ytlkhdbfhnpbbhaa
